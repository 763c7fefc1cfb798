/- What the law reaches, as plain Lean functions, and that the machine's calls answer just that. -/
import Derived.Test.YtkapmlijeilieaaPTallySubsx0
import Derived.Test.YtkapmlijeilieaaPTallySubsx2
import Derived.Test.YtkapmlijeilieaaPTallySubsx3
import Derived.Test.YtkapmlijeilieaaPTallySubsx4
namespace Go.Proofs.Ytkapmlijeilieaa.PTallySubs
open Go.RowKit Go.Proofs.YtkapmlijeilieaaW.PrintWords Go.Proofs.YtkapmlijeilieaaW.PrintLast Go.Proofs.YtkapmlijeilieaaW.PrintMore
attribute [local go_sem] max2_int min2_int max_two min_two max_three min_three max_four min_four
set_option linter.unusedVariables false
set_option linter.unusedSimpArgs false
attribute [local go_sem] wrap64_l1 wrap64_l2 wrap64_l3 wrap64_l4 wrap64_l5
mutual
def tally_Sub.l0 : Nat → List (S46) → List (S43) → Int → Int → Option ((List (S46)) × Int)
 | 0, _, _, _, _ => none
 | k + 1, x6, x17, x18, x19 => if x19 < x18 then (if 0 ≤ x19 then (if x19 < (x17.length : Int) then (if ((rd_T43 x17 x19).f2) = 0 then (tally_Sub.l0 k x6 x17 x18 (wrap64 (x19 + 1))) else ((tally_find.f k x6 ((rd_T43 x17 x19).f0)).bind fun bt178 => (if bt178.2 = true then (if 0 ≤ bt178.1 then (if bt178.1 < (x6.length : Int) then (tally_Sub.j1 k x6 bt178.1 x17 x18 x19 (decide (((rd_T46 x6 bt178.1).f1) < ((rd_T43 x17 x19).f2))) ((rd_T43 x17 x19).f0) ((rd_T43 x17 x19).f1) ((rd_T43 x17 x19).f2) ((rd_T43 x17 x19).f3)) else (none)) else (none)) else (tally_Sub.j1 k x6 bt178.1 x17 x18 x19 true ((rd_T43 x17 x19).f0) ((rd_T43 x17 x19).f1) ((rd_T43 x17 x19).f2) ((rd_T43 x17 x19).f3))))) else (none)) else (none)) else (some (x6, 0))
def tally_Sub.j1 : Nat → List (S46) → Int → List (S43) → Int → Int → Bool → Int → Int → Int → Int → Option ((List (S46)) × Int)
 | 0, _, _, _, _, _, _, _, _, _, _ => none
 | k + 1, x6, x9, x17, x18, x19, x43, x178000, x178001, x178002, x178003 => if x43 = true then (some (([] : List (S46)), 3)) else (if 0 ≤ x9 then (if x9 < (x6.length : Int) then (if ((rd_T46 x6 x9).f1) = x178002 then ((slices_Delete_api_Share.f x6 x9 (wrap64 (x9 + 1))).bind fun t182 => (tally_Sub.l0 k t182 x17 x18 (wrap64 (x19 + 1)))) else (tally_Sub.l0 k (x6.set (x9 : Int).toNat (⟨(rd_T46 x6 x9).f0, wrap64 (((rd_T46 x6 x9).f1) - x178002)⟩ : S46)) x17 x18 (wrap64 (x19 + 1)))) else (none)) else (none))
end
def tally_Sub.f (k : Nat) (l0 : List (S46)) (l1 : List (S43)) : Option ((List (S46)) × Int) := (tally_may.f k l0 l1).bind fun t172 => (if t172 = true then ((slices_Clone_api_Share.f l0).bind fun t173 => (tally_Sub.l0 k t173 l1 (l1.length : Int) 0)) else (some (([] : List (S46)), 1)))
theorem tally_Sub.mono_l : ∀ k, (∀ y0 y1 y2 y3, LeO (tally_Sub.l0 k y0 y1 y2 y3) (tally_Sub.l0 (k + 1) y0 y1 y2 y3)) ∧ (∀ y0 y1 y2 y3 y4 y5 y6 y7 y8 y9, LeO (tally_Sub.j1 k y0 y1 y2 y3 y4 y5 y6 y7 y8 y9) (tally_Sub.j1 (k + 1) y0 y1 y2 y3 y4 y5 y6 y7 y8 y9))
 | 0 => ⟨fun _ _ _ _ r h => by simp [tally_Sub.l0] at h, fun _ _ _ _ _ _ _ _ _ _ r h => by simp [tally_Sub.j1] at h⟩
 | k + 1 => by
  obtain ⟨ih0, ih1⟩ := tally_Sub.mono_l k
  refine ⟨?_, ?_⟩
  ·intro y0 y1 y2 y3
   unfold tally_Sub.l0
   repeat' first
   | (with_reducible exact ih0 _ _ _ _)
   | (with_reducible exact ih1 _ _ _ _ _ _ _ _ _ _)
   | (with_reducible exact tally_find.mono _ _ _)
   | (with_reducible exact tally_may.mono _ _ _)
   | (with_reducible exact LeO.refl _)
   | (with_reducible exact LeO.none _)
   | (with_reducible refine LeO.ite ?_ ?_)
   | (with_reducible refine LeO.bind ?_ (fun _ => ?_))
   | exact ih0 _ _ _ _
   | exact ih1 _ _ _ _ _ _ _ _ _ _
   | exact tally_find.mono _ _ _
   | exact tally_may.mono _ _ _
   | exact LeO.none _
   | refine LeO.ite ?_ ?_
   | refine LeO.bind ?_ (fun _ => ?_)
  ·intro y0 y1 y2 y3 y4 y5 y6 y7 y8 y9
   unfold tally_Sub.j1
   repeat' first
   | (with_reducible exact ih0 _ _ _ _)
   | (with_reducible exact ih1 _ _ _ _ _ _ _ _ _ _)
   | (with_reducible exact tally_find.mono _ _ _)
   | (with_reducible exact tally_may.mono _ _ _)
   | (with_reducible exact LeO.refl _)
   | (with_reducible exact LeO.none _)
   | (with_reducible refine LeO.ite ?_ ?_)
   | (with_reducible refine LeO.bind ?_ (fun _ => ?_))
   | exact ih0 _ _ _ _
   | exact ih1 _ _ _ _ _ _ _ _ _ _
   | exact tally_find.mono _ _ _
   | exact tally_may.mono _ _ _
   | exact LeO.none _
   | refine LeO.ite ?_ ?_
   | refine LeO.bind ?_ (fun _ => ?_)
theorem tally_Sub.mono : ∀ a0 a1 k, LeO (tally_Sub.f k a0 a1) (tally_Sub.f (k + 1) a0 a1) := by
 intro a0 a1 k
 obtain ⟨ih0, ih1⟩ := tally_Sub.mono_l k
 unfold tally_Sub.f
 repeat' first
   | (with_reducible exact ih0 _ _ _ _)
   | (with_reducible exact ih1 _ _ _ _ _ _ _ _ _ _)
   | (with_reducible exact tally_find.mono _ _ _)
   | (with_reducible exact tally_may.mono _ _ _)
   | (with_reducible exact LeO.refl _)
   | (with_reducible exact LeO.none _)
   | (with_reducible refine LeO.ite ?_ ?_)
   | (with_reducible refine LeO.bind ?_ (fun _ => ?_))
   | exact ih0 _ _ _ _
   | exact ih1 _ _ _ _ _ _ _ _ _ _
   | exact tally_find.mono _ _ _
   | exact tally_may.mono _ _ _
   | exact LeO.none _
   | refine LeO.ite ?_ ?_
   | refine LeO.bind ?_ (fun _ => ?_)
def tally_Sub.T9 : Bool × List (List Nat × List Nat) := (true, [([], []), ([], []), ([0, 1], [0, 1]), ([2], [2]), ([3], [3]), ([], []), ([5], [5]), ([4, 6], [4, 6]), ([0, 1, 0, 1, 2, 3, 4, 5, 6, 7], [0, 1]), ([8, 0, 1, 2, 3, 4, 5, 6, 7], [8]), ([9, 7, 0, 1, 2, 3, 4, 5, 6, 7], [7, 9])])
def tally_Sub.B9 : List Nat := [0, 0, 3, 7, 15, 0, 32, 127, 255, 511, 1023]
theorem tally_Sub.tab9 : rtab .any (opsOf Try.f19 9) = tally_Sub.T9 := by kernel_rfl
theorem tally_Sub.bits9 : waitsOk tally_Sub.T9.2 tally_Sub.B9 = true := by kernel_rfl
def tally_Sub.T10 : Bool × List (List Nat × List Nat) := (true, [([], []), ([0], [0]), ([1], [1]), ([2], [2]), ([2], [2]), ([3, 4, 2], [2, 3, 4]), ([5, 2], [2, 5]), ([6, 2], [2, 6]), ([2], [2]), ([8, 2], [2, 8]), ([7, 9, 2], [2, 7, 9]), ([2, 10], [2, 10]), ([11, 2], [11])])
def tally_Sub.B10 : List Nat := [0, 1, 3, 7, 7, 31, 63, 127, 7, 263, 1023, 2047, 4095]
theorem tally_Sub.tab10 : rtab .any (opsOf Try.f19 10) = tally_Sub.T10 := by kernel_rfl
theorem tally_Sub.bits10 : waitsOk tally_Sub.T10.2 tally_Sub.B10 = true := by kernel_rfl
def tally_Sub.T12 : Bool × List (List Nat × List Nat) := (true, [([], []), ([], []), ([0, 1], [0, 1]), ([2], [2]), ([3], [3]), ([], []), ([5], [5]), ([4, 6], [4, 6]), ([7], [7])])
def tally_Sub.B12 : List Nat := [0, 0, 3, 7, 15, 0, 32, 127, 255]
theorem tally_Sub.tab12 : rtab .any (opsOf Try.f19 12) = tally_Sub.T12 := by kernel_rfl
theorem tally_Sub.bits12 : waitsOk tally_Sub.T12.2 tally_Sub.B12 = true := by kernel_rfl
set_option maxHeartbeats 8000000 in
set_option maxRecDepth 100000 in
theorem tally_Sub.calls (k : Nat) (A0 : Option Addr) (c0 : Nat) (l0 : List (S46)) (A1 : Option Addr) (c1 : Nat) (l1 : List (S43)) (r1 : List (S46)) (r2 : Int) (w : World) (hr0 : Kd.C k46 w A0 l0.length l0) (hc0 : l0.length ≤ c0) (hr1 : Kd.C k43 w A1 l1.length l1) (hc1 : l1.length ≤ c1) (h : tally_Sub.f k l0 l1 = some (r1, r2)) :
  Calls Try.prog 19 #[.slice A0 l0.length c0, .slice A1 l1.length c1] w fun e w' => ∃ v0_ : Value, e = .returned (.tuple #[v0_, .int .i64 r2]) ∧ Kd.R k46 46 w' w.heap.size (fun _ => True) v0_ r1 ∧ Below w.heap.size w w' := by
 have hu43 := Try.underlying43
 have HR0 := Am hr0
 have HC0 := Am hc0
 clear hr0 hc0
 have HR1 := Am hr1
 have HC1 := Am hc1
 clear hr1 hc1
 have HB := Am (Below.refl w.heap.size w)
 have H : ((tally_may.f k l0 l1).bind fun t172 => (if t172 = true then ((slices_Clone_api_Share.f l0).bind fun t173 => (tally_Sub.l0 k t173 l1 (l1.length : Int) 0)) else (some (([] : List (S46)), 1)))) = some (r1, r2) := h
 clear h
 replace H := Option.bind_eq_some_iff.mp H
 obtain ⟨t172, A30, H⟩ := H
 replace H : (if t172 = true then ((slices_Clone_api_Share.f l0).bind fun t173 => (tally_Sub.l0 k t173 l1 (l1.length : Int) 0)) else (some (([] : List (S46)), 1))) = some (r1, r2) := H
 have A3 := Am A30
 clear A30
 by_cases c4 : t172 = true
 rotate_left
 ·replace c4 := Bool.eq_false_iff.mpr c4
  subst c4
  have H1 : (some (([] : List (S46)), 1)) = some (r1, r2) := by rw [if_neg (show ¬ (false = true) by decide)] at H; exact H
  clear H
  have H := H1
  clear H1
  simp only [Option.some.injEq, Prod.mk.injEq] at H
  obtain ⟨rfl, rfl⟩ := H
  go_enter Try.func19, Try.ntmps19
  go_wp2_with (first | ((with_reducible refine gate_callee (f := 21) rfl ?_); refine goesL_ (some 13) rfl rfl Try.func21 (by kernel_rfl) rfl #[.slice A0 l0.length c0, .slice A1 l1.length c1] rfl pL ?_; (with_reducible refine (tally_may.calls k _ _ l0 _ _ l1 false _ ?Ah ?Ai ?Aw ?Ax A3.out).mono ?_); (case Ah => repeat (first | exact HR0.out | (with_reducible refine Kd.C_alloc ?_ _) | (with_reducible refine Kd.C_drewN ?_ _) | (with_reducible refine Kd.C_drew ?_))); (case Ai => exact HC0.out); (case Aw => repeat (first | exact HR1.out | (with_reducible refine Kd.C_alloc ?_ _) | (with_reducible refine Kd.C_drewN ?_ _) | (with_reducible refine Kd.C_drew ?_))); (case Ax => exact HC1.out); rintro e w36 ⟨rfl, hb⟩; refine ⟨_, rfl, ?_⟩; replace HB := Am (below_step (pB HB.out) hb); (try clear hb); (try clear hb2); (try clear hk); (try clear hi)))
  go_ret2
  exact ⟨_, pX, by first | exact Kd.R_nil _ _ _ _ _ | exact Kd.N_nil _ _ _ _ _ | exact Kd.V_nil _ _ _ _ _ | exact Kd.Q_nil _ _ _ _ _ | exact Kd.S_nil _ _ _ _ _, pB HB.out⟩
 subst c4
 have H1 : ((slices_Clone_api_Share.f l0).bind fun t173 => (tally_Sub.l0 k t173 l1 (l1.length : Int) 0)) = some (r1, r2) := by rw [if_pos rfl] at H; exact H
 clear H
 have H := H1
 clear H1
 replace H := Option.bind_eq_some_iff.mp H
 obtain ⟨t173, A50, H⟩ := H
 replace H : (tally_Sub.l0 k t173 l1 (l1.length : Int) 0) = some (r1, r2) := H
 have A5 := Am A50
 clear A50
 have H' := Am H
 clear H
 go_enter Try.func19, Try.ntmps19
 go_wp2_with (first | ((with_reducible refine gate_callee (f := 21) rfl ?_); refine goesL_ (some 13) rfl rfl Try.func21 (by kernel_rfl) rfl #[.slice A0 l0.length c0, .slice A1 l1.length c1] rfl pL ?_; (with_reducible refine (tally_may.calls k _ _ l0 _ _ l1 true _ ?Ah ?Ai ?Aw ?Ax A3.out).mono ?_); (case Ah => repeat (first | exact HR0.out | (with_reducible refine Kd.C_alloc ?_ _) | (with_reducible refine Kd.C_drewN ?_ _) | (with_reducible refine Kd.C_drew ?_))); (case Ai => exact HC0.out); (case Aw => repeat (first | exact HR1.out | (with_reducible refine Kd.C_alloc ?_ _) | (with_reducible refine Kd.C_drewN ?_ _) | (with_reducible refine Kd.C_drew ?_))); (case Ax => exact HC1.out); rintro e w6 ⟨rfl, hb⟩; refine ⟨_, rfl, ?_⟩; replace HB := Am (below_step (pB HB.out) hb); (try clear hb); (try clear hb2); (try clear hk); (try clear hi)) | ((with_reducible refine gate_callee (f := 22) rfl ?_); refine goesL_ (some 16) rfl rfl Try.func22 (by kernel_rfl) rfl #[.slice A0 l0.length c0] rfl pL ?_; (with_reducible refine (slices_Clone_api_Share.calls _ _ l0 t173 _ ?Ah ?Ai A5.out).mono ?_); (case Ah => exact pC (Kd.C_below HR0.out HB.out)); (case Ai => exact HC0.out); rintro e w7 ⟨v174, rfl, ho0, hb⟩; refine ⟨_, rfl, ?_⟩; have Bp := Am (Kd.R_lower ho0 (below_size (pB HB.out))); replace HB := Am (below_step (pB HB.out) hb); (try clear hb); (try clear hb2); (try clear hk); (try clear hi); (try clear ho0)))
 go_loopg [6, 19] k (fun kq v6 v19 w' => ∃ (Ac : List (S46)) (Aa : Int), v19 = .int .i64 Aa ∧ Aside0 (tally_Sub.l0 kq Ac l1 (l1.length : Int) Aa = some (r1, r2)) ∧ Aside0 (kq ≤ k) ∧ Aside0 (Kd.R k46 46 w' w.heap.size (fun _ => True) v6 Ac) ∧ Aside0 (Below w.heap.size w w'))
 case atStart => exact ⟨(t173), (0), (by first | rfl | (simp; done) | (simp [*]; done)), H', ⟨Nat.le_refl _⟩, ⟨by (with_reducible repeat (first | apply Kd.R_alloc | apply Kd.R_drewN | apply Kd.R_drew)); exact Bp.out⟩, ⟨pB HB.out⟩⟩
 case round =>
  clear H'
  try clear c1
  try clear c2
  try clear p2
  try clear c4
  obtain ⟨Ac, Aa, rfl, HA, HK1, Ad, HB⟩ := hrel
  cases gk with
  | zero => exact absurd HA.out (by simp [tally_Sub.l0])
  | succ k1 =>
   have H := HA.out
   clear HA
   simp only [tally_Sub.l0] at H
   by_cases c8 : Aa < (l1.length : Int)
   rotate_left
   ·rw [if_neg c8] at H
    have c8b0 : decide (Aa < (l1.length : Int)) = false := decide_eq_false c8
    clear c8
    simp only [Option.some.injEq, Prod.mk.injEq] at H
    obtain ⟨rfl, rfl⟩ := H
    go_wp2
    go_ret2
    exact ⟨_, pX, by (with_reducible repeat (first | apply Kd.R_alloc | apply Kd.R_drewN | apply Kd.R_drew)); exact Ad.out, pB HB.out⟩
   rw [if_pos c8] at H
   have c8b0 : decide (Aa < (l1.length : Int)) = true := decide_eq_true c8
   clear c8
   by_cases c9 : 0 ≤ Aa
   rotate_left
   ·rw [if_neg c9] at H
    exact absurd H (by simp)
   rw [if_pos c9] at H
   have c9b0 : decide (0 ≤ Aa) = true := decide_eq_true c9
   clear c9
   by_cases c10 : Aa < (l1.length : Int)
   rotate_left
   ·rw [if_neg c10] at H
    exact absurd H (by simp)
   rw [if_pos c10] at H
   have c10b0 : decide (Aa < (l1.length : Int)) = true := decide_eq_true c10
   clear c10
   by_cases c11 : ((rd_T43 l1 Aa).f2) = 0
   ·rw [if_pos c11] at H
    have c11b0 : (((rd_T43 l1 Aa).f2) == 0) = true := beq_iff_eq.mpr c11
    have c11b1 : (((rd_T43 l1 Aa).f2) != 0) = false := bne_eq_false_iff_eq.mpr c11
    clear c11
    have H' := Am H
    clear H
    have p176 : 0 ≤ (Aa : Int) := of_decide_eq_true pS
    have q176 : Aa < (l1.length : Int) := of_decide_eq_true pS
    obtain ⟨Bq, e176, Ar, As, At, Au⟩ := at_T43u HR1.out Aa p176 q176 HB.out
    cases e176
    replace p176 := eq_true p176
    replace q176 := eq_true q176
    go_wp2_with (first | ((with_reducible refine gate_dst (N := 8) rfl ?_); refine box_event ?hg (N := 8) ?hd (cs := #[.int .i64 0, .int .i64 0, .int .i64 0, .int .u32 0]) (t := 43) ?hr ?_; (case hd => rfl); (case hg => rfl); (case hr => first | (go_simp; done) | (go_simp; rfl)); intro Ae hg w12 hbox hb; replace Ad := bRa Ad hb; have Ab := Am (hbox); have Ay := Am ((by rw [hg]; exact (below_size (pB HB.out)) : w.heap.size ≤ Ae)); replace HB := Am (below_step (pB HB.out) hb); have Aj := Ay; clear hb hbox hg; obtain ⟨A4, A6, A7, A8⟩ := bc4 Ab.out; obtain ⟨A9, Ba, Bb, Bc⟩ := bf4 Ab.out))
    go_roundg k1
    case measure => have := HK1.out; omega
    case rel => exact ⟨(Ac), (wrap64 (Aa + 1)), (by first | rfl | (simp; done) | (simp [*]; done)), H', ⟨by have := HK1.out; omega⟩, ⟨by (with_reducible repeat (first | apply Kd.R_alloc | apply Kd.R_drewN | apply Kd.R_drew)); exact Kd.R_mono (Rf4 (g := Ae) (Kd.R_types Ad.out Ab.out (by decide)) (fun _ hk => hk.2)) (fun _ hk => trivial)⟩, ⟨pE HB.out Aj.out⟩⟩
   rw [if_neg c11] at H
   have c11b0 : (((rd_T43 l1 Aa).f2) == 0) = false := beq_eq_false_iff_ne.mpr c11
   have c11b1 : (((rd_T43 l1 Aa).f2) != 0) = true := bne_iff_ne.mpr c11
   replace H := Option.bind_eq_some_iff.mp H
   obtain ⟨⟨t178, t179⟩, A140, H⟩ := H
   replace H : (if t179 = true then (if 0 ≤ t178 then (if t178 < (Ac.length : Int) then (tally_Sub.j1 k1 Ac t178 l1 (l1.length : Int) Aa (decide (((rd_T46 Ac t178).f1) < ((rd_T43 l1 Aa).f2))) ((rd_T43 l1 Aa).f0) ((rd_T43 l1 Aa).f1) ((rd_T43 l1 Aa).f2) ((rd_T43 l1 Aa).f3)) else (none)) else (none)) else (tally_Sub.j1 k1 Ac t178 l1 (l1.length : Int) Aa true ((rd_T43 l1 Aa).f0) ((rd_T43 l1 Aa).f1) ((rd_T43 l1 Aa).f2) ((rd_T43 l1 Aa).f3))) = some (r1, r2) := H
   have A14 := Am A140
   clear A140
   have HC15 := Am H
   clear H
   have p176 : 0 ≤ (Aa : Int) := of_decide_eq_true pS
   have q176 : Aa < (l1.length : Int) := of_decide_eq_true pS
   obtain ⟨Bq, e176, Ar, As, At, Au⟩ := at_T43u HR1.out Aa p176 q176 HB.out
   cases e176
   replace p176 := eq_true p176
   replace q176 := eq_true q176
   go_upto_region 10 with (first | ((with_reducible refine gate_dst (N := 8) rfl ?_); refine box_event ?hg (N := 8) ?hd (cs := #[.int .i64 0, .int .i64 0, .int .i64 0, .int .u32 0]) (t := 43) ?hr ?_; (case hd => rfl); (case hg => rfl); (case hr => first | (go_simp; done) | (go_simp; rfl)); intro Ae hg w16 hbox hb; replace Ad := bRa Ad hb; have Ab := Am (hbox); have Ay := Am ((by rw [hg]; exact (below_size (pB HB.out)) : w.heap.size ≤ Ae)); replace HB := Am (below_step (pB HB.out) hb); have Aj := Ay; clear hb hbox hg; obtain ⟨Bd, Be, Bf, Bg⟩ := bc4 Ab.out; obtain ⟨Bh, Bi, Bj, Bk⟩ := bf4 Ab.out; obtain ⟨Bm, Av, Bt⟩ := Kd.R_slice Ad.out; subst Bt) | ((with_reducible refine gate_callee (f := 26) rfl ?_); refine goesL_ (some 30) rfl rfl Try.func26 (by kernel_rfl) rfl #[.slice Bm Ac.length Av, .int .i64 ((rd_T43 l1 Aa).f0)] rfl pL ?_; (with_reducible refine (tally_find.calls k1 _ _ Ac ((rd_T43 l1 Aa).f0) t178 t179 _ ?Ah ?Ai A14.out).mono ?_); (case Ah => refine (Kd.R_reads' (e := 46) (base := w.heap.size) (ok := fun k_ => True) (n := Ac.length) (c := Av) ?_).2.2; exact (by (with_reducible repeat (first | apply Kd.R_alloc | apply Kd.R_drewN | apply Kd.R_drew)); exact (Kd.R_mono (Rf4 (g := Ae) (Kd.R_types Ad.out Ab.out (by decide)) (fun _ hk => hk.2)) (fun _ h_ => h_.1)))); (case Ai => exact (Kd.R_reads' Ad.out).2.1); rintro e w19 ⟨rfl, hb⟩; refine ⟨_, rfl, ?_⟩; replace Ad := Am (Kd.R_below (by (with_reducible repeat (first | apply Kd.R_alloc | apply Kd.R_drewN | apply Kd.R_drew)); exact (Kd.R_mono (Rf4 (g := Ae) (Kd.R_types Ad.out Ab.out (by decide)) (fun _ hk => hk.2)) (fun _ h_ => h_.1))) hb); replace Ab := Am (blk_below (g := Ae) (kX0 Ab.out) hb); replace HB := Am (below_step (pE HB.out Aj.out) hb); (try clear hb); (try clear hb2); (try clear hk); (try clear hi)))
   (try simp only [Act.put, List.setIfInBounds_toArray, List.set_cons_zero, List.set_cons_succ])
   go_cut [43] (fun v43 wc => ∃ (kq : Nat) (Aq : Bool), v43 = .bool Aq ∧ Aside0 (tally_Sub.j1 kq Ac t178 l1 (l1.length : Int) Aa Aq ((rd_T43 l1 Aa).f0) ((rd_T43 l1 Aa).f1) ((rd_T43 l1 Aa).f2) ((rd_T43 l1 Aa).f3) = some (r1, r2)) ∧ Aside0 (kq ≤ k1) ∧ Aside0 (Kd.R k46 46 wc w.heap.size (fun _ => True) (.slice Bm Ac.length Av) Ac) ∧ Aside0 (wc.heap[Ae]? = some (.cells #[.int .i64 ((rd_T43 l1 Aa).f0), .int .i64 ((rd_T43 l1 Aa).f1), .int .i64 ((rd_T43 l1 Aa).f2), .int .u32 ((rd_T43 l1 Aa).f3)] 43 (0, 0))) ∧ Aside0 (Below w.heap.size w wc))
   case first =>
    have H := HC15.out
    clear HC15
    by_cases c20 : t179 = true
    rotate_left
    ·replace c20 := Bool.eq_false_iff.mpr c20
     subst c20
     have H1 : (tally_Sub.j1 k1 Ac t178 l1 (l1.length : Int) Aa true ((rd_T43 l1 Aa).f0) ((rd_T43 l1 Aa).f1) ((rd_T43 l1 Aa).f2) ((rd_T43 l1 Aa).f3)) = some (r1, r2) := by rw [if_neg (show ¬ (false = true) by decide)] at H; exact H
     clear H
     have H := H1
     clear H1
     have H' := Am H
     clear H
     try go_wp2
     replace Ad := dRa Ad
     replace Ab := kDa Ab
     replace HB := bDa HB
     refine start_ (n := 13) (S := fun w' => True) (ds := []) #[false, false, false, false, false, false, false, false, false, false, false, false, false] (by kernel_rfl) rfl rfl trivial (fun hHeld => ?_); refine with_tabW tally_Sub.tab10 tally_Sub.bits10 (fun HT_ HW_ => ?_)
     (first | generalize w19.drew = w24 at Ad Ab HB hHeld ⊢ | generalize w19.drew = w24 at Ab HB hHeld ⊢)
     refine pui 0 44 13 1 HT_ ?_
     refine pui 1 45 13 3 HT_ ?_
     refine pui 2 46 13 7 HT_ ?_
     refine pdi 3 47 13 15 HT_ ?_
     refine pdi 4 48 13 31 HT_ ?_
     refine pdi 5 49 13 63 HT_ ?_
     refine pdi 6 50 13 127 HT_ ?_
     refine pdi 7 51 13 255 HT_ ?_
     refine pdi 8 52 13 511 HT_ ?_
     refine pdi 9 53 13 1023 HT_ ?_
     refine pdi 10 54 13 2047 HT_ ?_
     refine pui 11 55 13 4095 HT_ ?_
     refine pui 12 43 13 8191 HT_ ?_
     refine done_ (done_of HT_.out (by kernel_rfl)) ?_
     try go_wp2
     go_meet
     case rel => exact ⟨_, (true), (by first | rfl | (simp; done) | (simp [*]; done)), H', ⟨by have := HK1.out; first | omega | exact Nat.le_refl _⟩, ⟨by (with_reducible repeat (first | apply Kd.R_alloc | apply Kd.R_drewN | apply Kd.R_drew)); exact Ad.out⟩, ⟨pK Ab.out⟩, ⟨pE HB.out Aj.out⟩⟩
    subst c20
    have H1 : (if 0 ≤ t178 then (if t178 < (Ac.length : Int) then (tally_Sub.j1 k1 Ac t178 l1 (l1.length : Int) Aa (decide (((rd_T46 Ac t178).f1) < ((rd_T43 l1 Aa).f2))) ((rd_T43 l1 Aa).f0) ((rd_T43 l1 Aa).f1) ((rd_T43 l1 Aa).f2) ((rd_T43 l1 Aa).f3)) else (none)) else (none)) = some (r1, r2) := by rw [if_pos rfl] at H; exact H
    clear H
    have H := H1
    clear H1
    by_cases c21 : 0 ≤ t178
    rotate_left
    ·rw [if_neg c21] at H
     exact absurd H (by simp)
    rw [if_pos c21] at H
    have c21b0 : decide (0 ≤ t178) = true := decide_eq_true c21
    clear c21
    (first | rw [c21b0] | (simp only [i64_w, i32_w]; rw [c21b0]) | skip)
    by_cases c22 : t178 < (Ac.length : Int)
    rotate_left
    ·rw [if_neg c22] at H
     exact absurd H (by simp)
    rw [if_pos c22] at H
    have c22b0 : decide (t178 < (Ac.length : Int)) = true := decide_eq_true c22
    clear c22
    have H' := Am H
    clear H
    try go_wp2
    replace Ad := dRa Ad
    replace Ab := kDa Ab
    replace HB := bDa HB
    have p180 : 0 ≤ (t178 : Int) := of_decide_eq_true pS
    have q180 : t178 < (Ac.length : Int) := of_decide_eq_true pS
    obtain ⟨Bl, e180, Al, An⟩ := at_T46 (Kd.R_reads' Ad.out).2.2 t178 p180 q180
    cases e180
    replace p180 := eq_true p180
    replace q180 := eq_true q180
    refine start_ (n := 13) (S := fun w' => cG w' Ae 0 (.int .i64 ((rd_T43 l1 Aa).f0)) ∧ cG w' Ae 1 (.int .i64 ((rd_T43 l1 Aa).f1)) ∧ cG w' Ae 2 (.int .i64 ((rd_T43 l1 Aa).f2)) ∧ cG w' Ae 3 (.int .u32 ((rd_T43 l1 Aa).f3)) ∧ w'.cell? (Bl.add ((t178).toNat * 2)) = some (.int .i64 ((rd_T46 Ac t178).f0)) ∧ cA w' (Bl.add ((t178).toNat * 2)) 1 (.int .i64 ((rd_T46 Ac t178).f1))) (ds := []) #[false, false, false, false, false, false, false, false, false, false, false, false, false] (by kernel_rfl) rfl rfl ⟨(blk_cell Ab.out 0).trans rfl, (blk_cell Ab.out 1).trans rfl, (blk_cell Ab.out 2).trans rfl, (blk_cell Ab.out 3).trans rfl, Al, An⟩ (fun hHeld => ?_); refine with_tabW tally_Sub.tab10 tally_Sub.bits10 (fun HT_ HW_ => ?_)
    (first | generalize w19.drew = w23 at Ad Ab HB Al An hHeld ⊢ | generalize w19.drew = w23 at Ab HB Al An hHeld ⊢)
    refine pui 0 44 13 1 HT_ ?_
    refine pui 1 45 13 3 HT_ ?_
    refine pui 2 46 13 7 HT_ ?_
    refine pui 3 47 13 15 HT_ ?_
    refine pui 4 48 13 31 HT_ ?_
    refine pui 5 49 13 63 HT_ ?_
    refine pui 6 50 13 127 HT_ ?_
    refine pui 8 52 13 383 HT_ ?_
    refine tki 7 51 13 511 HT_ HW_ hHeld ?_
    refine tki 9 53 13 1023 HT_ HW_ hHeld ?_
    refine pui 10 54 13 2047 HT_ ?_
    refine pui 11 55 13 4095 HT_ ?_
    refine pui 12 43 13 8191 HT_ ?_
    refine done_ (done_of HT_.out (by kernel_rfl)) ?_
    try go_wp2
    go_meet
    case rel => exact ⟨_, (decide (((rd_T46 Ac t178).f1) < ((rd_T43 l1 Aa).f2))), (by first | rfl | (simp; done) | (simp [*]; done)), H', ⟨by have := HK1.out; first | omega | exact Nat.le_refl _⟩, ⟨by (with_reducible repeat (first | apply Kd.R_alloc | apply Kd.R_drewN | apply Kd.R_drew)); exact Ad.out⟩, ⟨pK Ab.out⟩, ⟨pE HB.out Aj.out⟩⟩
   case rest =>
    clear HC15
    try clear c1
    try clear p1
    try clear q1
    try clear hx1
    try clear c2
    try clear p2
    try clear c4
    try clear p6
    try clear c8
    try clear c8b0
    try clear c9
    try clear c9b0
    try clear c10
    try clear c10b0
    try clear c11
    try clear c11b0
    try clear c11b1
    try clear p17
    try clear q17
    try clear hx17
    try clear p18
    try clear q18
    try clear hx18
    try clear c19
    try clear c20
    try clear c21
    try clear c21b0
    try clear c22
    try clear c22b0
    try clear A4 A6 A7 A8
    try clear Bd Be Bf Bg
    try clear A9 Ba Bb Bc
    try clear Bh Bi Bj Bk
    try clear Ar
    try clear As
    try clear At
    try clear Au
    try clear Al
    try clear An
    try clear p176
    try clear p180
    try clear p2
    try clear q176
    try clear q180
    obtain ⟨kq, Aq, rfl, HA, HJ14, Ad, Ab, HB⟩ := hcut
    cases kq with
    | zero => exact absurd HA.out (by simp [tally_Sub.j1])
    | succ kj14 =>
     have H := HA.out
     clear HA
     simp only [tally_Sub.j1] at H
     by_cases c25 : Aq = true
     ·subst c25
      have H1 : (some (([] : List (S46)), 3)) = some (r1, r2) := by rw [if_pos rfl] at H; exact H
      clear H
      have H := H1
      clear H1
      simp only [Option.some.injEq, Prod.mk.injEq] at H
      obtain ⟨rfl, rfl⟩ := H
      go_wp2
      go_ret2
      exact ⟨_, pX, by first | exact Kd.R_nil _ _ _ _ _ | exact Kd.N_nil _ _ _ _ _ | exact Kd.V_nil _ _ _ _ _ | exact Kd.Q_nil _ _ _ _ _ | exact Kd.S_nil _ _ _ _ _, pE HB.out Aj.out⟩
     replace c25 := Bool.eq_false_iff.mpr c25
     subst c25
     have H1 : (if 0 ≤ t178 then (if t178 < (Ac.length : Int) then (if ((rd_T46 Ac t178).f1) = ((rd_T43 l1 Aa).f2) then ((slices_Delete_api_Share.f Ac t178 (wrap64 (t178 + 1))).bind fun t182 => (tally_Sub.l0 kj14 t182 l1 (l1.length : Int) (wrap64 (Aa + 1)))) else (tally_Sub.l0 kj14 (Ac.set (t178 : Int).toNat (⟨(rd_T46 Ac t178).f0, wrap64 (((rd_T46 Ac t178).f1) - ((rd_T43 l1 Aa).f2))⟩ : S46)) l1 (l1.length : Int) (wrap64 (Aa + 1)))) else (none)) else (none)) = some (r1, r2) := by rw [if_neg (show ¬ (false = true) by decide)] at H; exact H
     clear H
     have H := H1
     clear H1
     by_cases c26 : 0 ≤ t178
     rotate_left
     ·rw [if_neg c26] at H
      exact absurd H (by simp)
     rw [if_pos c26] at H
     have c26b0 : decide (0 ≤ t178) = true := decide_eq_true c26
     clear c26
     by_cases c27 : t178 < (Ac.length : Int)
     rotate_left
     ·rw [if_neg c27] at H
      exact absurd H (by simp)
     rw [if_pos c27] at H
     have c27b0 : decide (t178 < (Ac.length : Int)) = true := decide_eq_true c27
     clear c27
     by_cases c28 : ((rd_T46 Ac t178).f1) = ((rd_T43 l1 Aa).f2)
     ·rw [if_pos c28] at H
      have c28b0 : (((rd_T46 Ac t178).f1) == ((rd_T43 l1 Aa).f2)) = true := beq_iff_eq.mpr c28
      have c28b1 : (((rd_T46 Ac t178).f1) != ((rd_T43 l1 Aa).f2)) = false := bne_eq_false_iff_eq.mpr c28
      clear c28
      replace H := Option.bind_eq_some_iff.mp H
      obtain ⟨t182, A290, H⟩ := H
      replace H : (tally_Sub.l0 kj14 t182 l1 (l1.length : Int) (wrap64 (Aa + 1))) = some (r1, r2) := H
      have A29 := Am A290
      clear A290
      have H' := Am H
      clear H
      try go_wp2
      replace Ad := dRa Ad
      replace Ab := kDa Ab
      replace HB := bDa HB
      have p181 : 0 ≤ (t178 : Int) := of_decide_eq_true pS
      have q181 : t178 < (Ac.length : Int) := of_decide_eq_true pS
      obtain ⟨Ak, e181, Af, Ag⟩ := at_T46 (Kd.R_reads' Ad.out).2.2 t178 p181 q181
      cases e181
      replace p181 := eq_true p181
      replace q181 := eq_true q181
      refine start_ (n := 9) (S := fun w' => cG w' Ae 0 (.int .i64 ((rd_T43 l1 Aa).f0)) ∧ cG w' Ae 1 (.int .i64 ((rd_T43 l1 Aa).f1)) ∧ cG w' Ae 2 (.int .i64 ((rd_T43 l1 Aa).f2)) ∧ cG w' Ae 3 (.int .u32 ((rd_T43 l1 Aa).f3)) ∧ w'.cell? (Ak.add ((t178).toNat * 2)) = some (.int .i64 ((rd_T46 Ac t178).f0)) ∧ cA w' (Ak.add ((t178).toNat * 2)) 1 (.int .i64 ((rd_T46 Ac t178).f1))) (ds := []) #[false, false, false, false, false, false, false, false, false] (by kernel_rfl) rfl rfl ⟨(blk_cell Ab.out 0).trans rfl, (blk_cell Ab.out 1).trans rfl, (blk_cell Ab.out 2).trans rfl, (blk_cell Ab.out 3).trans rfl, Af, Ag⟩ (fun hHeld => ?_); refine with_tabW tally_Sub.tab12 tally_Sub.bits12 (fun HT_ HW_ => ?_)
      (first | generalize wc.drew = w30 at Ad Ab HB Af Ag hHeld ⊢ | generalize wc.drew = w30 at Ab HB Af Ag hHeld ⊢)
      refine pui 0 57 9 1 HT_ ?_
      refine pui 1 58 9 3 HT_ ?_
      refine pui 2 59 9 7 HT_ ?_
      refine pui 3 60 9 15 HT_ ?_
      refine pui 5 62 9 47 HT_ ?_
      refine tki 4 61 9 63 HT_ HW_ hHeld ?_
      refine tki 6 63 9 127 HT_ HW_ hHeld ?_
      refine pui 7 64 9 255 HT_ ?_
      refine pui 8 56 9 511 HT_ ?_
      refine done_ (done_of HT_.out (by kernel_rfl)) ?_
      try go_wp2_with (first | ((with_reducible refine gate_callee (f := 28) rfl ?_); refine goesL_ (some 69) rfl rfl Try.func28 (by kernel_rfl) rfl #[.slice (some Ak) Ac.length Av, .int .i64 t178, .int .i64 (wrap64 (t178 + 1))] rfl pL ?_; (with_reducible refine (slices_Delete_api_Share.calls (fun k_ => some k_ = (.slice (some Ak) Ac.length Av : Value).ownBlock) (.slice (some Ak) Ac.length Av) Ac t178 (wrap64 (t178 + 1)) t182 w _ ?Ah ?Ai A29.out).mono ?_); (case Ah => repeat (first | (with_reducible first | exact HB.out | apply below_alloc | apply pw_below_drewN | apply below_drew1 | refine below_set ?_ Aj.out) | exact HB.out)); (case Ai => exact Kd.R_tight rfl Ad.out); rintro e w31 ⟨v183, rfl, ho0, hb, hkp⟩; refine ⟨_, rfl, ?_⟩; replace Ab := Am (blk_kept (pK Ab.out) hkp (fun hs_ => (fun e_ => (Kd.R_ne Ad.out Ab.out (by decide)) e_) hs_)); have Br := Am (Kd.R_mono (ok' := fun k_ => True) ho0 (fun k_ hk_ => trivial)); replace HB := Am (hb); clear Ad; (try clear hb); (try clear hkp); (try clear ho0)))
      go_roundg kj14
      case measure => have := HK1.out; have := HJ14.out; omega
      case rel => exact ⟨(t182), (wrap64 (Aa + 1)), (by first | rfl | (simp; done) | (simp [*]; done)), H', ⟨by have := HK1.out; have := HJ14.out; omega⟩, ⟨by (with_reducible repeat (first | apply Kd.R_alloc | apply Kd.R_drewN | apply Kd.R_drew)); exact Br.out⟩, ⟨pE HB.out Aj.out⟩⟩
     rw [if_neg c28] at H
     have c28b0 : (((rd_T46 Ac t178).f1) == ((rd_T43 l1 Aa).f2)) = false := beq_eq_false_iff_ne.mpr c28
     have c28b1 : (((rd_T46 Ac t178).f1) != ((rd_T43 l1 Aa).f2)) = true := bne_iff_ne.mpr c28
     obtain ⟨y186, hy186⟩ : ∃ y_ : List (S46), y_ = (Ac.set (t178 : Int).toNat (⟨(rd_T46 Ac t178).f0, wrap64 (((rd_T46 Ac t178).f1) - ((rd_T43 l1 Aa).f2))⟩ : S46)) := ⟨_, rfl⟩
     replace H : (tally_Sub.l0 kj14 y186 l1 (l1.length : Int) (wrap64 (Aa + 1))) = some (r1, r2) := by first | (rw [hy186]; with_reducible exact H) | (have H2_ := (Option.bind_some _ _).symm.trans H; rw [hy186]; with_reducible exact H2_) | (have H2_ := (Option.bind_some _ _).symm.trans H; with_reducible exact H2_) | with_reducible exact H | (rw [hy186]; exact H) | exact H
     have Ny186 := Am hy186
     clear hy186
     have H' := Am H
     clear H
     try go_wp2
     replace Ad := dRa Ad
     replace Ab := kDa Ab
     replace HB := bDa HB
     have p181 : 0 ≤ (t178 : Int) := of_decide_eq_true pS
     have q181 : t178 < (Ac.length : Int) := of_decide_eq_true pS
     obtain ⟨Ak, e181, Af, Ag⟩ := at_T46 (Kd.R_reads' Ad.out).2.2 t178 p181 q181
     cases e181
     replace p181 := eq_true p181
     replace q181 := eq_true q181
     refine start_ (n := 9) (S := fun w' => cG w' Ae 0 (.int .i64 ((rd_T43 l1 Aa).f0)) ∧ cG w' Ae 1 (.int .i64 ((rd_T43 l1 Aa).f1)) ∧ cG w' Ae 2 (.int .i64 ((rd_T43 l1 Aa).f2)) ∧ cG w' Ae 3 (.int .u32 ((rd_T43 l1 Aa).f3)) ∧ w'.cell? (Ak.add ((t178).toNat * 2)) = some (.int .i64 ((rd_T46 Ac t178).f0)) ∧ cA w' (Ak.add ((t178).toNat * 2)) 1 (.int .i64 ((rd_T46 Ac t178).f1))) (ds := []) #[false, false, false, false, false, false, false, false, false] (by kernel_rfl) rfl rfl ⟨(blk_cell Ab.out 0).trans rfl, (blk_cell Ab.out 1).trans rfl, (blk_cell Ab.out 2).trans rfl, (blk_cell Ab.out 3).trans rfl, Af, Ag⟩ (fun hHeld => ?_); refine with_tabW tally_Sub.tab12 tally_Sub.bits12 (fun HT_ HW_ => ?_)
     (first | generalize wc.drew = w33 at Ad Ab HB Af Ag hHeld ⊢ | generalize wc.drew = w33 at Ab HB Af Ag hHeld ⊢)
     refine pui 0 57 9 1 HT_ ?_
     refine pui 1 58 9 3 HT_ ?_
     refine pui 2 59 9 7 HT_ ?_
     refine pui 3 60 9 15 HT_ ?_
     refine pui 5 62 9 47 HT_ ?_
     refine tki 4 61 9 63 HT_ HW_ hHeld ?_
     refine tki 6 63 9 127 HT_ HW_ hHeld ?_
     refine pui 7 64 9 255 HT_ ?_
     refine pui 8 56 9 511 HT_ ?_
     refine done_ (done_of HT_.out (by kernel_rfl)) ?_
     try go_wp2
     replace Ad := dRa Ad
     replace Ab := kDa Ab
     replace HB := bDa HB
     have p185 : 0 ≤ (t178 : Int) := of_decide_eq_true pS
     have q185 : t178 < (Ac.length : Int) := of_decide_eq_true pS
     obtain ⟨Bs, e185, Ao, Ap⟩ := at_T46 (Kd.R_reads' Ad.out).2.2 t178 p185 q185
     obtain rfl : Ak = Bs := (by injection e185)
     replace p185 := eq_true p185
     replace q185 := eq_true q185
     have p32 : 0 ≤ (t178 : Int) := of_decide_eq_true pS
     have q32 : (t178 : Int) < ((Ac.length : Int) : Int) := of_decide_eq_true pS
     obtain ⟨go32, co32, Bn, Bo, gl32, cl32, HG32⟩ := Kd.R_form Ad.out (by omega)
     (first | cases Bn | (injection Bn with ea_ en_ ec_; (first | subst ea_ | (injection ea_ with ea_; subst ea_)); subst ec_; clear en_))
     have GB32 := Am Bo
     have GG32 := Am HG32
     clear Bo gl32 HG32
     (first | simp only [add_plain] at Af | skip)
     (first | simp only [add_plain] at Ag | skip)
     (first | simp only [add_plain] at Ao | skip)
     (first | simp only [add_plain] at Ap | skip)
     obtain ⟨ce32, hcl32, hM32, hcc32, hfr32⟩ := Kd.R_elem Ad.out z46 (t178 : Int) p32 q32
     obtain rfl := k46_openM hM32
     have Az : World.cell? _ ⟨go32, (t178 : Int).toNat * 2, none⟩ = some (.int .i64 ((rd_T46 Ac t178).f0)) := hcc32 0 _ rfl
     have A2 : World.cell? _ ⟨go32, (t178 : Int).toNat * 2 + 1, none⟩ = some (.int .i64 ((rd_T46 Ac t178).f1)) := hcc32 1 _ rfl
     have hf32_0 : World.frozen? _ ⟨go32, (t178 : Int).toNat * 2, none⟩ = false := hfr32 0
     have hf32_1 : World.frozen? _ ⟨go32, (t178 : Int).toNat * 2 + 1, none⟩ = false := hfr32 1
     clear hcl32 hcc32 hfr32 hM32
     replace p32 := eq_true p32
     replace q32 := eq_true q32
     obtain ⟨ce35, hcl35, hM35, hcc35, hfr35⟩ := Kd.R_elem Ad.out z46 (t178 : Int) (of_decide_eq_true pS) (by have h_ : (t178 : Int) < ((Ac.length : Int) : Int) := of_decide_eq_true pS; first | exact h_ | (have e_ := (Kd.R_reads' Ad.out).1; omega) | simpa using h_)
     obtain rfl := k46_openM hM35
     have HP35 := (Kd.R_seg Ad.out (t178 : Int) (of_decide_eq_true pS) (by have h_ : (t178 : Int) < ((Ac.length : Int) : Int) := of_decide_eq_true pS; first | exact h_ | (have e_ := (Kd.R_reads' Ad.out).1; omega) | simpa using h_) (seg := [.int .i64 (wrap64 (((rd_T46 Ac t178).f1) - ((rd_T43 l1 Aa).f2)))]) (j := 1) hcl35 hcc35 (show 2 ≤ 2 from by decide) (x' := (⟨(rd_T46 Ac t178).f0, wrap64 (((rd_T46 Ac t178).f1) - ((rd_T43 l1 Aa).f2))⟩ : S46)) (k46_mkM _ _ _ (⟨(rd_T46 Ac t178).f0, wrap64 (((rd_T46 Ac t178).f1) - ((rd_T43 l1 Aa).f2))⟩ : S46) ) (fun _ hk => hk)).1
     rw [← Ny186.out] at HP35
     have HQ35 := Am HP35
     clear hcl35 hcc35 hfr35 hM35 HP35
     refine start_ (n := 11) (S := fun w' => cG w' Ae 0 (.int .i64 ((rd_T43 l1 Aa).f0)) ∧ cG w' Ae 1 (.int .i64 ((rd_T43 l1 Aa).f1)) ∧ cG w' Ae 2 (.int .i64 ((rd_T43 l1 Aa).f2)) ∧ cG w' Ae 3 (.int .u32 ((rd_T43 l1 Aa).f3)) ∧ w'.cell? ⟨go32, ((t178).toNat * 2), none⟩ = some (.int .i64 ((rd_T46 Ac t178).f0)) ∧ w'.cell? ⟨go32, ((t178).toNat * 2) + 1, none⟩ = some (.int .i64 ((rd_T46 Ac t178).f1))) (ds := [10]) #[false, false, false, false, false, false, false, false, false, false, false] (by kernel_rfl) rfl rfl ⟨(blk_cell Ab.out 0).trans rfl, (blk_cell Ab.out 1).trans rfl, (blk_cell Ab.out 2).trans rfl, (blk_cell Ab.out 3).trans rfl, Ao, Ap⟩ (fun hHeld => ?_); refine with_tabW tally_Sub.tab9 tally_Sub.bits9 (fun HT_ HW_ => ?_)
     (first | generalize w33.drew = w34 at Ad Ab HB GG32 HQ35 hf32_0 hf32_1 Af Ag Ao Ap Az A2 hHeld ⊢ | generalize w33.drew = w34 at Ab HB GG32 HQ35 hf32_0 hf32_1 Af Ag Ao Ap Az A2 hHeld ⊢)
     refine pui 0 33 11 1 HT_ ?_
     refine pui 1 34 11 3 HT_ ?_
     refine pui 2 35 11 7 HT_ ?_
     refine pui 3 36 11 15 HT_ ?_
     refine pui 5 38 11 47 HT_ ?_
     refine tki 4 37 11 63 HT_ HW_ hHeld ?_
     refine tki 6 39 11 127 HT_ HW_ hHeld ?_
     refine pui 7 40 11 255 HT_ ?_
     refine pui 8 41 11 511 HT_ ?_
     refine pui 9 42 11 1023 HT_ ?_
     refine last_ (i := 10) (N := none) (bw 11 2047) rfl rfl (one_of HT_.out (by kernel_rfl)) (by decide) (fun K hK => ?_)
     refine skip_ (w1 := ?_) (by rfl) rfl ?_ ?_
     rotate_left
     ·go_simp
      rfl
     refine hK.out _ _ ?_
     clear hK K
     refine done_ (done_of HT_.out (by kernel_rfl)) ?_
     try go_wp2
     go_roundg kj14
     case measure => have := HK1.out; have := HJ14.out; omega
     case rel => exact ⟨(y186), (wrap64 (Aa + 1)), (by first | rfl | (simp; done) | (simp [*]; done)), H', ⟨by have := HK1.out; have := HJ14.out; omega⟩, ⟨by (with_reducible repeat (first | apply Kd.R_alloc | apply Kd.R_drewN | apply Kd.R_drew)); exact HQ35.out⟩, ⟨pE2 HB.out GB32.out Aj.out⟩⟩
def garnerref09_Get.l0 : Nat → List (S46) → Int → Int → Option (Int)
 | 0, _, _, _ => none
 | k + 1, x0, x1, x5 => if x5 < (x0.length : Int) then (if 0 ≤ x5 then (if ((rd_T46 x0 x5).f0) = x1 then (some ((rd_T46 x0 x5).f1)) else (garnerref09_Get.l0 k x0 x1 (wrap64 (x5 + 1)))) else (none)) else (some 0)
def garnerref09_Get.f (k : Nat) (l0 : List (S46)) (a1 : Int) : Option (Int) := garnerref09_Get.l0 k l0 a1 0
theorem garnerref09_Get.mono_l : ∀ k, (∀ y0 y1 y2, LeO (garnerref09_Get.l0 k y0 y1 y2) (garnerref09_Get.l0 (k + 1) y0 y1 y2))
 | 0 => fun _ _ _ r h => by simp [garnerref09_Get.l0] at h
 | k + 1 => by
  have ih0 := garnerref09_Get.mono_l k
  ·intro y0 y1 y2
   unfold garnerref09_Get.l0
   repeat' first
   | (with_reducible exact ih0 _ _ _)
   | (with_reducible exact LeO.refl _)
   | (with_reducible exact LeO.none _)
   | (with_reducible refine LeO.ite ?_ ?_)
   | (with_reducible refine LeO.bind ?_ (fun _ => ?_))
   | exact ih0 _ _ _
   | exact LeO.none _
   | refine LeO.ite ?_ ?_
   | refine LeO.bind ?_ (fun _ => ?_)
theorem garnerref09_Get.mono : ∀ a0 a1 k, LeO (garnerref09_Get.f k a0 a1) (garnerref09_Get.f (k + 1) a0 a1) := by
 intro a0 a1 k
 have ih0 := garnerref09_Get.mono_l k
 unfold garnerref09_Get.f
 repeat' first
   | (with_reducible exact ih0 _ _ _)
   | (with_reducible exact LeO.refl _)
   | (with_reducible exact LeO.none _)
   | (with_reducible refine LeO.ite ?_ ?_)
   | (with_reducible refine LeO.bind ?_ (fun _ => ?_))
   | exact ih0 _ _ _
   | exact LeO.none _
   | refine LeO.ite ?_ ?_
   | refine LeO.bind ?_ (fun _ => ?_)
set_option maxHeartbeats 8000000 in
set_option maxRecDepth 100000 in
theorem garnerref09_Get.calls (k : Nat) (A0 : Option Addr) (c0 : Nat) (l0 : List (S46)) (a1 : Int) (r : Int) (w : World) (hr0 : Kd.C k46 w A0 l0.length l0) (hc0 : l0.length ≤ c0) (h : garnerref09_Get.f k l0 a1 = some r) :
  Calls Try.prog 17 #[.slice A0 l0.length c0, .int .i64 a1] w fun e w' => e = .returned (.int .i64 r) ∧ Drawn0 w w' := by
 have HR0 := Am hr0
 have HC0 := Am hc0
 clear hr0 hc0
 have H : (garnerref09_Get.l0 k l0 a1 0) = some r := h
 clear h
 have H' := Am H
 clear H
 go_enter Try.func17, Try.ntmps17
 go_wp2
 go_loopg [5] k (fun kq v5 w' => ∃ (Aa : Int), v5 = .int .i64 Aa ∧ Aside0 (garnerref09_Get.l0 kq l0 a1 Aa = some r) ∧ Aside0 (kq ≤ k) ∧ Drawn0 w w')
 case atStart => exact ⟨(0), (by first | rfl | (simp; done) | (simp [*]; done)), H', ⟨Nat.le_refl _⟩, by repeat (first | exact Drawn0.refl _ | apply Drawn0.step)⟩
 case round =>
  clear H'
  try clear c1
  try clear p2
  obtain ⟨Aa, rfl, HA, HK1, ⟨m1, rfl⟩⟩ := hrel
  cases gk with
  | zero => exact absurd HA.out (by simp [garnerref09_Get.l0])
  | succ k1 =>
   have H := HA.out
   clear HA
   simp only [garnerref09_Get.l0] at H
   by_cases c3 : Aa < (l0.length : Int)
   rotate_left
   ·rw [if_neg c3] at H
    have c3b0 : decide (Aa < (l0.length : Int)) = false := decide_eq_false c3
    clear c3
    obtain rfl := Option.some.inj H
    go_wp2
    go_ret
    exact ⟨by first | rfl | (simp; done) | (simp [*]; done), by repeat (first | exact Drawn0.refl _ | apply Drawn0.step)⟩
   rw [if_pos c3] at H
   have c3b0 : decide (Aa < (l0.length : Int)) = true := decide_eq_true c3
   clear c3
   by_cases c4 : 0 ≤ Aa
   rotate_left
   ·rw [if_neg c4] at H
    exact absurd H (by simp)
   rw [if_pos c4] at H
   have c4b0 : decide (0 ≤ Aa) = true := decide_eq_true c4
   clear c4
   by_cases c5 : ((rd_T46 l0 Aa).f0) = a1
   ·rw [if_pos c5] at H
    have c5b0 : (((rd_T46 l0 Aa).f0) == a1) = true := beq_iff_eq.mpr c5
    have c5b1 : (((rd_T46 l0 Aa).f0) != a1) = false := bne_eq_false_iff_eq.mpr c5
    clear c5
    obtain rfl := Option.some.inj H
    have p187 : 0 ≤ (Aa : Int) := of_decide_eq_true pS
    have q187 : Aa < (l0.length : Int) := of_decide_eq_true pS
    obtain ⟨Ad, e187, Ab, Ac⟩ := at_T46 HR0.out Aa p187 q187
    cases e187
    replace p187 := eq_true p187
    replace q187 := eq_true q187
    go_wp2
    go_ret
    exact ⟨by first | rfl | (simp; done) | (simp [*]; done), by repeat (first | exact Drawn0.refl _ | apply Drawn0.step)⟩
   rw [if_neg c5] at H
   have c5b0 : (((rd_T46 l0 Aa).f0) == a1) = false := beq_eq_false_iff_ne.mpr c5
   have c5b1 : (((rd_T46 l0 Aa).f0) != a1) = true := bne_iff_ne.mpr c5
   have H' := Am H
   clear H
   have p187 : 0 ≤ (Aa : Int) := of_decide_eq_true pS
   have q187 : Aa < (l0.length : Int) := of_decide_eq_true pS
   obtain ⟨Ad, e187, Ab, Ac⟩ := at_T46 HR0.out Aa p187 q187
   cases e187
   replace p187 := eq_true p187
   replace q187 := eq_true q187
   go_wp2
   go_roundg k1
   case measure => have := HK1.out; omega
   case rel => exact ⟨(wrap64 (Aa + 1)), (by first | rfl | (simp; done) | (simp [*]; done)), H', ⟨by have := HK1.out; omega⟩, by repeat (first | exact Drawn0.refl _ | apply Drawn0.step)⟩
end Go.Proofs.Ytkapmlijeilieaa.PTallySubs
