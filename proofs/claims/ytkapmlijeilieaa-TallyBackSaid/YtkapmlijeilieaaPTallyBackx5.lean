/- What the law reaches, as plain Lean functions, and that the machine's calls answer just that. -/
import Derived.Test.YtkapmlijeilieaaPTallyBackx0
import Derived.Test.YtkapmlijeilieaaPTallyBackx2
import Derived.Test.YtkapmlijeilieaaPTallyBackx3
import Derived.Test.YtkapmlijeilieaaPTallyBackx4
namespace Go.Proofs.Ytkapmlijeilieaa.PTallyBack
open Go.RowKit Go.Proofs.YtkapmlijeilieaaW.PrintWords Go.Proofs.YtkapmlijeilieaaW.PrintLast Go.Proofs.YtkapmlijeilieaaW.PrintMore
attribute [local go_sem] max2_int min2_int max_two min_two max_three min_three max_four min_four
set_option linter.unusedVariables false
set_option linter.unusedSimpArgs false
attribute [local go_sem] wrap64_l1 wrap64_l2 wrap64_l3 wrap64_l4 wrap64_l5
mutual
def tally_Sub.l0 : Nat → List (S46) → List (S43) → Int → Int → Option ((List (S46)) × Int)
 | 0, _, _, _, _ => none
 | k + 1, x6, x17, x18, x19 => if x19 < x18 then (if 0 ≤ x19 then (if x19 < (x17.length : Int) then (if ((rd_T43 x17 x19).f2) = 0 then (tally_Sub.l0 k x6 x17 x18 (wrap64 (x19 + 1))) else ((tally_find.f k x6 ((rd_T43 x17 x19).f0)).bind fun bt169 => (if bt169.2 = true then (if 0 ≤ bt169.1 then (if bt169.1 < (x6.length : Int) then (tally_Sub.j1 k x6 bt169.1 x17 x18 x19 (decide (((rd_T46 x6 bt169.1).f1) < ((rd_T43 x17 x19).f2))) ((rd_T43 x17 x19).f0) ((rd_T43 x17 x19).f1) ((rd_T43 x17 x19).f2) ((rd_T43 x17 x19).f3)) else (none)) else (none)) else (tally_Sub.j1 k x6 bt169.1 x17 x18 x19 true ((rd_T43 x17 x19).f0) ((rd_T43 x17 x19).f1) ((rd_T43 x17 x19).f2) ((rd_T43 x17 x19).f3))))) else (none)) else (none)) else (some (x6, 0))
def tally_Sub.j1 : Nat → List (S46) → Int → List (S43) → Int → Int → Bool → Int → Int → Int → Int → Option ((List (S46)) × Int)
 | 0, _, _, _, _, _, _, _, _, _, _ => none
 | k + 1, x6, x9, x17, x18, x19, x43, x169000, x169001, x169002, x169003 => if x43 = true then (some (([] : List (S46)), 3)) else (if 0 ≤ x9 then (if x9 < (x6.length : Int) then (if ((rd_T46 x6 x9).f1) = x169002 then ((slices_Delete_api_Share.f x6 x9 (wrap64 (x9 + 1))).bind fun t173 => (tally_Sub.l0 k t173 x17 x18 (wrap64 (x19 + 1)))) else (tally_Sub.l0 k (x6.set (x9 : Int).toNat (⟨(rd_T46 x6 x9).f0, wrap64 (((rd_T46 x6 x9).f1) - x169002)⟩ : S46)) x17 x18 (wrap64 (x19 + 1)))) else (none)) else (none))
end
def tally_Sub.f (k : Nat) (l0 : List (S46)) (l1 : List (S43)) : Option ((List (S46)) × Int) := (tally_may.f k l0 l1).bind fun t163 => (if t163 = true then ((slices_Clone_api_Share.f l0).bind fun t164 => (tally_Sub.l0 k t164 l1 (l1.length : Int) 0)) else (some (([] : List (S46)), 1)))
theorem tally_Sub.mono_l : ∀ k, (∀ y0 y1 y2 y3, LeO (tally_Sub.l0 k y0 y1 y2 y3) (tally_Sub.l0 (k + 1) y0 y1 y2 y3)) ∧ (∀ y0 y1 y2 y3 y4 y5 y6 y7 y8 y9, LeO (tally_Sub.j1 k y0 y1 y2 y3 y4 y5 y6 y7 y8 y9) (tally_Sub.j1 (k + 1) y0 y1 y2 y3 y4 y5 y6 y7 y8 y9))
 | 0 => ⟨fun _ _ _ _ r h => by simp [tally_Sub.l0] at h, fun _ _ _ _ _ _ _ _ _ _ r h => by simp [tally_Sub.j1] at h⟩
 | k + 1 => by
  obtain ⟨ih0, ih1⟩ := tally_Sub.mono_l k
  refine ⟨?_, ?_⟩
  ·intro y0 y1 y2 y3
   unfold tally_Sub.l0
   repeat' first
   | (with_reducible exact ih0 _ _ _ _)
   | (with_reducible exact ih1 _ _ _ _ _ _ _ _ _ _)
   | (with_reducible exact tally_find.mono _ _ _)
   | (with_reducible exact tally_may.mono _ _ _)
   | (with_reducible exact LeO.refl _)
   | (with_reducible exact LeO.none _)
   | (with_reducible refine LeO.ite ?_ ?_)
   | (with_reducible refine LeO.bind ?_ (fun _ => ?_))
   | exact ih0 _ _ _ _
   | exact ih1 _ _ _ _ _ _ _ _ _ _
   | exact tally_find.mono _ _ _
   | exact tally_may.mono _ _ _
   | exact LeO.none _
   | refine LeO.ite ?_ ?_
   | refine LeO.bind ?_ (fun _ => ?_)
  ·intro y0 y1 y2 y3 y4 y5 y6 y7 y8 y9
   unfold tally_Sub.j1
   repeat' first
   | (with_reducible exact ih0 _ _ _ _)
   | (with_reducible exact ih1 _ _ _ _ _ _ _ _ _ _)
   | (with_reducible exact tally_find.mono _ _ _)
   | (with_reducible exact tally_may.mono _ _ _)
   | (with_reducible exact LeO.refl _)
   | (with_reducible exact LeO.none _)
   | (with_reducible refine LeO.ite ?_ ?_)
   | (with_reducible refine LeO.bind ?_ (fun _ => ?_))
   | exact ih0 _ _ _ _
   | exact ih1 _ _ _ _ _ _ _ _ _ _
   | exact tally_find.mono _ _ _
   | exact tally_may.mono _ _ _
   | exact LeO.none _
   | refine LeO.ite ?_ ?_
   | refine LeO.bind ?_ (fun _ => ?_)
theorem tally_Sub.mono : ∀ a0 a1 k, LeO (tally_Sub.f k a0 a1) (tally_Sub.f (k + 1) a0 a1) := by
 intro a0 a1 k
 obtain ⟨ih0, ih1⟩ := tally_Sub.mono_l k
 unfold tally_Sub.f
 repeat' first
   | (with_reducible exact ih0 _ _ _ _)
   | (with_reducible exact ih1 _ _ _ _ _ _ _ _ _ _)
   | (with_reducible exact tally_find.mono _ _ _)
   | (with_reducible exact tally_may.mono _ _ _)
   | (with_reducible exact LeO.refl _)
   | (with_reducible exact LeO.none _)
   | (with_reducible refine LeO.ite ?_ ?_)
   | (with_reducible refine LeO.bind ?_ (fun _ => ?_))
   | exact ih0 _ _ _ _
   | exact ih1 _ _ _ _ _ _ _ _ _ _
   | exact tally_find.mono _ _ _
   | exact tally_may.mono _ _ _
   | exact LeO.none _
   | refine LeO.ite ?_ ?_
   | refine LeO.bind ?_ (fun _ => ?_)
def tally_Sub.T9 : Bool × List (List Nat × List Nat) := (true, [([], []), ([], []), ([0, 1], [0, 1]), ([2], [2]), ([3], [3]), ([], []), ([5], [5]), ([4, 6], [4, 6]), ([0, 1, 0, 1, 2, 3, 4, 5, 6, 7], [0, 1]), ([8, 0, 1, 2, 3, 4, 5, 6, 7], [8]), ([9, 7, 0, 1, 2, 3, 4, 5, 6, 7], [7, 9])])
def tally_Sub.B9 : List Nat := [0, 0, 3, 7, 15, 0, 32, 127, 255, 511, 1023]
theorem tally_Sub.tab9 : rtab .any (opsOf Try.f19 9) = tally_Sub.T9 := by kernel_rfl
theorem tally_Sub.bits9 : waitsOk tally_Sub.T9.2 tally_Sub.B9 = true := by kernel_rfl
def tally_Sub.T10 : Bool × List (List Nat × List Nat) := (true, [([], []), ([0], [0]), ([1], [1]), ([2], [2]), ([2], [2]), ([3, 4, 2], [2, 3, 4]), ([5, 2], [2, 5]), ([6, 2], [2, 6]), ([2], [2]), ([8, 2], [2, 8]), ([7, 9, 2], [2, 7, 9]), ([2, 10], [2, 10]), ([11, 2], [11])])
def tally_Sub.B10 : List Nat := [0, 1, 3, 7, 7, 31, 63, 127, 7, 263, 1023, 2047, 4095]
theorem tally_Sub.tab10 : rtab .any (opsOf Try.f19 10) = tally_Sub.T10 := by kernel_rfl
theorem tally_Sub.bits10 : waitsOk tally_Sub.T10.2 tally_Sub.B10 = true := by kernel_rfl
def tally_Sub.T12 : Bool × List (List Nat × List Nat) := (true, [([], []), ([], []), ([0, 1], [0, 1]), ([2], [2]), ([3], [3]), ([], []), ([5], [5]), ([4, 6], [4, 6]), ([7], [7])])
def tally_Sub.B12 : List Nat := [0, 0, 3, 7, 15, 0, 32, 127, 255]
theorem tally_Sub.tab12 : rtab .any (opsOf Try.f19 12) = tally_Sub.T12 := by kernel_rfl
theorem tally_Sub.bits12 : waitsOk tally_Sub.T12.2 tally_Sub.B12 = true := by kernel_rfl
set_option maxHeartbeats 8000000 in
set_option maxRecDepth 100000 in
theorem tally_Sub.calls (k : Nat) (A0 : Option Addr) (c0 : Nat) (l0 : List (S46)) (A1 : Option Addr) (c1 : Nat) (l1 : List (S43)) (r1 : List (S46)) (r2 : Int) (w : World) (hr0 : Kd.C k46 w A0 l0.length l0) (hc0 : l0.length ≤ c0) (hr1 : Kd.C k43 w A1 l1.length l1) (hc1 : l1.length ≤ c1) (h : tally_Sub.f k l0 l1 = some (r1, r2)) :
  Calls Try.prog 19 #[.slice A0 l0.length c0, .slice A1 l1.length c1] w fun e w' => ∃ v0_ : Value, e = .returned (.tuple #[v0_, .int .i64 r2]) ∧ Kd.R k46 46 w' w.heap.size (fun _ => True) v0_ r1 ∧ Below w.heap.size w w' := by
 have hu43 := Try.underlying43
 have HR0 := Am hr0
 have HC0 := Am hc0
 clear hr0 hc0
 have HR1 := Am hr1
 have HC1 := Am hc1
 clear hr1 hc1
 have HB := Am (Below.refl w.heap.size w)
 have H : ((tally_may.f k l0 l1).bind fun t163 => (if t163 = true then ((slices_Clone_api_Share.f l0).bind fun t164 => (tally_Sub.l0 k t164 l1 (l1.length : Int) 0)) else (some (([] : List (S46)), 1)))) = some (r1, r2) := h
 clear h
 replace H := Option.bind_eq_some_iff.mp H
 obtain ⟨t163, A30, H⟩ := H
 replace H : (if t163 = true then ((slices_Clone_api_Share.f l0).bind fun t164 => (tally_Sub.l0 k t164 l1 (l1.length : Int) 0)) else (some (([] : List (S46)), 1))) = some (r1, r2) := H
 have A3 := Am A30
 clear A30
 by_cases c4 : t163 = true
 rotate_left
 ·replace c4 := Bool.eq_false_iff.mpr c4
  subst c4
  have H1 : (some (([] : List (S46)), 1)) = some (r1, r2) := by rw [if_neg (show ¬ (false = true) by decide)] at H; exact H
  clear H
  have H := H1
  clear H1
  simp only [Option.some.injEq, Prod.mk.injEq] at H
  obtain ⟨rfl, rfl⟩ := H
  go_enter Try.func19, Try.ntmps19
  go_wp2_with (first | ((with_reducible refine gate_callee (f := 21) rfl ?_); refine goesL_ (some 13) rfl rfl Try.func21 (by kernel_rfl) rfl #[.slice A0 l0.length c0, .slice A1 l1.length c1] rfl pL ?_; (with_reducible refine (tally_may.calls k _ _ l0 _ _ l1 false _ ?Ah ?Ai ?Aw ?Ax A3.out).mono ?_); (case Ah => repeat (first | exact HR0.out | (with_reducible refine Kd.C_alloc ?_ _) | (with_reducible refine Kd.C_drewN ?_ _) | (with_reducible refine Kd.C_drew ?_))); (case Ai => exact HC0.out); (case Aw => repeat (first | exact HR1.out | (with_reducible refine Kd.C_alloc ?_ _) | (with_reducible refine Kd.C_drewN ?_ _) | (with_reducible refine Kd.C_drew ?_))); (case Ax => exact HC1.out); rintro e w36 ⟨rfl, hb⟩; refine ⟨_, rfl, ?_⟩; replace HB := Am (below_step (pB HB.out) hb); (try clear hb); (try clear hb2); (try clear hk); (try clear hi)))
  go_ret2
  exact ⟨_, pX, by first | exact Kd.R_nil _ _ _ _ _ | exact Kd.N_nil _ _ _ _ _ | exact Kd.V_nil _ _ _ _ _ | exact Kd.Q_nil _ _ _ _ _ | exact Kd.S_nil _ _ _ _ _, pB HB.out⟩
 subst c4
 have H1 : ((slices_Clone_api_Share.f l0).bind fun t164 => (tally_Sub.l0 k t164 l1 (l1.length : Int) 0)) = some (r1, r2) := by rw [if_pos rfl] at H; exact H
 clear H
 have H := H1
 clear H1
 replace H := Option.bind_eq_some_iff.mp H
 obtain ⟨t164, A50, H⟩ := H
 replace H : (tally_Sub.l0 k t164 l1 (l1.length : Int) 0) = some (r1, r2) := H
 have A5 := Am A50
 clear A50
 have H' := Am H
 clear H
 go_enter Try.func19, Try.ntmps19
 go_wp2_with (first | ((with_reducible refine gate_callee (f := 21) rfl ?_); refine goesL_ (some 13) rfl rfl Try.func21 (by kernel_rfl) rfl #[.slice A0 l0.length c0, .slice A1 l1.length c1] rfl pL ?_; (with_reducible refine (tally_may.calls k _ _ l0 _ _ l1 true _ ?Ah ?Ai ?Aw ?Ax A3.out).mono ?_); (case Ah => repeat (first | exact HR0.out | (with_reducible refine Kd.C_alloc ?_ _) | (with_reducible refine Kd.C_drewN ?_ _) | (with_reducible refine Kd.C_drew ?_))); (case Ai => exact HC0.out); (case Aw => repeat (first | exact HR1.out | (with_reducible refine Kd.C_alloc ?_ _) | (with_reducible refine Kd.C_drewN ?_ _) | (with_reducible refine Kd.C_drew ?_))); (case Ax => exact HC1.out); rintro e w6 ⟨rfl, hb⟩; refine ⟨_, rfl, ?_⟩; replace HB := Am (below_step (pB HB.out) hb); (try clear hb); (try clear hb2); (try clear hk); (try clear hi)) | ((with_reducible refine gate_callee (f := 22) rfl ?_); refine goesL_ (some 16) rfl rfl Try.func22 (by kernel_rfl) rfl #[.slice A0 l0.length c0] rfl pL ?_; (with_reducible refine (slices_Clone_api_Share.calls _ _ l0 t164 _ ?Ah ?Ai A5.out).mono ?_); (case Ah => exact pC (Kd.C_below HR0.out HB.out)); (case Ai => exact HC0.out); rintro e w7 ⟨v165, rfl, ho0, hb⟩; refine ⟨_, rfl, ?_⟩; have Bp := Am (Kd.R_lower ho0 (below_size (pB HB.out))); replace HB := Am (below_step (pB HB.out) hb); (try clear hb); (try clear hb2); (try clear hk); (try clear hi); (try clear ho0)))
 go_loopg [6, 19] k (fun kq v6 v19 w' => ∃ (Ac : List (S46)) (Aa : Int), v19 = .int .i64 Aa ∧ Aside0 (tally_Sub.l0 kq Ac l1 (l1.length : Int) Aa = some (r1, r2)) ∧ Aside0 (kq ≤ k) ∧ Aside0 (Kd.R k46 46 w' w.heap.size (fun _ => True) v6 Ac) ∧ Aside0 (Below w.heap.size w w'))
 case atStart => exact ⟨(t164), (0), (by first | rfl | (simp; done) | (simp [*]; done)), H', ⟨Nat.le_refl _⟩, ⟨by (with_reducible repeat (first | apply Kd.R_alloc | apply Kd.R_drewN | apply Kd.R_drew)); exact Bp.out⟩, ⟨pB HB.out⟩⟩
 case round =>
  clear H'
  try clear c1
  try clear c2
  try clear p2
  try clear c4
  obtain ⟨Ac, Aa, rfl, HA, HK1, Ad, HB⟩ := hrel
  cases gk with
  | zero => exact absurd HA.out (by simp [tally_Sub.l0])
  | succ k1 =>
   have H := HA.out
   clear HA
   simp only [tally_Sub.l0] at H
   by_cases c8 : Aa < (l1.length : Int)
   rotate_left
   ·rw [if_neg c8] at H
    have c8b0 : decide (Aa < (l1.length : Int)) = false := decide_eq_false c8
    clear c8
    simp only [Option.some.injEq, Prod.mk.injEq] at H
    obtain ⟨rfl, rfl⟩ := H
    go_wp2
    go_ret2
    exact ⟨_, pX, by (with_reducible repeat (first | apply Kd.R_alloc | apply Kd.R_drewN | apply Kd.R_drew)); exact Ad.out, pB HB.out⟩
   rw [if_pos c8] at H
   have c8b0 : decide (Aa < (l1.length : Int)) = true := decide_eq_true c8
   clear c8
   by_cases c9 : 0 ≤ Aa
   rotate_left
   ·rw [if_neg c9] at H
    exact absurd H (by simp)
   rw [if_pos c9] at H
   have c9b0 : decide (0 ≤ Aa) = true := decide_eq_true c9
   clear c9
   by_cases c10 : Aa < (l1.length : Int)
   rotate_left
   ·rw [if_neg c10] at H
    exact absurd H (by simp)
   rw [if_pos c10] at H
   have c10b0 : decide (Aa < (l1.length : Int)) = true := decide_eq_true c10
   clear c10
   by_cases c11 : ((rd_T43 l1 Aa).f2) = 0
   ·rw [if_pos c11] at H
    have c11b0 : (((rd_T43 l1 Aa).f2) == 0) = true := beq_iff_eq.mpr c11
    have c11b1 : (((rd_T43 l1 Aa).f2) != 0) = false := bne_eq_false_iff_eq.mpr c11
    clear c11
    have H' := Am H
    clear H
    have p167 : 0 ≤ (Aa : Int) := of_decide_eq_true pS
    have q167 : Aa < (l1.length : Int) := of_decide_eq_true pS
    obtain ⟨Bq, e167, Ar, As, At, Au⟩ := at_T43u HR1.out Aa p167 q167 HB.out
    cases e167
    replace p167 := eq_true p167
    replace q167 := eq_true q167
    go_wp2_with (first | ((with_reducible refine gate_dst (N := 8) rfl ?_); refine box_event ?hg (N := 8) ?hd (cs := #[.int .i64 0, .int .i64 0, .int .i64 0, .int .u32 0]) (t := 43) ?hr ?_; (case hd => rfl); (case hg => rfl); (case hr => first | (go_simp; done) | (go_simp; rfl)); intro Ae hg w12 hbox hb; replace Ad := bRa Ad hb; have Ab := Am (hbox); have Ay := Am ((by rw [hg]; exact (below_size (pB HB.out)) : w.heap.size ≤ Ae)); replace HB := Am (below_step (pB HB.out) hb); have Aj := Ay; clear hb hbox hg; obtain ⟨A4, A6, A7, A8⟩ := bc4 Ab.out; obtain ⟨A9, Ba, Bb, Bc⟩ := bf4 Ab.out))
    go_roundg k1
    case measure => have := HK1.out; omega
    case rel => exact ⟨(Ac), (wrap64 (Aa + 1)), (by first | rfl | (simp; done) | (simp [*]; done)), H', ⟨by have := HK1.out; omega⟩, ⟨by (with_reducible repeat (first | apply Kd.R_alloc | apply Kd.R_drewN | apply Kd.R_drew)); exact Kd.R_mono (Rf4 (g := Ae) (Kd.R_types Ad.out Ab.out (by decide)) (fun _ hk => hk.2)) (fun _ hk => trivial)⟩, ⟨pE HB.out Aj.out⟩⟩
   rw [if_neg c11] at H
   have c11b0 : (((rd_T43 l1 Aa).f2) == 0) = false := beq_eq_false_iff_ne.mpr c11
   have c11b1 : (((rd_T43 l1 Aa).f2) != 0) = true := bne_iff_ne.mpr c11
   replace H := Option.bind_eq_some_iff.mp H
   obtain ⟨⟨t169, t170⟩, A140, H⟩ := H
   replace H : (if t170 = true then (if 0 ≤ t169 then (if t169 < (Ac.length : Int) then (tally_Sub.j1 k1 Ac t169 l1 (l1.length : Int) Aa (decide (((rd_T46 Ac t169).f1) < ((rd_T43 l1 Aa).f2))) ((rd_T43 l1 Aa).f0) ((rd_T43 l1 Aa).f1) ((rd_T43 l1 Aa).f2) ((rd_T43 l1 Aa).f3)) else (none)) else (none)) else (tally_Sub.j1 k1 Ac t169 l1 (l1.length : Int) Aa true ((rd_T43 l1 Aa).f0) ((rd_T43 l1 Aa).f1) ((rd_T43 l1 Aa).f2) ((rd_T43 l1 Aa).f3))) = some (r1, r2) := H
   have A14 := Am A140
   clear A140
   have HC15 := Am H
   clear H
   have p167 : 0 ≤ (Aa : Int) := of_decide_eq_true pS
   have q167 : Aa < (l1.length : Int) := of_decide_eq_true pS
   obtain ⟨Bq, e167, Ar, As, At, Au⟩ := at_T43u HR1.out Aa p167 q167 HB.out
   cases e167
   replace p167 := eq_true p167
   replace q167 := eq_true q167
   go_upto_region 10 with (first | ((with_reducible refine gate_dst (N := 8) rfl ?_); refine box_event ?hg (N := 8) ?hd (cs := #[.int .i64 0, .int .i64 0, .int .i64 0, .int .u32 0]) (t := 43) ?hr ?_; (case hd => rfl); (case hg => rfl); (case hr => first | (go_simp; done) | (go_simp; rfl)); intro Ae hg w16 hbox hb; replace Ad := bRa Ad hb; have Ab := Am (hbox); have Ay := Am ((by rw [hg]; exact (below_size (pB HB.out)) : w.heap.size ≤ Ae)); replace HB := Am (below_step (pB HB.out) hb); have Aj := Ay; clear hb hbox hg; obtain ⟨Bd, Be, Bf, Bg⟩ := bc4 Ab.out; obtain ⟨Bh, Bi, Bj, Bk⟩ := bf4 Ab.out; obtain ⟨Bm, Av, Bt⟩ := Kd.R_slice Ad.out; subst Bt) | ((with_reducible refine gate_callee (f := 26) rfl ?_); refine goesL_ (some 30) rfl rfl Try.func26 (by kernel_rfl) rfl #[.slice Bm Ac.length Av, .int .i64 ((rd_T43 l1 Aa).f0)] rfl pL ?_; (with_reducible refine (tally_find.calls k1 _ _ Ac ((rd_T43 l1 Aa).f0) t169 t170 _ ?Ah ?Ai A14.out).mono ?_); (case Ah => refine (Kd.R_reads' (e := 46) (base := w.heap.size) (ok := fun k_ => True) (n := Ac.length) (c := Av) ?_).2.2; exact (by (with_reducible repeat (first | apply Kd.R_alloc | apply Kd.R_drewN | apply Kd.R_drew)); exact (Kd.R_mono (Rf4 (g := Ae) (Kd.R_types Ad.out Ab.out (by decide)) (fun _ hk => hk.2)) (fun _ h_ => h_.1)))); (case Ai => exact (Kd.R_reads' Ad.out).2.1); rintro e w19 ⟨rfl, hb⟩; refine ⟨_, rfl, ?_⟩; replace Ad := Am (Kd.R_below (by (with_reducible repeat (first | apply Kd.R_alloc | apply Kd.R_drewN | apply Kd.R_drew)); exact (Kd.R_mono (Rf4 (g := Ae) (Kd.R_types Ad.out Ab.out (by decide)) (fun _ hk => hk.2)) (fun _ h_ => h_.1))) hb); replace Ab := Am (blk_below (g := Ae) (kX0 Ab.out) hb); replace HB := Am (below_step (pE HB.out Aj.out) hb); (try clear hb); (try clear hb2); (try clear hk); (try clear hi)))
   (try simp only [Act.put, List.setIfInBounds_toArray, List.set_cons_zero, List.set_cons_succ])
   go_cut [43] (fun v43 wc => ∃ (kq : Nat) (Aq : Bool), v43 = .bool Aq ∧ Aside0 (tally_Sub.j1 kq Ac t169 l1 (l1.length : Int) Aa Aq ((rd_T43 l1 Aa).f0) ((rd_T43 l1 Aa).f1) ((rd_T43 l1 Aa).f2) ((rd_T43 l1 Aa).f3) = some (r1, r2)) ∧ Aside0 (kq ≤ k1) ∧ Aside0 (Kd.R k46 46 wc w.heap.size (fun _ => True) (.slice Bm Ac.length Av) Ac) ∧ Aside0 (wc.heap[Ae]? = some (.cells #[.int .i64 ((rd_T43 l1 Aa).f0), .int .i64 ((rd_T43 l1 Aa).f1), .int .i64 ((rd_T43 l1 Aa).f2), .int .u32 ((rd_T43 l1 Aa).f3)] 43 (0, 0))) ∧ Aside0 (Below w.heap.size w wc))
   case first =>
    have H := HC15.out
    clear HC15
    by_cases c20 : t170 = true
    rotate_left
    ·replace c20 := Bool.eq_false_iff.mpr c20
     subst c20
     have H1 : (tally_Sub.j1 k1 Ac t169 l1 (l1.length : Int) Aa true ((rd_T43 l1 Aa).f0) ((rd_T43 l1 Aa).f1) ((rd_T43 l1 Aa).f2) ((rd_T43 l1 Aa).f3)) = some (r1, r2) := by rw [if_neg (show ¬ (false = true) by decide)] at H; exact H
     clear H
     have H := H1
     clear H1
     have H' := Am H
     clear H
     try go_wp2
     replace Ad := dRa Ad
     replace Ab := kDa Ab
     replace HB := bDa HB
     refine start_ (n := 13) (S := fun w' => True) (ds := []) #[false, false, false, false, false, false, false, false, false, false, false, false, false] (by kernel_rfl) rfl rfl trivial (fun hHeld => ?_); refine with_tabW tally_Sub.tab10 tally_Sub.bits10 (fun HT_ HW_ => ?_)
     (first | generalize w19.drew = w24 at Ad Ab HB hHeld ⊢ | generalize w19.drew = w24 at Ab HB hHeld ⊢)
     refine pui 0 44 13 1 HT_ ?_
     refine pui 1 45 13 3 HT_ ?_
     refine pui 2 46 13 7 HT_ ?_
     refine pdi 3 47 13 15 HT_ ?_
     refine pdi 4 48 13 31 HT_ ?_
     refine pdi 5 49 13 63 HT_ ?_
     refine pdi 6 50 13 127 HT_ ?_
     refine pdi 7 51 13 255 HT_ ?_
     refine pdi 8 52 13 511 HT_ ?_
     refine pdi 9 53 13 1023 HT_ ?_
     refine pdi 10 54 13 2047 HT_ ?_
     refine pui 11 55 13 4095 HT_ ?_
     refine pui 12 43 13 8191 HT_ ?_
     refine done_ (done_of HT_.out (by kernel_rfl)) ?_
     try go_wp2
     go_meet
     case rel => exact ⟨_, (true), (by first | rfl | (simp; done) | (simp [*]; done)), H', ⟨by have := HK1.out; first | omega | exact Nat.le_refl _⟩, ⟨by (with_reducible repeat (first | apply Kd.R_alloc | apply Kd.R_drewN | apply Kd.R_drew)); exact Ad.out⟩, ⟨pK Ab.out⟩, ⟨pE HB.out Aj.out⟩⟩
    subst c20
    have H1 : (if 0 ≤ t169 then (if t169 < (Ac.length : Int) then (tally_Sub.j1 k1 Ac t169 l1 (l1.length : Int) Aa (decide (((rd_T46 Ac t169).f1) < ((rd_T43 l1 Aa).f2))) ((rd_T43 l1 Aa).f0) ((rd_T43 l1 Aa).f1) ((rd_T43 l1 Aa).f2) ((rd_T43 l1 Aa).f3)) else (none)) else (none)) = some (r1, r2) := by rw [if_pos rfl] at H; exact H
    clear H
    have H := H1
    clear H1
    by_cases c21 : 0 ≤ t169
    rotate_left
    ·rw [if_neg c21] at H
     exact absurd H (by simp)
    rw [if_pos c21] at H
    have c21b0 : decide (0 ≤ t169) = true := decide_eq_true c21
    clear c21
    (first | rw [c21b0] | (simp only [i64_w, i32_w]; rw [c21b0]) | skip)
    by_cases c22 : t169 < (Ac.length : Int)
    rotate_left
    ·rw [if_neg c22] at H
     exact absurd H (by simp)
    rw [if_pos c22] at H
    have c22b0 : decide (t169 < (Ac.length : Int)) = true := decide_eq_true c22
    clear c22
    have H' := Am H
    clear H
    try go_wp2
    replace Ad := dRa Ad
    replace Ab := kDa Ab
    replace HB := bDa HB
    have p171 : 0 ≤ (t169 : Int) := of_decide_eq_true pS
    have q171 : t169 < (Ac.length : Int) := of_decide_eq_true pS
    obtain ⟨Bl, e171, Al, An⟩ := at_T46 (Kd.R_reads' Ad.out).2.2 t169 p171 q171
    cases e171
    replace p171 := eq_true p171
    replace q171 := eq_true q171
    refine start_ (n := 13) (S := fun w' => cG w' Ae 0 (.int .i64 ((rd_T43 l1 Aa).f0)) ∧ cG w' Ae 1 (.int .i64 ((rd_T43 l1 Aa).f1)) ∧ cG w' Ae 2 (.int .i64 ((rd_T43 l1 Aa).f2)) ∧ cG w' Ae 3 (.int .u32 ((rd_T43 l1 Aa).f3)) ∧ w'.cell? (Bl.add ((t169).toNat * 2)) = some (.int .i64 ((rd_T46 Ac t169).f0)) ∧ cA w' (Bl.add ((t169).toNat * 2)) 1 (.int .i64 ((rd_T46 Ac t169).f1))) (ds := []) #[false, false, false, false, false, false, false, false, false, false, false, false, false] (by kernel_rfl) rfl rfl ⟨(blk_cell Ab.out 0).trans rfl, (blk_cell Ab.out 1).trans rfl, (blk_cell Ab.out 2).trans rfl, (blk_cell Ab.out 3).trans rfl, Al, An⟩ (fun hHeld => ?_); refine with_tabW tally_Sub.tab10 tally_Sub.bits10 (fun HT_ HW_ => ?_)
    (first | generalize w19.drew = w23 at Ad Ab HB Al An hHeld ⊢ | generalize w19.drew = w23 at Ab HB Al An hHeld ⊢)
    refine pui 0 44 13 1 HT_ ?_
    refine pui 1 45 13 3 HT_ ?_
    refine pui 2 46 13 7 HT_ ?_
    refine pui 3 47 13 15 HT_ ?_
    refine pui 4 48 13 31 HT_ ?_
    refine pui 5 49 13 63 HT_ ?_
    refine pui 6 50 13 127 HT_ ?_
    refine pui 8 52 13 383 HT_ ?_
    refine tki 7 51 13 511 HT_ HW_ hHeld ?_
    refine tki 9 53 13 1023 HT_ HW_ hHeld ?_
    refine pui 10 54 13 2047 HT_ ?_
    refine pui 11 55 13 4095 HT_ ?_
    refine pui 12 43 13 8191 HT_ ?_
    refine done_ (done_of HT_.out (by kernel_rfl)) ?_
    try go_wp2
    go_meet
    case rel => exact ⟨_, (decide (((rd_T46 Ac t169).f1) < ((rd_T43 l1 Aa).f2))), (by first | rfl | (simp; done) | (simp [*]; done)), H', ⟨by have := HK1.out; first | omega | exact Nat.le_refl _⟩, ⟨by (with_reducible repeat (first | apply Kd.R_alloc | apply Kd.R_drewN | apply Kd.R_drew)); exact Ad.out⟩, ⟨pK Ab.out⟩, ⟨pE HB.out Aj.out⟩⟩
   case rest =>
    clear HC15
    try clear c1
    try clear p1
    try clear q1
    try clear hx1
    try clear c2
    try clear p2
    try clear c4
    try clear p6
    try clear c8
    try clear c8b0
    try clear c9
    try clear c9b0
    try clear c10
    try clear c10b0
    try clear c11
    try clear c11b0
    try clear c11b1
    try clear p16
    try clear q16
    try clear hx16
    try clear p17
    try clear q17
    try clear hx17
    try clear c19
    try clear c20
    try clear c21
    try clear c21b0
    try clear c22
    try clear c22b0
    try clear A4 A6 A7 A8
    try clear Bd Be Bf Bg
    try clear A9 Ba Bb Bc
    try clear Bh Bi Bj Bk
    try clear Ar
    try clear As
    try clear At
    try clear Au
    try clear Al
    try clear An
    try clear p167
    try clear p171
    try clear p2
    try clear q167
    try clear q171
    obtain ⟨kq, Aq, rfl, HA, HJ14, Ad, Ab, HB⟩ := hcut
    cases kq with
    | zero => exact absurd HA.out (by simp [tally_Sub.j1])
    | succ kj14 =>
     have H := HA.out
     clear HA
     simp only [tally_Sub.j1] at H
     by_cases c25 : Aq = true
     ·subst c25
      have H1 : (some (([] : List (S46)), 3)) = some (r1, r2) := by rw [if_pos rfl] at H; exact H
      clear H
      have H := H1
      clear H1
      simp only [Option.some.injEq, Prod.mk.injEq] at H
      obtain ⟨rfl, rfl⟩ := H
      go_wp2
      go_ret2
      exact ⟨_, pX, by first | exact Kd.R_nil _ _ _ _ _ | exact Kd.N_nil _ _ _ _ _ | exact Kd.V_nil _ _ _ _ _ | exact Kd.Q_nil _ _ _ _ _ | exact Kd.S_nil _ _ _ _ _, pE HB.out Aj.out⟩
     replace c25 := Bool.eq_false_iff.mpr c25
     subst c25
     have H1 : (if 0 ≤ t169 then (if t169 < (Ac.length : Int) then (if ((rd_T46 Ac t169).f1) = ((rd_T43 l1 Aa).f2) then ((slices_Delete_api_Share.f Ac t169 (wrap64 (t169 + 1))).bind fun t173 => (tally_Sub.l0 kj14 t173 l1 (l1.length : Int) (wrap64 (Aa + 1)))) else (tally_Sub.l0 kj14 (Ac.set (t169 : Int).toNat (⟨(rd_T46 Ac t169).f0, wrap64 (((rd_T46 Ac t169).f1) - ((rd_T43 l1 Aa).f2))⟩ : S46)) l1 (l1.length : Int) (wrap64 (Aa + 1)))) else (none)) else (none)) = some (r1, r2) := by rw [if_neg (show ¬ (false = true) by decide)] at H; exact H
     clear H
     have H := H1
     clear H1
     by_cases c26 : 0 ≤ t169
     rotate_left
     ·rw [if_neg c26] at H
      exact absurd H (by simp)
     rw [if_pos c26] at H
     have c26b0 : decide (0 ≤ t169) = true := decide_eq_true c26
     clear c26
     by_cases c27 : t169 < (Ac.length : Int)
     rotate_left
     ·rw [if_neg c27] at H
      exact absurd H (by simp)
     rw [if_pos c27] at H
     have c27b0 : decide (t169 < (Ac.length : Int)) = true := decide_eq_true c27
     clear c27
     by_cases c28 : ((rd_T46 Ac t169).f1) = ((rd_T43 l1 Aa).f2)
     ·rw [if_pos c28] at H
      have c28b0 : (((rd_T46 Ac t169).f1) == ((rd_T43 l1 Aa).f2)) = true := beq_iff_eq.mpr c28
      have c28b1 : (((rd_T46 Ac t169).f1) != ((rd_T43 l1 Aa).f2)) = false := bne_eq_false_iff_eq.mpr c28
      clear c28
      replace H := Option.bind_eq_some_iff.mp H
      obtain ⟨t173, A290, H⟩ := H
      replace H : (tally_Sub.l0 kj14 t173 l1 (l1.length : Int) (wrap64 (Aa + 1))) = some (r1, r2) := H
      have A29 := Am A290
      clear A290
      have H' := Am H
      clear H
      try go_wp2
      replace Ad := dRa Ad
      replace Ab := kDa Ab
      replace HB := bDa HB
      have p172 : 0 ≤ (t169 : Int) := of_decide_eq_true pS
      have q172 : t169 < (Ac.length : Int) := of_decide_eq_true pS
      obtain ⟨Ak, e172, Af, Ag⟩ := at_T46 (Kd.R_reads' Ad.out).2.2 t169 p172 q172
      cases e172
      replace p172 := eq_true p172
      replace q172 := eq_true q172
      refine start_ (n := 9) (S := fun w' => cG w' Ae 0 (.int .i64 ((rd_T43 l1 Aa).f0)) ∧ cG w' Ae 1 (.int .i64 ((rd_T43 l1 Aa).f1)) ∧ cG w' Ae 2 (.int .i64 ((rd_T43 l1 Aa).f2)) ∧ cG w' Ae 3 (.int .u32 ((rd_T43 l1 Aa).f3)) ∧ w'.cell? (Ak.add ((t169).toNat * 2)) = some (.int .i64 ((rd_T46 Ac t169).f0)) ∧ cA w' (Ak.add ((t169).toNat * 2)) 1 (.int .i64 ((rd_T46 Ac t169).f1))) (ds := []) #[false, false, false, false, false, false, false, false, false] (by kernel_rfl) rfl rfl ⟨(blk_cell Ab.out 0).trans rfl, (blk_cell Ab.out 1).trans rfl, (blk_cell Ab.out 2).trans rfl, (blk_cell Ab.out 3).trans rfl, Af, Ag⟩ (fun hHeld => ?_); refine with_tabW tally_Sub.tab12 tally_Sub.bits12 (fun HT_ HW_ => ?_)
      (first | generalize wc.drew = w30 at Ad Ab HB Af Ag hHeld ⊢ | generalize wc.drew = w30 at Ab HB Af Ag hHeld ⊢)
      refine pui 0 57 9 1 HT_ ?_
      refine pui 1 58 9 3 HT_ ?_
      refine pui 2 59 9 7 HT_ ?_
      refine pui 3 60 9 15 HT_ ?_
      refine pui 5 62 9 47 HT_ ?_
      refine tki 4 61 9 63 HT_ HW_ hHeld ?_
      refine tki 6 63 9 127 HT_ HW_ hHeld ?_
      refine pui 7 64 9 255 HT_ ?_
      refine pui 8 56 9 511 HT_ ?_
      refine done_ (done_of HT_.out (by kernel_rfl)) ?_
      try go_wp2_with (first | ((with_reducible refine gate_callee (f := 28) rfl ?_); refine goesL_ (some 69) rfl rfl Try.func28 (by kernel_rfl) rfl #[.slice (some Ak) Ac.length Av, .int .i64 t169, .int .i64 (wrap64 (t169 + 1))] rfl pL ?_; (with_reducible refine (slices_Delete_api_Share.calls (fun k_ => some k_ = (.slice (some Ak) Ac.length Av : Value).ownBlock) (.slice (some Ak) Ac.length Av) Ac t169 (wrap64 (t169 + 1)) t173 w _ ?Ah ?Ai A29.out).mono ?_); (case Ah => repeat (first | (with_reducible first | exact HB.out | apply below_alloc | apply pw_below_drewN | apply below_drew1 | refine below_set ?_ Aj.out) | exact HB.out)); (case Ai => exact Kd.R_tight rfl Ad.out); rintro e w31 ⟨v174, rfl, ho0, hb, hkp⟩; refine ⟨_, rfl, ?_⟩; replace Ab := Am (blk_kept (pK Ab.out) hkp (fun hs_ => (fun e_ => (Kd.R_ne Ad.out Ab.out (by decide)) e_) hs_)); have Br := Am (Kd.R_mono (ok' := fun k_ => True) ho0 (fun k_ hk_ => trivial)); replace HB := Am (hb); clear Ad; (try clear hb); (try clear hkp); (try clear ho0)))
      go_roundg kj14
      case measure => have := HK1.out; have := HJ14.out; omega
      case rel => exact ⟨(t173), (wrap64 (Aa + 1)), (by first | rfl | (simp; done) | (simp [*]; done)), H', ⟨by have := HK1.out; have := HJ14.out; omega⟩, ⟨by (with_reducible repeat (first | apply Kd.R_alloc | apply Kd.R_drewN | apply Kd.R_drew)); exact Br.out⟩, ⟨pE HB.out Aj.out⟩⟩
     rw [if_neg c28] at H
     have c28b0 : (((rd_T46 Ac t169).f1) == ((rd_T43 l1 Aa).f2)) = false := beq_eq_false_iff_ne.mpr c28
     have c28b1 : (((rd_T46 Ac t169).f1) != ((rd_T43 l1 Aa).f2)) = true := bne_iff_ne.mpr c28
     obtain ⟨y177, hy177⟩ : ∃ y_ : List (S46), y_ = (Ac.set (t169 : Int).toNat (⟨(rd_T46 Ac t169).f0, wrap64 (((rd_T46 Ac t169).f1) - ((rd_T43 l1 Aa).f2))⟩ : S46)) := ⟨_, rfl⟩
     replace H : (tally_Sub.l0 kj14 y177 l1 (l1.length : Int) (wrap64 (Aa + 1))) = some (r1, r2) := by first | (rw [hy177]; with_reducible exact H) | (have H2_ := (Option.bind_some _ _).symm.trans H; rw [hy177]; with_reducible exact H2_) | (have H2_ := (Option.bind_some _ _).symm.trans H; with_reducible exact H2_) | with_reducible exact H | (rw [hy177]; exact H) | exact H
     have Ny177 := Am hy177
     clear hy177
     have H' := Am H
     clear H
     try go_wp2
     replace Ad := dRa Ad
     replace Ab := kDa Ab
     replace HB := bDa HB
     have p172 : 0 ≤ (t169 : Int) := of_decide_eq_true pS
     have q172 : t169 < (Ac.length : Int) := of_decide_eq_true pS
     obtain ⟨Ak, e172, Af, Ag⟩ := at_T46 (Kd.R_reads' Ad.out).2.2 t169 p172 q172
     cases e172
     replace p172 := eq_true p172
     replace q172 := eq_true q172
     refine start_ (n := 9) (S := fun w' => cG w' Ae 0 (.int .i64 ((rd_T43 l1 Aa).f0)) ∧ cG w' Ae 1 (.int .i64 ((rd_T43 l1 Aa).f1)) ∧ cG w' Ae 2 (.int .i64 ((rd_T43 l1 Aa).f2)) ∧ cG w' Ae 3 (.int .u32 ((rd_T43 l1 Aa).f3)) ∧ w'.cell? (Ak.add ((t169).toNat * 2)) = some (.int .i64 ((rd_T46 Ac t169).f0)) ∧ cA w' (Ak.add ((t169).toNat * 2)) 1 (.int .i64 ((rd_T46 Ac t169).f1))) (ds := []) #[false, false, false, false, false, false, false, false, false] (by kernel_rfl) rfl rfl ⟨(blk_cell Ab.out 0).trans rfl, (blk_cell Ab.out 1).trans rfl, (blk_cell Ab.out 2).trans rfl, (blk_cell Ab.out 3).trans rfl, Af, Ag⟩ (fun hHeld => ?_); refine with_tabW tally_Sub.tab12 tally_Sub.bits12 (fun HT_ HW_ => ?_)
     (first | generalize wc.drew = w33 at Ad Ab HB Af Ag hHeld ⊢ | generalize wc.drew = w33 at Ab HB Af Ag hHeld ⊢)
     refine pui 0 57 9 1 HT_ ?_
     refine pui 1 58 9 3 HT_ ?_
     refine pui 2 59 9 7 HT_ ?_
     refine pui 3 60 9 15 HT_ ?_
     refine pui 5 62 9 47 HT_ ?_
     refine tki 4 61 9 63 HT_ HW_ hHeld ?_
     refine tki 6 63 9 127 HT_ HW_ hHeld ?_
     refine pui 7 64 9 255 HT_ ?_
     refine pui 8 56 9 511 HT_ ?_
     refine done_ (done_of HT_.out (by kernel_rfl)) ?_
     try go_wp2
     replace Ad := dRa Ad
     replace Ab := kDa Ab
     replace HB := bDa HB
     have p176 : 0 ≤ (t169 : Int) := of_decide_eq_true pS
     have q176 : t169 < (Ac.length : Int) := of_decide_eq_true pS
     obtain ⟨Bs, e176, Ao, Ap⟩ := at_T46 (Kd.R_reads' Ad.out).2.2 t169 p176 q176
     obtain rfl : Ak = Bs := (by injection e176)
     replace p176 := eq_true p176
     replace q176 := eq_true q176
     have p32 : 0 ≤ (t169 : Int) := of_decide_eq_true pS
     have q32 : (t169 : Int) < ((Ac.length : Int) : Int) := of_decide_eq_true pS
     obtain ⟨go32, co32, Bn, Bo, gl32, cl32, HG32⟩ := Kd.R_form Ad.out (by omega)
     (first | cases Bn | (injection Bn with ea_ en_ ec_; (first | subst ea_ | (injection ea_ with ea_; subst ea_)); subst ec_; clear en_))
     have GB32 := Am Bo
     have GG32 := Am HG32
     clear Bo gl32 HG32
     (first | simp only [add_plain] at Af | skip)
     (first | simp only [add_plain] at Ag | skip)
     (first | simp only [add_plain] at Ao | skip)
     (first | simp only [add_plain] at Ap | skip)
     obtain ⟨ce32, hcl32, hM32, hcc32, hfr32⟩ := Kd.R_elem Ad.out z46 (t169 : Int) p32 q32
     obtain rfl := k46_openM hM32
     have Az : World.cell? _ ⟨go32, (t169 : Int).toNat * 2, none⟩ = some (.int .i64 ((rd_T46 Ac t169).f0)) := hcc32 0 _ rfl
     have A2 : World.cell? _ ⟨go32, (t169 : Int).toNat * 2 + 1, none⟩ = some (.int .i64 ((rd_T46 Ac t169).f1)) := hcc32 1 _ rfl
     have hf32_0 : World.frozen? _ ⟨go32, (t169 : Int).toNat * 2, none⟩ = false := hfr32 0
     have hf32_1 : World.frozen? _ ⟨go32, (t169 : Int).toNat * 2 + 1, none⟩ = false := hfr32 1
     clear hcl32 hcc32 hfr32 hM32
     replace p32 := eq_true p32
     replace q32 := eq_true q32
     obtain ⟨ce35, hcl35, hM35, hcc35, hfr35⟩ := Kd.R_elem Ad.out z46 (t169 : Int) (of_decide_eq_true pS) (by have h_ : (t169 : Int) < ((Ac.length : Int) : Int) := of_decide_eq_true pS; first | exact h_ | (have e_ := (Kd.R_reads' Ad.out).1; omega) | simpa using h_)
     obtain rfl := k46_openM hM35
     have HP35 := (Kd.R_seg Ad.out (t169 : Int) (of_decide_eq_true pS) (by have h_ : (t169 : Int) < ((Ac.length : Int) : Int) := of_decide_eq_true pS; first | exact h_ | (have e_ := (Kd.R_reads' Ad.out).1; omega) | simpa using h_) (seg := [.int .i64 (wrap64 (((rd_T46 Ac t169).f1) - ((rd_T43 l1 Aa).f2)))]) (j := 1) hcl35 hcc35 (show 2 ≤ 2 from by decide) (x' := (⟨(rd_T46 Ac t169).f0, wrap64 (((rd_T46 Ac t169).f1) - ((rd_T43 l1 Aa).f2))⟩ : S46)) (k46_mkM _ _ _ (⟨(rd_T46 Ac t169).f0, wrap64 (((rd_T46 Ac t169).f1) - ((rd_T43 l1 Aa).f2))⟩ : S46) ) (fun _ hk => hk)).1
     rw [← Ny177.out] at HP35
     have HQ35 := Am HP35
     clear hcl35 hcc35 hfr35 hM35 HP35
     refine start_ (n := 11) (S := fun w' => cG w' Ae 0 (.int .i64 ((rd_T43 l1 Aa).f0)) ∧ cG w' Ae 1 (.int .i64 ((rd_T43 l1 Aa).f1)) ∧ cG w' Ae 2 (.int .i64 ((rd_T43 l1 Aa).f2)) ∧ cG w' Ae 3 (.int .u32 ((rd_T43 l1 Aa).f3)) ∧ w'.cell? ⟨go32, ((t169).toNat * 2), none⟩ = some (.int .i64 ((rd_T46 Ac t169).f0)) ∧ w'.cell? ⟨go32, ((t169).toNat * 2) + 1, none⟩ = some (.int .i64 ((rd_T46 Ac t169).f1))) (ds := [10]) #[false, false, false, false, false, false, false, false, false, false, false] (by kernel_rfl) rfl rfl ⟨(blk_cell Ab.out 0).trans rfl, (blk_cell Ab.out 1).trans rfl, (blk_cell Ab.out 2).trans rfl, (blk_cell Ab.out 3).trans rfl, Ao, Ap⟩ (fun hHeld => ?_); refine with_tabW tally_Sub.tab9 tally_Sub.bits9 (fun HT_ HW_ => ?_)
     (first | generalize w33.drew = w34 at Ad Ab HB GG32 HQ35 hf32_0 hf32_1 Af Ag Ao Ap Az A2 hHeld ⊢ | generalize w33.drew = w34 at Ab HB GG32 HQ35 hf32_0 hf32_1 Af Ag Ao Ap Az A2 hHeld ⊢)
     refine pui 0 33 11 1 HT_ ?_
     refine pui 1 34 11 3 HT_ ?_
     refine pui 2 35 11 7 HT_ ?_
     refine pui 3 36 11 15 HT_ ?_
     refine pui 5 38 11 47 HT_ ?_
     refine tki 4 37 11 63 HT_ HW_ hHeld ?_
     refine tki 6 39 11 127 HT_ HW_ hHeld ?_
     refine pui 7 40 11 255 HT_ ?_
     refine pui 8 41 11 511 HT_ ?_
     refine pui 9 42 11 1023 HT_ ?_
     refine last_ (i := 10) (N := none) (bw 11 2047) rfl rfl (one_of HT_.out (by kernel_rfl)) (by decide) (fun K hK => ?_)
     refine skip_ (w1 := ?_) (by rfl) rfl ?_ ?_
     rotate_left
     ·go_simp
      rfl
     refine hK.out _ _ ?_
     clear hK K
     refine done_ (done_of HT_.out (by kernel_rfl)) ?_
     try go_wp2
     go_roundg kj14
     case measure => have := HK1.out; have := HJ14.out; omega
     case rel => exact ⟨(y177), (wrap64 (Aa + 1)), (by first | rfl | (simp; done) | (simp [*]; done)), H', ⟨by have := HK1.out; have := HJ14.out; omega⟩, ⟨by (with_reducible repeat (first | apply Kd.R_alloc | apply Kd.R_drewN | apply Kd.R_drew)); exact HQ35.out⟩, ⟨pE2 HB.out GB32.out Aj.out⟩⟩
def garnerlaw09_TallyBack.l0 : Nat → List (S46) → List (S43) → List (S46) → List (S43) → Int → Option (Bool)
 | 0, _, _, _, _, _ => none
 | k + 1, x0, x1, x5, x7, x8 => if x8 ≥ 0 then (if 0 ≤ x8 then (if x8 < (x1.length : Int) then (if x7.length < 4398046511104 then (garnerlaw09_TallyBack.l0 k x0 x1 x5 (x7 ++ [(⟨(rd_T43 x1 x8).f0, (rd_T43 x1 x8).f1, (rd_T43 x1 x8).f2, (rd_T43 x1 x8).f3⟩ : S43)]) (wrap64 (x8 - 1))) else (none)) else (none)) else (none)) else ((tally_Sub.f k x5 x1).bind fun bt192 => ((tally_Add.f k x0 x7).bind fun bt196 => (if bt192.2 = 0 then (if bt196.2 = 0 then ((garnerref09_Same.f k bt192.1 x0).bind fun t200 => (if t200 = true then ((garnerref09_Same.f k bt196.1 x5).bind fun t201 => (if t201 = true then ((garnerlaw09_awake.f k).bind fun t202 => (some t202)) else (some false))) else (some false))) else (some false)) else (some false))))
def garnerlaw09_TallyBack.f (k : Nat) (l0 : List (S46)) (l1 : List (S43)) : Option (Bool) := (garnerlaw09_light.f l0 l1).bind fun t178 => (if t178 = true then ((tally_Add.f k l0 l1).bind fun bt180 => (if bt180.2 = 0 then (garnerlaw09_TallyBack.l0 k l0 l1 bt180.1 (([] : List (S43))) (wrap64 ((l1.length : Int) - 1))) else ((garnerlaw09_awake.f k).bind fun t184 => (some t184)))) else ((garnerlaw09_awake.f k).bind fun t179 => (some t179)))
theorem garnerlaw09_TallyBack.mono_l : ∀ k, (∀ y0 y1 y2 y3 y4, LeO (garnerlaw09_TallyBack.l0 k y0 y1 y2 y3 y4) (garnerlaw09_TallyBack.l0 (k + 1) y0 y1 y2 y3 y4))
 | 0 => fun _ _ _ _ _ r h => by simp [garnerlaw09_TallyBack.l0] at h
 | k + 1 => by
  have ih0 := garnerlaw09_TallyBack.mono_l k
  ·intro y0 y1 y2 y3 y4
   unfold garnerlaw09_TallyBack.l0
   repeat' first
   | (with_reducible exact ih0 _ _ _ _ _)
   | (with_reducible exact garnerlaw09_awake.mono _)
   | (with_reducible exact garnerref09_Same.mono _ _ _)
   | (with_reducible exact tally_Add.mono _ _ _)
   | (with_reducible exact tally_Sub.mono _ _ _)
   | (with_reducible exact LeO.refl _)
   | (with_reducible exact LeO.none _)
   | (with_reducible refine LeO.ite ?_ ?_)
   | (with_reducible refine LeO.bind ?_ (fun _ => ?_))
   | exact ih0 _ _ _ _ _
   | exact garnerlaw09_awake.mono _
   | exact garnerref09_Same.mono _ _ _
   | exact tally_Add.mono _ _ _
   | exact tally_Sub.mono _ _ _
   | exact LeO.none _
   | refine LeO.ite ?_ ?_
   | refine LeO.bind ?_ (fun _ => ?_)
theorem garnerlaw09_TallyBack.mono : ∀ a0 a1 k, LeO (garnerlaw09_TallyBack.f k a0 a1) (garnerlaw09_TallyBack.f (k + 1) a0 a1) := by
 intro a0 a1 k
 have ih0 := garnerlaw09_TallyBack.mono_l k
 unfold garnerlaw09_TallyBack.f
 repeat' first
   | (with_reducible exact ih0 _ _ _ _ _)
   | (with_reducible exact garnerlaw09_awake.mono _)
   | (with_reducible exact garnerref09_Same.mono _ _ _)
   | (with_reducible exact tally_Add.mono _ _ _)
   | (with_reducible exact tally_Sub.mono _ _ _)
   | (with_reducible exact LeO.refl _)
   | (with_reducible exact LeO.none _)
   | (with_reducible refine LeO.ite ?_ ?_)
   | (with_reducible refine LeO.bind ?_ (fun _ => ?_))
   | exact ih0 _ _ _ _ _
   | exact garnerlaw09_awake.mono _
   | exact garnerref09_Same.mono _ _ _
   | exact tally_Add.mono _ _ _
   | exact tally_Sub.mono _ _ _
   | exact LeO.none _
   | refine LeO.ite ?_ ?_
   | refine LeO.bind ?_ (fun _ => ?_)
set_option maxHeartbeats 8000000 in
set_option maxRecDepth 100000 in
theorem garnerlaw09_TallyBack.calls (k : Nat) (A0 : Option Addr) (c0 : Nat) (l0 : List (S46)) (A1 : Option Addr) (c1 : Nat) (l1 : List (S43)) (r : Bool) (w : World) (hr0 : Kd.C k46 w A0 l0.length l0) (hc0 : l0.length ≤ c0) (hr1 : Kd.C k43 w A1 l1.length l1) (hc1 : l1.length ≤ c1) (h : garnerlaw09_TallyBack.f k l0 l1 = some r) :
  Calls Try.prog 6 #[.slice A0 l0.length c0, .slice A1 l1.length c1] w fun e w' => e = .returned (.bool r) ∧ Below w.heap.size w w' := by
 have hu43 := Try.underlying43
 have HR0 := Am hr0
 have HC0 := Am hc0
 clear hr0 hc0
 have HR1 := Am hr1
 have HC1 := Am hc1
 clear hr1 hc1
 have HB := Am (Below.refl w.heap.size w)
 have H : ((garnerlaw09_light.f l0 l1).bind fun t178 => (if t178 = true then ((tally_Add.f k l0 l1).bind fun bt180 => (if bt180.2 = 0 then (garnerlaw09_TallyBack.l0 k l0 l1 bt180.1 (([] : List (S43))) (wrap64 ((l1.length : Int) - 1))) else ((garnerlaw09_awake.f k).bind fun t184 => (some t184)))) else ((garnerlaw09_awake.f k).bind fun t179 => (some t179)))) = some r := h
 clear h
 replace H := Option.bind_eq_some_iff.mp H
 obtain ⟨t178, A30, H⟩ := H
 replace H : (if t178 = true then ((tally_Add.f k l0 l1).bind fun bt180 => (if bt180.2 = 0 then (garnerlaw09_TallyBack.l0 k l0 l1 bt180.1 (([] : List (S43))) (wrap64 ((l1.length : Int) - 1))) else ((garnerlaw09_awake.f k).bind fun t184 => (some t184)))) else ((garnerlaw09_awake.f k).bind fun t179 => (some t179))) = some r := H
 have A3 := Am A30
 clear A30
 by_cases c4 : t178 = true
 rotate_left
 ·replace c4 := Bool.eq_false_iff.mpr c4
  subst c4
  have H1 : ((garnerlaw09_awake.f k).bind fun t179 => (some t179)) = some r := by rw [if_neg (show ¬ (false = true) by decide)] at H; exact H
  clear H
  have H := H1
  clear H1
  replace H := Option.bind_eq_some_iff.mp H
  obtain ⟨t179, A530, H⟩ := H
  replace H : (some t179) = some r := H
  have A53 := Am A530
  clear A530
  obtain rfl := Option.some.inj H
  go_enter Try.func6, Try.ntmps6
  go_wp2_with (first | ((with_reducible refine gate_callee (f := 7) rfl ?_); refine goesL_ (some 15) rfl rfl Try.func7 (by kernel_rfl) rfl #[.slice A0 l0.length c0, .slice A1 l1.length c1] rfl pL ?_; (with_reducible refine (garnerlaw09_light.calls _ _ l0 _ _ l1 false _ ?Aa ?Ab ?Ac ?Ad A3.out).mono ?_); (case Aa => repeat (first | exact HR0.out | (with_reducible refine Kd.C_alloc ?_ _) | (with_reducible refine Kd.C_drewN ?_ _) | (with_reducible refine Kd.C_drew ?_))); (case Ab => exact HC0.out); (case Ac => repeat (first | exact HR1.out | (with_reducible refine Kd.C_alloc ?_ _) | (with_reducible refine Kd.C_drewN ?_ _) | (with_reducible refine Kd.C_drew ?_))); (case Ad => exact HC1.out); rintro e w' ⟨rfl, ⟨nd, rfl⟩⟩; refine ⟨_, rfl, ?_⟩) | ((with_reducible refine gate_callee (f := 8) rfl ?_); refine goesL_ (some 17) rfl rfl Try.func8 (by kernel_rfl) rfl #[] rfl pL ?_; (with_reducible refine (garnerlaw09_awake.calls k  t179 _ A53.out).mono ?_); rintro e w54 ⟨rfl, hb⟩; refine ⟨_, rfl, ?_⟩; replace HB := Am (below_step (pB HB.out) hb); (try clear hb); (try clear hb2); (try clear hk); (try clear hi)))
  go_ret
  exact ⟨pX, pB HB.out⟩
 subst c4
 have H1 : ((tally_Add.f k l0 l1).bind fun bt180 => (if bt180.2 = 0 then (garnerlaw09_TallyBack.l0 k l0 l1 bt180.1 (([] : List (S43))) (wrap64 ((l1.length : Int) - 1))) else ((garnerlaw09_awake.f k).bind fun t184 => (some t184)))) = some r := by rw [if_pos rfl] at H; exact H
 clear H
 have H := H1
 clear H1
 replace H := Option.bind_eq_some_iff.mp H
 obtain ⟨⟨t180, t181⟩, A50, H⟩ := H
 replace H : (if t181 = 0 then (garnerlaw09_TallyBack.l0 k l0 l1 t180 (([] : List (S43))) (wrap64 ((l1.length : Int) - 1))) else ((garnerlaw09_awake.f k).bind fun t184 => (some t184))) = some r := H
 have A5 := Am A50
 clear A50
 by_cases c6 : t181 = 0
 rotate_left
 ·rw [if_neg c6] at H
  have c6b0 : (t181 == 0) = false := beq_eq_false_iff_ne.mpr c6
  have c6b1 : (t181 != 0) = true := bne_iff_ne.mpr c6
  replace H := Option.bind_eq_some_iff.mp H
  obtain ⟨t184, A500, H⟩ := H
  replace H : (some t184) = some r := H
  have A50 := Am A500
  clear A500
  obtain rfl := Option.some.inj H
  go_enter Try.func6, Try.ntmps6
  go_wp2_with (first | ((with_reducible refine gate_callee (f := 7) rfl ?_); refine goesL_ (some 15) rfl rfl Try.func7 (by kernel_rfl) rfl #[.slice A0 l0.length c0, .slice A1 l1.length c1] rfl pL ?_; (with_reducible refine (garnerlaw09_light.calls _ _ l0 _ _ l1 true _ ?Aa ?Ab ?Ac ?Ad A3.out).mono ?_); (case Aa => repeat (first | exact HR0.out | (with_reducible refine Kd.C_alloc ?_ _) | (with_reducible refine Kd.C_drewN ?_ _) | (with_reducible refine Kd.C_drew ?_))); (case Ab => exact HC0.out); (case Ac => repeat (first | exact HR1.out | (with_reducible refine Kd.C_alloc ?_ _) | (with_reducible refine Kd.C_drewN ?_ _) | (with_reducible refine Kd.C_drew ?_))); (case Ad => exact HC1.out); rintro e w' ⟨rfl, ⟨nd, rfl⟩⟩; refine ⟨_, rfl, ?_⟩) | ((with_reducible refine gate_callee (f := 9) rfl ?_); refine goesL_ (some 21) rfl rfl Try.func9 (by kernel_rfl) rfl #[.slice A0 l0.length c0, .slice A1 l1.length c1] rfl pL ?_; (with_reducible refine (tally_Add.calls k _ _ l0 _ _ l1 t180 t181 _ ?Aa ?Ab ?Ac ?Ad A5.out).mono ?_); (case Aa => repeat (first | exact HR0.out | (with_reducible refine Kd.C_alloc ?_ _) | (with_reducible refine Kd.C_drewN ?_ _) | (with_reducible refine Kd.C_drew ?_))); (case Ab => exact HC0.out); (case Ac => repeat (first | exact HR1.out | (with_reducible refine Kd.C_alloc ?_ _) | (with_reducible refine Kd.C_drewN ?_ _) | (with_reducible refine Kd.C_drew ?_))); (case Ad => exact HC1.out); rintro e w51 ⟨v182, rfl, ho0, hb⟩; refine ⟨_, rfl, ?_⟩; have Ak := Am (Kd.R_lower ho0 (below_size (pB HB.out))); replace HB := Am (below_step (pB HB.out) hb); (try clear hb); (try clear hb2); (try clear hk); (try clear hi); (try clear ho0)) | ((with_reducible refine gate_callee (f := 8) rfl ?_); refine goesL_ (some 26) rfl rfl Try.func8 (by kernel_rfl) rfl #[] rfl pL ?_; (with_reducible refine (garnerlaw09_awake.calls k  t184 _ A50.out).mono ?_); rintro e w52 ⟨rfl, hb⟩; refine ⟨_, rfl, ?_⟩; replace Ak := bRa Ak hb; replace HB := Am (below_step (pB HB.out) hb); (try clear hb); (try clear hb2); (try clear hk); (try clear hi)))
  go_ret
  exact ⟨pX, pB HB.out⟩
 rw [if_pos c6] at H
 have c6b0 : (t181 == 0) = true := beq_iff_eq.mpr c6
 have c6b1 : (t181 != 0) = false := bne_eq_false_iff_eq.mpr c6
 clear c6
 obtain ⟨y185, hy185⟩ : ∃ y_ : List (S43), y_ = (([] : List (S43))) := ⟨_, rfl⟩
 replace H : (garnerlaw09_TallyBack.l0 k l0 l1 t180 y185 (wrap64 ((l1.length : Int) - 1))) = some r := by first | (rw [hy185]; with_reducible exact H) | (have H2_ := (Option.bind_some _ _).symm.trans H; rw [hy185]; with_reducible exact H2_) | (have H2_ := (Option.bind_some _ _).symm.trans H; with_reducible exact H2_) | with_reducible exact H | (rw [hy185]; exact H) | exact H
 have Ny185 := Am hy185
 clear hy185
 have H' := Am H
 clear H
 go_enter Try.func6, Try.ntmps6
 go_wp2_with (first | ((with_reducible refine gate_callee (f := 7) rfl ?_); refine goesL_ (some 15) rfl rfl Try.func7 (by kernel_rfl) rfl #[.slice A0 l0.length c0, .slice A1 l1.length c1] rfl pL ?_; (with_reducible refine (garnerlaw09_light.calls _ _ l0 _ _ l1 true _ ?Aa ?Ab ?Ac ?Ad A3.out).mono ?_); (case Aa => repeat (first | exact HR0.out | (with_reducible refine Kd.C_alloc ?_ _) | (with_reducible refine Kd.C_drewN ?_ _) | (with_reducible refine Kd.C_drew ?_))); (case Ab => exact HC0.out); (case Ac => repeat (first | exact HR1.out | (with_reducible refine Kd.C_alloc ?_ _) | (with_reducible refine Kd.C_drewN ?_ _) | (with_reducible refine Kd.C_drew ?_))); (case Ad => exact HC1.out); rintro e w' ⟨rfl, ⟨nd, rfl⟩⟩; refine ⟨_, rfl, ?_⟩) | ((with_reducible refine gate_callee (f := 9) rfl ?_); refine goesL_ (some 21) rfl rfl Try.func9 (by kernel_rfl) rfl #[.slice A0 l0.length c0, .slice A1 l1.length c1] rfl pL ?_; (with_reducible refine (tally_Add.calls k _ _ l0 _ _ l1 t180 t181 _ ?Aa ?Ab ?Ac ?Ad A5.out).mono ?_); (case Aa => repeat (first | exact HR0.out | (with_reducible refine Kd.C_alloc ?_ _) | (with_reducible refine Kd.C_drewN ?_ _) | (with_reducible refine Kd.C_drew ?_))); (case Ab => exact HC0.out); (case Ac => repeat (first | exact HR1.out | (with_reducible refine Kd.C_alloc ?_ _) | (with_reducible refine Kd.C_drewN ?_ _) | (with_reducible refine Kd.C_drew ?_))); (case Ad => exact HC1.out); rintro e w7 ⟨v182, rfl, ho0, hb⟩; refine ⟨_, rfl, ?_⟩; have Ak := Am (Kd.R_lower ho0 (below_size (pB HB.out))); replace HB := Am (below_step (pB HB.out) hb); (try clear hb); (try clear hb2); (try clear hk); (try clear hi); (try clear ho0)) | ((with_reducible refine gate_dst (N := 27) rfl ?_); refine Kd.R_lit k43 _ 43 ?hg (N := 27) ?hd (xs := ([] : List (S43))) (inner := []) (ok := fun _ => True) (okp := fun _ => True) ?hr ?hp (fun _ hk => hk) trivial (Below.refl _ _) (Nat.le_refl _) (by simp) ?_; (case hd => rfl); (case hg => rfl); (case hr => first | (go_simp; done) | (go_simp; rfl)); (case hp => exact (Reps.none _ _)); intro v186 w8 ho9 hb hg_ hnew_; clear hg_ hnew_; (first | rw [← Ny185.out] at ho9 | (simp only [Int.reduceToNat] at ho9; rw [← Ny185.out] at ho9)); replace Ak := bRa Ak hb; have Al := Am (Kd.R_lower ho9 (below_size (pB HB.out))); replace HB := Am (below_step (pB HB.out) hb); clear hb ho9))
 go_loopg [7, 8] k (fun kq v7 v8 w' => ∃ (Aj : List (S43)) (Ah : Int), v8 = .int .i64 Ah ∧ Aside0 (garnerlaw09_TallyBack.l0 kq l0 l1 t180 Aj Ah = some r) ∧ Aside0 (kq ≤ k) ∧ Aside0 (Kd.R k46 46 w' w.heap.size (fun _ => True) v182 t180) ∧ Aside0 (Kd.R k43 43 w' w.heap.size (fun _ => True) v7 Aj) ∧ Aside0 (Below w.heap.size w w'))
 case atStart => exact ⟨(y185), (wrap64 ((l1.length : Int) - 1)), (by first | rfl | (simp; done) | (simp [*]; done)), H', ⟨Nat.le_refl _⟩, ⟨by (with_reducible repeat (first | apply Kd.R_alloc | apply Kd.R_drewN | apply Kd.R_drew)); exact Ak.out⟩, ⟨by (with_reducible repeat (first | apply Kd.R_alloc | apply Kd.R_drewN | apply Kd.R_drew)); exact Al.out⟩, ⟨pB HB.out⟩⟩
 case round =>
  clear H'
  try clear c1
  try clear p2
  try clear c4
  try clear c6
  try clear c6b0
  try clear c6b1
  try clear p6
  try clear c7
  try clear c9
  obtain ⟨Aj, Ah, rfl, HA, HK1, Ae, Ag, HB⟩ := hrel
  cases gk with
  | zero => exact absurd HA.out (by simp [garnerlaw09_TallyBack.l0])
  | succ k1 =>
   have H := HA.out
   clear HA
   simp only [garnerlaw09_TallyBack.l0] at H
   by_cases c10 : Ah ≥ 0
   ·rw [if_pos c10] at H
    have c10b0 : decide (0 ≤ Ah) = true := decide_eq_true c10
    clear c10
    by_cases c11 : 0 ≤ Ah
    rotate_left
    ·rw [if_neg c11] at H
     exact absurd H (by simp)
    rw [if_pos c11] at H
    have c11b0 : decide (0 ≤ Ah) = true := decide_eq_true c11
    clear c11
    by_cases c12 : Ah < (l1.length : Int)
    rotate_left
    ·rw [if_neg c12] at H
     exact absurd H (by simp)
    rw [if_pos c12] at H
    have c12b0 : decide (Ah < (l1.length : Int)) = true := decide_eq_true c12
    clear c12
    by_cases c13 : Aj.length < 4398046511104
    rotate_left
    ·rw [if_neg c13] at H
     exact absurd H (by simp)
    rw [if_pos c13] at H
    have LMc13 := Am c13
    clear c13
    obtain ⟨y189, hy189⟩ : ∃ y_ : List (S43), y_ = (Aj ++ [(⟨(rd_T43 l1 Ah).f0, (rd_T43 l1 Ah).f1, (rd_T43 l1 Ah).f2, (rd_T43 l1 Ah).f3⟩ : S43)]) := ⟨_, rfl⟩
    replace H : (garnerlaw09_TallyBack.l0 k1 l0 l1 t180 y189 (wrap64 (Ah - 1))) = some r := by first | (rw [hy189]; with_reducible exact H) | (have H2_ := (Option.bind_some _ _).symm.trans H; rw [hy189]; with_reducible exact H2_) | (have H2_ := (Option.bind_some _ _).symm.trans H; with_reducible exact H2_) | with_reducible exact H | (rw [hy189]; exact H) | exact H
    have Ny189 := Am hy189
    clear hy189
    have H' := Am H
    clear H
    have p188 : 0 ≤ (Ah : Int) := of_decide_eq_true pS
    have q188 : Ah < (l1.length : Int) := of_decide_eq_true pS
    obtain ⟨ad188, e188, hx188_0, hx188_1, hx188_2, hx188_3⟩ := at_T43u HR1.out Ah p188 q188 HB.out
    cases e188
    replace p188 := eq_true p188
    replace q188 := eq_true q188
    go_wp2_with (first | ((with_reducible refine gate_builtin (b := .append) (xs := #[.tmp 35, .tmp 40]) rfl ?_); at_builtin; refine Kd.R_append k43 (w0 := w) w.heap.size rfl (.tmp 35) (.tmp 40) 23 43 (.agg #[(.int .i64 0), (.int .i64 0), (.int .i64 0), (.int .u32 0)]) 32 rfl Try.underlying23 info43 rfl (by decide) (by omega) u7 Aj (⟨(rd_T43 l1 Ah).f0, (rd_T43 l1 Ah).f1, (rd_T43 l1 Ah).f2, (rd_T43 l1 Ah).f3⟩ : S43) [.int .i64 ((rd_T43 l1 Ah).f0), .int .i64 ((rd_T43 l1 Ah).f1), .int .i64 ((rd_T43 l1 Ah).f2), .int .u32 ((rd_T43 l1 Ah).f3)] (fun _ => True) (fun _ => False) rfl rfl ?aP (fun _ hk => hk.elim) ?aF ?aO ?aB ?aS ?aL ?_; (case aP => exact k43_mkM _ _ _ (⟨(rd_T43 l1 Ah).f0, (rd_T43 l1 Ah).f1, (rd_T43 l1 Ah).f2, (rd_T43 l1 Ah).f3⟩ : S43)); (case aB => exact (pB HB.out)); (case aF => exact (fun _ _ => trivial)); (case aO => exact (pR Ag.out)); (case aS => exact (below_size (pB HB.out))); (case aL => have := LMc13.out; omega); intro v190 w14 ho hb hg hat; rw [← Ny189.out] at ho; replace Ae := Am (Kd.R_over' (pR Ae.out) (Kd.R_typed (pR Ag.out)) (by decide) hg); replace HB := Am (hb); have An := Am (ho); clear Ag ho hb hg hat))
    go_roundg k1
    case measure => have := HK1.out; omega
    case rel => exact ⟨(y189), (wrap64 (Ah - 1)), (by first | rfl | (simp; done) | (simp [*]; done)), H', ⟨by have := HK1.out; omega⟩, ⟨by (with_reducible repeat (first | apply Kd.R_alloc | apply Kd.R_drewN | apply Kd.R_drew)); exact Ae.out⟩, ⟨by (with_reducible repeat (first | apply Kd.R_alloc | apply Kd.R_drewN | apply Kd.R_drew)); exact An.out⟩, ⟨pB HB.out⟩⟩
   rw [if_neg c10] at H
   have c10b0 : decide (0 ≤ Ah) = false := decide_eq_false c10
   clear c10
   replace H := Option.bind_eq_some_iff.mp H
   obtain ⟨⟨t192, t193⟩, A150, H⟩ := H
   replace H : ((tally_Add.f k1 l0 Aj).bind fun bt196 => (if t193 = 0 then (if bt196.2 = 0 then ((garnerref09_Same.f k1 t192 l0).bind fun t200 => (if t200 = true then ((garnerref09_Same.f k1 bt196.1 t180).bind fun t201 => (if t201 = true then ((garnerlaw09_awake.f k1).bind fun t202 => (some t202)) else (some false))) else (some false))) else (some false)) else (some false))) = some r := H
   have A15 := Am A150
   clear A150
   replace H := Option.bind_eq_some_iff.mp H
   obtain ⟨⟨t196, t197⟩, A160, H⟩ := H
   replace H : (if t193 = 0 then (if t197 = 0 then ((garnerref09_Same.f k1 t192 l0).bind fun t200 => (if t200 = true then ((garnerref09_Same.f k1 t196 t180).bind fun t201 => (if t201 = true then ((garnerlaw09_awake.f k1).bind fun t202 => (some t202)) else (some false))) else (some false))) else (some false)) else (some false)) = some r := H
   have A16 := Am A160
   clear A160
   by_cases c17 : t193 = 0
   rotate_left
   ·rw [if_neg c17] at H
    have c17b0 : (t193 == 0) = false := beq_eq_false_iff_ne.mpr c17
    have c17b1 : (t193 != 0) = true := bne_iff_ne.mpr c17
    obtain rfl := Option.some.inj H
    obtain ⟨Bl, Bm, Bn⟩ := Kd.R_slice Ae.out
    subst Bn
    go_wp2_with (first | ((with_reducible refine gate_callee (f := 19) rfl ?_); refine goesL_ (some 45) rfl rfl Try.func19 (by kernel_rfl) rfl #[.slice Bl t180.length Bm, .slice A1 l1.length c1] rfl pL ?_; (with_reducible refine (tally_Sub.calls k1 _ _ t180 _ _ l1 t192 t193 _ ?Aa ?Ab ?Ac ?Ad A15.out).mono ?_); (case Aa => exact pC (Kd.R_reads' Ae.out).2.2); (case Ab => exact (Kd.R_reads' Ae.out).2.1); (case Ac => exact pC (Kd.C_below HR1.out HB.out)); (case Ad => exact HC1.out); rintro e w47 ⟨v194, rfl, ho0, hb⟩; refine ⟨_, rfl, ?_⟩; replace Ag := bRa Ag hb; have Af := Am (Kd.R_lower (Kd.R_new' ho0 (Kd.R_lt (pR Ae.out))) (below_size (pB HB.out))); replace Ae := Am (Kd.R_elder' (pR Ae.out) (Kd.R_base ho0) hb); replace HB := Am (below_step (pB HB.out) hb); (try clear hb); (try clear hb2); (try clear hk); (try clear hi); (try clear ho0); obtain ⟨Bo, Bp, Bq⟩ := Kd.R_slice Ag.out; subst Bq) | ((with_reducible refine gate_callee (f := 9) rfl ?_); refine goesL_ (some 51) rfl rfl Try.func9 (by kernel_rfl) rfl #[.slice A0 l0.length c0, .slice Bo Aj.length Bp] rfl pL ?_; (with_reducible refine (tally_Add.calls k1 _ _ l0 _ _ Aj t196 t197 _ ?Aa ?Ab ?Ac ?Ad A16.out).mono ?_); (case Aa => exact pC (Kd.C_below HR0.out HB.out)); (case Ab => exact HC0.out); (case Ac => exact pC (Kd.R_reads' Ag.out).2.2); (case Ad => exact (Kd.R_reads' Ag.out).2.1); rintro e w49 ⟨v198, rfl, ho0, hb⟩; refine ⟨_, rfl, ?_⟩; replace Ag := bRa Ag hb; have Ai := Am (Kd.R_lower (Kd.R_new' (Kd.R_new' ho0 (Kd.R_lt (pR Ae.out))) (Kd.R_lt (pR Af.out))) (below_size (pB HB.out))); replace Ae := Am (Kd.R_elder' (pR Ae.out) (Kd.R_base ho0) hb); replace Af := Am (Kd.R_elder' (pR Af.out) (Kd.R_base ho0) hb); replace HB := Am (below_step (pB HB.out) hb); (try clear hb); (try clear hb2); (try clear hk); (try clear hi); (try clear ho0)))
    go_ret
    exact ⟨pX, pB HB.out⟩
   rw [if_pos c17] at H
   have c17b0 : (t193 == 0) = true := beq_iff_eq.mpr c17
   have c17b1 : (t193 != 0) = false := bne_eq_false_iff_eq.mpr c17
   clear c17
   by_cases c18 : t197 = 0
   rotate_left
   ·rw [if_neg c18] at H
    have c18b0 : (t197 == 0) = false := beq_eq_false_iff_ne.mpr c18
    have c18b1 : (t197 != 0) = true := bne_iff_ne.mpr c18
    obtain rfl := Option.some.inj H
    obtain ⟨Bf, Bg, Bh⟩ := Kd.R_slice Ae.out
    subst Bh
    go_wp2_with (first | ((with_reducible refine gate_callee (f := 19) rfl ?_); refine goesL_ (some 45) rfl rfl Try.func19 (by kernel_rfl) rfl #[.slice Bf t180.length Bg, .slice A1 l1.length c1] rfl pL ?_; (with_reducible refine (tally_Sub.calls k1 _ _ t180 _ _ l1 t192 t193 _ ?Aa ?Ab ?Ac ?Ad A15.out).mono ?_); (case Aa => exact pC (Kd.R_reads' Ae.out).2.2); (case Ab => exact (Kd.R_reads' Ae.out).2.1); (case Ac => exact pC (Kd.C_below HR1.out HB.out)); (case Ad => exact HC1.out); rintro e w43 ⟨v194, rfl, ho0, hb⟩; refine ⟨_, rfl, ?_⟩; replace Ag := bRa Ag hb; have Af := Am (Kd.R_lower (Kd.R_new' ho0 (Kd.R_lt (pR Ae.out))) (below_size (pB HB.out))); replace Ae := Am (Kd.R_elder' (pR Ae.out) (Kd.R_base ho0) hb); replace HB := Am (below_step (pB HB.out) hb); (try clear hb); (try clear hb2); (try clear hk); (try clear hi); (try clear ho0); obtain ⟨Bi, Bj, Bk⟩ := Kd.R_slice Ag.out; subst Bk) | ((with_reducible refine gate_callee (f := 9) rfl ?_); refine goesL_ (some 51) rfl rfl Try.func9 (by kernel_rfl) rfl #[.slice A0 l0.length c0, .slice Bi Aj.length Bj] rfl pL ?_; (with_reducible refine (tally_Add.calls k1 _ _ l0 _ _ Aj t196 t197 _ ?Aa ?Ab ?Ac ?Ad A16.out).mono ?_); (case Aa => exact pC (Kd.C_below HR0.out HB.out)); (case Ab => exact HC0.out); (case Ac => exact pC (Kd.R_reads' Ag.out).2.2); (case Ad => exact (Kd.R_reads' Ag.out).2.1); rintro e w45 ⟨v198, rfl, ho0, hb⟩; refine ⟨_, rfl, ?_⟩; replace Ag := bRa Ag hb; have Ai := Am (Kd.R_lower (Kd.R_new' (Kd.R_new' ho0 (Kd.R_lt (pR Ae.out))) (Kd.R_lt (pR Af.out))) (below_size (pB HB.out))); replace Ae := Am (Kd.R_elder' (pR Ae.out) (Kd.R_base ho0) hb); replace Af := Am (Kd.R_elder' (pR Af.out) (Kd.R_base ho0) hb); replace HB := Am (below_step (pB HB.out) hb); (try clear hb); (try clear hb2); (try clear hk); (try clear hi); (try clear ho0)))
    go_ret
    exact ⟨pX, pB HB.out⟩
   rw [if_pos c18] at H
   have c18b0 : (t197 == 0) = true := beq_iff_eq.mpr c18
   have c18b1 : (t197 != 0) = false := bne_eq_false_iff_eq.mpr c18
   clear c18
   replace H := Option.bind_eq_some_iff.mp H
   obtain ⟨t200, A190, H⟩ := H
   replace H : (if t200 = true then ((garnerref09_Same.f k1 t196 t180).bind fun t201 => (if t201 = true then ((garnerlaw09_awake.f k1).bind fun t202 => (some t202)) else (some false))) else (some false)) = some r := H
   have A19 := Am A190
   clear A190
   by_cases c20 : t200 = true
   rotate_left
   ·replace c20 := Bool.eq_false_iff.mpr c20
    subst c20
    have H1 : (some false) = some r := by rw [if_neg (show ¬ (false = true) by decide)] at H; exact H
    clear H
    have H := H1
    clear H1
    obtain rfl := Option.some.inj H
    obtain ⟨A8, A9, Ba⟩ := Kd.R_slice Ae.out
    subst Ba
    go_wp2_with (first | ((with_reducible refine gate_callee (f := 19) rfl ?_); refine goesL_ (some 45) rfl rfl Try.func19 (by kernel_rfl) rfl #[.slice A8 t180.length A9, .slice A1 l1.length c1] rfl pL ?_; (with_reducible refine (tally_Sub.calls k1 _ _ t180 _ _ l1 t192 t193 _ ?Aa ?Ab ?Ac ?Ad A15.out).mono ?_); (case Aa => exact pC (Kd.R_reads' Ae.out).2.2); (case Ab => exact (Kd.R_reads' Ae.out).2.1); (case Ac => exact pC (Kd.C_below HR1.out HB.out)); (case Ad => exact HC1.out); rintro e w38 ⟨v194, rfl, ho0, hb⟩; refine ⟨_, rfl, ?_⟩; replace Ag := bRa Ag hb; have Af := Am (Kd.R_lower (Kd.R_new' ho0 (Kd.R_lt (pR Ae.out))) (below_size (pB HB.out))); replace Ae := Am (Kd.R_elder' (pR Ae.out) (Kd.R_base ho0) hb); replace HB := Am (below_step (pB HB.out) hb); (try clear hb); (try clear hb2); (try clear hk); (try clear hi); (try clear ho0); obtain ⟨Bb, Bc, Bd⟩ := Kd.R_slice Ag.out; subst Bd) | ((with_reducible refine gate_callee (f := 9) rfl ?_); refine goesL_ (some 51) rfl rfl Try.func9 (by kernel_rfl) rfl #[.slice A0 l0.length c0, .slice Bb Aj.length Bc] rfl pL ?_; (with_reducible refine (tally_Add.calls k1 _ _ l0 _ _ Aj t196 t197 _ ?Aa ?Ab ?Ac ?Ad A16.out).mono ?_); (case Aa => exact pC (Kd.C_below HR0.out HB.out)); (case Ab => exact HC0.out); (case Ac => exact pC (Kd.R_reads' Ag.out).2.2); (case Ad => exact (Kd.R_reads' Ag.out).2.1); rintro e w40 ⟨v198, rfl, ho0, hb⟩; refine ⟨_, rfl, ?_⟩; replace Ag := bRa Ag hb; have Ai := Am (Kd.R_lower (Kd.R_new' (Kd.R_new' ho0 (Kd.R_lt (pR Ae.out))) (Kd.R_lt (pR Af.out))) (below_size (pB HB.out))); replace Ae := Am (Kd.R_elder' (pR Ae.out) (Kd.R_base ho0) hb); replace Af := Am (Kd.R_elder' (pR Af.out) (Kd.R_base ho0) hb); replace HB := Am (below_step (pB HB.out) hb); (try clear hb); (try clear hb2); (try clear hk); (try clear hi); (try clear ho0); obtain ⟨Ao41, co41, Be⟩ := Kd.R_slice Af.out; subst Be) | (go_at_call 16; (with_reducible refine (garnerref09_Same.calls k1 _ _ t192 _ _ l0 false _ ?Aa ?Ab ?Ac ?Ad A19.out).mono ?_); (case Aa => exact pC (Kd.R_reads' Af.out).2.2); (case Ab => exact (Kd.R_reads' Af.out).2.1); (case Ac => exact pC (Kd.C_below HR0.out HB.out)); (case Ad => exact HC0.out); rintro e w' ⟨rfl, ⟨nd, rfl⟩⟩))
    go_ret
    exact ⟨pX, pB HB.out⟩
   subst c20
   have H1 : ((garnerref09_Same.f k1 t196 t180).bind fun t201 => (if t201 = true then ((garnerlaw09_awake.f k1).bind fun t202 => (some t202)) else (some false))) = some r := by rw [if_pos rfl] at H; exact H
   clear H
   have H := H1
   clear H1
   replace H := Option.bind_eq_some_iff.mp H
   obtain ⟨t201, A210, H⟩ := H
   replace H : (if t201 = true then ((garnerlaw09_awake.f k1).bind fun t202 => (some t202)) else (some false)) = some r := H
   have A21 := Am A210
   clear A210
   by_cases c22 : t201 = true
   rotate_left
   ·replace c22 := Bool.eq_false_iff.mpr c22
    subst c22
    have H1 : (some false) = some r := by rw [if_neg (show ¬ (false = true) by decide)] at H; exact H
    clear H
    have H := H1
    clear H1
    obtain rfl := Option.some.inj H
    obtain ⟨Aw, Ax, Ay⟩ := Kd.R_slice Ae.out
    subst Ay
    go_wp2_with (first | ((with_reducible refine gate_callee (f := 19) rfl ?_); refine goesL_ (some 45) rfl rfl Try.func19 (by kernel_rfl) rfl #[.slice Aw t180.length Ax, .slice A1 l1.length c1] rfl pL ?_; (with_reducible refine (tally_Sub.calls k1 _ _ t180 _ _ l1 t192 t193 _ ?Aa ?Ab ?Ac ?Ad A15.out).mono ?_); (case Aa => exact pC (Kd.R_reads' Ae.out).2.2); (case Ab => exact (Kd.R_reads' Ae.out).2.1); (case Ac => exact pC (Kd.C_below HR1.out HB.out)); (case Ad => exact HC1.out); rintro e w32 ⟨v194, rfl, ho0, hb⟩; refine ⟨_, rfl, ?_⟩; replace Ag := bRa Ag hb; have Af := Am (Kd.R_lower (Kd.R_new' ho0 (Kd.R_lt (pR Ae.out))) (below_size (pB HB.out))); replace Ae := Am (Kd.R_elder' (pR Ae.out) (Kd.R_base ho0) hb); replace HB := Am (below_step (pB HB.out) hb); (try clear hb); (try clear hb2); (try clear hk); (try clear hi); (try clear ho0); obtain ⟨Az, A2, A4⟩ := Kd.R_slice Ag.out; subst A4) | ((with_reducible refine gate_callee (f := 9) rfl ?_); refine goesL_ (some 51) rfl rfl Try.func9 (by kernel_rfl) rfl #[.slice A0 l0.length c0, .slice Az Aj.length A2] rfl pL ?_; (with_reducible refine (tally_Add.calls k1 _ _ l0 _ _ Aj t196 t197 _ ?Aa ?Ab ?Ac ?Ad A16.out).mono ?_); (case Aa => exact pC (Kd.C_below HR0.out HB.out)); (case Ab => exact HC0.out); (case Ac => exact pC (Kd.R_reads' Ag.out).2.2); (case Ad => exact (Kd.R_reads' Ag.out).2.1); rintro e w34 ⟨v198, rfl, ho0, hb⟩; refine ⟨_, rfl, ?_⟩; replace Ag := bRa Ag hb; have Ai := Am (Kd.R_lower (Kd.R_new' (Kd.R_new' ho0 (Kd.R_lt (pR Ae.out))) (Kd.R_lt (pR Af.out))) (below_size (pB HB.out))); replace Ae := Am (Kd.R_elder' (pR Ae.out) (Kd.R_base ho0) hb); replace Af := Am (Kd.R_elder' (pR Af.out) (Kd.R_base ho0) hb); replace HB := Am (below_step (pB HB.out) hb); (try clear hb); (try clear hb2); (try clear hk); (try clear hi); (try clear ho0); obtain ⟨Ao35, co35, A6⟩ := Kd.R_slice Af.out; subst A6) | (go_at_call 16; (with_reducible refine (garnerref09_Same.calls k1 _ _ t192 _ _ l0 true _ ?Aa ?Ab ?Ac ?Ad A19.out).mono ?_); (case Aa => exact pC (Kd.R_reads' Af.out).2.2); (case Ab => exact (Kd.R_reads' Af.out).2.1); (case Ac => exact pC (Kd.C_below HR0.out HB.out)); (case Ad => exact HC0.out); rintro e w' ⟨rfl, ⟨nd, rfl⟩⟩; obtain ⟨Ao36, co36, A7⟩ := Kd.R_slice Ai.out; subst A7) | (go_at_call 16; (with_reducible refine (garnerref09_Same.calls k1 _ _ t196 _ _ t180 false _ ?Aa ?Ab ?Ac ?Ad A21.out).mono ?_); (case Aa => exact pC (Kd.R_reads' Ai.out).2.2); (case Ab => exact (Kd.R_reads' Ai.out).2.1); (case Ac => exact pC (Kd.R_reads' Ae.out).2.2); (case Ad => exact (Kd.R_reads' Ae.out).2.1); rintro e w' ⟨rfl, ⟨nd, rfl⟩⟩))
    go_ret
    exact ⟨pX, pB HB.out⟩
   subst c22
   have H1 : ((garnerlaw09_awake.f k1).bind fun t202 => (some t202)) = some r := by rw [if_pos rfl] at H; exact H
   clear H
   have H := H1
   clear H1
   replace H := Option.bind_eq_some_iff.mp H
   obtain ⟨t202, A230, H⟩ := H
   replace H : (some t202) = some r := H
   have A23 := Am A230
   clear A230
   obtain rfl := Option.some.inj H
   obtain ⟨Ao, Ap, Aq⟩ := Kd.R_slice Ae.out
   subst Aq
   go_wp2_with (first | ((with_reducible refine gate_callee (f := 19) rfl ?_); refine goesL_ (some 45) rfl rfl Try.func19 (by kernel_rfl) rfl #[.slice Ao t180.length Ap, .slice A1 l1.length c1] rfl pL ?_; (with_reducible refine (tally_Sub.calls k1 _ _ t180 _ _ l1 t192 t193 _ ?Aa ?Ab ?Ac ?Ad A15.out).mono ?_); (case Aa => exact pC (Kd.R_reads' Ae.out).2.2); (case Ab => exact (Kd.R_reads' Ae.out).2.1); (case Ac => exact pC (Kd.C_below HR1.out HB.out)); (case Ad => exact HC1.out); rintro e w25 ⟨v194, rfl, ho0, hb⟩; refine ⟨_, rfl, ?_⟩; replace Ag := bRa Ag hb; have Af := Am (Kd.R_lower (Kd.R_new' ho0 (Kd.R_lt (pR Ae.out))) (below_size (pB HB.out))); replace Ae := Am (Kd.R_elder' (pR Ae.out) (Kd.R_base ho0) hb); replace HB := Am (below_step (pB HB.out) hb); (try clear hb); (try clear hb2); (try clear hk); (try clear hi); (try clear ho0); obtain ⟨Ar, As, At⟩ := Kd.R_slice Ag.out; subst At) | ((with_reducible refine gate_callee (f := 9) rfl ?_); refine goesL_ (some 51) rfl rfl Try.func9 (by kernel_rfl) rfl #[.slice A0 l0.length c0, .slice Ar Aj.length As] rfl pL ?_; (with_reducible refine (tally_Add.calls k1 _ _ l0 _ _ Aj t196 t197 _ ?Aa ?Ab ?Ac ?Ad A16.out).mono ?_); (case Aa => exact pC (Kd.C_below HR0.out HB.out)); (case Ab => exact HC0.out); (case Ac => exact pC (Kd.R_reads' Ag.out).2.2); (case Ad => exact (Kd.R_reads' Ag.out).2.1); rintro e w27 ⟨v198, rfl, ho0, hb⟩; refine ⟨_, rfl, ?_⟩; replace Ag := bRa Ag hb; have Ai := Am (Kd.R_lower (Kd.R_new' (Kd.R_new' ho0 (Kd.R_lt (pR Ae.out))) (Kd.R_lt (pR Af.out))) (below_size (pB HB.out))); replace Ae := Am (Kd.R_elder' (pR Ae.out) (Kd.R_base ho0) hb); replace Af := Am (Kd.R_elder' (pR Af.out) (Kd.R_base ho0) hb); replace HB := Am (below_step (pB HB.out) hb); (try clear hb); (try clear hb2); (try clear hk); (try clear hi); (try clear ho0); obtain ⟨Ao28, co28, Au⟩ := Kd.R_slice Af.out; subst Au) | (go_at_call 16; (with_reducible refine (garnerref09_Same.calls k1 _ _ t192 _ _ l0 true _ ?Aa ?Ab ?Ac ?Ad A19.out).mono ?_); (case Aa => exact pC (Kd.R_reads' Af.out).2.2); (case Ab => exact (Kd.R_reads' Af.out).2.1); (case Ac => exact pC (Kd.C_below HR0.out HB.out)); (case Ad => exact HC0.out); rintro e w' ⟨rfl, ⟨nd, rfl⟩⟩; obtain ⟨Ao29, co29, Av⟩ := Kd.R_slice Ai.out; subst Av) | (go_at_call 16; (with_reducible refine (garnerref09_Same.calls k1 _ _ t196 _ _ t180 true _ ?Aa ?Ab ?Ac ?Ad A21.out).mono ?_); (case Aa => exact pC (Kd.R_reads' Ai.out).2.2); (case Ab => exact (Kd.R_reads' Ai.out).2.1); (case Ac => exact pC (Kd.R_reads' Ae.out).2.2); (case Ad => exact (Kd.R_reads' Ae.out).2.1); rintro e w' ⟨rfl, ⟨nd, rfl⟩⟩) | (go_at_call 8; (with_reducible refine (garnerlaw09_awake.calls k1  t202 _ A23.out).mono ?_); rintro e w30 ⟨rfl, hb⟩; replace Ae := bRa Ae hb; replace Ag := bRa Ag hb; replace Af := bRa Af hb; replace Ai := bRa Ai hb; replace HB := Am (below_step (pB HB.out) hb); (try clear hb); (try clear hb2); (try clear hk); (try clear hi)))
   go_ret
   exact ⟨pX, pB HB.out⟩
end Go.Proofs.Ytkapmlijeilieaa.PTallyBack
