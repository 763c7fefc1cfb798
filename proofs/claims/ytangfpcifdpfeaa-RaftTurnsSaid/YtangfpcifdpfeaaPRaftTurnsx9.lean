/- What the law reaches, as plain Lean functions, and that the machine's calls answer just that. -/
import Derived.Test.YtangfpcifdpfeaaPRaftTurnsx0
import Derived.Test.YtangfpcifdpfeaaPRaftTurnsx4
import Derived.Test.YtangfpcifdpfeaaPRaftTurnsx5
import Derived.Test.YtangfpcifdpfeaaPRaftTurnsx6
namespace Go.Proofs.Ytangfpcifdpfeaa.PRaftTurns
open Go.RowKit Go.Proofs.YtangfpcifdpfeaaW.PrintWords Go.Proofs.YtangfpcifdpfeaaW.PrintLast Go.Proofs.YtangfpcifdpfeaaW.PrintMore
attribute [local go_sem] max2_int min2_int max_two min_two max_three min_three max_four min_four
set_option linter.unusedVariables false
set_option linter.unusedSimpArgs false
attribute [local go_sem] wrap64_l1 wrap64_l2 wrap64_l3 wrap64_l4 wrap64_l5
mutual
def hard_Step.j0 : Nat → Int → Bool → Int → Int → Int → Int → Int → Int → Option (Int)
 | 0, _, _, _, _, _, _, _, _ => none
 | k + 1, x2, x7, x229000, x229001, x229002, x230000, x230001, x230002 => if x7 = true then (some 1) else (if x230000 < x229000 then (hard_Step.j1 k x2 true x229000 x229001 x229002 x230000 x230001 x230002) else (hard_Step.j1 k x2 (decide (x230002 < x229002)) x229000 x229001 x229002 x230000 x230001 x230002))
def hard_Step.j1 : Nat → Int → Bool → Int → Int → Int → Int → Int → Int → Option (Int)
 | 0, _, _, _, _, _, _, _, _ => none
 | k + 1, x2, x16, x229000, x229001, x229002, x230000, x230001, x230002 => if x16 = true then (some 4) else (if x230000 = x229000 then (if x229001 = 0 then (hard_Step.j2 k x2 false x230000 x230001 x230002) else (hard_Step.j2 k x2 (x230001 != x229001) x230000 x230001 x230002)) else (hard_Step.j2 k x2 false x230000 x230001 x230002))
def hard_Step.j2 : Nat → Int → Bool → Int → Int → Int → Option (Int)
 | 0, _, _, _, _, _ => none
 | k + 1, x2, x29, x230000, x230001, x230002 => if x29 = true then (some 4) else (if x230002 > x2 then (some 3) else (some 0))
end
def hard_Step.f (k : Nat) (a0_0 : Int) (a0_1 : Int) (a0_2 : Int) (a1_0 : Int) (a1_1 : Int) (a1_2 : Int) (a2 : Int) : Option (Int) := (hard_Check.f a0_0 a0_1 a0_2).bind fun t230 => (if t230 = 0 then ((hard_Check.f a1_0 a1_1 a1_2).bind fun t231 => (hard_Step.j0 k a2 (t231 != 0) a0_0 a0_1 a0_2 a1_0 a1_1 a1_2)) else (hard_Step.j0 k a2 true a0_0 a0_1 a0_2 a1_0 a1_1 a1_2))
theorem hard_Step.mono_l : ∀ k, (∀ y0 y1 y2 y3 y4 y5 y6 y7, LeO (hard_Step.j0 k y0 y1 y2 y3 y4 y5 y6 y7) (hard_Step.j0 (k + 1) y0 y1 y2 y3 y4 y5 y6 y7)) ∧ (∀ y0 y1 y2 y3 y4 y5 y6 y7, LeO (hard_Step.j1 k y0 y1 y2 y3 y4 y5 y6 y7) (hard_Step.j1 (k + 1) y0 y1 y2 y3 y4 y5 y6 y7)) ∧ (∀ y0 y1 y2 y3 y4, LeO (hard_Step.j2 k y0 y1 y2 y3 y4) (hard_Step.j2 (k + 1) y0 y1 y2 y3 y4))
 | 0 => ⟨fun _ _ _ _ _ _ _ _ r h => by simp [hard_Step.j0] at h, fun _ _ _ _ _ _ _ _ r h => by simp [hard_Step.j1] at h, fun _ _ _ _ _ r h => by simp [hard_Step.j2] at h⟩
 | k + 1 => by
  obtain ⟨ih0, ih1, ih2⟩ := hard_Step.mono_l k
  refine ⟨?_, ?_, ?_⟩
  ·intro y0 y1 y2 y3 y4 y5 y6 y7
   unfold hard_Step.j0
   repeat' first
   | (with_reducible exact ih0 _ _ _ _ _ _ _ _)
   | (with_reducible exact ih1 _ _ _ _ _ _ _ _)
   | (with_reducible exact ih2 _ _ _ _ _)
   | (with_reducible exact LeO.refl _)
   | (with_reducible exact LeO.none _)
   | (with_reducible refine LeO.ite ?_ ?_)
   | (with_reducible refine LeO.bind ?_ (fun _ => ?_))
   | exact ih0 _ _ _ _ _ _ _ _
   | exact ih1 _ _ _ _ _ _ _ _
   | exact ih2 _ _ _ _ _
   | exact LeO.none _
   | refine LeO.ite ?_ ?_
   | refine LeO.bind ?_ (fun _ => ?_)
  ·intro y0 y1 y2 y3 y4 y5 y6 y7
   unfold hard_Step.j1
   repeat' first
   | (with_reducible exact ih0 _ _ _ _ _ _ _ _)
   | (with_reducible exact ih1 _ _ _ _ _ _ _ _)
   | (with_reducible exact ih2 _ _ _ _ _)
   | (with_reducible exact LeO.refl _)
   | (with_reducible exact LeO.none _)
   | (with_reducible refine LeO.ite ?_ ?_)
   | (with_reducible refine LeO.bind ?_ (fun _ => ?_))
   | exact ih0 _ _ _ _ _ _ _ _
   | exact ih1 _ _ _ _ _ _ _ _
   | exact ih2 _ _ _ _ _
   | exact LeO.none _
   | refine LeO.ite ?_ ?_
   | refine LeO.bind ?_ (fun _ => ?_)
  ·intro y0 y1 y2 y3 y4
   unfold hard_Step.j2
   repeat' first
   | (with_reducible exact ih0 _ _ _ _ _ _ _ _)
   | (with_reducible exact ih1 _ _ _ _ _ _ _ _)
   | (with_reducible exact ih2 _ _ _ _ _)
   | (with_reducible exact LeO.refl _)
   | (with_reducible exact LeO.none _)
   | (with_reducible refine LeO.ite ?_ ?_)
   | (with_reducible refine LeO.bind ?_ (fun _ => ?_))
   | exact ih0 _ _ _ _ _ _ _ _
   | exact ih1 _ _ _ _ _ _ _ _
   | exact ih2 _ _ _ _ _
   | exact LeO.none _
   | refine LeO.ite ?_ ?_
   | refine LeO.bind ?_ (fun _ => ?_)
theorem hard_Step.mono : ∀ a0 a1 a2 a3 a4 a5 a6 k, LeO (hard_Step.f k a0 a1 a2 a3 a4 a5 a6) (hard_Step.f (k + 1) a0 a1 a2 a3 a4 a5 a6) := by
 intro a0 a1 a2 a3 a4 a5 a6 k
 obtain ⟨ih0, ih1, ih2⟩ := hard_Step.mono_l k
 unfold hard_Step.f
 repeat' first
   | (with_reducible exact ih0 _ _ _ _ _ _ _ _)
   | (with_reducible exact ih1 _ _ _ _ _ _ _ _)
   | (with_reducible exact ih2 _ _ _ _ _)
   | (with_reducible exact LeO.refl _)
   | (with_reducible exact LeO.none _)
   | (with_reducible refine LeO.ite ?_ ?_)
   | (with_reducible refine LeO.bind ?_ (fun _ => ?_))
   | exact ih0 _ _ _ _ _ _ _ _
   | exact ih1 _ _ _ _ _ _ _ _
   | exact ih2 _ _ _ _ _
   | exact LeO.none _
   | refine LeO.ite ?_ ?_
   | refine LeO.bind ?_ (fun _ => ?_)
set_option maxHeartbeats 8000000 in
set_option maxRecDepth 100000 in
theorem hard_Step.calls (k : Nat) (a0_0 : Int) (a0_1 : Int) (a0_2 : Int) (a1_0 : Int) (a1_1 : Int) (a1_2 : Int) (a2 : Int) (r : Int) (w : World) (h : hard_Step.f k a0_0 a0_1 a0_2 a1_0 a1_1 a1_2 a2 = some r) :
  Calls Try.prog 22 #[.agg #[.int .i64 a0_0, .int .i64 a0_1, .int .i64 a0_2], .agg #[.int .i64 a1_0, .int .i64 a1_1, .int .i64 a1_2], .int .i64 a2] w fun e w' => e = .returned (.int .i64 r) ∧ Below w.heap.size w w' := by
 have hu24 := Try.underlying24
 have HB := Am (Below.refl w.heap.size w)
 have H : ((hard_Check.f a0_0 a0_1 a0_2).bind fun t230 => (if t230 = 0 then ((hard_Check.f a1_0 a1_1 a1_2).bind fun t231 => (hard_Step.j0 k a2 (t231 != 0) a0_0 a0_1 a0_2 a1_0 a1_1 a1_2)) else (hard_Step.j0 k a2 true a0_0 a0_1 a0_2 a1_0 a1_1 a1_2))) = some r := h
 clear h
 have HC4 := Am H
 clear H
 go_enter Try.func22, Try.ntmps22
 go_upto_region 1 with (first | ((with_reducible refine gate_dst (N := 3) rfl ?_); refine box_event ?hg (N := 3) ?hd (cs := #[.int .i64 a0_0, .int .i64 a0_1, .int .i64 a0_2]) (t := 24) ?hr ?_; (case hd => rfl); (case hg => rfl); (case hr => first | (go_simp; done) | (go_simp; rfl)); intro Ag hg w5 hbox hb; have Aa := Am (hbox); have Cu := Am ((by rw [hg]; exact (below_size (pB HB.out)) : w.heap.size ≤ Ag)); replace HB := Am (below_step (pB HB.out) hb); have Ae := Cu; clear hb hbox hg) | ((with_reducible refine gate_dst (N := 4) rfl ?_); refine box_event ?hg (N := 4) ?hd (cs := #[.int .i64 a1_0, .int .i64 a1_1, .int .i64 a1_2]) (t := 24) ?hr ?_; (case hd => rfl); (case hg => rfl); (case hr => first | (go_simp; done) | (go_simp; rfl)); intro Ah hg w6 hbox hb; have Ab := Am (hbox); have Cv := Am ((by rw [hg]; exact (below_size (pE HB.out Ae.out)) : w.heap.size ≤ Ah)); replace HB := Am (below_step (pE HB.out Ae.out) hb); have Af := Cv; have Ac := Am ((by rw [hg]; exact Nat.ne_of_lt (kL Aa.out) : Ag ≠ Ah)); have Ad := Am ((by rw [hg]; exact Nat.ne_of_gt (kL Aa.out) : Ah ≠ Ag)); replace Aa := kBa Aa hb; clear hb hbox hg))
 (try simp only [Act.put, List.setIfInBounds_toArray, List.set_cons_zero, List.set_cons_succ])
 go_cut [7] (fun v7 wc => ∃ (kq : Nat) (Bt : Bool), v7 = .bool Bt ∧ Aside0 (hard_Step.j0 kq a2 Bt a0_0 a0_1 a0_2 a1_0 a1_1 a1_2 = some r) ∧ Aside0 (kq ≤ k) ∧ Aside0 (wc.heap[Ag]? = some (.cells #[.int .i64 a0_0, .int .i64 a0_1, .int .i64 a0_2] 24 (0, 0))) ∧ Aside0 (wc.heap[Ah]? = some (.cells #[.int .i64 a1_0, .int .i64 a1_1, .int .i64 a1_2] 24 (0, 0))) ∧ Aside0 (Below w.heap.size w wc))
 case first =>
  have H := HC4.out
  clear HC4
  replace H := Option.bind_eq_some_iff.mp H
  obtain ⟨t230, A70, H⟩ := H
  replace H : (if t230 = 0 then ((hard_Check.f a1_0 a1_1 a1_2).bind fun t231 => (hard_Step.j0 k a2 (t231 != 0) a0_0 a0_1 a0_2 a1_0 a1_1 a1_2)) else (hard_Step.j0 k a2 true a0_0 a0_1 a0_2 a1_0 a1_1 a1_2)) = some r := H
  have A7 := Am A70
  clear A70
  by_cases c8 : t230 = 0
  rotate_left
  ·rw [if_neg c8] at H
   have c8b0 : (t230 == 0) = false := beq_eq_false_iff_ne.mpr c8
   have c8b1 : (t230 != 0) = true := bne_iff_ne.mpr c8
   (first | rw [c8b0] | (simp only [i64_w, i32_w]; rw [c8b0]) | skip)
   have H' := Am H
   clear H
   have hnb15 := Ac.out
   have hnc15 := Ad.out
   obtain ⟨Ax, Ay, Az⟩ := bc3 Aa.out
   obtain ⟨A0, A1, A2⟩ := bf3 Aa.out
   go_wp2_with (first | ((with_reducible refine gate_callee (f := 35) rfl ?_); refine goesL_ (some 9) rfl rfl Try.func35 (by kernel_rfl) rfl #[.agg #[.int .i64 a0_0, .int .i64 a0_1, .int .i64 a0_2]] rfl pL ?_; (with_reducible refine (hard_Check.calls a0_0 a0_1 a0_2 t230 _ A7.out).mono ?_); rintro e w17 ⟨rfl, hb⟩; refine ⟨_, rfl, ?_⟩; replace Aa := kBa Aa hb; replace Ab := kBa Ab hb; replace HB := Am (below_step (pE2 HB.out Ae.out Af.out) hb); (try clear hb); (try clear hb2); (try clear hk); (try clear hi)))
   go_meet
   case rel => exact ⟨_, (true), (by first | rfl | (simp; done) | (simp [*]; done)), H', ⟨by first | omega | exact Nat.le_refl _⟩, ⟨pK Aa.out⟩, ⟨pK Ab.out⟩, ⟨pE2 HB.out Ae.out Af.out⟩⟩
  rw [if_pos c8] at H
  have c8b0 : (t230 == 0) = true := beq_iff_eq.mpr c8
  have c8b1 : (t230 != 0) = false := bne_eq_false_iff_eq.mpr c8
  clear c8
  (first | rw [c8b0] | (simp only [i64_w, i32_w]; rw [c8b0]) | skip)
  replace H := Option.bind_eq_some_iff.mp H
  obtain ⟨t231, A90, H⟩ := H
  replace H : (hard_Step.j0 k a2 (t231 != 0) a0_0 a0_1 a0_2 a1_0 a1_1 a1_2) = some r := H
  have A9 := Am A90
  clear A90
  have H' := Am H
  clear H
  have hnb10 := Ac.out
  have hnc10 := Ad.out
  obtain ⟨Ak, Al, An⟩ := bc3 Aa.out
  obtain ⟨Ao, Ap, Aq⟩ := bf3 Aa.out
  go_wp2_with (first | ((with_reducible refine gate_callee (f := 35) rfl ?_); refine goesL_ (some 9) rfl rfl Try.func35 (by kernel_rfl) rfl #[.agg #[.int .i64 a0_0, .int .i64 a0_1, .int .i64 a0_2]] rfl pL ?_; (with_reducible refine (hard_Check.calls a0_0 a0_1 a0_2 t230 _ A7.out).mono ?_); rintro e w12 ⟨rfl, hb⟩; refine ⟨_, rfl, ?_⟩; replace Aa := kBa Aa hb; replace Ab := kBa Ab hb; replace HB := Am (below_step (pE2 HB.out Ae.out Af.out) hb); (try clear hb); (try clear hb2); (try clear hk); (try clear hi); obtain ⟨Ar, As, At⟩ := bc3 Ab.out; obtain ⟨Au, Av, Aw⟩ := bf3 Ab.out) | (go_at_call 35; (with_reducible refine (hard_Check.calls a1_0 a1_1 a1_2 t231 _ A9.out).mono ?_); rintro e w14 ⟨rfl, hb⟩; replace Aa := kBa Aa hb; replace Ab := kBa Ab hb; replace HB := Am (below_step (pE2 HB.out Ae.out Af.out) hb); (try clear hb); (try clear hb2); (try clear hk); (try clear hi)))
  go_meet
  case rel => exact ⟨_, ((t231 != 0)), (by first | rfl | (simp; done) | (simp [*]; done)), H', ⟨by first | omega | exact Nat.le_refl _⟩, ⟨pK Aa.out⟩, ⟨pK Ab.out⟩, ⟨pE2 HB.out Ae.out Af.out⟩⟩
 case rest =>
  clear HC4
  try clear c1
  try clear c2
  try clear p2
  try clear c3
  try clear c8
  try clear c8b0
  try clear c8b1
  try clear c10
  try clear c15
  try clear Ak Al An
  try clear Ar As At
  try clear Ax Ay Az
  try clear Ao Ap Aq
  try clear Au Av Aw
  try clear A0 A1 A2
  obtain ⟨kq, Bt, rfl, HA, HJ3, Aa, Ab, HB⟩ := hcut
  cases kq with
  | zero => exact absurd HA.out (by simp [hard_Step.j0])
  | succ kj3 =>
   have H := HA.out
   clear HA
   simp only [hard_Step.j0] at H
   by_cases c18 : Bt = true
   ·subst c18
    have H1 : (some 1) = some r := by rw [if_pos rfl] at H; exact H
    clear H
    have H := H1
    clear H1
    obtain rfl := Option.some.inj H
    go_wp2
    go_ret
    exact ⟨pX, pE2 HB.out Ae.out Af.out⟩
   replace c18 := Bool.eq_false_iff.mpr c18
   subst c18
   have H1 : (if a1_0 < a0_0 then (hard_Step.j1 kj3 a2 true a0_0 a0_1 a0_2 a1_0 a1_1 a1_2) else (hard_Step.j1 kj3 a2 (decide (a1_2 < a0_2)) a0_0 a0_1 a0_2 a1_0 a1_1 a1_2)) = some r := by rw [if_neg (show ¬ (false = true) by decide)] at H; exact H
   clear H
   have H := H1
   clear H1
   have HC19 := Am H
   clear H
   go_upto_region 3 with (fail)
   go_cut [16] (fun v16 wc => ∃ (kq : Nat) (Ai : Bool), v16 = .bool Ai ∧ Aside0 (hard_Step.j1 kq a2 Ai a0_0 a0_1 a0_2 a1_0 a1_1 a1_2 = some r) ∧ Aside0 (kq ≤ kj3) ∧ Aside0 (wc.heap[Ag]? = some (.cells #[.int .i64 a0_0, .int .i64 a0_1, .int .i64 a0_2] 24 (0, 0))) ∧ Aside0 (wc.heap[Ah]? = some (.cells #[.int .i64 a1_0, .int .i64 a1_1, .int .i64 a1_2] 24 (0, 0))) ∧ Aside0 (Below w.heap.size w wc))
   case first =>
    have H := HC19.out
    clear HC19
    by_cases c20 : a1_0 < a0_0
    ·rw [if_pos c20] at H
     have c20b0 : decide (a1_0 < a0_0) = true := decide_eq_true c20
     clear c20
     (first | rw [c20b0] | (simp only [i64_w, i32_w]; rw [c20b0]) | skip)
     have H' := Am H
     clear H
     have hnb21 := Ad.out
     have hnc21 := Ac.out
     obtain ⟨A3, A4, A5⟩ := bc3 Ab.out
     obtain ⟨A6, A8, Ba⟩ := bf3 Ab.out
     obtain ⟨Bb, Bc, Bd⟩ := bc3 Aa.out
     obtain ⟨Be, Bf, Bg⟩ := bf3 Aa.out
     go_wp2
     go_meet
     case rel => exact ⟨_, (true), (by first | rfl | (simp; done) | (simp [*]; done)), H', ⟨by have := HJ3.out; first | omega | exact Nat.le_refl _⟩, ⟨pK Aa.out⟩, ⟨pK Ab.out⟩, ⟨pE2 HB.out Ae.out Af.out⟩⟩
    rw [if_neg c20] at H
    have c20b0 : decide (a1_0 < a0_0) = false := decide_eq_false c20
    clear c20
    (first | rw [c20b0] | (simp only [i64_w, i32_w]; rw [c20b0]) | skip)
    have H' := Am H
    clear H
    have hnb24 := Ad.out
    have hnc24 := Ac.out
    obtain ⟨Bh, Bi, Bj⟩ := bc3 Ab.out
    obtain ⟨Bk, Bl, Bm⟩ := bf3 Ab.out
    obtain ⟨Bn, Bo, Bp⟩ := bc3 Aa.out
    obtain ⟨Bq, Br, Bs⟩ := bf3 Aa.out
    go_wp2
    go_meet
    case rel => exact ⟨_, (decide (a1_2 < a0_2)), (by first | rfl | (simp; done) | (simp [*]; done)), H', ⟨by have := HJ3.out; first | omega | exact Nat.le_refl _⟩, ⟨pK Aa.out⟩, ⟨pK Ab.out⟩, ⟨pE2 HB.out Ae.out Af.out⟩⟩
   case rest =>
    clear HC19
    try clear c1
    try clear c2
    try clear p2
    try clear c3
    try clear c8
    try clear c8b0
    try clear c8b1
    try clear c10
    try clear c15
    try clear c18
    try clear c20
    try clear c20b0
    try clear c21
    try clear c22
    try clear c24
    try clear Ak Al An
    try clear Ar As At
    try clear Ax Ay Az
    try clear A3 A4 A5
    try clear Bb Bc Bd
    try clear Bh Bi Bj
    try clear Bn Bo Bp
    try clear Ao Ap Aq
    try clear Au Av Aw
    try clear A0 A1 A2
    try clear A6 A8 Ba
    try clear Be Bf Bg
    try clear Bk Bl Bm
    try clear Bq Br Bs
    try clear p2
    obtain ⟨kq, Ai, rfl, HA, HJ18, Aa, Ab, HB⟩ := hcut
    cases kq with
    | zero => exact absurd HA.out (by simp [hard_Step.j1])
    | succ kj18 =>
     have H := HA.out
     clear HA
     simp only [hard_Step.j1] at H
     by_cases c27 : Ai = true
     ·subst c27
      have H1 : (some 4) = some r := by rw [if_pos rfl] at H; exact H
      clear H
      have H := H1
      clear H1
      obtain rfl := Option.some.inj H
      go_wp2
      go_ret
      exact ⟨pX, pE2 HB.out Ae.out Af.out⟩
     replace c27 := Bool.eq_false_iff.mpr c27
     subst c27
     have H1 : (if a1_0 = a0_0 then (if a0_1 = 0 then (hard_Step.j2 kj18 a2 false a1_0 a1_1 a1_2) else (hard_Step.j2 kj18 a2 (a1_1 != a0_1) a1_0 a1_1 a1_2)) else (hard_Step.j2 kj18 a2 false a1_0 a1_1 a1_2)) = some r := by rw [if_neg (show ¬ (false = true) by decide)] at H; exact H
     clear H
     have H := H1
     clear H1
     have HC28 := Am H
     clear H
     go_upto_region 5 with (fail)
     go_cut [29] (fun v29 wc => ∃ (kq : Nat) (Aj : Bool), v29 = .bool Aj ∧ Aside0 (hard_Step.j2 kq a2 Aj a1_0 a1_1 a1_2 = some r) ∧ Aside0 (kq ≤ kj18) ∧ Aside0 (wc.heap[Ag]? = some (.cells #[.int .i64 a0_0, .int .i64 a0_1, .int .i64 a0_2] 24 (0, 0))) ∧ Aside0 (wc.heap[Ah]? = some (.cells #[.int .i64 a1_0, .int .i64 a1_1, .int .i64 a1_2] 24 (0, 0))) ∧ Aside0 (Below w.heap.size w wc))
     case first =>
      have H := HC28.out
      clear HC28
      by_cases c29 : a1_0 = a0_0
      rotate_left
      ·rw [if_neg c29] at H
       have c29b0 : (a1_0 == a0_0) = false := beq_eq_false_iff_ne.mpr c29
       have c29b1 : (a1_0 != a0_0) = true := bne_iff_ne.mpr c29
       (first | rw [c29b0] | (simp only [i64_w, i32_w]; rw [c29b0]) | skip)
       have H' := Am H
       clear H
       have hnb37 := Ad.out
       have hnc37 := Ac.out
       obtain ⟨Ci, Cj, Ck⟩ := bc3 Ab.out
       obtain ⟨Cl, Cm, Cn⟩ := bf3 Ab.out
       obtain ⟨Co, Cp, Cq⟩ := bc3 Aa.out
       obtain ⟨Cr, Cs, Ct⟩ := bf3 Aa.out
       go_wp2
       go_meet
       case rel => exact ⟨_, (false), (by first | rfl | (simp; done) | (simp [*]; done)), H', ⟨by have := HJ3.out; have := HJ18.out; first | omega | exact Nat.le_refl _⟩, ⟨pK Aa.out⟩, ⟨pK Ab.out⟩, ⟨pE2 HB.out Ae.out Af.out⟩⟩
      rw [if_pos c29] at H
      have c29b0 : (a1_0 == a0_0) = true := beq_iff_eq.mpr c29
      have c29b1 : (a1_0 != a0_0) = false := bne_eq_false_iff_eq.mpr c29
      clear c29
      (first | rw [c29b0] | (simp only [i64_w, i32_w]; rw [c29b0]) | skip)
      by_cases c30 : a0_1 = 0
      rotate_left
      ·rw [if_neg c30] at H
       have c30b0 : (a0_1 == 0) = false := beq_eq_false_iff_ne.mpr c30
       have c30b1 : (a0_1 != 0) = true := bne_iff_ne.mpr c30
       have H' := Am H
       clear H
       have hnb34 := Ad.out
       have hnc34 := Ac.out
       obtain ⟨B6, B7, B8⟩ := bc3 Ab.out
       obtain ⟨B9, Ca, Cb⟩ := bf3 Ab.out
       obtain ⟨Cc, Cd, Ce⟩ := bc3 Aa.out
       obtain ⟨Cf, Cg, Ch⟩ := bf3 Aa.out
       go_wp2
       go_meet
       case rel => exact ⟨_, ((a1_1 != a0_1)), (by first | rfl | (simp; done) | (simp [*]; done)), H', ⟨by have := HJ3.out; have := HJ18.out; first | omega | exact Nat.le_refl _⟩, ⟨pK Aa.out⟩, ⟨pK Ab.out⟩, ⟨pE2 HB.out Ae.out Af.out⟩⟩
      rw [if_pos c30] at H
      have c30b0 : (a0_1 == 0) = true := beq_iff_eq.mpr c30
      have c30b1 : (a0_1 != 0) = false := bne_eq_false_iff_eq.mpr c30
      clear c30
      have H' := Am H
      clear H
      have hnb31 := Ad.out
      have hnc31 := Ac.out
      obtain ⟨Bu, Bv, Bw⟩ := bc3 Ab.out
      obtain ⟨Bx, By, Bz⟩ := bf3 Ab.out
      obtain ⟨B0, B1, B2⟩ := bc3 Aa.out
      obtain ⟨B3, B4, B5⟩ := bf3 Aa.out
      go_wp2
      go_meet
      case rel => exact ⟨_, (false), (by first | rfl | (simp; done) | (simp [*]; done)), H', ⟨by have := HJ3.out; have := HJ18.out; first | omega | exact Nat.le_refl _⟩, ⟨pK Aa.out⟩, ⟨pK Ab.out⟩, ⟨pE2 HB.out Ae.out Af.out⟩⟩
     case rest =>
      clear HC28
      try clear c1
      try clear c2
      try clear p2
      try clear c3
      try clear c8
      try clear c8b0
      try clear c8b1
      try clear c10
      try clear c15
      try clear c18
      try clear c20
      try clear c20b0
      try clear c21
      try clear c22
      try clear c24
      try clear c27
      try clear c29
      try clear c29b0
      try clear c29b1
      try clear c30
      try clear c30b0
      try clear c30b1
      try clear c31
      try clear c34
      try clear c35
      try clear c37
      try clear Ak Al An
      try clear Ar As At
      try clear Ax Ay Az
      try clear A3 A4 A5
      try clear Bb Bc Bd
      try clear Bh Bi Bj
      try clear Bn Bo Bp
      try clear Bu Bv Bw
      try clear B0 B1 B2
      try clear B6 B7 B8
      try clear Cc Cd Ce
      try clear Ci Cj Ck
      try clear Co Cp Cq
      try clear Ao Ap Aq
      try clear Au Av Aw
      try clear A0 A1 A2
      try clear A6 A8 Ba
      try clear Be Bf Bg
      try clear Bk Bl Bm
      try clear Bq Br Bs
      try clear Bx By Bz
      try clear B3 B4 B5
      try clear B9 Ca Cb
      try clear Cf Cg Ch
      try clear Cl Cm Cn
      try clear Cr Cs Ct
      try clear p2
      obtain ⟨kq, Aj, rfl, HA, HJ27, Aa, Ab, HB⟩ := hcut
      cases kq with
      | zero => exact absurd HA.out (by simp [hard_Step.j2])
      | succ kj27 =>
       have H := HA.out
       clear HA
       simp only [hard_Step.j2] at H
       by_cases c40 : Aj = true
       ·subst c40
        have H1 : (some 4) = some r := by rw [if_pos rfl] at H; exact H
        clear H
        have H := H1
        clear H1
        obtain rfl := Option.some.inj H
        go_wp2
        go_ret
        exact ⟨pX, pE2 HB.out Ae.out Af.out⟩
       replace c40 := Bool.eq_false_iff.mpr c40
       subst c40
       have H1 : (if a1_2 > a2 then (some 3) else (some 0)) = some r := by rw [if_neg (show ¬ (false = true) by decide)] at H; exact H
       clear H
       have H := H1
       clear H1
       by_cases c41 : a1_2 > a2
       ·rw [if_pos c41] at H
        have c41b0 : decide (a2 < a1_2) = true := decide_eq_true c41
        clear c41
        obtain rfl := Option.some.inj H
        have hnb42 := Ad.out
        have hnc42 := Ac.out
        obtain ⟨_, _, _⟩ := bc3 Ab.out
        obtain ⟨_, _, _⟩ := bf3 Ab.out
        go_wp2
        go_ret
        exact ⟨pX, pE2 HB.out Ae.out Af.out⟩
       rw [if_neg c41] at H
       have c41b0 : decide (a2 < a1_2) = false := decide_eq_false c41
       clear c41
       obtain rfl := Option.some.inj H
       have hnb44 := Ad.out
       have hnc44 := Ac.out
       obtain ⟨_, _, _⟩ := bc3 Ab.out
       obtain ⟨_, _, _⟩ := bf3 Ab.out
       go_wp2
       go_ret
       exact ⟨pX, pE2 HB.out Ae.out Af.out⟩
def raft_Vote.f (k : Nat) (a0_0 : Int) (a0_1 : Int) (l0_2 : List (S55)) (a0_3 : Int) (a0_4 : Int) (a0_5 : Int) (a0_6 : Int) (a1_0 : Int) (a1_1 : Int) (a1_2 : Int) : Option (Int × Int × (List (S55)) × Int × Int × Int × Int × Int) := (raft_Check.f k a0_0 a0_1 l0_2 a0_3 a0_4 a0_5 a0_6).bind fun t235 => (if t235 = 0 then ((raft_Last.f k a0_0 a0_1 l0_2 a0_3 a0_4 a0_5 a0_6).bind fun bt236 => ((hard_Step.f k a0_3 a0_4 a0_5 a1_0 a1_1 a1_2 bt236.1).bind fun t238 => (if t238 = 0 then ((raft_owns.f k l0_2).bind fun t239 => (some (a0_0, a0_1, t239, a1_0, a1_1, a1_2, a0_6, 0))) else (some (0, 0, ([] : List (S55)), 0, 0, 0, 0, t238))))) else (some (0, 0, ([] : List (S55)), 0, 0, 0, 0, 1)))
theorem raft_Vote.mono : ∀ a0 a1 a2 a3 a4 a5 a6 a7 a8 a9 k, LeO (raft_Vote.f k a0 a1 a2 a3 a4 a5 a6 a7 a8 a9) (raft_Vote.f (k + 1) a0 a1 a2 a3 a4 a5 a6 a7 a8 a9) := by
 intro a0 a1 a2 a3 a4 a5 a6 a7 a8 a9 k
 unfold raft_Vote.f
 repeat' first
   | (with_reducible exact hard_Step.mono _ _ _ _ _ _ _ _)
   | (with_reducible exact raft_Check.mono _ _ _ _ _ _ _ _)
   | (with_reducible exact raft_Last.mono _ _ _ _ _ _ _ _)
   | (with_reducible exact raft_owns.mono _ _)
   | (with_reducible exact LeO.refl _)
   | (with_reducible exact LeO.none _)
   | (with_reducible refine LeO.ite ?_ ?_)
   | (with_reducible refine LeO.bind ?_ (fun _ => ?_))
   | exact hard_Step.mono _ _ _ _ _ _ _ _
   | exact raft_Check.mono _ _ _ _ _ _ _ _
   | exact raft_Last.mono _ _ _ _ _ _ _ _
   | exact raft_owns.mono _ _
   | exact LeO.none _
   | refine LeO.ite ?_ ?_
   | refine LeO.bind ?_ (fun _ => ?_)
def raft_Vote.T7 : Bool × List (List Nat × List Nat) := (true, [([], []), ([0], [0]), ([1], [1]), ([], []), ([0, 1, 2], []), ([4, 2, 2, 0, 1, 2], [2, 4]), ([0, 1, 2, 3, 4, 5], []), ([6, 3, 5, 0, 1, 2, 3, 4, 5], [3, 6])])
def raft_Vote.B7 : List Nat := [0, 1, 3, 0, 7, 23, 63, 127]
theorem raft_Vote.tab7 : rtab .any (opsOf Try.f6 7) = raft_Vote.T7 := by kernel_rfl
theorem raft_Vote.bits7 : waitsOk raft_Vote.T7.2 raft_Vote.B7 = true := by kernel_rfl
set_option maxHeartbeats 8000000 in
set_option maxRecDepth 100000 in
theorem raft_Vote.calls (k : Nat) (a0_0 : Int) (a0_1 : Int) (A0_2 : Option Addr) (c0_2 : Nat) (l0_2 : List (S55)) (a0_3 : Int) (a0_4 : Int) (a0_5 : Int) (a0_6 : Int) (a1_0 : Int) (a1_1 : Int) (a1_2 : Int) (r1 : Int) (r2 : Int) (r3 : List (S55)) (r4 : Int) (r5 : Int) (r6 : Int) (r7 : Int) (r8 : Int) (w : World) (hr0_2 : Kd.C k55 w A0_2 l0_2.length l0_2) (hc0_2 : l0_2.length ≤ c0_2) (h : raft_Vote.f k a0_0 a0_1 l0_2 a0_3 a0_4 a0_5 a0_6 a1_0 a1_1 a1_2 = some (r1, r2, r3, r4, r5, r6, r7, r8)) :
  Calls Try.prog 6 #[.agg #[.int .i64 a0_0, .int .i64 a0_1, .slice A0_2 l0_2.length c0_2, .int .i64 a0_3, .int .i64 a0_4, .int .i64 a0_5, .int .i64 a0_6], .agg #[.int .i64 a1_0, .int .i64 a1_1, .int .i64 a1_2]] w fun e w' => ∃ v2_ : Value, e = .returned (.tuple #[.agg #[.int .i64 r1, .int .i64 r2, v2_, .int .i64 r4, .int .i64 r5, .int .i64 r6, .int .i64 r7], .int .i64 r8]) ∧ Kd.S k55 55 w' w.heap.size (fun _ => True) v2_ r3 ∧ Below w.heap.size w w' := by
 have hu26 := Try.underlying26
 have hu24 := Try.underlying24
 have As := Am hr0_2
 have At := Am hc0_2
 clear hr0_2 hc0_2
 have HB := Am (Below.refl w.heap.size w)
 have H : ((raft_Check.f k a0_0 a0_1 l0_2 a0_3 a0_4 a0_5 a0_6).bind fun t235 => (if t235 = 0 then ((raft_Last.f k a0_0 a0_1 l0_2 a0_3 a0_4 a0_5 a0_6).bind fun bt236 => ((hard_Step.f k a0_3 a0_4 a0_5 a1_0 a1_1 a1_2 bt236.1).bind fun t238 => (if t238 = 0 then ((raft_owns.f k l0_2).bind fun t239 => (some (a0_0, a0_1, t239, a1_0, a1_1, a1_2, a0_6, 0))) else (some (0, 0, ([] : List (S55)), 0, 0, 0, 0, t238))))) else (some (0, 0, ([] : List (S55)), 0, 0, 0, 0, 1)))) = some (r1, r2, r3, r4, r5, r6, r7, r8) := h
 clear h
 replace H := Option.bind_eq_some_iff.mp H
 obtain ⟨t235, A30, H⟩ := H
 replace H : (if t235 = 0 then ((raft_Last.f k a0_0 a0_1 l0_2 a0_3 a0_4 a0_5 a0_6).bind fun bt236 => ((hard_Step.f k a0_3 a0_4 a0_5 a1_0 a1_1 a1_2 bt236.1).bind fun t238 => (if t238 = 0 then ((raft_owns.f k l0_2).bind fun t239 => (some (a0_0, a0_1, t239, a1_0, a1_1, a1_2, a0_6, 0))) else (some (0, 0, ([] : List (S55)), 0, 0, 0, 0, t238))))) else (some (0, 0, ([] : List (S55)), 0, 0, 0, 0, 1))) = some (r1, r2, r3, r4, r5, r6, r7, r8) := H
 have A3 := Am A30
 clear A30
 by_cases c4 : t235 = 0
 rotate_left
 ·rw [if_neg c4] at H
  have c4b0 : (t235 == 0) = false := beq_eq_false_iff_ne.mpr c4
  have c4b1 : (t235 != 0) = true := bne_iff_ne.mpr c4
  simp only [Option.some.injEq, Prod.mk.injEq] at H
  obtain ⟨rfl, rfl, rfl, rfl, rfl, rfl, rfl, rfl⟩ := H
  go_enter Try.func6, Try.ntmps6
  go_wp2_with (first | ((with_reducible refine gate_dst (N := 2) rfl ?_); refine box_event ?hg (N := 2) ?hd (cs := #[.int .i64 a0_0, .int .i64 a0_1, .slice A0_2 l0_2.length c0_2, .int .i64 a0_3, .int .i64 a0_4, .int .i64 a0_5, .int .i64 a0_6]) (t := 26) ?hr ?_; (case hd => rfl); (case hg => rfl); (case hr => first | (go_simp; done) | (go_simp; rfl)); intro Ae hg w45 hbox hb; have Aa := Am (hbox); have Au := Am ((by rw [hg]; exact (below_size (pB HB.out)) : w.heap.size ≤ Ae)); replace HB := Am (below_step (pB HB.out) hb); have Af := Au; clear hb hbox hg) | ((with_reducible refine gate_dst (N := 3) rfl ?_); refine box_event ?hg (N := 3) ?hd (cs := #[.int .i64 a1_0, .int .i64 a1_1, .int .i64 a1_2]) (t := 24) ?hr ?_; (case hd => rfl); (case hg => rfl); (case hr => first | (go_simp; done) | (go_simp; rfl)); intro Ak hg w46 hbox hb; have Ab := Am (hbox); have Av := Am ((by rw [hg]; exact (below_size (pE HB.out Af.out)) : w.heap.size ≤ Ak)); replace HB := Am (below_step (pE HB.out Af.out) hb); have Al := Av; have Ah := Am ((by rw [hg]; exact Nat.ne_of_lt (kL Aa.out) : Ae ≠ Ak)); have Ac := Am ((by rw [hg]; exact Nat.ne_of_gt (kL Aa.out) : Ak ≠ Ae)); replace Aa := kBa Aa hb; clear hb hbox hg) | ((with_reducible refine gate_dst (N := 4) rfl ?_); refine box_event ?hg (N := 4) ?hd (cs := #[.int .i64 0, .int .i64 0, .slice none 0 0, .int .i64 0, .int .i64 0, .int .i64 0, .int .i64 0]) (t := 26) ?hr ?_; (case hd => rfl); (case hg => rfl); (case hr => first | (go_simp; done) | (go_simp; rfl)); intro Aj hg w47 hbox hb; have Ad := Am (hbox); have Aw := Am ((by rw [hg]; exact (below_size (pE2 HB.out Af.out Al.out)) : w.heap.size ≤ Aj)); replace HB := Am (below_step (pE2 HB.out Af.out Al.out) hb); have An := Aw; have Ai := Am ((by rw [hg]; exact Nat.ne_of_lt (kL Aa.out) : Ae ≠ Aj)); have Ag := Am ((by rw [hg]; exact Nat.ne_of_gt (kL Aa.out) : Aj ≠ Ae)); replace Aa := kBa Aa hb; have Ao := Am ((by rw [hg]; exact Nat.ne_of_lt (kL Ab.out) : Ak ≠ Aj)); have Ap := Am ((by rw [hg]; exact Nat.ne_of_gt (kL Ab.out) : Aj ≠ Ak)); replace Ab := kBa Ab hb; clear hb hbox hg; have hnb48 := Ah.out; have hnc48 := Ac.out; have hnb49 := Ai.out; have hnc49 := Ag.out; obtain ⟨_, _, _, _, _, _, _⟩ := bc7 Aa.out; obtain ⟨_, _, _, _, _, _, _⟩ := bf7 Aa.out) | ((with_reducible refine gate_callee (f := 21) rfl ?_); refine goesL_ (some 10) rfl rfl Try.func21 (by kernel_rfl) rfl #[.agg #[.int .i64 a0_0, .int .i64 a0_1, .slice A0_2 l0_2.length c0_2, .int .i64 a0_3, .int .i64 a0_4, .int .i64 a0_5, .int .i64 a0_6]] rfl pL ?_; (with_reducible refine (raft_Check.calls k a0_0 a0_1 _ _ l0_2 a0_3 a0_4 a0_5 a0_6 t235 _ ?Aq ?Ar A3.out).mono ?_); (case Aq => exact pC (Kd.C_below As.out HB.out)); (case Ar => exact At.out); rintro e w51 ⟨rfl, hb⟩; refine ⟨_, rfl, ?_⟩; replace Aa := kBa Aa hb; replace Ab := kBa Ab hb; replace Ad := kBa Ad hb; replace HB := Am (below_step (pE3 HB.out Af.out Al.out An.out) hb); (try clear hb); (try clear hb2); (try clear hk); (try clear hi); have hnb52 := Ap.out; have hnc52 := Ao.out; obtain ⟨_, _, _, _, _, _, _⟩ := bc7 Ad.out; obtain ⟨_, _, _, _, _, _, _⟩ := bf7 Ad.out))
  refine bodyPost_ret (results_ct rfl _ _ Aj 26 #[.int .i64 0, .int .i64 0, .slice none 0 0, .int .i64 0, .int .i64 0, .int .i64 0, .int .i64 0] (0, 0) _ rfl (kX0 Ad.out) Try.underlying26 rfl (by kernel_rfl)) rfl ?_
  exact ⟨_, pX, by first | exact Kd.S_nil _ _ _ _ _ | exact Kd.N_nil _ _ _ _ _ | exact Kd.V_nil _ _ _ _ _ | exact Kd.Q_nil _ _ _ _ _ | exact Kd.R_nil _ _ _ _ _, pE3 HB.out Af.out Al.out An.out⟩
 rw [if_pos c4] at H
 have c4b0 : (t235 == 0) = true := beq_iff_eq.mpr c4
 have c4b1 : (t235 != 0) = false := bne_eq_false_iff_eq.mpr c4
 clear c4
 replace H := Option.bind_eq_some_iff.mp H
 obtain ⟨⟨t236, t237⟩, A50, H⟩ := H
 replace H : ((hard_Step.f k a0_3 a0_4 a0_5 a1_0 a1_1 a1_2 t236).bind fun t238 => (if t238 = 0 then ((raft_owns.f k l0_2).bind fun t239 => (some (a0_0, a0_1, t239, a1_0, a1_1, a1_2, a0_6, 0))) else (some (0, 0, ([] : List (S55)), 0, 0, 0, 0, t238)))) = some (r1, r2, r3, r4, r5, r6, r7, r8) := H
 have A5 := Am A50
 clear A50
 replace H := Option.bind_eq_some_iff.mp H
 obtain ⟨t238, A60, H⟩ := H
 replace H : (if t238 = 0 then ((raft_owns.f k l0_2).bind fun t239 => (some (a0_0, a0_1, t239, a1_0, a1_1, a1_2, a0_6, 0))) else (some (0, 0, ([] : List (S55)), 0, 0, 0, 0, t238))) = some (r1, r2, r3, r4, r5, r6, r7, r8) := H
 have A6 := Am A60
 clear A60
 by_cases c7 : t238 = 0
 rotate_left
 ·rw [if_neg c7] at H
  have c7b0 : (t238 == 0) = false := beq_eq_false_iff_ne.mpr c7
  have c7b1 : (t238 != 0) = true := bne_iff_ne.mpr c7
  simp only [Option.some.injEq, Prod.mk.injEq] at H
  obtain ⟨rfl, rfl, rfl, rfl, rfl, rfl, rfl, rfl⟩ := H
  go_enter Try.func6, Try.ntmps6
  go_wp2_with (first | ((with_reducible refine gate_dst (N := 2) rfl ?_); refine box_event ?hg (N := 2) ?hd (cs := #[.int .i64 a0_0, .int .i64 a0_1, .slice A0_2 l0_2.length c0_2, .int .i64 a0_3, .int .i64 a0_4, .int .i64 a0_5, .int .i64 a0_6]) (t := 26) ?hr ?_; (case hd => rfl); (case hg => rfl); (case hr => first | (go_simp; done) | (go_simp; rfl)); intro Ae hg w31 hbox hb; have Aa := Am (hbox); have Au := Am ((by rw [hg]; exact (below_size (pB HB.out)) : w.heap.size ≤ Ae)); replace HB := Am (below_step (pB HB.out) hb); have Af := Au; clear hb hbox hg) | ((with_reducible refine gate_dst (N := 3) rfl ?_); refine box_event ?hg (N := 3) ?hd (cs := #[.int .i64 a1_0, .int .i64 a1_1, .int .i64 a1_2]) (t := 24) ?hr ?_; (case hd => rfl); (case hg => rfl); (case hr => first | (go_simp; done) | (go_simp; rfl)); intro Ak hg w32 hbox hb; have Ab := Am (hbox); have Av := Am ((by rw [hg]; exact (below_size (pE HB.out Af.out)) : w.heap.size ≤ Ak)); replace HB := Am (below_step (pE HB.out Af.out) hb); have Al := Av; have Ah := Am ((by rw [hg]; exact Nat.ne_of_lt (kL Aa.out) : Ae ≠ Ak)); have Ac := Am ((by rw [hg]; exact Nat.ne_of_gt (kL Aa.out) : Ak ≠ Ae)); replace Aa := kBa Aa hb; clear hb hbox hg) | ((with_reducible refine gate_dst (N := 4) rfl ?_); refine box_event ?hg (N := 4) ?hd (cs := #[.int .i64 0, .int .i64 0, .slice none 0 0, .int .i64 0, .int .i64 0, .int .i64 0, .int .i64 0]) (t := 26) ?hr ?_; (case hd => rfl); (case hg => rfl); (case hr => first | (go_simp; done) | (go_simp; rfl)); intro Aj hg w33 hbox hb; have Ad := Am (hbox); have Aw := Am ((by rw [hg]; exact (below_size (pE2 HB.out Af.out Al.out)) : w.heap.size ≤ Aj)); replace HB := Am (below_step (pE2 HB.out Af.out Al.out) hb); have An := Aw; have Ai := Am ((by rw [hg]; exact Nat.ne_of_lt (kL Aa.out) : Ae ≠ Aj)); have Ag := Am ((by rw [hg]; exact Nat.ne_of_gt (kL Aa.out) : Aj ≠ Ae)); replace Aa := kBa Aa hb; have Ao := Am ((by rw [hg]; exact Nat.ne_of_lt (kL Ab.out) : Ak ≠ Aj)); have Ap := Am ((by rw [hg]; exact Nat.ne_of_gt (kL Ab.out) : Aj ≠ Ak)); replace Ab := kBa Ab hb; clear hb hbox hg; have hnb34 := Ah.out; have hnc34 := Ac.out; have hnb35 := Ai.out; have hnc35 := Ag.out; obtain ⟨_, _, _, _, _, _, _⟩ := bc7 Aa.out; obtain ⟨_, _, _, _, _, _, _⟩ := bf7 Aa.out) | ((with_reducible refine gate_callee (f := 21) rfl ?_); refine goesL_ (some 10) rfl rfl Try.func21 (by kernel_rfl) rfl #[.agg #[.int .i64 a0_0, .int .i64 a0_1, .slice A0_2 l0_2.length c0_2, .int .i64 a0_3, .int .i64 a0_4, .int .i64 a0_5, .int .i64 a0_6]] rfl pL ?_; (with_reducible refine (raft_Check.calls k a0_0 a0_1 _ _ l0_2 a0_3 a0_4 a0_5 a0_6 t235 _ ?Aq ?Ar A3.out).mono ?_); (case Aq => exact pC (Kd.C_below As.out HB.out)); (case Ar => exact At.out); rintro e w37 ⟨rfl, hb⟩; refine ⟨_, rfl, ?_⟩; replace Aa := kBa Aa hb; replace Ab := kBa Ab hb; replace Ad := kBa Ad hb; replace HB := Am (below_step (pE3 HB.out Af.out Al.out An.out) hb); (try clear hb); (try clear hb2); (try clear hk); (try clear hi); obtain ⟨_, _, _, _, _, _, _⟩ := bc7 Aa.out; obtain ⟨_, _, _, _, _, _, _⟩ := bf7 Aa.out) | ((with_reducible refine gate_callee (f := 20) rfl ?_); refine goesL_ (some 15) rfl rfl Try.func20 (by kernel_rfl) rfl #[.agg #[.int .i64 a0_0, .int .i64 a0_1, .slice A0_2 l0_2.length c0_2, .int .i64 a0_3, .int .i64 a0_4, .int .i64 a0_5, .int .i64 a0_6]] rfl pL ?_; (with_reducible refine (raft_Last.calls k a0_0 a0_1 _ _ l0_2 a0_3 a0_4 a0_5 a0_6 t236 t237 _ ?Aq ?Ar A5.out).mono ?_); (case Aq => exact pC (Kd.C_below As.out HB.out)); (case Ar => exact At.out); rintro e w39 ⟨rfl, hb⟩; refine ⟨_, rfl, ?_⟩; replace Aa := kBa Aa hb; replace Ab := kBa Ab hb; replace Ad := kBa Ad hb; replace HB := Am (below_step (pE3 HB.out Af.out Al.out An.out) hb); (try clear hb); (try clear hb2); (try clear hk); (try clear hi); obtain ⟨_, _, _, _, _, _, _⟩ := bc7 Aa.out; obtain ⟨_, _, _, _, _, _, _⟩ := bf7 Aa.out; have hnb41 := Ao.out; have hnc41 := Ap.out; obtain ⟨_, _, _⟩ := bc3 Ab.out; obtain ⟨_, _, _⟩ := bf3 Ab.out) | ((with_reducible refine gate_callee (f := 22) rfl ?_); refine goesL_ (some 22) rfl rfl Try.func22 (by kernel_rfl) rfl #[.agg #[.int .i64 a0_3, .int .i64 a0_4, .int .i64 a0_5], .agg #[.int .i64 a1_0, .int .i64 a1_1, .int .i64 a1_2], .int .i64 t236] rfl pL ?_; (with_reducible refine (hard_Step.calls k a0_3 a0_4 a0_5 a1_0 a1_1 a1_2 t236 t238 _ A6.out).mono ?_); rintro e w43 ⟨rfl, hb⟩; refine ⟨_, rfl, ?_⟩; replace Aa := kBa Aa hb; replace Ab := kBa Ab hb; replace Ad := kBa Ad hb; replace HB := Am (below_step (pE3 HB.out Af.out Al.out An.out) hb); (try clear hb); (try clear hb2); (try clear hk); (try clear hi); obtain ⟨_, _, _, _, _, _, _⟩ := bc7 Ad.out; obtain ⟨_, _, _, _, _, _, _⟩ := bf7 Ad.out))
  refine bodyPost_ret (results_ct rfl _ _ Aj 26 #[.int .i64 0, .int .i64 0, .slice none 0 0, .int .i64 0, .int .i64 0, .int .i64 0, .int .i64 0] (0, 0) _ rfl (kX0 Ad.out) Try.underlying26 rfl (by kernel_rfl)) rfl ?_
  exact ⟨_, pX, by first | exact Kd.S_nil _ _ _ _ _ | exact Kd.N_nil _ _ _ _ _ | exact Kd.V_nil _ _ _ _ _ | exact Kd.Q_nil _ _ _ _ _ | exact Kd.R_nil _ _ _ _ _, pE3 HB.out Af.out Al.out An.out⟩
 rw [if_pos c7] at H
 have c7b0 : (t238 == 0) = true := beq_iff_eq.mpr c7
 have c7b1 : (t238 != 0) = false := bne_eq_false_iff_eq.mpr c7
 clear c7
 replace H := Option.bind_eq_some_iff.mp H
 obtain ⟨t239, A80, H⟩ := H
 replace H : (some (a0_0, a0_1, t239, a1_0, a1_1, a1_2, a0_6, 0)) = some (r1, r2, r3, r4, r5, r6, r7, r8) := H
 have A8 := Am A80
 clear A80
 simp only [Option.some.injEq, Prod.mk.injEq] at H
 obtain ⟨rfl, rfl, rfl, rfl, rfl, rfl, rfl, rfl⟩ := H
 go_enter Try.func6, Try.ntmps6
 try go_wp2_with (first | ((with_reducible refine gate_dst (N := 2) rfl ?_); refine box_event ?hg (N := 2) ?hd (cs := #[.int .i64 a0_0, .int .i64 a0_1, .slice A0_2 l0_2.length c0_2, .int .i64 a0_3, .int .i64 a0_4, .int .i64 a0_5, .int .i64 a0_6]) (t := 26) ?hr ?_; (case hd => rfl); (case hg => rfl); (case hr => first | (go_simp; done) | (go_simp; rfl)); intro Ae hg w9 hbox hb; have Aa := Am (hbox); have Au := Am ((by rw [hg]; exact (below_size (pB HB.out)) : w.heap.size ≤ Ae)); replace HB := Am (below_step (pB HB.out) hb); have Af := Au; clear hb hbox hg) | ((with_reducible refine gate_dst (N := 3) rfl ?_); refine box_event ?hg (N := 3) ?hd (cs := #[.int .i64 a1_0, .int .i64 a1_1, .int .i64 a1_2]) (t := 24) ?hr ?_; (case hd => rfl); (case hg => rfl); (case hr => first | (go_simp; done) | (go_simp; rfl)); intro Ak hg w10 hbox hb; have Ab := Am (hbox); have Av := Am ((by rw [hg]; exact (below_size (pE HB.out Af.out)) : w.heap.size ≤ Ak)); replace HB := Am (below_step (pE HB.out Af.out) hb); have Al := Av; have Ah := Am ((by rw [hg]; exact Nat.ne_of_lt (kL Aa.out) : Ae ≠ Ak)); have Ac := Am ((by rw [hg]; exact Nat.ne_of_gt (kL Aa.out) : Ak ≠ Ae)); replace Aa := kBa Aa hb; clear hb hbox hg) | ((with_reducible refine gate_dst (N := 4) rfl ?_); refine box_event ?hg (N := 4) ?hd (cs := #[.int .i64 0, .int .i64 0, .slice none 0 0, .int .i64 0, .int .i64 0, .int .i64 0, .int .i64 0]) (t := 26) ?hr ?_; (case hd => rfl); (case hg => rfl); (case hr => first | (go_simp; done) | (go_simp; rfl)); intro Aj hg w11 hbox hb; have Ad := Am (hbox); have Aw := Am ((by rw [hg]; exact (below_size (pE2 HB.out Af.out Al.out)) : w.heap.size ≤ Aj)); replace HB := Am (below_step (pE2 HB.out Af.out Al.out) hb); have An := Aw; have Ai := Am ((by rw [hg]; exact Nat.ne_of_lt (kL Aa.out) : Ae ≠ Aj)); have Ag := Am ((by rw [hg]; exact Nat.ne_of_gt (kL Aa.out) : Aj ≠ Ae)); replace Aa := kBa Aa hb; have Ao := Am ((by rw [hg]; exact Nat.ne_of_lt (kL Ab.out) : Ak ≠ Aj)); have Ap := Am ((by rw [hg]; exact Nat.ne_of_gt (kL Ab.out) : Aj ≠ Ak)); replace Ab := kBa Ab hb; clear hb hbox hg; have hnb12 := Ah.out; have hnc12 := Ac.out; have hnb13 := Ai.out; have hnc13 := Ag.out; obtain ⟨_, _, _, _, _, _, _⟩ := bc7 Aa.out; obtain ⟨_, _, _, _, _, _, _⟩ := bf7 Aa.out) | ((with_reducible refine gate_callee (f := 21) rfl ?_); refine goesL_ (some 10) rfl rfl Try.func21 (by kernel_rfl) rfl #[.agg #[.int .i64 a0_0, .int .i64 a0_1, .slice A0_2 l0_2.length c0_2, .int .i64 a0_3, .int .i64 a0_4, .int .i64 a0_5, .int .i64 a0_6]] rfl pL ?_; (with_reducible refine (raft_Check.calls k a0_0 a0_1 _ _ l0_2 a0_3 a0_4 a0_5 a0_6 t235 _ ?Aq ?Ar A3.out).mono ?_); (case Aq => exact pC (Kd.C_below As.out HB.out)); (case Ar => exact At.out); rintro e w15 ⟨rfl, hb⟩; refine ⟨_, rfl, ?_⟩; replace Aa := kBa Aa hb; replace Ab := kBa Ab hb; replace Ad := kBa Ad hb; replace HB := Am (below_step (pE3 HB.out Af.out Al.out An.out) hb); (try clear hb); (try clear hb2); (try clear hk); (try clear hi); obtain ⟨_, _, _, _, _, _, _⟩ := bc7 Aa.out; obtain ⟨_, _, _, _, _, _, _⟩ := bf7 Aa.out) | ((with_reducible refine gate_callee (f := 20) rfl ?_); refine goesL_ (some 15) rfl rfl Try.func20 (by kernel_rfl) rfl #[.agg #[.int .i64 a0_0, .int .i64 a0_1, .slice A0_2 l0_2.length c0_2, .int .i64 a0_3, .int .i64 a0_4, .int .i64 a0_5, .int .i64 a0_6]] rfl pL ?_; (with_reducible refine (raft_Last.calls k a0_0 a0_1 _ _ l0_2 a0_3 a0_4 a0_5 a0_6 t236 t237 _ ?Aq ?Ar A5.out).mono ?_); (case Aq => exact pC (Kd.C_below As.out HB.out)); (case Ar => exact At.out); rintro e w17 ⟨rfl, hb⟩; refine ⟨_, rfl, ?_⟩; replace Aa := kBa Aa hb; replace Ab := kBa Ab hb; replace Ad := kBa Ad hb; replace HB := Am (below_step (pE3 HB.out Af.out Al.out An.out) hb); (try clear hb); (try clear hb2); (try clear hk); (try clear hi); obtain ⟨_, _, _, _, _, _, _⟩ := bc7 Aa.out; obtain ⟨_, _, _, _, _, _, _⟩ := bf7 Aa.out; have hnb19 := Ao.out; have hnc19 := Ap.out; obtain ⟨_, _, _⟩ := bc3 Ab.out; obtain ⟨_, _, _⟩ := bf3 Ab.out) | ((with_reducible refine gate_callee (f := 22) rfl ?_); refine goesL_ (some 22) rfl rfl Try.func22 (by kernel_rfl) rfl #[.agg #[.int .i64 a0_3, .int .i64 a0_4, .int .i64 a0_5], .agg #[.int .i64 a1_0, .int .i64 a1_1, .int .i64 a1_2], .int .i64 t236] rfl pL ?_; (with_reducible refine (hard_Step.calls k a0_3 a0_4 a0_5 a1_0 a1_1 a1_2 t236 t238 _ A6.out).mono ?_); rintro e w21 ⟨rfl, hb⟩; refine ⟨_, rfl, ?_⟩; replace Aa := kBa Aa hb; replace Ab := kBa Ab hb; replace Ad := kBa Ad hb; replace HB := Am (below_step (pE3 HB.out Af.out Al.out An.out) hb); (try clear hb); (try clear hb2); (try clear hk); (try clear hi)))
 replace Aa := kDa Aa
 replace Ab := kDa Ab
 replace Ad := kDa Ad
 replace HB := bDa HB
 refine start_ (n := 8) (S := fun w' => cG w' Ak 0 (.int .i64 a1_0) ∧ cG w' Ak 1 (.int .i64 a1_1) ∧ cG w' Ak 2 (.int .i64 a1_2)) (ds := []) #[false, false, false, false, false, false, false, false] (by kernel_rfl) rfl rfl ⟨(blk_cell Ab.out 0).trans rfl, (blk_cell Ab.out 1).trans rfl, (blk_cell Ab.out 2).trans rfl⟩ (fun hHeld => ?_); refine with_tabW raft_Vote.tab7 raft_Vote.bits7 (fun HT_ HW_ => ?_)
 generalize w21.drew = w22 at Aa Ab Ad HB hHeld ⊢
 refine pui 0 27 8 1 HT_ ?_
 refine tki 3 30 8 9 HT_ HW_ hHeld ?_
 refine onei 1 28 8 11 HT_ (fun K hK => ?_)
 have hcl_ : w22.cell? ⟨Ae, 2, none⟩ = some (.slice A0_2 l0_2.length c0_2) := (blk_cell Aa.out 2).trans rfl
 refine value_ (w1 := ?_) (v := ?_) (by rfl) rfl ?_ ?_
 rotate_left 2
 ·go_simp
  constructor
  ·rfl
  rfl
 clear hcl_
 refine hK.out _ _ ⟨hHeld.1, hHeld.2.1, hHeld.2.2⟩ (fun hHeld => ?_)
 clear hK K
 refine norm_ (a' := ?_) ?_ ?_
 rotate_left
 ·show Act.put _ (some 28) _ = _
  simp only [Act.put, List.setIfInBounds_toArray, List.set_cons_zero, List.set_cons_succ, i64_w, i32_w]
  rfl
 refine onei 2 29 8 15 HT_ (fun K hK => ?_)
 refine goes_ Try.func23 (by kernel_rfl) rfl #[.slice A0_2 l0_2.length c0_2] (by rfl) rfl rfl pL ?_
 with_reducible refine (raft_owns.calls k _ _ l0_2 t239 _ ?Aq ?Ar A8.out).mono ?_
 (case Aq => exact pC (Kd.C_below As.out HB.out))
 (case Ar => exact At.out)
 rintro e w23 ⟨v240, rfl, ho0, hb⟩
 refine ⟨_, rfl, ?_⟩
 have Ax := Am (Kd.S_lower ho0 (below_size (pE3 HB.out Af.out Al.out An.out)))
 replace Aa := kBa Aa hb
 replace Ab := kBa Ab hb
 replace Ad := kBa Ad hb
 replace HB := Am (below_step (pE3 HB.out Af.out Al.out An.out) hb)
 (try clear hb)
 (try clear hb2)
 (try clear hk)
 (try clear hi)
 (try clear ho0)
 obtain ⟨Ay, Az, A0⟩ := Kd.S_slice Ax.out
 (first | subst A0 | (injection A0 with f1_ f2_ f3_; have f4_ := f1_.symm; have f5_ := f3_.symm; clear f1_ f2_ f3_; subst f4_; subst f5_))
 refine hK.out _ _ ⟨(blk_cell Ab.out 0).trans rfl, (blk_cell Ab.out 1).trans rfl, (blk_cell Ab.out 2).trans rfl⟩ (fun hHeld => ?_)
 clear hK K
 refine norm_ (a' := ?_) ?_ ?_
 rotate_left
 ·show Act.put _ (some 29) _ = _
  simp only [Act.put, List.setIfInBounds_toArray, List.set_cons_zero, List.set_cons_succ, i64_w, i32_w]
  rfl
 refine pui 4 31 8 31 HT_ ?_
 refine one_ (i := 5) (N := none) (bw 8 63) rfl rfl (one_of HT_.out (by kernel_rfl)) (by decide) (fun K hK => ?_)
 have hs25 : w23.cell? ⟨Ae, 2, none⟩ = some (.slice A0_2 l0_2.length c0_2) := (blk_cell Aa.out 2).trans rfl
 have hfs25 := blk_frozen Aa.out 2
 have hns25_1 := Ac.out
 have hns25_2 := Ag.out
 have hms25_1 := Ah.out
 have hms25_2 := Ai.out
 refine skip_ (w1 := ?_) (by rfl) rfl ?_ ?_
 rotate_left
 ·go_simp
  rfl
 refine hK.out _ _ ⟨(cX1 hHeld.1 Ac.out), (cX1 hHeld.2.1 Ac.out), (cX1 hHeld.2.2 Ac.out)⟩ (fun hHeld => ?_)
 clear hK K
 refine pui 6 32 8 127 HT_ ?_
 refine one_ (i := 7) (N := none) (bw 8 255) rfl rfl (one_of HT_.out (by kernel_rfl)) (by decide) (fun K hK => ?_)
 have hs26 : w23.cell? ⟨Ae, 3, none⟩ = some (.int .i64 a0_3) := (blk_cell Aa.out 3).trans rfl
 have hfs26 := blk_frozen Aa.out 3
 have hns26_1 := Ac.out
 have hns26_2 := Ag.out
 have hms26_1 := Ah.out
 have hms26_2 := Ai.out
 have hs27 : w23.cell? ⟨Ae, 4, none⟩ = some (.int .i64 a0_4) := (blk_cell Aa.out 4).trans rfl
 have hfs27 := blk_frozen Aa.out 4
 have hns27_1 := Ac.out
 have hns27_2 := Ag.out
 have hms27_1 := Ah.out
 have hms27_2 := Ai.out
 have hs28 : w23.cell? ⟨Ae, 5, none⟩ = some (.int .i64 a0_5) := (blk_cell Aa.out 5).trans rfl
 have hfs28 := blk_frozen Aa.out 5
 have hns28_1 := Ac.out
 have hns28_2 := Ag.out
 have hms28_1 := Ah.out
 have hms28_2 := Ai.out
 refine skip_ (w1 := ?_) (by rfl) rfl ?_ ?_
 rotate_left
 ·go_simp
  rfl
 refine hK.out _ _ ⟨(cX1 hHeld.1 Ac.out), (cX1 hHeld.2.1 Ac.out), (cX1 hHeld.2.2 Ac.out)⟩ (fun hHeld => ?_)
 clear hK K
 refine done_ (done_of HT_.out (by kernel_rfl)) ?_
 obtain ⟨_, _, _, _, _, _, _⟩ := bc7 Aa.out
 obtain ⟨_, _, _, _, _, _, _⟩ := bf7 Aa.out
 obtain ⟨_, _, _, _, _, _, _⟩ := bc7 Ad.out
 obtain ⟨_, _, _, _, _, _, _⟩ := bf7 Ad.out
 try go_wp2
 refine bodyPost_ret (results_ct rfl _ _ Aj 26 #[.int .i64 a0_0, .int .i64 a0_1, .slice Ay t239.length Az, .int .i64 a1_0, .int .i64 a1_1, .int .i64 a1_2, .int .i64 a0_6] (0, 0) _ rfl (kX1 Ad.out Ag.out) Try.underlying26 rfl (by kernel_rfl)) rfl ?_
 exact ⟨_, pX, by (with_reducible repeat (first | apply Kd.S_alloc | apply Kd.S_drewN | apply Kd.S_drew)); have h0_ := Kd.S_types (Kd.S_types Ax.out Aa.out (by decide)) Ad.out (by decide); have h1_ := Kd.S_far (p := ⟨Ae, 2, none⟩) h0_ (fun _ hk => hk.1.2) (.slice Ay t239.length Az); have h2_ := Kd.S_far (p := ⟨Ae, 3, none⟩) h1_ (fun _ hk => hk.1.2) (.int .i64 a1_0); have h3_ := Kd.S_far (p := ⟨Ae, 4, none⟩) h2_ (fun _ hk => hk.1.2) (.int .i64 a1_1); have h4_ := Kd.S_far (p := ⟨Ae, 5, none⟩) h3_ (fun _ hk => hk.1.2) (.int .i64 a1_2); exact Kd.S_mono (Sf7 (g := Aj) (h4_) (fun _ hk => hk.2)) (fun _ hk => trivial), pE3 HB.out Af.out Al.out An.out⟩
def raft_Apply.f (k : Nat) (a0_0 : Int) (a0_1 : Int) (l0_2 : List (S55)) (a0_3 : Int) (a0_4 : Int) (a0_5 : Int) (a0_6 : Int) (a1 : Int) : Option (Int × Int × (List (S55)) × Int × Int × Int × Int × (List (S55)) × Int) := (raft_Check.f k a0_0 a0_1 l0_2 a0_3 a0_4 a0_5 a0_6).bind fun t244 => (if t244 = 0 then (if a1 < a0_6 then (some (0, 0, ([] : List (S55)), 0, 0, 0, 0, ([] : List (S55)), 4)) else (if a1 > a0_5 then (some (0, 0, ([] : List (S55)), 0, 0, 0, 0, ([] : List (S55)), 3)) else (if 0 ≤ (wrap64 (a0_6 - a0_0)) then (if (wrap64 (a0_6 - a0_0)) ≤ (wrap64 (a1 - a0_0)) then (if (wrap64 (a1 - a0_0)) ≤ (l0_2.length : Int) then ((raft_owns.f k ((l0_2.take ((wrap64 (a1 - a0_0)) : Int).toNat).drop ((wrap64 (a0_6 - a0_0)) : Int).toNat)).bind fun t249 => ((raft_owns.f k l0_2).bind fun t252 => (some (a0_0, a0_1, t252, a0_3, a0_4, a0_5, a1, t249, 0)))) else (none)) else (none)) else (none)))) else (some (0, 0, ([] : List (S55)), 0, 0, 0, 0, ([] : List (S55)), 1)))
theorem raft_Apply.mono : ∀ a0 a1 a2 a3 a4 a5 a6 a7 k, LeO (raft_Apply.f k a0 a1 a2 a3 a4 a5 a6 a7) (raft_Apply.f (k + 1) a0 a1 a2 a3 a4 a5 a6 a7) := by
 intro a0 a1 a2 a3 a4 a5 a6 a7 k
 unfold raft_Apply.f
 repeat' first
   | (with_reducible exact raft_Check.mono _ _ _ _ _ _ _ _)
   | (with_reducible exact raft_owns.mono _ _)
   | (with_reducible exact LeO.refl _)
   | (with_reducible exact LeO.none _)
   | (with_reducible refine LeO.ite ?_ ?_)
   | (with_reducible refine LeO.bind ?_ (fun _ => ?_))
   | exact raft_Check.mono _ _ _ _ _ _ _ _
   | exact raft_owns.mono _ _
   | exact LeO.none _
   | refine LeO.ite ?_ ?_
   | refine LeO.bind ?_ (fun _ => ?_)
set_option maxHeartbeats 8000000 in
set_option maxRecDepth 100000 in
theorem raft_Apply.calls (k : Nat) (a0_0 : Int) (a0_1 : Int) (A0_2 : Option Addr) (c0_2 : Nat) (l0_2 : List (S55)) (a0_3 : Int) (a0_4 : Int) (a0_5 : Int) (a0_6 : Int) (a1 : Int) (r1 : Int) (r2 : Int) (r3 : List (S55)) (r4 : Int) (r5 : Int) (r6 : Int) (r7 : Int) (r8 : List (S55)) (r9 : Int) (w : World) (hr0_2 : Kd.C k55 w A0_2 l0_2.length l0_2) (hc0_2 : l0_2.length ≤ c0_2) (h : raft_Apply.f k a0_0 a0_1 l0_2 a0_3 a0_4 a0_5 a0_6 a1 = some (r1, r2, r3, r4, r5, r6, r7, r8, r9)) :
  Calls Try.prog 7 #[.agg #[.int .i64 a0_0, .int .i64 a0_1, .slice A0_2 l0_2.length c0_2, .int .i64 a0_3, .int .i64 a0_4, .int .i64 a0_5, .int .i64 a0_6], .int .i64 a1] w fun e w' => ∃ v2_ v7_ : Value, e = .returned (.tuple #[.agg #[.int .i64 r1, .int .i64 r2, v2_, .int .i64 r4, .int .i64 r5, .int .i64 r6, .int .i64 r7], v7_, .int .i64 r9]) ∧ Kd.S k55 55 w' w.heap.size (fun k_ => some k_ ≠ (v7_ : Value).ownBlock) v2_ r3 ∧ Kd.S k55 55 w' w.heap.size (fun k_ => some k_ ≠ (v2_ : Value).ownBlock) v7_ r8 ∧ Below w.heap.size w w' := by
 have hu26 := Try.underlying26
 have Ao := Am hr0_2
 have Ap := Am hc0_2
 clear hr0_2 hc0_2
 have HB := Am (Below.refl w.heap.size w)
 have H : ((raft_Check.f k a0_0 a0_1 l0_2 a0_3 a0_4 a0_5 a0_6).bind fun t244 => (if t244 = 0 then (if a1 < a0_6 then (some (0, 0, ([] : List (S55)), 0, 0, 0, 0, ([] : List (S55)), 4)) else (if a1 > a0_5 then (some (0, 0, ([] : List (S55)), 0, 0, 0, 0, ([] : List (S55)), 3)) else (if 0 ≤ (wrap64 (a0_6 - a0_0)) then (if (wrap64 (a0_6 - a0_0)) ≤ (wrap64 (a1 - a0_0)) then (if (wrap64 (a1 - a0_0)) ≤ (l0_2.length : Int) then ((raft_owns.f k ((l0_2.take ((wrap64 (a1 - a0_0)) : Int).toNat).drop ((wrap64 (a0_6 - a0_0)) : Int).toNat)).bind fun t249 => ((raft_owns.f k l0_2).bind fun t252 => (some (a0_0, a0_1, t252, a0_3, a0_4, a0_5, a1, t249, 0)))) else (none)) else (none)) else (none)))) else (some (0, 0, ([] : List (S55)), 0, 0, 0, 0, ([] : List (S55)), 1)))) = some (r1, r2, r3, r4, r5, r6, r7, r8, r9) := h
 clear h
 replace H := Option.bind_eq_some_iff.mp H
 obtain ⟨t244, A30, H⟩ := H
 replace H : (if t244 = 0 then (if a1 < a0_6 then (some (0, 0, ([] : List (S55)), 0, 0, 0, 0, ([] : List (S55)), 4)) else (if a1 > a0_5 then (some (0, 0, ([] : List (S55)), 0, 0, 0, 0, ([] : List (S55)), 3)) else (if 0 ≤ (wrap64 (a0_6 - a0_0)) then (if (wrap64 (a0_6 - a0_0)) ≤ (wrap64 (a1 - a0_0)) then (if (wrap64 (a1 - a0_0)) ≤ (l0_2.length : Int) then ((raft_owns.f k ((l0_2.take ((wrap64 (a1 - a0_0)) : Int).toNat).drop ((wrap64 (a0_6 - a0_0)) : Int).toNat)).bind fun t249 => ((raft_owns.f k l0_2).bind fun t252 => (some (a0_0, a0_1, t252, a0_3, a0_4, a0_5, a1, t249, 0)))) else (none)) else (none)) else (none)))) else (some (0, 0, ([] : List (S55)), 0, 0, 0, 0, ([] : List (S55)), 1))) = some (r1, r2, r3, r4, r5, r6, r7, r8, r9) := H
 have A3 := Am A30
 clear A30
 by_cases c4 : t244 = 0
 rotate_left
 ·rw [if_neg c4] at H
  have c4b0 : (t244 == 0) = false := beq_eq_false_iff_ne.mpr c4
  have c4b1 : (t244 != 0) = true := bne_iff_ne.mpr c4
  simp only [Option.some.injEq, Prod.mk.injEq] at H
  obtain ⟨rfl, rfl, rfl, rfl, rfl, rfl, rfl, rfl, rfl⟩ := H
  go_enter Try.func7, Try.ntmps7
  go_wp2_with (first | ((with_reducible refine gate_dst (N := 2) rfl ?_); refine box_event ?hg (N := 2) ?hd (cs := #[.int .i64 a0_0, .int .i64 a0_1, .slice A0_2 l0_2.length c0_2, .int .i64 a0_3, .int .i64 a0_4, .int .i64 a0_5, .int .i64 a0_6]) (t := 26) ?hr ?_; (case hd => rfl); (case hg => rfl); (case hr => first | (go_simp; done) | (go_simp; rfl)); intro Af hg w40 hbox hb; have Aa := Am (hbox); have Al := Am ((by rw [hg]; exact (below_size (pB HB.out)) : w.heap.size ≤ Af)); replace HB := Am (below_step (pB HB.out) hb); have Ac := Al; clear hb hbox hg) | ((with_reducible refine gate_dst (N := 4) rfl ?_); refine box_event ?hg (N := 4) ?hd (cs := #[.int .i64 0, .int .i64 0, .slice none 0 0, .int .i64 0, .int .i64 0, .int .i64 0, .int .i64 0]) (t := 26) ?hr ?_; (case hd => rfl); (case hg => rfl); (case hr => first | (go_simp; done) | (go_simp; rfl)); intro Ad hg w41 hbox hb; have Ab := Am (hbox); have An := Am ((by rw [hg]; exact (below_size (pE HB.out Ac.out)) : w.heap.size ≤ Ad)); replace HB := Am (below_step (pE HB.out Ac.out) hb); have Ah := An; have Ag := Am ((by rw [hg]; exact Nat.ne_of_lt (kL Aa.out) : Af ≠ Ad)); have Ae := Am ((by rw [hg]; exact Nat.ne_of_gt (kL Aa.out) : Ad ≠ Af)); replace Aa := kBa Aa hb; clear hb hbox hg; have hnb42 := Ag.out; have hnc42 := Ae.out; obtain ⟨_, _, _, _, _, _, _⟩ := bc7 Aa.out; obtain ⟨_, _, _, _, _, _, _⟩ := bf7 Aa.out) | ((with_reducible refine gate_callee (f := 21) rfl ?_); refine goesL_ (some 10) rfl rfl Try.func21 (by kernel_rfl) rfl #[.agg #[.int .i64 a0_0, .int .i64 a0_1, .slice A0_2 l0_2.length c0_2, .int .i64 a0_3, .int .i64 a0_4, .int .i64 a0_5, .int .i64 a0_6]] rfl pL ?_; (with_reducible refine (raft_Check.calls k a0_0 a0_1 _ _ l0_2 a0_3 a0_4 a0_5 a0_6 t244 _ ?Ai ?Aj A3.out).mono ?_); (case Ai => exact pC (Kd.C_below Ao.out HB.out)); (case Aj => exact Ap.out); rintro e w44 ⟨rfl, hb⟩; refine ⟨_, rfl, ?_⟩; replace Aa := kBa Aa hb; replace Ab := kBa Ab hb; replace HB := Am (below_step (pE2 HB.out Ac.out Ah.out) hb); (try clear hb); (try clear hb2); (try clear hk); (try clear hi); obtain ⟨_, _, _, _, _, _, _⟩ := bc7 Ab.out; obtain ⟨_, _, _, _, _, _, _⟩ := bf7 Ab.out))
  refine bodyPost_ret (results_ctt rfl _ _ Ad 26 #[.int .i64 0, .int .i64 0, .slice none 0 0, .int .i64 0, .int .i64 0, .int .i64 0, .int .i64 0] (0, 0) _ rfl (kX0 Ab.out) Try.underlying26 rfl (by kernel_rfl)) rfl ?_
  exact ⟨_, _, pX, by first | exact Kd.S_nil _ _ _ _ _ | exact Kd.N_nil _ _ _ _ _ | exact Kd.V_nil _ _ _ _ _ | exact Kd.Q_nil _ _ _ _ _ | exact Kd.R_nil _ _ _ _ _, by first | exact Kd.S_nil _ _ _ _ _ | exact Kd.N_nil _ _ _ _ _ | exact Kd.V_nil _ _ _ _ _ | exact Kd.Q_nil _ _ _ _ _ | exact Kd.R_nil _ _ _ _ _, pE2 HB.out Ac.out Ah.out⟩
 rw [if_pos c4] at H
 have c4b0 : (t244 == 0) = true := beq_iff_eq.mpr c4
 have c4b1 : (t244 != 0) = false := bne_eq_false_iff_eq.mpr c4
 clear c4
 by_cases c5 : a1 < a0_6
 ·rw [if_pos c5] at H
  have c5b0 : decide (a1 < a0_6) = true := decide_eq_true c5
  clear c5
  simp only [Option.some.injEq, Prod.mk.injEq] at H
  obtain ⟨rfl, rfl, rfl, rfl, rfl, rfl, rfl, rfl, rfl⟩ := H
  go_enter Try.func7, Try.ntmps7
  go_wp2_with (first | ((with_reducible refine gate_dst (N := 2) rfl ?_); refine box_event ?hg (N := 2) ?hd (cs := #[.int .i64 a0_0, .int .i64 a0_1, .slice A0_2 l0_2.length c0_2, .int .i64 a0_3, .int .i64 a0_4, .int .i64 a0_5, .int .i64 a0_6]) (t := 26) ?hr ?_; (case hd => rfl); (case hg => rfl); (case hr => first | (go_simp; done) | (go_simp; rfl)); intro Af hg w6 hbox hb; have Aa := Am (hbox); have Al := Am ((by rw [hg]; exact (below_size (pB HB.out)) : w.heap.size ≤ Af)); replace HB := Am (below_step (pB HB.out) hb); have Ac := Al; clear hb hbox hg) | ((with_reducible refine gate_dst (N := 4) rfl ?_); refine box_event ?hg (N := 4) ?hd (cs := #[.int .i64 0, .int .i64 0, .slice none 0 0, .int .i64 0, .int .i64 0, .int .i64 0, .int .i64 0]) (t := 26) ?hr ?_; (case hd => rfl); (case hg => rfl); (case hr => first | (go_simp; done) | (go_simp; rfl)); intro Ad hg w7 hbox hb; have Ab := Am (hbox); have An := Am ((by rw [hg]; exact (below_size (pE HB.out Ac.out)) : w.heap.size ≤ Ad)); replace HB := Am (below_step (pE HB.out Ac.out) hb); have Ah := An; have Ag := Am ((by rw [hg]; exact Nat.ne_of_lt (kL Aa.out) : Af ≠ Ad)); have Ae := Am ((by rw [hg]; exact Nat.ne_of_gt (kL Aa.out) : Ad ≠ Af)); replace Aa := kBa Aa hb; clear hb hbox hg; have hnb8 := Ag.out; have hnc8 := Ae.out; obtain ⟨_, _, _, _, _, _, _⟩ := bc7 Aa.out; obtain ⟨_, _, _, _, _, _, _⟩ := bf7 Aa.out) | ((with_reducible refine gate_callee (f := 21) rfl ?_); refine goesL_ (some 10) rfl rfl Try.func21 (by kernel_rfl) rfl #[.agg #[.int .i64 a0_0, .int .i64 a0_1, .slice A0_2 l0_2.length c0_2, .int .i64 a0_3, .int .i64 a0_4, .int .i64 a0_5, .int .i64 a0_6]] rfl pL ?_; (with_reducible refine (raft_Check.calls k a0_0 a0_1 _ _ l0_2 a0_3 a0_4 a0_5 a0_6 t244 _ ?Ai ?Aj A3.out).mono ?_); (case Ai => exact pC (Kd.C_below Ao.out HB.out)); (case Aj => exact Ap.out); rintro e w10 ⟨rfl, hb⟩; refine ⟨_, rfl, ?_⟩; replace Aa := kBa Aa hb; replace Ab := kBa Ab hb; replace HB := Am (below_step (pE2 HB.out Ac.out Ah.out) hb); (try clear hb); (try clear hb2); (try clear hk); (try clear hi); obtain ⟨_, _, _, _, _, _, _⟩ := bc7 Aa.out; obtain ⟨_, _, _, _, _, _, _⟩ := bf7 Aa.out; obtain ⟨_, _, _, _, _, _, _⟩ := bc7 Ab.out; obtain ⟨_, _, _, _, _, _, _⟩ := bf7 Ab.out))
  refine bodyPost_ret (results_ctt rfl _ _ Ad 26 #[.int .i64 0, .int .i64 0, .slice none 0 0, .int .i64 0, .int .i64 0, .int .i64 0, .int .i64 0] (0, 0) _ rfl (kX0 Ab.out) Try.underlying26 rfl (by kernel_rfl)) rfl ?_
  exact ⟨_, _, pX, by first | exact Kd.S_nil _ _ _ _ _ | exact Kd.N_nil _ _ _ _ _ | exact Kd.V_nil _ _ _ _ _ | exact Kd.Q_nil _ _ _ _ _ | exact Kd.R_nil _ _ _ _ _, by first | exact Kd.S_nil _ _ _ _ _ | exact Kd.N_nil _ _ _ _ _ | exact Kd.V_nil _ _ _ _ _ | exact Kd.Q_nil _ _ _ _ _ | exact Kd.R_nil _ _ _ _ _, pE2 HB.out Ac.out Ah.out⟩
 rw [if_neg c5] at H
 have c5b0 : decide (a1 < a0_6) = false := decide_eq_false c5
 clear c5
 by_cases c13 : a1 > a0_5
 ·rw [if_pos c13] at H
  have c13b0 : decide (a0_5 < a1) = true := decide_eq_true c13
  clear c13
  simp only [Option.some.injEq, Prod.mk.injEq] at H
  obtain ⟨rfl, rfl, rfl, rfl, rfl, rfl, rfl, rfl, rfl⟩ := H
  go_enter Try.func7, Try.ntmps7
  go_wp2_with (first | ((with_reducible refine gate_dst (N := 2) rfl ?_); refine box_event ?hg (N := 2) ?hd (cs := #[.int .i64 a0_0, .int .i64 a0_1, .slice A0_2 l0_2.length c0_2, .int .i64 a0_3, .int .i64 a0_4, .int .i64 a0_5, .int .i64 a0_6]) (t := 26) ?hr ?_; (case hd => rfl); (case hg => rfl); (case hr => first | (go_simp; done) | (go_simp; rfl)); intro Af hg w14 hbox hb; have Aa := Am (hbox); have Al := Am ((by rw [hg]; exact (below_size (pB HB.out)) : w.heap.size ≤ Af)); replace HB := Am (below_step (pB HB.out) hb); have Ac := Al; clear hb hbox hg) | ((with_reducible refine gate_dst (N := 4) rfl ?_); refine box_event ?hg (N := 4) ?hd (cs := #[.int .i64 0, .int .i64 0, .slice none 0 0, .int .i64 0, .int .i64 0, .int .i64 0, .int .i64 0]) (t := 26) ?hr ?_; (case hd => rfl); (case hg => rfl); (case hr => first | (go_simp; done) | (go_simp; rfl)); intro Ad hg w15 hbox hb; have Ab := Am (hbox); have An := Am ((by rw [hg]; exact (below_size (pE HB.out Ac.out)) : w.heap.size ≤ Ad)); replace HB := Am (below_step (pE HB.out Ac.out) hb); have Ah := An; have Ag := Am ((by rw [hg]; exact Nat.ne_of_lt (kL Aa.out) : Af ≠ Ad)); have Ae := Am ((by rw [hg]; exact Nat.ne_of_gt (kL Aa.out) : Ad ≠ Af)); replace Aa := kBa Aa hb; clear hb hbox hg; have hnb16 := Ag.out; have hnc16 := Ae.out; obtain ⟨_, _, _, _, _, _, _⟩ := bc7 Aa.out; obtain ⟨_, _, _, _, _, _, _⟩ := bf7 Aa.out) | ((with_reducible refine gate_callee (f := 21) rfl ?_); refine goesL_ (some 10) rfl rfl Try.func21 (by kernel_rfl) rfl #[.agg #[.int .i64 a0_0, .int .i64 a0_1, .slice A0_2 l0_2.length c0_2, .int .i64 a0_3, .int .i64 a0_4, .int .i64 a0_5, .int .i64 a0_6]] rfl pL ?_; (with_reducible refine (raft_Check.calls k a0_0 a0_1 _ _ l0_2 a0_3 a0_4 a0_5 a0_6 t244 _ ?Ai ?Aj A3.out).mono ?_); (case Ai => exact pC (Kd.C_below Ao.out HB.out)); (case Aj => exact Ap.out); rintro e w18 ⟨rfl, hb⟩; refine ⟨_, rfl, ?_⟩; replace Aa := kBa Aa hb; replace Ab := kBa Ab hb; replace HB := Am (below_step (pE2 HB.out Ac.out Ah.out) hb); (try clear hb); (try clear hb2); (try clear hk); (try clear hi); obtain ⟨_, _, _, _, _, _, _⟩ := bc7 Aa.out; obtain ⟨_, _, _, _, _, _, _⟩ := bf7 Aa.out; obtain ⟨_, _, _, _, _, _, _⟩ := bc7 Ab.out; obtain ⟨_, _, _, _, _, _, _⟩ := bf7 Ab.out))
  refine bodyPost_ret (results_ctt rfl _ _ Ad 26 #[.int .i64 0, .int .i64 0, .slice none 0 0, .int .i64 0, .int .i64 0, .int .i64 0, .int .i64 0] (0, 0) _ rfl (kX0 Ab.out) Try.underlying26 rfl (by kernel_rfl)) rfl ?_
  exact ⟨_, _, pX, by first | exact Kd.S_nil _ _ _ _ _ | exact Kd.N_nil _ _ _ _ _ | exact Kd.V_nil _ _ _ _ _ | exact Kd.Q_nil _ _ _ _ _ | exact Kd.R_nil _ _ _ _ _, by first | exact Kd.S_nil _ _ _ _ _ | exact Kd.N_nil _ _ _ _ _ | exact Kd.V_nil _ _ _ _ _ | exact Kd.Q_nil _ _ _ _ _ | exact Kd.R_nil _ _ _ _ _, pE2 HB.out Ac.out Ah.out⟩
 rw [if_neg c13] at H
 have c13b0 : decide (a0_5 < a1) = false := decide_eq_false c13
 clear c13
 obtain ⟨ji21, hji21⟩ : ∃ j_ : Int, (wrap64 (a0_6 - a0_0)) = j_ := ⟨_, rfl⟩
 replace H : (if 0 ≤ (ji21) then (if (ji21) ≤ (wrap64 (a1 - a0_0)) then (if (wrap64 (a1 - a0_0)) ≤ (l0_2.length : Int) then ((raft_owns.f k ((l0_2.take ((wrap64 (a1 - a0_0)) : Int).toNat).drop ((ji21) : Int).toNat)).bind fun t249 => ((raft_owns.f k l0_2).bind fun t252 => (some (a0_0, a0_1, t252, a0_3, a0_4, a0_5, a1, t249, 0)))) else (none)) else (none)) else (none)) = some (r1, r2, r3, r4, r5, r6, r7, r8, r9) := by first | (rw [hji21] at H; exact H) | (simp only [hji21] at H ⊢; exact H)
 (try rw [hji21] at A3)
 have hji21w : (IntKind.i64.wrap (a0_6 - a0_0)) = ji21 := (i64_w _).trans hji21
 by_cases c22 : 0 ≤ (ji21)
 rotate_left
 ·rw [if_neg c22] at H
  exact absurd H (by simp)
 rw [if_pos c22] at H
 have c22b0 := eq_true c22
 have c22b1 : decide (0 ≤ (ji21)) = true := decide_eq_true c22
 clear c22
 by_cases c23 : (ji21) ≤ (wrap64 (a1 - a0_0))
 rotate_left
 ·rw [if_neg c23] at H
  exact absurd H (by simp)
 rw [if_pos c23] at H
 have c23b0 := eq_true c23
 have c23b1 : decide ((ji21) ≤ (wrap64 (a1 - a0_0))) = true := decide_eq_true c23
 clear c23
 by_cases c24 : (wrap64 (a1 - a0_0)) ≤ (l0_2.length : Int)
 rotate_left
 ·rw [if_neg c24] at H
  exact absurd H (by simp)
 rw [if_pos c24] at H
 have c24b0 := eq_true c24
 have c24b1 : decide ((wrap64 (a1 - a0_0)) ≤ (l0_2.length : Int)) = true := decide_eq_true c24
 clear c24
 obtain ⟨y245, hy245⟩ : ∃ y_ : List (S55), y_ = ((l0_2.take ((wrap64 (a1 - a0_0)) : Int).toNat).drop ((ji21) : Int).toNat) := ⟨_, rfl⟩
 replace H : ((raft_owns.f k y245).bind fun t249 => ((raft_owns.f k l0_2).bind fun t252 => (some (a0_0, a0_1, t252, a0_3, a0_4, a0_5, a1, t249, 0)))) = some (r1, r2, r3, r4, r5, r6, r7, r8, r9) := by first | (rw [hy245]; with_reducible exact H) | (have H2_ := (Option.bind_some _ _).symm.trans H; rw [hy245]; with_reducible exact H2_) | (have H2_ := (Option.bind_some _ _).symm.trans H; with_reducible exact H2_) | with_reducible exact H | (rw [hy245]; exact H) | exact H
 have Ny245 := Am hy245
 clear hy245
 replace H := Option.bind_eq_some_iff.mp H
 obtain ⟨t249, A250, H⟩ := H
 replace H : ((raft_owns.f k l0_2).bind fun t252 => (some (a0_0, a0_1, t252, a0_3, a0_4, a0_5, a1, t249, 0))) = some (r1, r2, r3, r4, r5, r6, r7, r8, r9) := H
 have A25 := Am A250
 clear A250
 replace H := Option.bind_eq_some_iff.mp H
 obtain ⟨t252, A260, H⟩ := H
 replace H : (some (a0_0, a0_1, t252, a0_3, a0_4, a0_5, a1, t249, 0)) = some (r1, r2, r3, r4, r5, r6, r7, r8, r9) := H
 have A26 := Am A260
 clear A260
 simp only [Option.some.injEq, Prod.mk.injEq] at H
 obtain ⟨rfl, rfl, rfl, rfl, rfl, rfl, rfl, rfl, rfl⟩ := H
 go_enter Try.func7, Try.ntmps7
 go_wp2_with (first | ((with_reducible refine gate_dst (N := 2) rfl ?_); refine box_event ?hg (N := 2) ?hd (cs := #[.int .i64 a0_0, .int .i64 a0_1, .slice A0_2 l0_2.length c0_2, .int .i64 a0_3, .int .i64 a0_4, .int .i64 a0_5, .int .i64 a0_6]) (t := 26) ?hr ?_; (case hd => rfl); (case hg => rfl); (case hr => first | (go_simp; done) | (go_simp; rfl)); intro Af hg w27 hbox hb; have Aa := Am (hbox); have Al := Am ((by rw [hg]; exact (below_size (pB HB.out)) : w.heap.size ≤ Af)); replace HB := Am (below_step (pB HB.out) hb); have Ac := Al; clear hb hbox hg) | ((with_reducible refine gate_dst (N := 4) rfl ?_); refine box_event ?hg (N := 4) ?hd (cs := #[.int .i64 0, .int .i64 0, .slice none 0 0, .int .i64 0, .int .i64 0, .int .i64 0, .int .i64 0]) (t := 26) ?hr ?_; (case hd => rfl); (case hg => rfl); (case hr => first | (go_simp; done) | (go_simp; rfl)); intro Ad hg w28 hbox hb; have Ab := Am (hbox); have An := Am ((by rw [hg]; exact (below_size (pE HB.out Ac.out)) : w.heap.size ≤ Ad)); replace HB := Am (below_step (pE HB.out Ac.out) hb); have Ah := An; have Ag := Am ((by rw [hg]; exact Nat.ne_of_lt (kL Aa.out) : Af ≠ Ad)); have Ae := Am ((by rw [hg]; exact Nat.ne_of_gt (kL Aa.out) : Ad ≠ Af)); replace Aa := kBa Aa hb; clear hb hbox hg; have hnb29 := Ag.out; have hnc29 := Ae.out; obtain ⟨_, _, _, _, _, _, _⟩ := bc7 Aa.out; obtain ⟨_, _, _, _, _, _, _⟩ := bf7 Aa.out) | ((with_reducible refine gate_callee (f := 21) rfl ?_); refine goesL_ (some 10) rfl rfl Try.func21 (by kernel_rfl) rfl #[.agg #[.int .i64 a0_0, .int .i64 a0_1, .slice A0_2 l0_2.length c0_2, .int .i64 a0_3, .int .i64 a0_4, .int .i64 a0_5, .int .i64 a0_6]] rfl pL ?_; (with_reducible refine (raft_Check.calls k a0_0 a0_1 _ _ l0_2 a0_3 a0_4 a0_5 a0_6 t244 _ ?Ai ?Aj A3.out).mono ?_); (case Ai => exact pC (Kd.C_below Ao.out HB.out)); (case Aj => exact Ap.out); rintro e w31 ⟨rfl, hb⟩; refine ⟨_, rfl, ?_⟩; replace Aa := kBa Aa hb; replace Ab := kBa Ab hb; replace HB := Am (below_step (pE2 HB.out Ac.out Ah.out) hb); (try clear hb); (try clear hb2); (try clear hk); (try clear hi); obtain ⟨_, _, _, _, _, _, _⟩ := bc7 Aa.out; obtain ⟨_, _, _, _, _, _, _⟩ := bf7 Aa.out; have q33 : ((wrap64 (a1 - a0_0)) : Int) ≤ ((l0_2.length : Int) : Int) := of_decide_eq_true pS; obtain ⟨i033, hi033, _, As, _⟩ := info_parts info55; have Ak : l0_2.length ≤ c0_2 := Ap.out; have Ax : Kd.C k55 _ A0_2 l0_2.length l0_2 := Ao.out; have ql33 : ((ji21) : Int) ≤ ((wrap64 (a1 - a0_0)) : Int) := of_decide_eq_true pS; have q033 : (0 : Int) ≤ ((ji21) : Int) := of_decide_eq_true pS; have Aw := cut_mid (P := Try.prog) 22 55 .i64 .i64 Try.underlying22 hi033 10 As A0_2 l0_2.length c0_2 (ji21) (wrap64 (a1 - a0_0)) q033 ql33 q33 Ak; have Ar := Kd.C_mid (lo := ((ji21) : Int).toNat) (hi := ((wrap64 (a1 - a0_0)) : Int).toNat) (c := c0_2) Ax (by omega) (by omega) Ak; obtain ⟨A33, hA33⟩ : ∃ AX_, AX_ = (if c0_2 = ((ji21) : Int).toNat then A0_2 else (A0_2 : Option Addr).map (·.add (((ji21) : Int).toNat * 10))) := ⟨_, rfl⟩; obtain ⟨c33, hc33⟩ : ∃ cX_, cX_ = c0_2 - ((ji21) : Int).toNat := ⟨_, rfl⟩; have hy33 : y245.length = ((wrap64 (a1 - a0_0)) : Int).toNat - ((ji21) : Int).toNat := (by rw [Ny245.out, List.length_drop, List.length_take] <;> omega); rw [show ((l0_2).take ((wrap64 (a1 - a0_0)) : Int).toNat).drop ((ji21) : Int).toNat = y245 from Ny245.out.symm] at Ar; replace Ar : Kd.C k55 _ A33 y245.length y245 := (by rw [hA33]; exact Ar); rw [← hy33, ← hA33, ← hc33] at Aw; have HR248 := Am Ar; have HC248 := Am (show y245.length ≤ c33 from by rw [hy33, hc33]; exact Nat.sub_le_sub_right (Nat.le_trans (by omega) Ak) _); clear Ar Ax Ak hi033 As hc33; have KY33 := Am hy33; have KA33 := Am hA33; clear hy33 hA33; replace q33 := eq_true q33) | ((with_reducible refine gate_callee (f := 23) rfl ?_); refine goesL_ (some 38) rfl rfl Try.func23 (by kernel_rfl) rfl #[.slice A33 y245.length c33] rfl pL ?_; (with_reducible refine (raft_owns.calls k _ _ y245 t249 _ ?Ai ?Aj A25.out).mono ?_); (case Ai => exact pC (Kd.C_below HR248.out HB.out)); (case Aj => exact HC248.out); rintro e w34 ⟨v250, rfl, ho0, hb⟩; refine ⟨_, rfl, ?_⟩; have Aq := Am (Kd.S_lower ho0 (below_size (pE2 HB.out Ac.out Ah.out))); replace Aa := kBa Aa hb; replace Ab := kBa Ab hb; replace HB := Am (below_step (pE2 HB.out Ac.out Ah.out) hb); (try clear hb); (try clear hb2); (try clear hk); (try clear hi); (try clear ho0); obtain ⟨_, _, _, _, _, _, _⟩ := bc7 Aa.out; obtain ⟨_, _, _, _, _, _, _⟩ := bf7 Aa.out) | ((with_reducible refine gate_callee (f := 23) rfl ?_); refine goesL_ (some 41) rfl rfl Try.func23 (by kernel_rfl) rfl #[.slice A0_2 l0_2.length c0_2] rfl pL ?_; (with_reducible refine (raft_owns.calls k _ _ l0_2 t252 _ ?Ai ?Aj A26.out).mono ?_); (case Ai => exact pC (Kd.C_below Ao.out HB.out)); (case Aj => exact Ap.out); rintro e w36 ⟨v253, rfl, ho0, hb⟩; refine ⟨_, rfl, ?_⟩; have At := Am (Kd.S_lower (Kd.S_new' ho0 (Kd.S_lt (by (with_reducible repeat (first | apply Kd.S_alloc | apply Kd.S_drewN | apply Kd.S_drew)); exact Aq.out))) (below_size (pE2 HB.out Ac.out Ah.out))); replace Aq := Am (Kd.S_elder' (by (with_reducible repeat (first | apply Kd.S_alloc | apply Kd.S_drewN | apply Kd.S_drew)); exact Aq.out) (Kd.S_base ho0) hb); replace Aa := kBa Aa hb; replace Ab := kBa Ab hb; replace HB := Am (below_step (pE2 HB.out Ac.out Ah.out) hb); (try clear hb); (try clear hb2); (try clear hk); (try clear hi); (try clear ho0); obtain ⟨Au, Av, Ay⟩ := Kd.S_slice At.out; subst Ay; obtain ⟨_, _, _, _, _, _, _⟩ := bc7 Aa.out; obtain ⟨_, _, _, _, _, _, _⟩ := bf7 Aa.out; obtain ⟨_, _, _, _, _, _, _⟩ := bc7 Ab.out; obtain ⟨_, _, _, _, _, _, _⟩ := bf7 Ab.out))
 refine bodyPost_ret (results_ctt rfl _ _ Ad 26 #[.int .i64 a0_0, .int .i64 a0_1, .slice Au t252.length Av, .int .i64 a0_3, .int .i64 a0_4, .int .i64 a0_5, .int .i64 a1] (0, 0) _ rfl (kX1 Ab.out Ae.out) Try.underlying26 rfl (by kernel_rfl)) rfl ?_
 exact ⟨_, _, by first | rfl | (simp [errW_none, errW_some] <;> rfl) | (simp only [← hji21]; first | rfl | (simp [errW_none, errW_some] <;> rfl)) | (simp [*, errW_none, errW_some] <;> rfl), by (with_reducible repeat (first | apply Kd.S_alloc | apply Kd.S_drewN | apply Kd.S_drew)); have h0_ := Kd.S_types (Kd.S_types At.out Aa.out (by decide)) Ab.out (by decide); have h1_ := Kd.S_far (p := ⟨Af, 2, none⟩) h0_ (fun _ hk => hk.1.2) (.slice Au t252.length Av); have h2_ := Kd.S_far (p := ⟨Af, 6, none⟩) h1_ (fun _ hk => hk.1.2) (.int .i64 a1); exact Kd.S_mono (Sf7 (g := Ad) (h2_) (fun _ hk => hk.2)) (fun _ hk => hk.1.1.2), by (with_reducible repeat (first | apply Kd.S_alloc | apply Kd.S_drewN | apply Kd.S_drew)); have h0_ := Kd.S_types (Kd.S_types Aq.out Aa.out (by decide)) Ab.out (by decide); have h1_ := Kd.S_far (p := ⟨Af, 2, none⟩) h0_ (fun _ hk => hk.1.2) (.slice Au t252.length Av); have h2_ := Kd.S_far (p := ⟨Af, 6, none⟩) h1_ (fun _ hk => hk.1.2) (.int .i64 a1); exact Kd.S_mono (Sf7 (g := Ad) (h2_) (fun _ hk => hk.2)) (fun _ hk => hk.1.1.2), pE2 HB.out Ac.out Ah.out⟩
end Go.Proofs.Ytangfpcifdpfeaa.PRaftTurns
