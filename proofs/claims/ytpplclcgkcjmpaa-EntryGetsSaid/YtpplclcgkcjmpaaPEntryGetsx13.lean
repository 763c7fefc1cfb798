/- What the law reaches, as plain Lean functions, and that the machine's calls answer just that. -/
import Derived.Test.YtpplclcgkcjmpaaPEntryGetsx0
import Derived.Test.YtpplclcgkcjmpaaPEntryGetsx9
import Derived.Test.YtpplclcgkcjmpaaPEntryGetsx10
import Derived.Test.YtpplclcgkcjmpaaPEntryGetsx12
namespace Go.Proofs.Ytpplclcgkcjmpaa.PEntryGets
open Go.RowKit Go.Proofs.YtpplclcgkcjmpaaW.PrintWords Go.Proofs.YtpplclcgkcjmpaaW.PrintLast Go.Proofs.YtpplclcgkcjmpaaW.PrintMore
attribute [local go_sem] max2_int min2_int max_two min_two max_three min_three max_four min_four
set_option linter.unusedVariables false
set_option linter.unusedSimpArgs false
attribute [local go_sem] wrap64_l1 wrap64_l2 wrap64_l3 wrap64_l4 wrap64_l5
mutual
def garnerref06_Get.j0 : Nat → List Int → Int → Int → Int → Int → Bool → Option ((List (S42)))
 | 0, _, _, _, _, _, _ => none
 | k + 1, x0, x3, x4, x5, x6, x29 => if x29 = true then (some ([] : List (S42))) else (garnerref06_Get.l0 k x0 x3 x5 (wrap64 (x4 + x6)) (([] : List (S42))) 0)
def garnerref06_Get.l0 : Nat → List Int → Int → Int → Int → List (S42) → Int → Option ((List (S42)))
 | 0, _, _, _, _, _, _ => none
 | k + 1, x0, x3, x5, x7, x8, x9 => if x9 < x3 then (if 0 ≤ x7 then (if x7 ≤ (x0.length : Int) then ((garnerref06_one.f k (x0.drop (x7 : Int).toNat) (wrap64 (x5 + x9))).bind fun bt383 => (if bt383.2.2.2.2.2.2.2.2.2.2 = 0 then (some ([] : List (S42))) else (if x8.length < 1353245080339 then (garnerref06_Get.l0 k x0 x3 x5 (wrap64 (x7 + bt383.2.2.2.2.2.2.2.2.2.2)) (x8 ++ [(⟨bt383.1, bt383.2.1, bt383.2.2.1, bt383.2.2.2.1, (⟨bt383.2.2.2.2.1, bt383.2.2.2.2.2.1, (⟨bt383.2.2.2.2.2.2.1, bt383.2.2.2.2.2.2.2.1, bt383.2.2.2.2.2.2.2.2.1, bt383.2.2.2.2.2.2.2.2.2.1⟩ : S38)⟩ : S40)⟩ : S42)]) (wrap64 (x9 + 1))) else (none)))) else (none)) else (none)) else (if x7 = (x0.length : Int) then ((garnerref06_Batch.f k x8).bind fun t400 => (if t400 = true then (some x8) else (some ([] : List (S42))))) else (some ([] : List (S42))))
end
def garnerref06_Get.f (k : Nat) (l0 : List Int) : Option ((List (S42))) := (garnerref06_number.f k l0 16).bind fun bt374 => (if 0 ≤ bt374.2 then (if bt374.2 ≤ (l0.length : Int) then ((garnerref06_number.f k (l0.drop (bt374.2 : Int).toNat) 2147483647).bind fun bt377 => (if bt374.2 = 0 then (garnerref06_Get.j0 k l0 bt374.1 bt374.2 bt377.1 bt377.2 true) else (garnerref06_Get.j0 k l0 bt374.1 bt374.2 bt377.1 bt377.2 (bt377.2 == 0)))) else (none)) else (none))
theorem garnerref06_Get.mono_l : ∀ k, (∀ y0 y1 y2 y3 y4 y5, LeO (garnerref06_Get.j0 k y0 y1 y2 y3 y4 y5) (garnerref06_Get.j0 (k + 1) y0 y1 y2 y3 y4 y5)) ∧ (∀ y0 y1 y2 y3 y4 y5, LeO (garnerref06_Get.l0 k y0 y1 y2 y3 y4 y5) (garnerref06_Get.l0 (k + 1) y0 y1 y2 y3 y4 y5))
 | 0 => ⟨fun _ _ _ _ _ _ r h => by simp [garnerref06_Get.j0] at h, fun _ _ _ _ _ _ r h => by simp [garnerref06_Get.l0] at h⟩
 | k + 1 => by
  obtain ⟨ih0, ih1⟩ := garnerref06_Get.mono_l k
  refine ⟨?_, ?_⟩
  ·intro y0 y1 y2 y3 y4 y5
   unfold garnerref06_Get.j0
   repeat' first
   | (with_reducible exact ih0 _ _ _ _ _ _)
   | (with_reducible exact ih1 _ _ _ _ _ _)
   | (with_reducible exact garnerref06_Batch.mono _ _)
   | (with_reducible exact garnerref06_number.mono _ _ _)
   | (with_reducible exact garnerref06_one.mono _ _ _)
   | (with_reducible exact LeO.refl _)
   | (with_reducible exact LeO.none _)
   | (with_reducible refine LeO.ite ?_ ?_)
   | (with_reducible refine LeO.bind ?_ (fun _ => ?_))
   | exact ih0 _ _ _ _ _ _
   | exact ih1 _ _ _ _ _ _
   | exact garnerref06_Batch.mono _ _
   | exact garnerref06_number.mono _ _ _
   | exact garnerref06_one.mono _ _ _
   | exact LeO.none _
   | refine LeO.ite ?_ ?_
   | refine LeO.bind ?_ (fun _ => ?_)
  ·intro y0 y1 y2 y3 y4 y5
   unfold garnerref06_Get.l0
   repeat' first
   | (with_reducible exact ih0 _ _ _ _ _ _)
   | (with_reducible exact ih1 _ _ _ _ _ _)
   | (with_reducible exact garnerref06_Batch.mono _ _)
   | (with_reducible exact garnerref06_number.mono _ _ _)
   | (with_reducible exact garnerref06_one.mono _ _ _)
   | (with_reducible exact LeO.refl _)
   | (with_reducible exact LeO.none _)
   | (with_reducible refine LeO.ite ?_ ?_)
   | (with_reducible refine LeO.bind ?_ (fun _ => ?_))
   | exact ih0 _ _ _ _ _ _
   | exact ih1 _ _ _ _ _ _
   | exact garnerref06_Batch.mono _ _
   | exact garnerref06_number.mono _ _ _
   | exact garnerref06_one.mono _ _ _
   | exact LeO.none _
   | refine LeO.ite ?_ ?_
   | refine LeO.bind ?_ (fun _ => ?_)
theorem garnerref06_Get.mono : ∀ a0 k, LeO (garnerref06_Get.f k a0) (garnerref06_Get.f (k + 1) a0) := by
 intro a0 k
 obtain ⟨ih0, ih1⟩ := garnerref06_Get.mono_l k
 unfold garnerref06_Get.f
 repeat' first
   | (with_reducible exact ih0 _ _ _ _ _ _)
   | (with_reducible exact ih1 _ _ _ _ _ _)
   | (with_reducible exact garnerref06_Batch.mono _ _)
   | (with_reducible exact garnerref06_number.mono _ _ _)
   | (with_reducible exact garnerref06_one.mono _ _ _)
   | (with_reducible exact LeO.refl _)
   | (with_reducible exact LeO.none _)
   | (with_reducible refine LeO.ite ?_ ?_)
   | (with_reducible refine LeO.bind ?_ (fun _ => ?_))
   | exact ih0 _ _ _ _ _ _
   | exact ih1 _ _ _ _ _ _
   | exact garnerref06_Batch.mono _ _
   | exact garnerref06_number.mono _ _ _
   | exact garnerref06_one.mono _ _ _
   | exact LeO.none _
   | refine LeO.ite ?_ ?_
   | refine LeO.bind ?_ (fun _ => ?_)
set_option maxHeartbeats 8000000 in
set_option maxRecDepth 100000 in
theorem garnerref06_Get.calls (k : Nat) (A0 : Option Addr) (c0 : Nat) (l0 : List Int) (r : List (S42)) (w : World) (hr0 : Kd.C (Kd.int .u8) w A0 l0.length l0) (hc0 : l0.length ≤ c0) (h : garnerref06_Get.f k l0 = some r) :
  Calls Try.prog 7 #[.slice A0 l0.length c0] w fun e w' => ∃ v0_ : Value, e = .returned (v0_) ∧ Kd.S k42 42 w' w.heap.size (fun _ => True) v0_ r ∧ Below w.heap.size w w' := by
 have hu42 := Try.underlying42
 have HR0 := Am hr0
 have HC0 := Am hc0
 clear hr0 hc0
 have HB := Am (Below.refl w.heap.size w)
 have H : ((garnerref06_number.f k l0 16).bind fun bt374 => (if 0 ≤ bt374.2 then (if bt374.2 ≤ (l0.length : Int) then ((garnerref06_number.f k (l0.drop (bt374.2 : Int).toNat) 2147483647).bind fun bt377 => (if bt374.2 = 0 then (garnerref06_Get.j0 k l0 bt374.1 bt374.2 bt377.1 bt377.2 true) else (garnerref06_Get.j0 k l0 bt374.1 bt374.2 bt377.1 bt377.2 (bt377.2 == 0)))) else (none)) else (none))) = some r := h
 clear h
 replace H := Option.bind_eq_some_iff.mp H
 obtain ⟨⟨t374, t375⟩, A20, H⟩ := H
 replace H : (if 0 ≤ t375 then (if t375 ≤ (l0.length : Int) then ((garnerref06_number.f k (l0.drop (t375 : Int).toNat) 2147483647).bind fun bt377 => (if t375 = 0 then (garnerref06_Get.j0 k l0 t374 t375 bt377.1 bt377.2 true) else (garnerref06_Get.j0 k l0 t374 t375 bt377.1 bt377.2 (bt377.2 == 0)))) else (none)) else (none)) = some r := H
 have A2 := Am A20
 clear A20
 by_cases c3 : 0 ≤ t375
 rotate_left
 ·rw [if_neg c3] at H
  exact absurd H (by simp)
 rw [if_pos c3] at H
 have c3b0 := eq_true c3
 have c3b1 : decide (0 ≤ t375) = true := decide_eq_true c3
 clear c3
 by_cases c4 : t375 ≤ (l0.length : Int)
 rotate_left
 ·rw [if_neg c4] at H
  exact absurd H (by simp)
 rw [if_pos c4] at H
 have c4b0 := eq_true c4
 have c4b1 : decide (t375 ≤ (l0.length : Int)) = true := decide_eq_true c4
 clear c4
 replace H := Option.bind_eq_some_iff.mp H
 obtain ⟨⟨t377, t378⟩, A50, H⟩ := H
 replace H : (if t375 = 0 then (garnerref06_Get.j0 k l0 t374 t375 t377 t378 true) else (garnerref06_Get.j0 k l0 t374 t375 t377 t378 (t378 == 0))) = some r := H
 have A5 := Am A50
 clear A50
 have HC6 := Am H
 clear H
 go_enter Try.func7, Try.ntmps7
 go_upto_region 3 with (first | ((with_reducible refine gate_callee (f := 17) rfl ?_); refine goesL_ (some 14) rfl rfl Try.func17 (by kernel_rfl) rfl #[.slice A0 l0.length c0, .int .u64 16] rfl pL ?_; (with_reducible refine (garnerref06_number.calls k _ _ l0 16 t374 t375 _ ?Af ?Ag A2.out).mono ?_); (case Af => repeat (first | exact HR0.out | (with_reducible refine Kd.C_alloc ?_ _) | (with_reducible refine Kd.C_drewN ?_ _) | (with_reducible refine Kd.C_drew ?_))); (case Ag => exact HC0.out); rintro e w7 ⟨rfl, hb⟩; refine ⟨_, rfl, ?_⟩; replace HB := Am (below_step (pB HB.out) hb); (try clear hb); (try clear hb2); (try clear hk); (try clear hi); obtain ⟨i08, hi08, _, Ar, _⟩ := info_parts info5; obtain ⟨A8, hcut8, hA8, A1⟩ := print_drop_of (P := Try.prog) (Value.int .u8) 0 22 5 .i64 Try.underlying22 hi08 Ar A0 c0 l0 t375 (of_decide_eq_true pS) (of_decide_eq_true pS) HC0.out; have HR376 := Am (Kd.C_of_reads (h1 := fun _ => rfl) (hA8 _ (Kd.reads_of_C HR0.out))); have HC376 := Am A1; clear hA8 A1 hi08 Ar) | ((with_reducible refine gate_callee (f := 17) rfl ?_); refine goesL_ (some 21) rfl rfl Try.func17 (by kernel_rfl) rfl #[.slice A8 (l0.drop (t375 : Int).toNat).length (c0 - t375.toNat), .int .u64 2147483647] rfl (by (try simp only [List.map_toArray, List.map_cons, List.map_nil]); first | done | (rw [show (l0.drop (t375 : Int).toNat).length = (l0.length - t375.toNat) from List.length_drop] <;> rfl) | rfl | (simp only [List.length_drop, List.length_take]; rfl)) ?_; (with_reducible refine (garnerref06_number.calls k _ _ (l0.drop (t375 : Int).toNat) 2147483647 t377 t378 _ ?Af ?Ag A5.out).mono ?_); (case Af => exact pC (Kd.C_below HR376.out HB.out)); (case Ag => exact HC376.out); rintro e w9 ⟨rfl, hb⟩; refine ⟨_, rfl, ?_⟩; replace HB := Am (below_step (pB HB.out) hb); (try clear hb); (try clear hb2); (try clear hk); (try clear hi)))
 (try simp only [Act.put, List.setIfInBounds_toArray, List.set_cons_zero, List.set_cons_succ])
 go_cut [29] (fun v29 wc => ∃ (kq : Nat) (An : Bool), v29 = .bool An ∧ Aside0 (garnerref06_Get.j0 kq l0 t374 t375 t377 t378 An = some r) ∧ Aside0 (kq ≤ k) ∧ Aside0 (Below w.heap.size w wc))
 case first =>
  have H := HC6.out
  clear HC6
  by_cases c10 : t375 = 0
  rotate_left
  ·rw [if_neg c10] at H
   have c10b0 : (t375 == 0) = false := beq_eq_false_iff_ne.mpr c10
   have c10b1 : (t375 != 0) = true := bne_iff_ne.mpr c10
   (first | rw [c10b0] | (simp only [i64_w, i32_w]; rw [c10b0]) | skip)
   have H' := Am H
   clear H
   go_wp2
   go_meet
   case rel => exact ⟨_, ((t378 == 0)), (by first | rfl | (simp; done) | (simp [*]; done)), H', ⟨by first | omega | exact Nat.le_refl _⟩, ⟨pB HB.out⟩⟩
  rw [if_pos c10] at H
  have c10b0 : (t375 == 0) = true := beq_iff_eq.mpr c10
  have c10b1 : (t375 != 0) = false := bne_eq_false_iff_eq.mpr c10
  clear c10
  (first | rw [c10b0] | (simp only [i64_w, i32_w]; rw [c10b0]) | skip)
  have H' := Am H
  clear H
  go_wp2
  go_meet
  case rel => exact ⟨_, (true), (by first | rfl | (simp; done) | (simp [*]; done)), H', ⟨by first | omega | exact Nat.le_refl _⟩, ⟨pB HB.out⟩⟩
 case rest =>
  clear HC6
  try clear c1
  try clear p2
  try clear c3
  try clear c3b0
  try clear c3b1
  try clear c4
  try clear c4b0
  try clear c4b1
  try clear c7
  try clear c10
  try clear c10b0
  try clear c10b1
  obtain ⟨kq, An, rfl, HA, HJ5, HB⟩ := hcut
  cases kq with
  | zero => exact absurd HA.out (by simp [garnerref06_Get.j0])
  | succ kj5 =>
   have H := HA.out
   clear HA
   simp only [garnerref06_Get.j0] at H
   by_cases c11 : An = true
   ·subst c11
    have H1 : (some ([] : List (S42))) = some r := by rw [if_pos rfl] at H; exact H
    clear H
    have H := H1
    clear H1
    obtain rfl := Option.some.inj H
    go_wp2
    go_ret
    exact ⟨_, pX, by first | exact Kd.S_nil _ _ _ _ _ | exact Kd.N_nil _ _ _ _ _ | exact Kd.V_nil _ _ _ _ _ | exact Kd.Q_nil _ _ _ _ _ | exact Kd.R_nil _ _ _ _ _, pB HB.out⟩
   replace c11 := Bool.eq_false_iff.mpr c11
   subst c11
   have H1 : (garnerref06_Get.l0 kj5 l0 t374 t377 (wrap64 (t375 + t378)) (([] : List (S42))) 0) = some r := by rw [if_neg (show ¬ (false = true) by decide)] at H; exact H
   clear H
   have H := H1
   clear H1
   obtain ⟨y379, hy379⟩ : ∃ y_ : List (S42), y_ = (([] : List (S42))) := ⟨_, rfl⟩
   replace H : (garnerref06_Get.l0 kj5 l0 t374 t377 (wrap64 (t375 + t378)) y379 0) = some r := by first | (rw [hy379]; with_reducible exact H) | (have H2_ := (Option.bind_some _ _).symm.trans H; rw [hy379]; with_reducible exact H2_) | (have H2_ := (Option.bind_some _ _).symm.trans H; with_reducible exact H2_) | with_reducible exact H | (rw [hy379]; exact H) | exact H
   have Ny379 := Am hy379
   clear hy379
   have H' := Am H
   clear H
   go_wp2_with (first | ((with_reducible refine gate_dst (N := 33) rfl ?_); refine Kd.S_lit k42 _ 42 ?hg (N := 33) ?hd (xs := ([] : List (S42))) (inner := []) (ok := fun _ => True) (okp := fun _ => True) ?hr ?hp (fun _ hk => hk) trivial (Below.refl _ _) (Nat.le_refl _) (by simp) ?_; (case hd => rfl); (case hg => rfl); (case hr => first | (go_simp; done) | (go_simp; rfl)); (case hp => exact (Reps.none _ _)); intro v380 w12 ho13 hb hg_ hnew_; clear hg_ hnew_; (first | rw [← Ny379.out] at ho13 | (simp only [Int.reduceToNat] at ho13; rw [← Ny379.out] at ho13)); have Au := Am (Kd.S_lower ho13 (below_size (pB HB.out))); replace HB := Am (below_step (pB HB.out) hb); clear hb ho13))
   go_loopg [7, 8, 9] kj5 (fun kq v7 v8 v9 w' => ∃ (Ab : Int) (Ah : List (S42)) (Ai : Int), v7 = .int .i64 Ab ∧ v9 = .int .i64 Ai ∧ Aside0 (garnerref06_Get.l0 kq l0 t374 t377 Ab Ah Ai = some r) ∧ Aside0 (kq ≤ kj5) ∧ Aside0 (Kd.S k42 42 w' w.heap.size (fun _ => True) v8 Ah) ∧ Aside0 (Below w.heap.size w w'))
   case atStart => exact ⟨(wrap64 (t375 + t378)), (y379), (0), (by first | rfl | (simp; done) | (simp [*]; done)), (by first | rfl | (simp; done) | (simp [*]; done)), H', ⟨Nat.le_refl _⟩, ⟨by (with_reducible repeat (first | apply Kd.S_alloc | apply Kd.S_drewN | apply Kd.S_drew)); exact Au.out⟩, ⟨pB HB.out⟩⟩
   case round =>
    clear H'
    try clear c1
    try clear p2
    try clear c3
    try clear c3b0
    try clear c3b1
    try clear c4
    try clear c4b0
    try clear c4b1
    try clear p6
    try clear c7
    try clear c10
    try clear c10b0
    try clear c10b1
    try clear c11
    try clear p2
    obtain ⟨Ab, Ah, Ai, rfl, rfl, HA, HK2, Ac, HB⟩ := hrel
    cases gk with
    | zero => exact absurd HA.out (by simp [garnerref06_Get.l0])
    | succ k2 =>
     have H := HA.out
     clear HA
     simp only [garnerref06_Get.l0] at H
     by_cases c14 : Ai < t374
     rotate_left
     ·rw [if_neg c14] at H
      have c14b0 : decide (Ai < t374) = false := decide_eq_false c14
      clear c14
      by_cases c33 : Ab = (l0.length : Int)
      rotate_left
      ·rw [if_neg c33] at H
       have c33b0 : (Ab == (l0.length : Int)) = false := beq_eq_false_iff_ne.mpr c33
       have c33b1 : (Ab != (l0.length : Int)) = true := bne_iff_ne.mpr c33
       obtain rfl := Option.some.inj H
       go_wp2
       go_ret
       exact ⟨_, pX, by first | exact Kd.S_nil _ _ _ _ _ | exact Kd.N_nil _ _ _ _ _ | exact Kd.V_nil _ _ _ _ _ | exact Kd.Q_nil _ _ _ _ _ | exact Kd.R_nil _ _ _ _ _, pB HB.out⟩
      rw [if_pos c33] at H
      have c33b0 : (Ab == (l0.length : Int)) = true := beq_iff_eq.mpr c33
      have c33b1 : (Ab != (l0.length : Int)) = false := bne_eq_false_iff_eq.mpr c33
      clear c33
      replace H := Option.bind_eq_some_iff.mp H
      obtain ⟨t400, A340, H⟩ := H
      replace H : (if t400 = true then (some Ah) else (some ([] : List (S42)))) = some r := H
      have A34 := Am A340
      clear A340
      by_cases c35 : t400 = true
      ·subst c35
       have H1 : (some Ah) = some r := by rw [if_pos rfl] at H; exact H
       clear H
       have H := H1
       clear H1
       obtain rfl := Option.some.inj H
       obtain ⟨Ao36, co36, Ay⟩ := Kd.S_slice Ac.out
       subst Ay
       go_wp2_with (first | (go_at_call 10; (with_reducible refine (garnerref06_Batch.calls k2 _ _ Ah true _ ?Af ?Ag A34.out).mono ?_); (case Af => repeat (first | exact (Kd.S_reads' Ac.out).2.2 | (with_reducible refine Kd.C_alloc ?_ _) | (with_reducible refine Kd.C_drewN ?_ _) | (with_reducible refine Kd.C_drew ?_))); (case Ag => exact (Kd.S_reads' Ac.out).2.1); rintro e w37 ⟨rfl, hb⟩; replace Ac := Am (Kd.S_below (by (with_reducible repeat (first | apply Kd.S_alloc | apply Kd.S_drewN | apply Kd.S_drew)); exact Ac.out) hb); replace HB := Am (below_step (pB HB.out) hb); (try clear hb); (try clear hb2); (try clear hk); (try clear hi)))
       go_ret
       exact ⟨_, pX, by (with_reducible repeat (first | apply Kd.S_alloc | apply Kd.S_drewN | apply Kd.S_drew)); exact Ac.out, pB HB.out⟩
      replace c35 := Bool.eq_false_iff.mpr c35
      subst c35
      have H1 : (some ([] : List (S42))) = some r := by rw [if_neg (show ¬ (false = true) by decide)] at H; exact H
      clear H
      have H := H1
      clear H1
      obtain rfl := Option.some.inj H
      obtain ⟨Ao38, co38, Az⟩ := Kd.S_slice Ac.out
      subst Az
      go_wp2_with (first | (go_at_call 10; (with_reducible refine (garnerref06_Batch.calls k2 _ _ Ah false _ ?Af ?Ag A34.out).mono ?_); (case Af => repeat (first | exact (Kd.S_reads' Ac.out).2.2 | (with_reducible refine Kd.C_alloc ?_ _) | (with_reducible refine Kd.C_drewN ?_ _) | (with_reducible refine Kd.C_drew ?_))); (case Ag => exact (Kd.S_reads' Ac.out).2.1); rintro e w39 ⟨rfl, hb⟩; replace Ac := Am (Kd.S_below (by (with_reducible repeat (first | apply Kd.S_alloc | apply Kd.S_drewN | apply Kd.S_drew)); exact Ac.out) hb); replace HB := Am (below_step (pB HB.out) hb); (try clear hb); (try clear hb2); (try clear hk); (try clear hi)))
      go_ret
      exact ⟨_, pX, by first | exact Kd.S_nil _ _ _ _ _ | exact Kd.N_nil _ _ _ _ _ | exact Kd.V_nil _ _ _ _ _ | exact Kd.Q_nil _ _ _ _ _ | exact Kd.R_nil _ _ _ _ _, pB HB.out⟩
     rw [if_pos c14] at H
     have c14b0 : decide (Ai < t374) = true := decide_eq_true c14
     clear c14
     by_cases c15 : 0 ≤ Ab
     rotate_left
     ·rw [if_neg c15] at H
      exact absurd H (by simp)
     rw [if_pos c15] at H
     have c15b0 := eq_true c15
     have c15b1 : decide (0 ≤ Ab) = true := decide_eq_true c15
     clear c15
     by_cases c16 : Ab ≤ (l0.length : Int)
     rotate_left
     ·rw [if_neg c16] at H
      exact absurd H (by simp)
     rw [if_pos c16] at H
     have c16b0 := eq_true c16
     have c16b1 : decide (Ab ≤ (l0.length : Int)) = true := decide_eq_true c16
     clear c16
     replace H := Option.bind_eq_some_iff.mp H
     obtain ⟨⟨t383, t384, t385, t386, t387, t388, t391, t392, t393, t394, t395⟩, A170, H⟩ := H
     replace H : (if t395 = 0 then (some ([] : List (S42))) else (if Ah.length < 1353245080339 then (garnerref06_Get.l0 k2 l0 t374 t377 (wrap64 (Ab + t395)) (Ah ++ [(⟨t383, t384, t385, t386, (⟨t387, t388, (⟨t391, t392, t393, t394⟩ : S38)⟩ : S40)⟩ : S42)]) (wrap64 (Ai + 1))) else (none))) = some r := H
     have A17 := Am A170
     clear A170
     by_cases c18 : t395 = 0
     ·rw [if_pos c18] at H
      have c18b0 : (t395 == 0) = true := beq_iff_eq.mpr c18
      have c18b1 : (t395 != 0) = false := bne_eq_false_iff_eq.mpr c18
      clear c18
      obtain rfl := Option.some.inj H
      obtain ⟨i019, hi019, _, Ap, _⟩ := info_parts info5
      obtain ⟨A19, hcut19, hA19, As⟩ := print_drop_of (P := Try.prog) (Value.int .u8) 0 22 5 .i64 Try.underlying22 hi019 Ap A0 c0 l0 Ab (of_decide_eq_true pS) (of_decide_eq_true pS) HC0.out
      have HR382 := Am (Kd.C_of_reads (h1 := fun _ => rfl) (hA19 _ (Kd.reads_of_C HR0.out)))
      have HC382 := Am As
      clear hA19 As hi019 Ap
      go_wp2_with (first | ((with_reducible refine gate_callee (f := 18) rfl ?_); refine goesL_ (some 46) rfl rfl Try.func18 (by kernel_rfl) rfl #[.slice A19 (l0.drop (Ab : Int).toNat).length (c0 - Ab.toNat), .int .i64 (wrap64 (t377 + Ai))] rfl (by (try simp only [List.map_toArray, List.map_cons, List.map_nil]); first | done | (rw [show (l0.drop (Ab : Int).toNat).length = (l0.length - Ab.toNat) from List.length_drop] <;> rfl) | rfl | (simp only [List.length_drop, List.length_take]; rfl)) ?_; (with_reducible refine (garnerref06_one.calls k2 _ _ (l0.drop (Ab : Int).toNat) (wrap64 (t377 + Ai)) t383 t384 t385 t386 t387 t388 t391 t392 t393 t394 t395 _ ?Af ?Ag A17.out).mono ?_); (case Af => exact pC (Kd.C_below HR382.out HB.out)); (case Ag => exact HC382.out); rintro e w20 ⟨v389, rfl, ho0, hb⟩; refine ⟨_, rfl, ?_⟩; replace Ac := Am (Kd.S_elder' (by (with_reducible repeat (first | apply Kd.S_alloc | apply Kd.S_drewN | apply Kd.S_drew)); exact Ac.out) (Kd.R_base ho0) hb); have Ae := Am (Kd.R_lower ho0 (below_size (pB HB.out))); replace HB := Am (below_step (pB HB.out) hb); (try clear hb); (try clear hb2); (try clear hk); (try clear hi); (try clear ho0)) | ((with_reducible refine gate_dst (N := 10) rfl ?_); refine box_event ?hg (N := 10) ?hd (cs := #[.int .i64 0, .int .i64 0, .int .i64 0, .string (⟨#[]⟩ : ByteArray), .bool false, .slice none 0 0, .int .i64 0, .int .i64 0, .int .i64 0, .int .u32 0]) (t := 42) ?hr ?_; (case hd => rfl); (case hg => rfl); (case hr => first | (go_simp; done) | (go_simp; rfl)); intro Aa hg w21 hbox hb; replace Ac := Am (Kd.S_below (Kd.S_elderB (by (with_reducible repeat (first | apply Kd.S_alloc | apply Kd.S_drewN | apply Kd.S_drew)); exact Ac.out) Aa (Nat.le_of_eq hg.symm)) hb); replace Ae := bRa Ae hb; have Ad := Am (hbox); have Ao := Am ((by rw [hg]; exact (below_size (pB HB.out)) : w.heap.size ≤ Aa)); replace HB := Am (below_step (pB HB.out) hb); have Aj := Ao; clear hb hbox hg; obtain ⟨_, _, _, _, _, _, _, _, _, _⟩ := bc10 Ad.out; obtain ⟨_, _, _, _, _, _, _, _, _, _⟩ := bf10 Ad.out; obtain ⟨Ao23, co23, Aw⟩ := Kd.R_slice Ae.out; subst Aw))
      go_ret
      exact ⟨_, pX, by first | exact Kd.S_nil _ _ _ _ _ | exact Kd.N_nil _ _ _ _ _ | exact Kd.V_nil _ _ _ _ _ | exact Kd.Q_nil _ _ _ _ _ | exact Kd.R_nil _ _ _ _ _, pE HB.out Aj.out⟩
     rw [if_neg c18] at H
     have c18b0 : (t395 == 0) = false := beq_eq_false_iff_ne.mpr c18
     have c18b1 : (t395 != 0) = true := bne_iff_ne.mpr c18
     by_cases c24 : Ah.length < 1353245080339
     rotate_left
     ·rw [if_neg c24] at H
      exact absurd H (by simp)
     rw [if_pos c24] at H
     have LMc24 := Am c24
     clear c24
     obtain ⟨y397, hy397⟩ : ∃ y_ : List (S42), y_ = (Ah ++ [(⟨t383, t384, t385, t386, (⟨t387, t388, (⟨t391, t392, t393, t394⟩ : S38)⟩ : S40)⟩ : S42)]) := ⟨_, rfl⟩
     replace H : (garnerref06_Get.l0 k2 l0 t374 t377 (wrap64 (Ab + t395)) y397 (wrap64 (Ai + 1))) = some r := by first | (rw [hy397]; with_reducible exact H) | (have H2_ := (Option.bind_some _ _).symm.trans H; rw [hy397]; with_reducible exact H2_) | (have H2_ := (Option.bind_some _ _).symm.trans H; with_reducible exact H2_) | with_reducible exact H | (rw [hy397]; exact H) | exact H
     have Ny397 := Am hy397
     clear hy397
     have H' := Am H
     clear H
     obtain ⟨i025, hi025, _, Aq, _⟩ := info_parts info5
     obtain ⟨A25, hcut25, hA25, At⟩ := print_drop_of (P := Try.prog) (Value.int .u8) 0 22 5 .i64 Try.underlying22 hi025 Aq A0 c0 l0 Ab (of_decide_eq_true pS) (of_decide_eq_true pS) HC0.out
     have HR382 := Am (Kd.C_of_reads (h1 := fun _ => rfl) (hA25 _ (Kd.reads_of_C HR0.out)))
     have HC382 := Am At
     clear hA25 At hi025 Aq
     go_wp2_with (first | ((with_reducible refine gate_callee (f := 18) rfl ?_); refine goesL_ (some 46) rfl rfl Try.func18 (by kernel_rfl) rfl #[.slice A25 (l0.drop (Ab : Int).toNat).length (c0 - Ab.toNat), .int .i64 (wrap64 (t377 + Ai))] rfl (by (try simp only [List.map_toArray, List.map_cons, List.map_nil]); first | done | (rw [show (l0.drop (Ab : Int).toNat).length = (l0.length - Ab.toNat) from List.length_drop] <;> rfl) | rfl | (simp only [List.length_drop, List.length_take]; rfl)) ?_; (with_reducible refine (garnerref06_one.calls k2 _ _ (l0.drop (Ab : Int).toNat) (wrap64 (t377 + Ai)) t383 t384 t385 t386 t387 t388 t391 t392 t393 t394 t395 _ ?Af ?Ag A17.out).mono ?_); (case Af => exact pC (Kd.C_below HR382.out HB.out)); (case Ag => exact HC382.out); rintro e w26 ⟨v389, rfl, ho0, hb⟩; refine ⟨_, rfl, ?_⟩; replace Ac := Am (Kd.S_elder' (by (with_reducible repeat (first | apply Kd.S_alloc | apply Kd.S_drewN | apply Kd.S_drew)); exact Ac.out) (Kd.R_base ho0) hb); have Ae := Am (Kd.R_lower ho0 (below_size (pB HB.out))); replace HB := Am (below_step (pB HB.out) hb); (try clear hb); (try clear hb2); (try clear hk); (try clear hi); (try clear ho0)) | ((with_reducible refine gate_dst (N := 10) rfl ?_); refine box_event ?hg (N := 10) ?hd (cs := #[.int .i64 0, .int .i64 0, .int .i64 0, .string (⟨#[]⟩ : ByteArray), .bool false, .slice none 0 0, .int .i64 0, .int .i64 0, .int .i64 0, .int .u32 0]) (t := 42) ?hr ?_; (case hd => rfl); (case hg => rfl); (case hr => first | (go_simp; done) | (go_simp; rfl)); intro Aa hg w27 hbox hb; replace Ac := Am (Kd.S_below (Kd.S_elderB (by (with_reducible repeat (first | apply Kd.S_alloc | apply Kd.S_drewN | apply Kd.S_drew)); exact Ac.out) Aa (Nat.le_of_eq hg.symm)) hb); replace Ae := bRa Ae hb; have Ad := Am (hbox); have Ao := Am ((by rw [hg]; exact (below_size (pB HB.out)) : w.heap.size ≤ Aa)); replace HB := Am (below_step (pB HB.out) hb); have Aj := Ao; clear hb hbox hg; obtain ⟨_, _, _, _, _, _, _, _, _, _⟩ := bc10 Ad.out; obtain ⟨_, _, _, _, _, _, _, _, _, _⟩ := bf10 Ad.out; obtain ⟨Ak, Al, Ax⟩ := Kd.R_slice Ae.out; subst Ax) | ((with_reducible refine gate_store (t := 42) (p := 10) rfl ?_); refine store_event (t := 42) (p := 10) (v := ?vo_w30) (w1 := ((((((((((w27.setCell ⟨Aa, 0, none⟩ (.int .i64 t383)).setCell ⟨Aa, 1, none⟩ (.int .i64 t384)).setCell ⟨Aa, 2, none⟩ (.int .i64 t385)).setCell ⟨Aa, 3, none⟩ (.string t386)).setCell ⟨Aa, 4, none⟩ (.bool t387)).setCell ⟨Aa, 5, none⟩ (.slice Ak t388.length Al)).setCell ⟨Aa, 6, none⟩ (.int .i64 t391)).setCell ⟨Aa, 7, none⟩ (.int .i64 t392)).setCell ⟨Aa, 8, none⟩ (.int .i64 t393)).setCell ⟨Aa, 9, none⟩ (.int .u32 t394))) ?hg ?ho ?hn ?hr ?_; (case ho => rfl); (case hg => rfl); (case hn => rfl); (case hr => first | (go_simp; done) | (go_simp; rfl)); intro w30 hw; replace Ac : Aside0 (Kd.S k42 42 w30 w.heap.size (fun k_ => some k_ ≠ (.slice Ak t388.length Al : Value).ownBlock ∧ k_ ≠ Aa) u8 Ah) := ⟨(by rw [hw]; exact (by (with_reducible repeat (first | apply Kd.S_alloc | apply Kd.S_drewN | apply Kd.S_drew)); exact Kd.S_mono (Sf10 (g := Aa) (Kd.S_mono Ac.out (fun k_ hk => (⟨hk, hk.2⟩ : _ ∧ k_ ≠ Aa))) (fun _ hk => hk.2)) (fun _ hk => ⟨hk.1.1.2, hk.1.2⟩)))⟩; replace Ae : Aside0 (Kd.R (Kd.int .u8) 5 w30 w.heap.size (fun _ => True) (.slice Ak t388.length Al) t388) := ⟨(by rw [hw]; exact (by (with_reducible repeat (first | apply Kd.R_alloc | apply Kd.R_drewN | apply Kd.R_drew)); exact Kd.R_mono (Rf10 (g := Aa) (Kd.R_types Ae.out Ad.out (by decide)) (fun _ hk => hk.2)) (fun _ hk => trivial)))⟩; replace Ad : Aside0 (w30.heap[Aa]? = some (.cells #[.int .i64 t383, .int .i64 t384, .int .i64 t385, .string t386, .bool t387, .slice Ak t388.length Al, .int .i64 t391, .int .i64 t392, .int .i64 t393, .int .u32 t394] 42 (0, 0))) := ⟨(by rw [hw]; exact (kX0 Ad.out))⟩; replace HB : Aside0 (Below w.heap.size w w30) := ⟨(by rw [hw]; exact (pE HB.out Aj.out))⟩; clear hw; obtain ⟨_, _, _, _, _, _, _, _, _, _⟩ := bc10 Ad.out; obtain ⟨_, _, _, _, _, _, _, _, _, _⟩ := bf10 Ad.out) | ((with_reducible refine gate_builtin (b := .append) (xs := #[.tmp 51, .tmp 53]) rfl ?_); at_builtin; refine Kd.S_append k42 (w0 := w) w.heap.size rfl (.tmp 51) (.tmp 53) 24 42 (.agg #[(.int .i64 0), (.int .i64 0), (.int .i64 0), (.string ⟨#[]⟩), (.bool false), (.slice none 0 0), (.int .i64 0), (.int .i64 0), (.int .i64 0), (.int .u32 0)]) 104 rfl Try.underlying24 info42 rfl (by decide) (by omega) u8 Ah (⟨t383, t384, t385, t386, (⟨t387, t388, (⟨t391, t392, t393, t394⟩ : S38)⟩ : S40)⟩ : S42) [.int .i64 t383, .int .i64 t384, .int .i64 t385, .string t386, .bool t387, .slice Ak t388.length Al, .int .i64 t391, .int .i64 t392, .int .i64 t393, .int .u32 t394] (fun k_ => k_ ≠ Aa) (fun k_ => some k_ = (.slice Ak t388.length Al : Value).ownBlock) rfl rfl ?aP (fun k_ hk_ => ((Kd.R_mono (ok' := fun k_ => ((fun k_ => k_ ≠ Aa)) k_ ∧ some k_ ≠ (u8 : Value).ownBlock) (Kd.R_types (Kd.R_apart' (Ae.out) (Kd.S_typed Ac.out) (by decide)) Ad.out (by decide)) (fun k_ hk => ⟨hk.2, hk.1.2⟩))).1 k_ hk_.symm) ?aF ?aO ?aB ?aS ?aL ?_; (case aP => exact k42_mkM _ _ _ (⟨t383, t384, t385, t386, (⟨t387, t388, (⟨t391, t392, t393, t394⟩ : S38)⟩ : S40)⟩ : S42) (Kd.R_mono (Kd.R_tight rfl (Kd.R_mono (ok' := fun k_ => ((fun k_ => k_ ≠ Aa)) k_ ∧ some k_ ≠ (u8 : Value).ownBlock) (Kd.R_types (Kd.R_apart' (Ae.out) (Kd.S_typed Ac.out) (by decide)) Ad.out (by decide)) (fun k_ hk => ⟨hk.2, hk.1.2⟩))) (fun _ h_ => h_))); (case aB => exact (pE HB.out Aj.out)); (case aF => exact (fun k_ hk => kF Ad.out k_ hk)); (case aO => exact (by (with_reducible repeat (first | apply Kd.S_alloc | apply Kd.S_drewN | apply Kd.S_drew)); exact Kd.S_mono Ac.out (fun k_ hk => ⟨hk.2, fun e_ => hk.1 e_⟩))); (case aS => exact (below_size (pE HB.out Aj.out))); (case aL => have := LMc24.out; omega); intro v398 w32 ho hb hg hat; rw [← Ny397.out] at ho; replace Ad := Am (blk_grown (g := Aa) (o := .cells #[.int .i64 t383, .int .i64 t384, .int .i64 t385, .string t386, .bool t387, .slice Ak t388.length Al, .int .i64 t391, .int .i64 t392, .int .i64 t393, .int .u32 t394] 42 (0, 0)) (pK Ad.out) hg (Kd.S_away Ac.out (fun _ hk => hk.2))); replace HB := Am (hb); have Av := Am (ho); clear Ac Ae ho hb hg hat))
     go_roundg k2
     case measure => have := HJ5.out; have := HK2.out; omega
     case rel => exact ⟨(wrap64 (Ab + t395)), (y397), (wrap64 (Ai + 1)), (by first | rfl | (simp; done) | (simp [*]; done)), (by first | rfl | (simp; done) | (simp [*]; done)), H', ⟨by have := HJ5.out; have := HK2.out; omega⟩, ⟨by (with_reducible repeat (first | apply Kd.S_alloc | apply Kd.S_drewN | apply Kd.S_drew)); exact Kd.S_mono Av.out (fun _ hk => trivial)⟩, ⟨pE HB.out Aj.out⟩⟩
end Go.Proofs.Ytpplclcgkcjmpaa.PEntryGets
