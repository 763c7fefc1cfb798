/- What the law reaches, as plain Lean functions, and that the machine's calls answer just that. -/
import Derived.Test.YtlcajceefhgalaaPNameAllx0
import Derived.Test.YtlcajceefhgalaaPNameAllx1
namespace Go.Proofs.Ytlcajceefhgalaa.PNameAll
open Go.RowKit Go.Proofs.YtlcajceefhgalaaW.PrintWords Go.Proofs.YtlcajceefhgalaaW.PrintLast Go.Proofs.YtlcajceefhgalaaW.PrintMore
attribute [local go_sem] max2_int min2_int max_two min_two max_three min_three max_four min_four
set_option linter.unusedVariables false
set_option linter.unusedSimpArgs false
attribute [local go_sem] wrap64_l1 wrap64_l2 wrap64_l3 wrap64_l4 wrap64_l5
attribute [local go_sem high] eqA32
def name_Of.l0 : Nat → List Int → Int → Int → Option (ByteArray × Int)
 | 0, _, _, _ => none
 | k + 1, x4, x5, x6 => if x6 > 0 then (if 0 ≤ x6 then (if x6 < (x4.length : Int) then (name_Of.l0 k (x4.set (x6 : Int).toNat ((wrap64 (48 + (Int.tmod x5 10))) % 256)) (wrap64 (Int.tdiv x5 10)) (wrap64 (x6 - 1))) else (none)) else (none)) else (some (strOfNums x4, 0))
def name_Of.f (k : Nat) (a0_0 : Int) (a0_1 : Int) : Option (ByteArray × Int) := if (a0_0 == 1 && (a0_1 == 0)) = true then (some ((⟨#[114, 111, 115, 116, 101, 114]⟩ : ByteArray), 0)) else (if (a0_0 == 2 && (a0_1 == 0)) = true then (some ((⟨#[114, 111, 115, 116, 101, 114, 46, 110, 101, 119]⟩ : ByteArray), 0)) else (if a0_0 < 3 then (some ((⟨#[]⟩ : ByteArray), 1)) else (if a0_0 > 7 then (some ((⟨#[]⟩ : ByteArray), 1)) else (if a0_1 < 1 then (some ((⟨#[]⟩ : ByteArray), 1)) else (if a0_1 > 2147483647 then (some ((⟨#[]⟩ : ByteArray), 1)) else (if 11 ≤ 281474976710656 then ((some (List.replicate 11 0 : List Int)).bind fun y102 => (if 0 ≤ (wrap64 (a0_0 - 3)) then (if (wrap64 (a0_0 - 3)) < 5 then (if 0 < (y102.length : Int) then (name_Of.l0 k (y102.set (0 : Int).toNat (bt (⟨#[118, 119, 116, 115, 109]⟩ : ByteArray) (wrap64 (a0_0 - 3)))) a0_1 10) else (none)) else (none)) else (none))) else (none)))))))
theorem name_Of.mono_l : ∀ k, (∀ y0 y1 y2, LeO (name_Of.l0 k y0 y1 y2) (name_Of.l0 (k + 1) y0 y1 y2))
 | 0 => fun _ _ _ r h => by simp [name_Of.l0] at h
 | k + 1 => by
  have ih0 := name_Of.mono_l k
  ·intro y0 y1 y2
   unfold name_Of.l0
   repeat' first
   | (with_reducible exact ih0 _ _ _)
   | (with_reducible exact LeO.refl _)
   | (with_reducible exact LeO.none _)
   | (with_reducible refine LeO.ite ?_ ?_)
   | (with_reducible refine LeO.bind ?_ (fun _ => ?_))
   | exact ih0 _ _ _
   | exact LeO.none _
   | refine LeO.ite ?_ ?_
   | refine LeO.bind ?_ (fun _ => ?_)
theorem name_Of.mono : ∀ a0 a1 k, LeO (name_Of.f k a0 a1) (name_Of.f (k + 1) a0 a1) := by
 intro a0 a1 k
 have ih0 := name_Of.mono_l k
 unfold name_Of.f
 repeat' first
   | (with_reducible exact ih0 _ _ _)
   | (with_reducible exact LeO.refl _)
   | (with_reducible exact LeO.none _)
   | (with_reducible refine LeO.ite ?_ ?_)
   | (with_reducible refine LeO.bind ?_ (fun _ => ?_))
   | exact ih0 _ _ _
   | exact LeO.none _
   | refine LeO.ite ?_ ?_
   | refine LeO.bind ?_ (fun _ => ?_)
set_option maxHeartbeats 8000000 in
set_option maxRecDepth 100000 in
theorem name_Of.calls (k : Nat) (a0_0 : Int) (a0_1 : Int) (r1 : ByteArray) (r2 : Int) (w : World) (h : name_Of.f k a0_0 a0_1 = some (r1, r2)) :
  Calls Try.prog 8 #[.agg #[.int .i64 a0_0, .int .i64 a0_1]] w fun e w' => e = .returned (.tuple #[.string r1, .int .i64 r2]) ∧ Below w.heap.size w w' := by
 have hu32 := Try.underlying32
 have HB := Am (Below.refl w.heap.size w)
 have H : (if (a0_0 == 1 && (a0_1 == 0)) = true then (some ((⟨#[114, 111, 115, 116, 101, 114]⟩ : ByteArray), 0)) else (if (a0_0 == 2 && (a0_1 == 0)) = true then (some ((⟨#[114, 111, 115, 116, 101, 114, 46, 110, 101, 119]⟩ : ByteArray), 0)) else (if a0_0 < 3 then (some ((⟨#[]⟩ : ByteArray), 1)) else (if a0_0 > 7 then (some ((⟨#[]⟩ : ByteArray), 1)) else (if a0_1 < 1 then (some ((⟨#[]⟩ : ByteArray), 1)) else (if a0_1 > 2147483647 then (some ((⟨#[]⟩ : ByteArray), 1)) else (if 11 ≤ 281474976710656 then ((some (List.replicate 11 0 : List Int)).bind fun y102 => (if 0 ≤ (wrap64 (a0_0 - 3)) then (if (wrap64 (a0_0 - 3)) < 5 then (if 0 < (y102.length : Int) then (name_Of.l0 k (y102.set (0 : Int).toNat (bt (⟨#[118, 119, 116, 115, 109]⟩ : ByteArray) (wrap64 (a0_0 - 3)))) a0_1 10) else (none)) else (none)) else (none))) else (none)))))))) = some (r1, r2) := h
 clear h
 by_cases c2 : (a0_0 == 1 && (a0_1 == 0)) = true
 ·rw [if_pos c2] at H
  have c2b0 : (a0_0 == 1 && (a0_1 == 0)) = true := c2
  (try (have c2b1 : decide (a0_0 = 1 && (a0_1 == 0)) = true := by simpa using c2))
  (try (have c2b2 : (a0_0 == 1 && (a0_1 == 0)) = true := by simpa using c2))
  clear c2
  simp only [Option.some.injEq, Prod.mk.injEq] at H
  obtain ⟨rfl, rfl⟩ := H
  go_enter Try.func8, Try.ntmps8
  go_wp2_with (first | ((with_reducible refine gate_dst (N := 1) rfl ?_); refine box_event ?hg (N := 1) ?hd (cs := #[.int .i64 a0_0, .int .i64 a0_1]) (t := 32) ?hr ?_; (case hd => rfl); (case hg => rfl); (case hr => first | (go_simp; done) | (go_simp; rfl)); intro Ac hg w3 hbox hb; have Aa := Am (hbox); have Ad := Am ((by rw [hg]; exact (below_size (pB HB.out)) : w.heap.size ≤ Ac)); replace HB := Am (below_step (pB HB.out) hb); have Ab := Ad; clear hb hbox hg; obtain ⟨Bf, Bg⟩ := bc2 Aa.out; obtain ⟨Bh, Bi⟩ := bf2 Aa.out))
  go_ret2
  exact ⟨pX, pE HB.out Ab.out⟩
 rw [if_neg c2] at H
 have c2b0 : (a0_0 == 1 && (a0_1 == 0)) = false := by simpa using c2
 (try (have c2b1 : decide (a0_0 = 1 && (a0_1 == 0)) = false := by simpa using c2))
 (try (have c2b2 : (a0_0 == 1 && (a0_1 == 0)) = false := by simpa using c2))
 (try (have c2b3 : ¬ (a0_0 = 1 && (a0_1 == 0)) := by simpa using c2))
 clear c2
 by_cases c5 : (a0_0 == 2 && (a0_1 == 0)) = true
 ·rw [if_pos c5] at H
  have c5b0 : (a0_0 == 2 && (a0_1 == 0)) = true := c5
  (try (have c5b1 : decide (a0_0 = 2 && (a0_1 == 0)) = true := by simpa using c5))
  (try (have c5b2 : (a0_0 == 2 && (a0_1 == 0)) = true := by simpa using c5))
  clear c5
  simp only [Option.some.injEq, Prod.mk.injEq] at H
  obtain ⟨rfl, rfl⟩ := H
  go_enter Try.func8, Try.ntmps8
  go_wp2_with (first | ((with_reducible refine gate_dst (N := 1) rfl ?_); refine box_event ?hg (N := 1) ?hd (cs := #[.int .i64 a0_0, .int .i64 a0_1]) (t := 32) ?hr ?_; (case hd => rfl); (case hg => rfl); (case hr => first | (go_simp; done) | (go_simp; rfl)); intro Ac hg w6 hbox hb; have Aa := Am (hbox); have Ad := Am ((by rw [hg]; exact (below_size (pB HB.out)) : w.heap.size ≤ Ac)); replace HB := Am (below_step (pB HB.out) hb); have Ab := Ad; clear hb hbox hg; obtain ⟨Bj, Bk⟩ := bc2 Aa.out; obtain ⟨Bl, Bm⟩ := bf2 Aa.out))
  go_ret2
  exact ⟨pX, pE HB.out Ab.out⟩
 rw [if_neg c5] at H
 have c5b0 : (a0_0 == 2 && (a0_1 == 0)) = false := by simpa using c5
 (try (have c5b1 : decide (a0_0 = 2 && (a0_1 == 0)) = false := by simpa using c5))
 (try (have c5b2 : (a0_0 == 2 && (a0_1 == 0)) = false := by simpa using c5))
 (try (have c5b3 : ¬ (a0_0 = 2 && (a0_1 == 0)) := by simpa using c5))
 clear c5
 by_cases c8 : a0_0 < 3
 ·rw [if_pos c8] at H
  have c8b0 : decide (a0_0 < 3) = true := decide_eq_true c8
  clear c8
  simp only [Option.some.injEq, Prod.mk.injEq] at H
  obtain ⟨rfl, rfl⟩ := H
  go_enter Try.func8, Try.ntmps8
  go_wp2_with (first | ((with_reducible refine gate_dst (N := 1) rfl ?_); refine box_event ?hg (N := 1) ?hd (cs := #[.int .i64 a0_0, .int .i64 a0_1]) (t := 32) ?hr ?_; (case hd => rfl); (case hg => rfl); (case hr => first | (go_simp; done) | (go_simp; rfl)); intro Ac hg w9 hbox hb; have Aa := Am (hbox); have Ad := Am ((by rw [hg]; exact (below_size (pB HB.out)) : w.heap.size ≤ Ac)); replace HB := Am (below_step (pB HB.out) hb); have Ab := Ad; clear hb hbox hg; obtain ⟨Al, An⟩ := bc2 Aa.out; obtain ⟨Ao, Ap⟩ := bf2 Aa.out))
  go_ret2
  exact ⟨pX, pE HB.out Ab.out⟩
 rw [if_neg c8] at H
 have c8b0 : decide (a0_0 < 3) = false := decide_eq_false c8
 clear c8
 by_cases c11 : a0_0 > 7
 ·rw [if_pos c11] at H
  have c11b0 : decide (7 < a0_0) = true := decide_eq_true c11
  clear c11
  simp only [Option.some.injEq, Prod.mk.injEq] at H
  obtain ⟨rfl, rfl⟩ := H
  go_enter Try.func8, Try.ntmps8
  go_wp2_with (first | ((with_reducible refine gate_dst (N := 1) rfl ?_); refine box_event ?hg (N := 1) ?hd (cs := #[.int .i64 a0_0, .int .i64 a0_1]) (t := 32) ?hr ?_; (case hd => rfl); (case hg => rfl); (case hr => first | (go_simp; done) | (go_simp; rfl)); intro Ac hg w12 hbox hb; have Aa := Am (hbox); have Ad := Am ((by rw [hg]; exact (below_size (pB HB.out)) : w.heap.size ≤ Ac)); replace HB := Am (below_step (pB HB.out) hb); have Ab := Ad; clear hb hbox hg; obtain ⟨Aq, Ar⟩ := bc2 Aa.out; obtain ⟨As, At⟩ := bf2 Aa.out))
  go_ret2
  exact ⟨pX, pE HB.out Ab.out⟩
 rw [if_neg c11] at H
 have c11b0 : decide (7 < a0_0) = false := decide_eq_false c11
 clear c11
 by_cases c14 : a0_1 < 1
 ·rw [if_pos c14] at H
  have c14b0 : decide (a0_1 < 1) = true := decide_eq_true c14
  clear c14
  simp only [Option.some.injEq, Prod.mk.injEq] at H
  obtain ⟨rfl, rfl⟩ := H
  go_enter Try.func8, Try.ntmps8
  go_wp2_with (first | ((with_reducible refine gate_dst (N := 1) rfl ?_); refine box_event ?hg (N := 1) ?hd (cs := #[.int .i64 a0_0, .int .i64 a0_1]) (t := 32) ?hr ?_; (case hd => rfl); (case hg => rfl); (case hr => first | (go_simp; done) | (go_simp; rfl)); intro Ac hg w15 hbox hb; have Aa := Am (hbox); have Ad := Am ((by rw [hg]; exact (below_size (pB HB.out)) : w.heap.size ≤ Ac)); replace HB := Am (below_step (pB HB.out) hb); have Ab := Ad; clear hb hbox hg; obtain ⟨Au, Av⟩ := bc2 Aa.out; obtain ⟨Aw, Ax⟩ := bf2 Aa.out))
  go_ret2
  exact ⟨pX, pE HB.out Ab.out⟩
 rw [if_neg c14] at H
 have c14b0 : decide (a0_1 < 1) = false := decide_eq_false c14
 clear c14
 by_cases c17 : a0_1 > 2147483647
 ·rw [if_pos c17] at H
  have c17b0 : decide (2147483647 < a0_1) = true := decide_eq_true c17
  clear c17
  simp only [Option.some.injEq, Prod.mk.injEq] at H
  obtain ⟨rfl, rfl⟩ := H
  go_enter Try.func8, Try.ntmps8
  go_wp2_with (first | ((with_reducible refine gate_dst (N := 1) rfl ?_); refine box_event ?hg (N := 1) ?hd (cs := #[.int .i64 a0_0, .int .i64 a0_1]) (t := 32) ?hr ?_; (case hd => rfl); (case hg => rfl); (case hr => first | (go_simp; done) | (go_simp; rfl)); intro Ac hg w18 hbox hb; have Aa := Am (hbox); have Ad := Am ((by rw [hg]; exact (below_size (pB HB.out)) : w.heap.size ≤ Ac)); replace HB := Am (below_step (pB HB.out) hb); have Ab := Ad; clear hb hbox hg; obtain ⟨Ay, Az⟩ := bc2 Aa.out; obtain ⟨A0, A1⟩ := bf2 Aa.out))
  go_ret2
  exact ⟨pX, pE HB.out Ab.out⟩
 rw [if_neg c17] at H
 have c17b0 : decide (2147483647 < a0_1) = false := decide_eq_false c17
 clear c17
 by_cases c20 : 11 ≤ 281474976710656
 rotate_left
 ·rw [if_neg c20] at H
  exact absurd H (by simp)
 rw [if_pos c20] at H
 have c20b0 := eq_true c20
 have c20b1 : decide (11 ≤ 281474976710656) = true := decide_eq_true c20
 clear c20
 obtain ⟨y102, hy102⟩ : ∃ y_ : List Int, y_ = (List.replicate 11 0) := ⟨_, rfl⟩
 replace H : (if 0 ≤ (wrap64 (a0_0 - 3)) then (if (wrap64 (a0_0 - 3)) < 5 then (if 0 < (y102.length : Int) then (name_Of.l0 k (y102.set (0 : Int).toNat (bt (⟨#[118, 119, 116, 115, 109]⟩ : ByteArray) (wrap64 (a0_0 - 3)))) a0_1 10) else (none)) else (none)) else (none)) = some (r1, r2) := by first | (rw [hy102]; with_reducible exact H) | (have H2_ := (Option.bind_some _ _).symm.trans H; rw [hy102]; with_reducible exact H2_) | (have H2_ := (Option.bind_some _ _).symm.trans H; with_reducible exact H2_) | with_reducible exact H | (rw [hy102]; exact H) | exact H
 have Ny102 := Am hy102
 clear hy102
 obtain ⟨ji21, hji21⟩ : ∃ j_ : Int, (wrap64 (a0_0 - 3)) = j_ := ⟨_, rfl⟩
 replace H : (if 0 ≤ (ji21) then (if (ji21) < 5 then (if 0 < (y102.length : Int) then (name_Of.l0 k (y102.set (0 : Int).toNat (bt (⟨#[118, 119, 116, 115, 109]⟩ : ByteArray) (ji21))) a0_1 10) else (none)) else (none)) else (none)) = some (r1, r2) := by first | (rw [hji21] at H; exact H) | (simp only [hji21] at H ⊢; exact H)
 have hji21w : (IntKind.i64.wrap (a0_0 - 3)) = ji21 := (i64_w _).trans hji21
 by_cases c22 : 0 ≤ (ji21)
 rotate_left
 ·rw [if_neg c22] at H
  exact absurd H (by simp)
 rw [if_pos c22] at H
 have c22b0 : decide (0 ≤ (ji21)) = true := decide_eq_true c22
 clear c22
 by_cases c23 : (ji21) < 5
 rotate_left
 ·rw [if_neg c23] at H
  exact absurd H (by simp)
 rw [if_pos c23] at H
 have c23b0 : decide ((ji21) < 5) = true := decide_eq_true c23
 clear c23
 by_cases c25 : 0 < (y102.length : Int)
 rotate_left
 ·rw [if_neg c25] at H
  exact absurd H (by simp)
 rw [if_pos c25] at H
 have c25b0 : decide (0 < (y102.length : Int)) = true := decide_eq_true c25
 have c25b1 : decide (0 < y102.length) = true := decide_eq_true (by omega)
 clear c25
 obtain ⟨y105, hy105⟩ : ∃ y_ : List Int, y_ = (y102.set (0 : Int).toNat (bt (⟨#[118, 119, 116, 115, 109]⟩ : ByteArray) (ji21))) := ⟨_, rfl⟩
 replace H : (name_Of.l0 k y105 a0_1 10) = some (r1, r2) := by first | (rw [hy105]; with_reducible exact H) | (have H2_ := (Option.bind_some _ _).symm.trans H; rw [hy105]; with_reducible exact H2_) | (have H2_ := (Option.bind_some _ _).symm.trans H; with_reducible exact H2_) | with_reducible exact H | (rw [hy105]; exact H) | exact H
 have Ny105 := Am hy105
 clear hy105
 have H' := Am H
 clear H
 go_enter Try.func8, Try.ntmps8
 go_wp2_with (first | ((with_reducible refine gate_dst (N := 1) rfl ?_); refine box_event ?hg (N := 1) ?hd (cs := #[.int .i64 a0_0, .int .i64 a0_1]) (t := 32) ?hr ?_; (case hd => rfl); (case hg => rfl); (case hr => first | (go_simp; done) | (go_simp; rfl)); intro Ac hg w27 hbox hb; have Aa := Am (hbox); have Ad := Am ((by rw [hg]; exact (below_size (pB HB.out)) : w.heap.size ≤ Ac)); replace HB := Am (below_step (pB HB.out) hb); have Ab := Ad; clear hb hbox hg; obtain ⟨A2, A3⟩ := bc2 Aa.out; obtain ⟨A4, A5⟩ := bf2 Aa.out) | ((with_reducible refine gate_dst (N := 34) rfl ?_); refine Kd.R_make (Kd.int .u8) _ 5 rfl (N := 34) rfl 37 _ _ rfl 11 rfl rfl Try.underlying37 (.int .u8 0) 1 info5 rfl (by decide) (by omega) 0 (ok := fun _ => True) (okp := fun _ => True) rfl (fun _ hk => hk) trivial (by omega) (by omega) (Below.refl _ _) (Nat.le_refl _) ?_; intro v103 w29 ho30 hb hg_ hnew_; clear hg_ hnew_; (first | rw [← Ny102.out] at ho30 | (simp only [Int.reduceToNat] at ho30; rw [← Ny102.out] at ho30)); have Af := Am (Kd.R_lower ho30 (below_size (pE HB.out Ab.out))); replace Aa := kBa Aa hb; replace HB := Am (below_step (pE HB.out Ab.out) hb); clear hb ho30; obtain ⟨A6, A7⟩ := bc2 Aa.out; obtain ⟨A8, A9⟩ := bf2 Aa.out; have p24 : 0 ≤ ((ji21) : Int) := of_decide_eq_true pS; have q24 : (ji21) < (5 : Int) := of_decide_eq_true pS; have hx24 := bt_at (⟨#[118, 119, 116, 115, 109]⟩ : ByteArray) (ji21); replace p24 := eq_true p24; replace q24 := eq_true q24; have p26 : 0 ≤ (0 : Int) := (by omega); have q26 : (0 : Int) < ((y102.length : Int) : Int) := of_decide_eq_true pS; have qi26 : (0 < y102.length) = True := eq_true (by omega); obtain ⟨go26, Be, Bn, Bo, gl26, cl26, HG26⟩ := Kd.R_form Af.out (by omega); (first | cases Bn | (injection Bn with ea_ en_ ec_; (first | subst ea_ | (injection ea_ with ea_; subst ea_)); subst ec_; clear en_)); have GB26 := Am Bo; have GG26 := Am HG26; clear Bo gl26 HG26; obtain ⟨Ak, hf26_0⟩ := Kd.R_celln 0 Af.out (0 : Int) p26 q26; (try rw [tz] at Ak); (try simp only [Nat.reduceMul, Nat.zero_mul, Nat.zero_add, Nat.reduceAdd] at Ak); (try rw [tz] at hf26_0); (try simp only [Nat.reduceMul, Nat.zero_mul, Nat.zero_add, Nat.reduceAdd] at hf26_0); replace p26 := eq_true p26; replace q26 := eq_true q26; obtain ⟨hy32_, hz32_⟩ := Kd.R_celln 0 Af.out (0 : Int) (by omega) (of_decide_eq_true pS); (try simp only [Int.reduceToNat, Int.toNat_zero, Int.toNat_ofNat, Nat.reduceMul, Nat.zero_mul, Nat.zero_add] at hy32_ hz32_); (try rw [tz] at hy32_); (try rw [tz] at hz32_); have HP32 := Kd.R_putg Af.out (0 : Int) (bt (⟨#[118, 119, 116, 115, 109]⟩ : ByteArray) (ji21))) | ((with_reducible refine gate_store (t := 5) (p := 40) rfl ?_); refine store_event (t := 5) (p := 40) (v := ?vo_w33) (w1 := (w29.setCell ⟨go26, (0 : Int).toNat, none⟩ (.int .u8 (bt (⟨#[118, 119, 116, 115, 109]⟩ : ByteArray) (ji21))))) ?hg ?ho ?hn ?hr ?_; (case ho => rfl); (case hg => rfl); (case hn => rfl); (case hr => first | (go_simp; done) | (go_simp; rfl)); intro w33 hw; have hg : w29.grownBy w33 (some go26) := (by rw [hw]; exact HP32.2); have hp_ : Kd.R (Kd.int .u8) 5 w33 w.heap.size (fun _ => True) (.slice (some ⟨go26, 0, none⟩) y102.length Be) y105 := (by rw [hw, Ny105.out]; exact HP32.1); clear HP32; replace Aa := Am (blk_grown (g := Ac) (o := .cells #[.int .i64 a0_0, .int .i64 a0_1] 32 (0, 0)) (pK Aa.out) hg (Kd.R_ne Af.out Aa.out (by decide))); replace Af := Am (hp_); replace HB := Am ((by rw [hw]; exact below_set (HB.out) GB26.out : Below w.heap.size w w33)); clear hg hw hp_; obtain ⟨Ba, Bb⟩ := bc2 Aa.out; obtain ⟨Bc, Bd⟩ := bf2 Aa.out))
 go_loopg [5, 6] k (fun kq v5 v6 w' => ∃ (Ah : List Int) (Ai : Int) (Ae : Int), v5 = .int .i64 Ai ∧ v6 = .int .i64 Ae ∧ Aside0 (name_Of.l0 kq Ah Ai Ae = some (r1, r2)) ∧ Aside0 (kq ≤ k) ∧ Aside0 (Kd.R (Kd.int .u8) 5 w' w.heap.size (fun _ => True) (.slice (some ⟨go26, 0, none⟩) y102.length Be) Ah) ∧ Aside0 (w'.heap[Ac]? = some (.cells #[.int .i64 a0_0, .int .i64 a0_1] 32 (0, 0))) ∧ Aside0 (Below w.heap.size w w'))
 case atStart => exact ⟨(y105), (a0_1), (10), (by first | rfl | (simp; done) | (simp [*]; done)), (by first | rfl | (simp; done) | (simp [*]; done)), H', ⟨Nat.le_refl _⟩, ⟨by (with_reducible repeat (first | apply Kd.R_alloc | apply Kd.R_drewN | apply Kd.R_drew)); exact Af.out⟩, ⟨pK Aa.out⟩, ⟨pE HB.out Ab.out⟩⟩
 case round =>
  clear H'
  try clear c1
  try clear c2
  try clear c2b0
  try clear c2b1
  try clear c2b2
  try clear p2
  try clear q2
  try clear hx2
  try clear qi2
  try clear hf2
  try clear c5
  try clear c5b0
  try clear c5b1
  try clear c5b2
  try clear p6
  try clear c8
  try clear c8b0
  try clear c11
  try clear c11b0
  try clear c14
  try clear c14b0
  try clear c17
  try clear c17b0
  try clear c20
  try clear c20b0
  try clear c20b1
  try clear c22
  try clear c22b0
  try clear c23
  try clear c23b0
  try clear p24
  try clear q24
  try clear hx24
  try clear c25
  try clear c25b0
  try clear c25b1
  try clear p26
  try clear q26
  try clear hx26
  try clear qi26
  try clear hf26
  try clear Al An
  try clear Aq Ar
  try clear Au Av
  try clear Ay Az
  try clear A2 A3
  try clear A6 A7
  try clear Ba Bb
  try clear Bf Bg
  try clear Bj Bk
  try clear Ao Ap
  try clear As At
  try clear Aw Ax
  try clear A0 A1
  try clear A4 A5
  try clear A8 A9
  try clear Bc Bd
  try clear Bh Bi
  try clear Bl Bm
  try clear Ak
  try clear p24
  try clear p26
  try clear q24
  try clear q26
  obtain ⟨Ah, Ai, Ae, rfl, rfl, HA, HK1, Aj, Aa, HB⟩ := hrel
  have Ag := (Kd.R_reads' Aj.out).1
  rw [Ag] at Aj
  (try simp only [Ag])
  (try simp only [Ag] at Aa)
  cases gk with
  | zero => exact absurd HA.out (by simp [name_Of.l0])
  | succ k1 =>
   have H := HA.out
   clear HA
   simp only [name_Of.l0] at H
   by_cases c35 : Ae > 0
   rotate_left
   ·rw [if_neg c35] at H
    have c35b0 : decide (0 < Ae) = false := decide_eq_false c35
    clear c35
    simp only [Option.some.injEq, Prod.mk.injEq] at H
    obtain ⟨rfl, rfl⟩ := H
    have hcv41 := own_string (P := Try.prog) Try.underlying37 Try.underlying5 Try.underlying9 (Kd.own_of_R Aj.out)
    go_wp2
    go_ret2
    exact ⟨by first | rfl | (simp [errW_none, errW_some] <;> rfl) | (simp only [← hji21]; first | rfl | (simp [errW_none, errW_some] <;> rfl)) | (simp [*, errW_none, errW_some] <;> rfl), pE HB.out Ab.out⟩
   rw [if_pos c35] at H
   have c35b0 : decide (0 < Ae) = true := decide_eq_true c35
   clear c35
   by_cases c36 : 0 ≤ Ae
   rotate_left
   ·rw [if_neg c36] at H
    exact absurd H (by simp)
   rw [if_pos c36] at H
   have c36b0 : decide (0 ≤ Ae) = true := decide_eq_true c36
   clear c36
   by_cases c37 : Ae < (Ah.length : Int)
   rotate_left
   ·rw [if_neg c37] at H
    exact absurd H (by simp)
   rw [if_pos c37] at H
   have c37b0 : decide (Ae < (Ah.length : Int)) = true := decide_eq_true c37
   clear c37
   obtain ⟨y106, hy106⟩ : ∃ y_ : List Int, y_ = (Ah.set (Ae : Int).toNat ((wrap64 (48 + (Int.tmod Ai 10))) % 256)) := ⟨_, rfl⟩
   replace H : (name_Of.l0 k1 y106 (wrap64 (Int.tdiv Ai 10)) (wrap64 (Ae - 1))) = some (r1, r2) := by first | (rw [hy106]; with_reducible exact H) | (have H2_ := (Option.bind_some _ _).symm.trans H; rw [hy106]; with_reducible exact H2_) | (have H2_ := (Option.bind_some _ _).symm.trans H; with_reducible exact H2_) | with_reducible exact H | (rw [hy106]; exact H) | exact H
   have Ny106 := Am hy106
   clear hy106
   have H' := Am H
   clear H
   have p38 : 0 ≤ (Ae : Int) := of_decide_eq_true pS
   have q38 : (Ae : Int) < ((Ah.length : Int) : Int) := of_decide_eq_true pS
   obtain ⟨hx38_0, hf38_0⟩ := Kd.R_celln 0 Aj.out (Ae : Int) p38 q38
   replace p38 := eq_true p38
   replace q38 := eq_true q38
   have HP39 := Kd.R_putg Aj.out (Ae : Int) ((wrap64 (48 + (Int.tmod Ai 10))) % 256)
   go_wp2_with (first | ((with_reducible refine gate_store (t := 5) (p := 53) rfl ?_); refine store_event (t := 5) (p := 53) (v := ?vo_w40) (w1 := (wr.setCell ⟨go26, (Ae : Int).toNat, none⟩ (.int .u8 ((wrap64 (48 + (Int.tmod Ai 10))) % 256)))) ?hg ?ho ?hn ?hr ?_; (case ho => rfl); (case hg => rfl); (case hn => rfl); (case hr => first | (go_simp; done) | (go_simp; rfl)); intro w40 hw; have hg : wr.grownBy w40 (some go26) := (by rw [hw]; exact HP39.2); have hp_ : Kd.R (Kd.int .u8) 5 w40 w.heap.size (fun _ => True) (.slice (some ⟨go26, 0, none⟩) Ah.length Be) y106 := (by rw [hw, Ny106.out]; exact HP39.1); clear HP39; replace Aa := Am (blk_grown (g := Ac) (o := .cells #[.int .i64 a0_0, .int .i64 a0_1] 32 (0, 0)) (pK Aa.out) hg (Kd.R_ne Aj.out Aa.out (by decide))); replace Aj := Am (hp_); replace HB := Am ((by rw [hw]; exact below_set (HB.out) GB26.out : Below w.heap.size w w40)); clear hg hw hp_))
   (try simp only [← Ag])
   go_roundg k1
   case measure => have := HK1.out; omega
   case rel => exact ⟨(y106), (wrap64 (Int.tdiv Ai 10)), (wrap64 (Ae - 1)), (by first | rfl | (simp; done) | (simp [*]; done)), (by first | rfl | (simp; done) | (simp [*]; done)), H', ⟨by have := HK1.out; omega⟩, ⟨by (try simp only [Ag]); (with_reducible repeat (first | apply Kd.R_alloc | apply Kd.R_drewN | apply Kd.R_drew)); exact Aj.out⟩, ⟨by (try simp only [Ag]); (with_reducible repeat (first | refine blk_drewN ?_ _ | refine blk_drew ?_ | refine blk_alloc ?_ _)); exact Aa.out⟩, ⟨pE HB.out Ab.out⟩⟩
def garnerlaw07_awake.f (k : Nat)  : Option (Bool) := (name_Of.f k 5 12).bind fun bt107 => (if bt107.2 = 0 then (some (bt107.1.toList == ([116, 48, 48, 48, 48, 48, 48, 48, 48, 49, 50] : List UInt8))) else (some false))
theorem garnerlaw07_awake.mono : ∀ k, LeO (garnerlaw07_awake.f k ) (garnerlaw07_awake.f (k + 1) ) := by
 intro  k
 unfold garnerlaw07_awake.f
 repeat' first
   | (with_reducible exact name_Of.mono _ _ _)
   | (with_reducible exact LeO.refl _)
   | (with_reducible exact LeO.none _)
   | (with_reducible refine LeO.ite ?_ ?_)
   | (with_reducible refine LeO.bind ?_ (fun _ => ?_))
   | exact name_Of.mono _ _ _
   | exact LeO.none _
   | refine LeO.ite ?_ ?_
   | refine LeO.bind ?_ (fun _ => ?_)
set_option maxHeartbeats 8000000 in
set_option maxRecDepth 100000 in
theorem garnerlaw07_awake.calls (k : Nat)  (r : Bool) (w : World) (h : garnerlaw07_awake.f k  = some r) :
  Calls Try.prog 4 #[] w fun e w' => e = .returned (.bool r) ∧ Below w.heap.size w w' := by
 have hu32 := Try.underlying32
 have HB := Am (Below.refl w.heap.size w)
 have H : ((name_Of.f k 5 12).bind fun bt107 => (if bt107.2 = 0 then (some (bt107.1.toList == ([116, 48, 48, 48, 48, 48, 48, 48, 48, 49, 50] : List UInt8))) else (some false))) = some r := h
 clear h
 replace H := Option.bind_eq_some_iff.mp H
 obtain ⟨⟨t107, t108⟩, A10, H⟩ := H
 replace H : (if t108 = 0 then (some (t107.toList == ([116, 48, 48, 48, 48, 48, 48, 48, 48, 49, 50] : List UInt8))) else (some false)) = some r := H
 have A1 := Am A10
 clear A10
 by_cases c2 : t108 = 0
 ·rw [if_pos c2] at H
  have c2b0 : (t108 == 0) = true := beq_iff_eq.mpr c2
  have c2b1 : (t108 != 0) = false := bne_eq_false_iff_eq.mpr c2
  clear c2
  obtain rfl := Option.some.inj H
  go_enter Try.func4, Try.ntmps4
  go_wp2_with (first | ((with_reducible refine gate_callee (f := 8) rfl ?_); refine goesL_ (some 5) rfl rfl Try.func8 (by kernel_rfl) rfl #[.agg #[.int .i64 5, .int .i64 12]] rfl pL ?_; (with_reducible refine (name_Of.calls k 5 12 t107 t108 _ A1.out).mono ?_); rintro e w3 ⟨rfl, hb⟩; refine ⟨_, rfl, ?_⟩; replace HB := Am (below_step (pB HB.out) hb); (try clear hb); (try clear hb2); (try clear hk); (try clear hi)))
  go_ret
  exact ⟨pX, pB HB.out⟩
 rw [if_neg c2] at H
 have c2b0 : (t108 == 0) = false := beq_eq_false_iff_ne.mpr c2
 have c2b1 : (t108 != 0) = true := bne_iff_ne.mpr c2
 obtain rfl := Option.some.inj H
 go_enter Try.func4, Try.ntmps4
 go_wp2_with (first | ((with_reducible refine gate_callee (f := 8) rfl ?_); refine goesL_ (some 5) rfl rfl Try.func8 (by kernel_rfl) rfl #[.agg #[.int .i64 5, .int .i64 12]] rfl pL ?_; (with_reducible refine (name_Of.calls k 5 12 t107 t108 _ A1.out).mono ?_); rintro e w4 ⟨rfl, hb⟩; refine ⟨_, rfl, ?_⟩; replace HB := Am (below_step (pB HB.out) hb); (try clear hb); (try clear hb2); (try clear hk); (try clear hi)))
 go_ret
 exact ⟨pX, pB HB.out⟩
def garnerref03_Ints.l0 : Nat → List Int → List Int → Int → Option (Bool)
 | 0, _, _, _ => none
 | k + 1, x0, x1, x5 => if x5 < (x0.length : Int) then (if 0 ≤ x5 then (if x5 < (x1.length : Int) then (if (rd x0 x5) = (rd x1 x5) then (garnerref03_Ints.l0 k x0 x1 (wrap64 (x5 + 1))) else (some false)) else (none)) else (none)) else (some true)
def garnerref03_Ints.f (k : Nat) (l0 : List Int) (l1 : List Int) : Option (Bool) := if (l0.length : Int) = (l1.length : Int) then (garnerref03_Ints.l0 k l0 l1 0) else (some false)
theorem garnerref03_Ints.mono_l : ∀ k, (∀ y0 y1 y2, LeO (garnerref03_Ints.l0 k y0 y1 y2) (garnerref03_Ints.l0 (k + 1) y0 y1 y2))
 | 0 => fun _ _ _ r h => by simp [garnerref03_Ints.l0] at h
 | k + 1 => by
  have ih0 := garnerref03_Ints.mono_l k
  ·intro y0 y1 y2
   unfold garnerref03_Ints.l0
   repeat' first
   | (with_reducible exact ih0 _ _ _)
   | (with_reducible exact LeO.refl _)
   | (with_reducible exact LeO.none _)
   | (with_reducible refine LeO.ite ?_ ?_)
   | (with_reducible refine LeO.bind ?_ (fun _ => ?_))
   | exact ih0 _ _ _
   | exact LeO.none _
   | refine LeO.ite ?_ ?_
   | refine LeO.bind ?_ (fun _ => ?_)
theorem garnerref03_Ints.mono : ∀ a0 a1 k, LeO (garnerref03_Ints.f k a0 a1) (garnerref03_Ints.f (k + 1) a0 a1) := by
 intro a0 a1 k
 have ih0 := garnerref03_Ints.mono_l k
 unfold garnerref03_Ints.f
 repeat' first
   | (with_reducible exact ih0 _ _ _)
   | (with_reducible exact LeO.refl _)
   | (with_reducible exact LeO.none _)
   | (with_reducible refine LeO.ite ?_ ?_)
   | (with_reducible refine LeO.bind ?_ (fun _ => ?_))
   | exact ih0 _ _ _
   | exact LeO.none _
   | refine LeO.ite ?_ ?_
   | refine LeO.bind ?_ (fun _ => ?_)
set_option maxHeartbeats 8000000 in
set_option maxRecDepth 100000 in
theorem garnerref03_Ints.calls (k : Nat) (A0 : Option Addr) (c0 : Nat) (l0 : List Int) (A1 : Option Addr) (c1 : Nat) (l1 : List Int) (r : Bool) (w : World) (hr0 : Kd.C (Kd.int .i64) w A0 l0.length l0) (hc0 : l0.length ≤ c0) (hr1 : Kd.C (Kd.int .i64) w A1 l1.length l1) (hc1 : l1.length ≤ c1) (h : garnerref03_Ints.f k l0 l1 = some r) :
  Calls Try.prog 5 #[.slice A0 l0.length c0, .slice A1 l1.length c1] w fun e w' => e = .returned (.bool r) ∧ Drawn0 w w' := by
 have HR0 := Am hr0
 have HC0 := Am hc0
 clear hr0 hc0
 have HR1 := Am hr1
 have HC1 := Am hc1
 clear hr1 hc1
 have H : (if (l0.length : Int) = (l1.length : Int) then (garnerref03_Ints.l0 k l0 l1 0) else (some false)) = some r := h
 clear h
 by_cases c3 : (l0.length : Int) = (l1.length : Int)
 rotate_left
 ·rw [if_neg c3] at H
  have c3b0 : ((l0.length : Int) == (l1.length : Int)) = false := beq_eq_false_iff_ne.mpr c3
  have c3b1 : ((l0.length : Int) != (l1.length : Int)) = true := bne_iff_ne.mpr c3
  have c3b2 : (l0.length == l1.length) = false := by first | simpa using c3 | (simp at c3 ⊢; omega)
  obtain rfl := Option.some.inj H
  go_enter Try.func5, Try.ntmps5
  go_wp2
  repeat (go_quiet (fail); try go_wp2)
  go_ret
  exact ⟨by first | rfl | (simp; done) | (simp [*]; done), by repeat (first | exact Drawn0.refl _ | apply Drawn0.step)⟩
 rw [if_pos c3] at H
 have c3b0 : ((l0.length : Int) == (l1.length : Int)) = true := beq_iff_eq.mpr c3
 have c3b1 : ((l0.length : Int) != (l1.length : Int)) = false := bne_eq_false_iff_eq.mpr c3
 have c3b2 : (l0.length == l1.length) = true := by first | simpa using c3 | (simp at c3 ⊢; omega)
 clear c3
 have H' := Am H
 clear H
 go_enter Try.func5, Try.ntmps5
 go_wp2
 repeat (go_quiet (fail); try go_wp2)
 go_loopg [5] k (fun kq v5 w' => ∃ (Aa : Int), v5 = .int .i64 Aa ∧ Aside0 (garnerref03_Ints.l0 kq l0 l1 Aa = some r) ∧ Aside0 (kq ≤ k) ∧ Drawn0 w w')
 case atStart => exact ⟨(0), (by first | rfl | (simp; done) | (simp [*]; done)), H', ⟨Nat.le_refl _⟩, by repeat (first | exact Drawn0.refl _ | apply Drawn0.step)⟩
 case round =>
  clear H'
  try clear c1
  try clear p2
  try clear c3
  try clear c3b0
  try clear c3b1
  try clear c3b2
  obtain ⟨Aa, rfl, HA, HK1, ⟨m1, rfl⟩⟩ := hrel
  cases gk with
  | zero => exact absurd HA.out (by simp [garnerref03_Ints.l0])
  | succ k1 =>
   have H := HA.out
   clear HA
   simp only [garnerref03_Ints.l0] at H
   by_cases c4 : Aa < (l0.length : Int)
   rotate_left
   ·rw [if_neg c4] at H
    have c4b0 : decide (Aa < (l0.length : Int)) = false := decide_eq_false c4
    clear c4
    obtain rfl := Option.some.inj H
    go_wp2
    repeat (go_quiet (fail); try go_wp2)
    go_ret
    exact ⟨by first | rfl | (simp; done) | (simp [*]; done), by repeat (first | exact Drawn0.refl _ | apply Drawn0.step)⟩
   rw [if_pos c4] at H
   have c4b0 : decide (Aa < (l0.length : Int)) = true := decide_eq_true c4
   clear c4
   by_cases c5 : 0 ≤ Aa
   rotate_left
   ·rw [if_neg c5] at H
    exact absurd H (by simp)
   rw [if_pos c5] at H
   have c5b0 : decide (0 ≤ Aa) = true := decide_eq_true c5
   clear c5
   by_cases c6 : Aa < (l1.length : Int)
   rotate_left
   ·rw [if_neg c6] at H
    exact absurd H (by simp)
   rw [if_pos c6] at H
   have c6b0 : decide (Aa < (l1.length : Int)) = true := decide_eq_true c6
   clear c6
   by_cases c7 : (rd l0 Aa) = (rd l1 Aa)
   rotate_left
   ·rw [if_neg c7] at H
    have c7b0 : ((rd l0 Aa) == (rd l1 Aa)) = false := beq_eq_false_iff_ne.mpr c7
    have c7b1 : ((rd l0 Aa) != (rd l1 Aa)) = true := bne_iff_ne.mpr c7
    obtain rfl := Option.some.inj H
    have p109 : 0 ≤ (Aa : Int) := of_decide_eq_true pS
    have q109 : Aa < (l0.length : Int) := of_decide_eq_true pS
    obtain ⟨Ad, e109, Ab⟩ := Kd.at_int HR0.out Aa p109 q109
    cases e109
    replace p109 := eq_true p109
    replace q109 := eq_true q109
    have p110 : 0 ≤ (Aa : Int) := of_decide_eq_true pS
    have q110 : Aa < (l1.length : Int) := of_decide_eq_true pS
    obtain ⟨Ae, e110, Ac⟩ := Kd.at_int HR1.out Aa p110 q110
    cases e110
    replace p110 := eq_true p110
    replace q110 := eq_true q110
    go_wp2
    repeat (go_quiet (fail); try go_wp2)
    go_ret
    exact ⟨by first | rfl | (simp; done) | (simp [*]; done), by repeat (first | exact Drawn0.refl _ | apply Drawn0.step)⟩
   rw [if_pos c7] at H
   have c7b0 : ((rd l0 Aa) == (rd l1 Aa)) = true := beq_iff_eq.mpr c7
   have c7b1 : ((rd l0 Aa) != (rd l1 Aa)) = false := bne_eq_false_iff_eq.mpr c7
   clear c7
   have H' := Am H
   clear H
   have p109 : 0 ≤ (Aa : Int) := of_decide_eq_true pS
   have q109 : Aa < (l0.length : Int) := of_decide_eq_true pS
   obtain ⟨Ad, e109, Ab⟩ := Kd.at_int HR0.out Aa p109 q109
   cases e109
   replace p109 := eq_true p109
   replace q109 := eq_true q109
   have p110 : 0 ≤ (Aa : Int) := of_decide_eq_true pS
   have q110 : Aa < (l1.length : Int) := of_decide_eq_true pS
   obtain ⟨Ae, e110, Ac⟩ := Kd.at_int HR1.out Aa p110 q110
   cases e110
   replace p110 := eq_true p110
   replace q110 := eq_true q110
   go_wp2
   repeat (go_quiet (fail); try go_wp2)
   go_roundg k1
   case measure => have := HK1.out; omega
   case rel => exact ⟨(wrap64 (Aa + 1)), (by first | rfl | (simp; done) | (simp [*]; done)), H', ⟨by have := HK1.out; omega⟩, by repeat (first | exact Drawn0.refl _ | apply Drawn0.step)⟩
def strings_IndexByte.f (a0 : ByteArray) (a1 : Int) : Option (Int) := some (Lib.indexByte a0.data.toList a1.toNat.toUInt8)
set_option maxHeartbeats 1000000 in
set_option maxRecDepth 100000 in
theorem strings_IndexByte.inner (s : ByteArray) (c : Int) (w : World) : Calls Try.prog 17 #[.string s, .int .u8 c] w fun e w' => e = .returned (.int .i64 (Lib.indexByte s.data.toList c.toNat.toUInt8)) ∧ w' = w := by
 go_enter Try.func17, Try.ntmps17
 go_wp2
 rw [run_callFunc_extern Try.func29 (by kernel_rfl) (by kernel_rfl) (by kernel_rfl) (e := Extern.BytealgIndexByte.indexByte) (by kernel_rfl), Lib.run_indexByteString]
 simp only [Result.andThen]
 rw [Oper.upon_value]
 go_wp2
 go_ret
 exact ⟨rfl, rfl⟩
set_option maxHeartbeats 1000000 in
set_option maxRecDepth 100000 in
theorem strings_IndexByte.calls (a0 : ByteArray) (a1 : Int) (r : Int) (w : World) (h : strings_IndexByte.f a0 a1 = some r) :
  Calls Try.prog 12 #[.string a0, .int .u8 a1] w fun e w' => e = .returned (.int .i64 r) ∧ Drawn0 w w' := by
 obtain rfl := Option.some.inj h
 go_enter Try.func12, Try.ntmps12
 go_wp2_with (go_at_call 17; refine (strings_IndexByte.inner _ _ _).mono ?_; rintro e w' ⟨rfl, hw⟩; rw [hw])
 go_ret
 exact ⟨rfl, Drawn0.refl _⟩
def name_Parse.l0 : Nat → ByteArray → Int → Int → Int → Option (Int × Int × Bool)
 | 0, _, _, _, _ => none
 | k + 1, x0, x4, x5, x6 => if x6 ≤ 10 then (if 0 ≤ x6 then (if x6 < (x0.size : Int) then (if (bt x0 x6) < 48 then (some (0, 0, false)) else (if (bt x0 x6) > 57 then (some (0, 0, false)) else (name_Parse.l0 k x0 x4 (wrap64 ((wrap64 (10 * x5)) + (((bt x0 x6) - 48) % 256))) (wrap64 (x6 + 1))))) else (none)) else (none)) else (if x4 < 0 then (some (0, 0, false)) else (if x5 < 1 then (some (0, 0, false)) else (if x5 > 2147483647 then (some (0, 0, false)) else (some (wrap64 (3 + x4), x5, true)))))
def name_Parse.f (k : Nat) (a0 : ByteArray) : Option (Int × Int × Bool) := if a0.toList = ([114, 111, 115, 116, 101, 114] : List UInt8) then (some (1, 0, true)) else (if a0.toList = ([114, 111, 115, 116, 101, 114, 46, 110, 101, 119] : List UInt8) then (some (2, 0, true)) else (if (a0.size : Int) = 11 then (if 0 < (a0.size : Int) then ((strings_IndexByte.f (⟨#[118, 119, 116, 115, 109]⟩ : ByteArray) (bt a0 0)).bind fun t112 => (name_Parse.l0 k a0 t112 0 1)) else (none)) else (some (0, 0, false))))
theorem name_Parse.mono_l : ∀ k, (∀ y0 y1 y2 y3, LeO (name_Parse.l0 k y0 y1 y2 y3) (name_Parse.l0 (k + 1) y0 y1 y2 y3))
 | 0 => fun _ _ _ _ r h => by simp [name_Parse.l0] at h
 | k + 1 => by
  have ih0 := name_Parse.mono_l k
  ·intro y0 y1 y2 y3
   unfold name_Parse.l0
   repeat' first
   | (with_reducible exact ih0 _ _ _ _)
   | (with_reducible exact LeO.refl _)
   | (with_reducible exact LeO.none _)
   | (with_reducible refine LeO.ite ?_ ?_)
   | (with_reducible refine LeO.bind ?_ (fun _ => ?_))
   | exact ih0 _ _ _ _
   | exact LeO.none _
   | refine LeO.ite ?_ ?_
   | refine LeO.bind ?_ (fun _ => ?_)
theorem name_Parse.mono : ∀ a0 k, LeO (name_Parse.f k a0) (name_Parse.f (k + 1) a0) := by
 intro a0 k
 have ih0 := name_Parse.mono_l k
 unfold name_Parse.f
 repeat' first
   | (with_reducible exact ih0 _ _ _ _)
   | (with_reducible exact LeO.refl _)
   | (with_reducible exact LeO.none _)
   | (with_reducible refine LeO.ite ?_ ?_)
   | (with_reducible refine LeO.bind ?_ (fun _ => ?_))
   | exact ih0 _ _ _ _
   | exact LeO.none _
   | refine LeO.ite ?_ ?_
   | refine LeO.bind ?_ (fun _ => ?_)
set_option maxHeartbeats 8000000 in
set_option maxRecDepth 100000 in
theorem name_Parse.calls (k : Nat) (a0 : ByteArray) (r1 : Int) (r2 : Int) (r3 : Bool) (w : World) (h : name_Parse.f k a0 = some (r1, r2, r3)) :
  Calls Try.prog 9 #[.string a0] w fun e w' => e = .returned (.tuple #[.agg #[.int .i64 r1, .int .i64 r2], .bool r3]) ∧ Below w.heap.size w w' := by
 have hu32 := Try.underlying32
 have HB := Am (Below.refl w.heap.size w)
 have H : (if a0.toList = ([114, 111, 115, 116, 101, 114] : List UInt8) then (some (1, 0, true)) else (if a0.toList = ([114, 111, 115, 116, 101, 114, 46, 110, 101, 119] : List UInt8) then (some (2, 0, true)) else (if (a0.size : Int) = 11 then (if 0 < (a0.size : Int) then ((strings_IndexByte.f (⟨#[118, 119, 116, 115, 109]⟩ : ByteArray) (bt a0 0)).bind fun t112 => (name_Parse.l0 k a0 t112 0 1)) else (none)) else (some (0, 0, false))))) = some (r1, r2, r3) := h
 clear h
 by_cases c2 : a0.toList = ([114, 111, 115, 116, 101, 114] : List UInt8)
 ·rw [if_pos c2] at H
  have c2b0 : (a0.toList == ([114, 111, 115, 116, 101, 114] : List UInt8)) = true := beq_iff_eq.mpr c2
  have c2b1 : (a0.toList != ([114, 111, 115, 116, 101, 114] : List UInt8)) = false := bne_eq_false_iff_eq.mpr c2
  clear c2
  simp only [Option.some.injEq, Prod.mk.injEq] at H
  obtain ⟨rfl, rfl, rfl⟩ := H
  go_enter Try.func9, Try.ntmps9
  go_wp2_with (first | ((with_reducible refine gate_dst (N := 2) rfl ?_); refine box_event ?hg (N := 2) ?hd (cs := #[.int .i64 0, .int .i64 0]) (t := 32) ?hr ?_; (case hd => rfl); (case hg => rfl); (case hr => first | (go_simp; done) | (go_simp; rfl)); intro Ac hg w3 hbox hb; have Aa := Am (hbox); have Ah := Am ((by rw [hg]; exact (below_size (pB HB.out)) : w.heap.size ≤ Ac)); replace HB := Am (below_step (pB HB.out) hb); have Ad := Ah; clear hb hbox hg; obtain ⟨Ai, Aj⟩ := bc2 Aa.out; obtain ⟨Ak, Al⟩ := bf2 Aa.out))
  refine bodyPost_ret (results_ct rfl _ _ Ac 32 #[.int .i64 1, .int .i64 0] (0, 0) _ rfl (kX0 Aa.out) Try.underlying32 rfl (by kernel_rfl)) rfl ?_
  exact ⟨pX, pE HB.out Ad.out⟩
 rw [if_neg c2] at H
 have c2b0 : (a0.toList == ([114, 111, 115, 116, 101, 114] : List UInt8)) = false := beq_eq_false_iff_ne.mpr c2
 have c2b1 : (a0.toList != ([114, 111, 115, 116, 101, 114] : List UInt8)) = true := bne_iff_ne.mpr c2
 by_cases c5 : a0.toList = ([114, 111, 115, 116, 101, 114, 46, 110, 101, 119] : List UInt8)
 ·rw [if_pos c5] at H
  have c5b0 : (a0.toList == ([114, 111, 115, 116, 101, 114, 46, 110, 101, 119] : List UInt8)) = true := beq_iff_eq.mpr c5
  have c5b1 : (a0.toList != ([114, 111, 115, 116, 101, 114, 46, 110, 101, 119] : List UInt8)) = false := bne_eq_false_iff_eq.mpr c5
  clear c5
  simp only [Option.some.injEq, Prod.mk.injEq] at H
  obtain ⟨rfl, rfl, rfl⟩ := H
  go_enter Try.func9, Try.ntmps9
  go_wp2_with (first | ((with_reducible refine gate_dst (N := 2) rfl ?_); refine box_event ?hg (N := 2) ?hd (cs := #[.int .i64 0, .int .i64 0]) (t := 32) ?hr ?_; (case hd => rfl); (case hg => rfl); (case hr => first | (go_simp; done) | (go_simp; rfl)); intro Ac hg w6 hbox hb; have Aa := Am (hbox); have Ah := Am ((by rw [hg]; exact (below_size (pB HB.out)) : w.heap.size ≤ Ac)); replace HB := Am (below_step (pB HB.out) hb); have Ad := Ah; clear hb hbox hg; obtain ⟨An, Ao⟩ := bc2 Aa.out; obtain ⟨Ap, Aq⟩ := bf2 Aa.out))
  refine bodyPost_ret (results_ct rfl _ _ Ac 32 #[.int .i64 2, .int .i64 0] (0, 0) _ rfl (kX0 Aa.out) Try.underlying32 rfl (by kernel_rfl)) rfl ?_
  exact ⟨pX, pE HB.out Ad.out⟩
 rw [if_neg c5] at H
 have c5b0 : (a0.toList == ([114, 111, 115, 116, 101, 114, 46, 110, 101, 119] : List UInt8)) = false := beq_eq_false_iff_ne.mpr c5
 have c5b1 : (a0.toList != ([114, 111, 115, 116, 101, 114, 46, 110, 101, 119] : List UInt8)) = true := bne_iff_ne.mpr c5
 by_cases c8 : (a0.size : Int) = 11
 rotate_left
 ·rw [if_neg c8] at H
  have c8b0 : ((a0.size : Int) == 11) = false := beq_eq_false_iff_ne.mpr c8
  have c8b1 : ((a0.size : Int) != 11) = true := bne_iff_ne.mpr c8
  simp only [Option.some.injEq, Prod.mk.injEq] at H
  obtain ⟨rfl, rfl, rfl⟩ := H
  go_enter Try.func9, Try.ntmps9
  go_wp2_with (first | ((with_reducible refine gate_dst (N := 2) rfl ?_); refine box_event ?hg (N := 2) ?hd (cs := #[.int .i64 0, .int .i64 0]) (t := 32) ?hr ?_; (case hd => rfl); (case hg => rfl); (case hr => first | (go_simp; done) | (go_simp; rfl)); intro Ac hg w30 hbox hb; have Aa := Am (hbox); have Ah := Am ((by rw [hg]; exact (below_size (pB HB.out)) : w.heap.size ≤ Ac)); replace HB := Am (below_step (pB HB.out) hb); have Ad := Ah; clear hb hbox hg; obtain ⟨_, _⟩ := bc2 Aa.out; obtain ⟨_, _⟩ := bf2 Aa.out))
  refine bodyPost_ret (results_ct rfl _ _ Ac 32 #[.int .i64 0, .int .i64 0] (0, 0) _ rfl (kX0 Aa.out) Try.underlying32 rfl (by kernel_rfl)) rfl ?_
  exact ⟨pX, pE HB.out Ad.out⟩
 rw [if_pos c8] at H
 have c8b0 : ((a0.size : Int) == 11) = true := beq_iff_eq.mpr c8
 have c8b1 : ((a0.size : Int) != 11) = false := bne_eq_false_iff_eq.mpr c8
 clear c8
 by_cases c9 : 0 < (a0.size : Int)
 rotate_left
 ·rw [if_neg c9] at H
  exact absurd H (by simp)
 rw [if_pos c9] at H
 have c9b0 : decide (0 < (a0.size : Int)) = true := decide_eq_true c9
 have c9b1 : decide (0 < a0.size) = true := decide_eq_true (by omega)
 clear c9
 replace H := Option.bind_eq_some_iff.mp H
 obtain ⟨t112, A110, H⟩ := H
 replace H : (name_Parse.l0 k a0 t112 0 1) = some (r1, r2, r3) := H
 have A11 := Am A110
 clear A110
 have H' := Am H
 clear H
 go_enter Try.func9, Try.ntmps9
 go_wp2_with (first | ((with_reducible refine gate_dst (N := 2) rfl ?_); refine box_event ?hg (N := 2) ?hd (cs := #[.int .i64 0, .int .i64 0]) (t := 32) ?hr ?_; (case hd => rfl); (case hg => rfl); (case hr => first | (go_simp; done) | (go_simp; rfl)); intro Ac hg w12 hbox hb; have Aa := Am (hbox); have Ah := Am ((by rw [hg]; exact (below_size (pB HB.out)) : w.heap.size ≤ Ac)); replace HB := Am (below_step (pB HB.out) hb); have Ad := Ah; clear hb hbox hg; have p10 : 0 ≤ (0 : Int) := (by omega); have q10 : 0 < a0.size := (by have : (0 : Int) < (a0.size : Int) := of_decide_eq_true pS; omega); have hx10 : ∀ h : 0 < a0.size, ((a0[0]'h).toNat : Int) = bt a0 0 := bt_at a0 0; clear p10; have qi10 : (0 < (a0.size : Int)) = True := eq_true (of_decide_eq_true pS); replace q10 := eq_true q10) | ((with_reducible refine gate_callee (f := 12) rfl ?_); refine goesL_ (some 22) rfl rfl Try.func12 (by kernel_rfl) rfl #[.string (⟨#[118, 119, 116, 115, 109]⟩ : ByteArray), .int .u8 (bt a0 0)] rfl pL ?_; (with_reducible refine (strings_IndexByte.calls (⟨#[118, 119, 116, 115, 109]⟩ : ByteArray) (bt a0 0) t112 _ A11.out).mono ?_); rintro e w' ⟨rfl, ⟨nd, rfl⟩⟩; refine ⟨_, rfl, ?_⟩))
 go_loopg [5, 6] k (fun kq v5 v6 w' => ∃ (Ag : Int) (Ab : Int) (Ae : Int) (Af : Int), v5 = .int .i64 Ag ∧ v6 = .int .i64 Ab ∧ Aside0 (name_Parse.l0 kq a0 t112 Ag Ab = some (r1, r2, r3)) ∧ Aside0 (kq ≤ k) ∧ Aside0 (w'.heap[Ac]? = some (.cells #[.int .i64 Ae, .int .i64 Af] 32 (0, 0))) ∧ Aside0 (Below w.heap.size w w'))
 case atStart => exact ⟨(0), (1), (0), (0), (by first | rfl | (simp; done) | (simp [*]; done)), (by first | rfl | (simp; done) | (simp [*]; done)), H', ⟨Nat.le_refl _⟩, ⟨pK Aa.out⟩, ⟨pE HB.out Ad.out⟩⟩
 case round =>
  clear H'
  try clear c1
  try clear p1
  try clear q1
  try clear hx1
  try clear qi1
  try clear c2
  try clear c2b0
  try clear c2b1
  try clear p2
  try clear c5
  try clear c5b0
  try clear c5b1
  try clear c8
  try clear c8b0
  try clear c8b1
  try clear c9
  try clear c9b0
  try clear c9b1
  try clear p10
  try clear q10
  try clear hx10
  try clear qi10
  try clear c12
  try clear Ai Aj
  try clear An Ao
  try clear Ak Al
  try clear Ap Aq
  try clear p10
  try clear q10
  obtain ⟨Ag, Ab, Ae, Af, rfl, rfl, HA, HK1, Aa, HB⟩ := hrel
  cases gk with
  | zero => exact absurd HA.out (by simp [name_Parse.l0])
  | succ k1 =>
   have H := HA.out
   clear HA
   simp only [name_Parse.l0] at H
   by_cases c13 : Ab ≤ 10
   rotate_left
   ·rw [if_neg c13] at H
    have c13b0 : decide (Ab ≤ 10) = false := decide_eq_false c13
    clear c13
    by_cases c23 : t112 < 0
    ·rw [if_pos c23] at H
     have c23b0 : decide (t112 < 0) = true := decide_eq_true c23
     clear c23
     simp only [Option.some.injEq, Prod.mk.injEq] at H
     obtain ⟨rfl, rfl, rfl⟩ := H
     obtain ⟨_, _⟩ := bc2 Aa.out
     obtain ⟨_, _⟩ := bf2 Aa.out
     go_wp2
     refine bodyPost_ret (results_ct rfl _ _ Ac 32 #[.int .i64 0, .int .i64 0] (0, 0) _ rfl (kX0 Aa.out) Try.underlying32 rfl (by kernel_rfl)) rfl ?_
     exact ⟨pX, pE HB.out Ad.out⟩
    rw [if_neg c23] at H
    have c23b0 : decide (t112 < 0) = false := decide_eq_false c23
    clear c23
    by_cases c25 : Ag < 1
    ·rw [if_pos c25] at H
     have c25b0 : decide (Ag < 1) = true := decide_eq_true c25
     clear c25
     simp only [Option.some.injEq, Prod.mk.injEq] at H
     obtain ⟨rfl, rfl, rfl⟩ := H
     obtain ⟨_, _⟩ := bc2 Aa.out
     obtain ⟨_, _⟩ := bf2 Aa.out
     go_wp2
     refine bodyPost_ret (results_ct rfl _ _ Ac 32 #[.int .i64 0, .int .i64 0] (0, 0) _ rfl (kX0 Aa.out) Try.underlying32 rfl (by kernel_rfl)) rfl ?_
     exact ⟨pX, pE HB.out Ad.out⟩
    rw [if_neg c25] at H
    have c25b0 : decide (Ag < 1) = false := decide_eq_false c25
    clear c25
    by_cases c27 : Ag > 2147483647
    ·rw [if_pos c27] at H
     have c27b0 : decide (2147483647 < Ag) = true := decide_eq_true c27
     clear c27
     simp only [Option.some.injEq, Prod.mk.injEq] at H
     obtain ⟨rfl, rfl, rfl⟩ := H
     obtain ⟨_, _⟩ := bc2 Aa.out
     obtain ⟨_, _⟩ := bf2 Aa.out
     go_wp2
     refine bodyPost_ret (results_ct rfl _ _ Ac 32 #[.int .i64 0, .int .i64 0] (0, 0) _ rfl (kX0 Aa.out) Try.underlying32 rfl (by kernel_rfl)) rfl ?_
     exact ⟨pX, pE HB.out Ad.out⟩
    rw [if_neg c27] at H
    have c27b0 : decide (2147483647 < Ag) = false := decide_eq_false c27
    clear c27
    simp only [Option.some.injEq, Prod.mk.injEq] at H
    obtain ⟨rfl, rfl, rfl⟩ := H
    obtain ⟨_, _⟩ := bc2 Aa.out
    obtain ⟨_, _⟩ := bf2 Aa.out
    go_wp2
    refine bodyPost_ret (results_ct rfl _ _ Ac 32 #[.int .i64 (wrap64 (3 + t112)), .int .i64 Ag] (0, 0) _ rfl (kX0 Aa.out) Try.underlying32 rfl (by kernel_rfl)) rfl ?_
    exact ⟨pX, pE HB.out Ad.out⟩
   rw [if_pos c13] at H
   have c13b0 : decide (Ab ≤ 10) = true := decide_eq_true c13
   clear c13
   by_cases c14 : 0 ≤ Ab
   rotate_left
   ·rw [if_neg c14] at H
    exact absurd H (by simp)
   rw [if_pos c14] at H
   have c14b0 : decide (0 ≤ Ab) = true := decide_eq_true c14
   clear c14
   by_cases c15 : Ab < (a0.size : Int)
   rotate_left
   ·rw [if_neg c15] at H
    exact absurd H (by simp)
   rw [if_pos c15] at H
   have c15b0 : decide (Ab < (a0.size : Int)) = true := decide_eq_true c15
   clear c15
   by_cases c17 : (bt a0 Ab) < 48
   ·rw [if_pos c17] at H
    have c17b0 : decide ((bt a0 Ab) < 48) = true := decide_eq_true c17
    clear c17
    simp only [Option.some.injEq, Prod.mk.injEq] at H
    obtain ⟨rfl, rfl, rfl⟩ := H
    have p16 : 0 ≤ (Ab : Int) := of_decide_eq_true pS
    have q16 : Ab < (a0.size : Int) := of_decide_eq_true pS
    have hx16 := bt_at a0 Ab
    replace p16 := eq_true p16
    replace q16 := eq_true q16
    obtain ⟨_, _⟩ := bc2 Aa.out
    obtain ⟨_, _⟩ := bf2 Aa.out
    go_wp2
    refine bodyPost_ret (results_ct rfl _ _ Ac 32 #[.int .i64 0, .int .i64 0] (0, 0) _ rfl (kX0 Aa.out) Try.underlying32 rfl (by kernel_rfl)) rfl ?_
    exact ⟨pX, pE HB.out Ad.out⟩
   rw [if_neg c17] at H
   have c17b0 : decide ((bt a0 Ab) < 48) = false := decide_eq_false c17
   clear c17
   by_cases c20 : (bt a0 Ab) > 57
   ·rw [if_pos c20] at H
    have c20b0 : decide (57 < (bt a0 Ab)) = true := decide_eq_true c20
    clear c20
    simp only [Option.some.injEq, Prod.mk.injEq] at H
    obtain ⟨rfl, rfl, rfl⟩ := H
    have p16 : 0 ≤ (Ab : Int) := of_decide_eq_true pS
    have q16 : Ab < (a0.size : Int) := of_decide_eq_true pS
    have hx16 := bt_at a0 Ab
    replace p16 := eq_true p16
    replace q16 := eq_true q16
    have p19 : 0 ≤ (Ab : Int) := of_decide_eq_true pS
    have q19 : Ab < (a0.size : Int) := of_decide_eq_true pS
    have hx19 := bt_at a0 Ab
    replace p19 := eq_true p19
    replace q19 := eq_true q19
    obtain ⟨_, _⟩ := bc2 Aa.out
    obtain ⟨_, _⟩ := bf2 Aa.out
    go_wp2
    refine bodyPost_ret (results_ct rfl _ _ Ac 32 #[.int .i64 0, .int .i64 0] (0, 0) _ rfl (kX0 Aa.out) Try.underlying32 rfl (by kernel_rfl)) rfl ?_
    exact ⟨pX, pE HB.out Ad.out⟩
   rw [if_neg c20] at H
   have c20b0 : decide (57 < (bt a0 Ab)) = false := decide_eq_false c20
   clear c20
   have H' := Am H
   clear H
   have p16 : 0 ≤ (Ab : Int) := of_decide_eq_true pS
   have q16 : Ab < (a0.size : Int) := of_decide_eq_true pS
   have hx16 := bt_at a0 Ab
   replace p16 := eq_true p16
   replace q16 := eq_true q16
   have p19 : 0 ≤ (Ab : Int) := of_decide_eq_true pS
   have q19 : Ab < (a0.size : Int) := of_decide_eq_true pS
   have hx19 := bt_at a0 Ab
   replace p19 := eq_true p19
   replace q19 := eq_true q19
   have p22 : 0 ≤ (Ab : Int) := of_decide_eq_true pS
   have q22 : Ab < (a0.size : Int) := of_decide_eq_true pS
   have hx22 := bt_at a0 Ab
   replace p22 := eq_true p22
   replace q22 := eq_true q22
   go_wp2
   go_roundg k1
   case measure => have := HK1.out; omega
   case rel => exact ⟨(wrap64 ((wrap64 (10 * Ag)) + (((bt a0 Ab) - 48) % 256))), (wrap64 (Ab + 1)), (Ae), (Af), (by first | rfl | (simp; done) | (simp [*]; done)), (by first | rfl | (simp; done) | (simp [*]; done)), H', ⟨by have := HK1.out; omega⟩, ⟨pK Aa.out⟩, ⟨pE HB.out Ad.out⟩⟩
end Go.Proofs.Ytlcajceefhgalaa.PNameAll
