/- What the law reaches, as plain Lean functions, and that the machine's calls answer just that. -/
import Derived.Test.YtdanmjfkocjgjaaPWalGetsx0
import Derived.Test.YtdanmjfkocjgjaaPWalGetsx14
import Derived.Test.YtdanmjfkocjgjaaPWalGetsx16
namespace Go.Proofs.Ytdanmjfkocjgjaa.PWalGets
open Go.RowKit Go.Proofs.YtdanmjfkocjgjaaW.PrintWords Go.Proofs.YtdanmjfkocjgjaaW.PrintLast Go.Proofs.YtdanmjfkocjgjaaW.PrintMore
attribute [local go_sem] max2_int min2_int max_two min_two max_three min_three max_four min_four
set_option linter.unusedVariables false
set_option linter.unusedSimpArgs false
attribute [local go_sem] wrap64_l1 wrap64_l2 wrap64_l3 wrap64_l4 wrap64_l5
mutual
def garnerref02_Get.l0 : Nat → List Int → Int → Option (Int × Int)
 | 0, _, _ => none
 | k + 1, x0, x4 => if x4 ≤ (x0.length : Int) then (garnerref02_Get.j1 k x0 x4 (decide (x4 ≤ 10))) else (garnerref02_Get.j1 k x0 x4 false)
def garnerref02_Get.j1 : Nat → List Int → Int → Bool → Option (Int × Int)
 | 0, _, _, _ => none
 | k + 1, x0, x4, x13 => if x13 = true then (if 0 ≤ (wrap64 (x4 - 1)) then (if (wrap64 (x4 - 1)) < (x0.length : Int) then (if (rd x0 (wrap64 (x4 - 1))) < 128 then (if 0 ≤ x4 then (if x4 ≤ (x0.length : Int) then ((garnerref02_value.f k (x0.take (x4 : Int).toNat)).bind fun t412 => ((garnerref02_One.f k t412).bind fun t413 => ((garnerref02_same.f k t413 (x0.take (x4 : Int).toNat)).bind fun t417 => (if t417 = true then (some (t412, x4)) else (some (0, 0)))))) else (none)) else (none)) else (garnerref02_Get.l0 k x0 (wrap64 (x4 + 1)))) else (none)) else (none)) else (some (0, 0))
end
def garnerref02_Get.f (k : Nat) (l0 : List Int) : Option (Int × Int) := garnerref02_Get.l0 k l0 1
theorem garnerref02_Get.mono_l : ∀ k, (∀ y0 y1, LeO (garnerref02_Get.l0 k y0 y1) (garnerref02_Get.l0 (k + 1) y0 y1)) ∧ (∀ y0 y1 y2, LeO (garnerref02_Get.j1 k y0 y1 y2) (garnerref02_Get.j1 (k + 1) y0 y1 y2))
 | 0 => ⟨fun _ _ r h => by simp [garnerref02_Get.l0] at h, fun _ _ _ r h => by simp [garnerref02_Get.j1] at h⟩
 | k + 1 => by
  obtain ⟨ih0, ih1⟩ := garnerref02_Get.mono_l k
  refine ⟨?_, ?_⟩
  ·intro y0 y1
   unfold garnerref02_Get.l0
   repeat' (with_reducible first | exact ih0 .. | exact ih1 .. | exact garnerref02_One.mono .. | exact garnerref02_same.mono .. | exact garnerref02_value.mono .. | exact LeO.refl .. | exact LeO.none .. | refine LeO.ite ?_ ?_ | refine LeO.bind ?_ (fun _ => ?_))
  ·intro y0 y1 y2
   unfold garnerref02_Get.j1
   repeat' (with_reducible first | exact ih0 .. | exact ih1 .. | exact garnerref02_One.mono .. | exact garnerref02_same.mono .. | exact garnerref02_value.mono .. | exact LeO.refl .. | exact LeO.none .. | refine LeO.ite ?_ ?_ | refine LeO.bind ?_ (fun _ => ?_))
theorem garnerref02_Get.mono : ∀ a0 k, LeO (garnerref02_Get.f k a0) (garnerref02_Get.f (k + 1) a0) := by
 intro a0 k
 obtain ⟨ih0, ih1⟩ := garnerref02_Get.mono_l k
 unfold garnerref02_Get.f
 repeat' (with_reducible first | exact ih0 .. | exact ih1 .. | exact garnerref02_One.mono .. | exact garnerref02_same.mono .. | exact garnerref02_value.mono .. | exact LeO.refl .. | exact LeO.none .. | refine LeO.ite ?_ ?_ | refine LeO.bind ?_ (fun _ => ?_))
set_option maxHeartbeats 8000000 in
set_option maxRecDepth 100000 in
theorem garnerref02_Get.calls (k : Nat) (A0 : Option Addr) (c0 : Nat) (l0 : List Int) (r1 : Int) (r2 : Int) (w : World) (hr0 : Kd.C (Kd.int .u8) w A0 l0.length l0) (hc0 : l0.length ≤ c0) (h : garnerref02_Get.f k l0 = some (r1, r2)) :
 Calls Try.prog 22 #[.slice A0 l0.length c0] w fun e w' => e = .returned (.tuple #[.int .u64 r1, .int .i64 r2]) ∧ Below w.heap.size w w' := by
 have HR0 := Am hr0
 have HC0 := Am hc0
 clear hr0 hc0
 have HB := Am (Below.refl w.heap.size w)
 unfold garnerref02_Get.f at h
 have H := h
 clear h
 have H' := Am H
 clear H
 go_enter Try.func22, Try.ntmps22
 go_wp2
 go_loopg [4] k (fun kq v4 w' => ∃ (Aa : Int), v4 = .int .i64 Aa ∧ Aside0 (garnerref02_Get.l0 kq l0 Aa = some (r1, r2)) ∧ Aside0 (kq ≤ k) ∧ Aside0 (Below w.heap.size w w'))
 case atStart => exact ⟨(1), zr, H', ⟨Nat.le_refl _⟩, ⟨pB HB.out⟩⟩
 case round =>
  clear H'
  obtain ⟨Aa, rfl, HA, HK1, HB⟩ := hrel
  cases gk with
  | zero => exact absurd HA.out (by simp [garnerref02_Get.l0])
  | succ k1 =>
   have H := HA.out
   clear HA
   simp only [garnerref02_Get.l0] at H
   have HC2 := Am H
   clear H
   go_upto_region 2 with (fail)
   go_cut [13] (fun v13 wc => ∃ (kq : Nat) (Ag : Bool), v13 = .bool Ag ∧ Aside0 (garnerref02_Get.j1 kq l0 Aa Ag = some (r1, r2)) ∧ Aside0 (kq ≤ k1) ∧ Aside0 (Below w.heap.size w wc))
   case first =>
    have H := HC2.out
    clear HC2
    by_cases c3 : Aa ≤ (l0.length : Int)
    ·rw [if_pos c3] at H
     have c3b0 := decide_eq_true c3
     clear c3
     (first | rw [c3b0] | (simp only [i64_w, i32_w]; rw [c3b0]) | skip)
     have H' := Am H
     clear H
     go_wp2
     go_meet
     case rel => exact ⟨_, (decide (Aa ≤ 10)), zr, H', ⟨by have := HK1.out; first | omega | exact Nat.le_refl _⟩, ⟨pB HB.out⟩⟩
    rw [if_neg c3] at H
    have c3b0 := decide_eq_false c3
    clear c3
    (first | rw [c3b0] | (simp only [i64_w, i32_w]; rw [c3b0]) | skip)
    have H' := Am H
    clear H
    go_wp2
    go_meet
    case rel => exact ⟨_, (false), zr, H', ⟨by have := HK1.out; first | omega | exact Nat.le_refl _⟩, ⟨pB HB.out⟩⟩
   case rest =>
    clear HC2
    try clear c2
    try clear p2
    try clear c3
    try clear c3b0
    obtain ⟨kq, Ag, rfl, HA, HJ1, HB⟩ := hcut
    cases kq with
    | zero => exact absurd HA.out (by simp [garnerref02_Get.j1])
    | succ kj1 =>
     have H := HA.out
     clear HA
     simp only [garnerref02_Get.j1] at H
     by_cases c4 : Ag = true
     rotate_left
     ·replace c4 := Bool.eq_false_iff.mpr c4
      subst c4
      rw [if_neg zF] at H
      simp only [Option.some.injEq, Prod.mk.injEq] at H
      obtain ⟨rfl, rfl⟩ := H
      go_wp2
      go_ret2
      exact ⟨pX, pB HB.out⟩
     subst c4
     rw [if_pos rfl] at H
     obtain ⟨ji5, hji5⟩ : ∃ j_ : Int, (wrap64 (Aa - 1)) = j_ := ⟨_, rfl⟩
     replace H : (if 0 ≤ (ji5) then (if (ji5) < (l0.length : Int) then (if (rd l0 (ji5)) < 128 then (if 0 ≤ Aa then (if Aa ≤ (l0.length : Int) then ((garnerref02_value.f kj1 (l0.take (Aa : Int).toNat)).bind fun t412 => ((garnerref02_One.f kj1 t412).bind fun t413 => ((garnerref02_same.f kj1 t413 (l0.take (Aa : Int).toNat)).bind fun t417 => (if t417 = true then (some (t412, Aa)) else (some (0, 0)))))) else (none)) else (none)) else (garnerref02_Get.l0 kj1 l0 (wrap64 (Aa + 1)))) else (none)) else (none)) = some (r1, r2) := by first | (rw [hji5] at H; exact H) | (simp only [hji5] at H ⊢; exact H)
     have hji5w : (IntKind.i64.wrap (Aa - 1)) = ji5 := (i64_w _).trans hji5
     obtain ⟨c6, H⟩ := zI H
     have c6b0 := decide_eq_true c6
     clear c6
     obtain ⟨c7, H⟩ := zI H
     have c7b0 := decide_eq_true c7
     clear c7
     by_cases c8 : (rd l0 (ji5)) < 128
     rotate_left
     ·rw [if_neg c8] at H
      have c8b0 := decide_eq_false c8
      clear c8
      have H' := Am H
      clear H
      have p410 : 0 ≤ ((ji5) : Int) := of_decide_eq_true pS
      have q410 : (ji5) < (l0.length : Int) := of_decide_eq_true pS
      obtain ⟨Ac, e410, Ab⟩ := Kd.at_int HR0.out (ji5) p410 q410
      cases e410
      replace Ab := cU HB.out Ab
      replace p410 := eq_true p410
      replace q410 := eq_true q410
      go_wp2
      go_roundg kj1
      case measure => have := HK1.out; have := HJ1.out; omega
      case rel => exact ⟨(wrap64 (Aa + 1)), zr, H', ⟨by have := HK1.out; have := HJ1.out; omega⟩, ⟨pB HB.out⟩⟩
     rw [if_pos c8] at H
     have c8b0 := decide_eq_true c8
     clear c8
     obtain ⟨c9, H⟩ := zI H
     have c9b0 := eq_true c9
     have c9b1 := decide_eq_true c9
     clear c9
     obtain ⟨c10, H⟩ := zI H
     have c10b0 := eq_true c10
     have c10b1 := decide_eq_true c10
     clear c10
     replace H := Option.bind_eq_some_iff.mp H
     obtain ⟨t412, A110, H⟩ := H
     have A11 := Am A110
     clear A110
     replace H := Option.bind_eq_some_iff.mp H
     obtain ⟨t413, A120, H⟩ := H
     have A12 := Am A120
     clear A120
     have c13b0 := eq_true (of_decide_eq_true pS : 0 ≤ Aa)
     have c14b0 := eq_true (of_decide_eq_true pS : Aa ≤ (l0.length : Int))
     replace H := Option.bind_eq_some_iff.mp H
     obtain ⟨t417, A150, H⟩ := H
     have A15 := Am A150
     clear A150
     by_cases c16 : t417 = true
     ·subst c16
      rw [if_pos rfl] at H
      simp only [Option.some.injEq, Prod.mk.injEq] at H
      obtain ⟨rfl, rfl⟩ := H
      have p410 : 0 ≤ ((ji5) : Int) := of_decide_eq_true pS
      have q410 : (ji5) < (l0.length : Int) := of_decide_eq_true pS
      obtain ⟨Ac, e410, Ab⟩ := Kd.at_int HR0.out (ji5) p410 q410
      cases e410
      replace Ab := cU HB.out Ab
      replace p410 := eq_true p410
      replace q410 := eq_true q410
      obtain ⟨i017, hi017, _, Aj, _⟩ := info_parts info5
      obtain ⟨hcut17, hA17, Ao⟩ := print_take_of (P := Try.prog) (Value.int .u8) 0 22 5 .i64 Try.underlying22 hi017 Aj (some Ac) c0 l0 Aa (of_decide_eq_true pS) (of_decide_eq_true pS) HC0.out
      have HR411 := Am (Kd.C_of_reads (h1 := fun _ => rfl) (hA17 _ (Kd.reads_of_C HR0.out)))
      have HC411 := Am Ao
      clear hA17 Ao hi017 Aj
      try go_wp2_with (first | ((with_reducible refine gate_callee (f := 47) rfl ?_); refine goesL_ (some 25) rfl rfl Try.func47 (by kernel_rfl) rfl #[.slice (some Ac) (l0.take (Aa : Int).toNat).length c0] rfl (by (try simp only [List.map_toArray, List.map_cons, List.map_nil]); first | done | (rw [show (l0.take (Aa : Int).toNat).length = Aa.toNat from (by rw [List.length_take]; have h_ : (Aa : Int) ≤ (l0.length : Int) := of_decide_eq_true pS; omega)] <;> rfl) | rfl | (simp only [List.length_drop, List.length_take]; rfl)) ?_; (with_reducible refine (garnerref02_value.calls kj1 _ _ (l0.take (Aa : Int).toNat) t412 _ ?Ad ?Ae A11.out).mono ?_); (case Ad => exact pC (Kd.C_below HR411.out HB.out)); (case Ae => exact HC411.out); rintro e w' ⟨rfl, ⟨nd, rfl⟩⟩; refine ⟨_, rfl, ?_⟩))
      (try (rw [drewN_self wc]; generalize hq_ : World.drewN wc _ = wc; replace HB : Aside0 (Below w.heap.size w wc) := ⟨by rw [← hq_]; exact (pB HB.out)⟩; clear hq_))
      replace HB := bDa HB
      obtain ⟨i019, hi019, _, Ak, _⟩ := info_parts info5
      obtain ⟨hcut19, hA19, Ap⟩ := print_take_of (P := Try.prog) (Value.int .u8) 0 22 5 .i64 Try.underlying22 hi019 Ak (some Ac) c0 l0 Aa (of_decide_eq_true pS) (of_decide_eq_true pS) HC0.out
      have HR416 := Am (Kd.C_of_reads (h1 := fun _ => rfl) (hA19 _ (Kd.reads_of_C HR0.out)))
      have HC416 := Am Ap
      clear hA19 Ap hi019 Ak
      refine start_ (n := 6) (S := fun w' => True) (ds := []) #[false, false, false, false, false, false] (by kernel_rfl) rfl rfl trivial (fun hHeld => ?_)
      generalize wc.drew = w18 at HB HR416 hHeld ⊢
      refine pure_ (i := 0) (N := some 26) (v := ?_) (a' := ?_) (bw 6 1) rfl rfl (by kernel_rfl) (fun _ _ _ h => h) (Or.inl ⟨by rfl, ?_⟩) ?_ ?_
      rotate_left
      ·intro w'
       go_simp
       with_reducible rfl
      rotate_left
      ·simp only [Act.put, List.setIfInBounds_toArray, List.set_cons_zero, List.set_cons_succ, i64_w, i32_w]
       rfl
      refine pure_ (i := 2) (N := some 28) (v := ?_) (a' := ?_) (bw 6 5) rfl rfl (by kernel_rfl) (fun _ _ _ h => h) (Or.inl ⟨by rfl, ?_⟩) ?_ ?_
      rotate_left
      ·intro w'
       go_simp
       with_reducible rfl
      rotate_left
      ·simp only [Act.put, List.setIfInBounds_toArray, List.set_cons_zero, List.set_cons_succ, i64_w, i32_w]
       rfl
      refine pure_ (i := 3) (N := some 29) (v := ?_) (a' := ?_) (bw 6 13) rfl rfl (by kernel_rfl) (fun _ _ _ h => h) (Or.inl ⟨by rfl, ?_⟩) ?_ ?_
      rotate_left
      ·intro w'
       go_simp
       with_reducible rfl
      rotate_left
      ·simp only [Act.put, List.setIfInBounds_toArray, List.set_cons_zero, List.set_cons_succ, i64_w, i32_w]
       rfl
      refine pure_ (i := 4) (N := some 30) (v := ?_) (a' := ?_) (bw 6 29) rfl rfl (by kernel_rfl) (fun _ _ _ h => h) (Or.inl ⟨by rfl, ?_⟩) ?_ ?_
      rotate_left
      ·intro w'
       go_simp
       with_reducible rfl
      rotate_left
      ·simp only [Act.put, List.setIfInBounds_toArray, List.set_cons_zero, List.set_cons_succ, i64_w, i32_w]
       rfl
      refine one_ (i := 1) (N := some 27) (bw 6 31) rfl rfl (by kernel_rfl) (by decide) (fun K hK => ?_)
      refine goes_ Try.func36 (by kernel_rfl) rfl #[.int .u64 t412] (by rfl) rfl rfl pL ?_
      with_reducible refine (garnerref02_One.calls kj1 t412 t413 _ A12.out).mono ?_
      rintro e w20 ⟨v414, rfl, ho0, hb⟩
      refine ⟨_, rfl, ?_⟩
      have Af := Am (Kd.R_lower ho0 (below_size (pB HB.out)))
      replace HB := Am (below_step (pB HB.out) hb)
      (try clear hb)
      (try clear hb2)
      (try clear hk)
      (try clear hi)
      (try clear ho0)
      obtain ⟨Au, Av, Aq⟩ := Kd.R_slice Af.out
      (first | subst Aq | (injection Aq with f1_ f2_ f3_; have f4_ := f1_.symm; have f5_ := f3_.symm; clear f1_ f2_ f3_; subst f4_; subst f5_))
      refine hK.out _ _ trivial (fun hHeld => ?_)
      clear hK K
      refine norm_ (a' := ?_) ?_ ?_
      rotate_left
      ·show Act.put _ (some 27) _ = _
       simp only [Act.put, List.setIfInBounds_toArray, List.set_cons_zero, List.set_cons_succ, i64_w, i32_w]
       rfl
      refine one_ (i := 5) (N := some 31) (bw 6 63) rfl rfl (by kernel_rfl) (by decide) (fun K hK => ?_)
      refine goes_ Try.func48 (by kernel_rfl) rfl #[.slice Au t413.length Av, .slice (some Ac) (l0.take (Aa : Int).toNat).length c0] (by rfl) rfl rfl (by (try simp only [List.map_toArray, List.map_cons, List.map_nil]); first | done | (rw [show (l0.take (Aa : Int).toNat).length = Aa.toNat from (by rw [List.length_take]; have h_ : (Aa : Int) ≤ (l0.length : Int) := of_decide_eq_true pS; omega)] <;> rfl) | rfl | (simp only [List.length_drop, List.length_take]; rfl)) ?_
      with_reducible refine (garnerref02_same.calls kj1 _ _ t413 _ _ (l0.take (Aa : Int).toNat) true _ ?Ad ?Ae ?Ah ?Ai A15.out).mono ?_
      (case Ad => exact pC (Kd.R_reads' Af.out).2.2)
      (case Ae => exact (Kd.R_reads' Af.out).2.1)
      (case Ah => exact pC (Kd.C_below HR416.out HB.out))
      (case Ai => exact HC416.out)
      rintro e w' ⟨rfl, ⟨nd, rfl⟩⟩
      refine ⟨_, rfl, ?_⟩
      refine hK.out _ _ trivial (fun hHeld => ?_)
      clear hK K
      refine norm_ (a' := ?_) ?_ ?_
      rotate_left
      ·show Act.put _ (some 31) _ = _
       simp only [Act.put, List.setIfInBounds_toArray, List.set_cons_zero, List.set_cons_succ, i64_w, i32_w]
       rfl
      refine done_ (by kernel_rfl) ?_
      try go_wp2
      go_ret2
      exact ⟨by first | rfl | (simp [errW_none, errW_some] <;> rfl) | (simp only [← hji5]; first | rfl | (simp [errW_none, errW_some] <;> rfl)) | (simp [*, errW_none, errW_some] <;> rfl), pB HB.out⟩
     replace c16 := Bool.eq_false_iff.mpr c16
     subst c16
     rw [if_neg zF] at H
     simp only [Option.some.injEq, Prod.mk.injEq] at H
     obtain ⟨rfl, rfl⟩ := H
     have p410 : 0 ≤ ((ji5) : Int) := of_decide_eq_true pS
     have q410 : (ji5) < (l0.length : Int) := of_decide_eq_true pS
     obtain ⟨Ac, e410, Ab⟩ := Kd.at_int HR0.out (ji5) p410 q410
     cases e410
     replace Ab := cU HB.out Ab
     replace p410 := eq_true p410
     replace q410 := eq_true q410
     obtain ⟨i022, hi022, _, Al, _⟩ := info_parts info5
     obtain ⟨hcut22, hA22, Ar⟩ := print_take_of (P := Try.prog) (Value.int .u8) 0 22 5 .i64 Try.underlying22 hi022 Al (some Ac) c0 l0 Aa (of_decide_eq_true pS) (of_decide_eq_true pS) HC0.out
     have HR411 := Am (Kd.C_of_reads (h1 := fun _ => rfl) (hA22 _ (Kd.reads_of_C HR0.out)))
     have HC411 := Am Ar
     clear hA22 Ar hi022 Al
     try go_wp2_with (first | ((with_reducible refine gate_callee (f := 47) rfl ?_); refine goesL_ (some 25) rfl rfl Try.func47 (by kernel_rfl) rfl #[.slice (some Ac) (l0.take (Aa : Int).toNat).length c0] rfl (by (try simp only [List.map_toArray, List.map_cons, List.map_nil]); first | done | (rw [show (l0.take (Aa : Int).toNat).length = Aa.toNat from (by rw [List.length_take]; have h_ : (Aa : Int) ≤ (l0.length : Int) := of_decide_eq_true pS; omega)] <;> rfl) | rfl | (simp only [List.length_drop, List.length_take]; rfl)) ?_; (with_reducible refine (garnerref02_value.calls kj1 _ _ (l0.take (Aa : Int).toNat) t412 _ ?Ad ?Ae A11.out).mono ?_); (case Ad => exact pC (Kd.C_below HR411.out HB.out)); (case Ae => exact HC411.out); rintro e w' ⟨rfl, ⟨nd, rfl⟩⟩; refine ⟨_, rfl, ?_⟩))
     (try (rw [drewN_self wc]; generalize hq_ : World.drewN wc _ = wc; replace HB : Aside0 (Below w.heap.size w wc) := ⟨by rw [← hq_]; exact (pB HB.out)⟩; clear hq_))
     replace HB := bDa HB
     obtain ⟨i024, hi024, _, An, _⟩ := info_parts info5
     obtain ⟨hcut24, hA24, As⟩ := print_take_of (P := Try.prog) (Value.int .u8) 0 22 5 .i64 Try.underlying22 hi024 An (some Ac) c0 l0 Aa (of_decide_eq_true pS) (of_decide_eq_true pS) HC0.out
     have HR416 := Am (Kd.C_of_reads (h1 := fun _ => rfl) (hA24 _ (Kd.reads_of_C HR0.out)))
     have HC416 := Am As
     clear hA24 As hi024 An
     refine start_ (n := 6) (S := fun w' => True) (ds := []) #[false, false, false, false, false, false] (by kernel_rfl) rfl rfl trivial (fun hHeld => ?_)
     generalize wc.drew = w23 at HB HR416 hHeld ⊢
     refine pure_ (i := 0) (N := some 26) (v := ?_) (a' := ?_) (bw 6 1) rfl rfl (by kernel_rfl) (fun _ _ _ h => h) (Or.inl ⟨by rfl, ?_⟩) ?_ ?_
     rotate_left
     ·intro w'
      go_simp
      with_reducible rfl
     rotate_left
     ·simp only [Act.put, List.setIfInBounds_toArray, List.set_cons_zero, List.set_cons_succ, i64_w, i32_w]
      rfl
     refine pure_ (i := 2) (N := some 28) (v := ?_) (a' := ?_) (bw 6 5) rfl rfl (by kernel_rfl) (fun _ _ _ h => h) (Or.inl ⟨by rfl, ?_⟩) ?_ ?_
     rotate_left
     ·intro w'
      go_simp
      with_reducible rfl
     rotate_left
     ·simp only [Act.put, List.setIfInBounds_toArray, List.set_cons_zero, List.set_cons_succ, i64_w, i32_w]
      rfl
     refine pure_ (i := 3) (N := some 29) (v := ?_) (a' := ?_) (bw 6 13) rfl rfl (by kernel_rfl) (fun _ _ _ h => h) (Or.inl ⟨by rfl, ?_⟩) ?_ ?_
     rotate_left
     ·intro w'
      go_simp
      with_reducible rfl
     rotate_left
     ·simp only [Act.put, List.setIfInBounds_toArray, List.set_cons_zero, List.set_cons_succ, i64_w, i32_w]
      rfl
     refine pure_ (i := 4) (N := some 30) (v := ?_) (a' := ?_) (bw 6 29) rfl rfl (by kernel_rfl) (fun _ _ _ h => h) (Or.inl ⟨by rfl, ?_⟩) ?_ ?_
     rotate_left
     ·intro w'
      go_simp
      with_reducible rfl
     rotate_left
     ·simp only [Act.put, List.setIfInBounds_toArray, List.set_cons_zero, List.set_cons_succ, i64_w, i32_w]
      rfl
     refine one_ (i := 1) (N := some 27) (bw 6 31) rfl rfl (by kernel_rfl) (by decide) (fun K hK => ?_)
     refine goes_ Try.func36 (by kernel_rfl) rfl #[.int .u64 t412] (by rfl) rfl rfl pL ?_
     with_reducible refine (garnerref02_One.calls kj1 t412 t413 _ A12.out).mono ?_
     rintro e w25 ⟨v414, rfl, ho0, hb⟩
     refine ⟨_, rfl, ?_⟩
     have Af := Am (Kd.R_lower ho0 (below_size (pB HB.out)))
     replace HB := Am (below_step (pB HB.out) hb)
     (try clear hb)
     (try clear hb2)
     (try clear hk)
     (try clear hi)
     (try clear ho0)
     obtain ⟨Aw, Ax, At⟩ := Kd.R_slice Af.out
     (first | subst At | (injection At with f1_ f2_ f3_; have f4_ := f1_.symm; have f5_ := f3_.symm; clear f1_ f2_ f3_; subst f4_; subst f5_))
     refine hK.out _ _ trivial (fun hHeld => ?_)
     clear hK K
     refine norm_ (a' := ?_) ?_ ?_
     rotate_left
     ·show Act.put _ (some 27) _ = _
      simp only [Act.put, List.setIfInBounds_toArray, List.set_cons_zero, List.set_cons_succ, i64_w, i32_w]
      rfl
     refine one_ (i := 5) (N := some 31) (bw 6 63) rfl rfl (by kernel_rfl) (by decide) (fun K hK => ?_)
     refine goes_ Try.func48 (by kernel_rfl) rfl #[.slice Aw t413.length Ax, .slice (some Ac) (l0.take (Aa : Int).toNat).length c0] (by rfl) rfl rfl (by (try simp only [List.map_toArray, List.map_cons, List.map_nil]); first | done | (rw [show (l0.take (Aa : Int).toNat).length = Aa.toNat from (by rw [List.length_take]; have h_ : (Aa : Int) ≤ (l0.length : Int) := of_decide_eq_true pS; omega)] <;> rfl) | rfl | (simp only [List.length_drop, List.length_take]; rfl)) ?_
     with_reducible refine (garnerref02_same.calls kj1 _ _ t413 _ _ (l0.take (Aa : Int).toNat) false _ ?Ad ?Ae ?Ah ?Ai A15.out).mono ?_
     (case Ad => exact pC (Kd.R_reads' Af.out).2.2)
     (case Ae => exact (Kd.R_reads' Af.out).2.1)
     (case Ah => exact pC (Kd.C_below HR416.out HB.out))
     (case Ai => exact HC416.out)
     rintro e w' ⟨rfl, ⟨nd, rfl⟩⟩
     refine ⟨_, rfl, ?_⟩
     refine hK.out _ _ trivial (fun hHeld => ?_)
     clear hK K
     refine norm_ (a' := ?_) ?_ ?_
     rotate_left
     ·show Act.put _ (some 31) _ = _
      simp only [Act.put, List.setIfInBounds_toArray, List.set_cons_zero, List.set_cons_succ, i64_w, i32_w]
      rfl
     refine done_ (by kernel_rfl) ?_
     try go_wp2
     go_ret2
     exact ⟨by first | rfl | (simp [errW_none, errW_some] <;> rfl) | (simp only [← hji5]; first | rfl | (simp [errW_none, errW_some] <;> rfl)) | (simp [*, errW_none, errW_some] <;> rfl), pB HB.out⟩
def garnerref06_number.f (k : Nat) (l0 : List Int) (a1 : Int) : Option (Int × Int) := (garnerref02_Get.f k l0).bind fun bt418 => (if bt418.2 = 0 then (some (0, 0)) else (if bt418.1 > a1 then (some (0, 0)) else (some (wrap64 (bt418.1), bt418.2))))
theorem garnerref06_number.mono : ∀ a0 a1 k, LeO (garnerref06_number.f k a0 a1) (garnerref06_number.f (k + 1) a0 a1) := by
 intro a0 a1 k
 unfold garnerref06_number.f
 repeat' (with_reducible first | exact garnerref02_Get.mono .. | exact LeO.refl .. | exact LeO.none .. | refine LeO.ite ?_ ?_ | refine LeO.bind ?_ (fun _ => ?_))
set_option maxHeartbeats 8000000 in
set_option maxRecDepth 100000 in
theorem garnerref06_number.calls (k : Nat) (A0 : Option Addr) (c0 : Nat) (l0 : List Int) (a1 : Int) (r1 : Int) (r2 : Int) (w : World) (hr0 : Kd.C (Kd.int .u8) w A0 l0.length l0) (hc0 : l0.length ≤ c0) (h : garnerref06_number.f k l0 a1 = some (r1, r2)) :
 Calls Try.prog 44 #[.slice A0 l0.length c0, .int .u64 a1] w fun e w' => e = .returned (.tuple #[.int .i64 r1, .int .i64 r2]) ∧ Below w.heap.size w w' := by
 have HR0 := Am hr0
 have HC0 := Am hc0
 clear hr0 hc0
 have HB := Am (Below.refl w.heap.size w)
 unfold garnerref06_number.f at h
 have H := h
 clear h
 replace H := Option.bind_eq_some_iff.mp H
 obtain ⟨⟨t418, t419⟩, A30, H⟩ := H
 dsimp only at H
 have A3 := Am A30
 clear A30
 by_cases c4 : t419 = 0
 ·rw [if_pos c4] at H
  have c4b0 := beq_iff_eq.mpr c4
  have c4b1 := bne_eq_false_iff_eq.mpr c4
  clear c4
  simp only [Option.some.injEq, Prod.mk.injEq] at H
  obtain ⟨rfl, rfl⟩ := H
  go_enter Try.func44, Try.ntmps44
  go_wp2_with (first | ((with_reducible refine gate_callee (f := 22) rfl ?_); refine goesL_ (some 10) rfl rfl Try.func22 (by kernel_rfl) rfl #[.slice A0 l0.length c0] rfl pL ?_; (with_reducible refine (garnerref02_Get.calls k _ _ l0 t418 t419 _ ?Aa ?Ab A3.out).mono ?_); (case Aa => repeat (first | exact HR0.out | (with_reducible refine Kd.C_alloc ?_ _) | (with_reducible refine Kd.C_drewN ?_ _) | (with_reducible refine Kd.C_drew ?_))); (case Ab => exact HC0.out); rintro e w5 ⟨rfl, hb⟩; refine ⟨_, rfl, ?_⟩; replace HB := Am (below_step (pB HB.out) hb); (try clear hb); (try clear hb2); (try clear hk); (try clear hi)))
  go_ret2
  exact ⟨pX, pB HB.out⟩
 rw [if_neg c4] at H
 have c4b0 := beq_eq_false_iff_ne.mpr c4
 have c4b1 := bne_iff_ne.mpr c4
 by_cases c6 : t418 > a1
 ·rw [if_pos c6] at H
  have c6b0 : decide (a1 < t418) = true := decide_eq_true c6
  clear c6
  simp only [Option.some.injEq, Prod.mk.injEq] at H
  obtain ⟨rfl, rfl⟩ := H
  go_enter Try.func44, Try.ntmps44
  go_wp2_with (first | ((with_reducible refine gate_callee (f := 22) rfl ?_); refine goesL_ (some 10) rfl rfl Try.func22 (by kernel_rfl) rfl #[.slice A0 l0.length c0] rfl pL ?_; (with_reducible refine (garnerref02_Get.calls k _ _ l0 t418 t419 _ ?Aa ?Ab A3.out).mono ?_); (case Aa => repeat (first | exact HR0.out | (with_reducible refine Kd.C_alloc ?_ _) | (with_reducible refine Kd.C_drewN ?_ _) | (with_reducible refine Kd.C_drew ?_))); (case Ab => exact HC0.out); rintro e w7 ⟨rfl, hb⟩; refine ⟨_, rfl, ?_⟩; replace HB := Am (below_step (pB HB.out) hb); (try clear hb); (try clear hb2); (try clear hk); (try clear hi)))
  go_ret2
  exact ⟨pX, pB HB.out⟩
 rw [if_neg c6] at H
 have c6b0 : decide (a1 < t418) = false := decide_eq_false c6
 clear c6
 simp only [Option.some.injEq, Prod.mk.injEq] at H
 obtain ⟨rfl, rfl⟩ := H
 go_enter Try.func44, Try.ntmps44
 go_wp2_with (first | ((with_reducible refine gate_callee (f := 22) rfl ?_); refine goesL_ (some 10) rfl rfl Try.func22 (by kernel_rfl) rfl #[.slice A0 l0.length c0] rfl pL ?_; (with_reducible refine (garnerref02_Get.calls k _ _ l0 t418 t419 _ ?Aa ?Ab A3.out).mono ?_); (case Aa => repeat (first | exact HR0.out | (with_reducible refine Kd.C_alloc ?_ _) | (with_reducible refine Kd.C_drewN ?_ _) | (with_reducible refine Kd.C_drew ?_))); (case Ab => exact HC0.out); rintro e w8 ⟨rfl, hb⟩; refine ⟨_, rfl, ?_⟩; replace HB := Am (below_step (pB HB.out) hb); (try clear hb); (try clear hb2); (try clear hk); (try clear hi)))
 go_ret2
 exact ⟨pX, pB HB.out⟩
def garnerref02_All.l0 : Nat → List Int → Int → List Int → Int → Int → Option (List Int × Int × Int)
 | 0, _, _, _, _, _ => none
 | k + 1, x0, x1, x7, x8, x9 => if x9 < x1 then (if 0 ≤ x8 then (if x8 ≤ (x0.length : Int) then ((garnerref02_Get.f k (x0.drop (x8 : Int).toNat)).bind fun bt424 => (if bt424.2 = 0 then (some (([] : List Int), x8, 2)) else (if x7.length < 17592186044416 then (garnerref02_All.l0 k x0 x1 (x7 ++ [bt424.1]) (wrap64 (x8 + bt424.2)) (wrap64 (x9 + 1))) else (none)))) else (none)) else (none)) else (some (x7, x8, 0))
def garnerref02_All.f (k : Nat) (l0 : List Int) (a1 : Int) : Option (List Int × Int × Int) := garnerref02_All.l0 k l0 a1 (([] : List Int)) 0 0
theorem garnerref02_All.mono_l : ∀ k, (∀ y0 y1 y2 y3 y4, LeO (garnerref02_All.l0 k y0 y1 y2 y3 y4) (garnerref02_All.l0 (k + 1) y0 y1 y2 y3 y4))
 | 0 => fun _ _ _ _ _ r h => by simp [garnerref02_All.l0] at h
 | k + 1 => by
  have ih0 := garnerref02_All.mono_l k
  ·intro y0 y1 y2 y3 y4
   unfold garnerref02_All.l0
   repeat' (with_reducible first | exact ih0 .. | exact garnerref02_Get.mono .. | exact LeO.refl .. | exact LeO.none .. | refine LeO.ite ?_ ?_ | refine LeO.bind ?_ (fun _ => ?_))
theorem garnerref02_All.mono : ∀ a0 a1 k, LeO (garnerref02_All.f k a0 a1) (garnerref02_All.f (k + 1) a0 a1) := by
 intro a0 a1 k
 have ih0 := garnerref02_All.mono_l k
 unfold garnerref02_All.f
 repeat' (with_reducible first | exact ih0 .. | exact garnerref02_Get.mono .. | exact LeO.refl .. | exact LeO.none .. | refine LeO.ite ?_ ?_ | refine LeO.bind ?_ (fun _ => ?_))
set_option maxHeartbeats 8000000 in
set_option maxRecDepth 100000 in
theorem garnerref02_All.calls (k : Nat) (A0 : Option Addr) (c0 : Nat) (l0 : List Int) (a1 : Int) (r1 : List Int) (r2 : Int) (r3 : Int) (w : World) (hr0 : Kd.C (Kd.int .u8) w A0 l0.length l0) (hc0 : l0.length ≤ c0) (h : garnerref02_All.f k l0 a1 = some (r1, r2, r3)) :
 Calls Try.prog 46 #[.slice A0 l0.length c0, .int .i64 a1] w fun e w' => ∃ v0_ : Value, e = .returned (.tuple #[v0_, .int .i64 r2, .int .i64 r3]) ∧ Kd.R (Kd.int .u64) 61 w' w.heap.size (fun _ => True) v0_ r1 ∧ Below w.heap.size w w' := by
 have HR0 := Am hr0
 have HC0 := Am hc0
 clear hr0 hc0
 have HB := Am (Below.refl w.heap.size w)
 unfold garnerref02_All.f at h
 have H := h
 clear h
 obtain ⟨y420, hy420⟩ : ∃ y_ : List Int, y_ = (([] : List Int)) := ⟨_, rfl⟩
 replace H : (garnerref02_All.l0 k l0 a1 y420 0 0) = some (r1, r2, r3) := by first | (rw [hy420]; with_reducible exact H) | (have H2_ := (Option.bind_some _ _).symm.trans H; rw [hy420]; with_reducible exact H2_) | (have H2_ := (Option.bind_some _ _).symm.trans H; with_reducible exact H2_) | with_reducible exact H | (rw [hy420]; exact H) | exact H
 have Ny420 := Am hy420
 clear hy420
 have H' := Am H
 clear H
 go_enter Try.func46, Try.ntmps46
 go_wp2_with (first | ((with_reducible refine gate_dst (N := 12) rfl ?_); refine Kd.R_lit (Kd.int .u64) _ 61 ?hg (N := 12) ?hd (xs := ([] : List Int)) (inner := []) (ok := fun _ => True) (okp := fun _ => True) ?hr ?hp (fun _ hk => hk) trivial (Below.refl _ _) (Nat.le_refl _) (by simp) ?_; (case hd => rfl); (case hg => rfl); (case hr => first | (go_simp; done) | (go_simp; rfl)); (case hp => exact (Reps.none _ _)); intro v421 w3 ho4 hb hg_ hnew_; clear hg_ hnew_; (first | rw [← Ny420.out] at ho4 | (simp only [Int.reduceToNat] at ho4; rw [← Ny420.out] at ho4)); have Ak := Am (Kd.R_lower ho4 (below_size (pB HB.out))); replace HB := Am (below_step (pB HB.out) hb); clear hb ho4))
 go_loopg [7, 8, 9] k (fun kq v7 v8 v9 w' => ∃ (Ac : List Int) (Aa : Int) (Ab : Int), v8 = .int .i64 Aa ∧ v9 = .int .i64 Ab ∧ Aside0 (garnerref02_All.l0 kq l0 a1 Ac Aa Ab = some (r1, r2, r3)) ∧ Aside0 (kq ≤ k) ∧ Aside0 (Kd.R (Kd.int .u64) 61 w' w.heap.size (fun _ => True) v7 Ac) ∧ Aside0 (Below w.heap.size w w'))
 case atStart => exact ⟨(y420), (0), (0), zr, zr, H', ⟨Nat.le_refl _⟩, ⟨by (with_reducible repeat (first | apply Kd.R_alloc | apply Kd.R_drewN | apply Kd.R_drew)); exact Ak.out⟩, ⟨pB HB.out⟩⟩
 case round =>
  clear H'
  try clear p2
  try clear c4
  obtain ⟨Ac, Aa, Ab, rfl, rfl, HA, HK1, Ad, HB⟩ := hrel
  cases gk with
  | zero => exact absurd HA.out (by simp [garnerref02_All.l0])
  | succ k1 =>
   have H := HA.out
   clear HA
   simp only [garnerref02_All.l0] at H
   by_cases c5 : Ab < a1
   rotate_left
   ·rw [if_neg c5] at H
    have c5b0 := decide_eq_false c5
    clear c5
    simp only [Option.some.injEq, Prod.mk.injEq] at H
    obtain ⟨rfl, rfl, rfl⟩ := H
    go_wp2
    go_ret3
    exact ⟨_, pX, by (with_reducible repeat (first | apply Kd.R_alloc | apply Kd.R_drewN | apply Kd.R_drew)); exact Ad.out, pB HB.out⟩
   rw [if_pos c5] at H
   have c5b0 := decide_eq_true c5
   clear c5
   obtain ⟨c6, H⟩ := zI H
   have c6b0 := eq_true c6
   have c6b1 := decide_eq_true c6
   clear c6
   obtain ⟨c7, H⟩ := zI H
   have c7b0 := eq_true c7
   have c7b1 := decide_eq_true c7
   clear c7
   replace H := Option.bind_eq_some_iff.mp H
   obtain ⟨⟨t424, t425⟩, A80, H⟩ := H
   dsimp only at H
   have A8 := Am A80
   clear A80
   by_cases c9 : t425 = 0
   ·rw [if_pos c9] at H
    have c9b0 := beq_iff_eq.mpr c9
    have c9b1 := bne_eq_false_iff_eq.mpr c9
    clear c9
    simp only [Option.some.injEq, Prod.mk.injEq] at H
    obtain ⟨rfl, rfl, rfl⟩ := H
    obtain ⟨i010, hi010, _, Ag, _⟩ := info_parts info5
    obtain ⟨A10, hcut10, hA10, Ai⟩ := print_drop_of (P := Try.prog) (Value.int .u8) 0 22 5 .i64 Try.underlying22 hi010 Ag A0 c0 l0 Aa (of_decide_eq_true pS) (of_decide_eq_true pS) HC0.out
    have HR423 := Am (Kd.C_of_reads (h1 := fun _ => rfl) (hA10 _ (Kd.reads_of_C HR0.out)))
    have HC423 := Am Ai
    clear hA10 Ai hi010 Ag
    go_wp2_with (first | ((with_reducible refine gate_callee (f := 22) rfl ?_); refine goesL_ (some 22) rfl rfl Try.func22 (by kernel_rfl) rfl #[.slice A10 (l0.drop (Aa : Int).toNat).length (c0 - Aa.toNat)] rfl (by (try simp only [List.map_toArray, List.map_cons, List.map_nil]); first | done | (rw [show (l0.drop (Aa : Int).toNat).length = (l0.length - Aa.toNat) from List.length_drop] <;> rfl) | rfl | (simp only [List.length_drop, List.length_take]; rfl)) ?_; (with_reducible refine (garnerref02_Get.calls k1 _ _ (l0.drop (Aa : Int).toNat) t424 t425 _ ?Ae ?Af A8.out).mono ?_); (case Ae => exact pC (Kd.C_below HR423.out HB.out)); (case Af => exact HC423.out); rintro e w11 ⟨rfl, hb⟩; refine ⟨_, rfl, ?_⟩; replace Ad := bRa Ad hb; replace HB := Am (below_step (pB HB.out) hb); (try clear hb); (try clear hb2); (try clear hk); (try clear hi)))
    go_ret3
    exact ⟨_, pX, zn, pB HB.out⟩
   rw [if_neg c9] at H
   have c9b0 := beq_eq_false_iff_ne.mpr c9
   have c9b1 := bne_iff_ne.mpr c9
   obtain ⟨c12, H⟩ := zI H
   have LMc12 := Am c12
   clear c12
   obtain ⟨y426, hy426⟩ : ∃ y_ : List Int, y_ = (Ac ++ [t424]) := ⟨_, rfl⟩
   replace H : (garnerref02_All.l0 k1 l0 a1 y426 (wrap64 (Aa + t425)) (wrap64 (Ab + 1))) = some (r1, r2, r3) := by first | (rw [hy426]; with_reducible exact H) | (have H2_ := (Option.bind_some _ _).symm.trans H; rw [hy426]; with_reducible exact H2_) | (have H2_ := (Option.bind_some _ _).symm.trans H; with_reducible exact H2_) | with_reducible exact H | (rw [hy426]; exact H) | exact H
   have Ny426 := Am hy426
   clear hy426
   have H' := Am H
   clear H
   obtain ⟨i013, hi013, _, Ah, _⟩ := info_parts info5
   obtain ⟨A13, hcut13, hA13, Aj⟩ := print_drop_of (P := Try.prog) (Value.int .u8) 0 22 5 .i64 Try.underlying22 hi013 Ah A0 c0 l0 Aa (of_decide_eq_true pS) (of_decide_eq_true pS) HC0.out
   have HR423 := Am (Kd.C_of_reads (h1 := fun _ => rfl) (hA13 _ (Kd.reads_of_C HR0.out)))
   have HC423 := Am Aj
   clear hA13 Aj hi013 Ah
   go_wp2_with (first | ((with_reducible refine gate_callee (f := 22) rfl ?_); refine goesL_ (some 22) rfl rfl Try.func22 (by kernel_rfl) rfl #[.slice A13 (l0.drop (Aa : Int).toNat).length (c0 - Aa.toNat)] rfl (by (try simp only [List.map_toArray, List.map_cons, List.map_nil]); first | done | (rw [show (l0.drop (Aa : Int).toNat).length = (l0.length - Aa.toNat) from List.length_drop] <;> rfl) | rfl | (simp only [List.length_drop, List.length_take]; rfl)) ?_; (with_reducible refine (garnerref02_Get.calls k1 _ _ (l0.drop (Aa : Int).toNat) t424 t425 _ ?Ae ?Af A8.out).mono ?_); (case Ae => exact pC (Kd.C_below HR423.out HB.out)); (case Af => exact HC423.out); rintro e w14 ⟨rfl, hb⟩; refine ⟨_, rfl, ?_⟩; replace Ad := bRa Ad hb; replace HB := Am (below_step (pB HB.out) hb); (try clear hb); (try clear hb2); (try clear hk); (try clear hi)) | ((with_reducible refine gate_builtin (b := .append) (xs := #[.tmp 28, .tmp 30]) rfl ?_); at_builtin; refine Kd.R_append (Kd.int .u64) (w0 := w) w.heap.size rfl (.tmp 28) (.tmp 30) 91 61 (.int .u64 0) 8 rfl Try.underlying91 info61 rfl (by decide) (by omega) u7 Ac t424 [.int .u64 t424] (fun _ => True) (fun _ => False) rfl rfl ?aP (fun _ hk => hk.elim) ?aF ?aO ?aB ?aS ?aL ?_; (case aP => exact rfl); (case aB => exact (pB HB.out)); (case aF => exact (fun _ _ => trivial)); (case aO => exact (pR Ad.out)); (case aS => exact (below_size (pB HB.out))); (case aL => have := LMc12.out; omega); intro v427 w15 ho hb hg hat; rw [← Ny426.out] at ho; replace HB := Am (hb); have Al := Am (ho); clear Ad ho hb hg hat))
   go_roundg k1
   case measure => have := HK1.out; omega
   case rel => exact ⟨(y426), (wrap64 (Aa + t425)), (wrap64 (Ab + 1)), zr, zr, H', ⟨by have := HK1.out; omega⟩, ⟨by (with_reducible repeat (first | apply Kd.R_alloc | apply Kd.R_drewN | apply Kd.R_drew)); exact Al.out⟩, ⟨pB HB.out⟩⟩
end Go.Proofs.Ytdanmjfkocjgjaa.PWalGets
