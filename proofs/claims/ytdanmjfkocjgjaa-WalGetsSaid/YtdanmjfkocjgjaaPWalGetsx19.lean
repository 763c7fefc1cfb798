/- What the law reaches, as plain Lean functions, and that the machine's calls answer just that. -/
import Derived.Test.YtdanmjfkocjgjaaPWalGetsx0
import Derived.Test.YtdanmjfkocjgjaaPWalGetsx17
import Derived.Test.YtdanmjfkocjgjaaPWalGetsx18
namespace Go.Proofs.Ytdanmjfkocjgjaa.PWalGets
open Go.RowKit Go.Proofs.YtdanmjfkocjgjaaW.PrintWords Go.Proofs.YtdanmjfkocjgjaaW.PrintLast Go.Proofs.YtdanmjfkocjgjaaW.PrintMore
attribute [local go_sem] max2_int min2_int max_two min_two max_three min_three max_four min_four
set_option linter.unusedVariables false
set_option linter.unusedSimpArgs false
attribute [local go_sem] wrap64_l1 wrap64_l2 wrap64_l3 wrap64_l4 wrap64_l5
def garnerref05_Get.j0 : Nat → List Int → Bool → Option (Bool × List Int × Int × Int × Int × Int × Int)
 | 0, _, _ => none
 | k + 1, x0, x16 => if x16 = true then (some (false, ([] : List Int), 0, 0, 0, 0, 0)) else (if 0 < (x0.length : Int) then (if (rd x0 0) = 1 then (if 1 ≤ (x0.length : Int) then ((garnerref04_Get.f k (x0.drop 1)).bind fun bt448 => (if bt448.2.2.2.2 = 0 then (some (false, ([] : List Int), 0, 0, 0, 0, 0)) else (some (true, ([] : List Int), bt448.1, bt448.2.1, bt448.2.2.1, bt448.2.2.2.1, wrap64 (bt448.2.2.2.2 + 1))))) else (none)) else (if 1 ≤ (x0.length : Int) then ((garnerref02_Get.f k (x0.drop 1)).bind fun bt455 => (if bt455.2 = 0 then (some (false, ([] : List Int), 0, 0, 0, 0, 0)) else (if bt455.1 > 32 then (some (false, ([] : List Int), 0, 0, 0, 0, 0)) else (if (x0.length : Int) < (wrap64 ((wrap64 (1 + bt455.2)) + (wrap64 (bt455.1)))) then (some (false, ([] : List Int), 0, 0, 0, 0, 0)) else ((some (([] : List Int) : List Int)).bind fun y457 => (if 0 ≤ (wrap64 (1 + bt455.2)) then (if (wrap64 (1 + bt455.2)) ≤ (wrap64 ((wrap64 (1 + bt455.2)) + (wrap64 (bt455.1)))) then (if (wrap64 ((wrap64 (1 + bt455.2)) + (wrap64 (bt455.1)))) ≤ (x0.length : Int) then (if y457.length + ((x0.take ((wrap64 ((wrap64 (1 + bt455.2)) + (wrap64 (bt455.1)))) : Int).toNat).drop ((wrap64 (1 + bt455.2)) : Int).toNat).length < 140737488355328 then (some (false, (y457 ++ ((x0.take ((wrap64 ((wrap64 (1 + bt455.2)) + (wrap64 (bt455.1)))) : Int).toNat).drop ((wrap64 (1 + bt455.2)) : Int).toNat)), 0, 0, 0, 0, wrap64 ((wrap64 (1 + bt455.2)) + (wrap64 (bt455.1))))) else (none)) else (none)) else (none)) else (none))))))) else (none))) else (none))
def garnerref05_Get.f (k : Nat) (l0 : List Int) : Option (Bool × List Int × Int × Int × Int × Int × Int) := if (l0.length : Int) = 0 then (garnerref05_Get.j0 k l0 true) else (if 0 < (l0.length : Int) then (garnerref05_Get.j0 k l0 (decide ((rd l0 0) > 1))) else (none))
theorem garnerref05_Get.mono_l : ∀ k, (∀ y0 y1, LeO (garnerref05_Get.j0 k y0 y1) (garnerref05_Get.j0 (k + 1) y0 y1))
 | 0 => fun _ _ r h => by simp [garnerref05_Get.j0] at h
 | k + 1 => by
  have ih0 := garnerref05_Get.mono_l k
  ·intro y0 y1
   unfold garnerref05_Get.j0
   repeat' (with_reducible first | exact ih0 .. | exact garnerref02_Get.mono .. | exact garnerref04_Get.mono .. | exact LeO.refl .. | exact LeO.none .. | refine LeO.ite ?_ ?_ | refine LeO.bind ?_ (fun _ => ?_))
theorem garnerref05_Get.mono : ∀ a0 k, LeO (garnerref05_Get.f k a0) (garnerref05_Get.f (k + 1) a0) := by
 intro a0 k
 have ih0 := garnerref05_Get.mono_l k
 unfold garnerref05_Get.f
 repeat' (with_reducible first | exact ih0 .. | exact garnerref02_Get.mono .. | exact garnerref04_Get.mono .. | exact LeO.refl .. | exact LeO.none .. | refine LeO.ite ?_ ?_ | refine LeO.bind ?_ (fun _ => ?_))
set_option maxHeartbeats 8000000 in
set_option maxRecDepth 100000 in
theorem garnerref05_Get.calls (k : Nat) (A0 : Option Addr) (c0 : Nat) (l0 : List Int) (r1 : Bool) (r2 : List Int) (r3 : Int) (r4 : Int) (r5 : Int) (r6 : Int) (r7 : Int) (w : World) (hr0 : Kd.C (Kd.int .u8) w A0 l0.length l0) (hc0 : l0.length ≤ c0) (h : garnerref05_Get.f k l0 = some (r1, r2, r3, r4, r5, r6, r7)) :
 Calls Try.prog 67 #[.slice A0 l0.length c0] w fun e w' => ∃ v1_ : Value, e = .returned (.tuple #[.agg #[.bool r1, v1_, .int .i64 r3, .int .i64 r4, .int .i64 r5, .int .u32 r6], .int .i64 r7]) ∧ Kd.R (Kd.int .u8) 5 w' w.heap.size (fun _ => True) v1_ r2 ∧ Below w.heap.size w w' := by
 have hu50 := Try.underlying50
 have hu48 := Try.underlying48
 have HR0 := Am hr0
 have HC0 := Am hc0
 clear hr0 hc0
 have HB := Am (Below.refl w.heap.size w)
 unfold garnerref05_Get.f at h
 have H := h
 clear h
 have HC2 := Am H
 clear H
 go_enter Try.func67, Try.ntmps67
 go_upto_region 1 with (first | ((with_reducible refine gate_dst (N := 2) rfl ?_); (try (refine gate_guard (by rfl) ?_; dsimp only)); refine zE 2 #[.bool false, .slice none 0 0, .int .i64 0, .int .i64 0, .int .i64 0, .int .u32 0] 50 ?_; intro Ad hg w3 hbox hb; have Aa := Am (hbox); have A7 := Am (zG hg (below_size (pB HB.out))); replace HB := Am (below_step (pB HB.out) hb); have Ac := A7; clear hb hbox hg))
 (try simp only [Act.put, List.setIfInBounds_toArray, List.set_cons_zero, List.set_cons_succ])
 go_cut [16] (fun v16 wc => ∃ (kq : Nat) (An : Bool), v16 = .bool An ∧ Aside0 (garnerref05_Get.j0 kq l0 An = some (r1, r2, r3, r4, r5, r6, r7)) ∧ Aside0 (kq ≤ k) ∧ Aside0 (wc.heap[Ad]? = some (.cells #[.bool false, (.slice none 0 0), .int .i64 0, .int .i64 0, .int .i64 0, .int .u32 0] 50 (0, 0))) ∧ Aside0 (Below w.heap.size w wc))
 case first =>
  have H := HC2.out
  clear HC2
  by_cases c4 : (l0.length : Int) = 0
  ·rw [if_pos c4] at H
   have c4b0 := beq_iff_eq.mpr c4
   have c4b1 := bne_eq_false_iff_eq.mpr c4
   clear c4
   (first | rw [c4b0] | (simp only [i64_w, i32_w]; rw [c4b0]) | skip)
   have H' := Am H
   clear H
   go_wp2
   go_meet
   case rel => exact ⟨_, (true), zr, H', ⟨zo⟩, ⟨pK Aa.out⟩, ⟨pE HB.out Ac.out⟩⟩
  rw [if_neg c4] at H
  have c4b0 := beq_eq_false_iff_ne.mpr c4
  have c4b1 := bne_iff_ne.mpr c4
  have c4b2 : ¬ (l0 = []) := fun h_ => c4 (by rw [h_]; rfl)
  (first | rw [c4b0] | (simp only [i64_w, i32_w]; rw [c4b0]) | skip)
  obtain ⟨c5, H⟩ := zI H
  have c5b0 := decide_eq_true c5
  have c5b1 : decide (0 < l0.length) = true := decide_eq_true (by omega)
  clear c5
  have H' := Am H
  clear H
  have p445 : 0 ≤ (0 : Int) := (by omega)
  have q445 : 0 < (l0.length : Int) := of_decide_eq_true pS
  obtain ⟨ad445, e445, Ai⟩ := Kd.at_int HR0.out 0 p445 q445
  cases e445
  have qi445 : (0 < l0.length) = True := eq_true (by omega)
  (try rw [tz] at Ai)
  (try rw [Addr.add_zero'] at Ai)
  replace Ai := cU HB.out Ai
  replace p445 := eq_true p445
  replace q445 := eq_true q445
  go_wp2
  go_meet
  case rel => exact ⟨_, (decide ((rd l0 0) > 1)), zr, H', ⟨zo⟩, ⟨pK Aa.out⟩, ⟨pE HB.out Ac.out⟩⟩
 case rest =>
  clear HC2
  try clear p2
  try clear c4
  try clear c4b0
  try clear c4b1
  try clear c4b2
  try clear p4
  try clear q4
  try clear hx4
  try clear qi4
  try clear c5
  try clear c5b0
  try clear c5b1
  try clear Ai
  try clear p445
  try clear q445
  obtain ⟨kq, An, rfl, HA, HJ1, Aa, HB⟩ := hcut
  cases kq with
  | zero => exact absurd HA.out (by simp [garnerref05_Get.j0])
  | succ kj1 =>
   have H := HA.out
   clear HA
   simp only [garnerref05_Get.j0] at H
   by_cases c6 : An = true
   ·subst c6
    rw [if_pos rfl] at H
    simp only [Option.some.injEq, Prod.mk.injEq] at H
    obtain ⟨rfl, rfl, rfl, rfl, rfl, rfl, rfl⟩ := H
    obtain ⟨_, _, _, _, _, _⟩ := bc6 Aa.out
    obtain ⟨_, _, _, _, _, _⟩ := bf6 Aa.out
    go_wp2
    refine bodyPost_ret (results_ct rfl _ _ Ad 50 #[.bool false, .slice none 0 0, .int .i64 0, .int .i64 0, .int .i64 0, .int .u32 0] (0, 0) _ rfl (kX0 Aa.out) Try.underlying50 rfl (by kernel_rfl)) rfl ?_
    exact ⟨_, pX, zn, pE HB.out Ac.out⟩
   replace c6 := Bool.eq_false_iff.mpr c6
   subst c6
   rw [if_neg zF] at H
   obtain ⟨c8, H⟩ := zI H
   have c8b0 := decide_eq_true c8
   have c8b1 : decide (0 < l0.length) = true := decide_eq_true (by omega)
   clear c8
   by_cases c9 : (rd l0 0) = 1
   ·rw [if_pos c9] at H
    have c9b0 := beq_iff_eq.mpr c9
    have c9b1 := bne_eq_false_iff_eq.mpr c9
    clear c9
    obtain ⟨c10, H⟩ := zI H
    have c10b0 := eq_true c10
    have c10b1 := decide_eq_true c10
    clear c10
    replace H := Option.bind_eq_some_iff.mp H
    obtain ⟨⟨t448, t449, t450, t451, t452⟩, A110, H⟩ := H
    dsimp only at H
    have A11 := Am A110
    clear A110
    by_cases c12 : t452 = 0
    rotate_left
    ·rw [if_neg c12] at H
     have c12b0 := beq_eq_false_iff_ne.mpr c12
     have c12b1 := bne_iff_ne.mpr c12
     simp only [Option.some.injEq, Prod.mk.injEq] at H
     obtain ⟨rfl, rfl, rfl, rfl, rfl, rfl, rfl⟩ := H
     have p446 : 0 ≤ (0 : Int) := (by omega)
     have q446 : 0 < (l0.length : Int) := of_decide_eq_true pS
     obtain ⟨Af, e446, Ab⟩ := Kd.at_int HR0.out 0 p446 q446
     cases e446
     have qi446 : (0 < l0.length) = True := eq_true (by omega)
     (try rw [tz] at Ab)
     (try rw [Addr.add_zero'] at Ab)
     replace Ab := cU HB.out Ab
     replace p446 := eq_true p446
     replace q446 := eq_true q446
     obtain ⟨i019, hi019, _, As, _⟩ := info_parts info5
     obtain ⟨A19, hcut19, hA19, A1⟩ := print_drop_of (P := Try.prog) (Value.int .u8) 0 22 5 .i64 Try.underlying22 hi019 As (some Af) c0 l0 1 (by omega) (of_decide_eq_true pS) HC0.out
     have HR447 := Am (Kd.C_of_reads (h1 := fun _ => rfl) (hA19 _ (Kd.reads_of_C HR0.out)))
     have HC447 := Am A1
     clear hA19 A1 hi019 As
     go_wp2_with (first | ((with_reducible refine gate_callee (f := 79) rfl ?_); refine goesL_ (some 25) rfl rfl Try.func79 (by kernel_rfl) rfl #[.slice A19 (l0.drop 1).length (c0 - 1)] rfl (by (try simp only [List.map_toArray, List.map_cons, List.map_nil]); first | done | (rw [show (l0.drop 1).length = (l0.length - 1) from List.length_drop] <;> rfl) | rfl | (simp only [List.length_drop, List.length_take]; rfl)) ?_; (with_reducible refine (garnerref04_Get.calls kj1 _ _ (l0.drop 1) t448 t449 t450 t451 t452 _ ?Ag ?Ah A11.out).mono ?_); (case Ag => exact pC (Kd.C_below HR447.out HB.out)); (case Ah => exact HC447.out); rintro e w20 ⟨rfl, hb⟩; refine ⟨_, rfl, ?_⟩; replace Aa := kBa Aa hb; replace HB := Am (below_step (pE HB.out Ac.out) hb); (try clear hb); (try clear hb2); (try clear hk); (try clear hi)) | ((with_reducible refine gate_dst (N := 4) rfl ?_); (try (refine gate_guard (by rfl) ?_; dsimp only)); refine zE 4 #[.int .i64 0, .int .i64 0, .int .i64 0, .int .u32 0] 48 ?_; intro Ak hg w21 hbox hb; have Al := Am (hbox); have Ao := Am (zG hg (below_size (pE HB.out Ac.out))); replace HB := Am (below_step (pE HB.out Ac.out) hb); have Ap := Ao; have Ae := Am (zN hg (kL Aa.out)); have Aj := Am (zM hg (kL Aa.out)); replace Aa := kBa Aa hb; clear hb hbox hg; have hnb22 := Aj.out; have hnc22 := Ae.out; obtain ⟨_, _, _, _⟩ := bc4 Al.out; obtain ⟨_, _, _, _⟩ := bf4 Al.out; obtain ⟨_, _, _, _, _, _⟩ := bc6 Aa.out; obtain ⟨_, _, _, _, _, _⟩ := bf6 Aa.out))
     refine bodyPost_ret (results_ct rfl _ _ Ad 50 #[.bool true, .slice none 0 0, .int .i64 t448, .int .i64 t449, .int .i64 t450, .int .u32 t451] (0, 0) _ rfl (kX1 Aa.out Ae.out) Try.underlying50 rfl (by kernel_rfl)) rfl ?_
     exact ⟨_, pX, zn, pE2 HB.out Ac.out Ap.out⟩
    rw [if_pos c12] at H
    have c12b0 := beq_iff_eq.mpr c12
    have c12b1 := bne_eq_false_iff_eq.mpr c12
    clear c12
    simp only [Option.some.injEq, Prod.mk.injEq] at H
    obtain ⟨rfl, rfl, rfl, rfl, rfl, rfl, rfl⟩ := H
    have p446 : 0 ≤ (0 : Int) := (by omega)
    have q446 : 0 < (l0.length : Int) := of_decide_eq_true pS
    obtain ⟨Af, e446, Ab⟩ := Kd.at_int HR0.out 0 p446 q446
    cases e446
    have qi446 : (0 < l0.length) = True := eq_true (by omega)
    (try rw [tz] at Ab)
    (try rw [Addr.add_zero'] at Ab)
    replace Ab := cU HB.out Ab
    replace p446 := eq_true p446
    replace q446 := eq_true q446
    obtain ⟨i013, hi013, _, Ar, _⟩ := info_parts info5
    obtain ⟨A13, hcut13, hA13, Az⟩ := print_drop_of (P := Try.prog) (Value.int .u8) 0 22 5 .i64 Try.underlying22 hi013 Ar (some Af) c0 l0 1 (by omega) (of_decide_eq_true pS) HC0.out
    have HR447 := Am (Kd.C_of_reads (h1 := fun _ => rfl) (hA13 _ (Kd.reads_of_C HR0.out)))
    have HC447 := Am Az
    clear hA13 Az hi013 Ar
    go_wp2_with (first | ((with_reducible refine gate_callee (f := 79) rfl ?_); refine goesL_ (some 25) rfl rfl Try.func79 (by kernel_rfl) rfl #[.slice A13 (l0.drop 1).length (c0 - 1)] rfl (by (try simp only [List.map_toArray, List.map_cons, List.map_nil]); first | done | (rw [show (l0.drop 1).length = (l0.length - 1) from List.length_drop] <;> rfl) | rfl | (simp only [List.length_drop, List.length_take]; rfl)) ?_; (with_reducible refine (garnerref04_Get.calls kj1 _ _ (l0.drop 1) t448 t449 t450 t451 t452 _ ?Ag ?Ah A11.out).mono ?_); (case Ag => exact pC (Kd.C_below HR447.out HB.out)); (case Ah => exact HC447.out); rintro e w14 ⟨rfl, hb⟩; refine ⟨_, rfl, ?_⟩; replace Aa := kBa Aa hb; replace HB := Am (below_step (pE HB.out Ac.out) hb); (try clear hb); (try clear hb2); (try clear hk); (try clear hi)) | ((with_reducible refine gate_dst (N := 4) rfl ?_); (try (refine gate_guard (by rfl) ?_; dsimp only)); refine zE 4 #[.int .i64 0, .int .i64 0, .int .i64 0, .int .u32 0] 48 ?_; intro Ak hg w15 hbox hb; have Al := Am (hbox); have Ao := Am (zG hg (below_size (pE HB.out Ac.out))); replace HB := Am (below_step (pE HB.out Ac.out) hb); have Ap := Ao; have Ae := Am (zN hg (kL Aa.out)); have Aj := Am (zM hg (kL Aa.out)); replace Aa := kBa Aa hb; clear hb hbox hg; have hnb16 := Aj.out; have hnc16 := Ae.out; obtain ⟨_, _, _, _⟩ := bc4 Al.out; obtain ⟨_, _, _, _⟩ := bf4 Al.out; obtain ⟨_, _, _, _, _, _⟩ := bc6 Aa.out; obtain ⟨_, _, _, _, _, _⟩ := bf6 Aa.out))
    refine bodyPost_ret (results_ct rfl _ _ Ad 50 #[.bool false, .slice none 0 0, .int .i64 0, .int .i64 0, .int .i64 0, .int .u32 0] (0, 0) _ rfl (kX1 Aa.out Ae.out) Try.underlying50 rfl (by kernel_rfl)) rfl ?_
    exact ⟨_, pX, zn, pE2 HB.out Ac.out Ap.out⟩
   rw [if_neg c9] at H
   have c9b0 := beq_eq_false_iff_ne.mpr c9
   have c9b1 := bne_iff_ne.mpr c9
   obtain ⟨c25, H⟩ := zI H
   have c25b0 := eq_true c25
   have c25b1 := decide_eq_true c25
   clear c25
   replace H := Option.bind_eq_some_iff.mp H
   obtain ⟨⟨t455, t456⟩, A260, H⟩ := H
   dsimp only at H
   have A26 := Am A260
   clear A260
   by_cases c27 : t456 = 0
   ·rw [if_pos c27] at H
    have c27b0 := beq_iff_eq.mpr c27
    have c27b1 := bne_eq_false_iff_eq.mpr c27
    clear c27
    simp only [Option.some.injEq, Prod.mk.injEq] at H
    obtain ⟨rfl, rfl, rfl, rfl, rfl, rfl, rfl⟩ := H
    have p446 : 0 ≤ (0 : Int) := (by omega)
    have q446 : 0 < (l0.length : Int) := of_decide_eq_true pS
    obtain ⟨Af, e446, Ab⟩ := Kd.at_int HR0.out 0 p446 q446
    cases e446
    have qi446 : (0 < l0.length) = True := eq_true (by omega)
    (try rw [tz] at Ab)
    (try rw [Addr.add_zero'] at Ab)
    replace Ab := cU HB.out Ab
    replace p446 := eq_true p446
    replace q446 := eq_true q446
    obtain ⟨i028, hi028, _, At, _⟩ := info_parts info5
    obtain ⟨A28, hcut28, hA28, A2⟩ := print_drop_of (P := Try.prog) (Value.int .u8) 0 22 5 .i64 Try.underlying22 hi028 At (some Af) c0 l0 1 (by omega) (of_decide_eq_true pS) HC0.out
    have HR454 := Am (Kd.C_of_reads (h1 := fun _ => rfl) (hA28 _ (Kd.reads_of_C HR0.out)))
    have HC454 := Am A2
    clear hA28 A2 hi028 At
    go_wp2_with (first | ((with_reducible refine gate_callee (f := 22) rfl ?_); refine goesL_ (some 38) rfl rfl Try.func22 (by kernel_rfl) rfl #[.slice A28 (l0.drop 1).length (c0 - 1)] rfl (by (try simp only [List.map_toArray, List.map_cons, List.map_nil]); first | done | (rw [show (l0.drop 1).length = (l0.length - 1) from List.length_drop] <;> rfl) | rfl | (simp only [List.length_drop, List.length_take]; rfl)) ?_; (with_reducible refine (garnerref02_Get.calls kj1 _ _ (l0.drop 1) t455 t456 _ ?Ag ?Ah A26.out).mono ?_); (case Ag => exact pC (Kd.C_below HR454.out HB.out)); (case Ah => exact HC454.out); rintro e w29 ⟨rfl, hb⟩; refine ⟨_, rfl, ?_⟩; replace Aa := kBa Aa hb; replace HB := Am (below_step (pE HB.out Ac.out) hb); (try clear hb); (try clear hb2); (try clear hk); (try clear hi); obtain ⟨_, _, _, _, _, _⟩ := bc6 Aa.out; obtain ⟨_, _, _, _, _, _⟩ := bf6 Aa.out))
    refine bodyPost_ret (results_ct rfl _ _ Ad 50 #[.bool false, .slice none 0 0, .int .i64 0, .int .i64 0, .int .i64 0, .int .u32 0] (0, 0) _ rfl (kX0 Aa.out) Try.underlying50 rfl (by kernel_rfl)) rfl ?_
    exact ⟨_, pX, zn, pE HB.out Ac.out⟩
   rw [if_neg c27] at H
   have c27b0 := beq_eq_false_iff_ne.mpr c27
   have c27b1 := bne_iff_ne.mpr c27
   by_cases c31 : t455 > 32
   ·rw [if_pos c31] at H
    have c31b0 : decide (32 < t455) = true := decide_eq_true c31
    clear c31
    simp only [Option.some.injEq, Prod.mk.injEq] at H
    obtain ⟨rfl, rfl, rfl, rfl, rfl, rfl, rfl⟩ := H
    have p446 : 0 ≤ (0 : Int) := (by omega)
    have q446 : 0 < (l0.length : Int) := of_decide_eq_true pS
    obtain ⟨Af, e446, Ab⟩ := Kd.at_int HR0.out 0 p446 q446
    cases e446
    have qi446 : (0 < l0.length) = True := eq_true (by omega)
    (try rw [tz] at Ab)
    (try rw [Addr.add_zero'] at Ab)
    replace Ab := cU HB.out Ab
    replace p446 := eq_true p446
    replace q446 := eq_true q446
    obtain ⟨i032, hi032, _, Au, _⟩ := info_parts info5
    obtain ⟨A32, hcut32, hA32, A3⟩ := print_drop_of (P := Try.prog) (Value.int .u8) 0 22 5 .i64 Try.underlying22 hi032 Au (some Af) c0 l0 1 (by omega) (of_decide_eq_true pS) HC0.out
    have HR454 := Am (Kd.C_of_reads (h1 := fun _ => rfl) (hA32 _ (Kd.reads_of_C HR0.out)))
    have HC454 := Am A3
    clear hA32 A3 hi032 Au
    go_wp2_with (first | ((with_reducible refine gate_callee (f := 22) rfl ?_); refine goesL_ (some 38) rfl rfl Try.func22 (by kernel_rfl) rfl #[.slice A32 (l0.drop 1).length (c0 - 1)] rfl (by (try simp only [List.map_toArray, List.map_cons, List.map_nil]); first | done | (rw [show (l0.drop 1).length = (l0.length - 1) from List.length_drop] <;> rfl) | rfl | (simp only [List.length_drop, List.length_take]; rfl)) ?_; (with_reducible refine (garnerref02_Get.calls kj1 _ _ (l0.drop 1) t455 t456 _ ?Ag ?Ah A26.out).mono ?_); (case Ag => exact pC (Kd.C_below HR454.out HB.out)); (case Ah => exact HC454.out); rintro e w33 ⟨rfl, hb⟩; refine ⟨_, rfl, ?_⟩; replace Aa := kBa Aa hb; replace HB := Am (below_step (pE HB.out Ac.out) hb); (try clear hb); (try clear hb2); (try clear hk); (try clear hi); obtain ⟨_, _, _, _, _, _⟩ := bc6 Aa.out; obtain ⟨_, _, _, _, _, _⟩ := bf6 Aa.out))
    refine bodyPost_ret (results_ct rfl _ _ Ad 50 #[.bool false, .slice none 0 0, .int .i64 0, .int .i64 0, .int .i64 0, .int .u32 0] (0, 0) _ rfl (kX0 Aa.out) Try.underlying50 rfl (by kernel_rfl)) rfl ?_
    exact ⟨_, pX, zn, pE HB.out Ac.out⟩
   rw [if_neg c31] at H
   have c31b0 : decide (32 < t455) = false := decide_eq_false c31
   clear c31
   by_cases c35 : (l0.length : Int) < (wrap64 ((wrap64 (1 + t456)) + (wrap64 (t455))))
   ·rw [if_pos c35] at H
    have c35b0 := decide_eq_true c35
    clear c35
    simp only [Option.some.injEq, Prod.mk.injEq] at H
    obtain ⟨rfl, rfl, rfl, rfl, rfl, rfl, rfl⟩ := H
    have p446 : 0 ≤ (0 : Int) := (by omega)
    have q446 : 0 < (l0.length : Int) := of_decide_eq_true pS
    obtain ⟨Af, e446, Ab⟩ := Kd.at_int HR0.out 0 p446 q446
    cases e446
    have qi446 : (0 < l0.length) = True := eq_true (by omega)
    (try rw [tz] at Ab)
    (try rw [Addr.add_zero'] at Ab)
    replace Ab := cU HB.out Ab
    replace p446 := eq_true p446
    replace q446 := eq_true q446
    obtain ⟨i036, hi036, _, Av, _⟩ := info_parts info5
    obtain ⟨A36, hcut36, hA36, A4⟩ := print_drop_of (P := Try.prog) (Value.int .u8) 0 22 5 .i64 Try.underlying22 hi036 Av (some Af) c0 l0 1 (by omega) (of_decide_eq_true pS) HC0.out
    have HR454 := Am (Kd.C_of_reads (h1 := fun _ => rfl) (hA36 _ (Kd.reads_of_C HR0.out)))
    have HC454 := Am A4
    clear hA36 A4 hi036 Av
    go_wp2_with (first | ((with_reducible refine gate_callee (f := 22) rfl ?_); refine goesL_ (some 38) rfl rfl Try.func22 (by kernel_rfl) rfl #[.slice A36 (l0.drop 1).length (c0 - 1)] rfl (by (try simp only [List.map_toArray, List.map_cons, List.map_nil]); first | done | (rw [show (l0.drop 1).length = (l0.length - 1) from List.length_drop] <;> rfl) | rfl | (simp only [List.length_drop, List.length_take]; rfl)) ?_; (with_reducible refine (garnerref02_Get.calls kj1 _ _ (l0.drop 1) t455 t456 _ ?Ag ?Ah A26.out).mono ?_); (case Ag => exact pC (Kd.C_below HR454.out HB.out)); (case Ah => exact HC454.out); rintro e w37 ⟨rfl, hb⟩; refine ⟨_, rfl, ?_⟩; replace Aa := kBa Aa hb; replace HB := Am (below_step (pE HB.out Ac.out) hb); (try clear hb); (try clear hb2); (try clear hk); (try clear hi); obtain ⟨_, _, _, _, _, _⟩ := bc6 Aa.out; obtain ⟨_, _, _, _, _, _⟩ := bf6 Aa.out))
    refine bodyPost_ret (results_ct rfl _ _ Ad 50 #[.bool false, .slice none 0 0, .int .i64 0, .int .i64 0, .int .i64 0, .int .u32 0] (0, 0) _ rfl (kX0 Aa.out) Try.underlying50 rfl (by kernel_rfl)) rfl ?_
    exact ⟨_, pX, zn, pE HB.out Ac.out⟩
   rw [if_neg c35] at H
   have c35b0 := decide_eq_false c35
   clear c35
   obtain ⟨y457, hy457⟩ : ∃ y_ : List Int, y_ = (([] : List Int)) := ⟨_, rfl⟩
   replace H : (if 0 ≤ (wrap64 (1 + t456)) then (if (wrap64 (1 + t456)) ≤ (wrap64 ((wrap64 (1 + t456)) + (wrap64 (t455)))) then (if (wrap64 ((wrap64 (1 + t456)) + (wrap64 (t455)))) ≤ (l0.length : Int) then (if y457.length + ((l0.take ((wrap64 ((wrap64 (1 + t456)) + (wrap64 (t455)))) : Int).toNat).drop ((wrap64 (1 + t456)) : Int).toNat).length < 140737488355328 then (some (false, (y457 ++ ((l0.take ((wrap64 ((wrap64 (1 + t456)) + (wrap64 (t455)))) : Int).toNat).drop ((wrap64 (1 + t456)) : Int).toNat)), 0, 0, 0, 0, wrap64 ((wrap64 (1 + t456)) + (wrap64 (t455))))) else (none)) else (none)) else (none)) else (none)) = some (r1, r2, r3, r4, r5, r6, r7) := by first | (rw [hy457]; with_reducible exact H) | (have H2_ := (Option.bind_some _ _).symm.trans H; rw [hy457]; with_reducible exact H2_) | (have H2_ := (Option.bind_some _ _).symm.trans H; with_reducible exact H2_) | with_reducible exact H | (rw [hy457]; exact H) | exact H
   have Ny457 := Am hy457
   clear hy457
   obtain ⟨ji39, hji39⟩ : ∃ j_ : Int, (wrap64 (1 + t456)) = j_ := ⟨_, rfl⟩
   replace H : (if 0 ≤ (ji39) then (if (ji39) ≤ (wrap64 ((ji39) + (wrap64 (t455)))) then (if (wrap64 ((ji39) + (wrap64 (t455)))) ≤ (l0.length : Int) then (if y457.length + ((l0.take ((wrap64 ((ji39) + (wrap64 (t455)))) : Int).toNat).drop ((ji39) : Int).toNat).length < 140737488355328 then (some (false, (y457 ++ ((l0.take ((wrap64 ((ji39) + (wrap64 (t455)))) : Int).toNat).drop ((ji39) : Int).toNat)), 0, 0, 0, 0, wrap64 ((ji39) + (wrap64 (t455))))) else (none)) else (none)) else (none)) else (none)) = some (r1, r2, r3, r4, r5, r6, r7) := by first | (rw [hji39] at H; exact H) | (simp only [hji39] at H ⊢; exact H)
   (try rw [hji39] at c35b0)
   (try rw [hji39] at A26)
   have hji39w : (IntKind.i64.wrap (1 + t456)) = ji39 := (i64_w _).trans hji39
   obtain ⟨c40, H⟩ := zI H
   have c40b0 := eq_true c40
   have c40b1 := decide_eq_true c40
   clear c40
   obtain ⟨c41, H⟩ := zI H
   have c41b0 := eq_true c41
   have c41b1 := decide_eq_true c41
   obtain ⟨c42, H⟩ := zI H
   have c42b0 := eq_true c42
   have c42b1 := decide_eq_true c42
   obtain ⟨c43, H⟩ := zI H
   have LMc43 := Am c43
   clear c43
   obtain ⟨y461, hy461⟩ : ∃ y_ : List Int, y_ = (y457 ++ ((l0.take ((wrap64 ((ji39) + (wrap64 (t455)))) : Int).toNat).drop ((ji39) : Int).toNat)) := ⟨_, rfl⟩
   replace H : (some (false, y461, 0, 0, 0, 0, wrap64 ((ji39) + (wrap64 (t455))))) = some (r1, r2, r3, r4, r5, r6, r7) := by first | (rw [hy461]; with_reducible exact H) | (have H2_ := (Option.bind_some _ _).symm.trans H; rw [hy461]; with_reducible exact H2_) | (have H2_ := (Option.bind_some _ _).symm.trans H; with_reducible exact H2_) | with_reducible exact H | (rw [hy461]; exact H) | exact H
   have Ny461 := Am hy461
   clear hy461
   simp only [Option.some.injEq, Prod.mk.injEq] at H
   obtain ⟨rfl, rfl, rfl, rfl, rfl, rfl, rfl⟩ := H
   have p446 : 0 ≤ (0 : Int) := (by omega)
   have q446 : 0 < (l0.length : Int) := of_decide_eq_true pS
   obtain ⟨Af, e446, Ab⟩ := Kd.at_int HR0.out 0 p446 q446
   cases e446
   have qi446 : (0 < l0.length) = True := eq_true (by omega)
   (try rw [tz] at Ab)
   (try rw [Addr.add_zero'] at Ab)
   replace Ab := cU HB.out Ab
   replace p446 := eq_true p446
   replace q446 := eq_true q446
   obtain ⟨i044, hi044, _, Aw, _⟩ := info_parts info5
   obtain ⟨A44, hcut44, hA44, A5⟩ := print_drop_of (P := Try.prog) (Value.int .u8) 0 22 5 .i64 Try.underlying22 hi044 Aw (some Af) c0 l0 1 (by omega) (of_decide_eq_true pS) HC0.out
   have HR454 := Am (Kd.C_of_reads (h1 := fun _ => rfl) (hA44 _ (Kd.reads_of_C HR0.out)))
   have HC454 := Am A5
   clear hA44 A5 hi044 Aw
   go_wp2_with (first | ((with_reducible refine gate_callee (f := 22) rfl ?_); refine goesL_ (some 38) rfl rfl Try.func22 (by kernel_rfl) rfl #[.slice A44 (l0.drop 1).length (c0 - 1)] rfl (by (try simp only [List.map_toArray, List.map_cons, List.map_nil]); first | done | (rw [show (l0.drop 1).length = (l0.length - 1) from List.length_drop] <;> rfl) | rfl | (simp only [List.length_drop, List.length_take]; rfl)) ?_; (with_reducible refine (garnerref02_Get.calls kj1 _ _ (l0.drop 1) t455 t456 _ ?Ag ?Ah A26.out).mono ?_); (case Ag => exact pC (Kd.C_below HR454.out HB.out)); (case Ah => exact HC454.out); rintro e w45 ⟨rfl, hb⟩; refine ⟨_, rfl, ?_⟩; replace Aa := kBa Aa hb; replace HB := Am (below_step (pE HB.out Ac.out) hb); (try clear hb); (try clear hb2); (try clear hk); (try clear hi)) | ((with_reducible refine gate_dst (N := 58) rfl ?_); (try (refine gate_guard (by rfl) ?_; dsimp only)); refine Kd.R_lit (Kd.int .u8) _ 5 ?hg (N := 58) ?hd (xs := ([] : List Int)) (inner := []) (ok := fun _ => True) (okp := fun _ => True) ?hr ?hp (fun _ hk => hk) trivial (Below.refl _ _) (Nat.le_refl _) (by simp) ?_; (case hd => rfl); (case hg => rfl); (case hr => first | (go_simp; done) | (go_simp; rfl)); (case hp => exact (Reps.none _ _)); intro v458 w46 ho47 hb hg_ hnew_; clear hg_ hnew_; (first | rw [← Ny457.out] at ho47 | (simp only [Int.reduceToNat] at ho47; rw [← Ny457.out] at ho47)); have Aq := Am (Kd.R_lower ho47 (below_size (pE HB.out Ac.out))); replace Aa := kBa Aa hb; replace HB := Am (below_step (pE HB.out Ac.out) hb); clear hb ho47; obtain ⟨i048, hi048, _, Ax, _⟩ := info_parts info5; obtain ⟨A48, hcut48, hA48, A6⟩ := print_mid_of (P := Try.prog) (Value.int .u8) 0 22 5 .i64 .i64 Try.underlying22 hi048 Ax (some Af) c0 l0 (ji39) (wrap64 ((ji39) + (wrap64 (t455)))) (of_decide_eq_true pS) (by first | omega | exact of_decide_eq_true pS) (of_decide_eq_true pS) HC0.out; have HR460 := Am (Kd.C_of_reads (h1 := fun _ => rfl) (hA48 _ (Kd.reads_of_C HR0.out))); have HC460 := Am A6; clear hA48 A6 hi048 Ax) | ((with_reducible refine gate_builtin (b := .append) (xs := #[.tmp 58, .tmp 67]) rfl ?_); (try (refine gate_guard (by rfl) ?_; dsimp only)); at_builtin; refine Kd.R_append_rows (Kd.int .u8) (w0 := w) w.heap.size rfl (.tmp 58) (.tmp 67) 22 5 (.int .u8 0) 1 rfl Try.underlying22 info5 rfl (by decide) (by omega) v458 y457 ((l0.take ((wrap64 ((ji39) + (wrap64 (t455)))) : Int).toNat).drop ((ji39) : Int).toNat) _ _ _ (fun _ => True) (fun _ => False) rfl rfl ?aO ?aR (fun _ _ h => h) (fun _ h => h.elim) ?aF ?aB ?aS ?aL ?_; (case aR => first | (rw [← show ((l0.take ((wrap64 ((ji39) + (wrap64 (t455)))) : Int).toNat).drop ((ji39) : Int).toNat).length = ((wrap64 ((ji39) + (wrap64 (t455)))).toNat - (ji39).toNat) from (by rw [List.length_drop, List.length_take]; have h_ : ((wrap64 ((ji39) + (wrap64 (t455)))) : Int) ≤ (l0.length : Int) := of_decide_eq_true pS; omega)]; exact pC (Kd.C_below HR460.out HB.out)) | (exact pC (Kd.C_below HR460.out HB.out))); (case aB => exact (pE HB.out Ac.out)); (case aF => exact (fun _ _ => trivial)); (case aO => exact (pR Aq.out)); (case aS => exact (below_size (pE HB.out Ac.out))); (case aL => have := LMc43.out; have hlx_ := (show ((l0.take ((wrap64 ((ji39) + (wrap64 (t455)))) : Int).toNat).drop ((ji39) : Int).toNat).length = ((wrap64 ((ji39) + (wrap64 (t455)))).toNat - (ji39).toNat) from (by rw [List.length_drop, List.length_take]; have h_ : ((wrap64 ((ji39) + (wrap64 (t455)))) : Int) ≤ (l0.length : Int) := of_decide_eq_true pS; omega)); omega); intro v462 w49 ho hb hg hat; rw [← Ny461.out] at ho; replace Aa := Am (blk_grown (g := Ad) (o := .cells #[.bool false, .slice none 0 0, .int .i64 0, .int .i64 0, .int .i64 0, .int .u32 0] 50 (0, 0)) (pK Aa.out) hg (Kd.R_ne Aq.out Aa.out (by decide))); replace HB := Am (hb); have Ay := Am (ho); clear Aq ho hb hg hat; obtain ⟨A8, A9, Ba⟩ := Kd.R_slice Ay.out; subst Ba; obtain ⟨_, _, _, _, _, _⟩ := bc6 Aa.out; obtain ⟨_, _, _, _, _, _⟩ := bf6 Aa.out))
   refine bodyPost_ret (results_ct rfl _ _ Ad 50 #[.bool false, .slice A8 y461.length A9, .int .i64 0, .int .i64 0, .int .i64 0, .int .u32 0] (0, 0) _ rfl (kX0 Aa.out) Try.underlying50 rfl (by kernel_rfl)) rfl ?_
   exact ⟨_, by first | rfl | (simp [errW_none, errW_some] <;> rfl) | (simp only [← hji39]; first | rfl | (simp [errW_none, errW_some] <;> rfl)) | (simp [*, errW_none, errW_some] <;> rfl), by (with_reducible repeat (first | apply Kd.R_alloc | apply Kd.R_drewN | apply Kd.R_drew)); exact Kd.R_mono (Rf6 (g := Ad) (Kd.R_types Ay.out Aa.out (by decide)) (fun _ hk => hk.2)) (fun _ hk => trivial), pE HB.out Ac.out⟩
mutual
def garnerref06_one.j0 : Nat → List Int → Int → Int → Int → Bool → Option (Int × Int × Int × ByteArray × Bool × List Int × Int × Int × Int × Int × Int)
 | 0, _, _, _, _, _ => none
 | k + 1, x0, x1, x6, x7, x26 => if x26 = true then (some (0, 0, 0, (⟨#[]⟩ : ByteArray), false, ([] : List Int), 0, 0, 0, 0, 0)) else (if 0 ≤ x7 then (if x7 < (x0.length : Int) then (if 0 ≤ (wrap64 (x7 + 1)) then (if (wrap64 (x7 + 1)) ≤ (x0.length : Int) then ((garnerref06_number.f k (x0.drop ((wrap64 (x7 + 1)) : Int).toNat) 64).bind fun bt470 => (if bt470.2 = 0 then (garnerref06_one.j1 k x0 bt470.1 (wrap64 ((wrap64 (x7 + 1)) + bt470.2)) true x1 x6 (wrap64 (rd x0 x7)) (⟨#[]⟩ : ByteArray) false 0 0 0 0) else (garnerref06_one.j1 k x0 bt470.1 (wrap64 ((wrap64 (x7 + 1)) + bt470.2)) (decide ((wrap64 ((wrap64 ((wrap64 (x7 + 1)) + bt470.2)) + bt470.1)) > (x0.length : Int))) x1 x6 (wrap64 (rd x0 x7)) (⟨#[]⟩ : ByteArray) false 0 0 0 0))) else (none)) else (none)) else (none)) else (none))
def garnerref06_one.j1 : Nat → List Int → Int → Int → Bool → Int → Int → Int → ByteArray → Bool → Int → Int → Int → Int → Option (Int × Int × Int × ByteArray × Bool × List Int × Int × Int × Int × Int × Int)
 | 0, _, _, _, _, _, _, _, _, _, _, _, _, _ => none
 | k + 1, x0, x9, x11, x57, x469000, x469001, x469002, x469003, x469004, x469006, x469007, x469008, x469009 => if x57 = true then (some (0, 0, 0, (⟨#[]⟩ : ByteArray), false, ([] : List Int), 0, 0, 0, 0, 0)) else (if 0 ≤ x11 then (if x11 ≤ (wrap64 (x11 + x9)) then (if (wrap64 (x11 + x9)) ≤ (x0.length : Int) then (if x469002 = 2 then (some (x469000, x469001, x469002, strOfNums ((x0.take ((wrap64 (x11 + x9)) : Int).toNat).drop (x11 : Int).toNat), x469004, ([] : List Int), x469006, x469007, x469008, x469009, wrap64 (x11 + x9))) else (if 0 ≤ (wrap64 (x11 + x9)) then ((garnerref05_Get.f k (x0.drop ((wrap64 (x11 + x9)) : Int).toNat)).bind fun bt474 => (if bt474.2.2.2.2.2.2 = 0 then (some (0, 0, 0, (⟨#[]⟩ : ByteArray), false, ([] : List Int), 0, 0, 0, 0, 0)) else (some (x469000, x469001, x469002, strOfNums ((x0.take ((wrap64 (x11 + x9)) : Int).toNat).drop (x11 : Int).toNat), bt474.1, bt474.2.1, bt474.2.2.1, bt474.2.2.2.1, bt474.2.2.2.2.1, bt474.2.2.2.2.2.1, wrap64 ((wrap64 (x11 + x9)) + bt474.2.2.2.2.2.2))))) else (none))) else (none)) else (none)) else (none))
end
def garnerref06_one.f (k : Nat) (l0 : List Int) (a1 : Int) : Option (Int × Int × Int × ByteArray × Bool × List Int × Int × Int × Int × Int × Int) := (garnerref06_number.f k l0 2147483647).bind fun bt465 => (if bt465.2 = 0 then (garnerref06_one.j0 k l0 a1 bt465.1 bt465.2 true) else (garnerref06_one.j0 k l0 a1 bt465.1 bt465.2 (bt465.2 == (l0.length : Int))))
theorem garnerref06_one.mono_l : ∀ k, (∀ y0 y1 y2 y3 y4, LeO (garnerref06_one.j0 k y0 y1 y2 y3 y4) (garnerref06_one.j0 (k + 1) y0 y1 y2 y3 y4)) ∧ (∀ y0 y1 y2 y3 y4 y5 y6 y7 y8 y9 y10 y11 y12, LeO (garnerref06_one.j1 k y0 y1 y2 y3 y4 y5 y6 y7 y8 y9 y10 y11 y12) (garnerref06_one.j1 (k + 1) y0 y1 y2 y3 y4 y5 y6 y7 y8 y9 y10 y11 y12))
 | 0 => ⟨fun _ _ _ _ _ r h => by simp [garnerref06_one.j0] at h, fun _ _ _ _ _ _ _ _ _ _ _ _ _ r h => by simp [garnerref06_one.j1] at h⟩
 | k + 1 => by
  obtain ⟨ih0, ih1⟩ := garnerref06_one.mono_l k
  refine ⟨?_, ?_⟩
  ·intro y0 y1 y2 y3 y4
   unfold garnerref06_one.j0
   repeat' (with_reducible first | exact ih0 .. | exact ih1 .. | exact garnerref05_Get.mono .. | exact garnerref06_number.mono .. | exact LeO.refl .. | exact LeO.none .. | refine LeO.ite ?_ ?_ | refine LeO.bind ?_ (fun _ => ?_))
  ·intro y0 y1 y2 y3 y4 y5 y6 y7 y8 y9 y10 y11 y12
   unfold garnerref06_one.j1
   repeat' (with_reducible first | exact ih0 .. | exact ih1 .. | exact garnerref05_Get.mono .. | exact garnerref06_number.mono .. | exact LeO.refl .. | exact LeO.none .. | refine LeO.ite ?_ ?_ | refine LeO.bind ?_ (fun _ => ?_))
theorem garnerref06_one.mono : ∀ a0 a1 k, LeO (garnerref06_one.f k a0 a1) (garnerref06_one.f (k + 1) a0 a1) := by
 intro a0 a1 k
 obtain ⟨ih0, ih1⟩ := garnerref06_one.mono_l k
 unfold garnerref06_one.f
 repeat' (with_reducible first | exact ih0 .. | exact ih1 .. | exact garnerref05_Get.mono .. | exact garnerref06_number.mono .. | exact LeO.refl .. | exact LeO.none .. | refine LeO.ite ?_ ?_ | refine LeO.bind ?_ (fun _ => ?_))
set_option maxHeartbeats 8000000 in
set_option maxRecDepth 100000 in
theorem garnerref06_one.calls (k : Nat) (A0 : Option Addr) (c0 : Nat) (l0 : List Int) (a1 : Int) (r1 : Int) (r2 : Int) (r3 : Int) (r4 : ByteArray) (r5 : Bool) (r6 : List Int) (r7 : Int) (r8 : Int) (r9 : Int) (r10 : Int) (r11 : Int) (w : World) (hr0 : Kd.C (Kd.int .u8) w A0 l0.length l0) (hc0 : l0.length ≤ c0) (h : garnerref06_one.f k l0 a1 = some (r1, r2, r3, r4, r5, r6, r7, r8, r9, r10, r11)) :
 Calls Try.prog 45 #[.slice A0 l0.length c0, .int .i64 a1] w fun e w' => ∃ v5_ : Value, e = .returned (.tuple #[.agg #[.int .i64 r1, .int .i64 r2, .int .i64 r3, .string r4, .bool r5, v5_, .int .i64 r7, .int .i64 r8, .int .i64 r9, .int .u32 r10], .int .i64 r11]) ∧ Kd.R (Kd.int .u8) 5 w' w.heap.size (fun _ => True) v5_ r6 ∧ Below w.heap.size w w' := by
 have hu52 := Try.underlying52
 have hu50 := Try.underlying50
 have HR0 := Am hr0
 have HC0 := Am hc0
 clear hr0 hc0
 have HB := Am (Below.refl w.heap.size w)
 unfold garnerref06_one.f at h
 have H := h
 clear h
 replace H := Option.bind_eq_some_iff.mp H
 obtain ⟨⟨t465, t466⟩, A30, H⟩ := H
 dsimp only at H
 have A3 := Am A30
 clear A30
 have HC4 := Am H
 clear H
 go_enter Try.func45, Try.ntmps45
 go_upto_region 2 with (first | ((with_reducible refine gate_dst (N := 4) rfl ?_); (try (refine gate_guard (by rfl) ?_; dsimp only)); refine zE 4 #[.int .i64 0, .int .i64 0, .int .i64 0, .string (⟨#[]⟩ : ByteArray), .bool false, .slice none 0 0, .int .i64 0, .int .i64 0, .int .i64 0, .int .u32 0] 52 ?_; intro Ae hg w5 hbox hb; have Aa := Am (hbox); have Ci := Am (zG hg (below_size (pB HB.out))); replace HB := Am (below_step (pB HB.out) hb); have Ad := Ci; clear hb hbox hg) | ((with_reducible refine gate_callee (f := 44) rfl ?_); refine goesL_ (some 16) rfl rfl Try.func44 (by kernel_rfl) rfl #[.slice A0 l0.length c0, .int .u64 2147483647] rfl pL ?_; (with_reducible refine (garnerref06_number.calls k _ _ l0 2147483647 t465 t466 _ ?Ap ?Aq A3.out).mono ?_); (case Ap => exact pC (Kd.C_below HR0.out HB.out)); (case Aq => exact HC0.out); rintro e w6 ⟨rfl, hb⟩; refine ⟨_, rfl, ?_⟩; replace Aa := kBa Aa hb; replace HB := Am (below_step (pE HB.out Ad.out) hb); (try clear hb); (try clear hb2); (try clear hk); (try clear hi)))
 (try simp only [Act.put, List.setIfInBounds_toArray, List.set_cons_zero, List.set_cons_succ])
 go_cut [26] (fun v26 wc => ∃ (kq : Nat) (Av : Bool), v26 = .bool Av ∧ Aside0 (garnerref06_one.j0 kq l0 a1 t465 t466 Av = some (r1, r2, r3, r4, r5, r6, r7, r8, r9, r10, r11)) ∧ Aside0 (kq ≤ k) ∧ Aside0 (wc.heap[Ae]? = some (.cells #[.int .i64 0, .int .i64 0, .int .i64 0, .string (⟨#[]⟩ : ByteArray), .bool false, (.slice none 0 0), .int .i64 0, .int .i64 0, .int .i64 0, .int .u32 0] 52 (0, 0))) ∧ Aside0 (Below w.heap.size w wc))
 case first =>
  have H := HC4.out
  clear HC4
  by_cases c7 : t466 = 0
  rotate_left
  ·rw [if_neg c7] at H
   have c7b0 := beq_eq_false_iff_ne.mpr c7
   have c7b1 := bne_iff_ne.mpr c7
   (first | rw [c7b0] | (simp only [i64_w, i32_w]; rw [c7b0]) | skip)
   have H' := Am H
   clear H
   go_wp2
   go_meet
   case rel => exact ⟨_, ((t466 == (l0.length : Int))), zr, H', ⟨zo⟩, ⟨pK Aa.out⟩, ⟨pE HB.out Ad.out⟩⟩
  rw [if_pos c7] at H
  have c7b0 := beq_iff_eq.mpr c7
  have c7b1 := bne_eq_false_iff_eq.mpr c7
  clear c7
  (first | rw [c7b0] | (simp only [i64_w, i32_w]; rw [c7b0]) | skip)
  have H' := Am H
  clear H
  go_wp2
  go_meet
  case rel => exact ⟨_, (true), zr, H', ⟨zo⟩, ⟨pK Aa.out⟩, ⟨pE HB.out Ad.out⟩⟩
 case rest =>
  clear HC4
  try clear p2
  try clear c4
  try clear c7
  try clear c7b0
  try clear c7b1
  obtain ⟨kq, Av, rfl, HA, HJ3, Aa, HB⟩ := hcut
  cases kq with
  | zero => exact absurd HA.out (by simp [garnerref06_one.j0])
  | succ kj3 =>
   have H := HA.out
   clear HA
   simp only [garnerref06_one.j0] at H
   by_cases c8 : Av = true
   ·subst c8
    rw [if_pos rfl] at H
    simp only [Option.some.injEq, Prod.mk.injEq] at H
    obtain ⟨rfl, rfl, rfl, rfl, rfl, rfl, rfl, rfl, rfl, rfl, rfl⟩ := H
    obtain ⟨Bs, Bt, Bu, Bv, Bw, Bx, By, Bz, B0, B1⟩ := bc10 Aa.out
    obtain ⟨B2, B3, B4, B5, B6, B7, B8, B9, Ca, Cb⟩ := bf10 Aa.out
    go_wp2
    refine bodyPost_ret (results_ct rfl _ _ Ae 52 #[.int .i64 0, .int .i64 0, .int .i64 0, .string (⟨#[]⟩ : ByteArray), .bool false, .slice none 0 0, .int .i64 0, .int .i64 0, .int .i64 0, .int .u32 0] (0, 0) _ rfl (kX0 Aa.out) Try.underlying52 rfl (by kernel_rfl)) rfl ?_
    exact ⟨_, pX, zn, pE HB.out Ad.out⟩
   replace c8 := Bool.eq_false_iff.mpr c8
   subst c8
   rw [if_neg zF] at H
   obtain ⟨c10, H⟩ := zI H
   have c10b0 := decide_eq_true c10
   clear c10
   obtain ⟨c11, H⟩ := zI H
   have c11b0 := decide_eq_true c11
   clear c11
   obtain ⟨ji12, hji12⟩ : ∃ j_ : Int, (wrap64 (t466 + 1)) = j_ := ⟨_, rfl⟩
   replace H : (if 0 ≤ (ji12) then (if (ji12) ≤ (l0.length : Int) then ((garnerref06_number.f kj3 (l0.drop ((ji12) : Int).toNat) 64).bind fun bt470 => (if bt470.2 = 0 then (garnerref06_one.j1 kj3 l0 bt470.1 (wrap64 ((ji12) + bt470.2)) true a1 t465 (wrap64 (rd l0 t466)) (⟨#[]⟩ : ByteArray) false 0 0 0 0) else (garnerref06_one.j1 kj3 l0 bt470.1 (wrap64 ((ji12) + bt470.2)) (decide ((wrap64 ((wrap64 ((ji12) + bt470.2)) + bt470.1)) > (l0.length : Int))) a1 t465 (wrap64 (rd l0 t466)) (⟨#[]⟩ : ByteArray) false 0 0 0 0))) else (none)) else (none)) = some (r1, r2, r3, r4, r5, r6, r7, r8, r9, r10, r11) := by first | (rw [hji12] at H; exact H) | (simp only [hji12] at H ⊢; exact H)
   have hji12w : (IntKind.i64.wrap (t466 + 1)) = ji12 := (i64_w _).trans hji12
   obtain ⟨c13, H⟩ := zI H
   have c13b0 := eq_true c13
   have c13b1 := decide_eq_true c13
   clear c13
   obtain ⟨c14, H⟩ := zI H
   have c14b0 := eq_true c14
   have c14b1 := decide_eq_true c14
   clear c14
   replace H := Option.bind_eq_some_iff.mp H
   obtain ⟨⟨t470, t471⟩, A150, H⟩ := H
   dsimp only at H
   have A15 := Am A150
   clear A150
   have HC16 := Am H
   clear H
   have p467 : 0 ≤ (t466 : Int) := of_decide_eq_true pS
   have q467 : t466 < (l0.length : Int) := of_decide_eq_true pS
   obtain ⟨Ar, e467, Au⟩ := Kd.at_int HR0.out t466 p467 q467
   cases e467
   replace Au := cU HB.out Au
   replace p467 := eq_true p467
   replace q467 := eq_true q467
   go_upto_region 7 with (first | ((with_reducible refine gate_dst (N := 8) rfl ?_); (try (refine gate_guard (by rfl) ?_; dsimp only)); refine zE 8 #[.int .i64 0, .int .i64 0, .int .i64 0, .string (⟨#[]⟩ : ByteArray), .bool false, .slice none 0 0, .int .i64 0, .int .i64 0, .int .i64 0, .int .u32 0] 52 ?_; intro Ag hg w17 hbox hb; have Ab := Am (hbox); have Cj := Am (zG hg (below_size (pE HB.out Ad.out))); replace HB := Am (below_step (pE HB.out Ad.out) hb); have Af := Cj; have Ac := Am (zN hg (kL Aa.out)); have Ai := Am (zM hg (kL Aa.out)); replace Aa := kBa Aa hb; clear hb hbox hg; have hnb18 := Ai.out; have hnc18 := Ac.out; obtain ⟨Ay, Az, A1, A2, A4, A5, A6, A7, A8, A9⟩ := bc10 Ab.out; obtain ⟨Ba, Bb, Bc, Bd, Be, Bf, Bg, Bh, Bi, Bj⟩ := bf10 Ab.out; obtain ⟨i020, hi020, _, Bk, _⟩ := info_parts info5; obtain ⟨A20, hcut20, hA20, Cc⟩ := print_drop_of (P := Try.prog) (Value.int .u8) 0 22 5 .i64 Try.underlying22 hi020 Bk (some Ar) c0 l0 (ji12) (of_decide_eq_true pS) (of_decide_eq_true pS) HC0.out; have HR469 := Am (Kd.C_of_reads (h1 := fun _ => rfl) (hA20 _ (Kd.reads_of_C HR0.out))); have HC469 := Am Cc; clear hA20 Cc hi020 Bk) | ((with_reducible refine gate_callee (f := 44) rfl ?_); refine goesL_ (some 41) rfl rfl Try.func44 (by kernel_rfl) rfl #[.slice A20 (l0.drop ((ji12) : Int).toNat).length (c0 - (ji12).toNat), .int .u64 64] rfl (by (try simp only [List.map_toArray, List.map_cons, List.map_nil]); first | done | (rw [show (l0.drop ((ji12) : Int).toNat).length = (l0.length - (ji12).toNat) from List.length_drop] <;> rfl) | (simp only [hji12]; rfl) | rfl | (simp only [List.length_drop, List.length_take]; rfl)) ?_; (with_reducible refine (garnerref06_number.calls kj3 _ _ (l0.drop ((ji12) : Int).toNat) 64 t470 t471 _ ?Ap ?Aq A15.out).mono ?_); (case Ap => exact Kd.C_below HR469.out (pE2 HB.out Ad.out Af.out)); (case Aq => exact HC469.out); rintro e w21 ⟨rfl, hb⟩; refine ⟨_, rfl, ?_⟩; replace Aa := Am (blk_below (g := Ae) (kX1 Aa.out Ac.out) hb); replace Ab := Am (blk_below (g := Ag) (kX0 Ab.out) hb); replace HB := Am (below_step (pE2 HB.out Ad.out Af.out) hb); (try clear hb); (try clear hb2); (try clear hk); (try clear hi)))
   (try simp only [Act.put, List.setIfInBounds_toArray, List.set_cons_zero, List.set_cons_succ])
   go_cut [57] (fun v57 wc => ∃ (kq : Nat) (At : Bool), v57 = .bool At ∧ Aside0 (garnerref06_one.j1 kq l0 t470 (wrap64 ((ji12) + t471)) At a1 t465 (wrap64 (rd l0 t466)) (⟨#[]⟩ : ByteArray) false 0 0 0 0 = some (r1, r2, r3, r4, r5, r6, r7, r8, r9, r10, r11)) ∧ Aside0 (kq ≤ kj3) ∧ Aside0 (wc.heap[Ae]? = some (.cells #[.int .i64 0, .int .i64 0, .int .i64 0, .string (⟨#[]⟩ : ByteArray), .bool false, (.slice none 0 0), .int .i64 0, .int .i64 0, .int .i64 0, .int .u32 0] 52 (0, 0))) ∧ Aside0 (wc.heap[Ag]? = some (.cells #[.int .i64 a1, .int .i64 t465, .int .i64 (wrap64 (rd l0 t466)), .string (⟨#[]⟩ : ByteArray), .bool false, (.slice none 0 0), .int .i64 0, .int .i64 0, .int .i64 0, .int .u32 0] 52 (0, 0))) ∧ Aside0 (Below w.heap.size w wc))
   case first =>
    have H := HC16.out
    clear HC16
    by_cases c22 : t471 = 0
    rotate_left
    ·rw [if_neg c22] at H
     have c22b0 := beq_eq_false_iff_ne.mpr c22
     have c22b1 := bne_iff_ne.mpr c22
     (first | rw [c22b0] | (simp only [i64_w, i32_w]; rw [c22b0]) | skip)
     have H' := Am H
     clear H
     go_wp2
     go_meet
     case rel => exact ⟨_, (decide ((wrap64 ((wrap64 ((ji12) + t471)) + t470)) > (l0.length : Int))), (by first | rfl | (simp; done) | (simp only [← hji12] <;> (first | rfl | simp)) | (simp [*]; done)), H', ⟨by have := HJ3.out; first | omega | exact Nat.le_refl _⟩, ⟨pK Aa.out⟩, ⟨pK Ab.out⟩, ⟨pE2 HB.out Ad.out Af.out⟩⟩
    rw [if_pos c22] at H
    have c22b0 := beq_iff_eq.mpr c22
    have c22b1 := bne_eq_false_iff_eq.mpr c22
    clear c22
    (first | rw [c22b0] | (simp only [i64_w, i32_w]; rw [c22b0]) | skip)
    have H' := Am H
    clear H
    go_wp2
    go_meet
    case rel => exact ⟨_, (true), zr, H', ⟨by have := HJ3.out; first | omega | exact Nat.le_refl _⟩, ⟨pK Aa.out⟩, ⟨pK Ab.out⟩, ⟨pE2 HB.out Ad.out Af.out⟩⟩
   case rest =>
    clear HC16
    try clear c1
    try clear c2
    try clear p2
    try clear c4
    try clear p4
    try clear q4
    try clear hx4
    try clear p6
    try clear c7
    try clear c7b0
    try clear c7b1
    try clear c8
    try clear c10
    try clear c10b0
    try clear c11
    try clear c11b0
    try clear c13
    try clear c13b0
    try clear c13b1
    try clear c14
    try clear c14b0
    try clear c14b1
    try clear c18
    try clear c22
    try clear c22b0
    try clear c22b1
    try clear Ay Az A1 A2 A4 A5 A6 A7 A8 A9
    try clear Bs Bt Bu Bv Bw Bx By Bz B0 B1
    try clear Ba Bb Bc Bd Be Bf Bg Bh Bi Bj
    try clear B2 B3 B4 B5 B6 B7 B8 B9 Ca Cb
    try clear Au
    try clear p2
    try clear p467
    try clear q467
    obtain ⟨kq, At, rfl, HA, HJ15, Aa, Ab, HB⟩ := hcut
    cases kq with
    | zero => exact absurd HA.out (by simp [garnerref06_one.j1])
    | succ kj15 =>
     have H := HA.out
     clear HA
     simp only [garnerref06_one.j1] at H
     by_cases c23 : At = true
     ·subst c23
      rw [if_pos rfl] at H
      simp only [Option.some.injEq, Prod.mk.injEq] at H
      obtain ⟨rfl, rfl, rfl, rfl, rfl, rfl, rfl, rfl, rfl, rfl, rfl⟩ := H
      have hnb24 := Ac.out
      have hnc24 := Ai.out
      obtain ⟨_, _, _, _, _, _, _, _, _, _⟩ := bc10 Aa.out
      obtain ⟨_, _, _, _, _, _, _, _, _, _⟩ := bf10 Aa.out
      go_wp2
      refine bodyPost_ret (results_ct rfl _ _ Ae 52 #[.int .i64 0, .int .i64 0, .int .i64 0, .string (⟨#[]⟩ : ByteArray), .bool false, .slice none 0 0, .int .i64 0, .int .i64 0, .int .i64 0, .int .u32 0] (0, 0) _ rfl (kX0 Aa.out) Try.underlying52 rfl (by kernel_rfl)) rfl ?_
      exact ⟨_, by first | rfl | (simp [errW_none, errW_some] <;> rfl) | (simp only [← hji12]; first | rfl | (simp [errW_none, errW_some] <;> rfl)) | (simp [*, errW_none, errW_some] <;> rfl), zn, pE2 HB.out Ad.out Af.out⟩
     replace c23 := Bool.eq_false_iff.mpr c23
     subst c23
     rw [if_neg zF] at H
     obtain ⟨ji26, hji26⟩ : ∃ j_ : Int, (wrap64 ((ji12) + t471)) = j_ := ⟨_, rfl⟩
     replace H : (if 0 ≤ (ji26) then (if (ji26) ≤ (wrap64 ((ji26) + t470)) then (if (wrap64 ((ji26) + t470)) ≤ (l0.length : Int) then (if (wrap64 (rd l0 t466)) = 2 then (some (a1, t465, (wrap64 (rd l0 t466)), strOfNums ((l0.take ((wrap64 ((ji26) + t470)) : Int).toNat).drop ((ji26) : Int).toNat), false, ([] : List Int), 0, 0, 0, 0, wrap64 ((ji26) + t470))) else (if 0 ≤ (wrap64 ((ji26) + t470)) then ((garnerref05_Get.f kj15 (l0.drop ((wrap64 ((ji26) + t470)) : Int).toNat)).bind fun bt474 => (if bt474.2.2.2.2.2.2 = 0 then (some (0, 0, 0, (⟨#[]⟩ : ByteArray), false, ([] : List Int), 0, 0, 0, 0, 0)) else (some (a1, t465, (wrap64 (rd l0 t466)), strOfNums ((l0.take ((wrap64 ((ji26) + t470)) : Int).toNat).drop ((ji26) : Int).toNat), bt474.1, bt474.2.1, bt474.2.2.1, bt474.2.2.2.1, bt474.2.2.2.2.1, bt474.2.2.2.2.2.1, wrap64 ((wrap64 ((ji26) + t470)) + bt474.2.2.2.2.2.2))))) else (none))) else (none)) else (none)) else (none)) = some (r1, r2, r3, r4, r5, r6, r7, r8, r9, r10, r11) := by first | (rw [hji26] at H; exact H) | (simp only [hji26] at H ⊢; exact H)
     have hji26w : (IntKind.i64.wrap ((ji12) + t471)) = ji26 := (i64_w _).trans hji26
     obtain ⟨c27, H⟩ := zI H
     have c27b0 := eq_true c27
     have c27b1 := decide_eq_true c27
     clear c27
     obtain ⟨c28, H⟩ := zI H
     have c28b0 := eq_true c28
     have c28b1 := decide_eq_true c28
     obtain ⟨c29, H⟩ := zI H
     have c29b0 := eq_true c29
     have c29b1 := decide_eq_true c29
     by_cases c30 : (wrap64 (rd l0 t466)) = 2
     ·rw [if_pos c30] at H
      have c30b0 := beq_iff_eq.mpr c30
      have c30b1 := bne_eq_false_iff_eq.mpr c30
      clear c30
      simp only [Option.some.injEq, Prod.mk.injEq] at H
      obtain ⟨rfl, rfl, rfl, rfl, rfl, rfl, rfl, rfl, rfl, rfl, rfl⟩ := H
      obtain ⟨i031, hi031, _, Bl, _⟩ := info_parts info5
      obtain ⟨A31, hcut31, hA31, Cd⟩ := print_mid_of (P := Try.prog) (Value.int .u8) 0 22 5 .i64 .i64 Try.underlying22 hi031 Bl (some Ar) c0 l0 (ji26) (wrap64 ((ji26) + t470)) (of_decide_eq_true pS) (by first | omega | exact of_decide_eq_true pS) (of_decide_eq_true pS) HC0.out
      have HR472 := Am (Kd.C_of_reads (h1 := fun _ => rfl) (hA31 _ (Kd.reads_of_C HR0.out)))
      have HC472 := Am Cd
      clear hA31 Cd hi031 Bl
      have hcv32 := Kd.C_string (P := Try.prog) (A := A31) (c := (c0 - (ji26).toNat)) Try.underlying22 Try.underlying5 Try.underlying9 (Kd.C_below HR472.out HB.out)
      have hlm_ : ((l0.take ((wrap64 ((ji26) + t470)) : Int).toNat).drop ((ji26) : Int).toNat).length = ((wrap64 ((ji26) + t470)) : Int).toNat - ((ji26) : Int).toNat := by rw [List.length_drop, List.length_take, Nat.min_eq_left (Int.toNat_le.mpr (of_decide_eq_true pS))]
      (try rw [hlm_] at hcv32)
      clear hlm_
      have hnb33 := Ai.out
      have hnc33 := Ac.out
      obtain ⟨_, _, _, _, _, _, _, _, _, _⟩ := bc10 Ab.out
      obtain ⟨_, _, _, _, _, _, _, _, _, _⟩ := bf10 Ab.out
      obtain ⟨_, _, _, _, _, _, _, _, _, _⟩ := bc10 Aa.out
      obtain ⟨_, _, _, _, _, _, _, _, _, _⟩ := bf10 Aa.out
      go_wp2
      refine bodyPost_ret (results_ct rfl _ _ Ae 52 #[.int .i64 a1, .int .i64 t465, .int .i64 (wrap64 (rd l0 t466)), .string (strOfNums ((l0.take ((wrap64 ((ji26) + t470)) : Int).toNat).drop ((ji26) : Int).toNat)), .bool false, .slice none 0 0, .int .i64 0, .int .i64 0, .int .i64 0, .int .u32 0] (0, 0) _ rfl (kX1 Aa.out Ac.out) Try.underlying52 rfl (by kernel_rfl)) rfl ?_
      exact ⟨_, by first | rfl | (simp [errW_none, errW_some] <;> rfl) | (simp only [← hji12, ← hji26]; first | rfl | (simp [errW_none, errW_some] <;> rfl)) | (simp [*, errW_none, errW_some] <;> rfl), zn, pE2 HB.out Ad.out Af.out⟩
     rw [if_neg c30] at H
     have c30b0 := beq_eq_false_iff_ne.mpr c30
     have c30b1 := bne_iff_ne.mpr c30
     obtain ⟨ji36, hji36⟩ : ∃ j_ : Int, (wrap64 ((ji26) + t470)) = j_ := ⟨_, rfl⟩
     replace H : (if 0 ≤ (ji36) then ((garnerref05_Get.f kj15 (l0.drop ((ji36) : Int).toNat)).bind fun bt474 => (if bt474.2.2.2.2.2.2 = 0 then (some (0, 0, 0, (⟨#[]⟩ : ByteArray), false, ([] : List Int), 0, 0, 0, 0, 0)) else (some (a1, t465, (wrap64 (rd l0 t466)), strOfNums ((l0.take ((ji36) : Int).toNat).drop ((ji26) : Int).toNat), bt474.1, bt474.2.1, bt474.2.2.1, bt474.2.2.2.1, bt474.2.2.2.2.1, bt474.2.2.2.2.2.1, wrap64 ((ji36) + bt474.2.2.2.2.2.2))))) else (none)) = some (r1, r2, r3, r4, r5, r6, r7, r8, r9, r10, r11) := by first | (rw [hji36] at H; exact H) | (simp only [hji36] at H ⊢; exact H)
     (try rw [hji36] at c28b0)
     (try rw [hji36] at c28b1)
     (try rw [hji36] at c28)
     (try rw [hji36] at c29b0)
     (try rw [hji36] at c29b1)
     (try rw [hji36] at c29)
     (try rw [hji36] at c30b0)
     (try rw [hji36] at c30b1)
     have hji36w : (IntKind.i64.wrap ((ji26) + t470)) = ji36 := (i64_w _).trans hji36
     obtain ⟨c37, H⟩ := zI H
     have c37b0 := eq_true c37
     have c37b1 := decide_eq_true c37
     clear c37
     have c38b0 := eq_true (of_decide_eq_true pS : (ji36) ≤ (l0.length : Int))
     replace H := Option.bind_eq_some_iff.mp H
     obtain ⟨⟨t474, t475, t478, t479, t480, t481, t482⟩, A390, H⟩ := H
     dsimp only at H
     have A39 := Am A390
     clear A390
     by_cases c40 : t482 = 0
     rotate_left
     ·rw [if_neg c40] at H
      have c40b0 := beq_eq_false_iff_ne.mpr c40
      have c40b1 := bne_iff_ne.mpr c40
      simp only [Option.some.injEq, Prod.mk.injEq] at H
      obtain ⟨rfl, rfl, rfl, rfl, rfl, rfl, rfl, rfl, rfl, rfl, rfl⟩ := H
      obtain ⟨i053, hi053, _, Bo, _⟩ := info_parts info5
      obtain ⟨A53, hcut53, hA53, Cg⟩ := print_mid_of (P := Try.prog) (Value.int .u8) 0 22 5 .i64 .i64 Try.underlying22 hi053 Bo (some Ar) c0 l0 (ji26) (ji36) (of_decide_eq_true pS) (by first | omega | exact of_decide_eq_true pS) (of_decide_eq_true pS) HC0.out
      have HR472 := Am (Kd.C_of_reads (h1 := fun _ => rfl) (hA53 _ (Kd.reads_of_C HR0.out)))
      have HC472 := Am Cg
      clear hA53 Cg hi053 Bo
      have hcv54 := Kd.C_string (P := Try.prog) (A := A53) (c := (c0 - (ji26).toNat)) Try.underlying22 Try.underlying5 Try.underlying9 (Kd.C_below HR472.out HB.out)
      have hlm_ : ((l0.take ((ji36) : Int).toNat).drop ((ji26) : Int).toNat).length = ((ji36) : Int).toNat - ((ji26) : Int).toNat := by rw [List.length_drop, List.length_take, Nat.min_eq_left (Int.toNat_le.mpr (of_decide_eq_true pS))]
      (try rw [hlm_] at hcv54)
      clear hlm_
      have hnb55 := Ai.out
      have hnc55 := Ac.out
      obtain ⟨_, _, _, _, _, _, _, _, _, _⟩ := bc10 Ab.out
      obtain ⟨_, _, _, _, _, _, _, _, _, _⟩ := bf10 Ab.out
      obtain ⟨i057, hi057, _, Bp, _⟩ := info_parts info5
      obtain ⟨A57, hcut57, hA57, Ch⟩ := print_drop_of (P := Try.prog) (Value.int .u8) 0 22 5 .i64 Try.underlying22 hi057 Bp (some Ar) c0 l0 (ji36) (of_decide_eq_true pS) (of_decide_eq_true pS) HC0.out
      have HR473 := Am (Kd.C_of_reads (h1 := fun _ => rfl) (hA57 _ (Kd.reads_of_C HR0.out)))
      have HC473 := Am Ch
      clear hA57 Ch hi057 Bp
      go_wp2_with (first | ((with_reducible refine gate_callee (f := 67) rfl ?_); refine goesL_ (some 79) rfl rfl Try.func67 (by kernel_rfl) rfl #[.slice A57 (l0.drop ((ji36) : Int).toNat).length (c0 - (ji36).toNat)] rfl (by (try simp only [List.map_toArray, List.map_cons, List.map_nil]); first | done | (rw [show (l0.drop ((ji36) : Int).toNat).length = (l0.length - (ji36).toNat) from List.length_drop] <;> rfl) | (simp only [hji36]; rfl) | rfl | (simp only [List.length_drop, List.length_take]; rfl)) ?_; (with_reducible refine (garnerref05_Get.calls kj15 _ _ (l0.drop ((ji36) : Int).toNat) t474 t475 t478 t479 t480 t481 t482 _ ?Ap ?Aq A39.out).mono ?_); (case Ap => exact Kd.C_below HR473.out (pE2 HB.out Ad.out Af.out)); (case Aq => exact HC473.out); rintro e w58 ⟨v476, rfl, ho0, hb⟩; refine ⟨_, rfl, ?_⟩; have Ao := Am (Kd.R_lower ho0 (below_size (pE2 HB.out Ad.out Af.out))); replace Aa := Am (blk_below (g := Ae) (kX1 Aa.out Ac.out) hb); replace Ab := Am (blk_below (g := Ag) (o := .cells #[.int .i64 a1, .int .i64 t465, .int .i64 (wrap64 (rd l0 t466)), .string (strOfNums ((l0.take ((ji36) : Int).toNat).drop ((ji26) : Int).toNat)), .bool false, .slice none 0 0, .int .i64 0, .int .i64 0, .int .i64 0, .int .u32 0] 52 (0, 0)) (by (with_reducible repeat (first | refine blk_drewN ?_ _ | refine blk_drew ?_ | refine blk_alloc ?_ _)); refine blk_put (cs := #[.int .i64 a1, .int .i64 t465, .int .i64 (wrap64 (rd l0 t466)), .string (⟨#[]⟩ : ByteArray), .bool false, .slice none 0 0, .int .i64 0, .int .i64 0, .int .i64 0, .int .u32 0]) ?_ 3 _ rfl; (with_reducible repeat (first | refine blk_drewN ?_ _ | refine blk_drew ?_ | refine blk_alloc ?_ _)); exact Ab.out) hb); replace HB := Am (below_step (pE2 HB.out Ad.out Af.out) hb); (try clear hb); (try clear hb2); (try clear hk); (try clear hi); (try clear ho0)) | ((with_reducible refine gate_dst (N := 12) rfl ?_); (try (refine gate_guard (by rfl) ?_; dsimp only)); refine zE 12 #[.bool false, .slice none 0 0, .int .i64 0, .int .i64 0, .int .i64 0, .int .u32 0] 50 ?_; intro Ah hg w59 hbox hb; replace Ao := bRa Ao hb; have As := Am (hbox); have Aw := Am (zG hg (below_size (pE2 HB.out Ad.out Af.out))); replace HB := Am (below_step (pE2 HB.out Ad.out Af.out) hb); have Ax := Aw; have Aj := Am (zN hg (kL Aa.out)); have Ak := Am (zM hg (kL Aa.out)); replace Aa := kBa Aa hb; have Al := Am (zN hg (kL Ab.out)); have An := Am (zM hg (kL Ab.out)); replace Ab := kBa Ab hb; clear hb hbox hg; have hnb60 := Ak.out; have hnc60 := Aj.out; have hnb61 := An.out; have hnc61 := Al.out; obtain ⟨_, _, _, _, _, _⟩ := bc6 As.out; obtain ⟨_, _, _, _, _, _⟩ := bf6 As.out; obtain ⟨Bq, Br, Cl⟩ := Kd.R_slice Ao.out; subst Cl; obtain ⟨_, _, _, _, _, _, _, _, _, _⟩ := bc10 Ab.out; obtain ⟨_, _, _, _, _, _, _, _, _, _⟩ := bf10 Ab.out; obtain ⟨_, _, _, _, _, _, _, _, _, _⟩ := bc10 Aa.out; obtain ⟨_, _, _, _, _, _, _, _, _, _⟩ := bf10 Aa.out))
      refine bodyPost_ret (results_ct rfl _ _ Ae 52 #[.int .i64 a1, .int .i64 t465, .int .i64 (wrap64 (rd l0 t466)), .string (strOfNums ((l0.take ((ji36) : Int).toNat).drop ((ji26) : Int).toNat)), .bool t474, .slice Bq t475.length Br, .int .i64 t478, .int .i64 t479, .int .i64 t480, .int .u32 t481] (0, 0) _ rfl (kX2 Aa.out Ac.out Aj.out) Try.underlying52 rfl (by kernel_rfl)) rfl ?_
      exact ⟨_, by first | rfl | (simp [errW_none, errW_some] <;> rfl) | (simp only [← hji12, ← hji26, ← hji36]; first | rfl | (simp [errW_none, errW_some] <;> rfl)) | (simp [*, errW_none, errW_some] <;> rfl), by (with_reducible repeat (first | apply Kd.R_alloc | apply Kd.R_drewN | apply Kd.R_drew)); have h0_ := Kd.R_types (Kd.R_types (Kd.R_types Ao.out As.out (by decide)) Ab.out (by decide)) Aa.out (by decide); have h1_ := Kd.R_far (p := ⟨Ah, 0, none⟩) h0_ (fun _ hk => hk.1.1.2) (.bool t474); have h2_ := Kd.R_far (p := ⟨Ah, 1, none⟩) h1_ (fun _ hk => hk.1.1.2) (.slice Bq t475.length Br); have h3_ := Kd.R_far (p := ⟨Ah, 2, none⟩) h2_ (fun _ hk => hk.1.1.2) (.int .i64 t478); have h4_ := Kd.R_far (p := ⟨Ah, 3, none⟩) h3_ (fun _ hk => hk.1.1.2) (.int .i64 t479); have h5_ := Kd.R_far (p := ⟨Ah, 4, none⟩) h4_ (fun _ hk => hk.1.1.2) (.int .i64 t480); have h6_ := Kd.R_far (p := ⟨Ah, 5, none⟩) h5_ (fun _ hk => hk.1.1.2) (.int .u32 t481); have h7_ := Kd.R_far (p := ⟨Ag, 4, none⟩) h6_ (fun _ hk => hk.1.2) (.bool t474); have h8_ := Kd.R_far (p := ⟨Ag, 5, none⟩) h7_ (fun _ hk => hk.1.2) (.slice Bq t475.length Br); have h9_ := Kd.R_far (p := ⟨Ag, 6, none⟩) h8_ (fun _ hk => hk.1.2) (.int .i64 t478); have h10_ := Kd.R_far (p := ⟨Ag, 7, none⟩) h9_ (fun _ hk => hk.1.2) (.int .i64 t479); have h11_ := Kd.R_far (p := ⟨Ag, 8, none⟩) h10_ (fun _ hk => hk.1.2) (.int .i64 t480); have h12_ := Kd.R_far (p := ⟨Ag, 9, none⟩) h11_ (fun _ hk => hk.1.2) (.int .u32 t481); exact Kd.R_mono (Rf10 (g := Ae) (h12_) (fun _ hk => hk.2)) (fun _ hk => trivial), pE3 HB.out Ad.out Af.out Ax.out⟩
     rw [if_pos c40] at H
     have c40b0 := beq_iff_eq.mpr c40
     have c40b1 := bne_eq_false_iff_eq.mpr c40
     clear c40
     simp only [Option.some.injEq, Prod.mk.injEq] at H
     obtain ⟨rfl, rfl, rfl, rfl, rfl, rfl, rfl, rfl, rfl, rfl, rfl⟩ := H
     obtain ⟨i041, hi041, _, Bm, _⟩ := info_parts info5
     obtain ⟨A41, hcut41, hA41, Ce⟩ := print_mid_of (P := Try.prog) (Value.int .u8) 0 22 5 .i64 .i64 Try.underlying22 hi041 Bm (some Ar) c0 l0 (ji26) (ji36) (of_decide_eq_true pS) (by first | omega | exact of_decide_eq_true pS) (of_decide_eq_true pS) HC0.out
     have HR472 := Am (Kd.C_of_reads (h1 := fun _ => rfl) (hA41 _ (Kd.reads_of_C HR0.out)))
     have HC472 := Am Ce
     clear hA41 Ce hi041 Bm
     have hcv42 := Kd.C_string (P := Try.prog) (A := A41) (c := (c0 - (ji26).toNat)) Try.underlying22 Try.underlying5 Try.underlying9 (Kd.C_below HR472.out HB.out)
     have hlm_ : ((l0.take ((ji36) : Int).toNat).drop ((ji26) : Int).toNat).length = ((ji36) : Int).toNat - ((ji26) : Int).toNat := by rw [List.length_drop, List.length_take, Nat.min_eq_left (Int.toNat_le.mpr (of_decide_eq_true pS))]
     (try rw [hlm_] at hcv42)
     clear hlm_
     have hnb43 := Ai.out
     have hnc43 := Ac.out
     obtain ⟨_, _, _, _, _, _, _, _, _, _⟩ := bc10 Ab.out
     obtain ⟨_, _, _, _, _, _, _, _, _, _⟩ := bf10 Ab.out
     obtain ⟨i045, hi045, _, Bn, _⟩ := info_parts info5
     obtain ⟨A45, hcut45, hA45, Cf⟩ := print_drop_of (P := Try.prog) (Value.int .u8) 0 22 5 .i64 Try.underlying22 hi045 Bn (some Ar) c0 l0 (ji36) (of_decide_eq_true pS) (of_decide_eq_true pS) HC0.out
     have HR473 := Am (Kd.C_of_reads (h1 := fun _ => rfl) (hA45 _ (Kd.reads_of_C HR0.out)))
     have HC473 := Am Cf
     clear hA45 Cf hi045 Bn
     go_wp2_with (first | ((with_reducible refine gate_callee (f := 67) rfl ?_); refine goesL_ (some 79) rfl rfl Try.func67 (by kernel_rfl) rfl #[.slice A45 (l0.drop ((ji36) : Int).toNat).length (c0 - (ji36).toNat)] rfl (by (try simp only [List.map_toArray, List.map_cons, List.map_nil]); first | done | (rw [show (l0.drop ((ji36) : Int).toNat).length = (l0.length - (ji36).toNat) from List.length_drop] <;> rfl) | (simp only [hji36]; rfl) | rfl | (simp only [List.length_drop, List.length_take]; rfl)) ?_; (with_reducible refine (garnerref05_Get.calls kj15 _ _ (l0.drop ((ji36) : Int).toNat) t474 t475 t478 t479 t480 t481 t482 _ ?Ap ?Aq A39.out).mono ?_); (case Ap => exact Kd.C_below HR473.out (pE2 HB.out Ad.out Af.out)); (case Aq => exact HC473.out); rintro e w46 ⟨v476, rfl, ho0, hb⟩; refine ⟨_, rfl, ?_⟩; have Ao := Am (Kd.R_lower ho0 (below_size (pE2 HB.out Ad.out Af.out))); replace Aa := Am (blk_below (g := Ae) (kX1 Aa.out Ac.out) hb); replace Ab := Am (blk_below (g := Ag) (o := .cells #[.int .i64 a1, .int .i64 t465, .int .i64 (wrap64 (rd l0 t466)), .string (strOfNums ((l0.take ((ji36) : Int).toNat).drop ((ji26) : Int).toNat)), .bool false, .slice none 0 0, .int .i64 0, .int .i64 0, .int .i64 0, .int .u32 0] 52 (0, 0)) (by (with_reducible repeat (first | refine blk_drewN ?_ _ | refine blk_drew ?_ | refine blk_alloc ?_ _)); refine blk_put (cs := #[.int .i64 a1, .int .i64 t465, .int .i64 (wrap64 (rd l0 t466)), .string (⟨#[]⟩ : ByteArray), .bool false, .slice none 0 0, .int .i64 0, .int .i64 0, .int .i64 0, .int .u32 0]) ?_ 3 _ rfl; (with_reducible repeat (first | refine blk_drewN ?_ _ | refine blk_drew ?_ | refine blk_alloc ?_ _)); exact Ab.out) hb); replace HB := Am (below_step (pE2 HB.out Ad.out Af.out) hb); (try clear hb); (try clear hb2); (try clear hk); (try clear hi); (try clear ho0)) | ((with_reducible refine gate_dst (N := 12) rfl ?_); (try (refine gate_guard (by rfl) ?_; dsimp only)); refine zE 12 #[.bool false, .slice none 0 0, .int .i64 0, .int .i64 0, .int .i64 0, .int .u32 0] 50 ?_; intro Ah hg w47 hbox hb; replace Ao := bRa Ao hb; have As := Am (hbox); have Aw := Am (zG hg (below_size (pE2 HB.out Ad.out Af.out))); replace HB := Am (below_step (pE2 HB.out Ad.out Af.out) hb); have Ax := Aw; have Aj := Am (zN hg (kL Aa.out)); have Ak := Am (zM hg (kL Aa.out)); replace Aa := kBa Aa hb; have Al := Am (zN hg (kL Ab.out)); have An := Am (zM hg (kL Ab.out)); replace Ab := kBa Ab hb; clear hb hbox hg; have hnb48 := Ak.out; have hnc48 := Aj.out; have hnb49 := An.out; have hnc49 := Al.out; obtain ⟨_, _, _, _, _, _⟩ := bc6 As.out; obtain ⟨_, _, _, _, _, _⟩ := bf6 As.out; obtain ⟨Ao51, co51, Ck⟩ := Kd.R_slice Ao.out; subst Ck; obtain ⟨_, _, _, _, _, _, _, _, _, _⟩ := bc10 Aa.out; obtain ⟨_, _, _, _, _, _, _, _, _, _⟩ := bf10 Aa.out))
     refine bodyPost_ret (results_ct rfl _ _ Ae 52 #[.int .i64 0, .int .i64 0, .int .i64 0, .string (⟨#[]⟩ : ByteArray), .bool false, .slice none 0 0, .int .i64 0, .int .i64 0, .int .i64 0, .int .u32 0] (0, 0) _ rfl (kX1 Aa.out Aj.out) Try.underlying52 rfl (by kernel_rfl)) rfl ?_
     exact ⟨_, by first | rfl | (simp [errW_none, errW_some] <;> rfl) | (simp only [← hji12, ← hji26, ← hji36]; first | rfl | (simp [errW_none, errW_some] <;> rfl)) | (simp [*, errW_none, errW_some] <;> rfl), zn, pE3 HB.out Ad.out Af.out Ax.out⟩
end Go.Proofs.Ytdanmjfkocjgjaa.PWalGets
