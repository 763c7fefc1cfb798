/- What the law reaches, as plain Lean functions, and that the machine's calls answer just that. -/
import Derived.Test.YtdanmjfkocjgjaaPWalGetsx0
import Derived.Test.YtdanmjfkocjgjaaPWalGetsx9
import Derived.Test.YtdanmjfkocjgjaaPWalGetsx10
namespace Go.Proofs.Ytdanmjfkocjgjaa.PWalGets
open Go.RowKit Go.Proofs.YtdanmjfkocjgjaaW.PrintWords Go.Proofs.YtdanmjfkocjgjaaW.PrintLast Go.Proofs.YtdanmjfkocjgjaaW.PrintMore
attribute [local go_sem] max2_int min2_int max_two min_two max_three min_three max_four min_four
set_option linter.unusedVariables false
set_option linter.unusedSimpArgs false
attribute [local go_sem] wrap64_l1 wrap64_l2 wrap64_l3 wrap64_l4 wrap64_l5
def cell_Get.j0 : Nat → List Int → Bool → Option (Bool × List Int × Int × Int × Int × Int × Int × Int)
 | 0, _, _ => none
 | k + 1, x0, x20 => if x20 = true then (some (false, ([] : List Int), 0, 0, 0, 0, 0, 2)) else (if 0 < (x0.length : Int) then (if (rd x0 0) = 1 then (if 1 ≤ (x0.length : Int) then ((point_Get.f k (x0.drop 1)).bind fun bt332 => (if bt332.2.2.2.2.2 = 0 then (some (true, ([] : List Int), bt332.1, bt332.2.1, bt332.2.2.1, bt332.2.2.2.1, wrap64 (bt332.2.2.2.2.1 + 1), 0)) else (some (false, ([] : List Int), 0, 0, 0, 0, 0, bt332.2.2.2.2.2)))) else (none)) else (if 1 ≤ (x0.length : Int) then ((varint_Get.f k (x0.drop 1)).bind fun bt340 => (if bt340.2.2 = 0 then (if bt340.1 > 32 then (some (false, ([] : List Int), 0, 0, 0, 0, 0, 2)) else (if (wrap64 ((wrap64 ((x0.length : Int) - 1)) - bt340.2.1)) < (wrap64 (bt340.1)) then (some (false, ([] : List Int), 0, 0, 0, 0, 0, 2)) else (if 0 ≤ (wrap64 (1 + bt340.2.1)) then (if (wrap64 (1 + bt340.2.1)) ≤ (wrap64 ((wrap64 (1 + bt340.2.1)) + (wrap64 (bt340.1)))) then (if (wrap64 ((wrap64 (1 + bt340.2.1)) + (wrap64 (bt340.1)))) ≤ (x0.length : Int) then ((bytes_Clone.f ((x0.take ((wrap64 ((wrap64 (1 + bt340.2.1)) + (wrap64 (bt340.1)))) : Int).toNat).drop ((wrap64 (1 + bt340.2.1)) : Int).toNat)).bind fun t344 => (some (false, t344, 0, 0, 0, 0, wrap64 ((wrap64 (1 + bt340.2.1)) + (wrap64 (bt340.1))), 0))) else (none)) else (none)) else (none)))) else (some (false, ([] : List Int), 0, 0, 0, 0, 0, 2)))) else (none))) else (none))
def cell_Get.f (k : Nat) (l0 : List Int) : Option (Bool × List Int × Int × Int × Int × Int × Int × Int) := if (l0.length : Int) = 0 then (cell_Get.j0 k l0 true) else (if 0 < (l0.length : Int) then (cell_Get.j0 k l0 (decide ((rd l0 0) > 1))) else (none))
theorem cell_Get.mono_l : ∀ k, (∀ y0 y1, LeO (cell_Get.j0 k y0 y1) (cell_Get.j0 (k + 1) y0 y1))
 | 0 => fun _ _ r h => by simp [cell_Get.j0] at h
 | k + 1 => by
  have ih0 := cell_Get.mono_l k
  ·intro y0 y1
   unfold cell_Get.j0
   repeat' (with_reducible first | exact ih0 .. | exact point_Get.mono .. | exact varint_Get.mono .. | exact LeO.refl .. | exact LeO.none .. | refine LeO.ite ?_ ?_ | refine LeO.bind ?_ (fun _ => ?_))
theorem cell_Get.mono : ∀ a0 k, LeO (cell_Get.f k a0) (cell_Get.f (k + 1) a0) := by
 intro a0 k
 have ih0 := cell_Get.mono_l k
 unfold cell_Get.f
 repeat' (with_reducible first | exact ih0 .. | exact point_Get.mono .. | exact varint_Get.mono .. | exact LeO.refl .. | exact LeO.none .. | refine LeO.ite ?_ ?_ | refine LeO.bind ?_ (fun _ => ?_))
set_option maxHeartbeats 8000000 in
set_option maxRecDepth 100000 in
theorem cell_Get.calls (k : Nat) (A0 : Option Addr) (c0 : Nat) (l0 : List Int) (r1 : Bool) (r2 : List Int) (r3 : Int) (r4 : Int) (r5 : Int) (r6 : Int) (r7 : Int) (r8 : Int) (w : World) (hr0 : Kd.C (Kd.int .u8) w A0 l0.length l0) (hc0 : l0.length ≤ c0) (h : cell_Get.f k l0 = some (r1, r2, r3, r4, r5, r6, r7, r8)) :
 Calls Try.prog 78 #[.slice A0 l0.length c0] w fun e w' => ∃ v1_ : Value, e = .returned (.tuple #[.agg #[.bool r1, v1_, .int .i64 r3, .int .i64 r4, .int .i64 r5, .int .u32 r6], .int .i64 r7, .int .i64 r8]) ∧ Kd.R (Kd.int .u8) 5 w' w.heap.size (fun _ => True) v1_ r2 ∧ Below w.heap.size w w' := by
 have hu50 := Try.underlying50
 have hu48 := Try.underlying48
 have HR0 := Am hr0
 have HC0 := Am hc0
 clear hr0 hc0
 have HB := Am (Below.refl w.heap.size w)
 unfold cell_Get.f at h
 have H := h
 clear h
 have HC2 := Am H
 clear H
 go_enter Try.func78, Try.ntmps78
 go_upto_region 1 with (first | ((with_reducible refine gate_dst (N := 2) rfl ?_); (try (refine gate_guard (by rfl) ?_; dsimp only)); refine zE 2 #[.bool false, .slice none 0 0, .int .i64 0, .int .i64 0, .int .i64 0, .int .u32 0] 50 ?_; intro Ad hg w3 hbox hb; have Ab := Am (hbox); have A6 := Am (zG hg (below_size (pB HB.out))); replace HB := Am (below_step (pB HB.out) hb); have Ac := A6; clear hb hbox hg))
 (try simp only [Act.put, List.setIfInBounds_toArray, List.set_cons_zero, List.set_cons_succ])
 go_cut [20] (fun v20 wc => ∃ (kq : Nat) (An : Bool), v20 = .bool An ∧ Aside0 (cell_Get.j0 kq l0 An = some (r1, r2, r3, r4, r5, r6, r7, r8)) ∧ Aside0 (kq ≤ k) ∧ Aside0 (wc.heap[Ad]? = some (.cells #[.bool false, (.slice none 0 0), .int .i64 0, .int .i64 0, .int .i64 0, .int .u32 0] 50 (0, 0))) ∧ Aside0 (Below w.heap.size w wc))
 case first =>
  have H := HC2.out
  clear HC2
  by_cases c4 : (l0.length : Int) = 0
  ·rw [if_pos c4] at H
   have c4b0 := beq_iff_eq.mpr c4
   have c4b1 := bne_eq_false_iff_eq.mpr c4
   clear c4
   (first | rw [c4b0] | (simp only [i64_w, i32_w]; rw [c4b0]) | skip)
   have H' := Am H
   clear H
   go_wp2
   go_meet
   case rel => exact ⟨_, (true), zr, H', ⟨zo⟩, ⟨pK Ab.out⟩, ⟨pE HB.out Ac.out⟩⟩
  rw [if_neg c4] at H
  have c4b0 := beq_eq_false_iff_ne.mpr c4
  have c4b1 := bne_iff_ne.mpr c4
  have c4b2 : ¬ (l0 = []) := fun h_ => c4 (by rw [h_]; rfl)
  (first | rw [c4b0] | (simp only [i64_w, i32_w]; rw [c4b0]) | skip)
  obtain ⟨c5, H⟩ := zI H
  have c5b0 := decide_eq_true c5
  have c5b1 : decide (0 < l0.length) = true := decide_eq_true (by omega)
  clear c5
  have H' := Am H
  clear H
  have p329 : 0 ≤ (0 : Int) := (by omega)
  have q329 : 0 < (l0.length : Int) := of_decide_eq_true pS
  obtain ⟨ad329, e329, Ai⟩ := Kd.at_int HR0.out 0 p329 q329
  cases e329
  have qi329 : (0 < l0.length) = True := eq_true (by omega)
  (try rw [tz] at Ai)
  (try rw [Addr.add_zero'] at Ai)
  replace Ai := cU HB.out Ai
  replace p329 := eq_true p329
  replace q329 := eq_true q329
  go_wp2
  go_meet
  case rel => exact ⟨_, (decide ((rd l0 0) > 1)), zr, H', ⟨zo⟩, ⟨pK Ab.out⟩, ⟨pE HB.out Ac.out⟩⟩
 case rest =>
  clear HC2
  try clear p2
  try clear p3
  try clear q3
  try clear hx3
  try clear qi3
  try clear c4
  try clear c4b0
  try clear c4b1
  try clear c4b2
  try clear c5
  try clear c5b0
  try clear c5b1
  try clear Ai
  try clear p329
  try clear q329
  obtain ⟨kq, An, rfl, HA, HJ1, Ab, HB⟩ := hcut
  cases kq with
  | zero => exact absurd HA.out (by simp [cell_Get.j0])
  | succ kj1 =>
   have H := HA.out
   clear HA
   simp only [cell_Get.j0] at H
   by_cases c6 : An = true
   ·subst c6
    rw [if_pos rfl] at H
    simp only [Option.some.injEq, Prod.mk.injEq] at H
    obtain ⟨rfl, rfl, rfl, rfl, rfl, rfl, rfl, rfl⟩ := H
    obtain ⟨_, _, _, _, _, _⟩ := bc6 Ab.out
    obtain ⟨_, _, _, _, _, _⟩ := bf6 Ab.out
    go_wp2
    refine bodyPost_ret (results_ctt rfl _ _ Ad 50 #[.bool false, .slice none 0 0, .int .i64 0, .int .i64 0, .int .i64 0, .int .u32 0] (0, 0) _ rfl (kX0 Ab.out) Try.underlying50 rfl (by kernel_rfl)) rfl ?_
    exact ⟨_, pX, zn, pE HB.out Ac.out⟩
   replace c6 := Bool.eq_false_iff.mpr c6
   subst c6
   rw [if_neg zF] at H
   obtain ⟨c8, H⟩ := zI H
   have c8b0 := decide_eq_true c8
   have c8b1 : decide (0 < l0.length) = true := decide_eq_true (by omega)
   clear c8
   by_cases c9 : (rd l0 0) = 1
   ·rw [if_pos c9] at H
    have c9b0 := beq_iff_eq.mpr c9
    have c9b1 := bne_eq_false_iff_eq.mpr c9
    clear c9
    obtain ⟨c10, H⟩ := zI H
    have c10b0 := eq_true c10
    have c10b1 := decide_eq_true c10
    clear c10
    replace H := Option.bind_eq_some_iff.mp H
    obtain ⟨⟨t332, t333, t334, t335, t336, t337⟩, A110, H⟩ := H
    dsimp only at H
    have A11 := Am A110
    clear A110
    by_cases c12 : t337 = 0
    rotate_left
    ·rw [if_neg c12] at H
     have c12b0 := beq_eq_false_iff_ne.mpr c12
     have c12b1 := bne_iff_ne.mpr c12
     simp only [Option.some.injEq, Prod.mk.injEq] at H
     obtain ⟨rfl, rfl, rfl, rfl, rfl, rfl, rfl, rfl⟩ := H
     have p330 : 0 ≤ (0 : Int) := (by omega)
     have q330 : 0 < (l0.length : Int) := of_decide_eq_true pS
     obtain ⟨Ah, e330, Aa⟩ := Kd.at_int HR0.out 0 p330 q330
     cases e330
     have qi330 : (0 < l0.length) = True := eq_true (by omega)
     (try rw [tz] at Aa)
     (try rw [Addr.add_zero'] at Aa)
     replace Aa := cU HB.out Aa
     replace p330 := eq_true p330
     replace q330 := eq_true q330
     obtain ⟨i019, hi019, _, Ar, _⟩ := info_parts info5
     obtain ⟨A19, hcut19, hA19, Az⟩ := print_drop_of (P := Try.prog) (Value.int .u8) 0 22 5 .i64 Try.underlying22 hi019 Ar (some Ah) c0 l0 1 (by omega) (of_decide_eq_true pS) HC0.out
     have HR331 := Am (Kd.C_of_reads (h1 := fun _ => rfl) (hA19 _ (Kd.reads_of_C HR0.out)))
     have HC331 := Am Az
     clear hA19 Az hi019 Ar
     go_wp2_with (first | ((with_reducible refine gate_callee (f := 84) rfl ?_); refine goesL_ (some 29) rfl rfl Try.func84 (by kernel_rfl) rfl #[.slice A19 (l0.drop 1).length (c0 - 1)] rfl (by (try simp only [List.map_toArray, List.map_cons, List.map_nil]); first | done | (rw [show (l0.drop 1).length = (l0.length - 1) from List.length_drop] <;> rfl) | rfl | (simp only [List.length_drop, List.length_take]; rfl)) ?_; (with_reducible refine (point_Get.calls kj1 _ _ (l0.drop 1) t332 t333 t334 t335 t336 t337 _ ?Ae ?Af A11.out).mono ?_); (case Ae => exact pC (Kd.C_below HR331.out HB.out)); (case Af => exact HC331.out); rintro e w20 ⟨rfl, hb⟩; refine ⟨_, rfl, ?_⟩; replace Ab := kBa Ab hb; replace HB := Am (below_step (pE HB.out Ac.out) hb); (try clear hb); (try clear hb2); (try clear hk); (try clear hi)) | ((with_reducible refine gate_dst (N := 5) rfl ?_); (try (refine gate_guard (by rfl) ?_; dsimp only)); refine zE 5 #[.int .i64 0, .int .i64 0, .int .i64 0, .int .u32 0] 48 ?_; intro Ak hg w21 hbox hb; have Al := Am (hbox); have Ao := Am (zG hg (below_size (pE HB.out Ac.out))); replace HB := Am (below_step (pE HB.out Ac.out) hb); have Ap := Ao; have Ag := Am (zN hg (kL Ab.out)); have Aj := Am (zM hg (kL Ab.out)); replace Ab := kBa Ab hb; clear hb hbox hg; have hnb22 := Aj.out; have hnc22 := Ag.out; obtain ⟨_, _, _, _⟩ := bc4 Al.out; obtain ⟨_, _, _, _⟩ := bf4 Al.out; obtain ⟨_, _, _, _, _, _⟩ := bc6 Ab.out; obtain ⟨_, _, _, _, _, _⟩ := bf6 Ab.out))
     refine bodyPost_ret (results_ctt rfl _ _ Ad 50 #[.bool false, .slice none 0 0, .int .i64 0, .int .i64 0, .int .i64 0, .int .u32 0] (0, 0) _ rfl (kX1 Ab.out Ag.out) Try.underlying50 rfl (by kernel_rfl)) rfl ?_
     exact ⟨_, pX, zn, pE2 HB.out Ac.out Ap.out⟩
    rw [if_pos c12] at H
    have c12b0 := beq_iff_eq.mpr c12
    have c12b1 := bne_eq_false_iff_eq.mpr c12
    clear c12
    simp only [Option.some.injEq, Prod.mk.injEq] at H
    obtain ⟨rfl, rfl, rfl, rfl, rfl, rfl, rfl, rfl⟩ := H
    have p330 : 0 ≤ (0 : Int) := (by omega)
    have q330 : 0 < (l0.length : Int) := of_decide_eq_true pS
    obtain ⟨Ah, e330, Aa⟩ := Kd.at_int HR0.out 0 p330 q330
    cases e330
    have qi330 : (0 < l0.length) = True := eq_true (by omega)
    (try rw [tz] at Aa)
    (try rw [Addr.add_zero'] at Aa)
    replace Aa := cU HB.out Aa
    replace p330 := eq_true p330
    replace q330 := eq_true q330
    obtain ⟨i013, hi013, _, Aq, _⟩ := info_parts info5
    obtain ⟨A13, hcut13, hA13, Ay⟩ := print_drop_of (P := Try.prog) (Value.int .u8) 0 22 5 .i64 Try.underlying22 hi013 Aq (some Ah) c0 l0 1 (by omega) (of_decide_eq_true pS) HC0.out
    have HR331 := Am (Kd.C_of_reads (h1 := fun _ => rfl) (hA13 _ (Kd.reads_of_C HR0.out)))
    have HC331 := Am Ay
    clear hA13 Ay hi013 Aq
    go_wp2_with (first | ((with_reducible refine gate_callee (f := 84) rfl ?_); refine goesL_ (some 29) rfl rfl Try.func84 (by kernel_rfl) rfl #[.slice A13 (l0.drop 1).length (c0 - 1)] rfl (by (try simp only [List.map_toArray, List.map_cons, List.map_nil]); first | done | (rw [show (l0.drop 1).length = (l0.length - 1) from List.length_drop] <;> rfl) | rfl | (simp only [List.length_drop, List.length_take]; rfl)) ?_; (with_reducible refine (point_Get.calls kj1 _ _ (l0.drop 1) t332 t333 t334 t335 t336 t337 _ ?Ae ?Af A11.out).mono ?_); (case Ae => exact pC (Kd.C_below HR331.out HB.out)); (case Af => exact HC331.out); rintro e w14 ⟨rfl, hb⟩; refine ⟨_, rfl, ?_⟩; replace Ab := kBa Ab hb; replace HB := Am (below_step (pE HB.out Ac.out) hb); (try clear hb); (try clear hb2); (try clear hk); (try clear hi)) | ((with_reducible refine gate_dst (N := 5) rfl ?_); (try (refine gate_guard (by rfl) ?_; dsimp only)); refine zE 5 #[.int .i64 0, .int .i64 0, .int .i64 0, .int .u32 0] 48 ?_; intro Ak hg w15 hbox hb; have Al := Am (hbox); have Ao := Am (zG hg (below_size (pE HB.out Ac.out))); replace HB := Am (below_step (pE HB.out Ac.out) hb); have Ap := Ao; have Ag := Am (zN hg (kL Ab.out)); have Aj := Am (zM hg (kL Ab.out)); replace Ab := kBa Ab hb; clear hb hbox hg; have hnb16 := Aj.out; have hnc16 := Ag.out; obtain ⟨_, _, _, _⟩ := bc4 Al.out; obtain ⟨_, _, _, _⟩ := bf4 Al.out; obtain ⟨_, _, _, _, _, _⟩ := bc6 Ab.out; obtain ⟨_, _, _, _, _, _⟩ := bf6 Ab.out))
    refine bodyPost_ret (results_ctt rfl _ _ Ad 50 #[.bool true, .slice none 0 0, .int .i64 t332, .int .i64 t333, .int .i64 t334, .int .u32 t335] (0, 0) _ rfl (kX1 Ab.out Ag.out) Try.underlying50 rfl (by kernel_rfl)) rfl ?_
    exact ⟨_, pX, zn, pE2 HB.out Ac.out Ap.out⟩
   rw [if_neg c9] at H
   have c9b0 := beq_eq_false_iff_ne.mpr c9
   have c9b1 := bne_iff_ne.mpr c9
   obtain ⟨c25, H⟩ := zI H
   have c25b0 := eq_true c25
   have c25b1 := decide_eq_true c25
   clear c25
   replace H := Option.bind_eq_some_iff.mp H
   obtain ⟨⟨t340, t341, t342⟩, A260, H⟩ := H
   dsimp only at H
   have A26 := Am A260
   clear A260
   by_cases c27 : t342 = 0
   rotate_left
   ·rw [if_neg c27] at H
    have c27b0 := beq_eq_false_iff_ne.mpr c27
    have c27b1 := bne_iff_ne.mpr c27
    simp only [Option.some.injEq, Prod.mk.injEq] at H
    obtain ⟨rfl, rfl, rfl, rfl, rfl, rfl, rfl, rfl⟩ := H
    have p330 : 0 ≤ (0 : Int) := (by omega)
    have q330 : 0 < (l0.length : Int) := of_decide_eq_true pS
    obtain ⟨Ah, e330, Aa⟩ := Kd.at_int HR0.out 0 p330 q330
    cases e330
    have qi330 : (0 < l0.length) = True := eq_true (by omega)
    (try rw [tz] at Aa)
    (try rw [Addr.add_zero'] at Aa)
    replace Aa := cU HB.out Aa
    replace p330 := eq_true p330
    replace q330 := eq_true q330
    obtain ⟨i044, hi044, _, Ax, _⟩ := info_parts info5
    obtain ⟨A44, hcut44, hA44, A5⟩ := print_drop_of (P := Try.prog) (Value.int .u8) 0 22 5 .i64 Try.underlying22 hi044 Ax (some Ah) c0 l0 1 (by omega) (of_decide_eq_true pS) HC0.out
    have HR339 := Am (Kd.C_of_reads (h1 := fun _ => rfl) (hA44 _ (Kd.reads_of_C HR0.out)))
    have HC339 := Am A5
    clear hA44 A5 hi044 Ax
    go_wp2_with (first | ((with_reducible refine gate_callee (f := 19) rfl ?_); refine goesL_ (some 44) rfl rfl Try.func19 (by kernel_rfl) rfl #[.slice A44 (l0.drop 1).length (c0 - 1)] rfl (by (try simp only [List.map_toArray, List.map_cons, List.map_nil]); first | done | (rw [show (l0.drop 1).length = (l0.length - 1) from List.length_drop] <;> rfl) | rfl | (simp only [List.length_drop, List.length_take]; rfl)) ?_; (with_reducible refine (varint_Get.calls kj1 _ _ (l0.drop 1) t340 t341 t342 _ ?Ae ?Af A26.out).mono ?_); (case Ae => exact pC (Kd.C_below HR339.out HB.out)); (case Af => exact HC339.out); rintro e w' ⟨rfl, ⟨nd, rfl⟩⟩; refine ⟨_, rfl, ?_⟩; (try (rw [drewN_self wc]; generalize hq_ : World.drewN wc _ = wc; replace Ab : Aside0 (wc.heap[Ad]? = some (.cells #[.bool false, .slice none 0 0, .int .i64 0, .int .i64 0, .int .i64 0, .int .u32 0] 50 (0, 0))) := ⟨by rw [← hq_]; exact (pK Ab.out)⟩; replace HB : Aside0 (Below w.heap.size w wc) := ⟨by rw [← hq_]; exact (pE HB.out Ac.out)⟩; clear hq_)); obtain ⟨_, _, _, _, _, _⟩ := bc6 Ab.out; obtain ⟨_, _, _, _, _, _⟩ := bf6 Ab.out))
    refine bodyPost_ret (results_ctt rfl _ _ Ad 50 #[.bool false, .slice none 0 0, .int .i64 0, .int .i64 0, .int .i64 0, .int .u32 0] (0, 0) _ rfl (kX0 Ab.out) Try.underlying50 rfl (by kernel_rfl)) rfl ?_
    exact ⟨_, pX, zn, pE HB.out Ac.out⟩
   rw [if_pos c27] at H
   have c27b0 := beq_iff_eq.mpr c27
   have c27b1 := bne_eq_false_iff_eq.mpr c27
   clear c27
   by_cases c28 : t340 > 32
   ·rw [if_pos c28] at H
    have c28b0 : decide (32 < t340) = true := decide_eq_true c28
    clear c28
    simp only [Option.some.injEq, Prod.mk.injEq] at H
    obtain ⟨rfl, rfl, rfl, rfl, rfl, rfl, rfl, rfl⟩ := H
    have p330 : 0 ≤ (0 : Int) := (by omega)
    have q330 : 0 < (l0.length : Int) := of_decide_eq_true pS
    obtain ⟨Ah, e330, Aa⟩ := Kd.at_int HR0.out 0 p330 q330
    cases e330
    have qi330 : (0 < l0.length) = True := eq_true (by omega)
    (try rw [tz] at Aa)
    (try rw [Addr.add_zero'] at Aa)
    replace Aa := cU HB.out Aa
    replace p330 := eq_true p330
    replace q330 := eq_true q330
    obtain ⟨i029, hi029, _, As, _⟩ := info_parts info5
    obtain ⟨A29, hcut29, hA29, A1⟩ := print_drop_of (P := Try.prog) (Value.int .u8) 0 22 5 .i64 Try.underlying22 hi029 As (some Ah) c0 l0 1 (by omega) (of_decide_eq_true pS) HC0.out
    have HR339 := Am (Kd.C_of_reads (h1 := fun _ => rfl) (hA29 _ (Kd.reads_of_C HR0.out)))
    have HC339 := Am A1
    clear hA29 A1 hi029 As
    go_wp2_with (first | ((with_reducible refine gate_callee (f := 19) rfl ?_); refine goesL_ (some 44) rfl rfl Try.func19 (by kernel_rfl) rfl #[.slice A29 (l0.drop 1).length (c0 - 1)] rfl (by (try simp only [List.map_toArray, List.map_cons, List.map_nil]); first | done | (rw [show (l0.drop 1).length = (l0.length - 1) from List.length_drop] <;> rfl) | rfl | (simp only [List.length_drop, List.length_take]; rfl)) ?_; (with_reducible refine (varint_Get.calls kj1 _ _ (l0.drop 1) t340 t341 t342 _ ?Ae ?Af A26.out).mono ?_); (case Ae => exact pC (Kd.C_below HR339.out HB.out)); (case Af => exact HC339.out); rintro e w' ⟨rfl, ⟨nd, rfl⟩⟩; refine ⟨_, rfl, ?_⟩; (try (rw [drewN_self wc]; generalize hq_ : World.drewN wc _ = wc; replace Ab : Aside0 (wc.heap[Ad]? = some (.cells #[.bool false, .slice none 0 0, .int .i64 0, .int .i64 0, .int .i64 0, .int .u32 0] 50 (0, 0))) := ⟨by rw [← hq_]; exact (pK Ab.out)⟩; replace HB : Aside0 (Below w.heap.size w wc) := ⟨by rw [← hq_]; exact (pE HB.out Ac.out)⟩; clear hq_)); obtain ⟨_, _, _, _, _, _⟩ := bc6 Ab.out; obtain ⟨_, _, _, _, _, _⟩ := bf6 Ab.out))
    refine bodyPost_ret (results_ctt rfl _ _ Ad 50 #[.bool false, .slice none 0 0, .int .i64 0, .int .i64 0, .int .i64 0, .int .u32 0] (0, 0) _ rfl (kX0 Ab.out) Try.underlying50 rfl (by kernel_rfl)) rfl ?_
    exact ⟨_, pX, zn, pE HB.out Ac.out⟩
   rw [if_neg c28] at H
   have c28b0 : decide (32 < t340) = false := decide_eq_false c28
   clear c28
   by_cases c31 : (wrap64 ((wrap64 ((l0.length : Int) - 1)) - t341)) < (wrap64 (t340))
   ·rw [if_pos c31] at H
    have c31b0 := decide_eq_true c31
    clear c31
    simp only [Option.some.injEq, Prod.mk.injEq] at H
    obtain ⟨rfl, rfl, rfl, rfl, rfl, rfl, rfl, rfl⟩ := H
    have p330 : 0 ≤ (0 : Int) := (by omega)
    have q330 : 0 < (l0.length : Int) := of_decide_eq_true pS
    obtain ⟨Ah, e330, Aa⟩ := Kd.at_int HR0.out 0 p330 q330
    cases e330
    have qi330 : (0 < l0.length) = True := eq_true (by omega)
    (try rw [tz] at Aa)
    (try rw [Addr.add_zero'] at Aa)
    replace Aa := cU HB.out Aa
    replace p330 := eq_true p330
    replace q330 := eq_true q330
    obtain ⟨i032, hi032, _, At, _⟩ := info_parts info5
    obtain ⟨A32, hcut32, hA32, A2⟩ := print_drop_of (P := Try.prog) (Value.int .u8) 0 22 5 .i64 Try.underlying22 hi032 At (some Ah) c0 l0 1 (by omega) (of_decide_eq_true pS) HC0.out
    have HR339 := Am (Kd.C_of_reads (h1 := fun _ => rfl) (hA32 _ (Kd.reads_of_C HR0.out)))
    have HC339 := Am A2
    clear hA32 A2 hi032 At
    go_wp2_with (first | ((with_reducible refine gate_callee (f := 19) rfl ?_); refine goesL_ (some 44) rfl rfl Try.func19 (by kernel_rfl) rfl #[.slice A32 (l0.drop 1).length (c0 - 1)] rfl (by (try simp only [List.map_toArray, List.map_cons, List.map_nil]); first | done | (rw [show (l0.drop 1).length = (l0.length - 1) from List.length_drop] <;> rfl) | rfl | (simp only [List.length_drop, List.length_take]; rfl)) ?_; (with_reducible refine (varint_Get.calls kj1 _ _ (l0.drop 1) t340 t341 t342 _ ?Ae ?Af A26.out).mono ?_); (case Ae => exact pC (Kd.C_below HR339.out HB.out)); (case Af => exact HC339.out); rintro e w' ⟨rfl, ⟨nd, rfl⟩⟩; refine ⟨_, rfl, ?_⟩; (try (rw [drewN_self wc]; generalize hq_ : World.drewN wc _ = wc; replace Ab : Aside0 (wc.heap[Ad]? = some (.cells #[.bool false, .slice none 0 0, .int .i64 0, .int .i64 0, .int .i64 0, .int .u32 0] 50 (0, 0))) := ⟨by rw [← hq_]; exact (pK Ab.out)⟩; replace HB : Aside0 (Below w.heap.size w wc) := ⟨by rw [← hq_]; exact (pE HB.out Ac.out)⟩; clear hq_)); obtain ⟨_, _, _, _, _, _⟩ := bc6 Ab.out; obtain ⟨_, _, _, _, _, _⟩ := bf6 Ab.out))
    refine bodyPost_ret (results_ctt rfl _ _ Ad 50 #[.bool false, .slice none 0 0, .int .i64 0, .int .i64 0, .int .i64 0, .int .u32 0] (0, 0) _ rfl (kX0 Ab.out) Try.underlying50 rfl (by kernel_rfl)) rfl ?_
    exact ⟨_, pX, zn, pE HB.out Ac.out⟩
   rw [if_neg c31] at H
   have c31b0 := decide_eq_false c31
   clear c31
   obtain ⟨ji34, hji34⟩ : ∃ j_ : Int, (wrap64 (1 + t341)) = j_ := ⟨_, rfl⟩
   replace H : (if 0 ≤ (ji34) then (if (ji34) ≤ (wrap64 ((ji34) + (wrap64 (t340)))) then (if (wrap64 ((ji34) + (wrap64 (t340)))) ≤ (l0.length : Int) then ((bytes_Clone.f ((l0.take ((wrap64 ((ji34) + (wrap64 (t340)))) : Int).toNat).drop ((ji34) : Int).toNat)).bind fun t344 => (some (false, t344, 0, 0, 0, 0, wrap64 ((ji34) + (wrap64 (t340))), 0))) else (none)) else (none)) else (none)) = some (r1, r2, r3, r4, r5, r6, r7, r8) := by first | (rw [hji34] at H; exact H) | (simp only [hji34] at H ⊢; exact H)
   (try rw [hji34] at c31b0)
   (try rw [hji34] at A26)
   have hji34w : (IntKind.i64.wrap (1 + t341)) = ji34 := (i64_w _).trans hji34
   obtain ⟨c35, H⟩ := zI H
   have c35b0 := eq_true c35
   have c35b1 := decide_eq_true c35
   clear c35
   obtain ⟨c36, H⟩ := zI H
   have c36b0 := eq_true c36
   have c36b1 := decide_eq_true c36
   obtain ⟨c37, H⟩ := zI H
   have c37b0 := eq_true c37
   have c37b1 := decide_eq_true c37
   replace H := Option.bind_eq_some_iff.mp H
   obtain ⟨t344, A380, H⟩ := H
   have A38 := Am A380
   clear A380
   simp only [Option.some.injEq, Prod.mk.injEq] at H
   obtain ⟨rfl, rfl, rfl, rfl, rfl, rfl, rfl, rfl⟩ := H
   have p330 : 0 ≤ (0 : Int) := (by omega)
   have q330 : 0 < (l0.length : Int) := of_decide_eq_true pS
   obtain ⟨Ah, e330, Aa⟩ := Kd.at_int HR0.out 0 p330 q330
   cases e330
   have qi330 : (0 < l0.length) = True := eq_true (by omega)
   (try rw [tz] at Aa)
   (try rw [Addr.add_zero'] at Aa)
   replace Aa := cU HB.out Aa
   replace p330 := eq_true p330
   replace q330 := eq_true q330
   obtain ⟨i039, hi039, _, Au, _⟩ := info_parts info5
   obtain ⟨A39, hcut39, hA39, A3⟩ := print_drop_of (P := Try.prog) (Value.int .u8) 0 22 5 .i64 Try.underlying22 hi039 Au (some Ah) c0 l0 1 (by omega) (of_decide_eq_true pS) HC0.out
   have HR339 := Am (Kd.C_of_reads (h1 := fun _ => rfl) (hA39 _ (Kd.reads_of_C HR0.out)))
   have HC339 := Am A3
   clear hA39 A3 hi039 Au
   go_wp2_with (first | ((with_reducible refine gate_callee (f := 19) rfl ?_); refine goesL_ (some 44) rfl rfl Try.func19 (by kernel_rfl) rfl #[.slice A39 (l0.drop 1).length (c0 - 1)] rfl (by (try simp only [List.map_toArray, List.map_cons, List.map_nil]); first | done | (rw [show (l0.drop 1).length = (l0.length - 1) from List.length_drop] <;> rfl) | rfl | (simp only [List.length_drop, List.length_take]; rfl)) ?_; (with_reducible refine (varint_Get.calls kj1 _ _ (l0.drop 1) t340 t341 t342 _ ?Ae ?Af A26.out).mono ?_); (case Ae => exact pC (Kd.C_below HR339.out HB.out)); (case Af => exact HC339.out); rintro e w' ⟨rfl, ⟨nd, rfl⟩⟩; refine ⟨_, rfl, ?_⟩; (try (rw [drewN_self wc]; generalize hq_ : World.drewN wc _ = wc; replace Ab : Aside0 (wc.heap[Ad]? = some (.cells #[.bool false, .slice none 0 0, .int .i64 0, .int .i64 0, .int .i64 0, .int .u32 0] 50 (0, 0))) := ⟨by rw [← hq_]; exact (pK Ab.out)⟩; replace HB : Aside0 (Below w.heap.size w wc) := ⟨by rw [← hq_]; exact (pE HB.out Ac.out)⟩; clear hq_)); obtain ⟨i040, hi040, _, Av, _⟩ := info_parts info5; obtain ⟨A40, hcut40, hA40, A4⟩ := print_mid_of (P := Try.prog) (Value.int .u8) 0 22 5 .i64 .i64 Try.underlying22 hi040 Av (some Ah) c0 l0 (ji34) (wrap64 ((ji34) + (wrap64 (t340)))) (of_decide_eq_true pS) (by first | omega | exact of_decide_eq_true pS) (of_decide_eq_true pS) HC0.out; have HR343 := Am (Kd.C_of_reads (h1 := fun _ => rfl) (hA40 _ (Kd.reads_of_C HR0.out))); have HC343 := Am A4; clear hA40 A4 hi040 Av) | ((with_reducible refine gate_callee (f := 85) rfl ?_); refine goesL_ (some 75) rfl rfl Try.func85 (by kernel_rfl) rfl #[.slice A40 ((l0.take ((wrap64 ((ji34) + (wrap64 (t340)))) : Int).toNat).drop ((ji34) : Int).toNat).length (c0 - (ji34).toNat)] rfl (by (try simp only [List.map_toArray, List.map_cons, List.map_nil]); first | done | (rw [show ((l0.take ((wrap64 ((ji34) + (wrap64 (t340)))) : Int).toNat).drop ((ji34) : Int).toNat).length = ((wrap64 ((ji34) + (wrap64 (t340)))).toNat - (ji34).toNat) from (by rw [List.length_drop, List.length_take]; have h_ : ((wrap64 ((ji34) + (wrap64 (t340)))) : Int) ≤ (l0.length : Int) := of_decide_eq_true pS; omega)] <;> rfl) | (simp only [hji34]; rfl) | rfl | (simp only [List.length_drop, List.length_take]; rfl)) ?_; (with_reducible refine (bytes_Clone.calls _ _ ((l0.take ((wrap64 ((ji34) + (wrap64 (t340)))) : Int).toNat).drop ((ji34) : Int).toNat) t344 _ ?Ae ?Af A38.out).mono ?_); (case Ae => exact pC (Kd.C_below HR343.out HB.out)); (case Af => exact HC343.out); rintro e w41 ⟨v345, rfl, ho0, hb⟩; refine ⟨_, rfl, ?_⟩; have Aw := Am (Kd.R_lower ho0 (below_size (pE HB.out Ac.out))); replace Ab := kBa Ab hb; replace HB := Am (below_step (pE HB.out Ac.out) hb); (try clear hb); (try clear hb2); (try clear hk); (try clear hi); (try clear ho0); obtain ⟨A7, A8, A9⟩ := Kd.R_slice Aw.out; subst A9; obtain ⟨_, _, _, _, _, _⟩ := bc6 Ab.out; obtain ⟨_, _, _, _, _, _⟩ := bf6 Ab.out))
   refine bodyPost_ret (results_ctt rfl _ _ Ad 50 #[.bool false, .slice A7 t344.length A8, .int .i64 0, .int .i64 0, .int .i64 0, .int .u32 0] (0, 0) _ rfl (kX0 Ab.out) Try.underlying50 rfl (by kernel_rfl)) rfl ?_
   exact ⟨_, by first | rfl | (simp [errW_none, errW_some] <;> rfl) | (simp only [← hji34]; first | rfl | (simp [errW_none, errW_some] <;> rfl)) | (simp [*, errW_none, errW_some] <;> rfl), by (with_reducible repeat (first | apply Kd.R_alloc | apply Kd.R_drewN | apply Kd.R_drew)); exact Kd.R_mono (Rf6 (g := Ad) (Kd.R_types Aw.out Ab.out (by decide)) (fun _ hk => hk.2)) (fun _ hk => trivial), pE HB.out Ac.out⟩
end Go.Proofs.Ytdanmjfkocjgjaa.PWalGets
