/- What the law reaches, as plain Lean functions, and that the machine's calls answer just that. -/
import Derived.Test.YtdanmjfkocjgjaaPWalPutsx0
import Derived.Test.YtdanmjfkocjgjaaPWalPutsx10
import Derived.Test.YtdanmjfkocjgjaaPWalPutsx5
namespace Go.Proofs.Ytdanmjfkocjgjaa.PWalPuts
open Go.RowKit Go.Proofs.YtdanmjfkocjgjaaW.PrintWords Go.Proofs.YtdanmjfkocjgjaaW.PrintLast Go.Proofs.YtdanmjfkocjgjaaW.PrintMore
set_option linter.unusedVariables false
set_option linter.unusedSimpArgs false
section
attribute [local go_sem] max2_int min2_int max_two min_two max_three min_three max_four min_four
attribute [local go_sem] wrap64_l1 wrap64_l2 wrap64_l3 wrap64_l4 wrap64_l5
def cell_Get.j0 : Nat → List Int → Bool → Option (Bool × List Int × Int × Int × Int × Int × Int × Int)
 | 0, _, _ => none
 | k + 1, x0, x20 => if x20 = true then (some (false, ([] : List Int), 0, 0, 0, 0, 0, 2)) else (if 0 < (x0.length : Int) then (if (rd x0 0) = 1 then (if 1 ≤ (x0.length : Int) then ((point_Get.f k (x0.drop 1)).bind fun bt332 => (if bt332.2.2.2.2.2 = 0 then (some (true, ([] : List Int), bt332.1, bt332.2.1, bt332.2.2.1, bt332.2.2.2.1, wrap64 (bt332.2.2.2.2.1 + 1), 0)) else (some (false, ([] : List Int), 0, 0, 0, 0, 0, bt332.2.2.2.2.2)))) else (none)) else (if 1 ≤ (x0.length : Int) then ((varint_Get.f k (x0.drop 1)).bind fun bt340 => (if bt340.2.2 = 0 then (if bt340.1 > 32 then (some (false, ([] : List Int), 0, 0, 0, 0, 0, 2)) else (if (wrap64 ((wrap64 ((x0.length : Int) - 1)) - bt340.2.1)) < (wrap64 (bt340.1)) then (some (false, ([] : List Int), 0, 0, 0, 0, 0, 2)) else (if 0 ≤ (wrap64 (1 + bt340.2.1)) then (if (wrap64 (1 + bt340.2.1)) ≤ (wrap64 ((wrap64 (1 + bt340.2.1)) + (wrap64 (bt340.1)))) then (if (wrap64 ((wrap64 (1 + bt340.2.1)) + (wrap64 (bt340.1)))) ≤ (x0.length : Int) then ((bytes_Clone.f ((x0.take ((wrap64 ((wrap64 (1 + bt340.2.1)) + (wrap64 (bt340.1)))) : Int).toNat).drop ((wrap64 (1 + bt340.2.1)) : Int).toNat)).bind fun t344 => (some (false, t344, 0, 0, 0, 0, wrap64 ((wrap64 (1 + bt340.2.1)) + (wrap64 (bt340.1))), 0))) else (none)) else (none)) else (none)))) else (some (false, ([] : List Int), 0, 0, 0, 0, 0, 2)))) else (none))) else (none))
def cell_Get.f (k : Nat) (l0 : List Int) : Option (Bool × List Int × Int × Int × Int × Int × Int × Int) := if (l0.length : Int) = 0 then (cell_Get.j0 k l0 true) else (if 0 < (l0.length : Int) then (cell_Get.j0 k l0 (decide ((rd l0 0) > 1))) else (none))
theorem cell_Get.mono_l : ∀ k, (∀ y0 y1, LeO (cell_Get.j0 k y0 y1) (cell_Get.j0 (k + 1) y0 y1))
 | 0 => fun _ _ r h => by simp [cell_Get.j0] at h
 | k + 1 => by
  have ih0 := cell_Get.mono_l k
  ·intro y0 y1
   unfold cell_Get.j0
   repeat' (with_reducible first | exact ih0 .. | exact point_Get.mono .. | exact varint_Get.mono .. | exact LeO.refl .. | exact LeO.none .. | refine LeO.ite ?_ ?_ | refine LeO.bind ?_ (fun _ => ?_))
theorem cell_Get.mono : ∀ a0 k, LeO (cell_Get.f k a0) (cell_Get.f (k + 1) a0) := by
 intro a0 k
 have ih0 := cell_Get.mono_l k
 unfold cell_Get.f
 repeat' (with_reducible first | exact ih0 .. | exact point_Get.mono .. | exact varint_Get.mono .. | exact LeO.refl .. | exact LeO.none .. | refine LeO.ite ?_ ?_ | refine LeO.bind ?_ (fun _ => ?_))
set_option maxHeartbeats 8000000 in
set_option maxRecDepth 100000 in
theorem cell_Get.calls (k : Nat) (A0 : Option Addr) (c0 : Nat) (l0 : List Int) (r1 : Bool) (r2 : List Int) (r3 : Int) (r4 : Int) (r5 : Int) (r6 : Int) (r7 : Int) (r8 : Int) (w : World) (hr0 : Kd.C (Kd.int .u8) w A0 l0.length l0) (hc0 : l0.length ≤ c0) (h : cell_Get.f k l0 = some (r1, r2, r3, r4, r5, r6, r7, r8)) :
 Calls Try.prog 78 #[.slice A0 l0.length c0] w fun e w' => ∃ v1_ : Value, e = .returned (.tuple #[.agg #[.bool r1, v1_, .int .i64 r3, .int .i64 r4, .int .i64 r5, .int .u32 r6], .int .i64 r7, .int .i64 r8]) ∧ Kd.R (Kd.int .u8) 5 w' w.heap.size (fun _ => True) v1_ r2 ∧ Below w.heap.size w w' := by
 have hu50 := Try.underlying50
 have hu48 := Try.underlying48
 have HR0 := Am hr0
 have HC0 := Am hc0
 clear hr0 hc0
 have HB := Am (Below.refl w.heap.size w)
 unfold cell_Get.f at h
 have H := h
 clear h
 have HC2 := Am H
 clear H
 go_enter Try.func78, Try.ntmps78
 go_upto_region 1 with (first | ((with_reducible refine zD 2 rfl ?_); (try (refine gate_guard (by rfl) ?_; dsimp only)); refine zE 2 #[.bool false, .slice none 0 0, .int .i64 0, .int .i64 0, .int .i64 0, .int .u32 0] 50 ?_; intro Ad hg w3 hbox hb; have Ab := Am (hbox); have A6 := zA hg HB; replace HB := zB HB hb; have Ac := A6; clear hb hbox hg))
 (try simp only [Act.put, List.setIfInBounds_toArray, List.set_cons_zero, List.set_cons_succ])
 go_cut [20] (fun v20 wc => ∃ (kq : Nat) (An : Bool), v20 = .bool An ∧ Aside0 (cell_Get.j0 kq l0 An = some (r1, r2, r3, r4, r5, r6, r7, r8)) ∧ Aside0 (kq ≤ k) ∧ Aside0 (wc.heap[Ad]? = some (.cells #[.bool false, (.slice none 0 0), .int .i64 0, .int .i64 0, .int .i64 0, .int .u32 0] 50 (0, 0))) ∧ Aside0 (Below w.heap.size w wc))
 case first =>
  have H := HC2.out
  clear HC2
  by_cases c4 : (l0.length : Int) = 0
  ·rw [if_pos c4] at H
   obtain ⟨c4b0, c4b1⟩ := zc c4
   clear c4
   (first | rw [c4b0] | (simp only [i64_w, i32_w]; rw [c4b0]) | skip)
   have H' := Am H
   clear H
   go_wp2
   go_meet
   case rel => exact ⟨_, (true), zr, H', ⟨zo⟩, ⟨pK Ab.out⟩, ⟨pE HB.out Ac.out⟩⟩
  rw [if_neg c4] at H
  obtain ⟨c4b0, c4b1⟩ := zk c4
  have c4b2 : ¬ (l0 = []) := fun h_ => c4 (by rw [h_]; rfl)
  (first | rw [c4b0] | (simp only [i64_w, i32_w]; rw [c4b0]) | skip)
  obtain ⟨c5, H⟩ := zI H
  have c5b0 := decide_eq_true c5
  have c5b1 : decide (0 < l0.length) = true := decide_eq_true (by omega)
  clear c5
  have H' := Am H
  clear H
  have p329 : 0 ≤ (0 : Int) := (by omega)
  have q329 : 0 < (l0.length : Int) := of_decide_eq_true pS
  obtain ⟨ad329, e329, Ai⟩ := Kd.at_int HR0.out 0 p329 q329
  cases e329
  have qi329 : (0 < l0.length) = True := eq_true (by omega)
  (try simp only [tz, Addr.add_zero'] at Ai)
  replace Ai := cU HB.out Ai
  replace p329 := eq_true p329
  replace q329 := eq_true q329
  go_wp2
  go_meet
  case rel => exact ⟨_, (decide ((rd l0 0) > 1)), zr, H', ⟨zo⟩, ⟨pK Ab.out⟩, ⟨pE HB.out Ac.out⟩⟩
 case rest =>
  clear HC2
  try clear p2
  try clear p3
  try clear q3
  try clear hx3
  try clear qi3
  try clear c4
  try clear c4b0
  try clear c4b1
  try clear c4b2
  try clear c5
  try clear c5b0
  try clear c5b1
  try clear Ai
  try clear p329
  try clear q329
  obtain ⟨kq, An, rfl, HA, HJ1, Ab, HB⟩ := hcut
  cases kq with
  | zero => exact absurd HA.out (by simp [cell_Get.j0])
  | succ kj1 =>
   have H := HA.out
   clear HA
   simp only [cell_Get.j0] at H
   by_cases c6 : An = true
   ·subst c6
    rw [if_pos rfl] at H
    simp only [Option.some.injEq, Prod.mk.injEq] at H
    obtain ⟨rfl, rfl, rfl, rfl, rfl, rfl, rfl, rfl⟩ := H
    obtain ⟨_, _, _, _, _, _⟩ := bc6 Ab.out
    obtain ⟨_, _, _, _, _, _⟩ := bf6 Ab.out
    go_wp2
    refine bodyPost_ret (results_ctt rfl _ _ Ad 50 #[.bool false, .slice none 0 0, .int .i64 0, .int .i64 0, .int .i64 0, .int .u32 0] (0, 0) _ rfl (kX0 Ab.out) Try.underlying50 rfl (by kernel_rfl)) rfl ?_
    exact ⟨_, pX, zn, pE HB.out Ac.out⟩
   replace c6 := Bool.eq_false_iff.mpr c6
   subst c6
   rw [if_neg zF] at H
   obtain ⟨c8, H⟩ := zI H
   have c8b0 := decide_eq_true c8
   have c8b1 : decide (0 < l0.length) = true := decide_eq_true (by omega)
   clear c8
   by_cases c9 : (rd l0 0) = 1
   ·rw [if_pos c9] at H
    obtain ⟨c9b0, c9b1⟩ := zc c9
    clear c9
    obtain ⟨c10, H⟩ := zI H
    have c10b0 := eq_true c10
    have c10b1 := decide_eq_true c10
    clear c10
    obtain ⟨⟨t332, t333, t334, t335, t336, t337⟩, A11, H⟩ := zb H
    dsimp only at H
    by_cases c12 : t337 = 0
    rotate_left
    ·rw [if_neg c12] at H
     obtain ⟨c12b0, c12b1⟩ := zk c12
     simp only [Option.some.injEq, Prod.mk.injEq] at H
     obtain ⟨rfl, rfl, rfl, rfl, rfl, rfl, rfl, rfl⟩ := H
     have p330 : 0 ≤ (0 : Int) := (by omega)
     have q330 : 0 < (l0.length : Int) := of_decide_eq_true pS
     obtain ⟨Ah, e330, Aa⟩ := Kd.at_int HR0.out 0 p330 q330
     cases e330
     have qi330 : (0 < l0.length) = True := eq_true (by omega)
     (try simp only [tz, Addr.add_zero'] at Aa)
     replace Aa := cU HB.out Aa
     replace p330 := eq_true p330
     replace q330 := eq_true q330
     obtain ⟨i019, hi019, _, Ar, _⟩ := info_parts info5
     obtain ⟨A19, hcut19, hA19, Az⟩ := print_drop_of (P := Try.prog) (Value.int .u8) 0 22 5 .i64 Try.underlying22 hi019 Ar (some Ah) c0 l0 1 (by omega) (of_decide_eq_true pS) HC0.out
     have HR331 := Am (Kd.C_of_reads (h1 := fun _ => rfl) (hA19 _ (Kd.reads_of_C HR0.out)))
     have HC331 := Am Az
     clear hA19 Az hi019 Ar
     go_wp2_with (first | ((with_reducible refine zC 84 rfl ?_); refine goesL_ (some 29) rfl rfl Try.func84 (by kernel_rfl) rfl #[.slice A19 (l0.drop 1).length (c0 - 1)] rfl (by (try simp only [List.map_toArray, List.map_cons, List.map_nil]); first | done | (rw [show (l0.drop 1).length = (l0.length - 1) from List.length_drop] <;> rfl) | rfl | (simp only [List.length_drop, List.length_take]; rfl)) ?_; (with_reducible refine (point_Get.calls kj1 _ _ (l0.drop 1) t332 t333 t334 t335 t336 t337 _ ?Ae ?Af A11.out).mono ?_); (case Ae => exact pC (Kd.C_below HR331.out HB.out)); (case Af => exact HC331.out); rintro e w20 ⟨rfl, hb⟩; refine ⟨_, rfl, ?_⟩; replace Ab := kBa Ab hb; replace HB := zX1 HB Ac.out hb; (try clear hb)) | ((with_reducible refine zD 5 rfl ?_); (try (refine gate_guard (by rfl) ?_; dsimp only)); refine zE 5 #[.int .i64 0, .int .i64 0, .int .i64 0, .int .u32 0] 48 ?_; intro Ak hg w21 hbox hb; have Al := Am (hbox); have Ao := zY1 hg HB Ac.out; replace HB := zX1 HB Ac.out hb; have Ap := Ao; have Ag := Am (zN hg (kL Ab.out)); have Aj := Am (zM hg (kL Ab.out)); replace Ab := kBa Ab hb; clear hb hbox hg; have hnb22 := Aj.out; have hnc22 := Ag.out; obtain ⟨_, _, _, _⟩ := bc4 Al.out; obtain ⟨_, _, _, _⟩ := bf4 Al.out; obtain ⟨_, _, _, _, _, _⟩ := bc6 Ab.out; obtain ⟨_, _, _, _, _, _⟩ := bf6 Ab.out))
     refine bodyPost_ret (results_ctt rfl _ _ Ad 50 #[.bool false, .slice none 0 0, .int .i64 0, .int .i64 0, .int .i64 0, .int .u32 0] (0, 0) _ rfl (kX1 Ab.out Ag.out) Try.underlying50 rfl (by kernel_rfl)) rfl ?_
     exact ⟨_, pX, zn, pE2 HB.out Ac.out Ap.out⟩
    rw [if_pos c12] at H
    obtain ⟨c12b0, c12b1⟩ := zc c12
    clear c12
    simp only [Option.some.injEq, Prod.mk.injEq] at H
    obtain ⟨rfl, rfl, rfl, rfl, rfl, rfl, rfl, rfl⟩ := H
    have p330 : 0 ≤ (0 : Int) := (by omega)
    have q330 : 0 < (l0.length : Int) := of_decide_eq_true pS
    obtain ⟨Ah, e330, Aa⟩ := Kd.at_int HR0.out 0 p330 q330
    cases e330
    have qi330 : (0 < l0.length) = True := eq_true (by omega)
    (try simp only [tz, Addr.add_zero'] at Aa)
    replace Aa := cU HB.out Aa
    replace p330 := eq_true p330
    replace q330 := eq_true q330
    obtain ⟨i013, hi013, _, Aq, _⟩ := info_parts info5
    obtain ⟨A13, hcut13, hA13, Ay⟩ := print_drop_of (P := Try.prog) (Value.int .u8) 0 22 5 .i64 Try.underlying22 hi013 Aq (some Ah) c0 l0 1 (by omega) (of_decide_eq_true pS) HC0.out
    have HR331 := Am (Kd.C_of_reads (h1 := fun _ => rfl) (hA13 _ (Kd.reads_of_C HR0.out)))
    have HC331 := Am Ay
    clear hA13 Ay hi013 Aq
    go_wp2_with (first | ((with_reducible refine zC 84 rfl ?_); refine goesL_ (some 29) rfl rfl Try.func84 (by kernel_rfl) rfl #[.slice A13 (l0.drop 1).length (c0 - 1)] rfl (by (try simp only [List.map_toArray, List.map_cons, List.map_nil]); first | done | (rw [show (l0.drop 1).length = (l0.length - 1) from List.length_drop] <;> rfl) | rfl | (simp only [List.length_drop, List.length_take]; rfl)) ?_; (with_reducible refine (point_Get.calls kj1 _ _ (l0.drop 1) t332 t333 t334 t335 t336 t337 _ ?Ae ?Af A11.out).mono ?_); (case Ae => exact pC (Kd.C_below HR331.out HB.out)); (case Af => exact HC331.out); rintro e w14 ⟨rfl, hb⟩; refine ⟨_, rfl, ?_⟩; replace Ab := kBa Ab hb; replace HB := zX1 HB Ac.out hb; (try clear hb)) | ((with_reducible refine zD 5 rfl ?_); (try (refine gate_guard (by rfl) ?_; dsimp only)); refine zE 5 #[.int .i64 0, .int .i64 0, .int .i64 0, .int .u32 0] 48 ?_; intro Ak hg w15 hbox hb; have Al := Am (hbox); have Ao := zY1 hg HB Ac.out; replace HB := zX1 HB Ac.out hb; have Ap := Ao; have Ag := Am (zN hg (kL Ab.out)); have Aj := Am (zM hg (kL Ab.out)); replace Ab := kBa Ab hb; clear hb hbox hg; have hnb16 := Aj.out; have hnc16 := Ag.out; obtain ⟨_, _, _, _⟩ := bc4 Al.out; obtain ⟨_, _, _, _⟩ := bf4 Al.out; obtain ⟨_, _, _, _, _, _⟩ := bc6 Ab.out; obtain ⟨_, _, _, _, _, _⟩ := bf6 Ab.out))
    refine bodyPost_ret (results_ctt rfl _ _ Ad 50 #[.bool true, .slice none 0 0, .int .i64 t332, .int .i64 t333, .int .i64 t334, .int .u32 t335] (0, 0) _ rfl (kX1 Ab.out Ag.out) Try.underlying50 rfl (by kernel_rfl)) rfl ?_
    exact ⟨_, pX, zn, pE2 HB.out Ac.out Ap.out⟩
   rw [if_neg c9] at H
   obtain ⟨c9b0, c9b1⟩ := zk c9
   obtain ⟨c25, H⟩ := zI H
   have c25b0 := eq_true c25
   have c25b1 := decide_eq_true c25
   clear c25
   obtain ⟨⟨t340, t341, t342⟩, A26, H⟩ := zb H
   dsimp only at H
   by_cases c27 : t342 = 0
   rotate_left
   ·rw [if_neg c27] at H
    obtain ⟨c27b0, c27b1⟩ := zk c27
    simp only [Option.some.injEq, Prod.mk.injEq] at H
    obtain ⟨rfl, rfl, rfl, rfl, rfl, rfl, rfl, rfl⟩ := H
    have p330 : 0 ≤ (0 : Int) := (by omega)
    have q330 : 0 < (l0.length : Int) := of_decide_eq_true pS
    obtain ⟨Ah, e330, Aa⟩ := Kd.at_int HR0.out 0 p330 q330
    cases e330
    have qi330 : (0 < l0.length) = True := eq_true (by omega)
    (try simp only [tz, Addr.add_zero'] at Aa)
    replace Aa := cU HB.out Aa
    replace p330 := eq_true p330
    replace q330 := eq_true q330
    obtain ⟨i044, hi044, _, Ax, _⟩ := info_parts info5
    obtain ⟨A44, hcut44, hA44, A5⟩ := print_drop_of (P := Try.prog) (Value.int .u8) 0 22 5 .i64 Try.underlying22 hi044 Ax (some Ah) c0 l0 1 (by omega) (of_decide_eq_true pS) HC0.out
    have HR339 := Am (Kd.C_of_reads (h1 := fun _ => rfl) (hA44 _ (Kd.reads_of_C HR0.out)))
    have HC339 := Am A5
    clear hA44 A5 hi044 Ax
    go_wp2_with (first | ((with_reducible refine zC 19 rfl ?_); refine goesL_ (some 44) rfl rfl Try.func19 (by kernel_rfl) rfl #[.slice A44 (l0.drop 1).length (c0 - 1)] rfl (by (try simp only [List.map_toArray, List.map_cons, List.map_nil]); first | done | (rw [show (l0.drop 1).length = (l0.length - 1) from List.length_drop] <;> rfl) | rfl | (simp only [List.length_drop, List.length_take]; rfl)) ?_; (with_reducible refine (varint_Get.calls kj1 _ _ (l0.drop 1) t340 t341 t342 _ ?Ae ?Af A26.out).mono ?_); (case Ae => exact pC (Kd.C_below HR339.out HB.out)); (case Af => exact HC339.out); rintro e w' ⟨rfl, ⟨nd, rfl⟩⟩; refine ⟨_, rfl, ?_⟩; (try (rw [drewN_self wc]; generalize hq_ : World.drewN wc _ = wc; replace Ab : Aside0 (wc.heap[Ad]? = some (.cells #[.bool false, .slice none 0 0, .int .i64 0, .int .i64 0, .int .i64 0, .int .u32 0] 50 (0, 0))) := ⟨by rw [← hq_]; exact (pK Ab.out)⟩; replace HB : Aside0 (Below w.heap.size w wc) := ⟨by rw [← hq_]; exact (pE HB.out Ac.out)⟩; clear hq_)); obtain ⟨_, _, _, _, _, _⟩ := bc6 Ab.out; obtain ⟨_, _, _, _, _, _⟩ := bf6 Ab.out))
    refine bodyPost_ret (results_ctt rfl _ _ Ad 50 #[.bool false, .slice none 0 0, .int .i64 0, .int .i64 0, .int .i64 0, .int .u32 0] (0, 0) _ rfl (kX0 Ab.out) Try.underlying50 rfl (by kernel_rfl)) rfl ?_
    exact ⟨_, pX, zn, pE HB.out Ac.out⟩
   rw [if_pos c27] at H
   obtain ⟨c27b0, c27b1⟩ := zc c27
   clear c27
   by_cases c28 : t340 > 32
   ·rw [if_pos c28] at H
    have c28b0 : decide (32 < t340) = true := decide_eq_true c28
    clear c28
    simp only [Option.some.injEq, Prod.mk.injEq] at H
    obtain ⟨rfl, rfl, rfl, rfl, rfl, rfl, rfl, rfl⟩ := H
    have p330 : 0 ≤ (0 : Int) := (by omega)
    have q330 : 0 < (l0.length : Int) := of_decide_eq_true pS
    obtain ⟨Ah, e330, Aa⟩ := Kd.at_int HR0.out 0 p330 q330
    cases e330
    have qi330 : (0 < l0.length) = True := eq_true (by omega)
    (try simp only [tz, Addr.add_zero'] at Aa)
    replace Aa := cU HB.out Aa
    replace p330 := eq_true p330
    replace q330 := eq_true q330
    obtain ⟨i029, hi029, _, As, _⟩ := info_parts info5
    obtain ⟨A29, hcut29, hA29, A1⟩ := print_drop_of (P := Try.prog) (Value.int .u8) 0 22 5 .i64 Try.underlying22 hi029 As (some Ah) c0 l0 1 (by omega) (of_decide_eq_true pS) HC0.out
    have HR339 := Am (Kd.C_of_reads (h1 := fun _ => rfl) (hA29 _ (Kd.reads_of_C HR0.out)))
    have HC339 := Am A1
    clear hA29 A1 hi029 As
    go_wp2_with (first | ((with_reducible refine zC 19 rfl ?_); refine goesL_ (some 44) rfl rfl Try.func19 (by kernel_rfl) rfl #[.slice A29 (l0.drop 1).length (c0 - 1)] rfl (by (try simp only [List.map_toArray, List.map_cons, List.map_nil]); first | done | (rw [show (l0.drop 1).length = (l0.length - 1) from List.length_drop] <;> rfl) | rfl | (simp only [List.length_drop, List.length_take]; rfl)) ?_; (with_reducible refine (varint_Get.calls kj1 _ _ (l0.drop 1) t340 t341 t342 _ ?Ae ?Af A26.out).mono ?_); (case Ae => exact pC (Kd.C_below HR339.out HB.out)); (case Af => exact HC339.out); rintro e w' ⟨rfl, ⟨nd, rfl⟩⟩; refine ⟨_, rfl, ?_⟩; (try (rw [drewN_self wc]; generalize hq_ : World.drewN wc _ = wc; replace Ab : Aside0 (wc.heap[Ad]? = some (.cells #[.bool false, .slice none 0 0, .int .i64 0, .int .i64 0, .int .i64 0, .int .u32 0] 50 (0, 0))) := ⟨by rw [← hq_]; exact (pK Ab.out)⟩; replace HB : Aside0 (Below w.heap.size w wc) := ⟨by rw [← hq_]; exact (pE HB.out Ac.out)⟩; clear hq_)); obtain ⟨_, _, _, _, _, _⟩ := bc6 Ab.out; obtain ⟨_, _, _, _, _, _⟩ := bf6 Ab.out))
    refine bodyPost_ret (results_ctt rfl _ _ Ad 50 #[.bool false, .slice none 0 0, .int .i64 0, .int .i64 0, .int .i64 0, .int .u32 0] (0, 0) _ rfl (kX0 Ab.out) Try.underlying50 rfl (by kernel_rfl)) rfl ?_
    exact ⟨_, pX, zn, pE HB.out Ac.out⟩
   rw [if_neg c28] at H
   have c28b0 : decide (32 < t340) = false := decide_eq_false c28
   clear c28
   by_cases c31 : (wrap64 ((wrap64 ((l0.length : Int) - 1)) - t341)) < (wrap64 (t340))
   ·rw [if_pos c31] at H
    have c31b0 := decide_eq_true c31
    clear c31
    simp only [Option.some.injEq, Prod.mk.injEq] at H
    obtain ⟨rfl, rfl, rfl, rfl, rfl, rfl, rfl, rfl⟩ := H
    have p330 : 0 ≤ (0 : Int) := (by omega)
    have q330 : 0 < (l0.length : Int) := of_decide_eq_true pS
    obtain ⟨Ah, e330, Aa⟩ := Kd.at_int HR0.out 0 p330 q330
    cases e330
    have qi330 : (0 < l0.length) = True := eq_true (by omega)
    (try simp only [tz, Addr.add_zero'] at Aa)
    replace Aa := cU HB.out Aa
    replace p330 := eq_true p330
    replace q330 := eq_true q330
    obtain ⟨i032, hi032, _, At, _⟩ := info_parts info5
    obtain ⟨A32, hcut32, hA32, A2⟩ := print_drop_of (P := Try.prog) (Value.int .u8) 0 22 5 .i64 Try.underlying22 hi032 At (some Ah) c0 l0 1 (by omega) (of_decide_eq_true pS) HC0.out
    have HR339 := Am (Kd.C_of_reads (h1 := fun _ => rfl) (hA32 _ (Kd.reads_of_C HR0.out)))
    have HC339 := Am A2
    clear hA32 A2 hi032 At
    go_wp2_with (first | ((with_reducible refine zC 19 rfl ?_); refine goesL_ (some 44) rfl rfl Try.func19 (by kernel_rfl) rfl #[.slice A32 (l0.drop 1).length (c0 - 1)] rfl (by (try simp only [List.map_toArray, List.map_cons, List.map_nil]); first | done | (rw [show (l0.drop 1).length = (l0.length - 1) from List.length_drop] <;> rfl) | rfl | (simp only [List.length_drop, List.length_take]; rfl)) ?_; (with_reducible refine (varint_Get.calls kj1 _ _ (l0.drop 1) t340 t341 t342 _ ?Ae ?Af A26.out).mono ?_); (case Ae => exact pC (Kd.C_below HR339.out HB.out)); (case Af => exact HC339.out); rintro e w' ⟨rfl, ⟨nd, rfl⟩⟩; refine ⟨_, rfl, ?_⟩; (try (rw [drewN_self wc]; generalize hq_ : World.drewN wc _ = wc; replace Ab : Aside0 (wc.heap[Ad]? = some (.cells #[.bool false, .slice none 0 0, .int .i64 0, .int .i64 0, .int .i64 0, .int .u32 0] 50 (0, 0))) := ⟨by rw [← hq_]; exact (pK Ab.out)⟩; replace HB : Aside0 (Below w.heap.size w wc) := ⟨by rw [← hq_]; exact (pE HB.out Ac.out)⟩; clear hq_)); obtain ⟨_, _, _, _, _, _⟩ := bc6 Ab.out; obtain ⟨_, _, _, _, _, _⟩ := bf6 Ab.out))
    refine bodyPost_ret (results_ctt rfl _ _ Ad 50 #[.bool false, .slice none 0 0, .int .i64 0, .int .i64 0, .int .i64 0, .int .u32 0] (0, 0) _ rfl (kX0 Ab.out) Try.underlying50 rfl (by kernel_rfl)) rfl ?_
    exact ⟨_, pX, zn, pE HB.out Ac.out⟩
   rw [if_neg c31] at H
   have c31b0 := decide_eq_false c31
   clear c31
   obtain ⟨ji34, hji34⟩ : ∃ j_ : Int, (wrap64 (1 + t341)) = j_ := ⟨_, rfl⟩
   replace H : (if 0 ≤ (ji34) then (if (ji34) ≤ (wrap64 ((ji34) + (wrap64 (t340)))) then (if (wrap64 ((ji34) + (wrap64 (t340)))) ≤ (l0.length : Int) then ((bytes_Clone.f ((l0.take ((wrap64 ((ji34) + (wrap64 (t340)))) : Int).toNat).drop ((ji34) : Int).toNat)).bind fun t344 => (some (false, t344, 0, 0, 0, 0, wrap64 ((ji34) + (wrap64 (t340))), 0))) else (none)) else (none)) else (none)) = some (r1, r2, r3, r4, r5, r6, r7, r8) := by first | (rw [hji34] at H; exact H) | (simp only [hji34] at H ⊢; exact H)
   (try rw [hji34] at c31b0)
   (try rw [hji34] at A26)
   have hji34w : (IntKind.i64.wrap (1 + t341)) = ji34 := (i64_w _).trans hji34
   obtain ⟨c35, H⟩ := zI H
   have c35b0 := eq_true c35
   have c35b1 := decide_eq_true c35
   clear c35
   obtain ⟨c36, H⟩ := zI H
   have c36b0 := eq_true c36
   have c36b1 := decide_eq_true c36
   obtain ⟨c37, H⟩ := zI H
   have c37b0 := eq_true c37
   have c37b1 := decide_eq_true c37
   obtain ⟨t344, A38, H⟩ := zb H
   simp only [Option.some.injEq, Prod.mk.injEq] at H
   obtain ⟨rfl, rfl, rfl, rfl, rfl, rfl, rfl, rfl⟩ := H
   have p330 : 0 ≤ (0 : Int) := (by omega)
   have q330 : 0 < (l0.length : Int) := of_decide_eq_true pS
   obtain ⟨Ah, e330, Aa⟩ := Kd.at_int HR0.out 0 p330 q330
   cases e330
   have qi330 : (0 < l0.length) = True := eq_true (by omega)
   (try simp only [tz, Addr.add_zero'] at Aa)
   replace Aa := cU HB.out Aa
   replace p330 := eq_true p330
   replace q330 := eq_true q330
   obtain ⟨i039, hi039, _, Au, _⟩ := info_parts info5
   obtain ⟨A39, hcut39, hA39, A3⟩ := print_drop_of (P := Try.prog) (Value.int .u8) 0 22 5 .i64 Try.underlying22 hi039 Au (some Ah) c0 l0 1 (by omega) (of_decide_eq_true pS) HC0.out
   have HR339 := Am (Kd.C_of_reads (h1 := fun _ => rfl) (hA39 _ (Kd.reads_of_C HR0.out)))
   have HC339 := Am A3
   clear hA39 A3 hi039 Au
   go_wp2_with (first | ((with_reducible refine zC 19 rfl ?_); refine goesL_ (some 44) rfl rfl Try.func19 (by kernel_rfl) rfl #[.slice A39 (l0.drop 1).length (c0 - 1)] rfl (by (try simp only [List.map_toArray, List.map_cons, List.map_nil]); first | done | (rw [show (l0.drop 1).length = (l0.length - 1) from List.length_drop] <;> rfl) | rfl | (simp only [List.length_drop, List.length_take]; rfl)) ?_; (with_reducible refine (varint_Get.calls kj1 _ _ (l0.drop 1) t340 t341 t342 _ ?Ae ?Af A26.out).mono ?_); (case Ae => exact pC (Kd.C_below HR339.out HB.out)); (case Af => exact HC339.out); rintro e w' ⟨rfl, ⟨nd, rfl⟩⟩; refine ⟨_, rfl, ?_⟩; (try (rw [drewN_self wc]; generalize hq_ : World.drewN wc _ = wc; replace Ab : Aside0 (wc.heap[Ad]? = some (.cells #[.bool false, .slice none 0 0, .int .i64 0, .int .i64 0, .int .i64 0, .int .u32 0] 50 (0, 0))) := ⟨by rw [← hq_]; exact (pK Ab.out)⟩; replace HB : Aside0 (Below w.heap.size w wc) := ⟨by rw [← hq_]; exact (pE HB.out Ac.out)⟩; clear hq_)); obtain ⟨i040, hi040, _, Av, _⟩ := info_parts info5; obtain ⟨A40, hcut40, hA40, A4⟩ := print_mid_of (P := Try.prog) (Value.int .u8) 0 22 5 .i64 .i64 Try.underlying22 hi040 Av (some Ah) c0 l0 (ji34) (wrap64 ((ji34) + (wrap64 (t340)))) (of_decide_eq_true pS) (by first | omega | exact of_decide_eq_true pS) (of_decide_eq_true pS) HC0.out; have HR343 := Am (Kd.C_of_reads (h1 := fun _ => rfl) (hA40 _ (Kd.reads_of_C HR0.out))); have HC343 := Am A4; clear hA40 A4 hi040 Av) | ((with_reducible refine zC 85 rfl ?_); refine goesL_ (some 75) rfl rfl Try.func85 (by kernel_rfl) rfl #[.slice A40 ((l0.take ((wrap64 ((ji34) + (wrap64 (t340)))) : Int).toNat).drop ((ji34) : Int).toNat).length (c0 - (ji34).toNat)] rfl (by (try simp only [List.map_toArray, List.map_cons, List.map_nil]); first | done | (rw [show ((l0.take ((wrap64 ((ji34) + (wrap64 (t340)))) : Int).toNat).drop ((ji34) : Int).toNat).length = ((wrap64 ((ji34) + (wrap64 (t340)))).toNat - (ji34).toNat) from (by rw [List.length_drop, List.length_take]; have h_ : ((wrap64 ((ji34) + (wrap64 (t340)))) : Int) ≤ (l0.length : Int) := of_decide_eq_true pS; omega)] <;> rfl) | (simp only [hji34]; rfl) | rfl | (simp only [List.length_drop, List.length_take]; rfl)) ?_; (with_reducible refine (bytes_Clone.calls _ _ ((l0.take ((wrap64 ((ji34) + (wrap64 (t340)))) : Int).toNat).drop ((ji34) : Int).toNat) t344 _ ?Ae ?Af A38.out).mono ?_); (case Ae => exact pC (Kd.C_below HR343.out HB.out)); (case Af => exact HC343.out); rintro e w41 ⟨v345, rfl, ho0, hb⟩; refine ⟨_, rfl, ?_⟩; have Aw := Am (Kd.R_lower ho0 (below_size (pE HB.out Ac.out))); replace Ab := kBa Ab hb; replace HB := zX1 HB Ac.out hb; (try clear hb); (try clear ho0); obtain ⟨A7, A8, A9⟩ := Kd.R_slice Aw.out; subst A9; obtain ⟨_, _, _, _, _, _⟩ := bc6 Ab.out; obtain ⟨_, _, _, _, _, _⟩ := bf6 Ab.out))
   refine bodyPost_ret (results_ctt rfl _ _ Ad 50 #[.bool false, .slice A7 t344.length A8, .int .i64 0, .int .i64 0, .int .i64 0, .int .u32 0] (0, 0) _ rfl (kX0 Ab.out) Try.underlying50 rfl (by kernel_rfl)) rfl ?_
   exact ⟨_, by first | rfl | (simp [errW_none, errW_some] <;> rfl) | (simp only [← hji34]; first | rfl | (simp [errW_none, errW_some] <;> rfl)) | (simp [*, errW_none, errW_some] <;> rfl), by (with_reducible repeat (first | apply Kd.R_alloc | apply Kd.R_drewN | apply Kd.R_drew)); exact Kd.R_mono (Rf6 (g := Ad) (Kd.R_types Aw.out Ab.out (by decide)) (fun _ hk => hk.2)) (fun _ hk => trivial), pE HB.out Ac.out⟩
end
section
attribute [local go_sem] max2_int min2_int max_two min_two max_three min_three max_four min_four
attribute [local go_sem] wrap64_l1 wrap64_l2 wrap64_l3 wrap64_l4 wrap64_l5
/-- The taker's block: a cut of a row that came in, and its sign. -/
def entry_Get.Tk (Ad : Nat) (A : Option Addr) (n c : Nat) (bad : Bool) (w : World) : Prop := w.heap[Ad]? = some (.cells #[.slice A n c, .bool bad] 88 (0, 0))
def entry_Get.t_number.f (k : Nat) (l : List Int) (bad : Bool) (most : Int) : Option (Int × List Int × Bool) :=
 (varint_Get.f k l).bind fun g => if bad = true then some (0, l, true) else if g.2.2 = 0 then (if g.1 > IntKind.u64.wrap most then some (0, l, true) else if 0 ≤ g.2.1 ∧ g.2.1 ≤ (l.length : Int) then some (wrap64 g.1, l.drop g.2.1.toNat, false) else none) else some (0, l, true)
set_option maxHeartbeats 2000000 in
set_option maxRecDepth 100000 in
theorem entry_Get.t_number.calls (k : Nat) (Ad : Nat) (A0 : Option Addr) (c0 : Nat) (l0 : List Int) (bad : Bool) (most : Int) (r : Int) (l1 : List Int) (b1 : Bool) (w0 w : World) (hr0 : Kd.C (Kd.int .u8) w0 A0 l0.length l0) (hc0 : l0.length ≤ c0) (hB : Below w0.heap.size w0 w) (hn : w0.heap.size ≤ Ad) (hT : entry_Get.Tk Ad A0 l0.length c0 bad w) (h : entry_Get.t_number.f k l0 bad most = some (r, l1, b1)) :
 Calls Try.prog 41 #[.pointer (some ⟨Ad, 0, none⟩), .int .i64 most] w fun e w' => e = .returned (.int .i64 r) ∧ ∃ A1 c1, Kd.C (Kd.int .u8) w0 A1 l1.length l1 ∧ l1.length ≤ c1 ∧ entry_Get.Tk Ad A1 l1.length c1 b1 w' ∧ KeepBut w w' Ad none ∧ Below w0.heap.size w0 w' := by
 unfold entry_Get.t_number.f at h
 replace h := Option.bind_eq_some_iff.mp h
 obtain ⟨⟨u, n, e⟩, hg, h⟩ := h
 simp only at h
 have HR := Aside0.mk (Kd.C_below hr0 hB)
 have HR0 := Aside0.mk hr0
 have HC := Aside0.mk hc0
 have HG := Aside0.mk hg
 have HBB := Aside0.mk hB
 have hT' : w.heap[Ad]? = some (.cells #[.slice A0 l0.length c0, .bool bad] 88 (0, 0)) := hT
 have hc1 : w.cell? ⟨Ad, 0, none⟩ = some (.slice A0 l0.length c0) := by simp [World.cell?, hT']
 have hc2 : w.cell? ⟨Ad, 1, none⟩ = some (.bool bad) := by simp [World.cell?, hT']
 clear hr0 hc0 hg
 have hc3 : w.frozen? ⟨Ad, 0, none⟩ = false := blk_frozen hT' 0
 have hc4 : w.frozen? ⟨Ad, 1, none⟩ = false := blk_frozen hT' 1
 have HT := Aside0.mk hT'
 have hmost : IntKind.u64.wrap most = IntKind.u64.wrap most := rfl
 have fail : ∀ nd, ((0 : Int), l0, true) = (r, l1, b1) → (Ending.returned (.int .i64 0) = .returned (.int .i64 r) ∧ ∃ A1 c1, Kd.C (Kd.int .u8) w0 A1 l1.length l1 ∧ l1.length ≤ c1 ∧ entry_Get.Tk Ad A1 l1.length c1 b1 ((w.drewN nd).setCell ⟨Ad, 1, none⟩ (.bool true)) ∧ KeepBut w ((w.drewN nd).setCell ⟨Ad, 1, none⟩ (.bool true)) Ad none ∧ Below w0.heap.size w0 ((w.drewN nd).setCell ⟨Ad, 1, none⟩ (.bool true))) := by
  intro nd he
  simp only [Prod.mk.injEq] at he
  obtain ⟨rfl, rfl, rfl⟩ := he
  refine ⟨rfl, A0, c0, HR0.out, HC.out, ?_, ?_, ?_⟩
  ·exact blk_set (w := w.drewN nd) HT.out 1 _
  ·exact KeepBut.set_ (KeepBut.of_below (pw_below_drewN (Below.refl _ _) nd) Ad none) 1 _
  ·exact (pw_below_drewN HBB.out nd).setCell hn _
 clear hmost hB hT hT'
 by_cases b0 : bad = true
 ·subst b0
  rw [if_pos rfl] at h
  have H := Aside0.mk (Option.some.inj h); clear h
  go_enter Try.func41, Try.ntmps41
  go_wp2_with (go_at_call 19; refine (varint_Get.calls k _ _ l0 u n e _ HR.out HC.out HG.out).mono ?_; rintro e w' ⟨rfl, ⟨nd, rfl⟩⟩)
  go_ret
  exact fail _ H.out
 obtain rfl : bad = false := by simpa using b0
 rw [if_neg (by simp)] at h
 by_cases b1 : e = 0
 ·subst b1
  rw [if_pos rfl] at h
  by_cases b2 : u > IntKind.u64.wrap most
  ·rw [if_pos b2] at h
   have H := Aside0.mk (Option.some.inj h); clear h
   have b2' : decide (u > IntKind.u64.wrap most) = true := decide_eq_true b2
   clear b2
   go_enter Try.func41, Try.ntmps41
   go_wp2_with (go_at_call 19; refine (varint_Get.calls k _ _ l0 u n 0 _ HR.out HC.out HG.out).mono ?_; rintro e w' ⟨rfl, ⟨nd, rfl⟩⟩)
   go_ret
   exact fail _ H.out
  ·rw [if_neg b2] at h
   by_cases b3 : 0 ≤ n ∧ n ≤ (l0.length : Int)
   ·rw [if_pos b3] at h
    have H := Aside0.mk (Option.some.inj h)
    clear h
    have b2' : decide (u > IntKind.u64.wrap most) = false := decide_eq_false b2
    clear b2
    obtain ⟨i0, hi0, _, Ar, _⟩ := info_parts info5
    obtain ⟨A1, hcut, hA, hAc⟩ := print_drop_of (P := Try.prog) (Value.int .u8) 0 22 5 .i64 Try.underlying22 hi0 Ar A0 c0 l0 n b3.1 b3.2 HC.out
    have HR1 := Aside0.mk (Kd.C_of_reads (h1 := fun _ => rfl) (hA _ (Kd.reads_of_C HR0.out)))
    have HC1 := Aside0.mk hAc
    have HL := Aside0.mk b3
    clear hA hAc hi0 Ar b3
    go_enter Try.func41, Try.ntmps41
    go_wp2_with (go_at_call 19; refine (varint_Get.calls k _ _ l0 u n 0 _ HR.out HC.out HG.out).mono ?_; rintro e w' ⟨rfl, ⟨nd, rfl⟩⟩)
    go_ret
    have HE := H.out
    simp only [Prod.mk.injEq] at HE
    obtain ⟨rfl, rfl, rfl⟩ := HE
    have hlen : (l0.drop n.toNat).length = l0.length - n.toNat := List.length_drop
    refine ⟨rfl, A1, _, HR1.out, HC1.out, ?_, ?_, ?_⟩
    ·rw [hlen]; exact blk_set (w := w.drewN nd) HT.out 0 _
    ·exact KeepBut.set_ (KeepBut.of_below (pw_below_drewN (Below.refl _ _) nd) Ad none) 0 _
    ·exact (pw_below_drewN HBB.out nd).setCell hn _
   ·rw [if_neg b3] at h
    exact absurd h (by simp)
 ·rw [if_neg b1] at h
  have H := Aside0.mk (Option.some.inj h); clear h
  have b1' : (e != 0) = true := bne_iff_ne.mpr b1
  have b1'' : (e == 0) = false := beq_eq_false_iff_ne.mpr b1
  clear b1
  go_enter Try.func41, Try.ntmps41
  go_wp2_with (go_at_call 19; refine (varint_Get.calls k _ _ l0 u n e _ HR.out HC.out HG.out).mono ?_; rintro e w' ⟨rfl, ⟨nd, rfl⟩⟩)
  go_ret
  exact fail _ H.out
def entry_Get.t_bytes.f (l : List Int) (bad : Bool) (n : Int) : Option (List Int × List Int × Bool) :=
 if bad = true then some ([], l, true) else if n > (l.length : Int) then some ([], l, true) else if 0 ≤ n then some (l.take n.toNat, l.drop n.toNat, false) else none
set_option maxHeartbeats 2000000 in
set_option maxRecDepth 100000 in
theorem entry_Get.t_bytes.calls (Ad : Nat) (A0 : Option Addr) (c0 : Nat) (l0 : List Int) (bad : Bool) (n : Int) (r : List Int) (l1 : List Int) (b1 : Bool) (w0 w : World) (hr0 : Kd.C (Kd.int .u8) w0 A0 l0.length l0) (hc0 : l0.length ≤ c0) (hB : Below w0.heap.size w0 w) (hn : w0.heap.size ≤ Ad) (hT : entry_Get.Tk Ad A0 l0.length c0 bad w) (h : entry_Get.t_bytes.f l0 bad n = some (r, l1, b1)) :
 Calls Try.prog 65 #[.pointer (some ⟨Ad, 0, none⟩), .int .i64 n] w fun e w' => ∃ A2 c2 A1 c1, e = .returned (.slice A2 r.length c2) ∧ Kd.C (Kd.int .u8) w0 A2 r.length r ∧ r.length ≤ c2 ∧ Kd.C (Kd.int .u8) w0 A1 l1.length l1 ∧ l1.length ≤ c1 ∧ entry_Get.Tk Ad A1 l1.length c1 b1 w' ∧ KeepBut w w' Ad none ∧ Below w0.heap.size w0 w' := by
 unfold entry_Get.t_bytes.f at h
 have HR0 := Aside0.mk hr0
 have HC := Aside0.mk hc0
 have HBB := Aside0.mk hB
 have hT' : w.heap[Ad]? = some (.cells #[.slice A0 l0.length c0, .bool bad] 88 (0, 0)) := hT
 have hc1 : w.cell? ⟨Ad, 0, none⟩ = some (.slice A0 l0.length c0) := by simp [World.cell?, hT']
 have hc2 : w.cell? ⟨Ad, 1, none⟩ = some (.bool bad) := by simp [World.cell?, hT']
 have hc3 : w.frozen? ⟨Ad, 0, none⟩ = false := blk_frozen hT' 0
 have hc4 : w.frozen? ⟨Ad, 1, none⟩ = false := blk_frozen hT' 1
 have HT := Aside0.mk hT'
 have fail : (([] : List Int), l0, true) = (r, l1, b1) → ∃ A2 c2 A1 c1, Ending.returned (.slice none 0 0) = .returned (.slice A2 r.length c2) ∧ Kd.C (Kd.int .u8) w0 A2 r.length r ∧ r.length ≤ c2 ∧ Kd.C (Kd.int .u8) w0 A1 l1.length l1 ∧ l1.length ≤ c1 ∧ entry_Get.Tk Ad A1 l1.length c1 b1 (w.setCell ⟨Ad, 1, none⟩ (.bool true)) ∧ KeepBut w (w.setCell ⟨Ad, 1, none⟩ (.bool true)) Ad none ∧ Below w0.heap.size w0 (w.setCell ⟨Ad, 1, none⟩ (.bool true)) := by
  intro he
  simp only [Prod.mk.injEq] at he
  obtain ⟨rfl, rfl, rfl⟩ := he
  refine ⟨none, 0, A0, c0, rfl, Kd.C_nil _ _, Nat.le_refl _, HR0.out, HC.out, ?_, ?_, ?_⟩
  ·exact blk_set HT.out 1 _
  ·exact KeepBut.set_ (KeepBut.refl _ _ _) 1 _
  ·exact HBB.out.setCell hn _
 clear hB hT hT' hr0 hc0
 by_cases b0 : bad = true
 ·subst b0
  rw [if_pos rfl] at h
  have H := Aside0.mk (Option.some.inj h); clear h
  go_enter Try.func65, Try.ntmps65
  go_wp2
  go_ret
  exact fail H.out
 obtain rfl : bad = false := by simpa using b0
 rw [if_neg (by simp)] at h
 by_cases b2 : n > (l0.length : Int)
 ·rw [if_pos b2] at h
  have H := Aside0.mk (Option.some.inj h); clear h
  have b2' : decide ((l0.length : Int) < n) = true := decide_eq_true b2
  clear b2
  go_enter Try.func65, Try.ntmps65
  go_wp2
  go_ret
  exact fail H.out
 ·rw [if_neg b2] at h
  by_cases b3 : 0 ≤ n
  ·rw [if_pos b3] at h
   have H := Aside0.mk (Option.some.inj h)
   clear h
   have b2' : decide ((l0.length : Int) < n) = false := decide_eq_false b2
   have b4 : n ≤ (l0.length : Int) := by omega
   clear b2
   obtain ⟨i0, hi0, _, Ar, _⟩ := info_parts info5
   obtain ⟨A1, hcut, hA, hAc⟩ := print_drop_of (P := Try.prog) (Value.int .u8) 0 22 5 .i64 Try.underlying22 hi0 Ar A0 c0 l0 n b3 b4 HC.out
   obtain ⟨hcut2, hA2, hAc2⟩ := print_take_of (P := Try.prog) (Value.int .u8) 0 22 5 .i64 Try.underlying22 hi0 Ar A0 c0 l0 n b3 b4 HC.out
   have HR1 := Aside0.mk (Kd.C_of_reads (h1 := fun _ => rfl) (hA _ (Kd.reads_of_C HR0.out)))
   have HR2 := Aside0.mk (Kd.C_of_reads (h1 := fun _ => rfl) (hA2 _ (Kd.reads_of_C HR0.out)))
   have HC1 := Aside0.mk hAc
   have HC2 := Aside0.mk hAc2
   have HL := Aside0.mk (And.intro b3 b4)
   clear hA hAc hi0 Ar b3 b4 hA2 hAc2
   go_enter Try.func65, Try.ntmps65
   go_wp2
   go_ret
   have HE := H.out
   simp only [Prod.mk.injEq] at HE
   obtain ⟨rfl, rfl, rfl⟩ := HE
   have hlen : (l0.drop n.toNat).length = l0.length - n.toNat := List.length_drop
   have hlen2 : (l0.take n.toNat).length = min n.toNat l0.length := List.length_take
   refine ⟨A0, _, A1, _, ?_, HR2.out, HC2.out, HR1.out, HC1.out, ?_, ?_, ?_⟩
   ·rw [hlen2]; rfl
   ·rw [hlen]; exact blk_set HT.out 0 _
   ·exact KeepBut.set_ (KeepBut.refl _ _ _) 0 _
   ·exact HBB.out.setCell hn _
  ·rw [if_neg b3] at h
   exact absurd h (by simp)
theorem entry_Get.six_blk {w : World} {k g : Nat} {o : Option Obj} {v0 v1 v2 v3 v4 v5 : Value} {i0 i1 i2 i3 i4 i5 : Nat} (hk : k ≠ g) (h : w.heap[k]? = o) : ((((((w.setCell ⟨g, i0, none⟩ v0).setCell ⟨g, i1, none⟩ v1).setCell ⟨g, i2, none⟩ v2).setCell ⟨g, i3, none⟩ v3).setCell ⟨g, i4, none⟩ v4).setCell ⟨g, i5, none⟩ v5).heap[k]? = o := by
 exact (Below.heap_setCell _ ⟨g, i5, none⟩ _ k hk).trans <| (Below.heap_setCell _ ⟨g, i4, none⟩ _ k hk).trans <| (Below.heap_setCell _ ⟨g, i3, none⟩ _ k hk).trans <| (Below.heap_setCell _ ⟨g, i2, none⟩ _ k hk).trans <| (Below.heap_setCell _ ⟨g, i1, none⟩ _ k hk).trans <| (Below.heap_setCell _ ⟨g, i0, none⟩ _ k hk).trans <| h
theorem entry_Get.six_keep {w W : World} {a g : Nat} {row : Option Nat} {v0 v1 v2 v3 v4 v5 : Value} {i0 i1 i2 i3 i4 i5 : Nat} (h : KeepBut w W a row) (hg : w.heap.size ≤ g) : KeepBut w ((((((W.setCell ⟨g, i0, none⟩ v0).setCell ⟨g, i1, none⟩ v1).setCell ⟨g, i2, none⟩ v2).setCell ⟨g, i3, none⟩ v3).setCell ⟨g, i4, none⟩ v4).setCell ⟨g, i5, none⟩ v5) a row :=
 keep_far (keep_far (keep_far (keep_far (keep_far (keep_far h hg _) hg _) hg _) hg _) hg _) hg _
theorem entry_Get.six_below {B : Nat} {w W : World} {g : Nat} {v0 v1 v2 v3 v4 v5 : Value} {i0 i1 i2 i3 i4 i5 : Nat} (h : Below B w W) (hg : B ≤ g) : Below B w ((((((W.setCell ⟨g, i0, none⟩ v0).setCell ⟨g, i1, none⟩ v1).setCell ⟨g, i2, none⟩ v2).setCell ⟨g, i3, none⟩ v3).setCell ⟨g, i4, none⟩ v4).setCell ⟨g, i5, none⟩ v5) :=
 (((((h.setCell hg _).setCell hg _).setCell hg _).setCell hg _).setCell hg _).setCell hg _
def entry_Get.t_cell.f (k : Nat) (l : List Int) (bad : Bool) : Option (Bool × List Int × Int × Int × Int × Int × List Int × Bool) :=
 (cell_Get.f k l).bind fun g => if bad = true then some (false, [], 0, 0, 0, 0, l, true) else if g.2.2.2.2.2.2.2 = 0 then (if 0 ≤ g.2.2.2.2.2.2.1 ∧ g.2.2.2.2.2.2.1 ≤ (l.length : Int) then some (g.1, g.2.1, g.2.2.1, g.2.2.2.1, g.2.2.2.2.1, g.2.2.2.2.2.1, l.drop g.2.2.2.2.2.2.1.toNat, false) else none) else some (false, [], 0, 0, 0, 0, l, true)
set_option maxHeartbeats 2000000 in
set_option maxRecDepth 100000 in
theorem entry_Get.t_cell.calls (k : Nat) (Ad : Nat) (A0 : Option Addr) (c0 : Nat) (l0 : List Int) (bad : Bool) (r1 : Bool) (r2 : List Int) (r3 r4 r5 r6 : Int) (l1 : List Int) (b1 : Bool) (w0 w : World) (hr0 : Kd.C (Kd.int .u8) w0 A0 l0.length l0) (hc0 : l0.length ≤ c0) (hB : Below w0.heap.size w0 w) (hn : w0.heap.size ≤ Ad) (hT : entry_Get.Tk Ad A0 l0.length c0 bad w) (h : entry_Get.t_cell.f k l0 bad = some (r1, r2, r3, r4, r5, r6, l1, b1)) :
 Calls Try.prog 66 #[.pointer (some ⟨Ad, 0, none⟩)] w fun e w' => ∃ v A1 c1, e = .returned (.agg #[.bool r1, v, .int .i64 r3, .int .i64 r4, .int .i64 r5, .int .u32 r6]) ∧ Kd.R (Kd.int .u8) 5 w' w.heap.size (fun _ => True) v r2 ∧ Kd.C (Kd.int .u8) w0 A1 l1.length l1 ∧ l1.length ≤ c1 ∧ entry_Get.Tk Ad A1 l1.length c1 b1 w' ∧ KeepBut w w' Ad none ∧ Below w0.heap.size w0 w' := by
 unfold entry_Get.t_cell.f at h
 replace h := Option.bind_eq_some_iff.mp h
 obtain ⟨⟨g1, g2, g3, g4, g5, g6, n, e⟩, hg, h⟩ := h
 simp only at h
 have hu40 := Try.underlying50
 have hu38 := Try.underlying48
 have HR := Aside0.mk (Kd.C_below hr0 hB)
 have HR0 := Aside0.mk hr0
 have HC := Aside0.mk hc0
 have HG := Aside0.mk hg
 have HBB := Aside0.mk hB
 have hT' : w.heap[Ad]? = some (.cells #[.slice A0 l0.length c0, .bool bad] 88 (0, 0)) := hT
 have hc1 : w.cell? ⟨Ad, 0, none⟩ = some (.slice A0 l0.length c0) := by simp [World.cell?, hT']
 have HT := Aside0.mk hT'
 have hAd := Aside0.mk (blk_lt hT')
 clear hr0 hc0 hg hT hT' hB
 have key : ∀ w1 : World, Below w.heap.size w w1 → w1.heap[Ad]? = some (.cells #[.slice A0 l0.length c0, .bool bad] 88 (0, 0)) := fun w1 hb => blk_below HT.out hb
 by_cases b0 : bad = true
 ·subst b0
  rw [if_pos rfl] at h
  have H := Aside0.mk (Option.some.inj h); clear h
  go_enter Try.func66, Try.ntmps66
  go_upto_region 1 with (first | ((with_reducible refine zD 2 rfl ?_); refine zE 2 #[.bool false, .slice none 0 0, .int .i64 0, .int .i64 0, .int .i64 0, .int .u32 0] 50 ?_; intro Bx hgx w3 hbox hb0; have hx := key _ hb0;  have d0 : w3.cell? ⟨Ad, 0, none⟩ = some (.slice A0 l0.length c0) := (by simp [World.cell?, hx]); have HX0 := Aside0.mk hx; have HBX := Aside0.mk hbox; have HB0 := Aside0.mk hb0; have HGX := Aside0.mk hgx; clear hx hbox hb0 hgx))
  go_wp2_with (first | (go_at_call 78; go_loud (refine (cell_Get.calls k _ _ l0 g1 g2 g3 g4 g5 g6 n e _ (Kd.C_below HR.out HB0.out) HC.out HG.out).mono ?_; rintro e w1 ⟨v1, rfl, hR, hb⟩; obtain ⟨Av, cv, rfl⟩ := Kd.R_slice hR; have HX1 := Aside0.mk (blk_below HX0.out hb); have HRR := Aside0.mk hR; have HB := Aside0.mk hb; have HBX1 := Aside0.mk (blk_below HBX.out hb); clear hR hb)) | ((with_reducible refine zD 3 rfl ?_); go_loud (refine zE 3 #[.bool false, .slice none 0 0, .int .i64 0, .int .i64 0, .int .i64 0, .int .u32 0] 50 ?_; intro By hgy w4 hboy hb1; have hx := blk_below HX1.out hb1; have d0 : w4.cell? ⟨Ad, 0, none⟩ = some (.slice A0 l0.length c0) := (by simp [World.cell?, hx]); have d1 : w4.cell? ⟨Ad, 1, none⟩ = some (.bool true) := (by simp [World.cell?, hx]); have d2 := blk_frozen hx 0; have d3 := blk_frozen hx 1; have hbx := blk_below HBX1.out hb1; obtain ⟨_, _, _, _, _, _⟩ := bc6 hbx; obtain ⟨_, _, _, _, _, _⟩ := bf6 hbx;  obtain ⟨_, _, _, _, _, _⟩ := bc6 hboy; obtain ⟨_, _, _, _, _, _⟩ := bf6 hboy; have HX := Aside0.mk hx; have HB1 := Aside0.mk hb1; have HBX2 := Aside0.mk hbx; have HBY := Aside0.mk hboy; have n1 : Ad ≠ Bx := (by have := hAd.out; have := HGX.out; omega); have n2 : Ad ≠ By := (by have := hAd.out; have := HB0.out.size; have := HB.out.size; omega); have n3 : Bx ≠ By := (by have := blk_lt HBX1.out; omega); have HGY := Aside0.mk hgy; clear hx hb1 hbx hboy hgy)))
  refine bodyPost_ret (results_cell_row rfl _ _ Bx 50 #[.bool false, .slice none 0 0, .int .i64 0, .int .i64 0, .int .i64 0, .int .u32 0] (0, 0) _ rfl (kX2 HBX2.out (n1 ∘ Eq.symm) n3) Try.underlying50 rfl (by kernel_rfl)) rfl ?_
  have HE := H.out
  simp only [Prod.mk.injEq] at HE
  obtain ⟨rfl, rfl, rfl, rfl, rfl, rfl, rfl, rfl⟩ := HE
  refine ⟨.slice none 0 0, A0, c0, rfl, Kd.R_nil _ _ _ _ _, HR0.out, HC.out, ?_, ?_, ?_⟩
  ·have q1 : w4.heap[Ad]? = some (.cells #[.slice A0 l0.length c0, .bool true] 88 (0, 0)) := HX.out
   refine entry_Get.six_blk (g := Bx) n1 ?_
   refine (blk_set (entry_Get.six_blk (g := By) n2 q1) 1 _).trans ?_
   rfl
  ·have q0 : Below w.heap.size w w4 := below_step (below_step HB0.out HB.out) HB1.out
   have y1 : w.heap.size ≤ Bx := by have := HGX.out; omega
   have y2 : w.heap.size ≤ By := by have := HGY.out; have := HB0.out.size; have := HB.out.size; omega
   have q1 : KeepBut w w4 Ad none := KeepBut.of_below q0 Ad none
   refine entry_Get.six_keep (g := Bx) (KeepBut.set_ (entry_Get.six_keep (g := By) q1 y2) _ _) y1
  ·have q0 : Below w.heap.size w w4 := below_step (below_step HB0.out HB.out) HB1.out
   have y1 : w.heap.size ≤ Bx := by have := HGX.out; omega
   have y2 : w.heap.size ≤ By := by have := HGY.out; have := HB0.out.size; have := HB.out.size; omega
   have y0 := HBB.out.size
   have y3 : w0.heap.size ≤ Bx := by omega
   have y4 : w0.heap.size ≤ By := by omega
   have q1 : Below w0.heap.size w0 w4 := HBB.out.trans (q0.mono y0)
   refine entry_Get.six_below (g := Bx) (Below.setCell (entry_Get.six_below (g := By) q1 y4) hn _) y3
 obtain rfl : bad = false := by simpa using b0
 rw [if_neg (by simp)] at h
 by_cases b1 : e = 0
 ·subst b1
  rw [if_pos rfl] at h
  by_cases b3 : 0 ≤ n ∧ n ≤ (l0.length : Int)
  ·rw [if_pos b3] at h
   have H := Aside0.mk (Option.some.inj h)
   clear h
   obtain ⟨i0, hi0, _, Ar, _⟩ := info_parts info5
   obtain ⟨A1, hcut, hA, hAc⟩ := print_drop_of (P := Try.prog) (Value.int .u8) 0 22 5 .i64 Try.underlying22 hi0 Ar A0 c0 l0 n b3.1 b3.2 HC.out
   have HR1 := Aside0.mk (Kd.C_of_reads (h1 := fun _ => rfl) (hA _ (Kd.reads_of_C HR0.out)))
   have HC1 := Aside0.mk hAc
   clear hA hAc hi0 Ar b3
   go_enter Try.func66, Try.ntmps66
   go_upto_region 1 with (first | ((with_reducible refine zD 2 rfl ?_); refine zE 2 #[.bool false, .slice none 0 0, .int .i64 0, .int .i64 0, .int .i64 0, .int .u32 0] 50 ?_; intro Bx hgx w3 hbox hb0; have hx := key _ hb0;  have d0 : w3.cell? ⟨Ad, 0, none⟩ = some (.slice A0 l0.length c0) := (by simp [World.cell?, hx]); have HX0 := Aside0.mk hx; have HBX := Aside0.mk hbox; have HB0 := Aside0.mk hb0; have HGX := Aside0.mk hgx; clear hx hbox hb0 hgx))
   go_wp2_with (first | (go_at_call 78; go_loud (refine (cell_Get.calls k _ _ l0 g1 g2 g3 g4 g5 g6 n 0 _ (Kd.C_below HR.out HB0.out) HC.out HG.out).mono ?_; rintro e w1 ⟨v1, rfl, hR, hb⟩; obtain ⟨Av, cv, rfl⟩ := Kd.R_slice hR; have HX1 := Aside0.mk (blk_below HX0.out hb); have HRR := Aside0.mk hR; have HB := Aside0.mk hb; have HBX1 := Aside0.mk (blk_below HBX.out hb); clear hR hb)) | ((with_reducible refine zD 3 rfl ?_); go_loud (refine zE 3 #[.bool false, .slice none 0 0, .int .i64 0, .int .i64 0, .int .i64 0, .int .u32 0] 50 ?_; intro By hgy w4 hboy hb1; have hx := blk_below HX1.out hb1; have d0 : w4.cell? ⟨Ad, 0, none⟩ = some (.slice A0 l0.length c0) := (by simp [World.cell?, hx]); have d1 : w4.cell? ⟨Ad, 1, none⟩ = some (.bool false) := (by simp [World.cell?, hx]); have d2 := blk_frozen hx 0; have d3 := blk_frozen hx 1; have hbx := blk_below HBX1.out hb1; obtain ⟨_, _, _, _, _, _⟩ := bc6 hbx; obtain ⟨_, _, _, _, _, _⟩ := bf6 hbx;  obtain ⟨_, _, _, _, _, _⟩ := bc6 hboy; obtain ⟨_, _, _, _, _, _⟩ := bf6 hboy; have HX := Aside0.mk hx; have HB1 := Aside0.mk hb1; have HBX2 := Aside0.mk hbx; have HBY := Aside0.mk hboy; have n1 : Ad ≠ Bx := (by have := hAd.out; have := HGX.out; omega); have n2 : Ad ≠ By := (by have := hAd.out; have := HB0.out.size; have := HB.out.size; omega); have n3 : Bx ≠ By := (by have := blk_lt HBX1.out; omega); have HGY := Aside0.mk hgy; clear hx hb1 hbx hboy hgy)))
   refine bodyPost_ret (results_cell_row rfl _ _ Bx 50 #[.bool g1, .slice Av g2.length cv, .int .i64 g3, .int .i64 g4, .int .i64 g5, .int .u32 g6] (0, 0) _ rfl (kX2 HBX2.out (n1 ∘ Eq.symm) n3) Try.underlying50 rfl (by kernel_rfl)) rfl ?_
   have HE := H.out
   simp only [Prod.mk.injEq] at HE
   obtain ⟨rfl, rfl, rfl, rfl, rfl, rfl, rfl, rfl⟩ := HE
   have q0 : Below w.heap.size w w4 := below_step (below_step HB0.out HB.out) HB1.out
   have s1 := HB0.out.size
   have s2 := HB.out.size
   have s3 := HB1.out.size
   have y1 : w.heap.size ≤ Bx := by have := HGX.out; omega
   have y2 : w.heap.size ≤ By := by have := HGY.out; omega
   have y0 := HBB.out.size
   have y3 : w0.heap.size ≤ Bx := by omega
   have y4 : w0.heap.size ≤ By := by omega
   have hlen : (l0.drop n.toNat).length = l0.length - n.toNat := List.length_drop
   refine ⟨.slice Av g2.length cv, A1, _, rfl, ?_, HR1.out, HC1.out, ?_, ?_, ?_⟩
   ·refine Kd.R_lower (Kd.R_mono (Kd.R_step (Kd.R_bound HRR.out) (fun k hk _ => ?_)) (fun _ _ => trivial)) s1
    obtain ⟨_, k1, k2, _⟩ := hk
    have hAd' := hAd.out
    have hBx' := HGX.out
    have hBy' := HGY.out
    have t1 := blk_lt HBX.out
    exact entry_Get.six_blk (g := Bx) (by omega) ((Below.heap_setCell _ ⟨Ad, 0, none⟩ _ k (by show k ≠ Ad; omega)).trans (entry_Get.six_blk (g := By) (by omega) (HB1.out.block k k2)))
   ·have q1 : w4.heap[Ad]? = some (.cells #[.slice A0 l0.length c0, .bool false] 88 (0, 0)) := HX.out
    rw [hlen]
    refine entry_Get.six_blk (g := Bx) n1 ?_
    refine (blk_set (entry_Get.six_blk (g := By) n2 q1) 0 _).trans ?_
    rfl
   ·have q1 : KeepBut w w4 Ad none := KeepBut.of_below q0 Ad none
    refine entry_Get.six_keep (g := Bx) (KeepBut.set_ (entry_Get.six_keep (g := By) q1 y2) _ _) y1
   ·have q1 : Below w0.heap.size w0 w4 := HBB.out.trans (q0.mono y0)
    refine entry_Get.six_below (g := Bx) (Below.setCell (entry_Get.six_below (g := By) q1 y4) hn _) y3
  ·rw [if_neg b3] at h
   exact absurd h (by simp)
 ·rw [if_neg b1] at h
  have H := Aside0.mk (Option.some.inj h)
  clear h
  have b1' : (e != 0) = true := bne_iff_ne.mpr b1
  have b1'' : (e == 0) = false := beq_eq_false_iff_ne.mpr b1
  clear b1
  go_enter Try.func66, Try.ntmps66
  go_upto_region 1 with (first | ((with_reducible refine zD 2 rfl ?_); refine zE 2 #[.bool false, .slice none 0 0, .int .i64 0, .int .i64 0, .int .i64 0, .int .u32 0] 50 ?_; intro Bx hgx w3 hbox hb0; have hx := key _ hb0;  have d0 : w3.cell? ⟨Ad, 0, none⟩ = some (.slice A0 l0.length c0) := (by simp [World.cell?, hx]); have HX0 := Aside0.mk hx; have HBX := Aside0.mk hbox; have HB0 := Aside0.mk hb0; have HGX := Aside0.mk hgx; clear hx hbox hb0 hgx))
  go_wp2_with (first | (go_at_call 78; go_loud (refine (cell_Get.calls k _ _ l0 g1 g2 g3 g4 g5 g6 n e _ (Kd.C_below HR.out HB0.out) HC.out HG.out).mono ?_; rintro e w1 ⟨v1, rfl, hR, hb⟩; obtain ⟨Av, cv, rfl⟩ := Kd.R_slice hR; have HX1 := Aside0.mk (blk_below HX0.out hb); have HRR := Aside0.mk hR; have HB := Aside0.mk hb; have HBX1 := Aside0.mk (blk_below HBX.out hb); clear hR hb)) | ((with_reducible refine zD 3 rfl ?_); go_loud (refine zE 3 #[.bool false, .slice none 0 0, .int .i64 0, .int .i64 0, .int .i64 0, .int .u32 0] 50 ?_; intro By hgy w4 hboy hb1; have hx := blk_below HX1.out hb1; have d0 : w4.cell? ⟨Ad, 0, none⟩ = some (.slice A0 l0.length c0) := (by simp [World.cell?, hx]); have d1 : w4.cell? ⟨Ad, 1, none⟩ = some (.bool false) := (by simp [World.cell?, hx]); have d2 := blk_frozen hx 0; have d3 := blk_frozen hx 1; have hbx := blk_below HBX1.out hb1; obtain ⟨_, _, _, _, _, _⟩ := bc6 hbx; obtain ⟨_, _, _, _, _, _⟩ := bf6 hbx;  obtain ⟨_, _, _, _, _, _⟩ := bc6 hboy; obtain ⟨_, _, _, _, _, _⟩ := bf6 hboy; have HX := Aside0.mk hx; have HB1 := Aside0.mk hb1; have HBX2 := Aside0.mk hbx; have HBY := Aside0.mk hboy; have n1 : Ad ≠ Bx := (by have := hAd.out; have := HGX.out; omega); have n2 : Ad ≠ By := (by have := hAd.out; have := HB0.out.size; have := HB.out.size; omega); have n3 : Bx ≠ By := (by have := blk_lt HBX1.out; omega); have HGY := Aside0.mk hgy; clear hx hb1 hbx hboy hgy)))
  refine bodyPost_ret (results_cell_row rfl _ _ Bx 50 #[.bool false, .slice none 0 0, .int .i64 0, .int .i64 0, .int .i64 0, .int .u32 0] (0, 0) _ rfl (kX2 HBX2.out (n1 ∘ Eq.symm) n3) Try.underlying50 rfl (by kernel_rfl)) rfl ?_
  have HE := H.out
  simp only [Prod.mk.injEq] at HE
  obtain ⟨rfl, rfl, rfl, rfl, rfl, rfl, rfl, rfl⟩ := HE
  refine ⟨.slice none 0 0, A0, c0, rfl, Kd.R_nil _ _ _ _ _, HR0.out, HC.out, ?_, ?_, ?_⟩
  ·have q1 : w4.heap[Ad]? = some (.cells #[.slice A0 l0.length c0, .bool false] 88 (0, 0)) := HX.out
   refine entry_Get.six_blk (g := Bx) n1 ?_
   refine (blk_set (entry_Get.six_blk (g := By) n2 q1) 1 _).trans ?_
   rfl
  ·have q0 : Below w.heap.size w w4 := below_step (below_step HB0.out HB.out) HB1.out
   have y1 : w.heap.size ≤ Bx := by have := HGX.out; omega
   have y2 : w.heap.size ≤ By := by have := HGY.out; have := HB0.out.size; have := HB.out.size; omega
   have q1 : KeepBut w w4 Ad none := KeepBut.of_below q0 Ad none
   refine entry_Get.six_keep (g := Bx) (KeepBut.set_ (entry_Get.six_keep (g := By) q1 y2) _ _) y1
  ·have q0 : Below w.heap.size w w4 := below_step (below_step HB0.out HB.out) HB1.out
   have y1 : w.heap.size ≤ Bx := by have := HGX.out; omega
   have y2 : w.heap.size ≤ By := by have := HGY.out; have := HB0.out.size; have := HB.out.size; omega
   have y0 := HBB.out.size
   have y3 : w0.heap.size ≤ Bx := by omega
   have y4 : w0.heap.size ≤ By := by omega
   have q1 : Below w0.heap.size w0 w4 := HBB.out.trans (q0.mono y0)
   refine entry_Get.six_below (g := Bx) (Below.setCell (entry_Get.six_below (g := By) q1 y4) hn _) y3
theorem entry_Get.ten_blk {w : World} {k g : Nat} {o : Option Obj} {v0 v1 v2 v3 v4 v5 v6 v7 v8 v9 : Value} (hk : k ≠ g) (h : w.heap[k]? = o) : ((((((((((w.setCell ⟨g, 0, none⟩ v0).setCell ⟨g, 1, none⟩ v1).setCell ⟨g, 2, none⟩ v2).setCell ⟨g, 3, none⟩ v3).setCell ⟨g, 4, none⟩ v4).setCell ⟨g, 5, none⟩ v5).setCell ⟨g, 6, none⟩ v6).setCell ⟨g, 7, none⟩ v7).setCell ⟨g, 8, none⟩ v8).setCell ⟨g, 9, none⟩ v9).heap[k]? = o :=
 (Below.heap_setCell _ ⟨g, 9, none⟩ _ k hk).trans <| (Below.heap_setCell _ ⟨g, 8, none⟩ _ k hk).trans <| (Below.heap_setCell _ ⟨g, 7, none⟩ _ k hk).trans <| (Below.heap_setCell _ ⟨g, 6, none⟩ _ k hk).trans <| (Below.heap_setCell _ ⟨g, 5, none⟩ _ k hk).trans <| (Below.heap_setCell _ ⟨g, 4, none⟩ _ k hk).trans <| (Below.heap_setCell _ ⟨g, 3, none⟩ _ k hk).trans <| (Below.heap_setCell _ ⟨g, 2, none⟩ _ k hk).trans <| (Below.heap_setCell _ ⟨g, 1, none⟩ _ k hk).trans <| (Below.heap_setCell _ ⟨g, 0, none⟩ _ k hk).trans <| h
theorem entry_Get.ten_keep {w W : World} {a g : Nat} {row : Option Nat} {v0 v1 v2 v3 v4 v5 v6 v7 v8 v9 : Value} (h : KeepBut w W a row) (hg : w.heap.size ≤ g) : KeepBut w ((((((((((W.setCell ⟨g, 0, none⟩ v0).setCell ⟨g, 1, none⟩ v1).setCell ⟨g, 2, none⟩ v2).setCell ⟨g, 3, none⟩ v3).setCell ⟨g, 4, none⟩ v4).setCell ⟨g, 5, none⟩ v5).setCell ⟨g, 6, none⟩ v6).setCell ⟨g, 7, none⟩ v7).setCell ⟨g, 8, none⟩ v8).setCell ⟨g, 9, none⟩ v9) a row :=
 keep_far (keep_far (keep_far (keep_far (keep_far (keep_far (keep_far (keep_far (keep_far (keep_far h hg _) hg _) hg _) hg _) hg _) hg _) hg _) hg _) hg _) hg _
theorem entry_Get.ten_below {B : Nat} {w W : World} {g : Nat} {v0 v1 v2 v3 v4 v5 v6 v7 v8 v9 : Value} (h : Below B w W) (hg : B ≤ g) : Below B w ((((((((((W.setCell ⟨g, 0, none⟩ v0).setCell ⟨g, 1, none⟩ v1).setCell ⟨g, 2, none⟩ v2).setCell ⟨g, 3, none⟩ v3).setCell ⟨g, 4, none⟩ v4).setCell ⟨g, 5, none⟩ v5).setCell ⟨g, 6, none⟩ v6).setCell ⟨g, 7, none⟩ v7).setCell ⟨g, 8, none⟩ v8).setCell ⟨g, 9, none⟩ v9) :=
 (((((((((h.setCell hg _).setCell hg _).setCell hg _).setCell hg _).setCell hg _).setCell hg _).setCell hg _).setCell hg _).setCell hg _).setCell hg _
def entry_Get.t_entry.f (k : Nat) (l : List Int) (bad : Bool) (index : Int) : Option (S52 × List Int × Bool) :=
 (entry_Get.t_number.f k l bad 2147483647).bind fun (t, l1, b1) =>
 (entry_Get.t_bytes.f l1 b1 1).bind fun (kb, l2, b2) =>
 (entry_Get.t_number.f k l2 b2 64).bind fun (n, l3, b3) =>
 (entry_Get.t_bytes.f l3 b3 n).bind fun (key, l4, b4) =>
 let kind := if kb.length = 1 then wrap64 (rd kb 0) else 0
 if kind = 2 then some (⟨index, t, kind, strOfNums key, ⟨false, [], ⟨0, 0, 0, 0⟩⟩⟩, l4, b4) else
 (entry_Get.t_cell.f k l4 b4).bind fun (g1, g2, g3, g4, g5, g6, l5, b5) => some (⟨index, t, kind, strOfNums key, ⟨g1, g2, ⟨g3, g4, g5, g6⟩⟩⟩, l5, b5)
set_option maxHeartbeats 4000000 in
set_option maxRecDepth 100000 in
theorem entry_Get.t_entry.calls (k : Nat) (Ad : Nat) (A0 : Option Addr) (c0 : Nat) (l0 : List Int) (bad : Bool) (index : Int) (r : S52) (l1 : List Int) (b1 : Bool) (w0 w : World) (hr0 : Kd.C (Kd.int .u8) w0 A0 l0.length l0) (hc0 : l0.length ≤ c0) (hB : Below w0.heap.size w0 w) (hn : w0.heap.size ≤ Ad) (hT : entry_Get.Tk Ad A0 l0.length c0 bad w) (h : entry_Get.t_entry.f k l0 bad index = some (r, l1, b1)) :
 Calls Try.prog 42 #[.pointer (some ⟨Ad, 0, none⟩), .int .i64 index] w fun e w' => ∃ v A1 c1, e = .returned (.agg #[.int .i64 r.f0, .int .i64 r.f1, .int .i64 r.f2, .string r.f3, .bool r.f4.f0, v, .int .i64 r.f4.f2.f0, .int .i64 r.f4.f2.f1, .int .i64 r.f4.f2.f2, .int .u32 r.f4.f2.f3]) ∧ Kd.R (Kd.int .u8) 5 w' w.heap.size (fun _ => True) v r.f4.f1 ∧ Kd.C (Kd.int .u8) w0 A1 l1.length l1 ∧ l1.length ≤ c1 ∧ entry_Get.Tk Ad A1 l1.length c1 b1 w' ∧ KeepBut w w' Ad none ∧ Below w0.heap.size w0 w' := by
 have hu40 := Try.underlying50
 have hu38 := Try.underlying48
 have hu42 := Try.underlying52
 unfold entry_Get.t_entry.f at h
 replace h := Option.bind_eq_some_iff.mp h
 obtain ⟨⟨t, la, ba⟩, ha, h⟩ := h
 replace h := Option.bind_eq_some_iff.mp h
 obtain ⟨⟨kb, lb, bb⟩, hb, h⟩ := h
 replace h := Option.bind_eq_some_iff.mp h
 obtain ⟨⟨n, lc, bc⟩, hc, h⟩ := h
 replace h := Option.bind_eq_some_iff.mp h
 obtain ⟨⟨key, ld, bd⟩, hd, h⟩ := h
 simp only at h
 have HH := Aside0.mk h
 have HA := Aside0.mk ha
 have HBy := Aside0.mk hb
 have HC := Aside0.mk hc
 have HD := Aside0.mk hd
 have HR0 := Aside0.mk hr0
 have HC0 := Aside0.mk hc0
 have HBB := Aside0.mk hB
 have HT := Aside0.mk hT
 have HN := Aside0.mk hn
 clear h ha hb hc hd hr0 hc0 hB hT hn
 go_enter Try.func42, Try.ntmps42
 go_wp2_with ((with_reducible refine zD 4 rfl ?_); go_loud (refine zE 4 #[.int .i64 0, .int .i64 0, .int .i64 0, .string ⟨#[]⟩, .bool false, .slice none 0 0, .int .i64 0, .int .i64 0, .int .i64 0, .int .u32 0] 52 ?_; intro Bx gBx w1 hBx hb1; have G1 := Aside0.mk gBx; have X1 := Aside0.mk hBx; have L1 := Aside0.mk hb1; clear gBx hBx hb1))
 have hAd := HT.out
 have hAx : Ad < w.heap.size := blk_lt hAd
 have n1 : Bx ≠ Ad := by have := G1.out; omega
 have T1 : entry_Get.Tk Ad A0 l0.length c0 bad w1 := blk_below HT.out L1.out
 refine (entry_Get.t_number.calls k Ad A0 c0 l0 bad 2147483647 t la ba w0 w1 HR0.out HC0.out (HBB.out.trans (L1.out.mono HBB.out.size)) HN.out T1 HA.out).mono ?_
 rintro e w2 ⟨rfl, A1, c1, hC1, hc1, hT1, hK1, hB1⟩
 have X2 := Aside0.mk (hK1.blk X1.out n1 (by simp))
 have R1 := Aside0.mk hC1; have C1 := Aside0.mk hc1; have T2 := Aside0.mk hT1; have K1 := Aside0.mk ((KeepBut.of_below L1.out Ad none).trans hK1 (.inl rfl)); have B1 := Aside0.mk hB1; have HAX := Aside0.mk hAx
 clear hC1 hc1 hT1 hK1 hB1 T1 hAd hAx
 go_wp2_with ((with_reducible refine zD 5 rfl ?_); go_loud (refine zE 5 #[.int .i64 0, .int .i64 0, .int .i64 0, .string ⟨#[]⟩, .bool false, .slice none 0 0, .int .i64 0, .int .i64 0, .int .i64 0, .int .u32 0] 52 ?_; intro By gBy w3 hBy hb3; obtain ⟨_, _, _, _, _, _, _, _, _, _⟩ := bc10 hBy; obtain ⟨_, _, _, _, _, _, _, _, _, _⟩ := bf10 hBy; have G3 := Aside0.mk gBy; have Y3 := Aside0.mk hBy; have L3 := Aside0.mk hb3; clear gBy hBy hb3))
 have n2 : By ≠ Ad := by have := G3.out; have := HAX.out; have := K1.out.1; omega
 have n3 : Bx ≠ By := by have := blk_lt X2.out; have := G3.out; omega
 have y1 : w0.heap.size ≤ By := by have := G3.out; have := B1.out.size; omega
 have y2 : w.heap.size ≤ By := by have := G3.out; have := K1.out.1; omega
 have T3 : entry_Get.Tk Ad A1 la.length c1 ba w3 := blk_below T2.out L3.out
 refine (entry_Get.t_bytes.calls Ad A1 c1 la ba 1 kb lb bb w0 _ R1.out C1.out (entry_Get.ten_below (g := By) (B1.out.trans (L3.out.mono B1.out.size)) y1) HN.out (entry_Get.ten_blk (g := By) n2.symm T3) HBy.out).mono ?_
 rintro e w4 ⟨A2, c2, A4, c4, rfl, hC2, hc2, hC4, hc4, hT4, hK4, hB4⟩
 have X4 := Aside0.mk (hK4.blk (entry_Get.ten_blk (g := By) n3 (blk_below X2.out L3.out)) n1 (by simp))
 have Y4 := Aside0.mk (hK4.blk (bp10 Y3.out) n2 (by simp))
 have R2 := Aside0.mk hC2; have C2 := Aside0.mk hc2; have R4 := Aside0.mk hC4; have C4 := Aside0.mk hc4; have T4 := Aside0.mk hT4; have K4 := Aside0.mk ((entry_Get.ten_keep (g := By) (K1.out.trans (KeepBut.of_below L3.out Ad none) (.inl rfl)) y2).trans hK4 (.inl rfl)); have B4 := Aside0.mk hB4
 have HY := Aside0.mk (And.intro y1 y2)
 clear hC2 hc2 hC4 hc4 hT4 hK4 hB4 T3 y1 y2
 go_upto_if 15 with fail
 go_cut [] (fun wc => ∃ kd : Int, Aside0 (kd = (if kb.length = 1 then wrap64 (rd kb 0) else 0)) ∧ Aside0 (wc.heap[By]? = some (.cells #[.int .i64 index, .int .i64 t, .int .i64 kd, .string ⟨#[]⟩, .bool false, .slice none 0 0, .int .i64 0, .int .i64 0, .int .i64 0, .int .u32 0] 52 (0, 0))) ∧ Aside0 (entry_Get.Tk Ad A4 lb.length c4 bb wc) ∧ Aside0 (wc.heap[Bx]? = some (.cells #[.int .i64 0, .int .i64 0, .int .i64 0, .string ⟨#[]⟩, .bool false, .slice none 0 0, .int .i64 0, .int .i64 0, .int .i64 0, .int .u32 0] 52 (0, 0))) ∧ Aside0 (KeepBut w wc Ad none) ∧ Aside0 (Below w0.heap.size w0 wc))
 case first =>
  by_cases hk : kb.length = 1
  ·have hkb : ((kb.length : Int) == 1) = true := by rw [hk]; rfl
   obtain ⟨ad, e0, hcell⟩ := Kd.at_int (Kd.C_below R2.out B4.out) 0 (by omega) (by omega)
   (try simp only [tz, Addr.add_zero'] at hcell)
   subst e0
   have hlt : (0 < kb.length) = True := eq_true (by omega)
   have hlt2 : decide (0 < kb.length) = true := decide_eq_true (by omega)
   have HK := Aside0.mk hk
   clear hk
   obtain ⟨_, _, _, _, _, _, _, _, _, _⟩ := bc10 Y4.out
   obtain ⟨_, _, _, _, _, _, _, _, _, _⟩ := bf10 Y4.out
   go_wp2
   go_meet
   case rel => exact ⟨wrap64 (rd kb 0), ⟨by rw [if_pos HK.out]⟩, ⟨blk_set Y4.out 2 _⟩, ⟨blk_far T4.out n2.symm _⟩, ⟨blk_far X4.out n3 _⟩, ⟨keep_far K4.out HY.out.2 _⟩, ⟨B4.out.setCell HY.out.1 _⟩⟩
  ·have hkb : ((kb.length : Int) == 1) = false := beq_eq_false_iff_ne.mpr (by omega)
   have HK := Aside0.mk hk
   clear hk
   go_wp2
   go_meet
   case rel => exact ⟨0, ⟨by rw [if_neg HK.out]⟩, Y4, T4, X4, K4, B4⟩
 case rest =>
  obtain ⟨kd, KD, Y5, T5, X5, K5, B5⟩ := hcut
  go_wp2_with fail
  refine (entry_Get.t_number.calls k Ad A4 c4 lb bb 64 n lc bc w0 wc R4.out C4.out B5.out HN.out T5.out HC.out).mono ?_
  rintro e w6 ⟨rfl, A6, c6, hC6, hc6, hT6, hK6, hB6⟩
  have X6 := Aside0.mk (hK6.blk X5.out n1 (by simp)); have Y6 := Aside0.mk (hK6.blk Y5.out n2 (by simp)); have R6 := Aside0.mk hC6; have C6 := Aside0.mk hc6; have T6 := Aside0.mk hT6; have K6 := Aside0.mk (K5.out.trans hK6 (.inl rfl)); have B6 := Aside0.mk hB6
  clear hC6 hc6 hT6 hK6 hB6
  go_wp2_with fail
  refine (entry_Get.t_bytes.calls Ad A6 c6 lc bc n key ld bd w0 w6 R6.out C6.out B6.out HN.out T6.out HD.out).mono ?_
  rintro e w7 ⟨A7, c7, A8, c8, rfl, hC7, hc7, hC8, hc8, hT8, hK8, hB8⟩
  have X8 := Aside0.mk (hK8.blk X6.out n1 (by simp)); have Y8 := Aside0.mk (hK8.blk Y6.out n2 (by simp)); have R7 := Aside0.mk hC7; have C7 := Aside0.mk hc7; have R8 := Aside0.mk hC8; have C8 := Aside0.mk hc8; have T8 := Aside0.mk hT8; have K8 := Aside0.mk (K6.out.trans hK8 (.inl rfl)); have B8 := Aside0.mk hB8
  have hcv := Kd.C_string (P := Try.prog) (A := A7) (c := c7) Try.underlying22 Try.underlying5 Try.underlying9 (Kd.C_below R7.out B8.out)
  clear hC7 hc7 hC8 hc8 hT8 hK8 hB8
  obtain ⟨_, _, _, _, _, _, _, _, _, _⟩ := bc10 Y8.out
  obtain ⟨_, _, _, _, _, _, _, _, _, _⟩ := bf10 Y8.out
  obtain ⟨_, _, _, _, _, _, _, _, _, _⟩ := bc10 X8.out
  obtain ⟨_, _, _, _, _, _, _, _, _, _⟩ := bf10 X8.out
  have h := HH.out
  clear HH
  rw [← KD.out] at h
  by_cases c2 : kd = 2
  ·rw [if_pos c2] at h
   have H := Aside0.mk h
   have c2b : (kd == 2) = true := beq_iff_eq.mpr c2
   have c2c : (kd != 2) = false := bne_eq_false_iff_eq.mpr c2
   have C2K := Aside0.mk c2
   clear h c2
   go_wp2_with fail
   have F : ((w7.setCell ⟨By, 3, none⟩ (.string (strOfNums key)))).heap[Bx]? = _ := blk_far X8.out n3 _
   refine bodyPost_ret (results_cell_row rfl _ _ Bx 52 #[.int .i64 index, .int .i64 t, .int .i64 kd, .string (strOfNums key), .bool false, .slice none 0 0, .int .i64 0, .int .i64 0, .int .i64 0, .int .u32 0] (0, 0) _ rfl (bp10 F) Try.underlying52 rfl (by kernel_rfl)) rfl ?_
   have HE := Option.some.inj H.out
   simp only [Prod.mk.injEq] at HE
   obtain ⟨rfl, rfl, rfl⟩ := HE
   have x1 : w.heap.size ≤ Bx := by have := G1.out; omega
   have x2 : w0.heap.size ≤ Bx := by have := HBB.out.size; omega
   exact ⟨.slice none 0 0, A8, c8, rfl, Kd.R_nil _ _ _ _ _, R8.out, C8.out, entry_Get.ten_blk (g := Bx) n1.symm (blk_far T8.out n2.symm _), entry_Get.ten_keep (g := Bx) (keep_far K8.out HY.out.2 _) x1, entry_Get.ten_below (g := Bx) (B8.out.setCell HY.out.1 _) x2⟩
  ·rw [if_neg c2] at h
   have c2b : (kd == 2) = false := beq_eq_false_iff_ne.mpr c2
   have c2c : (kd != 2) = true := bne_iff_ne.mpr c2
   clear c2
   replace h := Option.bind_eq_some_iff.mp h
   obtain ⟨⟨g1, g2, g3, g4, g5, g6, le, be⟩, hg, h⟩ := h
   have H := Aside0.mk h
   have HG := Aside0.mk hg
   clear h hg
   go_wp2_with fail
   refine (entry_Get.t_cell.calls k Ad A8 c8 ld bd g1 g2 g3 g4 g5 g6 le be w0 _ R8.out C8.out (B8.out.setCell HY.out.1 _) HN.out (blk_far T8.out n2.symm _) HG.out).mono ?_
   rintro e w9 ⟨v, A9, c9, rfl, hR, hC9, hc9, hT9, hK9, hB9⟩
   obtain ⟨Av, cv, rfl⟩ := Kd.R_slice hR
   have X9 := Aside0.mk (hK9.blk (blk_far X8.out n3 _) n1 (by simp)); have Y9 := Aside0.mk (hK9.blk (blk_set Y8.out 3 _) n2 (by simp)); have R9 := Aside0.mk hC9; have C9 := Aside0.mk hc9; have T9 := Aside0.mk hT9; have K9 := Aside0.mk ((keep_far K8.out HY.out.2 _).trans hK9 (.inl rfl)); have B9 := Aside0.mk hB9; have RV := Aside0.mk hR
   clear hC9 hc9 hT9 hK9 hB9 hR
   obtain ⟨_, _, _, _, _, _, _, _, _, _⟩ := bc10 X9.out
   obtain ⟨_, _, _, _, _, _, _, _, _, _⟩ := bf10 X9.out
   obtain ⟨_, _, _, _, _, _, _, _, _, _⟩ := bc10 Y9.out
   obtain ⟨_, _, _, _, _, _, _, _, _, _⟩ := bf10 Y9.out
   go_wp2_with fail
   refine bodyPost_ret (results_cell_row rfl _ _ Bx 52 #[.int .i64 index, .int .i64 t, .int .i64 kd, .string (strOfNums key), .bool g1, .slice Av g2.length cv, .int .i64 g3, .int .i64 g4, .int .i64 g5, .int .u32 g6] (0, 0) _ rfl (bp10 (entry_Get.six_blk n3 X9.out)) Try.underlying52 rfl (by kernel_rfl)) rfl ?_
   have HE := Option.some.inj H.out
   simp only [Prod.mk.injEq] at HE
   obtain ⟨rfl, rfl, rfl⟩ := HE
   have x1 : w.heap.size ≤ Bx := by have := G1.out; omega
   have x2 : w0.heap.size ≤ Bx := by have := HBB.out.size; omega
   have s8 := K8.out.1
   have sz : (w7.setCell ⟨By, 3, none⟩ (.string (strOfNums key))).heap.size = w7.heap.size := by simp [World.setCell]
   have t1 := blk_lt X8.out
   have t2 := blk_lt Y8.out
   have t3 := HAX.out
   refine ⟨.slice Av g2.length cv, A9, c9, rfl, ?_, R9.out, C9.out, entry_Get.ten_blk (g := Bx) n1.symm (entry_Get.six_blk n2.symm T9.out), entry_Get.ten_keep (g := Bx) (entry_Get.six_keep K9.out HY.out.2) x1, entry_Get.ten_below (g := Bx) (entry_Get.six_below B9.out HY.out.1) x2⟩
   refine Kd.R_lower (Kd.R_mono (Kd.R_step (Kd.R_bound RV.out) (fun k hk _ => ?_)) (fun _ _ => trivial)) (by rw [sz]; exact s8)
   obtain ⟨_, k1, k2, _⟩ := hk
   rw [sz] at k1
   exact entry_Get.ten_blk (g := Bx) (by omega) (entry_Get.six_blk (g := By) (by omega) rfl)
def entry_Get.l0 : Nat → Int → Int → List Int → Bool → List S52 → Int → Option (List S52 × Int)
 | 0, _, _, _, _, _, _ => none
 | k + 1, n, first, l, bad, acc, i => if i < n then (if bad = true then some ([], 2) else (entry_Get.t_entry.f k l bad (wrap64 (first + i))).bind fun (x, l1, b1) => if acc.length < 1353245080339 then entry_Get.l0 k n first l1 b1 (acc ++ [x]) (wrap64 (i + 1)) else none)
  else (if bad = true then some ([], 2) else if 0 < (l.length : Int) then some ([], 2) else (entry_Batch.f k acc).bind fun e => if e = 0 then some (acc, 0) else some ([], 2))
def entry_Get.f (k : Nat) (l0 : List Int) : Option (List S52 × Int) :=
 (entry_Get.t_number.f k l0 false 16).bind fun (n, l1, b1) => (entry_Get.t_number.f k l1 b1 2147483647).bind fun (first, l2, b2) => entry_Get.l0 k n first l2 b2 [] 0
set_option maxHeartbeats 4000000 in
set_option maxRecDepth 100000 in
theorem entry_Get.calls (k : Nat) (A0 : Option Addr) (c0 : Nat) (l0 : List Int) (r1 : List (S52)) (r2 : Int) (w : World) (hr0 : Kd.C (Kd.int .u8) w A0 l0.length l0) (hc0 : l0.length ≤ c0) (h : entry_Get.f k l0 = some (r1, r2)) :
 Calls Try.prog 17 #[.slice A0 l0.length c0] w fun e w' => ∃ v0_ : Value, e = .returned (.tuple #[v0_, .int .i64 r2]) ∧ Kd.S k52 52 w' w.heap.size (fun _ => True) v0_ r1 ∧ Below w.heap.size w w' := by
 have hu42 := Try.underlying52
 unfold entry_Get.f at h
 replace h := Option.bind_eq_some_iff.mp h
 obtain ⟨⟨n, la, ba⟩, ha, h⟩ := h
 replace h := Option.bind_eq_some_iff.mp h
 obtain ⟨⟨first, lb, bb⟩, hb, h⟩ := h
 simp only at h
 have HH := Aside0.mk h
 have HA := Aside0.mk ha
 have HB := Aside0.mk hb
 have HR0 := Aside0.mk hr0
 have HC0 := Aside0.mk hc0
 clear h ha hb hr0 hc0
 go_enter Try.func17, Try.ntmps17
 go_wp2_with fail
 obtain ⟨Ad, hAd⟩ : ∃ Ad : Nat, Ad = w.heap.size := ⟨_, rfl⟩
 rw [← hAd]
 have HN := Aside0.mk (Nat.le_of_eq hAd.symm)
 have T0 : entry_Get.Tk Ad A0 l0.length c0 false (w.alloc (Obj.cells #[Value.slice A0 l0.length c0, Value.bool false] 88 (0, 0))) := by rw [hAd]; exact blk_new _ _
 clear hAd
 refine (entry_Get.t_number.calls k Ad A0 c0 l0 false 16 n la ba w _ HR0.out HC0.out (below_alloc (Below.refl _ _) _) HN.out T0 HA.out).mono ?_
 rintro e w1 ⟨rfl, A1, c1, hC1, hc1, hT1, hK1, hB1⟩
 have R1 := Aside0.mk hC1; have C1 := Aside0.mk hc1; have T1 := Aside0.mk hT1; have B1 := Aside0.mk hB1
 clear hC1 hc1 hT1 hK1 hB1 T0
 go_wp2_with fail
 refine (entry_Get.t_number.calls k Ad A1 c1 la ba 2147483647 first lb bb w _ R1.out C1.out B1.out HN.out T1.out HB.out).mono ?_
 rintro e w2 ⟨rfl, A2, c2, hC1, hc1, hT1, hK1, hB1⟩
 have R2 := Aside0.mk hC1; have C2 := Aside0.mk hc1; have T2 := Aside0.mk hT1; have B2 := Aside0.mk hB1
 clear hC1 hc1 hT1 hK1 hB1
 go_wp2_with fail
 go_loopg [7, 8] k (fun kq v7 v8 w' => ∃ (l : List Int) (bad : Bool) (A : Option Addr) (c : Nat) (acc : List S52) (i : Int), v8 = .int .i64 i ∧ Aside0 (entry_Get.l0 kq n first l bad acc i = some (r1, r2)) ∧ Aside0 (kq ≤ k) ∧ Aside0 (Kd.S k52 52 w' w.heap.size (fun k_ => k_ ≠ Ad) v7 acc) ∧ Aside0 (Kd.C (Kd.int .u8) w A l.length l) ∧ Aside0 (l.length ≤ c) ∧ Aside0 (entry_Get.Tk Ad A l.length c bad w') ∧ Aside0 (Below w.heap.size w w'))
 case atStart => exact ⟨lb, bb, A2, c2, [], 0, rfl, HH, ⟨Nat.le_refl _⟩, ⟨Kd.S_nil _ _ _ _ _⟩, R2, C2, T2, B2⟩
 case round =>
  clear HH R2 C2 T2 B2 R1 C1 T1 B1 HA HB
  obtain ⟨l, bad, A, c, acc, i, rfl, HA, HK2, HS, HR, HC, HT, HW⟩ := hrel
  cases gk with
  | zero => exact absurd HA.out (by simp [entry_Get.l0])
  | succ k2 =>
   have H := HA.out
   clear HA
   simp only [entry_Get.l0] at H
   have hT' : wr.heap[Ad]? = some (.cells #[.slice A l.length c, .bool bad] 88 (0, 0)) := HT.out
   have d0 : wr.cell? ⟨Ad, 0, none⟩ = some (.slice A l.length c) := by simp [World.cell?, hT']
   have d1 : wr.cell? ⟨Ad, 1, none⟩ = some (.bool bad) := by simp [World.cell?, hT']
   clear hT'
   by_cases c1 : i < n
   ·have c1b : decide (i < n) = true := decide_eq_true c1
    rw [if_pos c1] at H
    clear c1
    by_cases c2 : bad = true
    ·subst c2
     rw [if_pos rfl] at H
     have HX := Aside0.mk (Option.some.inj H)
     clear H
     go_wp2_with fail
     go_ret2
     have HE := HX.out
     simp only [Prod.mk.injEq] at HE
     obtain ⟨rfl, rfl⟩ := HE
     exact ⟨_, rfl, Kd.S_nil _ _ _ _ _, HW.out⟩
    ·obtain rfl : bad = false := by simpa using c2
     rw [if_neg (by simp)] at H
     replace H := Option.bind_eq_some_iff.mp H
     obtain ⟨⟨x, l1, b1⟩, hx, H⟩ := H
     simp only at H
     clear c2
     by_cases c5 : acc.length < 1353245080339
     ·rw [if_pos c5] at H
      have HX := Aside0.mk hx
      have H' := Aside0.mk H
      have LM := Aside0.mk c5
      clear c5 H hx
      have S0 := Aside0.mk (Kd.S_mono (ok' := fun k_ => k_ ≠ Ad ∧ k_ < wr.heap.size) (Kd.S_bound HS.out) (fun k hk => ⟨hk.1, hk.2.2.1⟩))
      have HAd := Aside0.mk (blk_lt HT.out)
      have HLt := Aside0.mk (Kd.S_lt HS.out)
      go_wp2_with (first | (go_at_call 42; go_loud (refine (entry_Get.t_entry.calls k2 Ad A c l false (wrap64 (first + i)) x l1 b1 w wr HR.out HC.out HW.out HN.out HT.out HX.out).mono ?_; rintro e w3 ⟨v, A3, c3, rfl, hRv, hC3, hc3, hT3, hK3, hB3⟩; obtain ⟨Av, cv, rfl⟩ := Kd.R_slice hRv; have S3 := Aside0.mk (Kd.S_keep S0.out hK3 (fun _ hk => hk.1)); have RB := Aside0.mk (Kd.R_base hRv); have R3 := Aside0.mk (Kd.R_lower hRv HW.out.size); have HC3 := Aside0.mk hC3; have Hc3 := Aside0.mk hc3; have T3 := Aside0.mk hT3; have B3 := Aside0.mk hB3; clear hRv hC3 hc3 hT3 hK3 hB3)) | ((with_reducible refine gate_builtin (b := .append) (xs := #[.tmp 28, .tmp 34]) rfl ?_); at_builtin; go_loud (refine Kd.S_append k52 (w0 := w) w.heap.size rfl (.tmp 28) (.tmp 34) 26 52 (.agg #[(.int .i64 0), (.int .i64 0), (.int .i64 0), (.string ⟨#[]⟩), (.bool false), (.slice none 0 0), (.int .i64 0), (.int .i64 0), (.int .i64 0), (.int .u32 0)]) 104 rfl Try.underlying26 info52 rfl (by decide) (by omega) u7 acc x [.int .i64 x.f0, .int .i64 x.f1, .int .i64 x.f2, .string x.f3, .bool x.f4.f0, .slice Av x.f4.f1.length cv, .int .i64 x.f4.f2.f0, .int .i64 x.f4.f2.f1, .int .i64 x.f4.f2.f2, .int .u32 x.f4.f2.f3] (fun k_ => k_ ≠ Ad) (fun k_ => some k_ = (.slice Av x.f4.f1.length cv : Value).ownBlock) rfl rfl ?aP ?aQ ?aF ?aO ?aB ?aS ?aL ?_; (case aP => exact k52_mkM _ _ _ x (Kd.R_tight rfl R3.out)); (case aQ => intro k_ hk_; have z1 := RB.out k_ hk_.symm; have z2 := HAd.out; exact ⟨(by show k_ ≠ Ad; omega), fun e_ => (by have := HLt.out k_ e_.symm; omega)⟩); (case aF => exact (fun k_ hk => kF T3.out k_ hk)); (case aO => exact Kd.S_mono S3.out (fun k_ hk => ⟨hk.1, fun e_ => (by have := RB.out k_ e_.symm; omega)⟩)); (case aB => exact B3.out); (case aS => exact B3.out.size); (case aL => have := LM.out; omega); intro v4 w4 ho hb hg hat; have T4 : entry_Get.Tk Ad A3 l1.length c3 b1 w4 := blk_grown (g := Ad) T3.out hg (Kd.S_away S3.out (fun _ hk => hk.1)); have T4' := Aside0.mk T4; have S4 := Aside0.mk ho; have B4 := Aside0.mk hb; clear T4 ho hb hg hat)))
      go_roundg k2
      case measure => have := HK2.out; omega
      case rel => exact ⟨l1, b1, A3, c3, acc ++ [x], wrap64 (i + 1), rfl, H', ⟨by have := HK2.out; omega⟩, S4, HC3, Hc3, T4', B4⟩
     ·rw [if_neg c5] at H
      exact absurd H (by simp)
   ·have c1b : decide (i < n) = false := decide_eq_false c1
    rw [if_neg c1] at H
    clear c1
    by_cases c2 : bad = true
    ·subst c2
     rw [if_pos rfl] at H
     have HX := Aside0.mk (Option.some.inj H)
     clear H
     go_wp2_with fail
     go_ret2
     have HE := HX.out
     simp only [Prod.mk.injEq] at HE
     obtain ⟨rfl, rfl⟩ := HE
     exact ⟨_, rfl, Kd.S_nil _ _ _ _ _, HW.out⟩
    obtain rfl : bad = false := by simpa using c2
    rw [if_neg (by simp)] at H
    clear c2
    by_cases c3 : 0 < (l.length : Int)
    ·rw [if_pos c3] at H
     have HX := Aside0.mk (Option.some.inj H)
     have c3b : decide (0 < (l.length : Int)) = true := decide_eq_true c3
     have c3c : decide (0 < l.length) = true := decide_eq_true (by omega)
     clear H c3
     go_wp2_with fail
     go_ret2
     have HE := HX.out
     simp only [Prod.mk.injEq] at HE
     obtain ⟨rfl, rfl⟩ := HE
     exact ⟨_, rfl, Kd.S_nil _ _ _ _ _, HW.out⟩
    rw [if_neg c3] at H
    have c3b : decide (0 < (l.length : Int)) = false := decide_eq_false c3
    have c3c : decide (0 < l.length) = false := decide_eq_false (by omega)
    clear c3
    replace H := Option.bind_eq_some_iff.mp H
    obtain ⟨e, he, H⟩ := H
    have HE := Aside0.mk he
    clear he
    obtain ⟨Al, cl, Ax⟩ := Kd.S_slice HS.out
    subst Ax
    by_cases c4 : e = 0
    ·rw [if_pos c4] at H
     have HX := Aside0.mk (Option.some.inj H)
     subst c4
     clear H
     go_wp2_with (go_at_call 31; (with_reducible refine (entry_Batch.calls k2 _ _ acc 0 _ (Kd.S_reads' HS.out).2.2 (Kd.S_reads' HS.out).2.1 HE.out).mono ?_); rintro e w3 ⟨rfl, hb⟩; have HS3 := Aside0.mk (Kd.S_below HS.out hb); have HW3 := Aside0.mk (below_step HW.out hb); clear hb)
     go_ret2
     have HE := HX.out
     simp only [Prod.mk.injEq] at HE
     obtain ⟨rfl, rfl⟩ := HE
     exact ⟨_, rfl, Kd.S_mono HS3.out (fun _ _ => trivial), HW3.out⟩
    ·rw [if_neg c4] at H
     have HX := Aside0.mk (Option.some.inj H)
     have c4b : (e != 0) = true := bne_iff_ne.mpr c4
     have c4c : (e == 0) = false := beq_eq_false_iff_ne.mpr c4
     clear H c4
     go_wp2_with (go_at_call 31; (with_reducible refine (entry_Batch.calls k2 _ _ acc e _ (Kd.S_reads' HS.out).2.2 (Kd.S_reads' HS.out).2.1 HE.out).mono ?_); rintro e w3 ⟨rfl, hb⟩; have HW3 := Aside0.mk (below_step HW.out hb); clear hb)
     go_ret2
     have HE := HX.out
     simp only [Prod.mk.injEq] at HE
     obtain ⟨rfl, rfl⟩ := HE
     exact ⟨_, rfl, Kd.S_nil _ _ _ _ _, HW3.out⟩
theorem entry_Get.t_number.mono (l : List Int) (b : Bool) (m : Int) (k : Nat) : LeO (entry_Get.t_number.f k l b m) (entry_Get.t_number.f (k + 1) l b m) :=
 LeO.bind (varint_Get.mono _ _) (fun _ => LeO.refl _)
theorem entry_Get.t_cell.mono (l : List Int) (b : Bool) (k : Nat) : LeO (entry_Get.t_cell.f k l b) (entry_Get.t_cell.f (k + 1) l b) :=
 LeO.bind (cell_Get.mono _ _) (fun _ => LeO.refl _)
theorem entry_Get.t_entry.mono (l : List Int) (b : Bool) (i : Int) (k : Nat) : LeO (entry_Get.t_entry.f k l b i) (entry_Get.t_entry.f (k + 1) l b i) := by
 unfold entry_Get.t_entry.f
 refine LeO.bind (entry_Get.t_number.mono _ _ _ _) (fun ⟨t, la, ba⟩ => ?_)
 refine LeO.bind (LeO.refl _) (fun ⟨kb, lb, bb⟩ => ?_)
 refine LeO.bind (entry_Get.t_number.mono _ _ _ _) (fun ⟨n, lc, bc⟩ => ?_)
 refine LeO.bind (LeO.refl _) (fun ⟨key, ld, bd⟩ => ?_)
 exact LeO.ite (LeO.refl _) (LeO.bind (entry_Get.t_cell.mono _ _ _) (fun _ => LeO.refl _))
theorem entry_Get.mono_l : ∀ (k : Nat) (n first : Int) (l : List Int) (b : Bool) (acc : List S52) (i : Int), LeO (entry_Get.l0 k n first l b acc i) (entry_Get.l0 (k + 1) n first l b acc i)
 | 0 => fun _ _ _ _ _ _ r h => by simp [entry_Get.l0] at h
 | k + 1 => fun n first l b acc i => by
  rw [entry_Get.l0, entry_Get.l0]
  refine LeO.ite (LeO.ite (LeO.refl _) (LeO.bind (entry_Get.t_entry.mono _ _ _ _) (fun ⟨x, l1, b1⟩ => LeO.ite (entry_Get.mono_l k _ _ _ _ _ _) (LeO.refl _)))) ?_
  exact LeO.ite (LeO.refl _) (LeO.ite (LeO.refl _) (LeO.bind (entry_Batch.mono _ _) (fun _ => LeO.refl _)))
theorem entry_Get.mono : ∀ a0 k, LeO (entry_Get.f k a0) (entry_Get.f (k + 1) a0) := fun a0 k =>
 LeO.bind (entry_Get.t_number.mono _ _ _ _) (fun ⟨n, l1, b1⟩ => LeO.bind (entry_Get.t_number.mono _ _ _ _) (fun ⟨f, l2, b2⟩ => entry_Get.mono_l _ _ _ _ _ _ _))
end
section
attribute [local go_sem] max2_int min2_int max_two min_two max_three min_three max_four min_four
attribute [local go_sem] wrap64_l1 wrap64_l2 wrap64_l3 wrap64_l4 wrap64_l5
def hard_Get.j0 : Nat → List Int → Bool → Option (Int × Int × Int × Int)
 | 0, _, _ => none
 | k + 1, x4, x34 => if x34 = true then (some (0, 0, 0, 2)) else (if 0 < (x4.length : Int) then (if 1 < (x4.length : Int) then (if 2 < (x4.length : Int) then ((hard_Check.f (wrap64 (rd x4 0)) (wrap64 (rd x4 1)) (wrap64 (rd x4 2))).bind fun t360 => (if t360 = 0 then (some (wrap64 (rd x4 0), wrap64 (rd x4 1), wrap64 (rd x4 2), 0)) else (some (0, 0, 0, 2)))) else (none)) else (none)) else (none))
def hard_Get.f (k : Nat) (l0 : List Int) : Option (Int × Int × Int × Int) := (varint_All.f k l0 3).bind fun bt348 => (if bt348.2.2 = 0 then (if bt348.2.1 = (l0.length : Int) then (if 0 < (bt348.1.length : Int) then (if 1 < (bt348.1.length : Int) then (if 2 < (bt348.1.length : Int) then (hard_Get.j0 k bt348.1 (decide ((mx (mx (rd bt348.1 0) (rd bt348.1 1)) (rd bt348.1 2)) > 2147483647))) else (none)) else (none)) else (none)) else (hard_Get.j0 k bt348.1 true)) else (hard_Get.j0 k bt348.1 true))
theorem hard_Get.mono_l : ∀ k, (∀ y0 y1, LeO (hard_Get.j0 k y0 y1) (hard_Get.j0 (k + 1) y0 y1))
 | 0 => fun _ _ r h => by simp [hard_Get.j0] at h
 | k + 1 => by
  have ih0 := hard_Get.mono_l k
  ·intro y0 y1
   unfold hard_Get.j0
   repeat' (with_reducible first | exact ih0 .. | exact varint_All.mono .. | exact LeO.refl .. | exact LeO.none .. | refine LeO.ite ?_ ?_ | refine LeO.bind ?_ (fun _ => ?_))
theorem hard_Get.mono : ∀ a0 k, LeO (hard_Get.f k a0) (hard_Get.f (k + 1) a0) := by
 intro a0 k
 have ih0 := hard_Get.mono_l k
 unfold hard_Get.f
 repeat' (with_reducible first | exact ih0 .. | exact varint_All.mono .. | exact LeO.refl .. | exact LeO.none .. | refine LeO.ite ?_ ?_ | refine LeO.bind ?_ (fun _ => ?_))
def hard_Get.T2 : Bool × List (List Nat × List Nat) := (true, [([], []), ([0], [0]), ([1], [1]), ([2], [2]), ([2], [2]), ([4, 2], [2, 4]), ([3, 5, 2], [2, 3, 5]), ([2, 6], [2, 6]), ([7, 2], [7]), ([8], [8]), ([9, 8], [8, 9]), ([10, 8], [8, 10]), ([8], [8]), ([12, 8], [8, 12]), ([13, 8], [8, 13]), ([8], [8]), ([15, 8], [8, 15]), ([16, 8], [8, 16]), ([11, 14, 17, 8], [8, 11, 14, 17]), ([18, 8], [8, 18]), ([8, 19], [8, 19])])
def hard_Get.B2 : List Nat := [0, 1, 3, 7, 7, 23, 63, 127, 255, 511, 1023, 2047, 511, 4607, 12799, 511, 33279, 98815, 262143, 524287, 1048575]
theorem hard_Get.tab2 : rtab .any (opsOf Try.f18 2) = hard_Get.T2 := by kernel_rfl
theorem hard_Get.bits2 : waitsOk hard_Get.T2.2 hard_Get.B2 = true := by kernel_rfl
def hard_Get.T4 : Bool × List (List Nat × List Nat) := (true, [([], []), ([0], [0]), ([1], [1]), ([2], [2]), ([], []), ([4], [4]), ([5], [5]), ([6], [6]), ([], []), ([8], [8]), ([9], [9]), ([10], [10]), ([3, 7, 11], [3, 7, 11]), ([], []), ([13, 12, 0, 1, 2, 3, 4, 5, 6, 7, 8, 9, 10, 11, 12, 13], [12, 13])])
def hard_Get.B4 : List Nat := [0, 1, 3, 7, 0, 16, 48, 112, 0, 256, 768, 1792, 4095, 0, 16383]
theorem hard_Get.tab4 : rtab .any (opsOf Try.f18 4) = hard_Get.T4 := by kernel_rfl
theorem hard_Get.bits4 : waitsOk hard_Get.T4.2 hard_Get.B4 = true := by kernel_rfl
set_option maxHeartbeats 8000000 in
set_option maxRecDepth 100000 in
theorem hard_Get.calls (k : Nat) (A0 : Option Addr) (c0 : Nat) (l0 : List Int) (r1 : Int) (r2 : Int) (r3 : Int) (r4 : Int) (w : World) (hr0 : Kd.C (Kd.int .u8) w A0 l0.length l0) (hc0 : l0.length ≤ c0) (h : hard_Get.f k l0 = some (r1, r2, r3, r4)) :
 Calls Try.prog 18 #[.slice A0 l0.length c0] w fun e w' => e = .returned (.tuple #[.agg #[.int .i64 r1, .int .i64 r2, .int .i64 r3], .int .i64 r4]) ∧ Below w.heap.size w w' := by
 have hu28 := Try.underlying28
 have HR0 := Am hr0
 have HC0 := Am hc0
 clear hr0 hc0
 have HB := Am (Below.refl w.heap.size w)
 unfold hard_Get.f at h
 have H := h
 clear h
 obtain ⟨⟨t348, t349, t350⟩, A2, H⟩ := zb H
 dsimp only at H
 have HC3 := Am H
 clear H
 go_enter Try.func18, Try.ntmps18
 go_upto_region 2 with (first | ((with_reducible refine zD 2 rfl ?_); (try (refine gate_guard (by rfl) ?_; dsimp only)); refine zE 2 #[.int .i64 0, .int .i64 0, .int .i64 0] 28 ?_; intro Al hg w4 hbox hb; have Ab := Am (hbox); have Az := zA hg HB; replace HB := zB HB hb; have Aj := Az; clear hb hbox hg) | ((with_reducible refine zC 43 rfl ?_); refine zL (some 10) Try.func43 #[.slice A0 l0.length c0, .int .i64 3] ?_; (with_reducible refine (varint_All.calls k _ _ l0 3 t348 t349 t350 _ ?A1 ?A3 A2.out).mono ?_); (case A1 => exact pC (Kd.C_below HR0.out HB.out)); (case A3 => exact HC0.out); rintro e w5 ⟨v351, rfl, ho0, hb⟩; refine ⟨_, rfl, ?_⟩; have Ak := Am (Kd.R_lower ho0 (below_size (pE HB.out Aj.out))); replace Ab := kBa Ab hb; replace HB := zX1 HB Aj.out hb; (try clear hb); (try clear ho0)))
 (try simp only [Act.put, List.setIfInBounds_toArray, List.set_cons_zero, List.set_cons_succ])
 go_cut [34] (fun v34 wc => ∃ (kq : Nat) (At : Bool), v34 = .bool At ∧ Aside0 (hard_Get.j0 kq t348 At = some (r1, r2, r3, r4)) ∧ Aside0 (kq ≤ k) ∧ Aside0 (Kd.R (Kd.int .u64) 61 wc w.heap.size (fun _ => True) v351 t348) ∧ Aside0 (wc.heap[Al]? = some (.cells #[.int .i64 0, .int .i64 0, .int .i64 0] 28 (0, 0))) ∧ Aside0 (Below w.heap.size w wc))
 case first =>
  have H := HC3.out
  clear HC3
  by_cases c6 : t350 = 0
  rotate_left
  ·rw [if_neg c6] at H
   obtain ⟨c6b0, c6b1⟩ := zk c6
   (first | rw [c6b0] | (simp only [i64_w, i32_w]; rw [c6b0]) | skip)
   have H' := Am H
   clear H
   try go_wp2
   replace Ak := dRa Ak
   replace Ab := kDa Ab
   replace HB := bDa HB
   refine start_ (n := 21) (S := fun w' => True) (ds := []) #[false, false, false, false, false, false, false, false, false, false, false, false, false, false, false, false, false, false, false, false, false] (by kernel_rfl) rfl rfl trivial (fun hHeld => ?_); refine with_tabW hard_Get.tab2 hard_Get.bits2 (fun HT_ HW_ => ?_)
   generalize w5.drew = w16 at Ak Ab HB hHeld ⊢
   refine pui 0 14 21 1 HT_ ?_
   refine zp 1 (h := zp 2 (h := zq 3 (h := zq 4 (h := zq 5 (h := zq 6 (h := zp 7 (h := zp 8 (h := zq 9 (h := zq 10 (h := zq 11 (h := zq 12 (h := zq 13 (h := zq 14 (h := zq 15 (h := zq 16 (h := zq 17 (h := zq 18 (h := zq 19 (h := zp 20 (h := ?_))))))))))))))))))))
   refine done_ (done_of HT_.out (by kernel_rfl)) ?_
   try go_wp2
   go_meet
   case rel => exact ⟨_, (true), zr, H', ⟨zo⟩, ⟨by (with_reducible repeat (first | apply Kd.R_alloc | apply Kd.R_drewN | apply Kd.R_drew)); exact Ak.out⟩, ⟨pK Ab.out⟩, ⟨pE HB.out Aj.out⟩⟩
  rw [if_pos c6] at H
  obtain ⟨c6b0, c6b1⟩ := zc c6
  clear c6
  (first | rw [c6b0] | (simp only [i64_w, i32_w]; rw [c6b0]) | skip)
  by_cases c7 : t349 = (l0.length : Int)
  rotate_left
  ·rw [if_neg c7] at H
   obtain ⟨c7b0, c7b1⟩ := zk c7
   have H' := Am H
   clear H
   try go_wp2
   replace Ak := dRa Ak
   replace Ab := kDa Ab
   replace HB := bDa HB
   refine start_ (n := 21) (S := fun w' => True) (ds := []) #[false, false, false, false, false, false, false, false, false, false, false, false, false, false, false, false, false, false, false, false, false] (by kernel_rfl) rfl rfl trivial (fun hHeld => ?_); refine with_tabW hard_Get.tab2 hard_Get.bits2 (fun HT_ HW_ => ?_)
   generalize w5.drew = w15 at Ak Ab HB hHeld ⊢
   refine pui 0 14 21 1 HT_ ?_
   refine zp 1 (h := zp 2 (h := zp 3 (h := zp 4 (h := zp 5 (h := zp 6 (h := zp 7 (h := zp 8 (h := zq 9 (h := zq 10 (h := zq 11 (h := zq 12 (h := zq 13 (h := zq 14 (h := zq 15 (h := zq 16 (h := zq 17 (h := zq 18 (h := zq 19 (h := zp 20 (h := ?_))))))))))))))))))))
   refine done_ (done_of HT_.out (by kernel_rfl)) ?_
   try go_wp2
   go_meet
   case rel => exact ⟨_, (true), zr, H', ⟨zo⟩, ⟨by (with_reducible repeat (first | apply Kd.R_alloc | apply Kd.R_drewN | apply Kd.R_drew)); exact Ak.out⟩, ⟨pK Ab.out⟩, ⟨pE HB.out Aj.out⟩⟩
  rw [if_pos c7] at H
  obtain ⟨c7b0, c7b1⟩ := zc c7
  clear c7
  obtain ⟨c8, H⟩ := zI H
  have c8b0 := decide_eq_true c8
  have c8b1 : decide (0 < t348.length) = true := decide_eq_true (by omega)
  clear c8
  obtain ⟨c9, H⟩ := zI H
  have c9b0 := decide_eq_true c9
  have c9b1 : decide (1 < t348.length) = true := decide_eq_true (by omega)
  clear c9
  obtain ⟨c10, H⟩ := zI H
  have c10b0 := decide_eq_true c10
  have c10b1 : decide (2 < t348.length) = true := decide_eq_true (by omega)
  clear c10
  obtain ⟨ji11, hji11⟩ : ∃ j_ : Int, (mx (rd t348 0) (rd t348 1)) = j_ := ⟨_, rfl⟩
  replace H : (hard_Get.j0 k t348 (decide ((mx (ji11) (rd t348 2)) > 2147483647))) = some (r1, r2, r3, r4) := by first | (rw [hji11] at H; exact H) | (simp only [hji11] at H ⊢; exact H)
  have hji11_ : (if (rd t348 0) < (rd t348 1) then (rd t348 1) else (rd t348 0)) = ji11 := hji11
  obtain ⟨ji12, hji12⟩ : ∃ j_ : Int, (mx (ji11) (rd t348 2)) = j_ := ⟨_, rfl⟩
  replace H : (hard_Get.j0 k t348 (decide ((ji12) > 2147483647))) = some (r1, r2, r3, r4) := by first | (rw [hji12] at H; exact H) | (simp only [hji12] at H ⊢; exact H)
  have hji12_ : (if (ji11) < (rd t348 2) then (rd t348 2) else (ji11)) = ji12 := hji12
  have H' := Am H
  clear H
  try go_wp2
  replace Ak := dRa Ak
  replace Ab := kDa Ab
  replace HB := bDa HB
  obtain ⟨Ao14, co14, Aw⟩ := Kd.R_slice Ak.out
  (first | subst Aw | (injection Aw with f1_ f2_ f3_; have f4_ := f1_.symm; have f5_ := f3_.symm; clear f1_ f2_ f3_; subst f4_; subst f5_))
  have p353 : 0 ≤ (0 : Int) := (by omega)
  have q353 : 0 < (t348.length : Int) := of_decide_eq_true pS
  obtain ⟨Ar, e353, Ao⟩ := Kd.at_int (Kd.R_reads' Ak.out).2.2 0 p353 q353
  cases e353
  have qi353 : (0 < t348.length) = True := eq_true (by omega)
  (try simp only [tz, Addr.add_zero'] at Ao)
  replace p353 := eq_true p353
  replace q353 := eq_true q353
  have p354 : 0 ≤ (1 : Int) := (by omega)
  have q354 : 1 < (t348.length : Int) := of_decide_eq_true pS
  obtain ⟨A4, e354, Ap⟩ := Kd.at_int (Kd.R_reads' Ak.out).2.2 1 p354 q354
  obtain rfl : Ar = A4 := (by injection e354)
  (try simp only [show (1 : Int).toNat = 1 from rfl, Nat.reduceMul, Nat.reduceEqDiff, Go.Addr.add, ↓reduceIte] at Ap)
  have qi354 : (1 < t348.length) = True := eq_true (by omega)
  (try rw [show ((1 : Int)).toNat = 1 from rfl] at Ap)
  replace p354 := eq_true p354
  replace q354 := eq_true q354
  have p355 : 0 ≤ (2 : Int) := (by omega)
  have q355 : 2 < (t348.length : Int) := of_decide_eq_true pS
  obtain ⟨A5, e355, Aq⟩ := Kd.at_int (Kd.R_reads' Ak.out).2.2 2 p355 q355
  obtain rfl : Ar = A5 := (by injection e355)
  (try simp only [show (2 : Int).toNat = 2 from rfl, Nat.reduceMul, Nat.reduceEqDiff, Go.Addr.add, ↓reduceIte] at Aq)
  have qi355 : (2 < t348.length) = True := eq_true (by omega)
  (try rw [show ((2 : Int)).toNat = 2 from rfl] at Aq)
  replace p355 := eq_true p355
  replace q355 := eq_true q355
  refine start_ (n := 21) (S := fun w' => w'.cell? Ar = some (.int .u64 (rd t348 0)) ∧ cA w' Ar 1 (.int .u64 (rd t348 1)) ∧ cA w' Ar 2 (.int .u64 (rd t348 2))) (ds := []) #[false, false, false, false, false, false, false, false, false, false, false, false, false, false, false, false, false, false, false, false, false] (by kernel_rfl) rfl rfl ⟨Ao, Ap, Aq⟩ (fun hHeld => ?_); refine with_tabW hard_Get.tab2 hard_Get.bits2 (fun HT_ HW_ => ?_)
  generalize w5.drew = w13 at Ak Ab HB Ao Ap Aq hHeld ⊢
  refine pui 0 14 21 1 HT_ ?_
  refine zp 1 (h := zp 2 (h := zp 3 (h := zp 4 (h := zp 5 (h := zp 6 (h := zp 7 (h := zp 8 (h := zp 9 (h := zp 10 (h := zp 12 (h := zp 13 (h := zp 15 (h := zp 16 (h := zw 11 (h := zw 14 (h := zw 17 (h := zp 18 (h := zp 19 (h := zp 20 (h := ?_))))))))))))))))))))
  refine done_ (done_of HT_.out (by kernel_rfl)) ?_
  try go_wp2
  go_meet
  case rel => exact ⟨_, (decide ((ji12) > 2147483647)), (by first | rfl | (simp; done) | (simp only [← hji12] <;> (first | rfl | simp)) | (simp [*]; done)), H', ⟨zo⟩, ⟨by (with_reducible repeat (first | apply Kd.R_alloc | apply Kd.R_drewN | apply Kd.R_drew)); exact Ak.out⟩, ⟨pK Ab.out⟩, ⟨pE HB.out Aj.out⟩⟩
 case rest =>
  clear HC3
  try clear c1
  try clear p2
  try clear p3
  try clear q3
  try clear hx3
  try clear qi3
  try clear c4
  try clear c6
  try clear c6b0
  try clear c6b1
  try clear c7
  try clear c7b0
  try clear c7b1
  try clear c8
  try clear c8b0
  try clear c8b1
  try clear c9
  try clear c9b0
  try clear c9b1
  try clear c10
  try clear c10b0
  try clear c10b1
  try clear Ao
  try clear Ap
  try clear Aq
  try clear p353
  try clear p354
  try clear p355
  try clear q353
  try clear q354
  try clear q355
  obtain ⟨kq, At, rfl, HA, HJ2, Ac, Ab, HB⟩ := hcut
  cases kq with
  | zero => exact absurd HA.out (by simp [hard_Get.j0])
  | succ kj2 =>
   have H := HA.out
   clear HA
   simp only [hard_Get.j0] at H
   by_cases c17 : At = true
   ·subst c17
    rw [if_pos rfl] at H
    simp only [Option.some.injEq, Prod.mk.injEq] at H
    obtain ⟨rfl, rfl, rfl, rfl⟩ := H
    obtain ⟨_, _, _⟩ := bc3 Ab.out
    obtain ⟨_, _, _⟩ := bf3 Ab.out
    go_wp2
    refine bodyPost_ret (results_ct rfl _ _ Al 28 #[.int .i64 0, .int .i64 0, .int .i64 0] (0, 0) _ rfl (kX0 Ab.out) Try.underlying28 rfl (by kernel_rfl)) rfl ?_
    exact ⟨pX, pE HB.out Aj.out⟩
   replace c17 := Bool.eq_false_iff.mpr c17
   subst c17
   rw [if_neg zF] at H
   obtain ⟨c19, H⟩ := zI H
   have c19b0 := decide_eq_true c19
   have c19b1 : decide (0 < t348.length) = true := decide_eq_true (by omega)
   clear c19
   obtain ⟨c20, H⟩ := zI H
   have c20b0 := decide_eq_true c20
   have c20b1 : decide (1 < t348.length) = true := decide_eq_true (by omega)
   clear c20
   obtain ⟨c21, H⟩ := zI H
   have c21b0 := decide_eq_true c21
   have c21b1 : decide (2 < t348.length) = true := decide_eq_true (by omega)
   clear c21
   obtain ⟨t360, A22, H⟩ := zb H
   by_cases c23 : t360 = 0
   rotate_left
   ·rw [if_neg c23] at H
    obtain ⟨c23b0, c23b1⟩ := zk c23
    simp only [Option.some.injEq, Prod.mk.injEq] at H
    obtain ⟨rfl, rfl, rfl, rfl⟩ := H
    try go_wp2
    replace Ac := dRa Ac
    replace Ab := kDa Ab
    replace HB := bDa HB
    obtain ⟨Ao36, co36, Ay⟩ := Kd.R_slice Ac.out
    (first | subst Ay | (injection Ay with f1_ f2_ f3_; have f4_ := f1_.symm; have f5_ := f3_.symm; clear f1_ f2_ f3_; subst f4_; subst f5_))
    have p356 : 0 ≤ (0 : Int) := (by omega)
    have q356 : 0 < (t348.length : Int) := of_decide_eq_true pS
    obtain ⟨An, e356, Ag⟩ := Kd.at_int (Kd.R_reads' Ac.out).2.2 0 p356 q356
    cases e356
    have qi356 : (0 < t348.length) = True := eq_true (by omega)
    (try simp only [tz, Addr.add_zero'] at Ag)
    replace p356 := eq_true p356
    replace q356 := eq_true q356
    have p357 : 0 ≤ (1 : Int) := (by omega)
    have q357 : 1 < (t348.length : Int) := of_decide_eq_true pS
    obtain ⟨Au, e357, Ah⟩ := Kd.at_int (Kd.R_reads' Ac.out).2.2 1 p357 q357
    obtain rfl : An = Au := (by injection e357)
    (try simp only [show (1 : Int).toNat = 1 from rfl, Nat.reduceMul, Nat.reduceEqDiff, Go.Addr.add, ↓reduceIte] at Ah)
    have qi357 : (1 < t348.length) = True := eq_true (by omega)
    (try rw [show ((1 : Int)).toNat = 1 from rfl] at Ah)
    replace p357 := eq_true p357
    replace q357 := eq_true q357
    have p358 : 0 ≤ (2 : Int) := (by omega)
    have q358 : 2 < (t348.length : Int) := of_decide_eq_true pS
    obtain ⟨Av, e358, Ai⟩ := Kd.at_int (Kd.R_reads' Ac.out).2.2 2 p358 q358
    obtain rfl : An = Av := (by injection e358)
    (try simp only [show (2 : Int).toNat = 2 from rfl, Nat.reduceMul, Nat.reduceEqDiff, Go.Addr.add, ↓reduceIte] at Ai)
    have qi358 : (2 < t348.length) = True := eq_true (by omega)
    (try rw [show ((2 : Int)).toNat = 2 from rfl] at Ai)
    replace p358 := eq_true p358
    replace q358 := eq_true q358
    refine start_ (n := 15) (S := fun w' => w'.cell? An = some (.int .u64 (rd t348 0)) ∧ cA w' An 1 (.int .u64 (rd t348 1)) ∧ cA w' An 2 (.int .u64 (rd t348 2))) (ds := []) #[false, false, false, false, false, false, false, false, false, false, false, false, false, false, false] (by kernel_rfl) rfl rfl ⟨Ag, Ah, Ai⟩ (fun hHeld => ?_); refine with_tabW hard_Get.tab4 hard_Get.bits4 (fun HT_ HW_ => ?_)
    (first | generalize wc.drew = w35 at Ac Ab HB Ag Ah Ai hHeld ⊢ | generalize wc.drew = w35 at Ab HB Ag Ah Ai hHeld ⊢)
    refine pui 0 36 15 1 HT_ ?_
    refine zp 1 (h := zp 4 (h := zp 5 (h := zp 8 (h := zp 9 (h := zw 2 (h := zp 3 (h := zw 6 (h := zp 7 (h := zw 10 (h := zp 11 (h := zp 12 (h := ?_))))))))))))
    refine onei 13 7 15 16383 HT_ (fun K hK => ?_)
    refine box_step ?hg (N := 7) ?hd (cs := #[.int .i64 0, .int .i64 0, .int .i64 0]) (t := 28) ?hr ?_; (case hd => rfl); (case hg => rfl); (case hr => first | (go_simp; done) | (go_simp; rfl))
    intro Af hg w37 hbox hb
    have HS0_ := zH hb hHeld.1
    have HS1_ := zH hb hHeld.2.1
    have HS2_ := zH hb hHeld.2.2
    replace Ac := bRa Ac hb
    have Aa := Am (hbox)
    have A6 := zY1 hg HB Aj.out
    have As := zY1 hg HB Aj.out
    replace HB := zX1 HB Aj.out hb
    have Ad := Am (zN hg (kL Ab.out))
    have Ae := Am (zM hg (kL Ab.out))
    replace Ab := kBa Ab hb
    clear hb hbox hg
    refine hK.out _ _ ⟨HS0_, HS1_, HS2_⟩ (fun hHeld => ?_)
    clear hK K
    refine norm_ (a' := ?_) ?_ ?_
    rotate_left
    ·show Act.put _ (some 7) _ = _
     simp only [Act.put, List.setIfInBounds_toArray, List.set_cons_zero, List.set_cons_succ, i64_w, i32_w]
     rfl
    refine one_ (i := 14) (N := none) (bw 15 32767) rfl rfl (one_of HT_.out (by kernel_rfl)) (by decide) (fun K hK => ?_)
    have hs38 : w37.cell? ⟨Af, 0, none⟩ = some (.int .i64 0) := (blk_cell Aa.out 0).trans rfl
    have hfs38 := blk_frozen Aa.out 0
    have hns38_0 := Ad.out
    have hms38_0 := Ae.out
    have hs39 : w37.cell? ⟨Af, 1, none⟩ = some (.int .i64 0) := (blk_cell Aa.out 1).trans rfl
    have hfs39 := blk_frozen Aa.out 1
    have hns39_0 := Ad.out
    have hms39_0 := Ae.out
    have hs40 : w37.cell? ⟨Af, 2, none⟩ = some (.int .i64 0) := (blk_cell Aa.out 2).trans rfl
    have hfs40 := blk_frozen Aa.out 2
    have hns40_0 := Ad.out
    have hms40_0 := Ae.out
    refine skip_ (w1 := ?_) (by rfl) rfl ?_ ?_
    rotate_left
    ·go_simp
     rfl
    refine hK.out _ _ ⟨(cX1 hHeld.1 (by first | exact Kd.own_blk (Kd.R_ne Ac.out Aa.out (by decide)) | (rw [add_block]; exact Kd.own_blk (Kd.R_ne Ac.out Aa.out (by decide))) | (show (Addr.add _ _).block ≠ _; rw [add_block]; exact Kd.own_blk (Kd.R_ne Ac.out Aa.out (by decide))) | (dsimp only; exact Kd.own_blk (Kd.R_ne Ac.out Aa.out (by decide))))), (cX1 hHeld.2.1 (by first | exact Kd.own_blk (Kd.R_ne Ac.out Aa.out (by decide)) | (rw [add_block]; exact Kd.own_blk (Kd.R_ne Ac.out Aa.out (by decide))) | (show (Addr.add _ _).block ≠ _; rw [add_block]; exact Kd.own_blk (Kd.R_ne Ac.out Aa.out (by decide))) | (dsimp only; exact Kd.own_blk (Kd.R_ne Ac.out Aa.out (by decide))))), (cX1 hHeld.2.2 (by first | exact Kd.own_blk (Kd.R_ne Ac.out Aa.out (by decide)) | (rw [add_block]; exact Kd.own_blk (Kd.R_ne Ac.out Aa.out (by decide))) | (show (Addr.add _ _).block ≠ _; rw [add_block]; exact Kd.own_blk (Kd.R_ne Ac.out Aa.out (by decide))) | (dsimp only; exact Kd.own_blk (Kd.R_ne Ac.out Aa.out (by decide)))))⟩ (fun hHeld => ?_)
    clear hK K
    refine done_ (done_of HT_.out (by kernel_rfl)) ?_
    have hnb41 := Ae.out
    have hnc41 := Ad.out
    obtain ⟨_, _, _⟩ := bc3 Aa.out
    obtain ⟨_, _, _⟩ := bf3 Aa.out
    try go_wp2_with (first | ((with_reducible refine zC 32 rfl ?_); refine zL (some 50) Try.func32 #[.agg #[.int .i64 (wrap64 (rd t348 0)), .int .i64 (wrap64 (rd t348 1)), .int .i64 (wrap64 (rd t348 2))]] ?_; (with_reducible refine (hard_Check.calls (wrap64 (rd t348 0)) (wrap64 (rd t348 1)) (wrap64 (rd t348 2)) t360 _ A22.out).mono ?_); rintro e w43 ⟨rfl, hb⟩; refine ⟨_, rfl, ?_⟩; replace Ac := Am (Kd.R_below (by (with_reducible repeat (first | apply Kd.R_alloc | apply Kd.R_drewN | apply Kd.R_drew)); exact (Kd.R_mono (Rf3 (g := Af) (Kd.R_types Ac.out Aa.out (by decide)) (fun _ hk => hk.2)) (fun _ h_ => h_.1))) hb); replace Ab := Am (blk_below (g := Al) (kX1 Ab.out Ad.out) hb); replace Aa := Am (blk_below (g := Af) (kX0 Aa.out) hb); replace HB := zX2 HB Aj.out As.out hb; (try clear hb); (try clear hk); obtain ⟨_, _, _⟩ := bc3 Ab.out; obtain ⟨_, _, _⟩ := bf3 Ab.out))
    refine bodyPost_ret (results_ct rfl _ _ Al 28 #[.int .i64 0, .int .i64 0, .int .i64 0] (0, 0) _ rfl (kX0 Ab.out) Try.underlying28 rfl (by kernel_rfl)) rfl ?_
    exact ⟨pX, pE2 HB.out Aj.out As.out⟩
   rw [if_pos c23] at H
   obtain ⟨c23b0, c23b1⟩ := zc c23
   clear c23
   simp only [Option.some.injEq, Prod.mk.injEq] at H
   obtain ⟨rfl, rfl, rfl, rfl⟩ := H
   try go_wp2
   replace Ac := dRa Ac
   replace Ab := kDa Ab
   replace HB := bDa HB
   obtain ⟨Ao25, co25, Ax⟩ := Kd.R_slice Ac.out
   (first | subst Ax | (injection Ax with f1_ f2_ f3_; have f4_ := f1_.symm; have f5_ := f3_.symm; clear f1_ f2_ f3_; subst f4_; subst f5_))
   have p356 : 0 ≤ (0 : Int) := (by omega)
   have q356 : 0 < (t348.length : Int) := of_decide_eq_true pS
   obtain ⟨An, e356, Ag⟩ := Kd.at_int (Kd.R_reads' Ac.out).2.2 0 p356 q356
   cases e356
   have qi356 : (0 < t348.length) = True := eq_true (by omega)
   (try simp only [tz, Addr.add_zero'] at Ag)
   replace p356 := eq_true p356
   replace q356 := eq_true q356
   have p357 : 0 ≤ (1 : Int) := (by omega)
   have q357 : 1 < (t348.length : Int) := of_decide_eq_true pS
   obtain ⟨Au, e357, Ah⟩ := Kd.at_int (Kd.R_reads' Ac.out).2.2 1 p357 q357
   obtain rfl : An = Au := (by injection e357)
   (try simp only [show (1 : Int).toNat = 1 from rfl, Nat.reduceMul, Nat.reduceEqDiff, Go.Addr.add, ↓reduceIte] at Ah)
   have qi357 : (1 < t348.length) = True := eq_true (by omega)
   (try rw [show ((1 : Int)).toNat = 1 from rfl] at Ah)
   replace p357 := eq_true p357
   replace q357 := eq_true q357
   have p358 : 0 ≤ (2 : Int) := (by omega)
   have q358 : 2 < (t348.length : Int) := of_decide_eq_true pS
   obtain ⟨Av, e358, Ai⟩ := Kd.at_int (Kd.R_reads' Ac.out).2.2 2 p358 q358
   obtain rfl : An = Av := (by injection e358)
   (try simp only [show (2 : Int).toNat = 2 from rfl, Nat.reduceMul, Nat.reduceEqDiff, Go.Addr.add, ↓reduceIte] at Ai)
   have qi358 : (2 < t348.length) = True := eq_true (by omega)
   (try rw [show ((2 : Int)).toNat = 2 from rfl] at Ai)
   replace p358 := eq_true p358
   replace q358 := eq_true q358
   refine start_ (n := 15) (S := fun w' => w'.cell? An = some (.int .u64 (rd t348 0)) ∧ cA w' An 1 (.int .u64 (rd t348 1)) ∧ cA w' An 2 (.int .u64 (rd t348 2))) (ds := []) #[false, false, false, false, false, false, false, false, false, false, false, false, false, false, false] (by kernel_rfl) rfl rfl ⟨Ag, Ah, Ai⟩ (fun hHeld => ?_); refine with_tabW hard_Get.tab4 hard_Get.bits4 (fun HT_ HW_ => ?_)
   (first | generalize wc.drew = w24 at Ac Ab HB Ag Ah Ai hHeld ⊢ | generalize wc.drew = w24 at Ab HB Ag Ah Ai hHeld ⊢)
   refine pui 0 36 15 1 HT_ ?_
   refine zp 1 (h := zp 4 (h := zp 5 (h := zp 8 (h := zp 9 (h := zw 2 (h := zp 3 (h := zw 6 (h := zp 7 (h := zw 10 (h := zp 11 (h := zp 12 (h := ?_))))))))))))
   refine onei 13 7 15 16383 HT_ (fun K hK => ?_)
   refine box_step ?hg (N := 7) ?hd (cs := #[.int .i64 0, .int .i64 0, .int .i64 0]) (t := 28) ?hr ?_; (case hd => rfl); (case hg => rfl); (case hr => first | (go_simp; done) | (go_simp; rfl))
   intro Af hg w26 hbox hb
   have HS0_ := zH hb hHeld.1
   have HS1_ := zH hb hHeld.2.1
   have HS2_ := zH hb hHeld.2.2
   replace Ac := bRa Ac hb
   have Aa := Am (hbox)
   have A6 := zY1 hg HB Aj.out
   have As := zY1 hg HB Aj.out
   replace HB := zX1 HB Aj.out hb
   have Ad := Am (zN hg (kL Ab.out))
   have Ae := Am (zM hg (kL Ab.out))
   replace Ab := kBa Ab hb
   clear hb hbox hg
   refine hK.out _ _ ⟨HS0_, HS1_, HS2_⟩ (fun hHeld => ?_)
   clear hK K
   refine norm_ (a' := ?_) ?_ ?_
   rotate_left
   ·show Act.put _ (some 7) _ = _
    simp only [Act.put, List.setIfInBounds_toArray, List.set_cons_zero, List.set_cons_succ, i64_w, i32_w]
    rfl
   refine one_ (i := 14) (N := none) (bw 15 32767) rfl rfl (one_of HT_.out (by kernel_rfl)) (by decide) (fun K hK => ?_)
   have hs27 : w26.cell? ⟨Af, 0, none⟩ = some (.int .i64 0) := (blk_cell Aa.out 0).trans rfl
   have hfs27 := blk_frozen Aa.out 0
   have hns27_0 := Ad.out
   have hms27_0 := Ae.out
   have hs28 : w26.cell? ⟨Af, 1, none⟩ = some (.int .i64 0) := (blk_cell Aa.out 1).trans rfl
   have hfs28 := blk_frozen Aa.out 1
   have hns28_0 := Ad.out
   have hms28_0 := Ae.out
   have hs29 : w26.cell? ⟨Af, 2, none⟩ = some (.int .i64 0) := (blk_cell Aa.out 2).trans rfl
   have hfs29 := blk_frozen Aa.out 2
   have hns29_0 := Ad.out
   have hms29_0 := Ae.out
   refine skip_ (w1 := ?_) (by rfl) rfl ?_ ?_
   rotate_left
   ·go_simp
    rfl
   refine hK.out _ _ ⟨(cX1 hHeld.1 (by first | exact Kd.own_blk (Kd.R_ne Ac.out Aa.out (by decide)) | (rw [add_block]; exact Kd.own_blk (Kd.R_ne Ac.out Aa.out (by decide))) | (show (Addr.add _ _).block ≠ _; rw [add_block]; exact Kd.own_blk (Kd.R_ne Ac.out Aa.out (by decide))) | (dsimp only; exact Kd.own_blk (Kd.R_ne Ac.out Aa.out (by decide))))), (cX1 hHeld.2.1 (by first | exact Kd.own_blk (Kd.R_ne Ac.out Aa.out (by decide)) | (rw [add_block]; exact Kd.own_blk (Kd.R_ne Ac.out Aa.out (by decide))) | (show (Addr.add _ _).block ≠ _; rw [add_block]; exact Kd.own_blk (Kd.R_ne Ac.out Aa.out (by decide))) | (dsimp only; exact Kd.own_blk (Kd.R_ne Ac.out Aa.out (by decide))))), (cX1 hHeld.2.2 (by first | exact Kd.own_blk (Kd.R_ne Ac.out Aa.out (by decide)) | (rw [add_block]; exact Kd.own_blk (Kd.R_ne Ac.out Aa.out (by decide))) | (show (Addr.add _ _).block ≠ _; rw [add_block]; exact Kd.own_blk (Kd.R_ne Ac.out Aa.out (by decide))) | (dsimp only; exact Kd.own_blk (Kd.R_ne Ac.out Aa.out (by decide)))))⟩ (fun hHeld => ?_)
   clear hK K
   refine done_ (done_of HT_.out (by kernel_rfl)) ?_
   have hnb30 := Ae.out
   have hnc30 := Ad.out
   obtain ⟨_, _, _⟩ := bc3 Aa.out
   obtain ⟨_, _, _⟩ := bf3 Aa.out
   try go_wp2_with (first | ((with_reducible refine zC 32 rfl ?_); refine zL (some 50) Try.func32 #[.agg #[.int .i64 (wrap64 (rd t348 0)), .int .i64 (wrap64 (rd t348 1)), .int .i64 (wrap64 (rd t348 2))]] ?_; (with_reducible refine (hard_Check.calls (wrap64 (rd t348 0)) (wrap64 (rd t348 1)) (wrap64 (rd t348 2)) t360 _ A22.out).mono ?_); rintro e w32 ⟨rfl, hb⟩; refine ⟨_, rfl, ?_⟩; replace Ac := Am (Kd.R_below (by (with_reducible repeat (first | apply Kd.R_alloc | apply Kd.R_drewN | apply Kd.R_drew)); exact (Kd.R_mono (Rf3 (g := Af) (Kd.R_types Ac.out Aa.out (by decide)) (fun _ hk => hk.2)) (fun _ h_ => h_.1))) hb); replace Ab := Am (blk_below (g := Al) (kX1 Ab.out Ad.out) hb); replace Aa := Am (blk_below (g := Af) (kX0 Aa.out) hb); replace HB := zX2 HB Aj.out As.out hb; (try clear hb); (try clear hk); obtain ⟨_, _, _⟩ := bc3 Aa.out; obtain ⟨_, _, _⟩ := bf3 Aa.out; obtain ⟨_, _, _⟩ := bc3 Ab.out; obtain ⟨_, _, _⟩ := bf3 Ab.out))
   refine bodyPost_ret (results_ct rfl _ _ Al 28 #[.int .i64 (wrap64 (rd t348 0)), .int .i64 (wrap64 (rd t348 1)), .int .i64 (wrap64 (rd t348 2))] (0, 0) _ rfl (kX0 Ab.out) Try.underlying28 rfl (by kernel_rfl)) rfl ?_
   exact ⟨pX, pE2 HB.out Aj.out As.out⟩
end
end Go.Proofs.Ytdanmjfkocjgjaa.PWalPuts
