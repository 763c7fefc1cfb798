/- What the law reaches, as plain Lean functions, and that the machine's calls answer just that. -/
import Derived.Test.YtdanmjfkocjgjaaPWalGetsx0
import Derived.Test.YtdanmjfkocjgjaaPWalGetsx16
import Derived.Test.YtdanmjfkocjgjaaPWalGetsx17
import Derived.Test.YtdanmjfkocjgjaaPWalGetsx19
namespace Go.Proofs.Ytdanmjfkocjgjaa.PWalGets
open Go.RowKit Go.Proofs.YtdanmjfkocjgjaaW.PrintWords Go.Proofs.YtdanmjfkocjgjaaW.PrintLast Go.Proofs.YtdanmjfkocjgjaaW.PrintMore
attribute [local go_sem] max2_int min2_int max_two min_two max_three min_three max_four min_four
set_option linter.unusedVariables false
set_option linter.unusedSimpArgs false
attribute [local go_sem] wrap64_l1 wrap64_l2 wrap64_l3 wrap64_l4 wrap64_l5
mutual
def garnerref06_Get.j0 : Nat → List Int → Int → Int → Int → Int → Bool → Option ((List (S52)))
 | 0, _, _, _, _, _, _ => none
 | k + 1, x0, x3, x4, x5, x6, x29 => if x29 = true then (some ([] : List (S52))) else (garnerref06_Get.l0 k x0 x3 x5 (wrap64 (x4 + x6)) (([] : List (S52))) 0)
def garnerref06_Get.l0 : Nat → List Int → Int → Int → Int → List (S52) → Int → Option ((List (S52)))
 | 0, _, _, _, _, _, _ => none
 | k + 1, x0, x3, x5, x7, x8, x9 => if x9 < x3 then (if 0 ≤ x7 then (if x7 ≤ (x0.length : Int) then ((garnerref06_one.f k (x0.drop (x7 : Int).toNat) (wrap64 (x5 + x9))).bind fun bt493 => (if bt493.2.2.2.2.2.2.2.2.2.2 = 0 then (some ([] : List (S52))) else (if x8.length < 1353245080339 then (garnerref06_Get.l0 k x0 x3 x5 (wrap64 (x7 + bt493.2.2.2.2.2.2.2.2.2.2)) (x8 ++ [(⟨bt493.1, bt493.2.1, bt493.2.2.1, bt493.2.2.2.1, (⟨bt493.2.2.2.2.1, bt493.2.2.2.2.2.1, (⟨bt493.2.2.2.2.2.2.1, bt493.2.2.2.2.2.2.2.1, bt493.2.2.2.2.2.2.2.2.1, bt493.2.2.2.2.2.2.2.2.2.1⟩ : S48)⟩ : S50)⟩ : S52)]) (wrap64 (x9 + 1))) else (none)))) else (none)) else (none)) else (if x7 = (x0.length : Int) then ((garnerref06_Batch.f k x8).bind fun t510 => (if t510 = true then (some x8) else (some ([] : List (S52))))) else (some ([] : List (S52))))
end
def garnerref06_Get.f (k : Nat) (l0 : List Int) : Option ((List (S52))) := (garnerref06_number.f k l0 16).bind fun bt484 => (if 0 ≤ bt484.2 then (if bt484.2 ≤ (l0.length : Int) then ((garnerref06_number.f k (l0.drop (bt484.2 : Int).toNat) 2147483647).bind fun bt487 => (if bt484.2 = 0 then (garnerref06_Get.j0 k l0 bt484.1 bt484.2 bt487.1 bt487.2 true) else (garnerref06_Get.j0 k l0 bt484.1 bt484.2 bt487.1 bt487.2 (bt487.2 == 0)))) else (none)) else (none))
theorem garnerref06_Get.mono_l : ∀ k, (∀ y0 y1 y2 y3 y4 y5, LeO (garnerref06_Get.j0 k y0 y1 y2 y3 y4 y5) (garnerref06_Get.j0 (k + 1) y0 y1 y2 y3 y4 y5)) ∧ (∀ y0 y1 y2 y3 y4 y5, LeO (garnerref06_Get.l0 k y0 y1 y2 y3 y4 y5) (garnerref06_Get.l0 (k + 1) y0 y1 y2 y3 y4 y5))
 | 0 => ⟨fun _ _ _ _ _ _ r h => by simp [garnerref06_Get.j0] at h, fun _ _ _ _ _ _ r h => by simp [garnerref06_Get.l0] at h⟩
 | k + 1 => by
  obtain ⟨ih0, ih1⟩ := garnerref06_Get.mono_l k
  refine ⟨?_, ?_⟩
  ·intro y0 y1 y2 y3 y4 y5
   unfold garnerref06_Get.j0
   repeat' (with_reducible first | exact ih0 .. | exact ih1 .. | exact garnerref06_Batch.mono .. | exact garnerref06_number.mono .. | exact garnerref06_one.mono .. | exact LeO.refl .. | exact LeO.none .. | refine LeO.ite ?_ ?_ | refine LeO.bind ?_ (fun _ => ?_))
  ·intro y0 y1 y2 y3 y4 y5
   unfold garnerref06_Get.l0
   repeat' (with_reducible first | exact ih0 .. | exact ih1 .. | exact garnerref06_Batch.mono .. | exact garnerref06_number.mono .. | exact garnerref06_one.mono .. | exact LeO.refl .. | exact LeO.none .. | refine LeO.ite ?_ ?_ | refine LeO.bind ?_ (fun _ => ?_))
theorem garnerref06_Get.mono : ∀ a0 k, LeO (garnerref06_Get.f k a0) (garnerref06_Get.f (k + 1) a0) := by
 intro a0 k
 obtain ⟨ih0, ih1⟩ := garnerref06_Get.mono_l k
 unfold garnerref06_Get.f
 repeat' (with_reducible first | exact ih0 .. | exact ih1 .. | exact garnerref06_Batch.mono .. | exact garnerref06_number.mono .. | exact garnerref06_one.mono .. | exact LeO.refl .. | exact LeO.none .. | refine LeO.ite ?_ ?_ | refine LeO.bind ?_ (fun _ => ?_))
set_option maxHeartbeats 8000000 in
set_option maxRecDepth 100000 in
theorem garnerref06_Get.calls (k : Nat) (A0 : Option Addr) (c0 : Nat) (l0 : List Int) (r : List (S52)) (w : World) (hr0 : Kd.C (Kd.int .u8) w A0 l0.length l0) (hc0 : l0.length ≤ c0) (h : garnerref06_Get.f k l0 = some r) :
 Calls Try.prog 20 #[.slice A0 l0.length c0] w fun e w' => ∃ v0_ : Value, e = .returned (v0_) ∧ Kd.S k52 52 w' w.heap.size (fun _ => True) v0_ r ∧ Below w.heap.size w w' := by
 have hu52 := Try.underlying52
 have HR0 := Am hr0
 have HC0 := Am hc0
 clear hr0 hc0
 have HB := Am (Below.refl w.heap.size w)
 unfold garnerref06_Get.f at h
 have H := h
 clear h
 replace H := Option.bind_eq_some_iff.mp H
 obtain ⟨⟨t484, t485⟩, A20, H⟩ := H
 dsimp only at H
 have A2 := Am A20
 clear A20
 obtain ⟨c3, H⟩ := zI H
 have c3b0 := eq_true c3
 have c3b1 := decide_eq_true c3
 clear c3
 obtain ⟨c4, H⟩ := zI H
 have c4b0 := eq_true c4
 have c4b1 := decide_eq_true c4
 clear c4
 replace H := Option.bind_eq_some_iff.mp H
 obtain ⟨⟨t487, t488⟩, A50, H⟩ := H
 dsimp only at H
 have A5 := Am A50
 clear A50
 have HC6 := Am H
 clear H
 go_enter Try.func20, Try.ntmps20
 go_upto_region 3 with (first | ((with_reducible refine gate_callee (f := 44) rfl ?_); refine goesL_ (some 14) rfl rfl Try.func44 (by kernel_rfl) rfl #[.slice A0 l0.length c0, .int .u64 16] rfl pL ?_; (with_reducible refine (garnerref06_number.calls k _ _ l0 16 t484 t485 _ ?Af ?Ag A2.out).mono ?_); (case Af => repeat (first | exact HR0.out | (with_reducible refine Kd.C_alloc ?_ _) | (with_reducible refine Kd.C_drewN ?_ _) | (with_reducible refine Kd.C_drew ?_))); (case Ag => exact HC0.out); rintro e w7 ⟨rfl, hb⟩; refine ⟨_, rfl, ?_⟩; replace HB := Am (below_step (pB HB.out) hb); (try clear hb); (try clear hb2); (try clear hk); (try clear hi); obtain ⟨i08, hi08, _, Ar, _⟩ := info_parts info5; obtain ⟨A8, hcut8, hA8, A1⟩ := print_drop_of (P := Try.prog) (Value.int .u8) 0 22 5 .i64 Try.underlying22 hi08 Ar A0 c0 l0 t485 (of_decide_eq_true pS) (of_decide_eq_true pS) HC0.out; have HR486 := Am (Kd.C_of_reads (h1 := fun _ => rfl) (hA8 _ (Kd.reads_of_C HR0.out))); have HC486 := Am A1; clear hA8 A1 hi08 Ar) | ((with_reducible refine gate_callee (f := 44) rfl ?_); refine goesL_ (some 21) rfl rfl Try.func44 (by kernel_rfl) rfl #[.slice A8 (l0.drop (t485 : Int).toNat).length (c0 - t485.toNat), .int .u64 2147483647] rfl (by (try simp only [List.map_toArray, List.map_cons, List.map_nil]); first | done | (rw [show (l0.drop (t485 : Int).toNat).length = (l0.length - t485.toNat) from List.length_drop] <;> rfl) | rfl | (simp only [List.length_drop, List.length_take]; rfl)) ?_; (with_reducible refine (garnerref06_number.calls k _ _ (l0.drop (t485 : Int).toNat) 2147483647 t487 t488 _ ?Af ?Ag A5.out).mono ?_); (case Af => exact pC (Kd.C_below HR486.out HB.out)); (case Ag => exact HC486.out); rintro e w9 ⟨rfl, hb⟩; refine ⟨_, rfl, ?_⟩; replace HB := Am (below_step (pB HB.out) hb); (try clear hb); (try clear hb2); (try clear hk); (try clear hi)))
 (try simp only [Act.put, List.setIfInBounds_toArray, List.set_cons_zero, List.set_cons_succ])
 go_cut [29] (fun v29 wc => ∃ (kq : Nat) (An : Bool), v29 = .bool An ∧ Aside0 (garnerref06_Get.j0 kq l0 t484 t485 t487 t488 An = some r) ∧ Aside0 (kq ≤ k) ∧ Aside0 (Below w.heap.size w wc))
 case first =>
  have H := HC6.out
  clear HC6
  by_cases c10 : t485 = 0
  rotate_left
  ·rw [if_neg c10] at H
   have c10b0 := beq_eq_false_iff_ne.mpr c10
   have c10b1 := bne_iff_ne.mpr c10
   (first | rw [c10b0] | (simp only [i64_w, i32_w]; rw [c10b0]) | skip)
   have H' := Am H
   clear H
   go_wp2
   go_meet
   case rel => exact ⟨_, ((t488 == 0)), zr, H', ⟨zo⟩, ⟨pB HB.out⟩⟩
  rw [if_pos c10] at H
  have c10b0 := beq_iff_eq.mpr c10
  have c10b1 := bne_eq_false_iff_eq.mpr c10
  clear c10
  (first | rw [c10b0] | (simp only [i64_w, i32_w]; rw [c10b0]) | skip)
  have H' := Am H
  clear H
  go_wp2
  go_meet
  case rel => exact ⟨_, (true), zr, H', ⟨zo⟩, ⟨pB HB.out⟩⟩
 case rest =>
  clear HC6
  try clear c1
  try clear c2
  try clear p2
  try clear c3
  try clear c3b0
  try clear c3b1
  try clear c4
  try clear c4b0
  try clear c4b1
  try clear c10
  try clear c10b0
  try clear c10b1
  obtain ⟨kq, An, rfl, HA, HJ5, HB⟩ := hcut
  cases kq with
  | zero => exact absurd HA.out (by simp [garnerref06_Get.j0])
  | succ kj5 =>
   have H := HA.out
   clear HA
   simp only [garnerref06_Get.j0] at H
   by_cases c11 : An = true
   ·subst c11
    rw [if_pos rfl] at H
    obtain rfl := Option.some.inj H
    go_wp2
    go_ret
    exact ⟨_, pX, zn, pB HB.out⟩
   replace c11 := Bool.eq_false_iff.mpr c11
   subst c11
   rw [if_neg zF] at H
   obtain ⟨y489, hy489⟩ : ∃ y_ : List (S52), y_ = (([] : List (S52))) := ⟨_, rfl⟩
   replace H : (garnerref06_Get.l0 kj5 l0 t484 t487 (wrap64 (t485 + t488)) y489 0) = some r := by first | (rw [hy489]; with_reducible exact H) | (have H2_ := (Option.bind_some _ _).symm.trans H; rw [hy489]; with_reducible exact H2_) | (have H2_ := (Option.bind_some _ _).symm.trans H; with_reducible exact H2_) | with_reducible exact H | (rw [hy489]; exact H) | exact H
   have Ny489 := Am hy489
   clear hy489
   have H' := Am H
   clear H
   go_wp2_with (first | ((with_reducible refine gate_dst (N := 33) rfl ?_); refine Kd.S_lit k52 _ 52 ?hg (N := 33) ?hd (xs := ([] : List (S52))) (inner := []) (ok := fun _ => True) (okp := fun _ => True) ?hr ?hp (fun _ hk => hk) trivial (Below.refl _ _) (Nat.le_refl _) (by simp) ?_; (case hd => rfl); (case hg => rfl); (case hr => first | (go_simp; done) | (go_simp; rfl)); (case hp => exact (Reps.none _ _)); intro v490 w12 ho13 hb hg_ hnew_; clear hg_ hnew_; (first | rw [← Ny489.out] at ho13 | (simp only [Int.reduceToNat] at ho13; rw [← Ny489.out] at ho13)); have Au := Am (Kd.S_lower ho13 (below_size (pB HB.out))); replace HB := Am (below_step (pB HB.out) hb); clear hb ho13))
   go_loopg [7, 8, 9] kj5 (fun kq v7 v8 v9 w' => ∃ (Ab : Int) (Ah : List (S52)) (Ai : Int), v7 = .int .i64 Ab ∧ v9 = .int .i64 Ai ∧ Aside0 (garnerref06_Get.l0 kq l0 t484 t487 Ab Ah Ai = some r) ∧ Aside0 (kq ≤ kj5) ∧ Aside0 (Kd.S k52 52 w' w.heap.size (fun _ => True) v8 Ah) ∧ Aside0 (Below w.heap.size w w'))
   case atStart => exact ⟨(wrap64 (t485 + t488)), (y489), (0), zr, zr, H', ⟨Nat.le_refl _⟩, ⟨by (with_reducible repeat (first | apply Kd.S_alloc | apply Kd.S_drewN | apply Kd.S_drew)); exact Au.out⟩, ⟨pB HB.out⟩⟩
   case round =>
    clear H'
    try clear c1
    try clear c2
    try clear p2
    try clear c3
    try clear c3b0
    try clear c3b1
    try clear c4
    try clear c4b0
    try clear c4b1
    try clear p6
    try clear c10
    try clear c10b0
    try clear c10b1
    try clear c11
    try clear p2
    obtain ⟨Ab, Ah, Ai, rfl, rfl, HA, HK2, Ac, HB⟩ := hrel
    cases gk with
    | zero => exact absurd HA.out (by simp [garnerref06_Get.l0])
    | succ k2 =>
     have H := HA.out
     clear HA
     simp only [garnerref06_Get.l0] at H
     by_cases c14 : Ai < t484
     rotate_left
     ·rw [if_neg c14] at H
      have c14b0 := decide_eq_false c14
      clear c14
      by_cases c33 : Ab = (l0.length : Int)
      rotate_left
      ·rw [if_neg c33] at H
       have c33b0 := beq_eq_false_iff_ne.mpr c33
       have c33b1 := bne_iff_ne.mpr c33
       obtain rfl := Option.some.inj H
       go_wp2
       go_ret
       exact ⟨_, pX, zn, pB HB.out⟩
      rw [if_pos c33] at H
      have c33b0 := beq_iff_eq.mpr c33
      have c33b1 := bne_eq_false_iff_eq.mpr c33
      clear c33
      replace H := Option.bind_eq_some_iff.mp H
      obtain ⟨t510, A340, H⟩ := H
      have A34 := Am A340
      clear A340
      by_cases c35 : t510 = true
      ·subst c35
       rw [if_pos rfl] at H
       obtain rfl := Option.some.inj H
       obtain ⟨Ao36, co36, Ay⟩ := Kd.S_slice Ac.out
       subst Ay
       go_wp2_with (first | (go_at_call 29; (with_reducible refine (garnerref06_Batch.calls k2 _ _ Ah true _ ?Af ?Ag A34.out).mono ?_); (case Af => repeat (first | exact (Kd.S_reads' Ac.out).2.2 | (with_reducible refine Kd.C_alloc ?_ _) | (with_reducible refine Kd.C_drewN ?_ _) | (with_reducible refine Kd.C_drew ?_))); (case Ag => exact (Kd.S_reads' Ac.out).2.1); rintro e w37 ⟨rfl, hb⟩; replace Ac := Am (Kd.S_below (zS Ac.out) hb); replace HB := Am (below_step (pB HB.out) hb); (try clear hb); (try clear hb2); (try clear hk); (try clear hi)))
       go_ret
       exact ⟨_, pX, by (with_reducible repeat (first | apply Kd.S_alloc | apply Kd.S_drewN | apply Kd.S_drew)); exact Ac.out, pB HB.out⟩
      replace c35 := Bool.eq_false_iff.mpr c35
      subst c35
      rw [if_neg zF] at H
      obtain rfl := Option.some.inj H
      obtain ⟨Ao38, co38, Az⟩ := Kd.S_slice Ac.out
      subst Az
      go_wp2_with (first | (go_at_call 29; (with_reducible refine (garnerref06_Batch.calls k2 _ _ Ah false _ ?Af ?Ag A34.out).mono ?_); (case Af => repeat (first | exact (Kd.S_reads' Ac.out).2.2 | (with_reducible refine Kd.C_alloc ?_ _) | (with_reducible refine Kd.C_drewN ?_ _) | (with_reducible refine Kd.C_drew ?_))); (case Ag => exact (Kd.S_reads' Ac.out).2.1); rintro e w39 ⟨rfl, hb⟩; replace Ac := Am (Kd.S_below (zS Ac.out) hb); replace HB := Am (below_step (pB HB.out) hb); (try clear hb); (try clear hb2); (try clear hk); (try clear hi)))
      go_ret
      exact ⟨_, pX, zn, pB HB.out⟩
     rw [if_pos c14] at H
     have c14b0 := decide_eq_true c14
     clear c14
     obtain ⟨c15, H⟩ := zI H
     have c15b0 := eq_true c15
     have c15b1 := decide_eq_true c15
     clear c15
     obtain ⟨c16, H⟩ := zI H
     have c16b0 := eq_true c16
     have c16b1 := decide_eq_true c16
     clear c16
     replace H := Option.bind_eq_some_iff.mp H
     obtain ⟨⟨t493, t494, t495, t496, t497, t498, t501, t502, t503, t504, t505⟩, A170, H⟩ := H
     dsimp only at H
     have A17 := Am A170
     clear A170
     by_cases c18 : t505 = 0
     ·rw [if_pos c18] at H
      have c18b0 := beq_iff_eq.mpr c18
      have c18b1 := bne_eq_false_iff_eq.mpr c18
      clear c18
      obtain rfl := Option.some.inj H
      obtain ⟨i019, hi019, _, Ap, _⟩ := info_parts info5
      obtain ⟨A19, hcut19, hA19, As⟩ := print_drop_of (P := Try.prog) (Value.int .u8) 0 22 5 .i64 Try.underlying22 hi019 Ap A0 c0 l0 Ab (of_decide_eq_true pS) (of_decide_eq_true pS) HC0.out
      have HR492 := Am (Kd.C_of_reads (h1 := fun _ => rfl) (hA19 _ (Kd.reads_of_C HR0.out)))
      have HC492 := Am As
      clear hA19 As hi019 Ap
      go_wp2_with (first | ((with_reducible refine gate_callee (f := 45) rfl ?_); refine goesL_ (some 46) rfl rfl Try.func45 (by kernel_rfl) rfl #[.slice A19 (l0.drop (Ab : Int).toNat).length (c0 - Ab.toNat), .int .i64 (wrap64 (t487 + Ai))] rfl (by (try simp only [List.map_toArray, List.map_cons, List.map_nil]); first | done | (rw [show (l0.drop (Ab : Int).toNat).length = (l0.length - Ab.toNat) from List.length_drop] <;> rfl) | rfl | (simp only [List.length_drop, List.length_take]; rfl)) ?_; (with_reducible refine (garnerref06_one.calls k2 _ _ (l0.drop (Ab : Int).toNat) (wrap64 (t487 + Ai)) t493 t494 t495 t496 t497 t498 t501 t502 t503 t504 t505 _ ?Af ?Ag A17.out).mono ?_); (case Af => exact pC (Kd.C_below HR492.out HB.out)); (case Ag => exact HC492.out); rintro e w20 ⟨v499, rfl, ho0, hb⟩; refine ⟨_, rfl, ?_⟩; replace Ac := Am (Kd.S_elder' (zS Ac.out) (Kd.R_base ho0) hb); have Ae := Am (Kd.R_lower ho0 (below_size (pB HB.out))); replace HB := Am (below_step (pB HB.out) hb); (try clear hb); (try clear hb2); (try clear hk); (try clear hi); (try clear ho0)) | ((with_reducible refine gate_dst (N := 10) rfl ?_); refine zE 10 #[.int .i64 0, .int .i64 0, .int .i64 0, .string (⟨#[]⟩ : ByteArray), .bool false, .slice none 0 0, .int .i64 0, .int .i64 0, .int .i64 0, .int .u32 0] 52 ?_; intro Aa hg w21 hbox hb; replace Ac := Am (Kd.S_below (Kd.S_elderB (zS Ac.out) Aa (Nat.le_of_eq hg.symm)) hb); replace Ae := bRa Ae hb; have Ad := Am (hbox); have Ao := Am (zG hg (below_size (pB HB.out))); replace HB := Am (below_step (pB HB.out) hb); have Aj := Ao; clear hb hbox hg; obtain ⟨_, _, _, _, _, _, _, _, _, _⟩ := bc10 Ad.out; obtain ⟨_, _, _, _, _, _, _, _, _, _⟩ := bf10 Ad.out; obtain ⟨Ao23, co23, Aw⟩ := Kd.R_slice Ae.out; subst Aw))
      go_ret
      exact ⟨_, pX, zn, pE HB.out Aj.out⟩
     rw [if_neg c18] at H
     have c18b0 := beq_eq_false_iff_ne.mpr c18
     have c18b1 := bne_iff_ne.mpr c18
     obtain ⟨c24, H⟩ := zI H
     have LMc24 := Am c24
     clear c24
     obtain ⟨y507, hy507⟩ : ∃ y_ : List (S52), y_ = (Ah ++ [(⟨t493, t494, t495, t496, (⟨t497, t498, (⟨t501, t502, t503, t504⟩ : S48)⟩ : S50)⟩ : S52)]) := ⟨_, rfl⟩
     replace H : (garnerref06_Get.l0 k2 l0 t484 t487 (wrap64 (Ab + t505)) y507 (wrap64 (Ai + 1))) = some r := by first | (rw [hy507]; with_reducible exact H) | (have H2_ := (Option.bind_some _ _).symm.trans H; rw [hy507]; with_reducible exact H2_) | (have H2_ := (Option.bind_some _ _).symm.trans H; with_reducible exact H2_) | with_reducible exact H | (rw [hy507]; exact H) | exact H
     have Ny507 := Am hy507
     clear hy507
     have H' := Am H
     clear H
     obtain ⟨i025, hi025, _, Aq, _⟩ := info_parts info5
     obtain ⟨A25, hcut25, hA25, At⟩ := print_drop_of (P := Try.prog) (Value.int .u8) 0 22 5 .i64 Try.underlying22 hi025 Aq A0 c0 l0 Ab (of_decide_eq_true pS) (of_decide_eq_true pS) HC0.out
     have HR492 := Am (Kd.C_of_reads (h1 := fun _ => rfl) (hA25 _ (Kd.reads_of_C HR0.out)))
     have HC492 := Am At
     clear hA25 At hi025 Aq
     go_wp2_with (first | ((with_reducible refine gate_callee (f := 45) rfl ?_); refine goesL_ (some 46) rfl rfl Try.func45 (by kernel_rfl) rfl #[.slice A25 (l0.drop (Ab : Int).toNat).length (c0 - Ab.toNat), .int .i64 (wrap64 (t487 + Ai))] rfl (by (try simp only [List.map_toArray, List.map_cons, List.map_nil]); first | done | (rw [show (l0.drop (Ab : Int).toNat).length = (l0.length - Ab.toNat) from List.length_drop] <;> rfl) | rfl | (simp only [List.length_drop, List.length_take]; rfl)) ?_; (with_reducible refine (garnerref06_one.calls k2 _ _ (l0.drop (Ab : Int).toNat) (wrap64 (t487 + Ai)) t493 t494 t495 t496 t497 t498 t501 t502 t503 t504 t505 _ ?Af ?Ag A17.out).mono ?_); (case Af => exact pC (Kd.C_below HR492.out HB.out)); (case Ag => exact HC492.out); rintro e w26 ⟨v499, rfl, ho0, hb⟩; refine ⟨_, rfl, ?_⟩; replace Ac := Am (Kd.S_elder' (zS Ac.out) (Kd.R_base ho0) hb); have Ae := Am (Kd.R_lower ho0 (below_size (pB HB.out))); replace HB := Am (below_step (pB HB.out) hb); (try clear hb); (try clear hb2); (try clear hk); (try clear hi); (try clear ho0)) | ((with_reducible refine gate_dst (N := 10) rfl ?_); refine zE 10 #[.int .i64 0, .int .i64 0, .int .i64 0, .string (⟨#[]⟩ : ByteArray), .bool false, .slice none 0 0, .int .i64 0, .int .i64 0, .int .i64 0, .int .u32 0] 52 ?_; intro Aa hg w27 hbox hb; replace Ac := Am (Kd.S_below (Kd.S_elderB (zS Ac.out) Aa (Nat.le_of_eq hg.symm)) hb); replace Ae := bRa Ae hb; have Ad := Am (hbox); have Ao := Am (zG hg (below_size (pB HB.out))); replace HB := Am (below_step (pB HB.out) hb); have Aj := Ao; clear hb hbox hg; obtain ⟨_, _, _, _, _, _, _, _, _, _⟩ := bc10 Ad.out; obtain ⟨_, _, _, _, _, _, _, _, _, _⟩ := bf10 Ad.out; obtain ⟨Ak, Al, Ax⟩ := Kd.R_slice Ae.out; subst Ax) | ((with_reducible refine gate_store (t := 52) (p := 10) rfl ?_); refine store_event (t := 52) (p := 10) (v := ?vo_w30) (w1 := ((((((((((w27.setCell ⟨Aa, 0, none⟩ (.int .i64 t493)).setCell ⟨Aa, 1, none⟩ (.int .i64 t494)).setCell ⟨Aa, 2, none⟩ (.int .i64 t495)).setCell ⟨Aa, 3, none⟩ (.string t496)).setCell ⟨Aa, 4, none⟩ (.bool t497)).setCell ⟨Aa, 5, none⟩ (.slice Ak t498.length Al)).setCell ⟨Aa, 6, none⟩ (.int .i64 t501)).setCell ⟨Aa, 7, none⟩ (.int .i64 t502)).setCell ⟨Aa, 8, none⟩ (.int .i64 t503)).setCell ⟨Aa, 9, none⟩ (.int .u32 t504))) ?hg ?ho ?hn ?hr ?_; (case ho => rfl); (case hg => rfl); (case hn => rfl); (case hr => first | (go_simp; done) | (go_simp; rfl)); intro w30 hw; replace Ac : Aside0 (Kd.S k52 52 w30 w.heap.size (fun k_ => some k_ ≠ (.slice Ak t498.length Al : Value).ownBlock ∧ k_ ≠ Aa) u8 Ah) := ⟨(by rw [hw]; exact (by (with_reducible repeat (first | apply Kd.S_alloc | apply Kd.S_drewN | apply Kd.S_drew)); exact Kd.S_mono (Sf10 (g := Aa) (Kd.S_mono Ac.out (fun k_ hk => (⟨hk, hk.2⟩ : _ ∧ k_ ≠ Aa))) (fun _ hk => hk.2)) (fun _ hk => ⟨hk.1.1.2, hk.1.2⟩)))⟩; replace Ae : Aside0 (Kd.R (Kd.int .u8) 5 w30 w.heap.size (fun _ => True) (.slice Ak t498.length Al) t498) := ⟨(by rw [hw]; exact (by (with_reducible repeat (first | apply Kd.R_alloc | apply Kd.R_drewN | apply Kd.R_drew)); exact Kd.R_mono (Rf10 (g := Aa) (Kd.R_types Ae.out Ad.out (by decide)) (fun _ hk => hk.2)) (fun _ hk => trivial)))⟩; replace Ad : Aside0 (w30.heap[Aa]? = some (.cells #[.int .i64 t493, .int .i64 t494, .int .i64 t495, .string t496, .bool t497, .slice Ak t498.length Al, .int .i64 t501, .int .i64 t502, .int .i64 t503, .int .u32 t504] 52 (0, 0))) := ⟨(by rw [hw]; exact (kX0 Ad.out))⟩; replace HB : Aside0 (Below w.heap.size w w30) := ⟨(by rw [hw]; exact (pE HB.out Aj.out))⟩; clear hw; obtain ⟨_, _, _, _, _, _, _, _, _, _⟩ := bc10 Ad.out; obtain ⟨_, _, _, _, _, _, _, _, _, _⟩ := bf10 Ad.out) | ((with_reducible refine gate_builtin (b := .append) (xs := #[.tmp 51, .tmp 53]) rfl ?_); at_builtin; refine Kd.S_append k52 (w0 := w) w.heap.size rfl (.tmp 51) (.tmp 53) 26 52 (.agg #[(.int .i64 0), (.int .i64 0), (.int .i64 0), (.string ⟨#[]⟩), (.bool false), (.slice none 0 0), (.int .i64 0), (.int .i64 0), (.int .i64 0), (.int .u32 0)]) 104 rfl Try.underlying26 info52 rfl (by decide) (by omega) u8 Ah (⟨t493, t494, t495, t496, (⟨t497, t498, (⟨t501, t502, t503, t504⟩ : S48)⟩ : S50)⟩ : S52) [.int .i64 t493, .int .i64 t494, .int .i64 t495, .string t496, .bool t497, .slice Ak t498.length Al, .int .i64 t501, .int .i64 t502, .int .i64 t503, .int .u32 t504] (fun k_ => k_ ≠ Aa) (fun k_ => some k_ = (.slice Ak t498.length Al : Value).ownBlock) rfl rfl ?aP (fun k_ hk_ => ((Kd.R_mono (ok' := fun k_ => ((fun k_ => k_ ≠ Aa)) k_ ∧ some k_ ≠ (u8 : Value).ownBlock) (Kd.R_types (Kd.R_apart' (Ae.out) (Kd.S_typed Ac.out) (by decide)) Ad.out (by decide)) (fun k_ hk => ⟨hk.2, hk.1.2⟩))).1 k_ hk_.symm) ?aF ?aO ?aB ?aS ?aL ?_; (case aP => exact k52_mkM _ _ _ (⟨t493, t494, t495, t496, (⟨t497, t498, (⟨t501, t502, t503, t504⟩ : S48)⟩ : S50)⟩ : S52) (Kd.R_mono (Kd.R_tight rfl (Kd.R_mono (ok' := fun k_ => ((fun k_ => k_ ≠ Aa)) k_ ∧ some k_ ≠ (u8 : Value).ownBlock) (Kd.R_types (Kd.R_apart' (Ae.out) (Kd.S_typed Ac.out) (by decide)) Ad.out (by decide)) (fun k_ hk => ⟨hk.2, hk.1.2⟩))) (fun _ h_ => h_))); (case aB => exact (pE HB.out Aj.out)); (case aF => exact (fun k_ hk => kF Ad.out k_ hk)); (case aO => exact (by (with_reducible repeat (first | apply Kd.S_alloc | apply Kd.S_drewN | apply Kd.S_drew)); exact Kd.S_mono Ac.out (fun k_ hk => ⟨hk.2, fun e_ => hk.1 e_⟩))); (case aS => exact (below_size (pE HB.out Aj.out))); (case aL => have := LMc24.out; omega); intro v508 w32 ho hb hg hat; rw [← Ny507.out] at ho; replace Ad := Am (blk_grown (g := Aa) (o := .cells #[.int .i64 t493, .int .i64 t494, .int .i64 t495, .string t496, .bool t497, .slice Ak t498.length Al, .int .i64 t501, .int .i64 t502, .int .i64 t503, .int .u32 t504] 52 (0, 0)) (pK Ad.out) hg (Kd.S_away Ac.out (fun _ hk => hk.2))); replace HB := Am (hb); have Av := Am (ho); clear Ac Ae ho hb hg hat))
     go_roundg k2
     case measure => have := HJ5.out; have := HK2.out; omega
     case rel => exact ⟨(wrap64 (Ab + t505)), (y507), (wrap64 (Ai + 1)), zr, zr, H', ⟨by have := HJ5.out; have := HK2.out; omega⟩, ⟨by (with_reducible repeat (first | apply Kd.S_alloc | apply Kd.S_drewN | apply Kd.S_drew)); exact Kd.S_mono Av.out (fun _ hk => trivial)⟩, ⟨pE HB.out Aj.out⟩⟩
def garnerref22_May.f (a0_0 : Int) (a0_1 : Int) (a0_2 : Int) : Option (Bool) := if a0_0 < 0 then (some false) else (if a0_1 < 0 then (some false) else (if a0_2 < 0 then (some false) else (if a0_0 > 2147483647 then (some false) else (if a0_1 > 2147483647 then (some false) else (if a0_2 > 2147483647 then (some false) else (if a0_0 > 0 then (some true) else (some (a0_1 == 0))))))))
set_option maxHeartbeats 8000000 in
set_option maxRecDepth 100000 in
theorem garnerref22_May.calls (a0_0 : Int) (a0_1 : Int) (a0_2 : Int) (r : Bool) (w : World) (h : garnerref22_May.f a0_0 a0_1 a0_2 = some r) :
 Calls Try.prog 30 #[.agg #[.int .i64 a0_0, .int .i64 a0_1, .int .i64 a0_2]] w fun e w' => e = .returned (.bool r) ∧ Below w.heap.size w w' := by
 have hu28 := Try.underlying28
 have HB := Am (Below.refl w.heap.size w)
 unfold garnerref22_May.f at h
 have H := h
 clear h
 by_cases c2 : a0_0 < 0
 ·rw [if_pos c2] at H
  have c2b0 := decide_eq_true c2
  clear c2
  obtain rfl := Option.some.inj H
  go_enter Try.func30, Try.ntmps30
  go_wp2_with (first | ((with_reducible refine gate_dst (N := 1) rfl ?_); refine zE 1 #[.int .i64 a0_0, .int .i64 a0_1, .int .i64 a0_2] 28 ?_; intro Ab hg w3 hbox hb; have Aa := Am (hbox); have Ac := Am (zG hg (below_size (pB HB.out))); replace HB := Am (below_step (pB HB.out) hb); have Ad := Ac; clear hb hbox hg; obtain ⟨_, _, _⟩ := bc3 Aa.out; obtain ⟨_, _, _⟩ := bf3 Aa.out))
  go_ret
  exact ⟨pX, pE HB.out Ad.out⟩
 rw [if_neg c2] at H
 have c2b0 := decide_eq_false c2
 clear c2
 by_cases c5 : a0_1 < 0
 ·rw [if_pos c5] at H
  have c5b0 := decide_eq_true c5
  clear c5
  obtain rfl := Option.some.inj H
  go_enter Try.func30, Try.ntmps30
  go_wp2_with (first | ((with_reducible refine gate_dst (N := 1) rfl ?_); refine zE 1 #[.int .i64 a0_0, .int .i64 a0_1, .int .i64 a0_2] 28 ?_; intro Ab hg w6 hbox hb; have Aa := Am (hbox); have Ac := Am (zG hg (below_size (pB HB.out))); replace HB := Am (below_step (pB HB.out) hb); have Ad := Ac; clear hb hbox hg; obtain ⟨_, _, _⟩ := bc3 Aa.out; obtain ⟨_, _, _⟩ := bf3 Aa.out))
  go_ret
  exact ⟨pX, pE HB.out Ad.out⟩
 rw [if_neg c5] at H
 have c5b0 := decide_eq_false c5
 clear c5
 by_cases c8 : a0_2 < 0
 ·rw [if_pos c8] at H
  have c8b0 := decide_eq_true c8
  clear c8
  obtain rfl := Option.some.inj H
  go_enter Try.func30, Try.ntmps30
  go_wp2_with (first | ((with_reducible refine gate_dst (N := 1) rfl ?_); refine zE 1 #[.int .i64 a0_0, .int .i64 a0_1, .int .i64 a0_2] 28 ?_; intro Ab hg w9 hbox hb; have Aa := Am (hbox); have Ac := Am (zG hg (below_size (pB HB.out))); replace HB := Am (below_step (pB HB.out) hb); have Ad := Ac; clear hb hbox hg; obtain ⟨_, _, _⟩ := bc3 Aa.out; obtain ⟨_, _, _⟩ := bf3 Aa.out))
  go_ret
  exact ⟨pX, pE HB.out Ad.out⟩
 rw [if_neg c8] at H
 have c8b0 := decide_eq_false c8
 clear c8
 by_cases c11 : a0_0 > 2147483647
 ·rw [if_pos c11] at H
  have c11b0 : decide (2147483647 < a0_0) = true := decide_eq_true c11
  clear c11
  obtain rfl := Option.some.inj H
  go_enter Try.func30, Try.ntmps30
  go_wp2_with (first | ((with_reducible refine gate_dst (N := 1) rfl ?_); refine zE 1 #[.int .i64 a0_0, .int .i64 a0_1, .int .i64 a0_2] 28 ?_; intro Ab hg w12 hbox hb; have Aa := Am (hbox); have Ac := Am (zG hg (below_size (pB HB.out))); replace HB := Am (below_step (pB HB.out) hb); have Ad := Ac; clear hb hbox hg; obtain ⟨_, _, _⟩ := bc3 Aa.out; obtain ⟨_, _, _⟩ := bf3 Aa.out))
  go_ret
  exact ⟨pX, pE HB.out Ad.out⟩
 rw [if_neg c11] at H
 have c11b0 : decide (2147483647 < a0_0) = false := decide_eq_false c11
 clear c11
 by_cases c14 : a0_1 > 2147483647
 ·rw [if_pos c14] at H
  have c14b0 : decide (2147483647 < a0_1) = true := decide_eq_true c14
  clear c14
  obtain rfl := Option.some.inj H
  go_enter Try.func30, Try.ntmps30
  go_wp2_with (first | ((with_reducible refine gate_dst (N := 1) rfl ?_); refine zE 1 #[.int .i64 a0_0, .int .i64 a0_1, .int .i64 a0_2] 28 ?_; intro Ab hg w15 hbox hb; have Aa := Am (hbox); have Ac := Am (zG hg (below_size (pB HB.out))); replace HB := Am (below_step (pB HB.out) hb); have Ad := Ac; clear hb hbox hg; obtain ⟨_, _, _⟩ := bc3 Aa.out; obtain ⟨_, _, _⟩ := bf3 Aa.out))
  go_ret
  exact ⟨pX, pE HB.out Ad.out⟩
 rw [if_neg c14] at H
 have c14b0 : decide (2147483647 < a0_1) = false := decide_eq_false c14
 clear c14
 by_cases c17 : a0_2 > 2147483647
 ·rw [if_pos c17] at H
  have c17b0 : decide (2147483647 < a0_2) = true := decide_eq_true c17
  clear c17
  obtain rfl := Option.some.inj H
  go_enter Try.func30, Try.ntmps30
  go_wp2_with (first | ((with_reducible refine gate_dst (N := 1) rfl ?_); refine zE 1 #[.int .i64 a0_0, .int .i64 a0_1, .int .i64 a0_2] 28 ?_; intro Ab hg w18 hbox hb; have Aa := Am (hbox); have Ac := Am (zG hg (below_size (pB HB.out))); replace HB := Am (below_step (pB HB.out) hb); have Ad := Ac; clear hb hbox hg; obtain ⟨_, _, _⟩ := bc3 Aa.out; obtain ⟨_, _, _⟩ := bf3 Aa.out))
  go_ret
  exact ⟨pX, pE HB.out Ad.out⟩
 rw [if_neg c17] at H
 have c17b0 : decide (2147483647 < a0_2) = false := decide_eq_false c17
 clear c17
 by_cases c20 : a0_0 > 0
 ·rw [if_pos c20] at H
  have c20b0 : decide (0 < a0_0) = true := decide_eq_true c20
  clear c20
  obtain rfl := Option.some.inj H
  go_enter Try.func30, Try.ntmps30
  go_wp2_with (first | ((with_reducible refine gate_dst (N := 1) rfl ?_); refine zE 1 #[.int .i64 a0_0, .int .i64 a0_1, .int .i64 a0_2] 28 ?_; intro Ab hg w21 hbox hb; have Aa := Am (hbox); have Ac := Am (zG hg (below_size (pB HB.out))); replace HB := Am (below_step (pB HB.out) hb); have Ad := Ac; clear hb hbox hg; obtain ⟨_, _, _⟩ := bc3 Aa.out; obtain ⟨_, _, _⟩ := bf3 Aa.out))
  go_ret
  exact ⟨pX, pE HB.out Ad.out⟩
 rw [if_neg c20] at H
 have c20b0 : decide (0 < a0_0) = false := decide_eq_false c20
 clear c20
 obtain rfl := Option.some.inj H
 go_enter Try.func30, Try.ntmps30
 go_wp2_with (first | ((with_reducible refine gate_dst (N := 1) rfl ?_); refine zE 1 #[.int .i64 a0_0, .int .i64 a0_1, .int .i64 a0_2] 28 ?_; intro Ab hg w23 hbox hb; have Aa := Am (hbox); have Ac := Am (zG hg (below_size (pB HB.out))); replace HB := Am (below_step (pB HB.out) hb); have Ad := Ac; clear hb hbox hg; obtain ⟨_, _, _⟩ := bc3 Aa.out; obtain ⟨_, _, _⟩ := bf3 Aa.out))
 go_ret
 exact ⟨pX, pE HB.out Ad.out⟩
end Go.Proofs.Ytdanmjfkocjgjaa.PWalGets
