/- What the law reaches, as plain Lean functions, and that the machine's calls answer just that. -/
import Derived.Test.YtdanmjfkocjgjaaPWalGetsx0
namespace Go.Proofs.Ytdanmjfkocjgjaa.PWalGets
open Go.RowKit Go.Proofs.YtdanmjfkocjgjaaW.PrintWords Go.Proofs.YtdanmjfkocjgjaaW.PrintLast Go.Proofs.YtdanmjfkocjgjaaW.PrintMore
attribute [local go_sem] max2_int min2_int max_two min_two max_three min_three max_four min_four
set_option linter.unusedVariables false
set_option linter.unusedSimpArgs false
attribute [local go_sem] wrap64_l1 wrap64_l2 wrap64_l3 wrap64_l4 wrap64_l5
mutual
def varint_Get.l0 : Nat → List Int → Int → Int → Option (Int × Int × Int)
 | 0, _, _, _ => none
 | k + 1, x0, x5, x6 => if x6 < (x0.length : Int) then (varint_Get.j1 k x0 x5 x6 (decide (x6 < 10))) else (varint_Get.j1 k x0 x5 x6 false)
def varint_Get.j1 : Nat → List Int → Int → Int → Bool → Option (Int × Int × Int)
 | 0, _, _, _, _ => none
 | k + 1, x0, x5, x6, x15 => if x15 = true then (if 0 ≤ x6 then (if x6 < (x0.length : Int) then (if x6 = 9 then (varint_Get.j2 k x0 x5 x6 (IntKind.u64.wrap (rd x0 x6)) (decide ((IntKind.u64.wrap (rd x0 x6)) > 1))) else (varint_Get.j2 k x0 x5 x6 (IntKind.u64.wrap (rd x0 x6)) false)) else (none)) else (none)) else (some (0, 0, 2))
def varint_Get.j2 : Nat → List Int → Int → Int → Int → Bool → Option (Int × Int × Int)
 | 0, _, _, _, _, _ => none
 | k + 1, x0, x5, x6, x7, x28 => if x28 = true then (some (0, 0, 2)) else (if 0 ≤ (wrap64 (7 * x6)) then (if x7 < 128 then (if x7 = 0 then (if x6 > 0 then (some (0, 0, 2)) else (some (Go.bits .or .u64 x5 (shl .u64 (Go.bits .andNot .u64 x7 128) (wrap64 (7 * x6))), wrap64 (x6 + 1), 0))) else (some (Go.bits .or .u64 x5 (shl .u64 (Go.bits .andNot .u64 x7 128) (wrap64 (7 * x6))), wrap64 (x6 + 1), 0))) else (varint_Get.l0 k x0 (Go.bits .or .u64 x5 (shl .u64 (Go.bits .andNot .u64 x7 128) (wrap64 (7 * x6)))) (wrap64 (x6 + 1)))) else (none))
end
def varint_Get.f (k : Nat) (l0 : List Int) : Option (Int × Int × Int) := varint_Get.l0 k l0 0 0
theorem varint_Get.mono_l : ∀ k, (∀ y0 y1 y2, LeO (varint_Get.l0 k y0 y1 y2) (varint_Get.l0 (k + 1) y0 y1 y2)) ∧ (∀ y0 y1 y2 y3, LeO (varint_Get.j1 k y0 y1 y2 y3) (varint_Get.j1 (k + 1) y0 y1 y2 y3)) ∧ (∀ y0 y1 y2 y3 y4, LeO (varint_Get.j2 k y0 y1 y2 y3 y4) (varint_Get.j2 (k + 1) y0 y1 y2 y3 y4))
 | 0 => ⟨fun _ _ _ r h => by simp [varint_Get.l0] at h, fun _ _ _ _ r h => by simp [varint_Get.j1] at h, fun _ _ _ _ _ r h => by simp [varint_Get.j2] at h⟩
 | k + 1 => by
  obtain ⟨ih0, ih1, ih2⟩ := varint_Get.mono_l k
  refine ⟨?_, ?_, ?_⟩
  ·intro y0 y1 y2
   unfold varint_Get.l0
   repeat' (with_reducible first | exact ih0 .. | exact ih1 .. | exact ih2 .. | exact LeO.refl .. | exact LeO.none .. | refine LeO.ite ?_ ?_ | refine LeO.bind ?_ (fun _ => ?_))
  ·intro y0 y1 y2 y3
   unfold varint_Get.j1
   repeat' (with_reducible first | exact ih0 .. | exact ih1 .. | exact ih2 .. | exact LeO.refl .. | exact LeO.none .. | refine LeO.ite ?_ ?_ | refine LeO.bind ?_ (fun _ => ?_))
  ·intro y0 y1 y2 y3 y4
   unfold varint_Get.j2
   repeat' (with_reducible first | exact ih0 .. | exact ih1 .. | exact ih2 .. | exact LeO.refl .. | exact LeO.none .. | refine LeO.ite ?_ ?_ | refine LeO.bind ?_ (fun _ => ?_))
theorem varint_Get.mono : ∀ a0 k, LeO (varint_Get.f k a0) (varint_Get.f (k + 1) a0) := by
 intro a0 k
 obtain ⟨ih0, ih1, ih2⟩ := varint_Get.mono_l k
 unfold varint_Get.f
 repeat' (with_reducible first | exact ih0 .. | exact ih1 .. | exact ih2 .. | exact LeO.refl .. | exact LeO.none .. | refine LeO.ite ?_ ?_ | refine LeO.bind ?_ (fun _ => ?_))
set_option maxHeartbeats 8000000 in
set_option maxRecDepth 100000 in
theorem varint_Get.calls (k : Nat) (A0 : Option Addr) (c0 : Nat) (l0 : List Int) (r1 : Int) (r2 : Int) (r3 : Int) (w : World) (hr0 : Kd.C (Kd.int .u8) w A0 l0.length l0) (hc0 : l0.length ≤ c0) (h : varint_Get.f k l0 = some (r1, r2, r3)) :
 Calls Try.prog 19 #[.slice A0 l0.length c0] w fun e w' => e = .returned (.tuple #[.int .u64 r1, .int .i64 r2, .int .i64 r3]) ∧ Drawn0 w w' := by
 have HR0 := Am hr0
 have HC0 := Am hc0
 clear hr0 hc0
 unfold varint_Get.f at h
 have H := h
 clear h
 have H' := Am H
 clear H
 go_enter Try.func19, Try.ntmps19
 go_wp2
 go_loopg [5, 6] k (fun kq v5 v6 w' => ∃ (Ab : Int) (Aa : Int), v5 = .int .u64 Ab ∧ v6 = .int .i64 Aa ∧ Aside0 (varint_Get.l0 kq l0 Ab Aa = some (r1, r2, r3)) ∧ Aside0 (kq ≤ k) ∧ Drawn0 w w')
 case atStart => exact ⟨(0), (0), zr, zr, H', ⟨Nat.le_refl _⟩, zd⟩
 case round =>
  clear H'
  try clear c1
  obtain ⟨Ab, Aa, rfl, rfl, HA, HK1, ⟨m1, rfl⟩⟩ := hrel
  cases gk with
  | zero => exact absurd HA.out (by simp [varint_Get.l0])
  | succ k1 =>
   have H := HA.out
   clear HA
   simp only [varint_Get.l0] at H
   have HC2 := Am H
   clear H
   go_upto_region 3 with (fail)
   go_cut [15] (fun v15 wc => ∃ (kq : Nat) (Ac : Bool), v15 = .bool Ac ∧ Aside0 (varint_Get.j1 kq l0 Ab Aa Ac = some (r1, r2, r3)) ∧ Aside0 (kq ≤ k1) ∧ Drawn0 w wc)
   case first =>
    have H := HC2.out
    clear HC2
    by_cases c3 : Aa < (l0.length : Int)
    ·rw [if_pos c3] at H
     have c3b0 := decide_eq_true c3
     clear c3
     (first | rw [c3b0] | (simp only [i64_w, i32_w]; rw [c3b0]) | skip)
     have H' := Am H
     clear H
     go_wp2
     go_meet
     case rel => exact ⟨_, (decide (Aa < 10)), zr, H', ⟨by have := HK1.out; first | omega | exact Nat.le_refl _⟩, zd⟩
    rw [if_neg c3] at H
    have c3b0 := decide_eq_false c3
    clear c3
    (first | rw [c3b0] | (simp only [i64_w, i32_w]; rw [c3b0]) | skip)
    have H' := Am H
    clear H
    go_wp2
    go_meet
    case rel => exact ⟨_, (false), zr, H', ⟨by have := HK1.out; first | omega | exact Nat.le_refl _⟩, zd⟩
   case rest =>
    clear HC2
    try clear c1
    try clear p2
    try clear c3
    try clear c3b0
    obtain ⟨kq, Ac, rfl, HA, HJ1, ⟨mc1, rfl⟩⟩ := hcut
    cases kq with
    | zero => exact absurd HA.out (by simp [varint_Get.j1])
    | succ kj1 =>
     have H := HA.out
     clear HA
     simp only [varint_Get.j1] at H
     by_cases c4 : Ac = true
     rotate_left
     ·replace c4 := Bool.eq_false_iff.mpr c4
      subst c4
      rw [if_neg zF] at H
      simp only [Option.some.injEq, Prod.mk.injEq] at H
      obtain ⟨rfl, rfl, rfl⟩ := H
      go_wp2
      go_ret3
      exact ⟨zr, zd⟩
     subst c4
     rw [if_pos rfl] at H
     obtain ⟨c5, H⟩ := zI H
     have c5b0 := decide_eq_true c5
     clear c5
     obtain ⟨c6, H⟩ := zI H
     have c6b0 := decide_eq_true c6
     clear c6
     have HC7 := Am H
     clear H
     have p300 : 0 ≤ (Aa : Int) := of_decide_eq_true pS
     have q300 : Aa < (l0.length : Int) := of_decide_eq_true pS
     obtain ⟨ad300, e300, Ae⟩ := Kd.at_int HR0.out Aa p300 q300
     cases e300
     replace p300 := eq_true p300
     replace q300 := eq_true q300
     go_upto_region 6 with (fail)
     go_cut [28] (fun v28 wc => ∃ (kq : Nat) (Ad : Bool), v28 = .bool Ad ∧ Aside0 (varint_Get.j2 kq l0 Ab Aa (IntKind.u64.wrap (rd l0 Aa)) Ad = some (r1, r2, r3)) ∧ Aside0 (kq ≤ kj1) ∧ Drawn0 w wc)
     case first =>
      have H := HC7.out
      clear HC7
      by_cases c8 : Aa = 9
      rotate_left
      ·rw [if_neg c8] at H
       have c8b0 := beq_eq_false_iff_ne.mpr c8
       have c8b1 := bne_iff_ne.mpr c8
       (first | rw [c8b0] | (simp only [i64_w, i32_w]; rw [c8b0]) | skip)
       have H' := Am H
       clear H
       go_wp2
       go_meet
       case rel => exact ⟨_, (false), zr, H', ⟨by have := HK1.out; have := HJ1.out; first | omega | exact Nat.le_refl _⟩, zd⟩
      rw [if_pos c8] at H
      have c8b0 := beq_iff_eq.mpr c8
      have c8b1 := bne_eq_false_iff_eq.mpr c8
      clear c8
      (first | rw [c8b0] | (simp only [i64_w, i32_w]; rw [c8b0]) | skip)
      have H' := Am H
      clear H
      go_wp2
      go_meet
      case rel => exact ⟨_, (decide ((IntKind.u64.wrap (rd l0 Aa)) > 1)), zr, H', ⟨by have := HK1.out; have := HJ1.out; first | omega | exact Nat.le_refl _⟩, zd⟩
     case rest =>
      clear HC7
      try clear c1
      try clear p2
      try clear c3
      try clear c3b0
      try clear p3
      try clear q3
      try clear hx3
      try clear c4
      try clear c5
      try clear c5b0
      try clear c6
      try clear c6b0
      try clear c8
      try clear c8b0
      try clear c8b1
      try clear Ae
      try clear p2
      try clear p300
      try clear q300
      obtain ⟨kq, Ad, rfl, HA, HJ6, ⟨mc6, rfl⟩⟩ := hcut
      cases kq with
      | zero => exact absurd HA.out (by simp [varint_Get.j2])
      | succ kj6 =>
       have H := HA.out
       clear HA
       simp only [varint_Get.j2] at H
       by_cases c9 : Ad = true
       ·subst c9
        rw [if_pos rfl] at H
        simp only [Option.some.injEq, Prod.mk.injEq] at H
        obtain ⟨rfl, rfl, rfl⟩ := H
        go_wp2
        go_ret3
        exact ⟨zr, zd⟩
       replace c9 := Bool.eq_false_iff.mpr c9
       subst c9
       rw [if_neg zF] at H
       obtain ⟨ji10, hji10⟩ : ∃ j_ : Int, (wrap64 (7 * Aa)) = j_ := ⟨_, rfl⟩
       replace H : (if 0 ≤ (ji10) then (if (IntKind.u64.wrap (rd l0 Aa)) < 128 then (if (IntKind.u64.wrap (rd l0 Aa)) = 0 then (if Aa > 0 then (some (0, 0, 2)) else (some (Go.bits .or .u64 Ab (shl .u64 (Go.bits .andNot .u64 (IntKind.u64.wrap (rd l0 Aa)) 128) (ji10)), wrap64 (Aa + 1), 0))) else (some (Go.bits .or .u64 Ab (shl .u64 (Go.bits .andNot .u64 (IntKind.u64.wrap (rd l0 Aa)) 128) (ji10)), wrap64 (Aa + 1), 0))) else (varint_Get.l0 kj6 l0 (Go.bits .or .u64 Ab (shl .u64 (Go.bits .andNot .u64 (IntKind.u64.wrap (rd l0 Aa)) 128) (ji10))) (wrap64 (Aa + 1)))) else (none)) = some (r1, r2, r3) := by first | (rw [hji10] at H; exact H) | (simp only [hji10] at H ⊢; exact H)
       have hji10w : (IntKind.i64.wrap (7 * Aa)) = ji10 := (i64_w _).trans hji10
       obtain ⟨c11, H⟩ := zI H
       have c11b0 := eq_true c11
       have c11b1 := decide_eq_true c11
       clear c11
       obtain ⟨ji12, hji12⟩ : ∃ j_ : Int, (shl .u64 (Go.bits .andNot .u64 (IntKind.u64.wrap (rd l0 Aa)) 128) (ji10)) = j_ := ⟨_, rfl⟩
       replace H : (if (IntKind.u64.wrap (rd l0 Aa)) < 128 then (if (IntKind.u64.wrap (rd l0 Aa)) = 0 then (if Aa > 0 then (some (0, 0, 2)) else (some (Go.bits .or .u64 Ab (ji12), wrap64 (Aa + 1), 0))) else (some (Go.bits .or .u64 Ab (ji12), wrap64 (Aa + 1), 0))) else (varint_Get.l0 kj6 l0 (Go.bits .or .u64 Ab (ji12)) (wrap64 (Aa + 1)))) = some (r1, r2, r3) := by first | (rw [hji12] at H; exact H) | (simp only [hji12] at H ⊢; exact H)
       have hji12_ : (IntKind.u64.wrap ((Go.bits .andNot .u64 (IntKind.u64.wrap (rd l0 Aa)) 128) * 2 ^ min (ji10).toNat 64)) = ji12 := hji12
       have hji12z : (ji10) ≤ 64 → (IntKind.u64.wrap ((Go.bits .andNot .u64 (IntKind.u64.wrap (rd l0 Aa)) 128) * 2 ^ (ji10).toNat)) = ji12 := shl_small hji12
       by_cases c13 : (IntKind.u64.wrap (rd l0 Aa)) < 128
       rotate_left
       ·rw [if_neg c13] at H
        have c13b0 := decide_eq_false c13
        clear c13
        have H' := Am H
        clear H
        go_wp2
        go_roundg kj6
        case measure => have := HK1.out; have := HJ1.out; have := HJ6.out; omega
        case rel => exact ⟨(Go.bits .or .u64 Ab (ji12)), (wrap64 (Aa + 1)), (by first | rfl | (simp; done) | (simp only [← hji12] <;> (first | rfl | simp)) | (simp [*]; done)), zr, H', ⟨by have := HK1.out; have := HJ1.out; have := HJ6.out; omega⟩, zd⟩
       rw [if_pos c13] at H
       have c13b0 := decide_eq_true c13
       clear c13
       by_cases c14 : (IntKind.u64.wrap (rd l0 Aa)) = 0
       rotate_left
       ·rw [if_neg c14] at H
        have c14b0 := beq_eq_false_iff_ne.mpr c14
        have c14b1 := bne_iff_ne.mpr c14
        simp only [Option.some.injEq, Prod.mk.injEq] at H
        obtain ⟨rfl, rfl, rfl⟩ := H
        go_wp2
        go_ret3
        exact ⟨by first | rfl | (simp; done) | (simp only [← hji10, ← hji12] <;> (first | rfl | simp)) | (simp [*]; done), zd⟩
       rw [if_pos c14] at H
       have c14b0 := beq_iff_eq.mpr c14
       have c14b1 := bne_eq_false_iff_eq.mpr c14
       clear c14
       by_cases c15 : Aa > 0
       ·rw [if_pos c15] at H
        have c15b0 : decide (0 < Aa) = true := decide_eq_true c15
        clear c15
        simp only [Option.some.injEq, Prod.mk.injEq] at H
        obtain ⟨rfl, rfl, rfl⟩ := H
        go_wp2
        go_ret3
        exact ⟨by first | rfl | (simp; done) | (simp only [← hji10, ← hji12] <;> (first | rfl | simp)) | (simp [*]; done), zd⟩
       rw [if_neg c15] at H
       have c15b0 : decide (0 < Aa) = false := decide_eq_false c15
       clear c15
       simp only [Option.some.injEq, Prod.mk.injEq] at H
       obtain ⟨rfl, rfl, rfl⟩ := H
       go_wp2
       go_ret3
       exact ⟨by first | rfl | (simp; done) | (simp only [← hji10, ← hji12] <;> (first | rfl | simp)) | (simp [*]; done), zd⟩
mutual
def varint_All.j0 : Nat → List Int → Int → Bool → Option (List Int × Int × Int)
 | 0, _, _, _ => none
 | k + 1, x0, x1, x17 => if x17 = true then (some (([] : List Int), 0, 1)) else (varint_All.l0 k x0 ([] : List Int) 0 x1 0)
def varint_All.l0 : Nat → List Int → List Int → Int → Int → Int → Option (List Int × Int × Int)
 | 0, _, _, _, _, _ => none
 | k + 1, x0, x7, x8, x18, x19 => if x19 < x18 then (if 0 ≤ x8 then (if x8 ≤ (x0.length : Int) then ((varint_Get.f k (x0.drop (x8 : Int).toNat)).bind fun bt302 => (if bt302.2.2 = 0 then (if x7.length < 17592186044416 then (varint_All.l0 k x0 (x7 ++ [bt302.1]) (wrap64 (x8 + bt302.2.1)) x18 (wrap64 (x19 + 1))) else (none)) else (some (([] : List Int), x8, bt302.2.2)))) else (none)) else (none)) else (some (x7, x8, 0))
end
def varint_All.f (k : Nat) (l0 : List Int) (a1 : Int) : Option (List Int × Int × Int) := if a1 < 0 then (varint_All.j0 k l0 a1 true) else (varint_All.j0 k l0 a1 (decide (a1 > 1000)))
theorem varint_All.mono_l : ∀ k, (∀ y0 y1 y2, LeO (varint_All.j0 k y0 y1 y2) (varint_All.j0 (k + 1) y0 y1 y2)) ∧ (∀ y0 y1 y2 y3 y4, LeO (varint_All.l0 k y0 y1 y2 y3 y4) (varint_All.l0 (k + 1) y0 y1 y2 y3 y4))
 | 0 => ⟨fun _ _ _ r h => by simp [varint_All.j0] at h, fun _ _ _ _ _ r h => by simp [varint_All.l0] at h⟩
 | k + 1 => by
  obtain ⟨ih0, ih1⟩ := varint_All.mono_l k
  refine ⟨?_, ?_⟩
  ·intro y0 y1 y2
   unfold varint_All.j0
   repeat' (with_reducible first | exact ih0 .. | exact ih1 .. | exact varint_Get.mono .. | exact LeO.refl .. | exact LeO.none .. | refine LeO.ite ?_ ?_ | refine LeO.bind ?_ (fun _ => ?_))
  ·intro y0 y1 y2 y3 y4
   unfold varint_All.l0
   repeat' (with_reducible first | exact ih0 .. | exact ih1 .. | exact varint_Get.mono .. | exact LeO.refl .. | exact LeO.none .. | refine LeO.ite ?_ ?_ | refine LeO.bind ?_ (fun _ => ?_))
theorem varint_All.mono : ∀ a0 a1 k, LeO (varint_All.f k a0 a1) (varint_All.f (k + 1) a0 a1) := by
 intro a0 a1 k
 obtain ⟨ih0, ih1⟩ := varint_All.mono_l k
 unfold varint_All.f
 repeat' (with_reducible first | exact ih0 .. | exact ih1 .. | exact varint_Get.mono .. | exact LeO.refl .. | exact LeO.none .. | refine LeO.ite ?_ ?_ | refine LeO.bind ?_ (fun _ => ?_))
set_option maxHeartbeats 8000000 in
set_option maxRecDepth 100000 in
theorem varint_All.calls (k : Nat) (A0 : Option Addr) (c0 : Nat) (l0 : List Int) (a1 : Int) (r1 : List Int) (r2 : Int) (r3 : Int) (w : World) (hr0 : Kd.C (Kd.int .u8) w A0 l0.length l0) (hc0 : l0.length ≤ c0) (h : varint_All.f k l0 a1 = some (r1, r2, r3)) :
 Calls Try.prog 43 #[.slice A0 l0.length c0, .int .i64 a1] w fun e w' => ∃ v0_ : Value, e = .returned (.tuple #[v0_, .int .i64 r2, .int .i64 r3]) ∧ Kd.R (Kd.int .u64) 61 w' w.heap.size (fun _ => True) v0_ r1 ∧ Below w.heap.size w w' := by
 have HR0 := Am hr0
 have HC0 := Am hc0
 clear hr0 hc0
 have HB := Am (Below.refl w.heap.size w)
 unfold varint_All.f at h
 have H := h
 clear h
 have HC3 := Am H
 clear H
 go_enter Try.func43, Try.ntmps43
 go_upto_region 1 with (fail)
 go_cut [17] (fun v17 wc => ∃ (kq : Nat) (Ad : Bool), v17 = .bool Ad ∧ Aside0 (varint_All.j0 kq l0 a1 Ad = some (r1, r2, r3)) ∧ Aside0 (kq ≤ k) ∧ Aside0 (Below w.heap.size w wc))
 case first =>
  have H := HC3.out
  clear HC3
  by_cases c4 : a1 < 0
  ·rw [if_pos c4] at H
   have c4b0 := decide_eq_true c4
   clear c4
   (first | rw [c4b0] | (simp only [i64_w, i32_w]; rw [c4b0]) | skip)
   have H' := Am H
   clear H
   go_wp2
   go_meet
   case rel => exact ⟨_, (true), zr, H', ⟨zo⟩, ⟨pB HB.out⟩⟩
  rw [if_neg c4] at H
  have c4b0 := decide_eq_false c4
  clear c4
  (first | rw [c4b0] | (simp only [i64_w, i32_w]; rw [c4b0]) | skip)
  have H' := Am H
  clear H
  go_wp2
  go_meet
  case rel => exact ⟨_, (decide (a1 > 1000)), zr, H', ⟨zo⟩, ⟨pB HB.out⟩⟩
 case rest =>
  clear HC3
  try clear p2
  try clear c4
  try clear c4b0
  obtain ⟨kq, Ad, rfl, HA, HJ2, HB⟩ := hcut
  cases kq with
  | zero => exact absurd HA.out (by simp [varint_All.j0])
  | succ kj2 =>
   have H := HA.out
   clear HA
   simp only [varint_All.j0] at H
   by_cases c5 : Ad = true
   ·subst c5
    rw [if_pos rfl] at H
    simp only [Option.some.injEq, Prod.mk.injEq] at H
    obtain ⟨rfl, rfl, rfl⟩ := H
    go_wp2
    go_ret3
    exact ⟨_, pX, zn, pB HB.out⟩
   replace c5 := Bool.eq_false_iff.mpr c5
   subst c5
   rw [if_neg zF] at H
   have H' := Am H
   clear H
   go_wp2
   go_loopg [7, 8, 19] kj2 (fun kq v7 v8 v19 w' => ∃ (Ac : List Int) (Aa : Int) (Ab : Int), v8 = .int .i64 Aa ∧ v19 = .int .i64 Ab ∧ Aside0 (varint_All.l0 kq l0 Ac Aa a1 Ab = some (r1, r2, r3)) ∧ Aside0 (kq ≤ kj2) ∧ Aside0 (Kd.R (Kd.int .u64) 61 w' w.heap.size (fun _ => True) v7 Ac) ∧ Aside0 (Below w.heap.size w w'))
   case atStart => exact ⟨(([] : List Int)), (0), (0), zr, zr, H', ⟨Nat.le_refl _⟩, ⟨zn⟩, ⟨pB HB.out⟩⟩
   case round =>
    clear H'
    try clear p2
    try clear c4
    try clear c4b0
    try clear c5
    try clear p2
    obtain ⟨Ac, Aa, Ab, rfl, rfl, HA, HK2, Ai, HB⟩ := hrel
    cases gk with
    | zero => exact absurd HA.out (by simp [varint_All.l0])
    | succ k2 =>
     have H := HA.out
     clear HA
     simp only [varint_All.l0] at H
     by_cases c6 : Ab < a1
     rotate_left
     ·rw [if_neg c6] at H
      have c6b0 := decide_eq_false c6
      clear c6
      simp only [Option.some.injEq, Prod.mk.injEq] at H
      obtain ⟨rfl, rfl, rfl⟩ := H
      go_wp2
      go_ret3
      exact ⟨_, pX, by (with_reducible repeat (first | apply Kd.R_alloc | apply Kd.R_drewN | apply Kd.R_drew)); exact Ai.out, pB HB.out⟩
     rw [if_pos c6] at H
     have c6b0 := decide_eq_true c6
     clear c6
     obtain ⟨c7, H⟩ := zI H
     have c7b0 := eq_true c7
     have c7b1 := decide_eq_true c7
     clear c7
     obtain ⟨c8, H⟩ := zI H
     have c8b0 := eq_true c8
     have c8b1 := decide_eq_true c8
     clear c8
     replace H := Option.bind_eq_some_iff.mp H
     obtain ⟨⟨t302, t303, t304⟩, A90, H⟩ := H
     dsimp only at H
     have A9 := Am A90
     clear A90
     by_cases c10 : t304 = 0
     rotate_left
     ·rw [if_neg c10] at H
      have c10b0 := beq_eq_false_iff_ne.mpr c10
      have c10b1 := bne_iff_ne.mpr c10
      simp only [Option.some.injEq, Prod.mk.injEq] at H
      obtain ⟨rfl, rfl, rfl⟩ := H
      obtain ⟨i014, hi014, _, Ah, _⟩ := info_parts info5
      obtain ⟨A14, hcut14, hA14, Ak⟩ := print_drop_of (P := Try.prog) (Value.int .u8) 0 22 5 .i64 Try.underlying22 hi014 Ah A0 c0 l0 Aa (of_decide_eq_true pS) (of_decide_eq_true pS) HC0.out
      have HR301 := Am (Kd.C_of_reads (h1 := fun _ => rfl) (hA14 _ (Kd.reads_of_C HR0.out)))
      have HC301 := Am Ak
      clear hA14 Ak hi014 Ah
      go_wp2_with (first | ((with_reducible refine gate_callee (f := 19) rfl ?_); refine goesL_ (some 25) rfl rfl Try.func19 (by kernel_rfl) rfl #[.slice A14 (l0.drop (Aa : Int).toNat).length (c0 - Aa.toNat)] rfl (by (try simp only [List.map_toArray, List.map_cons, List.map_nil]); first | done | (rw [show (l0.drop (Aa : Int).toNat).length = (l0.length - Aa.toNat) from List.length_drop] <;> rfl) | rfl | (simp only [List.length_drop, List.length_take]; rfl)) ?_; (with_reducible refine (varint_Get.calls k2 _ _ (l0.drop (Aa : Int).toNat) t302 t303 t304 _ ?Ae ?Af A9.out).mono ?_); (case Ae => exact pC (Kd.C_below HR301.out HB.out)); (case Af => exact HC301.out); rintro e w' ⟨rfl, ⟨nd, rfl⟩⟩; refine ⟨_, rfl, ?_⟩))
      go_ret3
      exact ⟨_, pX, zn, pB HB.out⟩
     rw [if_pos c10] at H
     have c10b0 := beq_iff_eq.mpr c10
     have c10b1 := bne_eq_false_iff_eq.mpr c10
     clear c10
     obtain ⟨c11, H⟩ := zI H
     have LMc11 := Am c11
     clear c11
     obtain ⟨y305, hy305⟩ : ∃ y_ : List Int, y_ = (Ac ++ [t302]) := ⟨_, rfl⟩
     replace H : (varint_All.l0 k2 l0 y305 (wrap64 (Aa + t303)) a1 (wrap64 (Ab + 1))) = some (r1, r2, r3) := by first | (rw [hy305]; with_reducible exact H) | (have H2_ := (Option.bind_some _ _).symm.trans H; rw [hy305]; with_reducible exact H2_) | (have H2_ := (Option.bind_some _ _).symm.trans H; with_reducible exact H2_) | with_reducible exact H | (rw [hy305]; exact H) | exact H
     have Ny305 := Am hy305
     clear hy305
     have H' := Am H
     clear H
     obtain ⟨i012, hi012, _, Ag, _⟩ := info_parts info5
     obtain ⟨A12, hcut12, hA12, Aj⟩ := print_drop_of (P := Try.prog) (Value.int .u8) 0 22 5 .i64 Try.underlying22 hi012 Ag A0 c0 l0 Aa (of_decide_eq_true pS) (of_decide_eq_true pS) HC0.out
     have HR301 := Am (Kd.C_of_reads (h1 := fun _ => rfl) (hA12 _ (Kd.reads_of_C HR0.out)))
     have HC301 := Am Aj
     clear hA12 Aj hi012 Ag
     go_wp2_with (first | ((with_reducible refine gate_callee (f := 19) rfl ?_); refine goesL_ (some 25) rfl rfl Try.func19 (by kernel_rfl) rfl #[.slice A12 (l0.drop (Aa : Int).toNat).length (c0 - Aa.toNat)] rfl (by (try simp only [List.map_toArray, List.map_cons, List.map_nil]); first | done | (rw [show (l0.drop (Aa : Int).toNat).length = (l0.length - Aa.toNat) from List.length_drop] <;> rfl) | rfl | (simp only [List.length_drop, List.length_take]; rfl)) ?_; (with_reducible refine (varint_Get.calls k2 _ _ (l0.drop (Aa : Int).toNat) t302 t303 t304 _ ?Ae ?Af A9.out).mono ?_); (case Ae => exact pC (Kd.C_below HR301.out HB.out)); (case Af => exact HC301.out); rintro e w' ⟨rfl, ⟨nd, rfl⟩⟩; refine ⟨_, rfl, ?_⟩) | ((with_reducible refine gate_builtin (b := .append) (xs := #[.tmp 33, .tmp 35]) rfl ?_); at_builtin; refine Kd.R_append (Kd.int .u64) (w0 := w) w.heap.size rfl (.tmp 33) (.tmp 35) 91 61 (.int .u64 0) 8 rfl Try.underlying91 info61 rfl (by decide) (by omega) u7 Ac t302 [.int .u64 t302] (fun _ => True) (fun _ => False) rfl rfl ?aP (fun _ hk => hk.elim) ?aF ?aO ?aB ?aS ?aL ?_; (case aP => exact rfl); (case aB => exact (pB HB.out)); (case aF => exact (fun _ _ => trivial)); (case aO => exact (pR Ai.out)); (case aS => exact (below_size (pB HB.out))); (case aL => have := LMc11.out; omega); intro v306 w13 ho hb hg hat; rw [← Ny305.out] at ho; replace HB := Am (hb); have Al := Am (ho); clear Ai ho hb hg hat))
     go_roundg k2
     case measure => have := HJ2.out; have := HK2.out; omega
     case rel => exact ⟨(y305), (wrap64 (Aa + t303)), (wrap64 (Ab + 1)), zr, zr, H', ⟨by have := HJ2.out; have := HK2.out; omega⟩, ⟨by (with_reducible repeat (first | apply Kd.R_alloc | apply Kd.R_drewN | apply Kd.R_drew)); exact Al.out⟩, ⟨pB HB.out⟩⟩
def slices_Max_uint64_uint64.l0 : Nat → List Int → Int → Int → Option (Int)
 | 0, _, _, _ => none
 | k + 1, x0, x3, x4 => if x4 < (x0.length : Int) then (if 0 ≤ x4 then (slices_Max_uint64_uint64.l0 k x0 (mx x3 (rd x0 x4)) (wrap64 (x4 + 1))) else (none)) else (some x3)
def slices_Max_uint64_uint64.f (k : Nat) (l0 : List Int) : Option (Int) := if (l0.length : Int) < 1 then (none) else (if 0 < (l0.length : Int) then (slices_Max_uint64_uint64.l0 k l0 (rd l0 0) 1) else (none))
theorem slices_Max_uint64_uint64.mono_l : ∀ k, (∀ y0 y1 y2, LeO (slices_Max_uint64_uint64.l0 k y0 y1 y2) (slices_Max_uint64_uint64.l0 (k + 1) y0 y1 y2))
 | 0 => fun _ _ _ r h => by simp [slices_Max_uint64_uint64.l0] at h
 | k + 1 => by
  have ih0 := slices_Max_uint64_uint64.mono_l k
  ·intro y0 y1 y2
   unfold slices_Max_uint64_uint64.l0
   repeat' (with_reducible first | exact ih0 .. | exact LeO.refl .. | exact LeO.none .. | refine LeO.ite ?_ ?_ | refine LeO.bind ?_ (fun _ => ?_))
theorem slices_Max_uint64_uint64.mono : ∀ a0 k, LeO (slices_Max_uint64_uint64.f k a0) (slices_Max_uint64_uint64.f (k + 1) a0) := by
 intro a0 k
 have ih0 := slices_Max_uint64_uint64.mono_l k
 unfold slices_Max_uint64_uint64.f
 repeat' (with_reducible first | exact ih0 .. | exact LeO.refl .. | exact LeO.none .. | refine LeO.ite ?_ ?_ | refine LeO.bind ?_ (fun _ => ?_))
set_option maxHeartbeats 8000000 in
set_option maxRecDepth 100000 in
theorem slices_Max_uint64_uint64.calls (k : Nat) (A0 : Option Addr) (c0 : Nat) (l0 : List Int) (r : Int) (w : World) (hr0 : Kd.C (Kd.int .u64) w A0 l0.length l0) (hc0 : l0.length ≤ c0) (h : slices_Max_uint64_uint64.f k l0 = some r) :
 Calls Try.prog 87 #[.slice A0 l0.length c0] w fun e w' => e = .returned (.int .u64 r) ∧ Below w.heap.size w w' := by
 have HR0 := Am hr0
 have HC0 := Am hc0
 clear hr0 hc0
 have HB := Am (Below.refl w.heap.size w)
 unfold slices_Max_uint64_uint64.f at h
 have H := h
 clear h
 obtain ⟨c2, H⟩ := zJ H
 have c2b0 := decide_eq_false c2
 have c2b1 : decide (l0.length < 1) = false := decide_eq_false (by omega)
 clear c2
 obtain ⟨c3, H⟩ := zI H
 have c3b0 := decide_eq_true c3
 have c3b1 : decide (0 < l0.length) = true := decide_eq_true (by omega)
 clear c3
 have H' := Am H
 clear H
 have p308 : 0 ≤ (0 : Int) := (by omega)
 have q308 : 0 < (l0.length : Int) := of_decide_eq_true pS
 obtain ⟨Ae, e308, Ab⟩ := Kd.at_int HR0.out 0 p308 q308
 cases e308
 have qi308 : (0 < l0.length) = True := eq_true (by omega)
 (try rw [tz] at Ab)
 (try rw [Addr.add_zero'] at Ab)
 replace p308 := eq_true p308
 replace q308 := eq_true q308
 go_enter Try.func87, Try.ntmps87
 go_wp2
 go_loopg [3, 4] k (fun kq v3 v4 w' => ∃ (Ad : Int) (Aa : Int), v3 = .int .u64 Ad ∧ v4 = .int .i64 Aa ∧ Aside0 (slices_Max_uint64_uint64.l0 kq l0 Ad Aa = some r) ∧ Aside0 (kq ≤ k) ∧ Aside0 (Below w.heap.size w w'))
 case atStart => exact ⟨(rd l0 0), (1), zr, zr, H', ⟨Nat.le_refl _⟩, ⟨pB HB.out⟩⟩
 case round =>
  clear H'
  try clear c2
  try clear c2b0
  try clear c2b1
  try clear p2
  try clear c3
  try clear c3b0
  try clear c3b1
  try clear p3
  try clear q3
  try clear hx3
  try clear qi3
  try clear Ab
  try clear p308
  try clear q308
  obtain ⟨Ad, Aa, rfl, rfl, HA, HK1, HB⟩ := hrel
  cases gk with
  | zero => exact absurd HA.out (by simp [slices_Max_uint64_uint64.l0])
  | succ k1 =>
   have H := HA.out
   clear HA
   simp only [slices_Max_uint64_uint64.l0] at H
   by_cases c4 : Aa < (l0.length : Int)
   rotate_left
   ·rw [if_neg c4] at H
    have c4b0 := decide_eq_false c4
    clear c4
    obtain rfl := Option.some.inj H
    go_wp2
    go_ret
    exact ⟨pX, pB HB.out⟩
   rw [if_pos c4] at H
   have c4b0 := decide_eq_true c4
   clear c4
   obtain ⟨c5, H⟩ := zI H
   have c5b0 := decide_eq_true c5
   clear c5
   obtain ⟨ji6, hji6⟩ : ∃ j_ : Int, (mx Ad (rd l0 Aa)) = j_ := ⟨_, rfl⟩
   replace H : (slices_Max_uint64_uint64.l0 k1 l0 ji6 (wrap64 (Aa + 1))) = some r := by first | (rw [hji6] at H; exact H) | (simp only [hji6] at H ⊢; exact H)
   have hji6_ : (if Ad < (rd l0 Aa) then (rd l0 Aa) else Ad) = ji6 := hji6
   have H' := Am H
   clear H
   have p309 : 0 ≤ (Aa : Int) := of_decide_eq_true pS
   have q309 : Aa < (l0.length : Int) := of_decide_eq_true pS
   obtain ⟨Af, e309, Ac⟩ := Kd.at_int HR0.out Aa p309 q309
   obtain rfl : Ae = Af := (by injection e309)
   replace Ac := cU HB.out Ac
   replace p309 := eq_true p309
   replace q309 := eq_true q309
   go_wp2
   go_roundg k1
   case measure => have := HK1.out; omega
   case rel => exact ⟨(ji6), (wrap64 (Aa + 1)), (by first | rfl | (simp; done) | (simp only [← hji6] <;> (first | rfl | simp)) | (simp [*]; done)), zr, H', ⟨by have := HK1.out; omega⟩, ⟨pB HB.out⟩⟩
def point_sumOf.f (l0 : List Int) : Option (Int) := if 0 < (l0.length : Int) then (if 1 < (l0.length : Int) then (if 2 < (l0.length : Int) then (if 3 < (l0.length : Int) then (some (Go.bits .or .u32 (Go.bits .or .u32 (Go.bits .or .u32 ((rd l0 0) % 4294967296) ((((rd l0 1) % 4294967296) * 256) % 4294967296)) ((((rd l0 2) % 4294967296) * 65536) % 4294967296)) ((((rd l0 3) % 4294967296) * 16777216) % 4294967296))) else (none)) else (none)) else (none)) else (none)
set_option maxHeartbeats 8000000 in
set_option maxRecDepth 100000 in
theorem point_sumOf.calls (A0 : Option Addr) (c0 : Nat) (l0 : List Int) (r : Int) (w : World) (hr0 : Kd.C (Kd.int .u8) w A0 l0.length l0) (hc0 : l0.length ≤ c0) (h : point_sumOf.f l0 = some r) :
 Calls Try.prog 88 #[.slice A0 l0.length c0] w fun e w' => e = .returned (.int .u32 r) ∧ Drawn0 w w' := by
 have HR0 := Am hr0
 have HC0 := Am hc0
 clear hr0 hc0
 unfold point_sumOf.f at h
 have H := h
 clear h
 obtain ⟨c2, H⟩ := zI H
 have c2b0 := decide_eq_true c2
 have c2b1 : decide (0 < l0.length) = true := decide_eq_true (by omega)
 clear c2
 obtain ⟨c3, H⟩ := zI H
 have c3b0 := decide_eq_true c3
 have c3b1 : decide (1 < l0.length) = true := decide_eq_true (by omega)
 clear c3
 obtain ⟨c4, H⟩ := zI H
 have c4b0 := decide_eq_true c4
 have c4b1 : decide (2 < l0.length) = true := decide_eq_true (by omega)
 clear c4
 obtain ⟨c5, H⟩ := zI H
 have c5b0 := decide_eq_true c5
 have c5b1 : decide (3 < l0.length) = true := decide_eq_true (by omega)
 clear c5
 obtain rfl := Option.some.inj H
 have p310 : 0 ≤ (0 : Int) := (by omega)
 have q310 : 0 < (l0.length : Int) := of_decide_eq_true pS
 obtain ⟨Ae, e310, Aa⟩ := Kd.at_int HR0.out 0 p310 q310
 cases e310
 have qi310 : (0 < l0.length) = True := eq_true (by omega)
 (try rw [tz] at Aa)
 (try rw [Addr.add_zero'] at Aa)
 replace p310 := eq_true p310
 replace q310 := eq_true q310
 have p311 : 0 ≤ (1 : Int) := (by omega)
 have q311 : 1 < (l0.length : Int) := of_decide_eq_true pS
 obtain ⟨Af, e311, Ab⟩ := Kd.at_int HR0.out 1 p311 q311
 obtain rfl : Ae = Af := (by injection e311)
 (try simp only [show (1 : Int).toNat = 1 from rfl, Nat.reduceMul, Nat.reduceEqDiff, Go.Addr.add, ↓reduceIte] at Ab)
 have qi311 : (1 < l0.length) = True := eq_true (by omega)
 (try rw [show ((1 : Int)).toNat = 1 from rfl] at Ab)
 replace p311 := eq_true p311
 replace q311 := eq_true q311
 have p312 : 0 ≤ (2 : Int) := (by omega)
 have q312 : 2 < (l0.length : Int) := of_decide_eq_true pS
 obtain ⟨Ag, e312, Ac⟩ := Kd.at_int HR0.out 2 p312 q312
 obtain rfl : Ae = Ag := (by injection e312)
 (try simp only [show (2 : Int).toNat = 2 from rfl, Nat.reduceMul, Nat.reduceEqDiff, Go.Addr.add, ↓reduceIte] at Ac)
 have qi312 : (2 < l0.length) = True := eq_true (by omega)
 (try rw [show ((2 : Int)).toNat = 2 from rfl] at Ac)
 replace p312 := eq_true p312
 replace q312 := eq_true q312
 have p313 : 0 ≤ (3 : Int) := (by omega)
 have q313 : 3 < (l0.length : Int) := of_decide_eq_true pS
 obtain ⟨Ah, e313, Ad⟩ := Kd.at_int HR0.out 3 p313 q313
 obtain rfl : Ae = Ah := (by injection e313)
 (try simp only [show (3 : Int).toNat = 3 from rfl, Nat.reduceMul, Nat.reduceEqDiff, Go.Addr.add, ↓reduceIte] at Ad)
 have qi313 : (3 < l0.length) = True := eq_true (by omega)
 (try rw [show ((3 : Int)).toNat = 3 from rfl] at Ad)
 replace p313 := eq_true p313
 replace q313 := eq_true q313
 go_enter Try.func88, Try.ntmps88
 go_wp2
 repeat (go_quiet (fail); try go_wp2)
 go_ret
 exact ⟨zr, zd⟩
end Go.Proofs.Ytdanmjfkocjgjaa.PWalGets
