/- What the law reaches, as plain Lean functions, and that the machine's calls answer just that. -/
import Derived.Test.YtpplclcgkcjmpaaPEntryReadsx0
import Derived.Test.YtpplclcgkcjmpaaPEntryReadsx4
namespace Go.Proofs.Ytpplclcgkcjmpaa.PEntryReads
open Go.RowKit Go.Proofs.YtpplclcgkcjmpaaW.PrintWords Go.Proofs.YtpplclcgkcjmpaaW.PrintLast Go.Proofs.YtpplclcgkcjmpaaW.PrintMore
attribute [local go_sem] max2_int min2_int max_two min_two max_three min_three max_four min_four
set_option linter.unusedVariables false
set_option linter.unusedSimpArgs false
attribute [local go_sem] wrap64_l1 wrap64_l2 wrap64_l3 wrap64_l4 wrap64_l5
mutual
def varint_All.j0 : Nat → List Int → Int → Bool → Option (List Int × Int × Int)
 | 0, _, _, _ => none
 | k + 1, x0, x1, x17 => if x17 = true then (some (([] : List Int), 0, 1)) else (varint_All.l0 k x0 ([] : List Int) 0 x1 0)
def varint_All.l0 : Nat → List Int → List Int → Int → Int → Int → Option (List Int × Int × Int)
 | 0, _, _, _, _, _ => none
 | k + 1, x0, x7, x8, x18, x19 => if x19 < x18 then (if 0 ≤ x8 then (if x8 ≤ (x0.length : Int) then ((varint_Get.f k (x0.drop (x8 : Int).toNat)).bind fun bt227 => (if bt227.2.2 = 0 then (if x7.length < 17592186044416 then (varint_All.l0 k x0 (x7 ++ [bt227.1]) (wrap64 (x8 + bt227.2.1)) x18 (wrap64 (x19 + 1))) else (none)) else (some (([] : List Int), x8, bt227.2.2)))) else (none)) else (none)) else (some (x7, x8, 0))
end
def varint_All.f (k : Nat) (l0 : List Int) (a1 : Int) : Option (List Int × Int × Int) := if a1 < 0 then (varint_All.j0 k l0 a1 true) else (varint_All.j0 k l0 a1 (decide (a1 > 1000)))
theorem varint_All.mono_l : ∀ k, (∀ y0 y1 y2, LeO (varint_All.j0 k y0 y1 y2) (varint_All.j0 (k + 1) y0 y1 y2)) ∧ (∀ y0 y1 y2 y3 y4, LeO (varint_All.l0 k y0 y1 y2 y3 y4) (varint_All.l0 (k + 1) y0 y1 y2 y3 y4))
 | 0 => ⟨fun _ _ _ r h => by simp [varint_All.j0] at h, fun _ _ _ _ _ r h => by simp [varint_All.l0] at h⟩
 | k + 1 => by
  obtain ⟨ih0, ih1⟩ := varint_All.mono_l k
  refine ⟨?_, ?_⟩
  ·intro y0 y1 y2
   unfold varint_All.j0
   repeat' first
   | (with_reducible exact ih0 _ _ _)
   | (with_reducible exact ih1 _ _ _ _ _)
   | (with_reducible exact varint_Get.mono _ _)
   | (with_reducible exact LeO.refl _)
   | (with_reducible exact LeO.none _)
   | (with_reducible refine LeO.ite ?_ ?_)
   | (with_reducible refine LeO.bind ?_ (fun _ => ?_))
   | exact ih0 _ _ _
   | exact ih1 _ _ _ _ _
   | exact varint_Get.mono _ _
   | exact LeO.none _
   | refine LeO.ite ?_ ?_
   | refine LeO.bind ?_ (fun _ => ?_)
  ·intro y0 y1 y2 y3 y4
   unfold varint_All.l0
   repeat' first
   | (with_reducible exact ih0 _ _ _)
   | (with_reducible exact ih1 _ _ _ _ _)
   | (with_reducible exact varint_Get.mono _ _)
   | (with_reducible exact LeO.refl _)
   | (with_reducible exact LeO.none _)
   | (with_reducible refine LeO.ite ?_ ?_)
   | (with_reducible refine LeO.bind ?_ (fun _ => ?_))
   | exact ih0 _ _ _
   | exact ih1 _ _ _ _ _
   | exact varint_Get.mono _ _
   | exact LeO.none _
   | refine LeO.ite ?_ ?_
   | refine LeO.bind ?_ (fun _ => ?_)
theorem varint_All.mono : ∀ a0 a1 k, LeO (varint_All.f k a0 a1) (varint_All.f (k + 1) a0 a1) := by
 intro a0 a1 k
 obtain ⟨ih0, ih1⟩ := varint_All.mono_l k
 unfold varint_All.f
 repeat' first
   | (with_reducible exact ih0 _ _ _)
   | (with_reducible exact ih1 _ _ _ _ _)
   | (with_reducible exact varint_Get.mono _ _)
   | (with_reducible exact LeO.refl _)
   | (with_reducible exact LeO.none _)
   | (with_reducible refine LeO.ite ?_ ?_)
   | (with_reducible refine LeO.bind ?_ (fun _ => ?_))
   | exact ih0 _ _ _
   | exact ih1 _ _ _ _ _
   | exact varint_Get.mono _ _
   | exact LeO.none _
   | refine LeO.ite ?_ ?_
   | refine LeO.bind ?_ (fun _ => ?_)
set_option maxHeartbeats 8000000 in
set_option maxRecDepth 100000 in
theorem varint_All.calls (k : Nat) (A0 : Option Addr) (c0 : Nat) (l0 : List Int) (a1 : Int) (r1 : List Int) (r2 : Int) (r3 : Int) (w : World) (hr0 : Kd.C (Kd.int .u8) w A0 l0.length l0) (hc0 : l0.length ≤ c0) (h : varint_All.f k l0 a1 = some (r1, r2, r3)) :
  Calls Try.prog 47 #[.slice A0 l0.length c0, .int .i64 a1] w fun e w' => ∃ v0_ : Value, e = .returned (.tuple #[v0_, .int .i64 r2, .int .i64 r3]) ∧ Kd.R (Kd.int .u64) 52 w' w.heap.size (fun _ => True) v0_ r1 ∧ Below w.heap.size w w' := by
 have HR0 := Am hr0
 have HC0 := Am hc0
 clear hr0 hc0
 have HB := Am (Below.refl w.heap.size w)
 have H : (if a1 < 0 then (varint_All.j0 k l0 a1 true) else (varint_All.j0 k l0 a1 (decide (a1 > 1000)))) = some (r1, r2, r3) := h
 clear h
 have HC3 := Am H
 clear H
 go_enter Try.func47, Try.ntmps47
 go_upto_region 1 with (fail)
 go_cut [17] (fun v17 wc => ∃ (kq : Nat) (Ad : Bool), v17 = .bool Ad ∧ Aside0 (varint_All.j0 kq l0 a1 Ad = some (r1, r2, r3)) ∧ Aside0 (kq ≤ k) ∧ Aside0 (Below w.heap.size w wc))
 case first =>
  have H := HC3.out
  clear HC3
  by_cases c4 : a1 < 0
  ·rw [if_pos c4] at H
   have c4b0 : decide (a1 < 0) = true := decide_eq_true c4
   clear c4
   (first | rw [c4b0] | (simp only [i64_w, i32_w]; rw [c4b0]) | skip)
   have H' := Am H
   clear H
   go_wp2
   go_meet
   case rel => exact ⟨_, (true), (by first | rfl | (simp; done) | (simp [*]; done)), H', ⟨by first | omega | exact Nat.le_refl _⟩, ⟨pB HB.out⟩⟩
  rw [if_neg c4] at H
  have c4b0 : decide (a1 < 0) = false := decide_eq_false c4
  clear c4
  (first | rw [c4b0] | (simp only [i64_w, i32_w]; rw [c4b0]) | skip)
  have H' := Am H
  clear H
  go_wp2
  go_meet
  case rel => exact ⟨_, (decide (a1 > 1000)), (by first | rfl | (simp; done) | (simp [*]; done)), H', ⟨by first | omega | exact Nat.le_refl _⟩, ⟨pB HB.out⟩⟩
 case rest =>
  clear HC3
  try clear p2
  try clear c4
  try clear c4b0
  obtain ⟨kq, Ad, rfl, HA, HJ2, HB⟩ := hcut
  cases kq with
  | zero => exact absurd HA.out (by simp [varint_All.j0])
  | succ kj2 =>
   have H := HA.out
   clear HA
   simp only [varint_All.j0] at H
   by_cases c5 : Ad = true
   ·subst c5
    have H1 : (some (([] : List Int), 0, 1)) = some (r1, r2, r3) := by rw [if_pos rfl] at H; exact H
    clear H
    have H := H1
    clear H1
    simp only [Option.some.injEq, Prod.mk.injEq] at H
    obtain ⟨rfl, rfl, rfl⟩ := H
    go_wp2
    go_ret3
    exact ⟨_, pX, by first | exact Kd.R_nil _ _ _ _ _ | exact Kd.N_nil _ _ _ _ _ | exact Kd.V_nil _ _ _ _ _ | exact Kd.Q_nil _ _ _ _ _ | exact Kd.S_nil _ _ _ _ _, pB HB.out⟩
   replace c5 := Bool.eq_false_iff.mpr c5
   subst c5
   have H1 : (varint_All.l0 kj2 l0 ([] : List Int) 0 a1 0) = some (r1, r2, r3) := by rw [if_neg (show ¬ (false = true) by decide)] at H; exact H
   clear H
   have H := H1
   clear H1
   have H' := Am H
   clear H
   go_wp2
   go_loopg [7, 8, 19] kj2 (fun kq v7 v8 v19 w' => ∃ (Ac : List Int) (Aa : Int) (Ab : Int), v8 = .int .i64 Aa ∧ v19 = .int .i64 Ab ∧ Aside0 (varint_All.l0 kq l0 Ac Aa a1 Ab = some (r1, r2, r3)) ∧ Aside0 (kq ≤ kj2) ∧ Aside0 (Kd.R (Kd.int .u64) 52 w' w.heap.size (fun _ => True) v7 Ac) ∧ Aside0 (Below w.heap.size w w'))
   case atStart => exact ⟨(([] : List Int)), (0), (0), (by first | rfl | (simp; done) | (simp [*]; done)), (by first | rfl | (simp; done) | (simp [*]; done)), H', ⟨Nat.le_refl _⟩, ⟨by first | exact Kd.R_nil _ _ _ _ _ | exact Kd.N_nil _ _ _ _ _ | exact Kd.V_nil _ _ _ _ _ | exact Kd.Q_nil _ _ _ _ _ | exact Kd.S_nil _ _ _ _ _⟩, ⟨pB HB.out⟩⟩
   case round =>
    clear H'
    try clear p2
    try clear c4
    try clear c4b0
    try clear c5
    try clear p2
    obtain ⟨Ac, Aa, Ab, rfl, rfl, HA, HK2, Ai, HB⟩ := hrel
    cases gk with
    | zero => exact absurd HA.out (by simp [varint_All.l0])
    | succ k2 =>
     have H := HA.out
     clear HA
     simp only [varint_All.l0] at H
     by_cases c6 : Ab < a1
     rotate_left
     ·rw [if_neg c6] at H
      have c6b0 : decide (Ab < a1) = false := decide_eq_false c6
      clear c6
      simp only [Option.some.injEq, Prod.mk.injEq] at H
      obtain ⟨rfl, rfl, rfl⟩ := H
      go_wp2
      go_ret3
      exact ⟨_, pX, by (with_reducible repeat (first | apply Kd.R_alloc | apply Kd.R_drewN | apply Kd.R_drew)); exact Ai.out, pB HB.out⟩
     rw [if_pos c6] at H
     have c6b0 : decide (Ab < a1) = true := decide_eq_true c6
     clear c6
     by_cases c7 : 0 ≤ Aa
     rotate_left
     ·rw [if_neg c7] at H
      exact absurd H (by simp)
     rw [if_pos c7] at H
     have c7b0 := eq_true c7
     have c7b1 : decide (0 ≤ Aa) = true := decide_eq_true c7
     clear c7
     by_cases c8 : Aa ≤ (l0.length : Int)
     rotate_left
     ·rw [if_neg c8] at H
      exact absurd H (by simp)
     rw [if_pos c8] at H
     have c8b0 := eq_true c8
     have c8b1 : decide (Aa ≤ (l0.length : Int)) = true := decide_eq_true c8
     clear c8
     replace H := Option.bind_eq_some_iff.mp H
     obtain ⟨⟨t227, t228, t229⟩, A90, H⟩ := H
     replace H : (if t229 = 0 then (if Ac.length < 17592186044416 then (varint_All.l0 k2 l0 (Ac ++ [t227]) (wrap64 (Aa + t228)) a1 (wrap64 (Ab + 1))) else (none)) else (some (([] : List Int), Aa, t229))) = some (r1, r2, r3) := H
     have A9 := Am A90
     clear A90
     by_cases c10 : t229 = 0
     rotate_left
     ·rw [if_neg c10] at H
      have c10b0 : (t229 == 0) = false := beq_eq_false_iff_ne.mpr c10
      have c10b1 : (t229 != 0) = true := bne_iff_ne.mpr c10
      simp only [Option.some.injEq, Prod.mk.injEq] at H
      obtain ⟨rfl, rfl, rfl⟩ := H
      obtain ⟨i014, hi014, _, Ah, _⟩ := info_parts info5
      obtain ⟨A14, hcut14, hA14, Ak⟩ := print_drop_of (P := Try.prog) (Value.int .u8) 0 22 5 .i64 Try.underlying22 hi014 Ah A0 c0 l0 Aa (of_decide_eq_true pS) (of_decide_eq_true pS) HC0.out
      have HR226 := Am (Kd.C_of_reads (h1 := fun _ => rfl) (hA14 _ (Kd.reads_of_C HR0.out)))
      have HC226 := Am Ak
      clear hA14 Ak hi014 Ah
      go_wp2_with (first | ((with_reducible refine gate_callee (f := 28) rfl ?_); refine goesL_ (some 25) rfl rfl Try.func28 (by kernel_rfl) rfl #[.slice A14 (l0.drop (Aa : Int).toNat).length (c0 - Aa.toNat)] rfl (by (try simp only [List.map_toArray, List.map_cons, List.map_nil]); first | done | (rw [show (l0.drop (Aa : Int).toNat).length = (l0.length - Aa.toNat) from List.length_drop] <;> rfl) | rfl | (simp only [List.length_drop, List.length_take]; rfl)) ?_; (with_reducible refine (varint_Get.calls k2 _ _ (l0.drop (Aa : Int).toNat) t227 t228 t229 _ ?Ae ?Af A9.out).mono ?_); (case Ae => exact pC (Kd.C_below HR226.out HB.out)); (case Af => exact HC226.out); rintro e w' ⟨rfl, ⟨nd, rfl⟩⟩; refine ⟨_, rfl, ?_⟩))
      go_ret3
      exact ⟨_, pX, by first | exact Kd.R_nil _ _ _ _ _ | exact Kd.N_nil _ _ _ _ _ | exact Kd.V_nil _ _ _ _ _ | exact Kd.Q_nil _ _ _ _ _ | exact Kd.S_nil _ _ _ _ _, pB HB.out⟩
     rw [if_pos c10] at H
     have c10b0 : (t229 == 0) = true := beq_iff_eq.mpr c10
     have c10b1 : (t229 != 0) = false := bne_eq_false_iff_eq.mpr c10
     clear c10
     by_cases c11 : Ac.length < 17592186044416
     rotate_left
     ·rw [if_neg c11] at H
      exact absurd H (by simp)
     rw [if_pos c11] at H
     have LMc11 := Am c11
     clear c11
     obtain ⟨y230, hy230⟩ : ∃ y_ : List Int, y_ = (Ac ++ [t227]) := ⟨_, rfl⟩
     replace H : (varint_All.l0 k2 l0 y230 (wrap64 (Aa + t228)) a1 (wrap64 (Ab + 1))) = some (r1, r2, r3) := by first | (rw [hy230]; with_reducible exact H) | (have H2_ := (Option.bind_some _ _).symm.trans H; rw [hy230]; with_reducible exact H2_) | (have H2_ := (Option.bind_some _ _).symm.trans H; with_reducible exact H2_) | with_reducible exact H | (rw [hy230]; exact H) | exact H
     have Ny230 := Am hy230
     clear hy230
     have H' := Am H
     clear H
     obtain ⟨i012, hi012, _, Ag, _⟩ := info_parts info5
     obtain ⟨A12, hcut12, hA12, Aj⟩ := print_drop_of (P := Try.prog) (Value.int .u8) 0 22 5 .i64 Try.underlying22 hi012 Ag A0 c0 l0 Aa (of_decide_eq_true pS) (of_decide_eq_true pS) HC0.out
     have HR226 := Am (Kd.C_of_reads (h1 := fun _ => rfl) (hA12 _ (Kd.reads_of_C HR0.out)))
     have HC226 := Am Aj
     clear hA12 Aj hi012 Ag
     go_wp2_with (first | ((with_reducible refine gate_callee (f := 28) rfl ?_); refine goesL_ (some 25) rfl rfl Try.func28 (by kernel_rfl) rfl #[.slice A12 (l0.drop (Aa : Int).toNat).length (c0 - Aa.toNat)] rfl (by (try simp only [List.map_toArray, List.map_cons, List.map_nil]); first | done | (rw [show (l0.drop (Aa : Int).toNat).length = (l0.length - Aa.toNat) from List.length_drop] <;> rfl) | rfl | (simp only [List.length_drop, List.length_take]; rfl)) ?_; (with_reducible refine (varint_Get.calls k2 _ _ (l0.drop (Aa : Int).toNat) t227 t228 t229 _ ?Ae ?Af A9.out).mono ?_); (case Ae => exact pC (Kd.C_below HR226.out HB.out)); (case Af => exact HC226.out); rintro e w' ⟨rfl, ⟨nd, rfl⟩⟩; refine ⟨_, rfl, ?_⟩) | ((with_reducible refine gate_builtin (b := .append) (xs := #[.tmp 33, .tmp 35]) rfl ?_); at_builtin; refine Kd.R_append (Kd.int .u64) (w0 := w) w.heap.size rfl (.tmp 33) (.tmp 35) 71 52 (.int .u64 0) 8 rfl Try.underlying71 info52 rfl (by decide) (by omega) u7 Ac t227 [.int .u64 t227] (fun _ => True) (fun _ => False) rfl rfl ?aP (fun _ hk => hk.elim) ?aF ?aO ?aB ?aS ?aL ?_; (case aP => exact rfl); (case aB => exact (pB HB.out)); (case aF => exact (fun _ _ => trivial)); (case aO => exact (pR Ai.out)); (case aS => exact (below_size (pB HB.out))); (case aL => have := LMc11.out; omega); intro v231 w13 ho hb hg hat; rw [← Ny230.out] at ho; replace HB := Am (hb); have Al := Am (ho); clear Ai ho hb hg hat))
     go_roundg k2
     case measure => have := HJ2.out; have := HK2.out; omega
     case rel => exact ⟨(y230), (wrap64 (Aa + t228)), (wrap64 (Ab + 1)), (by first | rfl | (simp; done) | (simp [*]; done)), (by first | rfl | (simp; done) | (simp [*]; done)), H', ⟨by have := HJ2.out; have := HK2.out; omega⟩, ⟨by (with_reducible repeat (first | apply Kd.R_alloc | apply Kd.R_drewN | apply Kd.R_drew)); exact Al.out⟩, ⟨pB HB.out⟩⟩
def slices_Max_uint64_uint64.l0 : Nat → List Int → Int → Int → Option (Int)
 | 0, _, _, _ => none
 | k + 1, x0, x3, x4 => if x4 < (x0.length : Int) then (if 0 ≤ x4 then (slices_Max_uint64_uint64.l0 k x0 (mx x3 (rd x0 x4)) (wrap64 (x4 + 1))) else (none)) else (some x3)
def slices_Max_uint64_uint64.f (k : Nat) (l0 : List Int) : Option (Int) := if (l0.length : Int) < 1 then (none) else (if 0 < (l0.length : Int) then (slices_Max_uint64_uint64.l0 k l0 (rd l0 0) 1) else (none))
theorem slices_Max_uint64_uint64.mono_l : ∀ k, (∀ y0 y1 y2, LeO (slices_Max_uint64_uint64.l0 k y0 y1 y2) (slices_Max_uint64_uint64.l0 (k + 1) y0 y1 y2))
 | 0 => fun _ _ _ r h => by simp [slices_Max_uint64_uint64.l0] at h
 | k + 1 => by
  have ih0 := slices_Max_uint64_uint64.mono_l k
  ·intro y0 y1 y2
   unfold slices_Max_uint64_uint64.l0
   repeat' first
   | (with_reducible exact ih0 _ _ _)
   | (with_reducible exact LeO.refl _)
   | (with_reducible exact LeO.none _)
   | (with_reducible refine LeO.ite ?_ ?_)
   | (with_reducible refine LeO.bind ?_ (fun _ => ?_))
   | exact ih0 _ _ _
   | exact LeO.none _
   | refine LeO.ite ?_ ?_
   | refine LeO.bind ?_ (fun _ => ?_)
theorem slices_Max_uint64_uint64.mono : ∀ a0 k, LeO (slices_Max_uint64_uint64.f k a0) (slices_Max_uint64_uint64.f (k + 1) a0) := by
 intro a0 k
 have ih0 := slices_Max_uint64_uint64.mono_l k
 unfold slices_Max_uint64_uint64.f
 repeat' first
   | (with_reducible exact ih0 _ _ _)
   | (with_reducible exact LeO.refl _)
   | (with_reducible exact LeO.none _)
   | (with_reducible refine LeO.ite ?_ ?_)
   | (with_reducible refine LeO.bind ?_ (fun _ => ?_))
   | exact ih0 _ _ _
   | exact LeO.none _
   | refine LeO.ite ?_ ?_
   | refine LeO.bind ?_ (fun _ => ?_)
set_option maxHeartbeats 8000000 in
set_option maxRecDepth 100000 in
theorem slices_Max_uint64_uint64.calls (k : Nat) (A0 : Option Addr) (c0 : Nat) (l0 : List Int) (r : Int) (w : World) (hr0 : Kd.C (Kd.int .u64) w A0 l0.length l0) (hc0 : l0.length ≤ c0) (h : slices_Max_uint64_uint64.f k l0 = some r) :
  Calls Try.prog 48 #[.slice A0 l0.length c0] w fun e w' => e = .returned (.int .u64 r) ∧ Below w.heap.size w w' := by
 have HR0 := Am hr0
 have HC0 := Am hc0
 clear hr0 hc0
 have HB := Am (Below.refl w.heap.size w)
 have H : (if (l0.length : Int) < 1 then (none) else (if 0 < (l0.length : Int) then (slices_Max_uint64_uint64.l0 k l0 (rd l0 0) 1) else (none))) = some r := h
 clear h
 by_cases c2 : (l0.length : Int) < 1
 ·rw [if_pos c2] at H
  exact absurd H (by simp)
 rw [if_neg c2] at H
 have c2b0 : decide ((l0.length : Int) < 1) = false := decide_eq_false c2
 have c2b1 : decide (l0.length < 1) = false := decide_eq_false (by omega)
 clear c2
 by_cases c3 : 0 < (l0.length : Int)
 rotate_left
 ·rw [if_neg c3] at H
  exact absurd H (by simp)
 rw [if_pos c3] at H
 have c3b0 : decide (0 < (l0.length : Int)) = true := decide_eq_true c3
 have c3b1 : decide (0 < l0.length) = true := decide_eq_true (by omega)
 clear c3
 have H' := Am H
 clear H
 have p233 : 0 ≤ (0 : Int) := (by omega)
 have q233 : 0 < (l0.length : Int) := of_decide_eq_true pS
 obtain ⟨Ae, e233, Ab⟩ := Kd.at_int HR0.out 0 p233 q233
 cases e233
 have qi233 : (0 < l0.length) = True := eq_true (by omega)
 (try rw [tz] at Ab)
 (try rw [Addr.add_zero'] at Ab)
 replace p233 := eq_true p233
 replace q233 := eq_true q233
 go_enter Try.func48, Try.ntmps48
 go_wp2
 go_loopg [3, 4] k (fun kq v3 v4 w' => ∃ (Ad : Int) (Aa : Int), v3 = .int .u64 Ad ∧ v4 = .int .i64 Aa ∧ Aside0 (slices_Max_uint64_uint64.l0 kq l0 Ad Aa = some r) ∧ Aside0 (kq ≤ k) ∧ Aside0 (Below w.heap.size w w'))
 case atStart => exact ⟨(rd l0 0), (1), (by first | rfl | (simp; done) | (simp [*]; done)), (by first | rfl | (simp; done) | (simp [*]; done)), H', ⟨Nat.le_refl _⟩, ⟨pB HB.out⟩⟩
 case round =>
  clear H'
  try clear c2
  try clear c2b0
  try clear c2b1
  try clear p2
  try clear q2
  try clear hx2
  try clear qi2
  try clear c3
  try clear c3b0
  try clear c3b1
  try clear Ab
  try clear p233
  try clear q233
  obtain ⟨Ad, Aa, rfl, rfl, HA, HK1, HB⟩ := hrel
  cases gk with
  | zero => exact absurd HA.out (by simp [slices_Max_uint64_uint64.l0])
  | succ k1 =>
   have H := HA.out
   clear HA
   simp only [slices_Max_uint64_uint64.l0] at H
   by_cases c4 : Aa < (l0.length : Int)
   rotate_left
   ·rw [if_neg c4] at H
    have c4b0 : decide (Aa < (l0.length : Int)) = false := decide_eq_false c4
    clear c4
    obtain rfl := Option.some.inj H
    go_wp2
    go_ret
    exact ⟨pX, pB HB.out⟩
   rw [if_pos c4] at H
   have c4b0 : decide (Aa < (l0.length : Int)) = true := decide_eq_true c4
   clear c4
   by_cases c5 : 0 ≤ Aa
   rotate_left
   ·rw [if_neg c5] at H
    exact absurd H (by simp)
   rw [if_pos c5] at H
   have c5b0 : decide (0 ≤ Aa) = true := decide_eq_true c5
   clear c5
   obtain ⟨ji6, hji6⟩ : ∃ j_ : Int, (mx Ad (rd l0 Aa)) = j_ := ⟨_, rfl⟩
   replace H : (slices_Max_uint64_uint64.l0 k1 l0 ji6 (wrap64 (Aa + 1))) = some r := by first | (rw [hji6] at H; exact H) | (simp only [hji6] at H ⊢; exact H)
   have hji6_ : (if Ad < (rd l0 Aa) then (rd l0 Aa) else Ad) = ji6 := hji6
   have H' := Am H
   clear H
   have p234 : 0 ≤ (Aa : Int) := of_decide_eq_true pS
   have q234 : Aa < (l0.length : Int) := of_decide_eq_true pS
   obtain ⟨Af, e234, Ac⟩ := Kd.at_int HR0.out Aa p234 q234
   obtain rfl : Ae = Af := (by injection e234)
   replace Ac := cU HB.out Ac
   replace p234 := eq_true p234
   replace q234 := eq_true q234
   go_wp2
   go_roundg k1
   case measure => have := HK1.out; omega
   case rel => exact ⟨(ji6), (wrap64 (Aa + 1)), (by first | rfl | (simp; done) | (simp only [← hji6] <;> (first | rfl | simp)) | (simp [*]; done)), (by first | rfl | (simp; done) | (simp [*]; done)), H', ⟨by have := HK1.out; omega⟩, ⟨pB HB.out⟩⟩
def point_sumOf.f (l0 : List Int) : Option (Int) := if 0 < (l0.length : Int) then (if 1 < (l0.length : Int) then (if 2 < (l0.length : Int) then (if 3 < (l0.length : Int) then (some (Go.bits .or .u32 (Go.bits .or .u32 (Go.bits .or .u32 ((rd l0 0) % 4294967296) ((((rd l0 1) % 4294967296) * 256) % 4294967296)) ((((rd l0 2) % 4294967296) * 65536) % 4294967296)) ((((rd l0 3) % 4294967296) * 16777216) % 4294967296))) else (none)) else (none)) else (none)) else (none)
set_option maxHeartbeats 8000000 in
set_option maxRecDepth 100000 in
theorem point_sumOf.calls (A0 : Option Addr) (c0 : Nat) (l0 : List Int) (r : Int) (w : World) (hr0 : Kd.C (Kd.int .u8) w A0 l0.length l0) (hc0 : l0.length ≤ c0) (h : point_sumOf.f l0 = some r) :
  Calls Try.prog 49 #[.slice A0 l0.length c0] w fun e w' => e = .returned (.int .u32 r) ∧ Drawn0 w w' := by
 have HR0 := Am hr0
 have HC0 := Am hc0
 clear hr0 hc0
 have H : (if 0 < (l0.length : Int) then (if 1 < (l0.length : Int) then (if 2 < (l0.length : Int) then (if 3 < (l0.length : Int) then (some (Go.bits .or .u32 (Go.bits .or .u32 (Go.bits .or .u32 ((rd l0 0) % 4294967296) ((((rd l0 1) % 4294967296) * 256) % 4294967296)) ((((rd l0 2) % 4294967296) * 65536) % 4294967296)) ((((rd l0 3) % 4294967296) * 16777216) % 4294967296))) else (none)) else (none)) else (none)) else (none)) = some r := h
 clear h
 by_cases c2 : 0 < (l0.length : Int)
 rotate_left
 ·rw [if_neg c2] at H
  exact absurd H (by simp)
 rw [if_pos c2] at H
 have c2b0 : decide (0 < (l0.length : Int)) = true := decide_eq_true c2
 have c2b1 : decide (0 < l0.length) = true := decide_eq_true (by omega)
 clear c2
 by_cases c3 : 1 < (l0.length : Int)
 rotate_left
 ·rw [if_neg c3] at H
  exact absurd H (by simp)
 rw [if_pos c3] at H
 have c3b0 : decide (1 < (l0.length : Int)) = true := decide_eq_true c3
 have c3b1 : decide (1 < l0.length) = true := decide_eq_true (by omega)
 clear c3
 by_cases c4 : 2 < (l0.length : Int)
 rotate_left
 ·rw [if_neg c4] at H
  exact absurd H (by simp)
 rw [if_pos c4] at H
 have c4b0 : decide (2 < (l0.length : Int)) = true := decide_eq_true c4
 have c4b1 : decide (2 < l0.length) = true := decide_eq_true (by omega)
 clear c4
 by_cases c5 : 3 < (l0.length : Int)
 rotate_left
 ·rw [if_neg c5] at H
  exact absurd H (by simp)
 rw [if_pos c5] at H
 have c5b0 : decide (3 < (l0.length : Int)) = true := decide_eq_true c5
 have c5b1 : decide (3 < l0.length) = true := decide_eq_true (by omega)
 clear c5
 obtain rfl := Option.some.inj H
 have p235 : 0 ≤ (0 : Int) := (by omega)
 have q235 : 0 < (l0.length : Int) := of_decide_eq_true pS
 obtain ⟨Ae, e235, Aa⟩ := Kd.at_int HR0.out 0 p235 q235
 cases e235
 have qi235 : (0 < l0.length) = True := eq_true (by omega)
 (try rw [tz] at Aa)
 (try rw [Addr.add_zero'] at Aa)
 replace p235 := eq_true p235
 replace q235 := eq_true q235
 have p236 : 0 ≤ (1 : Int) := (by omega)
 have q236 : 1 < (l0.length : Int) := of_decide_eq_true pS
 obtain ⟨Af, e236, Ab⟩ := Kd.at_int HR0.out 1 p236 q236
 obtain rfl : Ae = Af := (by injection e236)
 (try simp only [show (1 : Int).toNat = 1 from rfl, Nat.reduceMul, Nat.reduceEqDiff, Go.Addr.add, ↓reduceIte] at Ab)
 have qi236 : (1 < l0.length) = True := eq_true (by omega)
 (try rw [show ((1 : Int)).toNat = 1 from rfl] at Ab)
 replace p236 := eq_true p236
 replace q236 := eq_true q236
 have p237 : 0 ≤ (2 : Int) := (by omega)
 have q237 : 2 < (l0.length : Int) := of_decide_eq_true pS
 obtain ⟨Ag, e237, Ac⟩ := Kd.at_int HR0.out 2 p237 q237
 obtain rfl : Ae = Ag := (by injection e237)
 (try simp only [show (2 : Int).toNat = 2 from rfl, Nat.reduceMul, Nat.reduceEqDiff, Go.Addr.add, ↓reduceIte] at Ac)
 have qi237 : (2 < l0.length) = True := eq_true (by omega)
 (try rw [show ((2 : Int)).toNat = 2 from rfl] at Ac)
 replace p237 := eq_true p237
 replace q237 := eq_true q237
 have p238 : 0 ≤ (3 : Int) := (by omega)
 have q238 : 3 < (l0.length : Int) := of_decide_eq_true pS
 obtain ⟨Ah, e238, Ad⟩ := Kd.at_int HR0.out 3 p238 q238
 obtain rfl : Ae = Ah := (by injection e238)
 (try simp only [show (3 : Int).toNat = 3 from rfl, Nat.reduceMul, Nat.reduceEqDiff, Go.Addr.add, ↓reduceIte] at Ad)
 have qi238 : (3 < l0.length) = True := eq_true (by omega)
 (try rw [show ((3 : Int)).toNat = 3 from rfl] at Ad)
 replace p238 := eq_true p238
 replace q238 := eq_true q238
 go_enter Try.func49, Try.ntmps49
 go_wp2
 repeat (go_quiet (fail); try go_wp2)
 go_ret
 exact ⟨by first | rfl | (simp; done) | (simp [*]; done), by repeat (first | exact Drawn0.refl _ | apply Drawn0.step)⟩
end Go.Proofs.Ytpplclcgkcjmpaa.PEntryReads
