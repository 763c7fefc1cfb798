/- What the law reaches, as plain Lean functions, and that the machine's calls answer just that. -/
import Derived.Test.YtjebpaahpehfnaaPRelayGetsx0
import Derived.Test.YtjebpaahpehfnaaPRelayGetsx8
import Derived.Test.YtjebpaahpehfnaaPRelayGetsx9
import Derived.Test.YtjebpaahpehfnaaPRelayGetsx11
import Derived.Test.YtjebpaahpehfnaaPRelayGetsx12
namespace Go.Proofs.Ytjebpaahpehfnaa.PRelayGets
open Go.RowKit Go.Proofs.YtjebpaahpehfnaaW.PrintWords Go.Proofs.YtjebpaahpehfnaaW.PrintLast Go.Proofs.YtjebpaahpehfnaaW.PrintMore
attribute [local go_sem] max2_int min2_int max_two min_two max_three min_three max_four min_four
set_option linter.unusedVariables false
set_option linter.unusedSimpArgs false
attribute [local go_sem] wrap64_l1 wrap64_l2 wrap64_l3 wrap64_l4 wrap64_l5
mutual
def garnerref21_Get.j0 : Nat → Bool → Int → List Int → Option (Int × (List (S46)) × Bool)
 | 0, _, _, _ => none
 | k + 1, x34, x333000, x333001 => if x34 = true then (some (0, ([] : List (S46)), false)) else ((garnerref02_All.f k x333001 2).bind fun bt333 => (if bt333.2.2 = 0 then (if 0 < (bt333.1.length : Int) then (if (rd bt333.1 0) > 2147483647 then (garnerref21_Get.j1 k bt333.1 bt333.2.1 true x333000 x333001) else (if 1 < (bt333.1.length : Int) then (garnerref21_Get.j1 k bt333.1 bt333.2.1 (decide ((rd bt333.1 1) > 16384)) x333000 x333001) else (none))) else (none)) else (garnerref21_Get.j1 k bt333.1 bt333.2.1 true x333000 x333001)))
def garnerref21_Get.j1 : Nat → List Int → Int → Bool → Int → List Int → Option (Int × (List (S46)) × Bool)
 | 0, _, _, _, _, _ => none
 | k + 1, x7, x8, x56, x333000, x333001 => if x56 = true then (some (0, ([] : List (S46)), false)) else (if 0 < (x7.length : Int) then (garnerref21_Get.l0 k x7 x8 0 x333000 x333001 (wrap64 (rd x7 0)) ([] : List (S46))) else (none))
def garnerref21_Get.l0 : Nat → List Int → Int → Int → Int → List Int → Int → List (S46) → Option (Int × (List (S46)) × Bool)
 | 0, _, _, _, _, _, _, _ => none
 | k + 1, x7, x8, x11, x333000, x333001, x342000, x342001 => if 1 < (x7.length : Int) then (if x11 < (wrap64 (rd x7 1)) then (if 0 ≤ x8 then (if x8 ≤ (x333001.length : Int) then ((garnerref02_Get.f k (x333001.drop (x8 : Int).toNat)).bind fun bt348 => (if 0 ≤ (wrap64 (x8 + bt348.2)) then (if (wrap64 (x8 + bt348.2)) ≤ (x333001.length : Int) then ((garnerref04_Get.f k (x333001.drop ((wrap64 (x8 + bt348.2)) : Int).toNat)).bind fun bt354 => (if bt348.2 = 0 then (some (0, ([] : List (S46)), false)) else (if bt354.2.2.2.2 = 0 then (some (0, ([] : List (S46)), false)) else (if bt348.1 > 2147483647 then (some (0, ([] : List (S46)), false)) else (if x342001.length < 3518437208883 then (garnerref21_Get.l0 k x7 (wrap64 ((wrap64 (x8 + bt348.2)) + bt354.2.2.2.2)) (wrap64 (x11 + 1)) x333000 x333001 x342000 (x342001 ++ [(⟨wrap64 (bt348.1), (⟨bt354.1, bt354.2.1, bt354.2.2.1, bt354.2.2.2.1⟩ : S44)⟩ : S46)])) else (none)))))) else (none)) else (none))) else (none)) else (none)) else (if x8 = (x333001.length : Int) then ((garnerref21_May.f k x342000 x342001).bind fun t343 => (if t343 = true then (some (x342000, x342001, true)) else (some (0, ([] : List (S46)), false)))) else (some (0, ([] : List (S46)), false)))) else (none)
end
def garnerref21_Get.f (k : Nat) (l0 : List Int) : Option (Int × (List (S46)) × Bool) := (garnerref03_First.f k l0).bind fun bt326 => (if bt326.2.2.2 = 0 then (if bt326.2.2.1 = (l0.length : Int) then (garnerref21_Get.j0 k (bt326.1 != 4) bt326.1 bt326.2.1) else (garnerref21_Get.j0 k true bt326.1 bt326.2.1)) else (garnerref21_Get.j0 k true bt326.1 bt326.2.1))
theorem garnerref21_Get.mono_l : ∀ k, (∀ y0 y1 y2, LeO (garnerref21_Get.j0 k y0 y1 y2) (garnerref21_Get.j0 (k + 1) y0 y1 y2)) ∧ (∀ y0 y1 y2 y3 y4, LeO (garnerref21_Get.j1 k y0 y1 y2 y3 y4) (garnerref21_Get.j1 (k + 1) y0 y1 y2 y3 y4)) ∧ (∀ y0 y1 y2 y3 y4 y5 y6, LeO (garnerref21_Get.l0 k y0 y1 y2 y3 y4 y5 y6) (garnerref21_Get.l0 (k + 1) y0 y1 y2 y3 y4 y5 y6))
 | 0 => ⟨fun _ _ _ r h => by simp [garnerref21_Get.j0] at h, fun _ _ _ _ _ r h => by simp [garnerref21_Get.j1] at h, fun _ _ _ _ _ _ _ r h => by simp [garnerref21_Get.l0] at h⟩
 | k + 1 => by
  obtain ⟨ih0, ih1, ih2⟩ := garnerref21_Get.mono_l k
  refine ⟨?_, ?_, ?_⟩
  ·intro y0 y1 y2
   unfold garnerref21_Get.j0
   repeat' first
   | (with_reducible exact ih0 _ _ _)
   | (with_reducible exact ih1 _ _ _ _ _)
   | (with_reducible exact ih2 _ _ _ _ _ _ _)
   | (with_reducible exact garnerref02_All.mono _ _ _)
   | (with_reducible exact garnerref02_Get.mono _ _)
   | (with_reducible exact garnerref03_First.mono _ _)
   | (with_reducible exact garnerref04_Get.mono _ _)
   | (with_reducible exact garnerref21_May.mono _ _ _)
   | (with_reducible exact LeO.refl _)
   | (with_reducible exact LeO.none _)
   | (with_reducible refine LeO.ite ?_ ?_)
   | (with_reducible refine LeO.bind ?_ (fun _ => ?_))
   | exact ih0 _ _ _
   | exact ih1 _ _ _ _ _
   | exact ih2 _ _ _ _ _ _ _
   | exact garnerref02_All.mono _ _ _
   | exact garnerref02_Get.mono _ _
   | exact garnerref03_First.mono _ _
   | exact garnerref04_Get.mono _ _
   | exact garnerref21_May.mono _ _ _
   | exact LeO.none _
   | refine LeO.ite ?_ ?_
   | refine LeO.bind ?_ (fun _ => ?_)
  ·intro y0 y1 y2 y3 y4
   unfold garnerref21_Get.j1
   repeat' first
   | (with_reducible exact ih0 _ _ _)
   | (with_reducible exact ih1 _ _ _ _ _)
   | (with_reducible exact ih2 _ _ _ _ _ _ _)
   | (with_reducible exact garnerref02_All.mono _ _ _)
   | (with_reducible exact garnerref02_Get.mono _ _)
   | (with_reducible exact garnerref03_First.mono _ _)
   | (with_reducible exact garnerref04_Get.mono _ _)
   | (with_reducible exact garnerref21_May.mono _ _ _)
   | (with_reducible exact LeO.refl _)
   | (with_reducible exact LeO.none _)
   | (with_reducible refine LeO.ite ?_ ?_)
   | (with_reducible refine LeO.bind ?_ (fun _ => ?_))
   | exact ih0 _ _ _
   | exact ih1 _ _ _ _ _
   | exact ih2 _ _ _ _ _ _ _
   | exact garnerref02_All.mono _ _ _
   | exact garnerref02_Get.mono _ _
   | exact garnerref03_First.mono _ _
   | exact garnerref04_Get.mono _ _
   | exact garnerref21_May.mono _ _ _
   | exact LeO.none _
   | refine LeO.ite ?_ ?_
   | refine LeO.bind ?_ (fun _ => ?_)
  ·intro y0 y1 y2 y3 y4 y5 y6
   unfold garnerref21_Get.l0
   repeat' first
   | (with_reducible exact ih0 _ _ _)
   | (with_reducible exact ih1 _ _ _ _ _)
   | (with_reducible exact ih2 _ _ _ _ _ _ _)
   | (with_reducible exact garnerref02_All.mono _ _ _)
   | (with_reducible exact garnerref02_Get.mono _ _)
   | (with_reducible exact garnerref03_First.mono _ _)
   | (with_reducible exact garnerref04_Get.mono _ _)
   | (with_reducible exact garnerref21_May.mono _ _ _)
   | (with_reducible exact LeO.refl _)
   | (with_reducible exact LeO.none _)
   | (with_reducible refine LeO.ite ?_ ?_)
   | (with_reducible refine LeO.bind ?_ (fun _ => ?_))
   | exact ih0 _ _ _
   | exact ih1 _ _ _ _ _
   | exact ih2 _ _ _ _ _ _ _
   | exact garnerref02_All.mono _ _ _
   | exact garnerref02_Get.mono _ _
   | exact garnerref03_First.mono _ _
   | exact garnerref04_Get.mono _ _
   | exact garnerref21_May.mono _ _ _
   | exact LeO.none _
   | refine LeO.ite ?_ ?_
   | refine LeO.bind ?_ (fun _ => ?_)
theorem garnerref21_Get.mono : ∀ a0 k, LeO (garnerref21_Get.f k a0) (garnerref21_Get.f (k + 1) a0) := by
 intro a0 k
 obtain ⟨ih0, ih1, ih2⟩ := garnerref21_Get.mono_l k
 unfold garnerref21_Get.f
 repeat' first
   | (with_reducible exact ih0 _ _ _)
   | (with_reducible exact ih1 _ _ _ _ _)
   | (with_reducible exact ih2 _ _ _ _ _ _ _)
   | (with_reducible exact garnerref02_All.mono _ _ _)
   | (with_reducible exact garnerref02_Get.mono _ _)
   | (with_reducible exact garnerref03_First.mono _ _)
   | (with_reducible exact garnerref04_Get.mono _ _)
   | (with_reducible exact garnerref21_May.mono _ _ _)
   | (with_reducible exact LeO.refl _)
   | (with_reducible exact LeO.none _)
   | (with_reducible refine LeO.ite ?_ ?_)
   | (with_reducible refine LeO.bind ?_ (fun _ => ?_))
   | exact ih0 _ _ _
   | exact ih1 _ _ _ _ _
   | exact ih2 _ _ _ _ _ _ _
   | exact garnerref02_All.mono _ _ _
   | exact garnerref02_Get.mono _ _
   | exact garnerref03_First.mono _ _
   | exact garnerref04_Get.mono _ _
   | exact garnerref21_May.mono _ _ _
   | exact LeO.none _
   | refine LeO.ite ?_ ?_
   | refine LeO.bind ?_ (fun _ => ?_)
set_option maxHeartbeats 8000000 in
set_option maxRecDepth 100000 in
theorem garnerref21_Get.calls (k : Nat) (A0 : Option Addr) (c0 : Nat) (l0 : List Int) (r1 : Int) (r2 : List (S46)) (r3 : Bool) (w : World) (hr0 : Kd.C (Kd.int .u8) w A0 l0.length l0) (hc0 : l0.length ≤ c0) (h : garnerref21_Get.f k l0 = some (r1, r2, r3)) :
  Calls Try.prog 7 #[.slice A0 l0.length c0] w fun e w' => ∃ v1_ : Value, e = .returned (.tuple #[.agg #[.int .i64 r1, v1_], .bool r3]) ∧ Kd.R k46 46 w' w.heap.size (fun _ => True) v1_ r2 ∧ Below w.heap.size w w' := by
 have hu29 := Try.underlying29
 have hu50 := Try.underlying50
 have hu44 := Try.underlying44
 have hu46 := Try.underlying46
 have HR0 := Am hr0
 have HC0 := Am hc0
 clear hr0 hc0
 have HB := Am (Below.refl w.heap.size w)
 have H : ((garnerref03_First.f k l0).bind fun bt326 => (if bt326.2.2.2 = 0 then (if bt326.2.2.1 = (l0.length : Int) then (garnerref21_Get.j0 k (bt326.1 != 4) bt326.1 bt326.2.1) else (garnerref21_Get.j0 k true bt326.1 bt326.2.1)) else (garnerref21_Get.j0 k true bt326.1 bt326.2.1))) = some (r1, r2, r3) := h
 clear h
 replace H := Option.bind_eq_some_iff.mp H
 obtain ⟨⟨t326, t327, t330, t331⟩, A20, H⟩ := H
 replace H : (if t331 = 0 then (if t330 = (l0.length : Int) then (garnerref21_Get.j0 k (t326 != 4) t326 t327) else (garnerref21_Get.j0 k true t326 t327)) else (garnerref21_Get.j0 k true t326 t327)) = some (r1, r2, r3) := H
 have A2 := Am A20
 clear A20
 have HC3 := Am H
 clear H
 go_enter Try.func7, Try.ntmps7
 go_upto_region 2 with (first | ((with_reducible refine gate_dst (N := 2) rfl ?_); (try (refine gate_guard (by rfl) ?_; dsimp only)); refine box_event ?hg (N := 2) ?hd (cs := #[.int .i64 0, .slice none 0 0]) (t := 29) ?hr ?_; (case hd => rfl); (case hg => rfl); (case hr => first | (go_simp; done) | (go_simp; rfl)); intro As hg w4 hbox hb; have Ac := Am (hbox); have Dj := Am ((by rw [hg]; exact (below_size (pB HB.out)) : w.heap.size ≤ As)); replace HB := Am (below_step (pB HB.out) hb); have Ah := Dj; clear hb hbox hg) | ((with_reducible refine gate_callee (f := 20) rfl ?_); refine goesL_ (some 18) rfl rfl Try.func20 (by kernel_rfl) rfl #[.slice A0 l0.length c0] rfl pL ?_; (with_reducible refine (garnerref03_First.calls k _ _ l0 t326 t327 t330 t331 _ ?Av ?Aw A2.out).mono ?_); (case Av => exact pC (Kd.C_below HR0.out HB.out)); (case Aw => exact HC0.out); rintro e w5 ⟨v328, rfl, ho0, hb⟩; refine ⟨_, rfl, ?_⟩; have Bk := Am (Kd.R_lower ho0 (below_size (pE HB.out Ah.out))); replace Ac := kBa Ac hb; replace HB := Am (below_step (pE HB.out Ah.out) hb); (try clear hb); (try clear hb2); (try clear hk); (try clear hi); (try clear ho0)) | ((with_reducible refine gate_dst (N := 4) rfl ?_); (try (refine gate_guard (by rfl) ?_; dsimp only)); refine box_event ?hg (N := 4) ?hd (cs := #[.int .i64 0, .slice none 0 0]) (t := 50) ?hr ?_; (case hd => rfl); (case hg => rfl); (case hr => first | (go_simp; done) | (go_simp; rfl)); intro Ax hg w6 hbox hb; replace Bk := bRa Bk hb; have Ad := Am (hbox); have Dk := Am ((by rw [hg]; exact (below_size (pE HB.out Ah.out)) : w.heap.size ≤ Ax)); replace HB := Am (below_step (pE HB.out Ah.out) hb); have Aj := Dk; have Ak := Am ((by rw [hg]; exact Nat.ne_of_lt (kL Ac.out) : As ≠ Ax)); have An := Am ((by rw [hg]; exact Nat.ne_of_gt (kL Ac.out) : Ax ≠ As)); replace Ac := kBa Ac hb; clear hb hbox hg; have hnb7 := An.out; have hnc7 := Ak.out; obtain ⟨Bz, B0⟩ := bc2 Ad.out; obtain ⟨B1, B2⟩ := bf2 Ad.out; obtain ⟨Bb, A8, Dy⟩ := Kd.R_slice Bk.out; subst Dy))
 (try simp only [Act.put, List.setIfInBounds_toArray, List.set_cons_zero, List.set_cons_succ])
 go_cut [34] (fun v34 wc => ∃ (kq : Nat) (B3 : Bool), v34 = .bool B3 ∧ Aside0 (garnerref21_Get.j0 kq B3 t326 t327 = some (r1, r2, r3)) ∧ Aside0 (kq ≤ k) ∧ Aside0 (Kd.R (Kd.int .u8) 5 wc w.heap.size (fun _ => True) (.slice Bb t327.length A8) t327) ∧ Aside0 (wc.heap[As]? = some (.cells #[.int .i64 0, (.slice none 0 0)] 29 (0, 0))) ∧ Aside0 (wc.heap[Ax]? = some (.cells #[.int .i64 t326, (.slice Bb t327.length A8)] 50 (0, 0))) ∧ Aside0 (Below w.heap.size w wc))
 case first =>
  have H := HC3.out
  clear HC3
  by_cases c10 : t331 = 0
  rotate_left
  ·rw [if_neg c10] at H
   have c10b0 : (t331 == 0) = false := beq_eq_false_iff_ne.mpr c10
   have c10b1 : (t331 != 0) = true := bne_iff_ne.mpr c10
   (first | rw [c10b0] | (simp only [i64_w, i32_w]; rw [c10b0]) | skip)
   have H' := Am H
   clear H
   go_wp2
   go_meet
   case rel => exact ⟨_, (true), (by first | rfl | (simp; done) | (simp [*]; done)), H', ⟨by first | omega | exact Nat.le_refl _⟩, ⟨by (with_reducible repeat (first | apply Kd.R_alloc | apply Kd.R_drewN | apply Kd.R_drew)); exact Kd.R_mono (Rf2 (g := Ax) (Kd.R_types Bk.out Ad.out (by decide)) (fun _ hk => hk.2)) (fun _ hk => trivial)⟩, ⟨kX1 Ac.out Ak.out⟩, ⟨kX0 Ad.out⟩, ⟨pE2 HB.out Ah.out Aj.out⟩⟩
  rw [if_pos c10] at H
  have c10b0 : (t331 == 0) = true := beq_iff_eq.mpr c10
  have c10b1 : (t331 != 0) = false := bne_eq_false_iff_eq.mpr c10
  clear c10
  (first | rw [c10b0] | (simp only [i64_w, i32_w]; rw [c10b0]) | skip)
  by_cases c11 : t330 = (l0.length : Int)
  rotate_left
  ·rw [if_neg c11] at H
   have c11b0 : (t330 == (l0.length : Int)) = false := beq_eq_false_iff_ne.mpr c11
   have c11b1 : (t330 != (l0.length : Int)) = true := bne_iff_ne.mpr c11
   have H' := Am H
   clear H
   go_wp2
   go_meet
   case rel => exact ⟨_, (true), (by first | rfl | (simp; done) | (simp [*]; done)), H', ⟨by first | omega | exact Nat.le_refl _⟩, ⟨by (with_reducible repeat (first | apply Kd.R_alloc | apply Kd.R_drewN | apply Kd.R_drew)); exact Kd.R_mono (Rf2 (g := Ax) (Kd.R_types Bk.out Ad.out (by decide)) (fun _ hk => hk.2)) (fun _ hk => trivial)⟩, ⟨kX1 Ac.out Ak.out⟩, ⟨kX0 Ad.out⟩, ⟨pE2 HB.out Ah.out Aj.out⟩⟩
  rw [if_pos c11] at H
  have c11b0 : (t330 == (l0.length : Int)) = true := beq_iff_eq.mpr c11
  have c11b1 : (t330 != (l0.length : Int)) = false := bne_eq_false_iff_eq.mpr c11
  clear c11
  have H' := Am H
  clear H
  have hnb12 := An.out
  have hnc12 := Ak.out
  obtain ⟨Bm, Bn⟩ := bc2 Ad.out
  obtain ⟨Bo, Bp⟩ := bf2 Ad.out
  go_wp2
  go_meet
  case rel => exact ⟨_, ((t326 != 4)), (by first | rfl | (simp; done) | (simp [*]; done)), H', ⟨by first | omega | exact Nat.le_refl _⟩, ⟨by (with_reducible repeat (first | apply Kd.R_alloc | apply Kd.R_drewN | apply Kd.R_drew)); exact Kd.R_mono (Rf2 (g := Ax) (Kd.R_types Bk.out Ad.out (by decide)) (fun _ hk => hk.2)) (fun _ hk => trivial)⟩, ⟨kX1 Ac.out Ak.out⟩, ⟨kX0 Ad.out⟩, ⟨pE2 HB.out Ah.out Aj.out⟩⟩
 case rest =>
  clear HC3
  try clear c1
  try clear c2
  try clear p2
  try clear c7
  try clear c10
  try clear c10b0
  try clear c10b1
  try clear c11
  try clear c11b0
  try clear c11b1
  try clear c12
  try clear Bm Bn
  try clear Bz B0
  try clear Bo Bp
  try clear B1 B2
  obtain ⟨kq, B3, rfl, HA, HJ2, Aa, Ac, Ad, HB⟩ := hcut
  cases kq with
  | zero => exact absurd HA.out (by simp [garnerref21_Get.j0])
  | succ kj2 =>
   have H := HA.out
   clear HA
   simp only [garnerref21_Get.j0] at H
   by_cases c14 : B3 = true
   ·subst c14
    have H1 : (some (0, ([] : List (S46)), false)) = some (r1, r2, r3) := by rw [if_pos rfl] at H; exact H
    clear H
    have H := H1
    clear H1
    simp only [Option.some.injEq, Prod.mk.injEq] at H
    obtain ⟨rfl, rfl, rfl⟩ := H
    have hnb15 := Ak.out
    have hnc15 := An.out
    obtain ⟨B6, B7⟩ := bc2 Ac.out
    obtain ⟨B8, B9⟩ := bf2 Ac.out
    go_wp2
    refine bodyPost_ret (results_ct rfl _ _ As 29 #[.int .i64 0, .slice none 0 0] (0, 0) _ rfl (kX0 Ac.out) Try.underlying29 rfl (by kernel_rfl)) rfl ?_
    exact ⟨_, pX, by first | exact Kd.R_nil _ _ _ _ _ | exact Kd.N_nil _ _ _ _ _ | exact Kd.V_nil _ _ _ _ _ | exact Kd.Q_nil _ _ _ _ _ | exact Kd.S_nil _ _ _ _ _, pE2 HB.out Ah.out Aj.out⟩
   replace c14 := Bool.eq_false_iff.mpr c14
   subst c14
   have H1 : ((garnerref02_All.f kj2 t327 2).bind fun bt333 => (if bt333.2.2 = 0 then (if 0 < (bt333.1.length : Int) then (if (rd bt333.1 0) > 2147483647 then (garnerref21_Get.j1 kj2 bt333.1 bt333.2.1 true t326 t327) else (if 1 < (bt333.1.length : Int) then (garnerref21_Get.j1 kj2 bt333.1 bt333.2.1 (decide ((rd bt333.1 1) > 16384)) t326 t327) else (none))) else (none)) else (garnerref21_Get.j1 kj2 bt333.1 bt333.2.1 true t326 t327))) = some (r1, r2, r3) := by rw [if_neg (show ¬ (false = true) by decide)] at H; exact H
   clear H
   have H := H1
   clear H1
   replace H := Option.bind_eq_some_iff.mp H
   obtain ⟨⟨t333, t334, t335⟩, A170, H⟩ := H
   replace H : (if t335 = 0 then (if 0 < (t333.length : Int) then (if (rd t333 0) > 2147483647 then (garnerref21_Get.j1 kj2 t333 t334 true t326 t327) else (if 1 < (t333.length : Int) then (garnerref21_Get.j1 kj2 t333 t334 (decide ((rd t333 1) > 16384)) t326 t327) else (none))) else (none)) else (garnerref21_Get.j1 kj2 t333 t334 true t326 t327)) = some (r1, r2, r3) := H
   have A17 := Am A170
   clear A170
   have HC18 := Am H
   clear H
   have hnb19 := An.out
   have hnc19 := Ak.out
   obtain ⟨Ca, Cb⟩ := bc2 Ad.out
   obtain ⟨Cc, Cd⟩ := bf2 Ad.out
   go_upto_region 5 with (first | ((with_reducible refine gate_callee (f := 21) rfl ?_); refine goesL_ (some 39) rfl rfl Try.func21 (by kernel_rfl) rfl #[.slice Bb t327.length A8, .int .i64 2] rfl pL ?_; (with_reducible refine (garnerref02_All.calls kj2 _ _ t327 2 t333 t334 t335 _ ?Av ?Aw A17.out).mono ?_); (case Av => exact pC (Kd.R_reads' Aa.out).2.2); (case Aw => exact (Kd.R_reads' Aa.out).2.1); rintro e w21 ⟨v336, rfl, ho0, hb⟩; refine ⟨_, rfl, ?_⟩; replace Aa := bRa Aa hb; have Bf := Am (Kd.R_lower ho0 (below_size (pE2 HB.out Ah.out Aj.out))); replace Ac := kBa Ac hb; replace Ad := kBa Ad hb; replace HB := Am (below_step (pE2 HB.out Ah.out Aj.out) hb); (try clear hb); (try clear hb2); (try clear hk); (try clear hi); (try clear ho0)))
   (try simp only [Act.put, List.setIfInBounds_toArray, List.set_cons_zero, List.set_cons_succ])
   go_cut [56] (fun v56 wc => ∃ (kq : Nat) (Bl : Bool), v56 = .bool Bl ∧ Aside0 (garnerref21_Get.j1 kq t333 t334 Bl t326 t327 = some (r1, r2, r3)) ∧ Aside0 (kq ≤ kj2) ∧ Aside0 (Kd.R (Kd.int .u64) 56 wc w.heap.size (fun _ => True) v336 t333) ∧ Aside0 (Kd.R (Kd.int .u8) 5 wc w.heap.size (fun _ => True) (.slice Bb t327.length A8) t327) ∧ Aside0 (wc.heap[As]? = some (.cells #[.int .i64 0, (.slice none 0 0)] 29 (0, 0))) ∧ Aside0 (wc.heap[Ax]? = some (.cells #[.int .i64 t326, (.slice Bb t327.length A8)] 50 (0, 0))) ∧ Aside0 (Below w.heap.size w wc))
   case first =>
    have H := HC18.out
    clear HC18
    by_cases c22 : t335 = 0
    rotate_left
    ·rw [if_neg c22] at H
     have c22b0 : (t335 == 0) = false := beq_eq_false_iff_ne.mpr c22
     have c22b1 : (t335 != 0) = true := bne_iff_ne.mpr c22
     (first | rw [c22b0] | (simp only [i64_w, i32_w]; rw [c22b0]) | skip)
     have H' := Am H
     clear H
     go_wp2
     go_meet
     case rel => exact ⟨_, (true), (by first | rfl | (simp; done) | (simp [*]; done)), H', ⟨by have := HJ2.out; first | omega | exact Nat.le_refl _⟩, ⟨by (with_reducible repeat (first | apply Kd.R_alloc | apply Kd.R_drewN | apply Kd.R_drew)); exact Bf.out⟩, ⟨by (with_reducible repeat (first | apply Kd.R_alloc | apply Kd.R_drewN | apply Kd.R_drew)); exact Aa.out⟩, ⟨pK Ac.out⟩, ⟨pK Ad.out⟩, ⟨pE2 HB.out Ah.out Aj.out⟩⟩
    rw [if_pos c22] at H
    have c22b0 : (t335 == 0) = true := beq_iff_eq.mpr c22
    have c22b1 : (t335 != 0) = false := bne_eq_false_iff_eq.mpr c22
    clear c22
    (first | rw [c22b0] | (simp only [i64_w, i32_w]; rw [c22b0]) | skip)
    by_cases c23 : 0 < (t333.length : Int)
    rotate_left
    ·rw [if_neg c23] at H
     exact absurd H (by simp)
    rw [if_pos c23] at H
    have c23b0 : decide (0 < (t333.length : Int)) = true := decide_eq_true c23
    have c23b1 : decide (0 < t333.length) = true := decide_eq_true (by omega)
    clear c23
    by_cases c24 : (rd t333 0) > 2147483647
    ·rw [if_pos c24] at H
     have c24b0 : decide (2147483647 < (rd t333 0)) = true := decide_eq_true c24
     clear c24
     have H' := Am H
     clear H
     obtain ⟨Ao25, co25, Dt⟩ := Kd.R_slice Bf.out
     subst Dt
     have p338 : 0 ≤ (0 : Int) := (by omega)
     have q338 : 0 < (t333.length : Int) := of_decide_eq_true pS
     obtain ⟨Cv, e338, Bc⟩ := Kd.at_int (Kd.R_reads' Bf.out).2.2 0 p338 q338
     cases e338
     have qi338 : (0 < t333.length) = True := eq_true (by omega)
     (try rw [tz] at Bc)
     (try rw [Addr.add_zero'] at Bc)
     replace p338 := eq_true p338
     replace q338 := eq_true q338
     go_wp2
     go_meet
     case rel => exact ⟨_, (true), (by first | rfl | (simp; done) | (simp [*]; done)), H', ⟨by have := HJ2.out; first | omega | exact Nat.le_refl _⟩, ⟨by (with_reducible repeat (first | apply Kd.R_alloc | apply Kd.R_drewN | apply Kd.R_drew)); exact Bf.out⟩, ⟨by (with_reducible repeat (first | apply Kd.R_alloc | apply Kd.R_drewN | apply Kd.R_drew)); exact Aa.out⟩, ⟨pK Ac.out⟩, ⟨pK Ad.out⟩, ⟨pE2 HB.out Ah.out Aj.out⟩⟩
    rw [if_neg c24] at H
    have c24b0 : decide (2147483647 < (rd t333 0)) = false := decide_eq_false c24
    clear c24
    by_cases c26 : 1 < (t333.length : Int)
    rotate_left
    ·rw [if_neg c26] at H
     exact absurd H (by simp)
    rw [if_pos c26] at H
    have c26b0 : decide (1 < (t333.length : Int)) = true := decide_eq_true c26
    have c26b1 : decide (1 < t333.length) = true := decide_eq_true (by omega)
    clear c26
    have H' := Am H
    clear H
    obtain ⟨Ao27, co27, Du⟩ := Kd.R_slice Bf.out
    subst Du
    have p338 : 0 ≤ (0 : Int) := (by omega)
    have q338 : 0 < (t333.length : Int) := of_decide_eq_true pS
    obtain ⟨Cv, e338, Bc⟩ := Kd.at_int (Kd.R_reads' Bf.out).2.2 0 p338 q338
    cases e338
    have qi338 : (0 < t333.length) = True := eq_true (by omega)
    (try rw [tz] at Bc)
    (try rw [Addr.add_zero'] at Bc)
    replace p338 := eq_true p338
    replace q338 := eq_true q338
    have p339 : 0 ≤ (1 : Int) := (by omega)
    have q339 : 1 < (t333.length : Int) := of_decide_eq_true pS
    obtain ⟨Dl, e339, Bh⟩ := Kd.at_int (Kd.R_reads' Bf.out).2.2 1 p339 q339
    obtain rfl : Cv = Dl := (by injection e339)
    (try simp only [show (1 : Int).toNat = 1 from rfl, Nat.reduceMul, Nat.reduceEqDiff, Go.Addr.add, ↓reduceIte] at Bh)
    have qi339 : (1 < t333.length) = True := eq_true (by omega)
    (try rw [show ((1 : Int)).toNat = 1 from rfl] at Bh)
    replace p339 := eq_true p339
    replace q339 := eq_true q339
    go_wp2
    go_meet
    case rel => exact ⟨_, (decide ((rd t333 1) > 16384)), (by first | rfl | (simp; done) | (simp [*]; done)), H', ⟨by have := HJ2.out; first | omega | exact Nat.le_refl _⟩, ⟨by (with_reducible repeat (first | apply Kd.R_alloc | apply Kd.R_drewN | apply Kd.R_drew)); exact Bf.out⟩, ⟨by (with_reducible repeat (first | apply Kd.R_alloc | apply Kd.R_drewN | apply Kd.R_drew)); exact Aa.out⟩, ⟨pK Ac.out⟩, ⟨pK Ad.out⟩, ⟨pE2 HB.out Ah.out Aj.out⟩⟩
   case rest =>
    clear HC18
    try clear c1
    try clear c2
    try clear p2
    try clear p3
    try clear q3
    try clear hx3
    try clear qi3
    try clear c7
    try clear c10
    try clear c10b0
    try clear c10b1
    try clear c11
    try clear c11b0
    try clear c11b1
    try clear c12
    try clear c14
    try clear c15
    try clear c19
    try clear c20
    try clear c21
    try clear c22
    try clear c22b0
    try clear c22b1
    try clear c23
    try clear c23b0
    try clear c23b1
    try clear c24
    try clear c24b0
    try clear c26
    try clear c26b0
    try clear c26b1
    try clear Bm Bn
    try clear B6 B7
    try clear Ca Cb
    try clear Bz B0
    try clear Bo Bp
    try clear B8 B9
    try clear Cc Cd
    try clear B1 B2
    try clear Bc
    try clear Bh
    try clear p2
    try clear p338
    try clear p339
    try clear q338
    try clear q339
    obtain ⟨kq, Bl, rfl, HA, HJ17, Ao, Aa, Ac, Ad, HB⟩ := hcut
    cases kq with
    | zero => exact absurd HA.out (by simp [garnerref21_Get.j1])
    | succ kj17 =>
     have H := HA.out
     clear HA
     simp only [garnerref21_Get.j1] at H
     by_cases c28 : Bl = true
     ·subst c28
      have H1 : (some (0, ([] : List (S46)), false)) = some (r1, r2, r3) := by rw [if_pos rfl] at H; exact H
      clear H
      have H := H1
      clear H1
      simp only [Option.some.injEq, Prod.mk.injEq] at H
      obtain ⟨rfl, rfl, rfl⟩ := H
      have hnb29 := Ak.out
      have hnc29 := An.out
      obtain ⟨Cm, Cn⟩ := bc2 Ac.out
      obtain ⟨Co, Cp⟩ := bf2 Ac.out
      go_wp2
      refine bodyPost_ret (results_ct rfl _ _ As 29 #[.int .i64 0, .slice none 0 0] (0, 0) _ rfl (kX0 Ac.out) Try.underlying29 rfl (by kernel_rfl)) rfl ?_
      exact ⟨_, pX, by first | exact Kd.R_nil _ _ _ _ _ | exact Kd.N_nil _ _ _ _ _ | exact Kd.V_nil _ _ _ _ _ | exact Kd.Q_nil _ _ _ _ _ | exact Kd.S_nil _ _ _ _ _, pE2 HB.out Ah.out Aj.out⟩
     replace c28 := Bool.eq_false_iff.mpr c28
     subst c28
     have H1 : (if 0 < (t333.length : Int) then (garnerref21_Get.l0 kj17 t333 t334 0 t326 t327 (wrap64 (rd t333 0)) ([] : List (S46))) else (none)) = some (r1, r2, r3) := by rw [if_neg (show ¬ (false = true) by decide)] at H; exact H
     clear H
     have H := H1
     clear H1
     by_cases c31 : 0 < (t333.length : Int)
     rotate_left
     ·rw [if_neg c31] at H
      exact absurd H (by simp)
     rw [if_pos c31] at H
     have c31b0 : decide (0 < (t333.length : Int)) = true := decide_eq_true c31
     have c31b1 : decide (0 < t333.length) = true := decide_eq_true (by omega)
     clear c31
     have H' := Am H
     clear H
     obtain ⟨Ao32, Dv, Dw⟩ := Kd.R_slice Ao.out
     subst Dw
     have p340 : 0 ≤ (0 : Int) := (by omega)
     have q340 : 0 < (t333.length : Int) := of_decide_eq_true pS
     obtain ⟨Bg, e340, Bq⟩ := Kd.at_int (Kd.R_reads' Ao.out).2.2 0 p340 q340
     cases e340
     have qi340 : (0 < t333.length) = True := eq_true (by omega)
     (try rw [tz] at Bq)
     (try rw [Addr.add_zero'] at Bq)
     replace p340 := eq_true p340
     replace q340 := eq_true q340
     go_wp2_with (first | ((with_reducible refine gate_dst (N := 10) rfl ?_); (try (refine gate_guard (by rfl) ?_; dsimp only)); refine box_event ?hg (N := 10) ?hd (cs := #[.int .i64 0, .slice none 0 0]) (t := 29) ?hr ?_; (case hd => rfl); (case hg => rfl); (case hr => first | (go_simp; done) | (go_simp; rfl)); intro Ay hg w33 hbox hb; replace Ao := bRa Ao hb; replace Aa := bRa Aa hb; have Ae := Am (hbox); have Dm := Am ((by rw [hg]; exact (below_size (pE2 HB.out Ah.out Aj.out)) : w.heap.size ≤ Ay)); replace HB := Am (below_step (pE2 HB.out Ah.out Aj.out) hb); have Ap := Dm; have At := Am ((by rw [hg]; exact Nat.ne_of_lt (kL Ac.out) : As ≠ Ay)); have Az := Am ((by rw [hg]; exact Nat.ne_of_gt (kL Ac.out) : Ay ≠ As)); replace Ac := kBa Ac hb; have Au := Am ((by rw [hg]; exact Nat.ne_of_lt (kL Ad.out) : Ax ≠ Ay)); have A1 := Am ((by rw [hg]; exact Nat.ne_of_gt (kL Ad.out) : Ay ≠ Ax)); replace Ad := kBa Ad hb; clear hb hbox hg; have hnb34 := Az.out; have hnc34 := At.out; have hnb35 := A1.out; have hnc35 := Au.out; obtain ⟨Cq, Cr⟩ := bc2 Ae.out; obtain ⟨Cs, Ct⟩ := bf2 Ae.out))
     go_loopg [8, 11] kj17 (fun kq v8 v11 w' => ∃ (Ai : Int) (A9 : Int) (Bd : Int) (Af : List (S46)) (u342001 : Value), v8 = .int .i64 Ai ∧ v11 = .int .i64 A9 ∧ Aside0 (garnerref21_Get.l0 kq t333 Ai A9 t326 t327 (wrap64 (rd t333 0)) Af = some (r1, r2, r3)) ∧ Aside0 (kq ≤ kj17) ∧ Aside0 (Kd.R (Kd.int .u64) 56 w' w.heap.size (fun _ => True) (.slice (some Bg) t333.length Dv) t333) ∧ Aside0 (Kd.R (Kd.int .u8) 5 w' w.heap.size (fun _ => True) (.slice Bb t327.length A8) t327) ∧ Aside0 (Kd.R k46 46 w' w.heap.size (fun _ => True) u342001 Af) ∧ Aside0 (w'.heap[As]? = some (.cells #[.int .i64 Bd, (.slice none 0 0)] 29 (0, 0))) ∧ Aside0 (w'.heap[Ax]? = some (.cells #[.int .i64 t326, (.slice Bb t327.length A8)] 50 (0, 0))) ∧ Aside0 (w'.heap[Ay]? = some (.cells #[.int .i64 (wrap64 (rd t333 0)), u342001] 29 (0, 0))) ∧ Aside0 (Below w.heap.size w w'))
     case atStart => exact ⟨(t334), (0), (0), (([] : List (S46))), (.slice none 0 0), (by first | rfl | (simp; done) | (simp [*]; done)), (by first | rfl | (simp; done) | (simp [*]; done)), H', ⟨Nat.le_refl _⟩, ⟨by (with_reducible repeat (first | apply Kd.R_alloc | apply Kd.R_drewN | apply Kd.R_drew)); exact Kd.R_mono (Rf2 (g := Ay) (Kd.R_types Ao.out Ae.out (by decide)) (fun _ hk => hk.2)) (fun _ hk => trivial)⟩, ⟨by (with_reducible repeat (first | apply Kd.R_alloc | apply Kd.R_drewN | apply Kd.R_drew)); exact Kd.R_mono (Rf2 (g := Ay) (Kd.R_types Aa.out Ae.out (by decide)) (fun _ hk => hk.2)) (fun _ hk => trivial)⟩, ⟨by first | exact Kd.R_nil _ _ _ _ _ | exact Kd.N_nil _ _ _ _ _ | exact Kd.V_nil _ _ _ _ _ | exact Kd.Q_nil _ _ _ _ _ | exact Kd.S_nil _ _ _ _ _⟩, ⟨kX1 Ac.out At.out⟩, ⟨kX1 Ad.out Au.out⟩, ⟨kX0 Ae.out⟩, ⟨pE3 HB.out Ah.out Aj.out Ap.out⟩⟩
     case round =>
      clear H'
      try clear c1
      try clear c2
      try clear p2
      try clear c3
      try clear p3
      try clear q3
      try clear hx3
      try clear qi3
      try clear p6
      try clear c7
      try clear c10
      try clear c10b0
      try clear c10b1
      try clear c11
      try clear c11b0
      try clear c11b1
      try clear c12
      try clear c14
      try clear c15
      try clear c19
      try clear c20
      try clear c21
      try clear c22
      try clear c22b0
      try clear c22b1
      try clear c23
      try clear c23b0
      try clear c23b1
      try clear c24
      try clear c24b0
      try clear c26
      try clear c26b0
      try clear c26b1
      try clear c28
      try clear c29
      try clear c31
      try clear c31b0
      try clear c31b1
      try clear p33
      try clear q33
      try clear hx33
      try clear qi33
      try clear c34
      try clear p34
      try clear q34
      try clear hx34
      try clear qi34
      try clear c35
      try clear Bm Bn
      try clear B6 B7
      try clear Ca Cb
      try clear Cm Cn
      try clear Cq Cr
      try clear Bz B0
      try clear Bo Bp
      try clear B8 B9
      try clear Cc Cd
      try clear Co Cp
      try clear Cs Ct
      try clear B1 B2
      try clear Bc
      try clear Bh
      try clear Bq
      try clear p2
      try clear p3
      try clear p338
      try clear p339
      try clear p340
      try clear q3
      try clear q338
      try clear q339
      try clear q340
      obtain ⟨Ai, A9, Bd, Af, u342001, rfl, rfl, HA, HK3, Ao, Aa, Ab, Ac, Ad, Ae, HB⟩ := hrel
      cases gk with
      | zero => exact absurd HA.out (by simp [garnerref21_Get.l0])
      | succ k3 =>
       have H := HA.out
       clear HA
       simp only [garnerref21_Get.l0] at H
       by_cases c37 : 1 < (t333.length : Int)
       rotate_left
       ·rw [if_neg c37] at H
        exact absurd H (by simp)
       rw [if_pos c37] at H
       have c37b0 : decide (1 < (t333.length : Int)) = true := decide_eq_true c37
       have c37b1 : decide (1 < t333.length) = true := decide_eq_true (by omega)
       clear c37
       by_cases c38 : A9 < (wrap64 (rd t333 1))
       rotate_left
       ·rw [if_neg c38] at H
        have c38b0 : decide (A9 < (wrap64 (rd t333 1))) = false := decide_eq_false c38
        clear c38
        by_cases c113 : Ai = (t327.length : Int)
        rotate_left
        ·rw [if_neg c113] at H
         have c113b0 : (Ai == (t327.length : Int)) = false := beq_eq_false_iff_ne.mpr c113
         have c113b1 : (Ai != (t327.length : Int)) = true := bne_iff_ne.mpr c113
         simp only [Option.some.injEq, Prod.mk.injEq] at H
         obtain ⟨rfl, rfl, rfl⟩ := H
         have p342 : 0 ≤ (1 : Int) := (by omega)
         have q342 : 1 < (t333.length : Int) := of_decide_eq_true pS
         obtain ⟨Ba, e342, Al⟩ := Kd.at_int (Kd.R_reads' Ao.out).2.2 1 p342 q342
         obtain rfl : Bg = Ba := (by injection e342)
         (try simp only [show (1 : Int).toNat = 1 from rfl, Nat.reduceMul, Nat.reduceEqDiff, Go.Addr.add, ↓reduceIte] at Al)
         have qi342 : (1 < t333.length) = True := eq_true (by omega)
         (try rw [show ((1 : Int)).toNat = 1 from rfl] at Al)
         replace p342 := eq_true p342
         replace q342 := eq_true q342
         have hnb133 := An.out
         have hnc133 := Ak.out
         have hnb134 := Au.out
         have hnc134 := A1.out
         obtain ⟨_, _⟩ := bc2 Ad.out
         obtain ⟨_, _⟩ := bf2 Ad.out
         have hnb136 := At.out
         have hnc136 := Az.out
         obtain ⟨_, _⟩ := bc2 Ac.out
         obtain ⟨_, _⟩ := bf2 Ac.out
         go_wp2
         refine bodyPost_ret (results_ct rfl _ _ As 29 #[.int .i64 0, .slice none 0 0] (0, 0) _ rfl (kX0 Ac.out) Try.underlying29 rfl (by kernel_rfl)) rfl ?_
         exact ⟨_, pX, by first | exact Kd.R_nil _ _ _ _ _ | exact Kd.N_nil _ _ _ _ _ | exact Kd.V_nil _ _ _ _ _ | exact Kd.Q_nil _ _ _ _ _ | exact Kd.S_nil _ _ _ _ _, pE3 HB.out Ah.out Aj.out Ap.out⟩
        rw [if_pos c113] at H
        have c113b0 : (Ai == (t327.length : Int)) = true := beq_iff_eq.mpr c113
        have c113b1 : (Ai != (t327.length : Int)) = false := bne_eq_false_iff_eq.mpr c113
        clear c113
        replace H := Option.bind_eq_some_iff.mp H
        obtain ⟨t343, A1140, H⟩ := H
        replace H : (if t343 = true then (some ((wrap64 (rd t333 0)), Af, true)) else (some (0, ([] : List (S46)), false))) = some (r1, r2, r3) := H
        have A114 := Am A1140
        clear A1140
        by_cases c115 : t343 = true
        ·subst c115
         have H1 : (some ((wrap64 (rd t333 0)), Af, true)) = some (r1, r2, r3) := by rw [if_pos rfl] at H; exact H
         clear H
         have H := H1
         clear H1
         simp only [Option.some.injEq, Prod.mk.injEq] at H
         obtain ⟨rfl, rfl, rfl⟩ := H
         have p342 : 0 ≤ (1 : Int) := (by omega)
         have q342 : 1 < (t333.length : Int) := of_decide_eq_true pS
         obtain ⟨Ba, e342, Al⟩ := Kd.at_int (Kd.R_reads' Ao.out).2.2 1 p342 q342
         obtain rfl : Bg = Ba := (by injection e342)
         (try simp only [show (1 : Int).toNat = 1 from rfl, Nat.reduceMul, Nat.reduceEqDiff, Go.Addr.add, ↓reduceIte] at Al)
         have qi342 : (1 < t333.length) = True := eq_true (by omega)
         (try rw [show ((1 : Int)).toNat = 1 from rfl] at Al)
         replace p342 := eq_true p342
         replace q342 := eq_true q342
         have hnb116 := An.out
         have hnc116 := Ak.out
         have hnb117 := Au.out
         have hnc117 := A1.out
         obtain ⟨_, _⟩ := bc2 Ad.out
         obtain ⟨_, _⟩ := bf2 Ad.out
         have hnb119 := Az.out
         have hnc119 := At.out
         obtain ⟨_, _⟩ := bc2 Ae.out
         obtain ⟨_, _⟩ := bf2 Ae.out
         obtain ⟨Dp, Dq, Dr⟩ := Kd.R_slice Ab.out
         subst Dr
         go_wp2_with (first | (go_at_call 10; (with_reducible refine (garnerref21_May.calls k3 (wrap64 (rd t333 0)) _ _ Af true _ ?Av ?Aw A114.out).mono ?_); (case Av => exact pC (Kd.R_reads' Ab.out).2.2); (case Aw => exact (Kd.R_reads' Ab.out).2.1); rintro e w122 ⟨rfl, hb⟩; replace Ao := bRa Ao hb; replace Aa := bRa Aa hb; replace Ab := bRa Ab hb; replace Ac := kBa Ac hb; replace Ad := kBa Ad hb; replace Ae := kBa Ae hb; replace HB := Am (below_step (pE3 HB.out Ah.out Aj.out Ap.out) hb); (try clear hb); (try clear hb2); (try clear hk); (try clear hi); obtain ⟨_, _⟩ := bc2 Ae.out; obtain ⟨_, _⟩ := bf2 Ae.out; obtain ⟨_, _⟩ := bc2 Ac.out; obtain ⟨_, _⟩ := bf2 Ac.out))
         refine bodyPost_ret (results_ct rfl _ _ As 29 #[.int .i64 (wrap64 (rd t333 0)), .slice Dp Af.length Dq] (0, 0) _ rfl (kX0 Ac.out) Try.underlying29 rfl (by kernel_rfl)) rfl ?_
         exact ⟨_, pX, by (with_reducible repeat (first | apply Kd.R_alloc | apply Kd.R_drewN | apply Kd.R_drew)); exact Kd.R_mono (Rf2 (g := As) (Kd.R_types Ab.out Ac.out (by decide)) (fun _ hk => hk.2)) (fun _ hk => trivial), pE3 HB.out Ah.out Aj.out Ap.out⟩
        replace c115 := Bool.eq_false_iff.mpr c115
        subst c115
        have H1 : (some (0, ([] : List (S46)), false)) = some (r1, r2, r3) := by rw [if_neg (show ¬ (false = true) by decide)] at H; exact H
        clear H
        have H := H1
        clear H1
        simp only [Option.some.injEq, Prod.mk.injEq] at H
        obtain ⟨rfl, rfl, rfl⟩ := H
        have p342 : 0 ≤ (1 : Int) := (by omega)
        have q342 : 1 < (t333.length : Int) := of_decide_eq_true pS
        obtain ⟨Ba, e342, Al⟩ := Kd.at_int (Kd.R_reads' Ao.out).2.2 1 p342 q342
        obtain rfl : Bg = Ba := (by injection e342)
        (try simp only [show (1 : Int).toNat = 1 from rfl, Nat.reduceMul, Nat.reduceEqDiff, Go.Addr.add, ↓reduceIte] at Al)
        have qi342 : (1 < t333.length) = True := eq_true (by omega)
        (try rw [show ((1 : Int)).toNat = 1 from rfl] at Al)
        replace p342 := eq_true p342
        replace q342 := eq_true q342
        have hnb125 := An.out
        have hnc125 := Ak.out
        have hnb126 := Au.out
        have hnc126 := A1.out
        obtain ⟨_, _⟩ := bc2 Ad.out
        obtain ⟨_, _⟩ := bf2 Ad.out
        have hnb128 := Az.out
        have hnc128 := At.out
        obtain ⟨_, _⟩ := bc2 Ae.out
        obtain ⟨_, _⟩ := bf2 Ae.out
        obtain ⟨Ao130, co130, Ds⟩ := Kd.R_slice Ab.out
        subst Ds
        go_wp2_with (first | (go_at_call 10; (with_reducible refine (garnerref21_May.calls k3 (wrap64 (rd t333 0)) _ _ Af false _ ?Av ?Aw A114.out).mono ?_); (case Av => exact pC (Kd.R_reads' Ab.out).2.2); (case Aw => exact (Kd.R_reads' Ab.out).2.1); rintro e w131 ⟨rfl, hb⟩; replace Ao := bRa Ao hb; replace Aa := bRa Aa hb; replace Ab := bRa Ab hb; replace Ac := kBa Ac hb; replace Ad := kBa Ad hb; replace Ae := kBa Ae hb; replace HB := Am (below_step (pE3 HB.out Ah.out Aj.out Ap.out) hb); (try clear hb); (try clear hb2); (try clear hk); (try clear hi); obtain ⟨_, _⟩ := bc2 Ac.out; obtain ⟨_, _⟩ := bf2 Ac.out))
        refine bodyPost_ret (results_ct rfl _ _ As 29 #[.int .i64 0, .slice none 0 0] (0, 0) _ rfl (kX0 Ac.out) Try.underlying29 rfl (by kernel_rfl)) rfl ?_
        exact ⟨_, pX, by first | exact Kd.R_nil _ _ _ _ _ | exact Kd.N_nil _ _ _ _ _ | exact Kd.V_nil _ _ _ _ _ | exact Kd.Q_nil _ _ _ _ _ | exact Kd.S_nil _ _ _ _ _, pE3 HB.out Ah.out Aj.out Ap.out⟩
       rw [if_pos c38] at H
       have c38b0 : decide (A9 < (wrap64 (rd t333 1))) = true := decide_eq_true c38
       clear c38
       by_cases c39 : 0 ≤ Ai
       rotate_left
       ·rw [if_neg c39] at H
        exact absurd H (by simp)
       rw [if_pos c39] at H
       have c39b0 := eq_true c39
       have c39b1 : decide (0 ≤ Ai) = true := decide_eq_true c39
       clear c39
       by_cases c40 : Ai ≤ (t327.length : Int)
       rotate_left
       ·rw [if_neg c40] at H
        exact absurd H (by simp)
       rw [if_pos c40] at H
       have c40b0 := eq_true c40
       have c40b1 : decide (Ai ≤ (t327.length : Int)) = true := decide_eq_true c40
       clear c40
       obtain ⟨y344, hy344⟩ : ∃ y_ : List Int, y_ = (t327.drop (Ai : Int).toNat) := ⟨_, rfl⟩
       replace H : ((garnerref02_Get.f k3 y344).bind fun bt348 => (if 0 ≤ (wrap64 (Ai + bt348.2)) then (if (wrap64 (Ai + bt348.2)) ≤ (t327.length : Int) then ((garnerref04_Get.f k3 (t327.drop ((wrap64 (Ai + bt348.2)) : Int).toNat)).bind fun bt354 => (if bt348.2 = 0 then (some (0, ([] : List (S46)), false)) else (if bt354.2.2.2.2 = 0 then (some (0, ([] : List (S46)), false)) else (if bt348.1 > 2147483647 then (some (0, ([] : List (S46)), false)) else (if Af.length < 3518437208883 then (garnerref21_Get.l0 k3 t333 (wrap64 ((wrap64 (Ai + bt348.2)) + bt354.2.2.2.2)) (wrap64 (A9 + 1)) t326 t327 (wrap64 (rd t333 0)) (Af ++ [(⟨wrap64 (bt348.1), (⟨bt354.1, bt354.2.1, bt354.2.2.1, bt354.2.2.2.1⟩ : S44)⟩ : S46)])) else (none)))))) else (none)) else (none))) = some (r1, r2, r3) := by first | (rw [hy344]; with_reducible exact H) | (have H2_ := (Option.bind_some _ _).symm.trans H; rw [hy344]; with_reducible exact H2_) | (have H2_ := (Option.bind_some _ _).symm.trans H; with_reducible exact H2_) | with_reducible exact H | (rw [hy344]; exact H) | exact H
       have Ny344 := Am hy344
       clear hy344
       replace H := Option.bind_eq_some_iff.mp H
       obtain ⟨⟨t348, t349⟩, A410, H⟩ := H
       replace H : (if 0 ≤ (wrap64 (Ai + t349)) then (if (wrap64 (Ai + t349)) ≤ (t327.length : Int) then ((garnerref04_Get.f k3 (t327.drop ((wrap64 (Ai + t349)) : Int).toNat)).bind fun bt354 => (if t349 = 0 then (some (0, ([] : List (S46)), false)) else (if bt354.2.2.2.2 = 0 then (some (0, ([] : List (S46)), false)) else (if t348 > 2147483647 then (some (0, ([] : List (S46)), false)) else (if Af.length < 3518437208883 then (garnerref21_Get.l0 k3 t333 (wrap64 ((wrap64 (Ai + t349)) + bt354.2.2.2.2)) (wrap64 (A9 + 1)) t326 t327 (wrap64 (rd t333 0)) (Af ++ [(⟨wrap64 (t348), (⟨bt354.1, bt354.2.1, bt354.2.2.1, bt354.2.2.2.1⟩ : S44)⟩ : S46)])) else (none)))))) else (none)) else (none)) = some (r1, r2, r3) := H
       have A41 := Am A410
       clear A410
       obtain ⟨ji42, hji42⟩ : ∃ j_ : Int, (wrap64 (Ai + t349)) = j_ := ⟨_, rfl⟩
       replace H : (if 0 ≤ (ji42) then (if (ji42) ≤ (t327.length : Int) then ((garnerref04_Get.f k3 (t327.drop ((ji42) : Int).toNat)).bind fun bt354 => (if t349 = 0 then (some (0, ([] : List (S46)), false)) else (if bt354.2.2.2.2 = 0 then (some (0, ([] : List (S46)), false)) else (if t348 > 2147483647 then (some (0, ([] : List (S46)), false)) else (if Af.length < 3518437208883 then (garnerref21_Get.l0 k3 t333 (wrap64 ((ji42) + bt354.2.2.2.2)) (wrap64 (A9 + 1)) t326 t327 (wrap64 (rd t333 0)) (Af ++ [(⟨wrap64 (t348), (⟨bt354.1, bt354.2.1, bt354.2.2.1, bt354.2.2.2.1⟩ : S44)⟩ : S46)])) else (none)))))) else (none)) else (none)) = some (r1, r2, r3) := by first | (rw [hji42] at H; exact H) | (simp only [hji42] at H ⊢; exact H)
       (try rw [hji42] at c38b0)
       (try rw [hji42] at A41)
       have hji42w : (IntKind.i64.wrap (Ai + t349)) = ji42 := (i64_w _).trans hji42
       by_cases c43 : 0 ≤ (ji42)
       rotate_left
       ·rw [if_neg c43] at H
        exact absurd H (by simp)
       rw [if_pos c43] at H
       have c43b0 := eq_true c43
       have c43b1 : decide (0 ≤ (ji42)) = true := decide_eq_true c43
       clear c43
       by_cases c44 : (ji42) ≤ (t327.length : Int)
       rotate_left
       ·rw [if_neg c44] at H
        exact absurd H (by simp)
       rw [if_pos c44] at H
       have c44b0 := eq_true c44
       have c44b1 : decide ((ji42) ≤ (t327.length : Int)) = true := decide_eq_true c44
       clear c44
       obtain ⟨y350, hy350⟩ : ∃ y_ : List Int, y_ = (t327.drop ((ji42) : Int).toNat) := ⟨_, rfl⟩
       replace H : ((garnerref04_Get.f k3 y350).bind fun bt354 => (if t349 = 0 then (some (0, ([] : List (S46)), false)) else (if bt354.2.2.2.2 = 0 then (some (0, ([] : List (S46)), false)) else (if t348 > 2147483647 then (some (0, ([] : List (S46)), false)) else (if Af.length < 3518437208883 then (garnerref21_Get.l0 k3 t333 (wrap64 ((ji42) + bt354.2.2.2.2)) (wrap64 (A9 + 1)) t326 t327 (wrap64 (rd t333 0)) (Af ++ [(⟨wrap64 (t348), (⟨bt354.1, bt354.2.1, bt354.2.2.1, bt354.2.2.2.1⟩ : S44)⟩ : S46)])) else (none)))))) = some (r1, r2, r3) := by first | (rw [hy350]; with_reducible exact H) | (have H2_ := (Option.bind_some _ _).symm.trans H; rw [hy350]; with_reducible exact H2_) | (have H2_ := (Option.bind_some _ _).symm.trans H; with_reducible exact H2_) | with_reducible exact H | (rw [hy350]; exact H) | exact H
       have Ny350 := Am hy350
       clear hy350
       replace H := Option.bind_eq_some_iff.mp H
       obtain ⟨⟨t354, t355, t356, t357, t358⟩, A450, H⟩ := H
       replace H : (if t349 = 0 then (some (0, ([] : List (S46)), false)) else (if t358 = 0 then (some (0, ([] : List (S46)), false)) else (if t348 > 2147483647 then (some (0, ([] : List (S46)), false)) else (if Af.length < 3518437208883 then (garnerref21_Get.l0 k3 t333 (wrap64 ((ji42) + t358)) (wrap64 (A9 + 1)) t326 t327 (wrap64 (rd t333 0)) (Af ++ [(⟨wrap64 (t348), (⟨t354, t355, t356, t357⟩ : S44)⟩ : S46)])) else (none))))) = some (r1, r2, r3) := H
       have A45 := Am A450
       clear A450
       by_cases c46 : t349 = 0
       ·rw [if_pos c46] at H
        have c46b0 : (t349 == 0) = true := beq_iff_eq.mpr c46
        have c46b1 : (t349 != 0) = false := bne_eq_false_iff_eq.mpr c46
        clear c46
        simp only [Option.some.injEq, Prod.mk.injEq] at H
        obtain ⟨rfl, rfl, rfl⟩ := H
        have p342 : 0 ≤ (1 : Int) := (by omega)
        have q342 : 1 < (t333.length : Int) := of_decide_eq_true pS
        obtain ⟨Ba, e342, Al⟩ := Kd.at_int (Kd.R_reads' Ao.out).2.2 1 p342 q342
        obtain rfl : Bg = Ba := (by injection e342)
        (try simp only [show (1 : Int).toNat = 1 from rfl, Nat.reduceMul, Nat.reduceEqDiff, Go.Addr.add, ↓reduceIte] at Al)
        have qi342 : (1 < t333.length) = True := eq_true (by omega)
        (try rw [show ((1 : Int)).toNat = 1 from rfl] at Al)
        replace p342 := eq_true p342
        replace q342 := eq_true q342
        have hnb47 := An.out
        have hnc47 := Ak.out
        have hnb48 := Au.out
        have hnc48 := A1.out
        obtain ⟨_, _⟩ := bc2 Ad.out
        obtain ⟨_, _⟩ := bf2 Ad.out
        have q50 : (Ai : Int) ≤ ((t327.length : Int) : Int) := of_decide_eq_true pS
        obtain ⟨i050, hi050, _, Cw, _⟩ := info_parts info5
        have Br : t327.length ≤ A8 := (Kd.R_reads' Aa.out).2.1
        have Dc : Kd.C (Kd.int .u8) _ Bb t327.length t327 := (Kd.R_reads' Aa.out).2.2
        have q050 : (0 : Int) ≤ (Ai : Int) := of_decide_eq_true pS
        have C5 := cut_from (P := Try.prog) 22 5 .i64 Try.underlying22 hi050 1 Cw Bb t327.length A8 Ai q050 q50
        have Ce := Kd.C_drop (m := (Ai : Int).toNat) (c := A8) Dc (by omega) Br
        obtain ⟨A50, hA50⟩ : ∃ AX_, AX_ = (if A8 = (Ai : Int).toNat then Bb else (Bb : Option Addr).map (·.add ((Ai : Int).toNat * 1))) := ⟨_, rfl⟩
        obtain ⟨c50, hc50⟩ : ∃ cX_, cX_ = A8 - (Ai : Int).toNat := ⟨_, rfl⟩
        have hy50 : y344.length = t327.length - (Ai : Int).toNat := (by rw [Ny344.out, List.length_drop] <;> omega)
        rw [show (t327).drop (Ai : Int).toNat = y344 from Ny344.out.symm] at Ce
        replace Ce : Kd.C (Kd.int .u8) _ A50 y344.length y344 := (by rw [hA50]; exact Ce)
        rw [← hy50, ← hA50, ← hc50] at C5
        have HR347 := Am Ce
        have HC347 := Am (show y344.length ≤ c50 from by rw [hy50, hc50]; exact Nat.sub_le_sub_right Br _)
        clear Ce Dc Br hi050 Cw hc50
        have KY50 := Am hy50
        have KA50 := Am hA50
        clear hy50 hA50
        have KL50 := Am (show (Ai : Int).toNat ≤ t327.length from by omega)
        replace q50 := eq_true q50
        go_wp2_with (first | ((with_reducible refine gate_callee (f := 22) rfl ?_); refine goesL_ (some 76) rfl rfl Try.func22 (by kernel_rfl) rfl #[.slice A50 y344.length c50] rfl pL ?_; (with_reducible refine (garnerref02_Get.calls k3 _ _ y344 t348 t349 _ ?Av ?Aw A41.out).mono ?_); (case Av => repeat (first | exact (by repeat (first | (with_reducible exact HR347.out) | (with_reducible refine Kd.C_alloc ?_ _) | (with_reducible refine Kd.C_drewN ?_ _) | (with_reducible refine Kd.C_drew ?_) | exact HR347.out)) | (with_reducible refine Kd.C_alloc ?_ _) | (with_reducible refine Kd.C_drewN ?_ _) | (with_reducible refine Kd.C_drew ?_))); (case Aw => exact HC347.out); rintro e w51 ⟨rfl, hb⟩; refine ⟨_, rfl, ?_⟩; replace Ao := bRa Ao hb; replace Aa := bRa Aa hb; replace Ab := bRa Ab hb; replace Ac := kBa Ac hb; replace Ad := kBa Ad hb; replace Ae := kBa Ae hb; replace HR347 := Am (Kd.C_below (by repeat (first | (with_reducible exact HR347.out) | (with_reducible refine Kd.C_alloc ?_ _) | (with_reducible refine Kd.C_drewN ?_ _) | (with_reducible refine Kd.C_drew ?_) | exact HR347.out)) hb); replace HB := Am (below_step (pE3 HB.out Ah.out Aj.out Ap.out) hb); (try clear hb); (try clear hb2); (try clear hk); (try clear hi); obtain ⟨_, _⟩ := bc2 Ad.out; obtain ⟨_, _⟩ := bf2 Ad.out; have q53 : ((ji42) : Int) ≤ ((t327.length : Int) : Int) := of_decide_eq_true pS; obtain ⟨i053, hi053, _, Cx, _⟩ := info_parts info5; have Bs : t327.length ≤ A8 := (Kd.R_reads' Aa.out).2.1; have Dd : Kd.C (Kd.int .u8) _ Bb t327.length t327 := (Kd.R_reads' Aa.out).2.2; have q053 : (0 : Int) ≤ ((ji42) : Int) := of_decide_eq_true pS; have C6 := cut_from (P := Try.prog) 22 5 .i64 Try.underlying22 hi053 1 Cx Bb t327.length A8 (ji42) q053 q53; have Cf := Kd.C_drop (m := ((ji42) : Int).toNat) (c := A8) Dd (by omega) Bs; obtain ⟨A53, hA53⟩ : ∃ AX_, AX_ = (if A8 = ((ji42) : Int).toNat then Bb else (Bb : Option Addr).map (·.add (((ji42) : Int).toNat * 1))) := ⟨_, rfl⟩; obtain ⟨c53, hc53⟩ : ∃ cX_, cX_ = A8 - ((ji42) : Int).toNat := ⟨_, rfl⟩; have hy53 : y350.length = t327.length - ((ji42) : Int).toNat := (by rw [Ny350.out, List.length_drop] <;> omega); rw [show (t327).drop ((ji42) : Int).toNat = y350 from Ny350.out.symm] at Cf; replace Cf : Kd.C (Kd.int .u8) _ A53 y350.length y350 := (by rw [hA53]; exact Cf); rw [← hy53, ← hA53, ← hc53] at C6; have HR353 := Am Cf; have HC353 := Am (show y350.length ≤ c53 from by rw [hy53, hc53]; exact Nat.sub_le_sub_right Bs _); clear Cf Dd Bs hi053 Cx hc53; have KY53 := Am hy53; have KA53 := Am hA53; clear hy53 hA53; have KL53 := Am (show ((ji42) : Int).toNat ≤ t327.length from by omega); replace q53 := eq_true q53) | ((with_reducible refine gate_callee (f := 23) rfl ?_); refine goesL_ (some 86) rfl rfl Try.func23 (by kernel_rfl) rfl #[.slice A53 y350.length c53] rfl pL ?_; (with_reducible refine (garnerref04_Get.calls k3 _ _ y350 t354 t355 t356 t357 t358 _ ?Av ?Aw A45.out).mono ?_); (case Av => repeat (first | exact (by repeat (first | (with_reducible exact HR353.out) | (with_reducible refine Kd.C_alloc ?_ _) | (with_reducible refine Kd.C_drewN ?_ _) | (with_reducible refine Kd.C_drew ?_) | exact HR353.out)) | (with_reducible refine Kd.C_alloc ?_ _) | (with_reducible refine Kd.C_drewN ?_ _) | (with_reducible refine Kd.C_drew ?_))); (case Aw => exact HC353.out); rintro e w54 ⟨rfl, hb⟩; refine ⟨_, rfl, ?_⟩; replace Ao := bRa Ao hb; replace Aa := bRa Aa hb; replace Ab := bRa Ab hb; replace Ac := kBa Ac hb; replace Ad := kBa Ad hb; replace Ae := kBa Ae hb; replace HR347 := Am (Kd.C_below (by repeat (first | (with_reducible exact HR347.out) | (with_reducible refine Kd.C_alloc ?_ _) | (with_reducible refine Kd.C_drewN ?_ _) | (with_reducible refine Kd.C_drew ?_) | exact HR347.out)) hb); replace HR353 := Am (Kd.C_below (by repeat (first | (with_reducible exact HR353.out) | (with_reducible refine Kd.C_alloc ?_ _) | (with_reducible refine Kd.C_drewN ?_ _) | (with_reducible refine Kd.C_drew ?_) | exact HR353.out)) hb); replace HB := Am (below_step (pE3 HB.out Ah.out Aj.out Ap.out) hb); (try clear hb); (try clear hb2); (try clear hk); (try clear hi)) | ((with_reducible refine gate_dst (N := 14) rfl ?_); (try (refine gate_guard (by rfl) ?_; dsimp only)); refine box_event ?hg (N := 14) ?hd (cs := #[.int .i64 0, .int .i64 0, .int .i64 0, .int .u32 0]) (t := 44) ?hr ?_; (case hd => rfl); (case hg => rfl); (case hr => first | (go_simp; done) | (go_simp; rfl)); intro Ag hg w55 hbox hb; replace Ao := bRa Ao hb; replace Aa := bRa Aa hb; replace Ab := bRa Ab hb; replace HR347 := Am (Kd.C_below (by repeat (first | (with_reducible exact HR347.out) | (with_reducible refine Kd.C_alloc ?_ _) | (with_reducible refine Kd.C_drewN ?_ _) | (with_reducible refine Kd.C_drew ?_) | exact HR347.out)) hb); replace HR353 := Am (Kd.C_below (by repeat (first | (with_reducible exact HR353.out) | (with_reducible refine Kd.C_alloc ?_ _) | (with_reducible refine Kd.C_drewN ?_ _) | (with_reducible refine Kd.C_drew ?_) | exact HR353.out)) hb); have Aq := Am (hbox); have Bi := Am ((by rw [hg]; exact (below_size (pE3 HB.out Ah.out Aj.out Ap.out)) : w.heap.size ≤ Ag)); replace HB := Am (below_step (pE3 HB.out Ah.out Aj.out Ap.out) hb); have Be := Bi; have Ar := Am ((by rw [hg]; exact Nat.ne_of_lt (kL Ac.out) : As ≠ Ag)); have A5 := Am ((by rw [hg]; exact Nat.ne_of_gt (kL Ac.out) : Ag ≠ As)); replace Ac := kBa Ac hb; have A3 := Am ((by rw [hg]; exact Nat.ne_of_lt (kL Ad.out) : Ax ≠ Ag)); have A6 := Am ((by rw [hg]; exact Nat.ne_of_gt (kL Ad.out) : Ag ≠ Ax)); replace Ad := kBa Ad hb; have A4 := Am ((by rw [hg]; exact Nat.ne_of_lt (kL Ae.out) : Ay ≠ Ag)); have A7 := Am ((by rw [hg]; exact Nat.ne_of_gt (kL Ae.out) : Ag ≠ Ay)); replace Ae := kBa Ae hb; clear hb hbox hg; have hnb56 := A5.out; have hnc56 := Ar.out; have hnb57 := A6.out; have hnc57 := A3.out; have hnb58 := A7.out; have hnc58 := A4.out; obtain ⟨_, _, _, _⟩ := bc4 Aq.out; obtain ⟨_, _, _, _⟩ := bf4 Aq.out; have hnb60 := At.out; have hnc60 := Az.out; obtain ⟨_, _⟩ := bc2 Ac.out; obtain ⟨_, _⟩ := bf2 Ac.out))
        refine bodyPost_ret (results_ct rfl _ _ As 29 #[.int .i64 0, .slice none 0 0] (0, 0) _ rfl (kX1 Ac.out Ar.out) Try.underlying29 rfl (by kernel_rfl)) rfl ?_
        exact ⟨_, by first | rfl | (simp [errW_none, errW_some] <;> rfl) | (simp only [← hji42]; first | rfl | (simp [errW_none, errW_some] <;> rfl)) | (simp [*, errW_none, errW_some] <;> rfl), by first | exact Kd.R_nil _ _ _ _ _ | exact Kd.N_nil _ _ _ _ _ | exact Kd.V_nil _ _ _ _ _ | exact Kd.Q_nil _ _ _ _ _ | exact Kd.S_nil _ _ _ _ _, pE4 HB.out Ah.out Aj.out Ap.out Be.out⟩
       rw [if_neg c46] at H
       have c46b0 : (t349 == 0) = false := beq_eq_false_iff_ne.mpr c46
       have c46b1 : (t349 != 0) = true := bne_iff_ne.mpr c46
       by_cases c62 : t358 = 0
       ·rw [if_pos c62] at H
        have c62b0 : (t358 == 0) = true := beq_iff_eq.mpr c62
        have c62b1 : (t358 != 0) = false := bne_eq_false_iff_eq.mpr c62
        clear c62
        simp only [Option.some.injEq, Prod.mk.injEq] at H
        obtain ⟨rfl, rfl, rfl⟩ := H
        have p342 : 0 ≤ (1 : Int) := (by omega)
        have q342 : 1 < (t333.length : Int) := of_decide_eq_true pS
        obtain ⟨Ba, e342, Al⟩ := Kd.at_int (Kd.R_reads' Ao.out).2.2 1 p342 q342
        obtain rfl : Bg = Ba := (by injection e342)
        (try simp only [show (1 : Int).toNat = 1 from rfl, Nat.reduceMul, Nat.reduceEqDiff, Go.Addr.add, ↓reduceIte] at Al)
        have qi342 : (1 < t333.length) = True := eq_true (by omega)
        (try rw [show ((1 : Int)).toNat = 1 from rfl] at Al)
        replace p342 := eq_true p342
        replace q342 := eq_true q342
        have hnb63 := An.out
        have hnc63 := Ak.out
        have hnb64 := Au.out
        have hnc64 := A1.out
        obtain ⟨_, _⟩ := bc2 Ad.out
        obtain ⟨_, _⟩ := bf2 Ad.out
        have q66 : (Ai : Int) ≤ ((t327.length : Int) : Int) := of_decide_eq_true pS
        obtain ⟨i066, hi066, _, Cy, _⟩ := info_parts info5
        have Bt : t327.length ≤ A8 := (Kd.R_reads' Aa.out).2.1
        have De : Kd.C (Kd.int .u8) _ Bb t327.length t327 := (Kd.R_reads' Aa.out).2.2
        have q066 : (0 : Int) ≤ (Ai : Int) := of_decide_eq_true pS
        have C7 := cut_from (P := Try.prog) 22 5 .i64 Try.underlying22 hi066 1 Cy Bb t327.length A8 Ai q066 q66
        have Cg := Kd.C_drop (m := (Ai : Int).toNat) (c := A8) De (by omega) Bt
        obtain ⟨A66, hA66⟩ : ∃ AX_, AX_ = (if A8 = (Ai : Int).toNat then Bb else (Bb : Option Addr).map (·.add ((Ai : Int).toNat * 1))) := ⟨_, rfl⟩
        obtain ⟨c66, hc66⟩ : ∃ cX_, cX_ = A8 - (Ai : Int).toNat := ⟨_, rfl⟩
        have hy66 : y344.length = t327.length - (Ai : Int).toNat := (by rw [Ny344.out, List.length_drop] <;> omega)
        rw [show (t327).drop (Ai : Int).toNat = y344 from Ny344.out.symm] at Cg
        replace Cg : Kd.C (Kd.int .u8) _ A66 y344.length y344 := (by rw [hA66]; exact Cg)
        rw [← hy66, ← hA66, ← hc66] at C7
        have HR347 := Am Cg
        have HC347 := Am (show y344.length ≤ c66 from by rw [hy66, hc66]; exact Nat.sub_le_sub_right Bt _)
        clear Cg De Bt hi066 Cy hc66
        have KY66 := Am hy66
        have KA66 := Am hA66
        clear hy66 hA66
        have KL66 := Am (show (Ai : Int).toNat ≤ t327.length from by omega)
        replace q66 := eq_true q66
        go_wp2_with (first | ((with_reducible refine gate_callee (f := 22) rfl ?_); refine goesL_ (some 76) rfl rfl Try.func22 (by kernel_rfl) rfl #[.slice A66 y344.length c66] rfl pL ?_; (with_reducible refine (garnerref02_Get.calls k3 _ _ y344 t348 t349 _ ?Av ?Aw A41.out).mono ?_); (case Av => repeat (first | exact (by repeat (first | (with_reducible exact HR347.out) | (with_reducible refine Kd.C_alloc ?_ _) | (with_reducible refine Kd.C_drewN ?_ _) | (with_reducible refine Kd.C_drew ?_) | exact HR347.out)) | (with_reducible refine Kd.C_alloc ?_ _) | (with_reducible refine Kd.C_drewN ?_ _) | (with_reducible refine Kd.C_drew ?_))); (case Aw => exact HC347.out); rintro e w67 ⟨rfl, hb⟩; refine ⟨_, rfl, ?_⟩; replace Ao := bRa Ao hb; replace Aa := bRa Aa hb; replace Ab := bRa Ab hb; replace Ac := kBa Ac hb; replace Ad := kBa Ad hb; replace Ae := kBa Ae hb; replace HR347 := Am (Kd.C_below (by repeat (first | (with_reducible exact HR347.out) | (with_reducible refine Kd.C_alloc ?_ _) | (with_reducible refine Kd.C_drewN ?_ _) | (with_reducible refine Kd.C_drew ?_) | exact HR347.out)) hb); replace HB := Am (below_step (pE3 HB.out Ah.out Aj.out Ap.out) hb); (try clear hb); (try clear hb2); (try clear hk); (try clear hi); obtain ⟨_, _⟩ := bc2 Ad.out; obtain ⟨_, _⟩ := bf2 Ad.out; have q69 : ((ji42) : Int) ≤ ((t327.length : Int) : Int) := of_decide_eq_true pS; obtain ⟨i069, hi069, _, Cz, _⟩ := info_parts info5; have Bu : t327.length ≤ A8 := (Kd.R_reads' Aa.out).2.1; have Df : Kd.C (Kd.int .u8) _ Bb t327.length t327 := (Kd.R_reads' Aa.out).2.2; have q069 : (0 : Int) ≤ ((ji42) : Int) := of_decide_eq_true pS; have C8 := cut_from (P := Try.prog) 22 5 .i64 Try.underlying22 hi069 1 Cz Bb t327.length A8 (ji42) q069 q69; have Ch := Kd.C_drop (m := ((ji42) : Int).toNat) (c := A8) Df (by omega) Bu; obtain ⟨A69, hA69⟩ : ∃ AX_, AX_ = (if A8 = ((ji42) : Int).toNat then Bb else (Bb : Option Addr).map (·.add (((ji42) : Int).toNat * 1))) := ⟨_, rfl⟩; obtain ⟨c69, hc69⟩ : ∃ cX_, cX_ = A8 - ((ji42) : Int).toNat := ⟨_, rfl⟩; have hy69 : y350.length = t327.length - ((ji42) : Int).toNat := (by rw [Ny350.out, List.length_drop] <;> omega); rw [show (t327).drop ((ji42) : Int).toNat = y350 from Ny350.out.symm] at Ch; replace Ch : Kd.C (Kd.int .u8) _ A69 y350.length y350 := (by rw [hA69]; exact Ch); rw [← hy69, ← hA69, ← hc69] at C8; have HR353 := Am Ch; have HC353 := Am (show y350.length ≤ c69 from by rw [hy69, hc69]; exact Nat.sub_le_sub_right Bu _); clear Ch Df Bu hi069 Cz hc69; have KY69 := Am hy69; have KA69 := Am hA69; clear hy69 hA69; have KL69 := Am (show ((ji42) : Int).toNat ≤ t327.length from by omega); replace q69 := eq_true q69) | ((with_reducible refine gate_callee (f := 23) rfl ?_); refine goesL_ (some 86) rfl rfl Try.func23 (by kernel_rfl) rfl #[.slice A69 y350.length c69] rfl pL ?_; (with_reducible refine (garnerref04_Get.calls k3 _ _ y350 t354 t355 t356 t357 t358 _ ?Av ?Aw A45.out).mono ?_); (case Av => repeat (first | exact (by repeat (first | (with_reducible exact HR353.out) | (with_reducible refine Kd.C_alloc ?_ _) | (with_reducible refine Kd.C_drewN ?_ _) | (with_reducible refine Kd.C_drew ?_) | exact HR353.out)) | (with_reducible refine Kd.C_alloc ?_ _) | (with_reducible refine Kd.C_drewN ?_ _) | (with_reducible refine Kd.C_drew ?_))); (case Aw => exact HC353.out); rintro e w70 ⟨rfl, hb⟩; refine ⟨_, rfl, ?_⟩; replace Ao := bRa Ao hb; replace Aa := bRa Aa hb; replace Ab := bRa Ab hb; replace Ac := kBa Ac hb; replace Ad := kBa Ad hb; replace Ae := kBa Ae hb; replace HR347 := Am (Kd.C_below (by repeat (first | (with_reducible exact HR347.out) | (with_reducible refine Kd.C_alloc ?_ _) | (with_reducible refine Kd.C_drewN ?_ _) | (with_reducible refine Kd.C_drew ?_) | exact HR347.out)) hb); replace HR353 := Am (Kd.C_below (by repeat (first | (with_reducible exact HR353.out) | (with_reducible refine Kd.C_alloc ?_ _) | (with_reducible refine Kd.C_drewN ?_ _) | (with_reducible refine Kd.C_drew ?_) | exact HR353.out)) hb); replace HB := Am (below_step (pE3 HB.out Ah.out Aj.out Ap.out) hb); (try clear hb); (try clear hb2); (try clear hk); (try clear hi)) | ((with_reducible refine gate_dst (N := 14) rfl ?_); (try (refine gate_guard (by rfl) ?_; dsimp only)); refine box_event ?hg (N := 14) ?hd (cs := #[.int .i64 0, .int .i64 0, .int .i64 0, .int .u32 0]) (t := 44) ?hr ?_; (case hd => rfl); (case hg => rfl); (case hr => first | (go_simp; done) | (go_simp; rfl)); intro Ag hg w71 hbox hb; replace Ao := bRa Ao hb; replace Aa := bRa Aa hb; replace Ab := bRa Ab hb; replace HR347 := Am (Kd.C_below (by repeat (first | (with_reducible exact HR347.out) | (with_reducible refine Kd.C_alloc ?_ _) | (with_reducible refine Kd.C_drewN ?_ _) | (with_reducible refine Kd.C_drew ?_) | exact HR347.out)) hb); replace HR353 := Am (Kd.C_below (by repeat (first | (with_reducible exact HR353.out) | (with_reducible refine Kd.C_alloc ?_ _) | (with_reducible refine Kd.C_drewN ?_ _) | (with_reducible refine Kd.C_drew ?_) | exact HR353.out)) hb); have Aq := Am (hbox); have Bi := Am ((by rw [hg]; exact (below_size (pE3 HB.out Ah.out Aj.out Ap.out)) : w.heap.size ≤ Ag)); replace HB := Am (below_step (pE3 HB.out Ah.out Aj.out Ap.out) hb); have Be := Bi; have Ar := Am ((by rw [hg]; exact Nat.ne_of_lt (kL Ac.out) : As ≠ Ag)); have A5 := Am ((by rw [hg]; exact Nat.ne_of_gt (kL Ac.out) : Ag ≠ As)); replace Ac := kBa Ac hb; have A3 := Am ((by rw [hg]; exact Nat.ne_of_lt (kL Ad.out) : Ax ≠ Ag)); have A6 := Am ((by rw [hg]; exact Nat.ne_of_gt (kL Ad.out) : Ag ≠ Ax)); replace Ad := kBa Ad hb; have A4 := Am ((by rw [hg]; exact Nat.ne_of_lt (kL Ae.out) : Ay ≠ Ag)); have A7 := Am ((by rw [hg]; exact Nat.ne_of_gt (kL Ae.out) : Ag ≠ Ay)); replace Ae := kBa Ae hb; clear hb hbox hg; have hnb72 := A5.out; have hnc72 := Ar.out; have hnb73 := A6.out; have hnc73 := A3.out; have hnb74 := A7.out; have hnc74 := A4.out; obtain ⟨_, _, _, _⟩ := bc4 Aq.out; obtain ⟨_, _, _, _⟩ := bf4 Aq.out; have hnb76 := At.out; have hnc76 := Az.out; obtain ⟨_, _⟩ := bc2 Ac.out; obtain ⟨_, _⟩ := bf2 Ac.out))
        refine bodyPost_ret (results_ct rfl _ _ As 29 #[.int .i64 0, .slice none 0 0] (0, 0) _ rfl (kX1 Ac.out Ar.out) Try.underlying29 rfl (by kernel_rfl)) rfl ?_
        exact ⟨_, by first | rfl | (simp [errW_none, errW_some] <;> rfl) | (simp only [← hji42]; first | rfl | (simp [errW_none, errW_some] <;> rfl)) | (simp [*, errW_none, errW_some] <;> rfl), by first | exact Kd.R_nil _ _ _ _ _ | exact Kd.N_nil _ _ _ _ _ | exact Kd.V_nil _ _ _ _ _ | exact Kd.Q_nil _ _ _ _ _ | exact Kd.S_nil _ _ _ _ _, pE4 HB.out Ah.out Aj.out Ap.out Be.out⟩
       rw [if_neg c62] at H
       have c62b0 : (t358 == 0) = false := beq_eq_false_iff_ne.mpr c62
       have c62b1 : (t358 != 0) = true := bne_iff_ne.mpr c62
       by_cases c78 : t348 > 2147483647
       ·rw [if_pos c78] at H
        have c78b0 : decide (2147483647 < t348) = true := decide_eq_true c78
        clear c78
        simp only [Option.some.injEq, Prod.mk.injEq] at H
        obtain ⟨rfl, rfl, rfl⟩ := H
        have p342 : 0 ≤ (1 : Int) := (by omega)
        have q342 : 1 < (t333.length : Int) := of_decide_eq_true pS
        obtain ⟨Ba, e342, Al⟩ := Kd.at_int (Kd.R_reads' Ao.out).2.2 1 p342 q342
        obtain rfl : Bg = Ba := (by injection e342)
        (try simp only [show (1 : Int).toNat = 1 from rfl, Nat.reduceMul, Nat.reduceEqDiff, Go.Addr.add, ↓reduceIte] at Al)
        have qi342 : (1 < t333.length) = True := eq_true (by omega)
        (try rw [show ((1 : Int)).toNat = 1 from rfl] at Al)
        replace p342 := eq_true p342
        replace q342 := eq_true q342
        have hnb79 := An.out
        have hnc79 := Ak.out
        have hnb80 := Au.out
        have hnc80 := A1.out
        obtain ⟨_, _⟩ := bc2 Ad.out
        obtain ⟨_, _⟩ := bf2 Ad.out
        have q82 : (Ai : Int) ≤ ((t327.length : Int) : Int) := of_decide_eq_true pS
        obtain ⟨i082, hi082, _, C0, _⟩ := info_parts info5
        have Bv : t327.length ≤ A8 := (Kd.R_reads' Aa.out).2.1
        have Dg : Kd.C (Kd.int .u8) _ Bb t327.length t327 := (Kd.R_reads' Aa.out).2.2
        have q082 : (0 : Int) ≤ (Ai : Int) := of_decide_eq_true pS
        have C9 := cut_from (P := Try.prog) 22 5 .i64 Try.underlying22 hi082 1 C0 Bb t327.length A8 Ai q082 q82
        have Ci := Kd.C_drop (m := (Ai : Int).toNat) (c := A8) Dg (by omega) Bv
        obtain ⟨A82, hA82⟩ : ∃ AX_, AX_ = (if A8 = (Ai : Int).toNat then Bb else (Bb : Option Addr).map (·.add ((Ai : Int).toNat * 1))) := ⟨_, rfl⟩
        obtain ⟨c82, hc82⟩ : ∃ cX_, cX_ = A8 - (Ai : Int).toNat := ⟨_, rfl⟩
        have hy82 : y344.length = t327.length - (Ai : Int).toNat := (by rw [Ny344.out, List.length_drop] <;> omega)
        rw [show (t327).drop (Ai : Int).toNat = y344 from Ny344.out.symm] at Ci
        replace Ci : Kd.C (Kd.int .u8) _ A82 y344.length y344 := (by rw [hA82]; exact Ci)
        rw [← hy82, ← hA82, ← hc82] at C9
        have HR347 := Am Ci
        have HC347 := Am (show y344.length ≤ c82 from by rw [hy82, hc82]; exact Nat.sub_le_sub_right Bv _)
        clear Ci Dg Bv hi082 C0 hc82
        have KY82 := Am hy82
        have KA82 := Am hA82
        clear hy82 hA82
        have KL82 := Am (show (Ai : Int).toNat ≤ t327.length from by omega)
        replace q82 := eq_true q82
        go_wp2_with (first | ((with_reducible refine gate_callee (f := 22) rfl ?_); refine goesL_ (some 76) rfl rfl Try.func22 (by kernel_rfl) rfl #[.slice A82 y344.length c82] rfl pL ?_; (with_reducible refine (garnerref02_Get.calls k3 _ _ y344 t348 t349 _ ?Av ?Aw A41.out).mono ?_); (case Av => repeat (first | exact (by repeat (first | (with_reducible exact HR347.out) | (with_reducible refine Kd.C_alloc ?_ _) | (with_reducible refine Kd.C_drewN ?_ _) | (with_reducible refine Kd.C_drew ?_) | exact HR347.out)) | (with_reducible refine Kd.C_alloc ?_ _) | (with_reducible refine Kd.C_drewN ?_ _) | (with_reducible refine Kd.C_drew ?_))); (case Aw => exact HC347.out); rintro e w83 ⟨rfl, hb⟩; refine ⟨_, rfl, ?_⟩; replace Ao := bRa Ao hb; replace Aa := bRa Aa hb; replace Ab := bRa Ab hb; replace Ac := kBa Ac hb; replace Ad := kBa Ad hb; replace Ae := kBa Ae hb; replace HR347 := Am (Kd.C_below (by repeat (first | (with_reducible exact HR347.out) | (with_reducible refine Kd.C_alloc ?_ _) | (with_reducible refine Kd.C_drewN ?_ _) | (with_reducible refine Kd.C_drew ?_) | exact HR347.out)) hb); replace HB := Am (below_step (pE3 HB.out Ah.out Aj.out Ap.out) hb); (try clear hb); (try clear hb2); (try clear hk); (try clear hi); obtain ⟨_, _⟩ := bc2 Ad.out; obtain ⟨_, _⟩ := bf2 Ad.out; have q85 : ((ji42) : Int) ≤ ((t327.length : Int) : Int) := of_decide_eq_true pS; obtain ⟨i085, hi085, _, C1, _⟩ := info_parts info5; have Bw : t327.length ≤ A8 := (Kd.R_reads' Aa.out).2.1; have Dh : Kd.C (Kd.int .u8) _ Bb t327.length t327 := (Kd.R_reads' Aa.out).2.2; have q085 : (0 : Int) ≤ ((ji42) : Int) := of_decide_eq_true pS; have Da := cut_from (P := Try.prog) 22 5 .i64 Try.underlying22 hi085 1 C1 Bb t327.length A8 (ji42) q085 q85; have Cj := Kd.C_drop (m := ((ji42) : Int).toNat) (c := A8) Dh (by omega) Bw; obtain ⟨A85, hA85⟩ : ∃ AX_, AX_ = (if A8 = ((ji42) : Int).toNat then Bb else (Bb : Option Addr).map (·.add (((ji42) : Int).toNat * 1))) := ⟨_, rfl⟩; obtain ⟨c85, hc85⟩ : ∃ cX_, cX_ = A8 - ((ji42) : Int).toNat := ⟨_, rfl⟩; have hy85 : y350.length = t327.length - ((ji42) : Int).toNat := (by rw [Ny350.out, List.length_drop] <;> omega); rw [show (t327).drop ((ji42) : Int).toNat = y350 from Ny350.out.symm] at Cj; replace Cj : Kd.C (Kd.int .u8) _ A85 y350.length y350 := (by rw [hA85]; exact Cj); rw [← hy85, ← hA85, ← hc85] at Da; have HR353 := Am Cj; have HC353 := Am (show y350.length ≤ c85 from by rw [hy85, hc85]; exact Nat.sub_le_sub_right Bw _); clear Cj Dh Bw hi085 C1 hc85; have KY85 := Am hy85; have KA85 := Am hA85; clear hy85 hA85; have KL85 := Am (show ((ji42) : Int).toNat ≤ t327.length from by omega); replace q85 := eq_true q85) | ((with_reducible refine gate_callee (f := 23) rfl ?_); refine goesL_ (some 86) rfl rfl Try.func23 (by kernel_rfl) rfl #[.slice A85 y350.length c85] rfl pL ?_; (with_reducible refine (garnerref04_Get.calls k3 _ _ y350 t354 t355 t356 t357 t358 _ ?Av ?Aw A45.out).mono ?_); (case Av => repeat (first | exact (by repeat (first | (with_reducible exact HR353.out) | (with_reducible refine Kd.C_alloc ?_ _) | (with_reducible refine Kd.C_drewN ?_ _) | (with_reducible refine Kd.C_drew ?_) | exact HR353.out)) | (with_reducible refine Kd.C_alloc ?_ _) | (with_reducible refine Kd.C_drewN ?_ _) | (with_reducible refine Kd.C_drew ?_))); (case Aw => exact HC353.out); rintro e w86 ⟨rfl, hb⟩; refine ⟨_, rfl, ?_⟩; replace Ao := bRa Ao hb; replace Aa := bRa Aa hb; replace Ab := bRa Ab hb; replace Ac := kBa Ac hb; replace Ad := kBa Ad hb; replace Ae := kBa Ae hb; replace HR347 := Am (Kd.C_below (by repeat (first | (with_reducible exact HR347.out) | (with_reducible refine Kd.C_alloc ?_ _) | (with_reducible refine Kd.C_drewN ?_ _) | (with_reducible refine Kd.C_drew ?_) | exact HR347.out)) hb); replace HR353 := Am (Kd.C_below (by repeat (first | (with_reducible exact HR353.out) | (with_reducible refine Kd.C_alloc ?_ _) | (with_reducible refine Kd.C_drewN ?_ _) | (with_reducible refine Kd.C_drew ?_) | exact HR353.out)) hb); replace HB := Am (below_step (pE3 HB.out Ah.out Aj.out Ap.out) hb); (try clear hb); (try clear hb2); (try clear hk); (try clear hi)) | ((with_reducible refine gate_dst (N := 14) rfl ?_); (try (refine gate_guard (by rfl) ?_; dsimp only)); refine box_event ?hg (N := 14) ?hd (cs := #[.int .i64 0, .int .i64 0, .int .i64 0, .int .u32 0]) (t := 44) ?hr ?_; (case hd => rfl); (case hg => rfl); (case hr => first | (go_simp; done) | (go_simp; rfl)); intro Ag hg w87 hbox hb; replace Ao := bRa Ao hb; replace Aa := bRa Aa hb; replace Ab := bRa Ab hb; replace HR347 := Am (Kd.C_below (by repeat (first | (with_reducible exact HR347.out) | (with_reducible refine Kd.C_alloc ?_ _) | (with_reducible refine Kd.C_drewN ?_ _) | (with_reducible refine Kd.C_drew ?_) | exact HR347.out)) hb); replace HR353 := Am (Kd.C_below (by repeat (first | (with_reducible exact HR353.out) | (with_reducible refine Kd.C_alloc ?_ _) | (with_reducible refine Kd.C_drewN ?_ _) | (with_reducible refine Kd.C_drew ?_) | exact HR353.out)) hb); have Aq := Am (hbox); have Bi := Am ((by rw [hg]; exact (below_size (pE3 HB.out Ah.out Aj.out Ap.out)) : w.heap.size ≤ Ag)); replace HB := Am (below_step (pE3 HB.out Ah.out Aj.out Ap.out) hb); have Be := Bi; have Ar := Am ((by rw [hg]; exact Nat.ne_of_lt (kL Ac.out) : As ≠ Ag)); have A5 := Am ((by rw [hg]; exact Nat.ne_of_gt (kL Ac.out) : Ag ≠ As)); replace Ac := kBa Ac hb; have A3 := Am ((by rw [hg]; exact Nat.ne_of_lt (kL Ad.out) : Ax ≠ Ag)); have A6 := Am ((by rw [hg]; exact Nat.ne_of_gt (kL Ad.out) : Ag ≠ Ax)); replace Ad := kBa Ad hb; have A4 := Am ((by rw [hg]; exact Nat.ne_of_lt (kL Ae.out) : Ay ≠ Ag)); have A7 := Am ((by rw [hg]; exact Nat.ne_of_gt (kL Ae.out) : Ag ≠ Ay)); replace Ae := kBa Ae hb; clear hb hbox hg; have hnb88 := A5.out; have hnc88 := Ar.out; have hnb89 := A6.out; have hnc89 := A3.out; have hnb90 := A7.out; have hnc90 := A4.out; obtain ⟨_, _, _, _⟩ := bc4 Aq.out; obtain ⟨_, _, _, _⟩ := bf4 Aq.out; have hnb92 := At.out; have hnc92 := Az.out; obtain ⟨_, _⟩ := bc2 Ac.out; obtain ⟨_, _⟩ := bf2 Ac.out))
        refine bodyPost_ret (results_ct rfl _ _ As 29 #[.int .i64 0, .slice none 0 0] (0, 0) _ rfl (kX1 Ac.out Ar.out) Try.underlying29 rfl (by kernel_rfl)) rfl ?_
        exact ⟨_, by first | rfl | (simp [errW_none, errW_some] <;> rfl) | (simp only [← hji42]; first | rfl | (simp [errW_none, errW_some] <;> rfl)) | (simp [*, errW_none, errW_some] <;> rfl), by first | exact Kd.R_nil _ _ _ _ _ | exact Kd.N_nil _ _ _ _ _ | exact Kd.V_nil _ _ _ _ _ | exact Kd.Q_nil _ _ _ _ _ | exact Kd.S_nil _ _ _ _ _, pE4 HB.out Ah.out Aj.out Ap.out Be.out⟩
       rw [if_neg c78] at H
       have c78b0 : decide (2147483647 < t348) = false := decide_eq_false c78
       clear c78
       by_cases c94 : Af.length < 3518437208883
       rotate_left
       ·rw [if_neg c94] at H
        exact absurd H (by simp)
       rw [if_pos c94] at H
       have LMc94 := Am c94
       clear c94
       obtain ⟨y360, hy360⟩ : ∃ y_ : List (S46), y_ = (Af ++ [(⟨wrap64 (t348), (⟨t354, t355, t356, t357⟩ : S44)⟩ : S46)]) := ⟨_, rfl⟩
       replace H : (garnerref21_Get.l0 k3 t333 (wrap64 ((ji42) + t358)) (wrap64 (A9 + 1)) t326 t327 (wrap64 (rd t333 0)) y360) = some (r1, r2, r3) := by first | (rw [hy360]; with_reducible exact H) | (have H2_ := (Option.bind_some _ _).symm.trans H; rw [hy360]; with_reducible exact H2_) | (have H2_ := (Option.bind_some _ _).symm.trans H; with_reducible exact H2_) | with_reducible exact H | (rw [hy360]; exact H) | exact H
       have Ny360 := Am hy360
       clear hy360
       have H' := Am H
       clear H
       have p342 : 0 ≤ (1 : Int) := (by omega)
       have q342 : 1 < (t333.length : Int) := of_decide_eq_true pS
       obtain ⟨Ba, e342, Al⟩ := Kd.at_int (Kd.R_reads' Ao.out).2.2 1 p342 q342
       obtain rfl : Bg = Ba := (by injection e342)
       (try simp only [show (1 : Int).toNat = 1 from rfl, Nat.reduceMul, Nat.reduceEqDiff, Go.Addr.add, ↓reduceIte] at Al)
       have qi342 : (1 < t333.length) = True := eq_true (by omega)
       (try rw [show ((1 : Int)).toNat = 1 from rfl] at Al)
       replace p342 := eq_true p342
       replace q342 := eq_true q342
       have hnb95 := An.out
       have hnc95 := Ak.out
       have hnb96 := Au.out
       have hnc96 := A1.out
       obtain ⟨_, _⟩ := bc2 Ad.out
       obtain ⟨_, _⟩ := bf2 Ad.out
       have q98 : (Ai : Int) ≤ ((t327.length : Int) : Int) := of_decide_eq_true pS
       obtain ⟨i098, hi098, _, C2, _⟩ := info_parts info5
       have Bx : t327.length ≤ A8 := (Kd.R_reads' Aa.out).2.1
       have Di : Kd.C (Kd.int .u8) _ Bb t327.length t327 := (Kd.R_reads' Aa.out).2.2
       have q098 : (0 : Int) ≤ (Ai : Int) := of_decide_eq_true pS
       have Db := cut_from (P := Try.prog) 22 5 .i64 Try.underlying22 hi098 1 C2 Bb t327.length A8 Ai q098 q98
       have Ck := Kd.C_drop (m := (Ai : Int).toNat) (c := A8) Di (by omega) Bx
       obtain ⟨A98, hA98⟩ : ∃ AX_, AX_ = (if A8 = (Ai : Int).toNat then Bb else (Bb : Option Addr).map (·.add ((Ai : Int).toNat * 1))) := ⟨_, rfl⟩
       obtain ⟨c98, hc98⟩ : ∃ cX_, cX_ = A8 - (Ai : Int).toNat := ⟨_, rfl⟩
       have hy98 : y344.length = t327.length - (Ai : Int).toNat := (by rw [Ny344.out, List.length_drop] <;> omega)
       rw [show (t327).drop (Ai : Int).toNat = y344 from Ny344.out.symm] at Ck
       replace Ck : Kd.C (Kd.int .u8) _ A98 y344.length y344 := (by rw [hA98]; exact Ck)
       rw [← hy98, ← hA98, ← hc98] at Db
       have HR347 := Am Ck
       have HC347 := Am (show y344.length ≤ c98 from by rw [hy98, hc98]; exact Nat.sub_le_sub_right Bx _)
       clear Ck Di Bx hi098 C2 hc98
       have KY98 := Am hy98
       have Dx := Am hA98
       clear hy98 hA98
       have KL98 := Am (show (Ai : Int).toNat ≤ t327.length from by omega)
       replace q98 := eq_true q98
       go_wp2_with (first | ((with_reducible refine gate_callee (f := 22) rfl ?_); refine goesL_ (some 76) rfl rfl Try.func22 (by kernel_rfl) rfl #[.slice A98 y344.length c98] rfl pL ?_; (with_reducible refine (garnerref02_Get.calls k3 _ _ y344 t348 t349 _ ?Av ?Aw A41.out).mono ?_); (case Av => repeat (first | exact (by repeat (first | (with_reducible exact HR347.out) | (with_reducible refine Kd.C_alloc ?_ _) | (with_reducible refine Kd.C_drewN ?_ _) | (with_reducible refine Kd.C_drew ?_) | exact HR347.out)) | (with_reducible refine Kd.C_alloc ?_ _) | (with_reducible refine Kd.C_drewN ?_ _) | (with_reducible refine Kd.C_drew ?_))); (case Aw => exact HC347.out); rintro e w99 ⟨rfl, hb⟩; refine ⟨_, rfl, ?_⟩; replace Ao := bRa Ao hb; replace Aa := bRa Aa hb; replace Ab := bRa Ab hb; replace Ac := kBa Ac hb; replace Ad := kBa Ad hb; replace Ae := kBa Ae hb; replace HR347 := Am (Kd.C_below (by repeat (first | (with_reducible exact HR347.out) | (with_reducible refine Kd.C_alloc ?_ _) | (with_reducible refine Kd.C_drewN ?_ _) | (with_reducible refine Kd.C_drew ?_) | exact HR347.out)) hb); replace HB := Am (below_step (pE3 HB.out Ah.out Aj.out Ap.out) hb); (try clear hb); (try clear hb2); (try clear hk); (try clear hi); obtain ⟨_, _⟩ := bc2 Ad.out; obtain ⟨_, _⟩ := bf2 Ad.out; have q101 : ((ji42) : Int) ≤ ((t327.length : Int) : Int) := of_decide_eq_true pS; obtain ⟨i0101, hi0101, _, Cl, _⟩ := info_parts info5; have Bj : t327.length ≤ A8 := (Kd.R_reads' Aa.out).2.1; have C3 : Kd.C (Kd.int .u8) _ Bb t327.length t327 := (Kd.R_reads' Aa.out).2.2; have q0101 : (0 : Int) ≤ ((ji42) : Int) := of_decide_eq_true pS; have Cu := cut_from (P := Try.prog) 22 5 .i64 Try.underlying22 hi0101 1 Cl Bb t327.length A8 (ji42) q0101 q101; have By := Kd.C_drop (m := ((ji42) : Int).toNat) (c := A8) C3 (by omega) Bj; obtain ⟨A101, hA101⟩ : ∃ AX_, AX_ = (if A8 = ((ji42) : Int).toNat then Bb else (Bb : Option Addr).map (·.add (((ji42) : Int).toNat * 1))) := ⟨_, rfl⟩; obtain ⟨c101, hc101⟩ : ∃ cX_, cX_ = A8 - ((ji42) : Int).toNat := ⟨_, rfl⟩; have hy101 : y350.length = t327.length - ((ji42) : Int).toNat := (by rw [Ny350.out, List.length_drop] <;> omega); rw [show (t327).drop ((ji42) : Int).toNat = y350 from Ny350.out.symm] at By; replace By : Kd.C (Kd.int .u8) _ A101 y350.length y350 := (by rw [hA101]; exact By); rw [← hy101, ← hA101, ← hc101] at Cu; have HR353 := Am By; have HC353 := Am (show y350.length ≤ c101 from by rw [hy101, hc101]; exact Nat.sub_le_sub_right Bj _); clear By C3 Bj hi0101 Cl hc101; have KY101 := Am hy101; have Dn := Am hA101; clear hy101 hA101; have KL101 := Am (show ((ji42) : Int).toNat ≤ t327.length from by omega); replace q101 := eq_true q101) | ((with_reducible refine gate_callee (f := 23) rfl ?_); refine goesL_ (some 86) rfl rfl Try.func23 (by kernel_rfl) rfl #[.slice A101 y350.length c101] rfl pL ?_; (with_reducible refine (garnerref04_Get.calls k3 _ _ y350 t354 t355 t356 t357 t358 _ ?Av ?Aw A45.out).mono ?_); (case Av => repeat (first | exact (by repeat (first | (with_reducible exact HR353.out) | (with_reducible refine Kd.C_alloc ?_ _) | (with_reducible refine Kd.C_drewN ?_ _) | (with_reducible refine Kd.C_drew ?_) | exact HR353.out)) | (with_reducible refine Kd.C_alloc ?_ _) | (with_reducible refine Kd.C_drewN ?_ _) | (with_reducible refine Kd.C_drew ?_))); (case Aw => exact HC353.out); rintro e w102 ⟨rfl, hb⟩; refine ⟨_, rfl, ?_⟩; replace Ao := bRa Ao hb; replace Aa := bRa Aa hb; replace Ab := bRa Ab hb; replace Ac := kBa Ac hb; replace Ad := kBa Ad hb; replace Ae := kBa Ae hb; replace HR347 := Am (Kd.C_below (by repeat (first | (with_reducible exact HR347.out) | (with_reducible refine Kd.C_alloc ?_ _) | (with_reducible refine Kd.C_drewN ?_ _) | (with_reducible refine Kd.C_drew ?_) | exact HR347.out)) hb); replace HR353 := Am (Kd.C_below (by repeat (first | (with_reducible exact HR353.out) | (with_reducible refine Kd.C_alloc ?_ _) | (with_reducible refine Kd.C_drewN ?_ _) | (with_reducible refine Kd.C_drew ?_) | exact HR353.out)) hb); replace HB := Am (below_step (pE3 HB.out Ah.out Aj.out Ap.out) hb); (try clear hb); (try clear hb2); (try clear hk); (try clear hi)) | ((with_reducible refine gate_dst (N := 14) rfl ?_); (try (refine gate_guard (by rfl) ?_; dsimp only)); refine box_event ?hg (N := 14) ?hd (cs := #[.int .i64 0, .int .i64 0, .int .i64 0, .int .u32 0]) (t := 44) ?hr ?_; (case hd => rfl); (case hg => rfl); (case hr => first | (go_simp; done) | (go_simp; rfl)); intro Ag hg w103 hbox hb; replace Ao := bRa Ao hb; replace Aa := bRa Aa hb; replace Ab := bRa Ab hb; replace HR347 := Am (Kd.C_below (by repeat (first | (with_reducible exact HR347.out) | (with_reducible refine Kd.C_alloc ?_ _) | (with_reducible refine Kd.C_drewN ?_ _) | (with_reducible refine Kd.C_drew ?_) | exact HR347.out)) hb); replace HR353 := Am (Kd.C_below (by repeat (first | (with_reducible exact HR353.out) | (with_reducible refine Kd.C_alloc ?_ _) | (with_reducible refine Kd.C_drewN ?_ _) | (with_reducible refine Kd.C_drew ?_) | exact HR353.out)) hb); have Aq := Am (hbox); have Bi := Am ((by rw [hg]; exact (below_size (pE3 HB.out Ah.out Aj.out Ap.out)) : w.heap.size ≤ Ag)); replace HB := Am (below_step (pE3 HB.out Ah.out Aj.out Ap.out) hb); have Be := Bi; have Ar := Am ((by rw [hg]; exact Nat.ne_of_lt (kL Ac.out) : As ≠ Ag)); have A5 := Am ((by rw [hg]; exact Nat.ne_of_gt (kL Ac.out) : Ag ≠ As)); replace Ac := kBa Ac hb; have A3 := Am ((by rw [hg]; exact Nat.ne_of_lt (kL Ad.out) : Ax ≠ Ag)); have A6 := Am ((by rw [hg]; exact Nat.ne_of_gt (kL Ad.out) : Ag ≠ Ax)); replace Ad := kBa Ad hb; have A4 := Am ((by rw [hg]; exact Nat.ne_of_lt (kL Ae.out) : Ay ≠ Ag)); have A7 := Am ((by rw [hg]; exact Nat.ne_of_gt (kL Ae.out) : Ag ≠ Ay)); replace Ae := kBa Ae hb; clear hb hbox hg; have hnb104 := A5.out; have hnc104 := Ar.out; have hnb105 := A6.out; have hnc105 := A3.out; have hnb106 := A7.out; have hnc106 := A4.out; obtain ⟨_, _, _, _⟩ := bc4 Aq.out; obtain ⟨_, _, _, _⟩ := bf4 Aq.out; have hnb108 := Az.out; have hnc108 := At.out; obtain ⟨_, _⟩ := bc2 Ae.out; obtain ⟨_, _⟩ := bf2 Ae.out) | ((with_reducible refine gate_builtin (b := .append) (xs := #[.tmp 101, .tmp 106]) rfl ?_); (try (refine gate_guard (by rfl) ?_; dsimp only)); at_builtin; refine Kd.R_append k46 (w0 := w) w.heap.size rfl (.tmp 101) (.tmp 106) 24 46 (.agg #[(.int .i64 0), (.int .i64 0), (.int .i64 0), (.int .i64 0), (.int .u32 0)]) 40 rfl Try.underlying24 info46 rfl (by decide) (by omega) u342001 Af (⟨wrap64 (t348), (⟨t354, t355, t356, t357⟩ : S44)⟩ : S46) [.int .i64 (wrap64 (t348)), .int .i64 t354, .int .i64 t355, .int .i64 t356, .int .u32 t357] (fun _ => True) (fun _ => False) rfl (by first | (go_simp; done) | (go_simp; rfl)) ?aP (fun _ hk => hk.elim) ?aF ?aO ?aB ?aS ?aL ?_; (case aP => exact k46_mkM _ _ _ (⟨wrap64 (t348), (⟨t354, t355, t356, t357⟩ : S44)⟩ : S46)); (case aB => exact (pE4 HB.out Ah.out Aj.out Ap.out Be.out)); (case aF => exact (fun _ _ => trivial)); (case aO => exact (by (with_reducible repeat (first | apply Kd.R_alloc | apply Kd.R_drewN | apply Kd.R_drew)); exact Kd.R_mono (Rf4 (g := Ag) (Kd.R_types Ab.out Aq.out (by decide)) (fun _ hk => hk.2)) (fun _ hk => trivial))); (case aS => exact (below_size (pE4 HB.out Ah.out Aj.out Ap.out Be.out))); (case aL => have := LMc94.out; omega); intro v361 w110 ho hb hg hat; rw [← Ny360.out] at ho; replace Ao := Am (Kd.R_over' (by (with_reducible repeat (first | apply Kd.R_alloc | apply Kd.R_drewN | apply Kd.R_drew)); exact (Kd.R_mono (Rf4 (g := Ag) (Kd.R_types Ao.out Aq.out (by decide)) (fun _ hk => hk.2)) (fun _ h_ => h_.1))) (Kd.R_typed (by (with_reducible repeat (first | apply Kd.R_alloc | apply Kd.R_drewN | apply Kd.R_drew)); exact (Kd.R_mono (Rf4 (g := Ag) (Kd.R_types Ab.out Aq.out (by decide)) (fun _ hk => hk.2)) (fun _ h_ => h_.1)))) (by decide) hg); replace Ac := Am (blk_grown (g := As) (o := .cells #[.int .i64 Bd, .slice none 0 0] 29 (0, 0)) (kX1 Ac.out Ar.out) hg (Kd.R_ne Ab.out Ac.out (by decide))); replace Ad := Am (blk_grown (g := Ax) (o := .cells #[.int .i64 t326, .slice Bb t327.length A8] 50 (0, 0)) (kX1 Ad.out A3.out) hg (Kd.R_ne Ab.out Ad.out (by decide))); replace Ae := Am (blk_grown (g := Ay) (o := .cells #[.int .i64 (wrap64 (rd t333 0)), u342001] 29 (0, 0)) (kX1 Ae.out A4.out) hg (Kd.R_ne Ab.out Ae.out (by decide))); replace HB := Am (hb); replace HR347 := Am ((show Kd.C (Kd.int .u8) w110 A98 y344.length y344 from by rw [Ny344.out, Dx.out]; exact Kd.C_drop (m := (Ai : Int).toNat) (c := A8) ((Kd.R_reads' (Kd.R_over' (by (with_reducible repeat (first | apply Kd.R_alloc | apply Kd.R_drewN | apply Kd.R_drew)); exact (Kd.R_mono (Rf4 (g := Ag) (Kd.R_types Aa.out Aq.out (by decide)) (fun _ hk => hk.2)) (fun _ h_ => h_.1))) (Kd.R_typed (by (with_reducible repeat (first | apply Kd.R_alloc | apply Kd.R_drewN | apply Kd.R_drew)); exact (Kd.R_mono (Rf4 (g := Ag) (Kd.R_types Ab.out Aq.out (by decide)) (fun _ hk => hk.2)) (fun _ h_ => h_.1)))) (by decide) hg)).2.2) KL98.out ((Kd.R_reads' (Kd.R_over' (by (with_reducible repeat (first | apply Kd.R_alloc | apply Kd.R_drewN | apply Kd.R_drew)); exact (Kd.R_mono (Rf4 (g := Ag) (Kd.R_types Aa.out Aq.out (by decide)) (fun _ hk => hk.2)) (fun _ h_ => h_.1))) (Kd.R_typed (by (with_reducible repeat (first | apply Kd.R_alloc | apply Kd.R_drewN | apply Kd.R_drew)); exact (Kd.R_mono (Rf4 (g := Ag) (Kd.R_types Ab.out Aq.out (by decide)) (fun _ hk => hk.2)) (fun _ h_ => h_.1)))) (by decide) hg)).2.1))); replace HR353 := Am ((show Kd.C (Kd.int .u8) w110 A101 y350.length y350 from by rw [Ny350.out, Dn.out]; exact Kd.C_drop (m := ((ji42) : Int).toNat) (c := A8) ((Kd.R_reads' (Kd.R_over' (by (with_reducible repeat (first | apply Kd.R_alloc | apply Kd.R_drewN | apply Kd.R_drew)); exact (Kd.R_mono (Rf4 (g := Ag) (Kd.R_types Aa.out Aq.out (by decide)) (fun _ hk => hk.2)) (fun _ h_ => h_.1))) (Kd.R_typed (by (with_reducible repeat (first | apply Kd.R_alloc | apply Kd.R_drewN | apply Kd.R_drew)); exact (Kd.R_mono (Rf4 (g := Ag) (Kd.R_types Ab.out Aq.out (by decide)) (fun _ hk => hk.2)) (fun _ h_ => h_.1)))) (by decide) hg)).2.2) KL101.out ((Kd.R_reads' (Kd.R_over' (by (with_reducible repeat (first | apply Kd.R_alloc | apply Kd.R_drewN | apply Kd.R_drew)); exact (Kd.R_mono (Rf4 (g := Ag) (Kd.R_types Aa.out Aq.out (by decide)) (fun _ hk => hk.2)) (fun _ h_ => h_.1))) (Kd.R_typed (by (with_reducible repeat (first | apply Kd.R_alloc | apply Kd.R_drewN | apply Kd.R_drew)); exact (Kd.R_mono (Rf4 (g := Ag) (Kd.R_types Ab.out Aq.out (by decide)) (fun _ hk => hk.2)) (fun _ h_ => h_.1)))) (by decide) hg)).2.1))); replace Aa := Am (Kd.R_over' (by (with_reducible repeat (first | apply Kd.R_alloc | apply Kd.R_drewN | apply Kd.R_drew)); exact (Kd.R_mono (Rf4 (g := Ag) (Kd.R_types Aa.out Aq.out (by decide)) (fun _ hk => hk.2)) (fun _ h_ => h_.1))) (Kd.R_typed (by (with_reducible repeat (first | apply Kd.R_alloc | apply Kd.R_drewN | apply Kd.R_drew)); exact (Kd.R_mono (Rf4 (g := Ag) (Kd.R_types Ab.out Aq.out (by decide)) (fun _ hk => hk.2)) (fun _ h_ => h_.1)))) (by decide) hg); replace Aq := Am (blk_grown (g := Ag) (o := .cells #[.int .i64 t354, .int .i64 t355, .int .i64 t356, .int .u32 t357] 44 (0, 0)) (kX0 Aq.out) hg (Kd.R_ne Ab.out Aq.out (by decide))); have C4 := Am (ho); clear Ab ho hb hg hat; obtain ⟨B4, B5, Do⟩ := Kd.R_slice C4.out; subst Do; obtain ⟨_, _⟩ := bc2 Ae.out; obtain ⟨_, _⟩ := bf2 Ae.out))
       go_roundg k3
       case measure => have := HJ2.out; have := HJ17.out; have := HK3.out; omega
       case rel => exact ⟨(wrap64 ((ji42) + t358)), (wrap64 (A9 + 1)), (Bd), (y360), (.slice B4 y360.length B5), (by first | rfl | (simp; done) | (simp only [← hji42] <;> (first | rfl | simp)) | (simp [*]; done)), (by first | rfl | (simp; done) | (simp [*]; done)), H', ⟨by have := HJ2.out; have := HJ17.out; have := HK3.out; omega⟩, ⟨by (with_reducible repeat (first | apply Kd.R_alloc | apply Kd.R_drewN | apply Kd.R_drew)); exact Kd.R_mono (Kd.R_far (p := ⟨Ay, 1, none⟩) (Kd.R_types Ao.out Ae.out (by decide)) (fun _ hk => hk.2) (.slice B4 y360.length B5)) (fun _ hk => trivial)⟩, ⟨by (with_reducible repeat (first | apply Kd.R_alloc | apply Kd.R_drewN | apply Kd.R_drew)); exact Kd.R_mono (Kd.R_far (p := ⟨Ay, 1, none⟩) (Kd.R_types Aa.out Ae.out (by decide)) (fun _ hk => hk.2) (.slice B4 y360.length B5)) (fun _ hk => trivial)⟩, ⟨by (with_reducible repeat (first | apply Kd.R_alloc | apply Kd.R_drewN | apply Kd.R_drew)); exact Kd.R_mono (Kd.R_far (p := ⟨Ay, 1, none⟩) (Kd.R_types C4.out Ae.out (by decide)) (fun _ hk => hk.2) (.slice B4 y360.length B5)) (fun _ hk => trivial)⟩, ⟨kX1 Ac.out At.out⟩, ⟨kX1 Ad.out Au.out⟩, ⟨by (with_reducible repeat (first | refine blk_drewN ?_ _ | refine blk_drew ?_ | refine blk_alloc ?_ _)); refine blk_put (cs := #[.int .i64 (wrap64 (rd t333 0)), u342001]) ?_ 1 _ rfl; (with_reducible repeat (first | refine blk_drewN ?_ _ | refine blk_drew ?_ | refine blk_alloc ?_ _)); exact Ae.out⟩, ⟨pE4 HB.out Ah.out Aj.out Ap.out Be.out⟩⟩
end Go.Proofs.Ytjebpaahpehfnaa.PRelayGets
