/- What the law reaches, as plain Lean functions, and that the machine's calls answer just that. -/
import Derived.Test.YtdanmjfkocjgjaaPWalGetsx0
import Derived.Test.YtdanmjfkocjgjaaPWalGetsx17
import Derived.Test.YtdanmjfkocjgjaaPWalGetsx20
import Derived.Test.YtdanmjfkocjgjaaPWalGetsx21
namespace Go.Proofs.Ytdanmjfkocjgjaa.PWalGets
open Go.RowKit Go.Proofs.YtdanmjfkocjgjaaW.PrintWords Go.Proofs.YtdanmjfkocjgjaaW.PrintLast Go.Proofs.YtdanmjfkocjgjaaW.PrintMore
attribute [local go_sem] max2_int min2_int max_two min_two max_three min_three max_four min_four
set_option linter.unusedVariables false
set_option linter.unusedSimpArgs false
attribute [local go_sem] wrap64_l1 wrap64_l2 wrap64_l3 wrap64_l4 wrap64_l5
mutual
def garnerref24_Get.j0 : Nat → Int → List Int → Option (Int × (List (S52)) × Int × Int × Int × Int)
 | 0, _, _ => none
 | k + 1, x527000, x527001 => if x527000 = 12 then ((garnerref22_Get.f k x527001).bind fun bt531 => (if bt531.2.2.2 = true then (some (2, ([] : List (S52)), bt531.1, bt531.2.1, bt531.2.2.1, 0)) else (garnerref24_Get.j1 k x527000 x527001))) else (garnerref24_Get.j1 k x527000 x527001)
def garnerref24_Get.j1 : Nat → Int → List Int → Option (Int × (List (S52)) × Int × Int × Int × Int)
 | 0, _, _ => none
 | k + 1, x527000, x527001 => if x527000 = 13 then ((garnerref02_Get.f k x527001).bind fun bt536 => (if bt536.2 > 0 then (if bt536.2 = (x527001.length : Int) then (if bt536.1 ≥ 1 then (if bt536.1 ≤ 2147483647 then (some (3, ([] : List (S52)), 0, 0, 0, wrap64 (bt536.1))) else (some (0, ([] : List (S52)), 0, 0, 0, 0))) else (some (0, ([] : List (S52)), 0, 0, 0, 0))) else (some (0, ([] : List (S52)), 0, 0, 0, 0))) else (some (0, ([] : List (S52)), 0, 0, 0, 0)))) else (some (0, ([] : List (S52)), 0, 0, 0, 0))
end
def garnerref24_Get.f (k : Nat) (a0_0 : Int) (l0_1 : List Int) : Option (Int × (List (S52)) × Int × Int × Int × Int) := if a0_0 = 11 then ((garnerref06_Get.f k l0_1).bind fun t528 => (if (t528.length : Int) > 0 then (some (1, t528, 0, 0, 0, 0)) else (garnerref24_Get.j0 k a0_0 l0_1))) else (garnerref24_Get.j0 k a0_0 l0_1)
theorem garnerref24_Get.mono_l : ∀ k, (∀ y0 y1, LeO (garnerref24_Get.j0 k y0 y1) (garnerref24_Get.j0 (k + 1) y0 y1)) ∧ (∀ y0 y1, LeO (garnerref24_Get.j1 k y0 y1) (garnerref24_Get.j1 (k + 1) y0 y1))
 | 0 => ⟨fun _ _ r h => by simp [garnerref24_Get.j0] at h, fun _ _ r h => by simp [garnerref24_Get.j1] at h⟩
 | k + 1 => by
  obtain ⟨ih0, ih1⟩ := garnerref24_Get.mono_l k
  refine ⟨?_, ?_⟩
  ·intro y0 y1
   unfold garnerref24_Get.j0
   repeat' (with_reducible first | exact ih0 .. | exact ih1 .. | exact garnerref02_Get.mono .. | exact garnerref06_Get.mono .. | exact garnerref22_Get.mono .. | exact LeO.refl .. | exact LeO.none .. | refine LeO.ite ?_ ?_ | refine LeO.bind ?_ (fun _ => ?_))
  ·intro y0 y1
   unfold garnerref24_Get.j1
   repeat' (with_reducible first | exact ih0 .. | exact ih1 .. | exact garnerref02_Get.mono .. | exact garnerref06_Get.mono .. | exact garnerref22_Get.mono .. | exact LeO.refl .. | exact LeO.none .. | refine LeO.ite ?_ ?_ | refine LeO.bind ?_ (fun _ => ?_))
theorem garnerref24_Get.mono : ∀ a0 a1 k, LeO (garnerref24_Get.f k a0 a1) (garnerref24_Get.f (k + 1) a0 a1) := by
 intro a0 a1 k
 obtain ⟨ih0, ih1⟩ := garnerref24_Get.mono_l k
 unfold garnerref24_Get.f
 repeat' (with_reducible first | exact ih0 .. | exact ih1 .. | exact garnerref02_Get.mono .. | exact garnerref06_Get.mono .. | exact garnerref22_Get.mono .. | exact LeO.refl .. | exact LeO.none .. | refine LeO.ite ?_ ?_ | refine LeO.bind ?_ (fun _ => ?_))
set_option maxHeartbeats 8000000 in
set_option maxRecDepth 100000 in
theorem garnerref24_Get.calls (k : Nat) (a0_0 : Int) (A0_1 : Option Addr) (c0_1 : Nat) (l0_1 : List Int) (r1 : Int) (r2 : List (S52)) (r3 : Int) (r4 : Int) (r5 : Int) (r6 : Int) (w : World) (hr0_1 : Kd.C (Kd.int .u8) w A0_1 l0_1.length l0_1) (hc0_1 : l0_1.length ≤ c0_1) (h : garnerref24_Get.f k a0_0 l0_1 = some (r1, r2, r3, r4, r5, r6)) :
 Calls Try.prog 7 #[.agg #[.int .i64 a0_0, .slice A0_1 l0_1.length c0_1]] w fun e w' => ∃ v1_ : Value, e = .returned (.agg #[.int .i64 r1, v1_, .int .i64 r3, .int .i64 r4, .int .i64 r5, .int .i64 r6]) ∧ Kd.S k52 52 w' w.heap.size (fun _ => True) v1_ r2 ∧ Below w.heap.size w w' := by
 have hu24 := Try.underlying24
 have hu30 := Try.underlying30
 have hu28 := Try.underlying28
 have As := Am hr0_1
 have At := Am hc0_1
 clear hr0_1 hc0_1
 have HB := Am (Below.refl w.heap.size w)
 unfold garnerref24_Get.f at h
 have H := h
 clear h
 have HC2 := Am H
 clear H
 go_enter Try.func7, Try.ntmps7
 go_upto_if 10 with (first | ((with_reducible refine gate_dst (N := 1) rfl ?_); (try (refine gate_guard (by rfl) ?_; dsimp only)); refine zE 1 #[.int .i64 a0_0, .slice A0_1 l0_1.length c0_1] 24 ?_; intro Au hg w3 hbox hb; have Aa := Am (hbox); have Cv := Am (zG hg (below_size (pB HB.out))); replace HB := Am (below_step (pB HB.out) hb); have Ae := Cv; clear hb hbox hg) | ((with_reducible refine gate_dst (N := 2) rfl ?_); (try (refine gate_guard (by rfl) ?_; dsimp only)); refine zE 2 #[.int .i64 0, .slice none 0 0, .int .i64 0, .int .i64 0, .int .i64 0, .int .i64 0] 30 ?_; intro Ag hg w4 hbox hb; have Ab := Am (hbox); have Cw := Am (zG hg (below_size (pE HB.out Ae.out))); replace HB := Am (below_step (pE HB.out Ae.out) hb); have Af := Cw; have Ac := Am (zN hg (kL Aa.out)); have Ad := Am (zM hg (kL Aa.out)); replace Aa := kBa Aa hb; clear hb hbox hg; have hnb5 := Ac.out; have hnc5 := Ad.out; obtain ⟨Br, Bs⟩ := bc2 Aa.out; obtain ⟨Bt, Bu⟩ := bf2 Aa.out))
 (try simp only [Act.put, List.setIfInBounds_toArray, List.set_cons_zero, List.set_cons_succ])
 go_cut [] (fun wc => ∃ (kq : Nat) (Al : Int) (An : Int) (Ao : Int) (Ap : Int) (Aq : Int), Aside0 (garnerref24_Get.j0 kq a0_0 l0_1 = some (r1, r2, r3, r4, r5, r6)) ∧ Aside0 (kq ≤ k) ∧ Aside0 (wc.heap[Au]? = some (.cells #[.int .i64 a0_0, (.slice A0_1 l0_1.length c0_1)] 24 (0, 0))) ∧ Aside0 (wc.heap[Ag]? = some (.cells #[.int .i64 Al, (.slice none 0 0), .int .i64 An, .int .i64 Ao, .int .i64 Ap, .int .i64 Aq] 30 (0, 0))) ∧ Aside0 (Below w.heap.size w wc))
 case first =>
  have H := HC2.out
  clear HC2
  by_cases c7 : a0_0 = 11
  rotate_left
  ·rw [if_neg c7] at H
   have c7b0 := beq_eq_false_iff_ne.mpr c7
   have c7b1 := bne_iff_ne.mpr c7
   (first | rw [c7b0] | (simp only [i64_w, i32_w]; rw [c7b0]) | skip)
   have H' := Am H
   clear H
   go_wp2
   go_meet
   case rel => exact ⟨_, (0), (0), (0), (0), (0), H', ⟨zo⟩, ⟨pK Aa.out⟩, ⟨pK Ab.out⟩, ⟨pE2 HB.out Ae.out Af.out⟩⟩
  rw [if_pos c7] at H
  have c7b0 := beq_iff_eq.mpr c7
  have c7b1 := bne_eq_false_iff_eq.mpr c7
  clear c7
  (first | rw [c7b0] | (simp only [i64_w, i32_w]; rw [c7b0]) | skip)
  replace H := Option.bind_eq_some_iff.mp H
  obtain ⟨t528, A80, H⟩ := H
  have A8 := Am A80
  clear A80
  by_cases c9 : (t528.length : Int) > 0
  ·rw [if_pos c9] at H
   have c9b0 : decide (0 < (t528.length : Int)) = true := decide_eq_true c9
   have c9b1 : decide (0 < t528.length) = true := decide_eq_true (by omega)
   clear c9
   simp only [Option.some.injEq, Prod.mk.injEq] at H
   obtain ⟨rfl, rfl, rfl, rfl, rfl, rfl⟩ := H
   have hnb10 := Ac.out
   have hnc10 := Ad.out
   obtain ⟨A4, A5⟩ := bc2 Aa.out
   obtain ⟨A6, A7⟩ := bf2 Aa.out
   go_wp2_with (first | ((with_reducible refine gate_callee (f := 20) rfl ?_); refine goesL_ (some 13) rfl rfl Try.func20 (by kernel_rfl) rfl #[.slice A0_1 l0_1.length c0_1] rfl pL ?_; (with_reducible refine (garnerref06_Get.calls k _ _ l0_1 t528 _ ?Ah ?Ai A8.out).mono ?_); (case Ah => exact pC (Kd.C_below As.out HB.out)); (case Ai => exact At.out); rintro e w12 ⟨v529, rfl, ho0, hb⟩; refine ⟨_, rfl, ?_⟩; have A3 := Am (Kd.S_lower ho0 (below_size (pE2 HB.out Ae.out Af.out))); replace Aa := kBa Aa hb; replace Ab := kBa Ab hb; replace HB := Am (below_step (pE2 HB.out Ae.out Af.out) hb); (try clear hb); (try clear hb2); (try clear hk); (try clear hi); (try clear ho0); obtain ⟨Cx, Cy, Cz⟩ := Kd.S_slice A3.out; subst Cz; obtain ⟨A9, Ba, Bb, Bc, Bd, Be⟩ := bc6 Ab.out; obtain ⟨Bf, Bg, Bh, Bi, Bj, Bk⟩ := bf6 Ab.out))
   refine bodyPost_ret (results_cell_row rfl _ _ Ag 30 #[.int .i64 1, .slice Cx t528.length Cy, .int .i64 0, .int .i64 0, .int .i64 0, .int .i64 0] (0, 0) _ rfl (kX0 Ab.out) Try.underlying30 rfl (by kernel_rfl)) rfl ?_
   exact ⟨_, pX, by (with_reducible repeat (first | apply Kd.S_alloc | apply Kd.S_drewN | apply Kd.S_drew)); exact Kd.S_mono (Sf6 (g := Ag) (Kd.S_types A3.out Ab.out (by decide)) (fun _ hk => hk.2)) (fun _ hk => trivial), pE2 HB.out Ae.out Af.out⟩
  rw [if_neg c9] at H
  have c9b0 : decide (0 < (t528.length : Int)) = false := decide_eq_false c9
  have c9b1 : decide (0 < t528.length) = false := decide_eq_false (by omega)
  clear c9
  have H' := Am H
  clear H
  have hnb15 := Ac.out
  have hnc15 := Ad.out
  obtain ⟨Bl, Bm⟩ := bc2 Aa.out
  obtain ⟨Bn, Bo⟩ := bf2 Aa.out
  go_wp2_with (first | ((with_reducible refine gate_callee (f := 20) rfl ?_); refine goesL_ (some 13) rfl rfl Try.func20 (by kernel_rfl) rfl #[.slice A0_1 l0_1.length c0_1] rfl pL ?_; (with_reducible refine (garnerref06_Get.calls k _ _ l0_1 t528 _ ?Ah ?Ai A8.out).mono ?_); (case Ah => exact pC (Kd.C_below As.out HB.out)); (case Ai => exact At.out); rintro e w17 ⟨v529, rfl, ho0, hb⟩; refine ⟨_, rfl, ?_⟩; have A3 := Am (Kd.S_lower ho0 (below_size (pE2 HB.out Ae.out Af.out))); replace Aa := kBa Aa hb; replace Ab := kBa Ab hb; replace HB := Am (below_step (pE2 HB.out Ae.out Af.out) hb); (try clear hb); (try clear hb2); (try clear hk); (try clear hi); (try clear ho0); obtain ⟨Ao18, co18, C0⟩ := Kd.S_slice A3.out; subst C0))
  go_meet
  case rel => exact ⟨_, (0), (0), (0), (0), (0), H', ⟨zo⟩, ⟨pK Aa.out⟩, ⟨pK Ab.out⟩, ⟨pE2 HB.out Ae.out Af.out⟩⟩
 case rest =>
  clear HC2
  try clear c1
  try clear c2
  try clear p2
  try clear c5
  try clear c7
  try clear c7b0
  try clear c7b1
  try clear c9
  try clear c9b0
  try clear c9b1
  try clear c10
  try clear c15
  try clear A4 A5
  try clear A9 Ba Bb Bc Bd Be
  try clear Bl Bm
  try clear Br Bs
  try clear A6 A7
  try clear Bf Bg Bh Bi Bj Bk
  try clear Bn Bo
  try clear Bt Bu
  obtain ⟨kq, Al, An, Ao, Ap, Aq, HA, HJ1, Aa, Ab, HB⟩ := hcut
  cases kq with
  | zero => exact absurd HA.out (by simp [garnerref24_Get.j0])
  | succ kj1 =>
   have H := HA.out
   clear HA
   simp only [garnerref24_Get.j0] at H
   have HC19 := Am H
   clear H
   have hnb20 := Ac.out
   have hnc20 := Ad.out
   obtain ⟨Bv, Bw⟩ := bc2 Aa.out
   obtain ⟨Bx, By⟩ := bf2 Aa.out
   go_upto_if 21 with (fail)
   go_cut [] (fun wc => ∃ (kq : Nat) (Ax : Int) (Ay : Int) (Az : Int) (A0 : Int) (A1 : Int), Aside0 (garnerref24_Get.j1 kq a0_0 l0_1 = some (r1, r2, r3, r4, r5, r6)) ∧ Aside0 (kq ≤ kj1) ∧ Aside0 (wc.heap[Au]? = some (.cells #[.int .i64 a0_0, (.slice A0_1 l0_1.length c0_1)] 24 (0, 0))) ∧ Aside0 (wc.heap[Ag]? = some (.cells #[.int .i64 Ax, (.slice none 0 0), .int .i64 Ay, .int .i64 Az, .int .i64 A0, .int .i64 A1] 30 (0, 0))) ∧ Aside0 (Below w.heap.size w wc))
   case first =>
    have H := HC19.out
    clear HC19
    by_cases c22 : a0_0 = 12
    rotate_left
    ·rw [if_neg c22] at H
     have c22b0 := beq_eq_false_iff_ne.mpr c22
     have c22b1 := bne_iff_ne.mpr c22
     (first | rw [c22b0] | (simp only [i64_w, i32_w]; rw [c22b0]) | skip)
     have H' := Am H
     clear H
     go_wp2
     go_meet
     case rel => exact ⟨_, (Al), (An), (Ao), (Ap), (Aq), H', ⟨by have := HJ1.out; first | omega | exact Nat.le_refl _⟩, ⟨pK Aa.out⟩, ⟨pK Ab.out⟩, ⟨pE2 HB.out Ae.out Af.out⟩⟩
    rw [if_pos c22] at H
    have c22b0 := beq_iff_eq.mpr c22
    have c22b1 := bne_eq_false_iff_eq.mpr c22
    clear c22
    (first | rw [c22b0] | (simp only [i64_w, i32_w]; rw [c22b0]) | skip)
    replace H := Option.bind_eq_some_iff.mp H
    obtain ⟨⟨t531, t532, t533, t534⟩, A230, H⟩ := H
    dsimp only at H
    have A23 := Am A230
    clear A230
    by_cases c24 : t534 = true
    ·subst c24
     rw [if_pos rfl] at H
     simp only [Option.some.injEq, Prod.mk.injEq] at H
     obtain ⟨rfl, rfl, rfl, rfl, rfl, rfl⟩ := H
     have hnb25 := Ac.out
     have hnc25 := Ad.out
     obtain ⟨Bz, B0⟩ := bc2 Aa.out
     obtain ⟨B1, B2⟩ := bf2 Aa.out
     go_wp2_with (first | ((with_reducible refine gate_callee (f := 21) rfl ?_); refine goesL_ (some 25) rfl rfl Try.func21 (by kernel_rfl) rfl #[.slice A0_1 l0_1.length c0_1] rfl pL ?_; (with_reducible refine (garnerref22_Get.calls kj1 _ _ l0_1 t531 t532 t533 true _ ?Ah ?Ai A23.out).mono ?_); (case Ah => exact pC (Kd.C_below As.out HB.out)); (case Ai => exact At.out); rintro e w27 ⟨rfl, hb⟩; refine ⟨_, rfl, ?_⟩; replace Aa := kBa Aa hb; replace Ab := kBa Ab hb; replace HB := Am (below_step (pE2 HB.out Ae.out Af.out) hb); (try clear hb); (try clear hb2); (try clear hk); (try clear hi)) | ((with_reducible refine gate_dst (N := 4) rfl ?_); (try (refine gate_guard (by rfl) ?_; dsimp only)); refine zE 4 #[.int .i64 0, .int .i64 0, .int .i64 0] 28 ?_; intro Ak hg w28 hbox hb; have A2 := Am (hbox); have Bp := Am (zG hg (below_size (pE2 HB.out Ae.out Af.out))); replace HB := Am (below_step (pE2 HB.out Ae.out Af.out) hb); have Bq := Bp; have Ar := Am (zN hg (kL Aa.out)); have Av := Am (zM hg (kL Aa.out)); replace Aa := kBa Aa hb; have Aj := Am (zN hg (kL Ab.out)); have Aw := Am (zM hg (kL Ab.out)); replace Ab := kBa Ab hb; clear hb hbox hg; have hnb29 := Av.out; have hnc29 := Ar.out; have hnb30 := Aw.out; have hnc30 := Aj.out; obtain ⟨B3, B4, B5⟩ := bc3 A2.out; obtain ⟨B6, B7, B8⟩ := bf3 A2.out; obtain ⟨B9, Ca, Cb, Cc, Cd, Ce⟩ := bc6 Ab.out; obtain ⟨Cf, Cg, Ch, Ci, Cj, Ck⟩ := bf6 Ab.out))
     refine bodyPost_ret (results_cell_row rfl _ _ Ag 30 #[.int .i64 2, .slice none 0 0, .int .i64 t531, .int .i64 t532, .int .i64 t533, .int .i64 0] (0, 0) _ rfl (kX1 Ab.out Aj.out) Try.underlying30 rfl (by kernel_rfl)) rfl ?_
     exact ⟨_, pX, zn, pE3 HB.out Ae.out Af.out Bq.out⟩
    replace c24 := Bool.eq_false_iff.mpr c24
    subst c24
    rw [if_neg zF] at H
    have H' := Am H
    clear H
    have hnb33 := Ac.out
    have hnc33 := Ad.out
    obtain ⟨Cl, Cm⟩ := bc2 Aa.out
    obtain ⟨Cn, Co⟩ := bf2 Aa.out
    go_wp2_with (first | ((with_reducible refine gate_callee (f := 21) rfl ?_); refine goesL_ (some 25) rfl rfl Try.func21 (by kernel_rfl) rfl #[.slice A0_1 l0_1.length c0_1] rfl pL ?_; (with_reducible refine (garnerref22_Get.calls kj1 _ _ l0_1 t531 t532 t533 false _ ?Ah ?Ai A23.out).mono ?_); (case Ah => exact pC (Kd.C_below As.out HB.out)); (case Ai => exact At.out); rintro e w35 ⟨rfl, hb⟩; refine ⟨_, rfl, ?_⟩; replace Aa := kBa Aa hb; replace Ab := kBa Ab hb; replace HB := Am (below_step (pE2 HB.out Ae.out Af.out) hb); (try clear hb); (try clear hb2); (try clear hk); (try clear hi)) | ((with_reducible refine gate_dst (N := 4) rfl ?_); (try (refine gate_guard (by rfl) ?_; dsimp only)); refine zE 4 #[.int .i64 0, .int .i64 0, .int .i64 0] 28 ?_; intro Ak hg w36 hbox hb; have A2 := Am (hbox); have Bp := Am (zG hg (below_size (pE2 HB.out Ae.out Af.out))); replace HB := Am (below_step (pE2 HB.out Ae.out Af.out) hb); have Bq := Bp; have Ar := Am (zN hg (kL Aa.out)); have Av := Am (zM hg (kL Aa.out)); replace Aa := kBa Aa hb; have Aj := Am (zN hg (kL Ab.out)); have Aw := Am (zM hg (kL Ab.out)); replace Ab := kBa Ab hb; clear hb hbox hg; have hnb37 := Av.out; have hnc37 := Ar.out; have hnb38 := Aw.out; have hnc38 := Aj.out; obtain ⟨Cp, Cq, Cr⟩ := bc3 A2.out; obtain ⟨Cs, Ct, Cu⟩ := bf3 A2.out))
    go_meet
    case rel => exact ⟨_, (Al), (An), (Ao), (Ap), (Aq), H', ⟨by have := HJ1.out; first | omega | exact Nat.le_refl _⟩, ⟨kX1 Aa.out Ar.out⟩, ⟨kX1 Ab.out Aj.out⟩, ⟨pE3 HB.out Ae.out Af.out Bq.out⟩⟩
   case rest =>
    clear HC19
    try clear c1
    try clear c2
    try clear p2
    try clear c3
    try clear c5
    try clear c7
    try clear c7b0
    try clear c7b1
    try clear c9
    try clear c9b0
    try clear c9b1
    try clear c10
    try clear c15
    try clear c20
    try clear c21
    try clear c22
    try clear c22b0
    try clear c22b1
    try clear c24
    try clear c25
    try clear c29
    try clear c30
    try clear c33
    try clear c37
    try clear c38
    try clear A4 A5
    try clear A9 Ba Bb Bc Bd Be
    try clear Bl Bm
    try clear Bv Bw
    try clear Bz B0
    try clear B3 B4 B5
    try clear B9 Ca Cb Cc Cd Ce
    try clear Cl Cm
    try clear Cp Cq Cr
    try clear Br Bs
    try clear A6 A7
    try clear Bf Bg Bh Bi Bj Bk
    try clear Bn Bo
    try clear Bx By
    try clear B1 B2
    try clear B6 B7 B8
    try clear Cf Cg Ch Ci Cj Ck
    try clear Cn Co
    try clear Cs Ct Cu
    try clear Bt Bu
    try clear p2
    obtain ⟨kq, Ax, Ay, Az, A0, A1, HA, HJ18, Aa, Ab, HB⟩ := hcut
    cases kq with
    | zero => exact absurd HA.out (by simp [garnerref24_Get.j1])
    | succ kj18 =>
     have H := HA.out
     clear HA
     simp only [garnerref24_Get.j1] at H
     by_cases c40 : a0_0 = 13
     rotate_left
     ·rw [if_neg c40] at H
      have c40b0 := beq_eq_false_iff_ne.mpr c40
      have c40b1 := bne_iff_ne.mpr c40
      simp only [Option.some.injEq, Prod.mk.injEq] at H
      obtain ⟨rfl, rfl, rfl, rfl, rfl, rfl⟩ := H
      have hnb70 := Ac.out
      have hnc70 := Ad.out
      obtain ⟨_, _⟩ := bc2 Aa.out
      obtain ⟨_, _⟩ := bf2 Aa.out
      obtain ⟨_, _, _, _, _, _⟩ := bc6 Ab.out
      obtain ⟨_, _, _, _, _, _⟩ := bf6 Ab.out
      go_wp2
      refine bodyPost_ret (results_cell_row rfl _ _ Ag 30 #[.int .i64 0, .slice none 0 0, .int .i64 0, .int .i64 0, .int .i64 0, .int .i64 0] (0, 0) _ rfl (kX0 Ab.out) Try.underlying30 rfl (by kernel_rfl)) rfl ?_
      exact ⟨_, pX, zn, pE2 HB.out Ae.out Af.out⟩
     rw [if_pos c40] at H
     have c40b0 := beq_iff_eq.mpr c40
     have c40b1 := bne_eq_false_iff_eq.mpr c40
     clear c40
     replace H := Option.bind_eq_some_iff.mp H
     obtain ⟨⟨t536, t537⟩, A410, H⟩ := H
     dsimp only at H
     have A41 := Am A410
     clear A410
     by_cases c42 : t537 > 0
     rotate_left
     ·rw [if_neg c42] at H
      have c42b0 : decide (0 < t537) = false := decide_eq_false c42
      clear c42
      simp only [Option.some.injEq, Prod.mk.injEq] at H
      obtain ⟨rfl, rfl, rfl, rfl, rfl, rfl⟩ := H
      have hnb66 := Ac.out
      have hnc66 := Ad.out
      obtain ⟨_, _⟩ := bc2 Aa.out
      obtain ⟨_, _⟩ := bf2 Aa.out
      go_wp2_with (first | ((with_reducible refine gate_callee (f := 22) rfl ?_); refine goesL_ (some 37) rfl rfl Try.func22 (by kernel_rfl) rfl #[.slice A0_1 l0_1.length c0_1] rfl pL ?_; (with_reducible refine (garnerref02_Get.calls kj18 _ _ l0_1 t536 t537 _ ?Ah ?Ai A41.out).mono ?_); (case Ah => exact pC (Kd.C_below As.out HB.out)); (case Ai => exact At.out); rintro e w68 ⟨rfl, hb⟩; refine ⟨_, rfl, ?_⟩; replace Aa := kBa Aa hb; replace Ab := kBa Ab hb; replace HB := Am (below_step (pE2 HB.out Ae.out Af.out) hb); (try clear hb); (try clear hb2); (try clear hk); (try clear hi); obtain ⟨_, _, _, _, _, _⟩ := bc6 Ab.out; obtain ⟨_, _, _, _, _, _⟩ := bf6 Ab.out))
      refine bodyPost_ret (results_cell_row rfl _ _ Ag 30 #[.int .i64 0, .slice none 0 0, .int .i64 0, .int .i64 0, .int .i64 0, .int .i64 0] (0, 0) _ rfl (kX0 Ab.out) Try.underlying30 rfl (by kernel_rfl)) rfl ?_
      exact ⟨_, pX, zn, pE2 HB.out Ae.out Af.out⟩
     rw [if_pos c42] at H
     have c42b0 : decide (0 < t537) = true := decide_eq_true c42
     clear c42
     by_cases c43 : t537 = (l0_1.length : Int)
     rotate_left
     ·rw [if_neg c43] at H
      have c43b0 := beq_eq_false_iff_ne.mpr c43
      have c43b1 := bne_iff_ne.mpr c43
      simp only [Option.some.injEq, Prod.mk.injEq] at H
      obtain ⟨rfl, rfl, rfl, rfl, rfl, rfl⟩ := H
      have hnb61 := Ac.out
      have hnc61 := Ad.out
      obtain ⟨_, _⟩ := bc2 Aa.out
      obtain ⟨_, _⟩ := bf2 Aa.out
      go_wp2_with (first | ((with_reducible refine gate_callee (f := 22) rfl ?_); refine goesL_ (some 37) rfl rfl Try.func22 (by kernel_rfl) rfl #[.slice A0_1 l0_1.length c0_1] rfl pL ?_; (with_reducible refine (garnerref02_Get.calls kj18 _ _ l0_1 t536 t537 _ ?Ah ?Ai A41.out).mono ?_); (case Ah => exact pC (Kd.C_below As.out HB.out)); (case Ai => exact At.out); rintro e w63 ⟨rfl, hb⟩; refine ⟨_, rfl, ?_⟩; replace Aa := kBa Aa hb; replace Ab := kBa Ab hb; replace HB := Am (below_step (pE2 HB.out Ae.out Af.out) hb); (try clear hb); (try clear hb2); (try clear hk); (try clear hi); obtain ⟨_, _⟩ := bc2 Aa.out; obtain ⟨_, _⟩ := bf2 Aa.out; obtain ⟨_, _, _, _, _, _⟩ := bc6 Ab.out; obtain ⟨_, _, _, _, _, _⟩ := bf6 Ab.out))
      refine bodyPost_ret (results_cell_row rfl _ _ Ag 30 #[.int .i64 0, .slice none 0 0, .int .i64 0, .int .i64 0, .int .i64 0, .int .i64 0] (0, 0) _ rfl (kX0 Ab.out) Try.underlying30 rfl (by kernel_rfl)) rfl ?_
      exact ⟨_, pX, zn, pE2 HB.out Ae.out Af.out⟩
     rw [if_pos c43] at H
     have c43b0 := beq_iff_eq.mpr c43
     have c43b1 := bne_eq_false_iff_eq.mpr c43
     clear c43
     by_cases c44 : t536 ≥ 1
     rotate_left
     ·rw [if_neg c44] at H
      have c44b0 : decide (1 ≤ t536) = false := decide_eq_false c44
      clear c44
      simp only [Option.some.injEq, Prod.mk.injEq] at H
      obtain ⟨rfl, rfl, rfl, rfl, rfl, rfl⟩ := H
      have hnb56 := Ac.out
      have hnc56 := Ad.out
      obtain ⟨_, _⟩ := bc2 Aa.out
      obtain ⟨_, _⟩ := bf2 Aa.out
      go_wp2_with (first | ((with_reducible refine gate_callee (f := 22) rfl ?_); refine goesL_ (some 37) rfl rfl Try.func22 (by kernel_rfl) rfl #[.slice A0_1 l0_1.length c0_1] rfl pL ?_; (with_reducible refine (garnerref02_Get.calls kj18 _ _ l0_1 t536 t537 _ ?Ah ?Ai A41.out).mono ?_); (case Ah => exact pC (Kd.C_below As.out HB.out)); (case Ai => exact At.out); rintro e w58 ⟨rfl, hb⟩; refine ⟨_, rfl, ?_⟩; replace Aa := kBa Aa hb; replace Ab := kBa Ab hb; replace HB := Am (below_step (pE2 HB.out Ae.out Af.out) hb); (try clear hb); (try clear hb2); (try clear hk); (try clear hi); obtain ⟨_, _⟩ := bc2 Aa.out; obtain ⟨_, _⟩ := bf2 Aa.out; obtain ⟨_, _, _, _, _, _⟩ := bc6 Ab.out; obtain ⟨_, _, _, _, _, _⟩ := bf6 Ab.out))
      refine bodyPost_ret (results_cell_row rfl _ _ Ag 30 #[.int .i64 0, .slice none 0 0, .int .i64 0, .int .i64 0, .int .i64 0, .int .i64 0] (0, 0) _ rfl (kX0 Ab.out) Try.underlying30 rfl (by kernel_rfl)) rfl ?_
      exact ⟨_, pX, zn, pE2 HB.out Ae.out Af.out⟩
     rw [if_pos c44] at H
     have c44b0 : decide (1 ≤ t536) = true := decide_eq_true c44
     clear c44
     by_cases c45 : t536 ≤ 2147483647
     ·rw [if_pos c45] at H
      have c45b0 := decide_eq_true c45
      clear c45
      simp only [Option.some.injEq, Prod.mk.injEq] at H
      obtain ⟨rfl, rfl, rfl, rfl, rfl, rfl⟩ := H
      have hnb46 := Ac.out
      have hnc46 := Ad.out
      obtain ⟨_, _⟩ := bc2 Aa.out
      obtain ⟨_, _⟩ := bf2 Aa.out
      go_wp2_with (first | ((with_reducible refine gate_callee (f := 22) rfl ?_); refine goesL_ (some 37) rfl rfl Try.func22 (by kernel_rfl) rfl #[.slice A0_1 l0_1.length c0_1] rfl pL ?_; (with_reducible refine (garnerref02_Get.calls kj18 _ _ l0_1 t536 t537 _ ?Ah ?Ai A41.out).mono ?_); (case Ah => exact pC (Kd.C_below As.out HB.out)); (case Ai => exact At.out); rintro e w48 ⟨rfl, hb⟩; refine ⟨_, rfl, ?_⟩; replace Aa := kBa Aa hb; replace Ab := kBa Ab hb; replace HB := Am (below_step (pE2 HB.out Ae.out Af.out) hb); (try clear hb); (try clear hb2); (try clear hk); (try clear hi); obtain ⟨_, _⟩ := bc2 Aa.out; obtain ⟨_, _⟩ := bf2 Aa.out; obtain ⟨_, _, _, _, _, _⟩ := bc6 Ab.out; obtain ⟨_, _, _, _, _, _⟩ := bf6 Ab.out))
      refine bodyPost_ret (results_cell_row rfl _ _ Ag 30 #[.int .i64 3, .slice none 0 0, .int .i64 0, .int .i64 0, .int .i64 0, .int .i64 (wrap64 (t536))] (0, 0) _ rfl (kX0 Ab.out) Try.underlying30 rfl (by kernel_rfl)) rfl ?_
      exact ⟨_, pX, zn, pE2 HB.out Ae.out Af.out⟩
     rw [if_neg c45] at H
     have c45b0 := decide_eq_false c45
     clear c45
     simp only [Option.some.injEq, Prod.mk.injEq] at H
     obtain ⟨rfl, rfl, rfl, rfl, rfl, rfl⟩ := H
     have hnb51 := Ac.out
     have hnc51 := Ad.out
     obtain ⟨_, _⟩ := bc2 Aa.out
     obtain ⟨_, _⟩ := bf2 Aa.out
     go_wp2_with (first | ((with_reducible refine gate_callee (f := 22) rfl ?_); refine goesL_ (some 37) rfl rfl Try.func22 (by kernel_rfl) rfl #[.slice A0_1 l0_1.length c0_1] rfl pL ?_; (with_reducible refine (garnerref02_Get.calls kj18 _ _ l0_1 t536 t537 _ ?Ah ?Ai A41.out).mono ?_); (case Ah => exact pC (Kd.C_below As.out HB.out)); (case Ai => exact At.out); rintro e w53 ⟨rfl, hb⟩; refine ⟨_, rfl, ?_⟩; replace Aa := kBa Aa hb; replace Ab := kBa Ab hb; replace HB := Am (below_step (pE2 HB.out Ae.out Af.out) hb); (try clear hb); (try clear hb2); (try clear hk); (try clear hi); obtain ⟨_, _⟩ := bc2 Aa.out; obtain ⟨_, _⟩ := bf2 Aa.out; obtain ⟨_, _, _, _, _, _⟩ := bc6 Ab.out; obtain ⟨_, _, _, _, _, _⟩ := bf6 Ab.out))
     refine bodyPost_ret (results_cell_row rfl _ _ Ag 30 #[.int .i64 0, .slice none 0 0, .int .i64 0, .int .i64 0, .int .i64 0, .int .i64 0] (0, 0) _ rfl (kX0 Ab.out) Try.underlying30 rfl (by kernel_rfl)) rfl ?_
     exact ⟨_, pX, zn, pE2 HB.out Ae.out Af.out⟩
end Go.Proofs.Ytdanmjfkocjgjaa.PWalGets
