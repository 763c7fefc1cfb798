/- What the law reaches, as plain Lean functions, and that the machine's calls answer just that. -/
import Derived.Test.YtjebpaahpehfnaaPRelayPutsx0
import Derived.Test.YtjebpaahpehfnaaPRelayPutsx1
import Derived.Test.YtjebpaahpehfnaaPRelayPutsx2
import Derived.Test.YtjebpaahpehfnaaPRelayPutsx4
import Derived.Test.YtjebpaahpehfnaaPRelayPutsx5
import Derived.Test.YtjebpaahpehfnaaPRelayPutsx6
namespace Go.Proofs.Ytjebpaahpehfnaa.PRelayPuts
open Go.RowKit Go.Proofs.YtjebpaahpehfnaaW.PrintWords Go.Proofs.YtjebpaahpehfnaaW.PrintLast Go.Proofs.YtjebpaahpehfnaaW.PrintMore
attribute [local go_sem] max2_int min2_int max_two min_two max_three min_three max_four min_four
set_option linter.unusedVariables false
set_option linter.unusedSimpArgs false
attribute [local go_sem] wrap64_l1 wrap64_l2 wrap64_l3 wrap64_l4 wrap64_l5
attribute [local go_sem high] eqA46
mutual
def relay_Get.j0 : Nat → Bool → Int → List Int → Option (Int × (List (S46)) × Int)
 | 0, _, _, _ => none
 | k + 1, x33, x193000, x193001 => if x33 = true then (some (0, ([] : List (S46)), 2)) else ((varint_All.f k x193001 2).bind fun bt193 => (if bt193.2.2 = 0 then (if 0 < (bt193.1.length : Int) then (if (rd bt193.1 0) > 2147483647 then (relay_Get.j1 k bt193.1 bt193.2.1 true x193000 x193001) else (if 1 < (bt193.1.length : Int) then (relay_Get.j1 k bt193.1 bt193.2.1 (decide ((rd bt193.1 1) > 16384)) x193000 x193001) else (none))) else (none)) else (relay_Get.j1 k bt193.1 bt193.2.1 true x193000 x193001)))
def relay_Get.j1 : Nat → List Int → Int → Bool → Int → List Int → Option (Int × (List (S46)) × Int)
 | 0, _, _, _, _, _ => none
 | k + 1, x8, x9, x54, x193000, x193001 => if x54 = true then (some (0, ([] : List (S46)), 2)) else (if 0 ≤ x9 then (if x9 ≤ (x193001.length : Int) then (if 1 < (x8.length : Int) then (relay_Get.l0 k x8 ([] : List (S46)) (x193001.drop (x9 : Int).toNat) (rd x8 1) 0) else (none)) else (none)) else (none))
def relay_Get.l0 : Nat → List Int → List (S46) → List Int → Int → Int → Option (Int × (List (S46)) × Int)
 | 0, _, _, _, _, _ => none
 | k + 1, x8, x10, x11, x61, x62 => if x62 < x61 then ((relay_hop.f k x11).bind fun bt206 => (if bt206.2.2.2.2.2.2 = true then (if x10.length < 3518437208883 then (relay_Get.l0 k x8 (x10 ++ [(⟨bt206.1, (⟨bt206.2.1, bt206.2.2.1, bt206.2.2.2.1, bt206.2.2.2.2.1⟩ : S44)⟩ : S46)]) bt206.2.2.2.2.2.1 x61 (IntKind.u64.wrap (x62 + 1))) else (none)) else (some (0, ([] : List (S46)), 2)))) else (if (x11.length : Int) > 0 then (some (0, ([] : List (S46)), 2)) else (if 0 < (x8.length : Int) then ((relay_may.f k (wrap64 (rd x8 0)) x10).bind fun t220 => (if t220 = true then (some (wrap64 (rd x8 0), x10, 0)) else (some (0, ([] : List (S46)), 2)))) else (none)))
end
def relay_Get.f (k : Nat) (l0 : List Int) : Option (Int × (List (S46)) × Int) := (frame_First.f k l0).bind fun bt186 => (if bt186.2.2.2 = 0 then (if bt186.2.2.1 = (l0.length : Int) then (relay_Get.j0 k (bt186.1 != 4) bt186.1 bt186.2.1) else (relay_Get.j0 k true bt186.1 bt186.2.1)) else (relay_Get.j0 k true bt186.1 bt186.2.1))
theorem relay_Get.mono_l : ∀ k, (∀ y0 y1 y2, LeO (relay_Get.j0 k y0 y1 y2) (relay_Get.j0 (k + 1) y0 y1 y2)) ∧ (∀ y0 y1 y2 y3 y4, LeO (relay_Get.j1 k y0 y1 y2 y3 y4) (relay_Get.j1 (k + 1) y0 y1 y2 y3 y4)) ∧ (∀ y0 y1 y2 y3 y4, LeO (relay_Get.l0 k y0 y1 y2 y3 y4) (relay_Get.l0 (k + 1) y0 y1 y2 y3 y4))
 | 0 => ⟨fun _ _ _ r h => by simp [relay_Get.j0] at h, fun _ _ _ _ _ r h => by simp [relay_Get.j1] at h, fun _ _ _ _ _ r h => by simp [relay_Get.l0] at h⟩
 | k + 1 => by
  obtain ⟨ih0, ih1, ih2⟩ := relay_Get.mono_l k
  refine ⟨?_, ?_, ?_⟩
  ·intro y0 y1 y2
   unfold relay_Get.j0
   repeat' first
   | (with_reducible exact ih0 _ _ _)
   | (with_reducible exact ih1 _ _ _ _ _)
   | (with_reducible exact ih2 _ _ _ _ _)
   | (with_reducible exact frame_First.mono _ _)
   | (with_reducible exact relay_hop.mono _ _)
   | (with_reducible exact relay_may.mono _ _ _)
   | (with_reducible exact varint_All.mono _ _ _)
   | (with_reducible exact LeO.refl _)
   | (with_reducible exact LeO.none _)
   | (with_reducible refine LeO.ite ?_ ?_)
   | (with_reducible refine LeO.bind ?_ (fun _ => ?_))
   | exact ih0 _ _ _
   | exact ih1 _ _ _ _ _
   | exact ih2 _ _ _ _ _
   | exact frame_First.mono _ _
   | exact relay_hop.mono _ _
   | exact relay_may.mono _ _ _
   | exact varint_All.mono _ _ _
   | exact LeO.none _
   | refine LeO.ite ?_ ?_
   | refine LeO.bind ?_ (fun _ => ?_)
  ·intro y0 y1 y2 y3 y4
   unfold relay_Get.j1
   repeat' first
   | (with_reducible exact ih0 _ _ _)
   | (with_reducible exact ih1 _ _ _ _ _)
   | (with_reducible exact ih2 _ _ _ _ _)
   | (with_reducible exact frame_First.mono _ _)
   | (with_reducible exact relay_hop.mono _ _)
   | (with_reducible exact relay_may.mono _ _ _)
   | (with_reducible exact varint_All.mono _ _ _)
   | (with_reducible exact LeO.refl _)
   | (with_reducible exact LeO.none _)
   | (with_reducible refine LeO.ite ?_ ?_)
   | (with_reducible refine LeO.bind ?_ (fun _ => ?_))
   | exact ih0 _ _ _
   | exact ih1 _ _ _ _ _
   | exact ih2 _ _ _ _ _
   | exact frame_First.mono _ _
   | exact relay_hop.mono _ _
   | exact relay_may.mono _ _ _
   | exact varint_All.mono _ _ _
   | exact LeO.none _
   | refine LeO.ite ?_ ?_
   | refine LeO.bind ?_ (fun _ => ?_)
  ·intro y0 y1 y2 y3 y4
   unfold relay_Get.l0
   repeat' first
   | (with_reducible exact ih0 _ _ _)
   | (with_reducible exact ih1 _ _ _ _ _)
   | (with_reducible exact ih2 _ _ _ _ _)
   | (with_reducible exact frame_First.mono _ _)
   | (with_reducible exact relay_hop.mono _ _)
   | (with_reducible exact relay_may.mono _ _ _)
   | (with_reducible exact varint_All.mono _ _ _)
   | (with_reducible exact LeO.refl _)
   | (with_reducible exact LeO.none _)
   | (with_reducible refine LeO.ite ?_ ?_)
   | (with_reducible refine LeO.bind ?_ (fun _ => ?_))
   | exact ih0 _ _ _
   | exact ih1 _ _ _ _ _
   | exact ih2 _ _ _ _ _
   | exact frame_First.mono _ _
   | exact relay_hop.mono _ _
   | exact relay_may.mono _ _ _
   | exact varint_All.mono _ _ _
   | exact LeO.none _
   | refine LeO.ite ?_ ?_
   | refine LeO.bind ?_ (fun _ => ?_)
theorem relay_Get.mono : ∀ a0 k, LeO (relay_Get.f k a0) (relay_Get.f (k + 1) a0) := by
 intro a0 k
 obtain ⟨ih0, ih1, ih2⟩ := relay_Get.mono_l k
 unfold relay_Get.f
 repeat' first
   | (with_reducible exact ih0 _ _ _)
   | (with_reducible exact ih1 _ _ _ _ _)
   | (with_reducible exact ih2 _ _ _ _ _)
   | (with_reducible exact frame_First.mono _ _)
   | (with_reducible exact relay_hop.mono _ _)
   | (with_reducible exact relay_may.mono _ _ _)
   | (with_reducible exact varint_All.mono _ _ _)
   | (with_reducible exact LeO.refl _)
   | (with_reducible exact LeO.none _)
   | (with_reducible refine LeO.ite ?_ ?_)
   | (with_reducible refine LeO.bind ?_ (fun _ => ?_))
   | exact ih0 _ _ _
   | exact ih1 _ _ _ _ _
   | exact ih2 _ _ _ _ _
   | exact frame_First.mono _ _
   | exact relay_hop.mono _ _
   | exact relay_may.mono _ _ _
   | exact varint_All.mono _ _ _
   | exact LeO.none _
   | refine LeO.ite ?_ ?_
   | refine LeO.bind ?_ (fun _ => ?_)
set_option maxHeartbeats 8000000 in
set_option maxRecDepth 100000 in
theorem relay_Get.calls (k : Nat) (A0 : Option Addr) (c0 : Nat) (l0 : List Int) (r1 : Int) (r2 : List (S46)) (r3 : Int) (w : World) (hr0 : Kd.C (Kd.int .u8) w A0 l0.length l0) (hc0 : l0.length ≤ c0) (h : relay_Get.f k l0 = some (r1, r2, r3)) :
  Calls Try.prog 6 #[.slice A0 l0.length c0] w fun e w' => ∃ v1_ : Value, e = .returned (.tuple #[.int .i64 r1, v1_, .int .i64 r3]) ∧ Kd.R k46 46 w' w.heap.size (fun _ => True) v1_ r2 ∧ Below w.heap.size w w' := by
 have hu50 := Try.underlying50
 have hu46 := Try.underlying46
 have HR0 := Am hr0
 have HC0 := Am hc0
 clear hr0 hc0
 have HB := Am (Below.refl w.heap.size w)
 have H : ((frame_First.f k l0).bind fun bt186 => (if bt186.2.2.2 = 0 then (if bt186.2.2.1 = (l0.length : Int) then (relay_Get.j0 k (bt186.1 != 4) bt186.1 bt186.2.1) else (relay_Get.j0 k true bt186.1 bt186.2.1)) else (relay_Get.j0 k true bt186.1 bt186.2.1))) = some (r1, r2, r3) := h
 clear h
 replace H := Option.bind_eq_some_iff.mp H
 obtain ⟨⟨t186, t187, t190, t191⟩, A20, H⟩ := H
 replace H : (if t191 = 0 then (if t190 = (l0.length : Int) then (relay_Get.j0 k (t186 != 4) t186 t187) else (relay_Get.j0 k true t186 t187)) else (relay_Get.j0 k true t186 t187)) = some (r1, r2, r3) := H
 have A2 := Am A20
 clear A20
 have HC3 := Am H
 clear H
 go_enter Try.func6, Try.ntmps6
 go_upto_region 2 with (first | ((with_reducible refine gate_callee (f := 16) rfl ?_); refine goesL_ (some 17) rfl rfl Try.func16 (by kernel_rfl) rfl #[.slice A0 l0.length c0] rfl pL ?_; (with_reducible refine (frame_First.calls k _ _ l0 t186 t187 t190 t191 _ ?Al ?Ax A2.out).mono ?_); (case Al => repeat (first | exact HR0.out | (with_reducible refine Kd.C_alloc ?_ _) | (with_reducible refine Kd.C_drewN ?_ _) | (with_reducible refine Kd.C_drew ?_))); (case Ax => exact HC0.out); rintro e w4 ⟨v188, rfl, ho0, hb⟩; refine ⟨_, rfl, ?_⟩; have Ay := Am (Kd.R_lower ho0 (below_size (pB HB.out))); replace HB := Am (below_step (pB HB.out) hb); (try clear hb); (try clear hb2); (try clear hk); (try clear hi); (try clear ho0)) | ((with_reducible refine gate_dst (N := 5) rfl ?_); (try (refine gate_guard (by rfl) ?_; dsimp only)); refine box_event ?hg (N := 5) ?hd (cs := #[.int .i64 0, .slice none 0 0]) (t := 50) ?hr ?_; (case hd => rfl); (case hg => rfl); (case hr => first | (go_simp; done) | (go_simp; rfl)); intro Ag hg w5 hbox hb; replace Ay := bRa Ay hb; have Ab := Am (hbox); have Bw := Am ((by rw [hg]; exact (below_size (pB HB.out)) : w.heap.size ≤ Ag)); replace HB := Am (below_step (pB HB.out) hb); have Ad := Bw; clear hb hbox hg; obtain ⟨A9, Ba⟩ := bc2 Ab.out; obtain ⟨Bb, Bc⟩ := bf2 Ab.out; obtain ⟨Bk, Bj, Cf⟩ := Kd.R_slice Ay.out; subst Cf))
 (try simp only [Act.put, List.setIfInBounds_toArray, List.set_cons_zero, List.set_cons_succ])
 go_cut [33] (fun v33 wc => ∃ (kq : Nat) (Bd : Bool), v33 = .bool Bd ∧ Aside0 (relay_Get.j0 kq Bd t186 t187 = some (r1, r2, r3)) ∧ Aside0 (kq ≤ k) ∧ Aside0 (Kd.R (Kd.int .u8) 5 wc w.heap.size (fun _ => True) (.slice Bk t187.length Bj) t187) ∧ Aside0 (wc.heap[Ag]? = some (.cells #[.int .i64 t186, (.slice Bk t187.length Bj)] 50 (0, 0))) ∧ Aside0 (Below w.heap.size w wc))
 case first =>
  have H := HC3.out
  clear HC3
  by_cases c8 : t191 = 0
  rotate_left
  ·rw [if_neg c8] at H
   have c8b0 : (t191 == 0) = false := beq_eq_false_iff_ne.mpr c8
   have c8b1 : (t191 != 0) = true := bne_iff_ne.mpr c8
   (first | rw [c8b0] | (simp only [i64_w, i32_w]; rw [c8b0]) | skip)
   have H' := Am H
   clear H
   go_wp2
   go_meet
   case rel => exact ⟨_, (true), (by first | rfl | (simp; done) | (simp [*]; done)), H', ⟨by first | omega | exact Nat.le_refl _⟩, ⟨by (with_reducible repeat (first | apply Kd.R_alloc | apply Kd.R_drewN | apply Kd.R_drew)); exact Kd.R_mono (Rf2 (g := Ag) (Kd.R_types Ay.out Ab.out (by decide)) (fun _ hk => hk.2)) (fun _ hk => trivial)⟩, ⟨kX0 Ab.out⟩, ⟨pE HB.out Ad.out⟩⟩
  rw [if_pos c8] at H
  have c8b0 : (t191 == 0) = true := beq_iff_eq.mpr c8
  have c8b1 : (t191 != 0) = false := bne_eq_false_iff_eq.mpr c8
  clear c8
  (first | rw [c8b0] | (simp only [i64_w, i32_w]; rw [c8b0]) | skip)
  by_cases c9 : t190 = (l0.length : Int)
  rotate_left
  ·rw [if_neg c9] at H
   have c9b0 : (t190 == (l0.length : Int)) = false := beq_eq_false_iff_ne.mpr c9
   have c9b1 : (t190 != (l0.length : Int)) = true := bne_iff_ne.mpr c9
   have H' := Am H
   clear H
   go_wp2
   go_meet
   case rel => exact ⟨_, (true), (by first | rfl | (simp; done) | (simp [*]; done)), H', ⟨by first | omega | exact Nat.le_refl _⟩, ⟨by (with_reducible repeat (first | apply Kd.R_alloc | apply Kd.R_drewN | apply Kd.R_drew)); exact Kd.R_mono (Rf2 (g := Ag) (Kd.R_types Ay.out Ab.out (by decide)) (fun _ hk => hk.2)) (fun _ hk => trivial)⟩, ⟨kX0 Ab.out⟩, ⟨pE HB.out Ad.out⟩⟩
  rw [if_pos c9] at H
  have c9b0 : (t190 == (l0.length : Int)) = true := beq_iff_eq.mpr c9
  have c9b1 : (t190 != (l0.length : Int)) = false := bne_eq_false_iff_eq.mpr c9
  clear c9
  have H' := Am H
  clear H
  obtain ⟨A1, A3⟩ := bc2 Ab.out
  obtain ⟨A4, A5⟩ := bf2 Ab.out
  go_wp2
  go_meet
  case rel => exact ⟨_, ((t186 != 4)), (by first | rfl | (simp; done) | (simp [*]; done)), H', ⟨by first | omega | exact Nat.le_refl _⟩, ⟨by (with_reducible repeat (first | apply Kd.R_alloc | apply Kd.R_drewN | apply Kd.R_drew)); exact Kd.R_mono (Rf2 (g := Ag) (Kd.R_types Ay.out Ab.out (by decide)) (fun _ hk => hk.2)) (fun _ hk => trivial)⟩, ⟨kX0 Ab.out⟩, ⟨pE HB.out Ad.out⟩⟩
 case rest =>
  clear HC3
  try clear c1
  try clear p2
  try clear c6
  try clear c8
  try clear c8b0
  try clear c8b1
  try clear c9
  try clear c9b0
  try clear c9b1
  try clear A1 A3
  try clear A9 Ba
  try clear A4 A5
  try clear Bb Bc
  obtain ⟨kq, Bd, rfl, HA, HJ2, Aa, Ab, HB⟩ := hcut
  cases kq with
  | zero => exact absurd HA.out (by simp [relay_Get.j0])
  | succ kj2 =>
   have H := HA.out
   clear HA
   simp only [relay_Get.j0] at H
   by_cases c11 : Bd = true
   ·subst c11
    have H1 : (some (0, ([] : List (S46)), 2)) = some (r1, r2, r3) := by rw [if_pos rfl] at H; exact H
    clear H
    have H := H1
    clear H1
    simp only [Option.some.injEq, Prod.mk.injEq] at H
    obtain ⟨rfl, rfl, rfl⟩ := H
    go_wp2
    go_ret3
    exact ⟨_, pX, by first | exact Kd.R_nil _ _ _ _ _ | exact Kd.N_nil _ _ _ _ _ | exact Kd.V_nil _ _ _ _ _ | exact Kd.Q_nil _ _ _ _ _ | exact Kd.S_nil _ _ _ _ _, pE HB.out Ad.out⟩
   replace c11 := Bool.eq_false_iff.mpr c11
   subst c11
   have H1 : ((varint_All.f kj2 t187 2).bind fun bt193 => (if bt193.2.2 = 0 then (if 0 < (bt193.1.length : Int) then (if (rd bt193.1 0) > 2147483647 then (relay_Get.j1 kj2 bt193.1 bt193.2.1 true t186 t187) else (if 1 < (bt193.1.length : Int) then (relay_Get.j1 kj2 bt193.1 bt193.2.1 (decide ((rd bt193.1 1) > 16384)) t186 t187) else (none))) else (none)) else (relay_Get.j1 kj2 bt193.1 bt193.2.1 true t186 t187))) = some (r1, r2, r3) := by rw [if_neg (show ¬ (false = true) by decide)] at H; exact H
   clear H
   have H := H1
   clear H1
   replace H := Option.bind_eq_some_iff.mp H
   obtain ⟨⟨t193, t194, t195⟩, A120, H⟩ := H
   replace H : (if t195 = 0 then (if 0 < (t193.length : Int) then (if (rd t193 0) > 2147483647 then (relay_Get.j1 kj2 t193 t194 true t186 t187) else (if 1 < (t193.length : Int) then (relay_Get.j1 kj2 t193 t194 (decide ((rd t193 1) > 16384)) t186 t187) else (none))) else (none)) else (relay_Get.j1 kj2 t193 t194 true t186 t187)) = some (r1, r2, r3) := H
   have A12 := Am A120
   clear A120
   have HC13 := Am H
   clear H
   obtain ⟨Be, Bf⟩ := bc2 Ab.out
   obtain ⟨Bg, Bh⟩ := bf2 Ab.out
   go_upto_region 5 with (first | ((with_reducible refine gate_callee (f := 17) rfl ?_); refine goesL_ (some 37) rfl rfl Try.func17 (by kernel_rfl) rfl #[.slice Bk t187.length Bj, .int .i64 2] rfl pL ?_; (with_reducible refine (varint_All.calls kj2 _ _ t187 2 t193 t194 t195 _ ?Al ?Ax A12.out).mono ?_); (case Al => exact pC (Kd.R_reads' Aa.out).2.2); (case Ax => exact (Kd.R_reads' Aa.out).2.1); rintro e w15 ⟨v196, rfl, ho0, hb⟩; refine ⟨_, rfl, ?_⟩; replace Aa := bRa Aa hb; have At := Am (Kd.R_lower ho0 (below_size (pE HB.out Ad.out))); replace Ab := kBa Ab hb; replace HB := Am (below_step (pE HB.out Ad.out) hb); (try clear hb); (try clear hb2); (try clear hk); (try clear hi); (try clear ho0)))
   (try simp only [Act.put, List.setIfInBounds_toArray, List.set_cons_zero, List.set_cons_succ])
   go_cut [54] (fun v54 wc => ∃ (kq : Nat) (Az : Bool), v54 = .bool Az ∧ Aside0 (relay_Get.j1 kq t193 t194 Az t186 t187 = some (r1, r2, r3)) ∧ Aside0 (kq ≤ kj2) ∧ Aside0 (Kd.R (Kd.int .u64) 56 wc w.heap.size (fun _ => True) v196 t193) ∧ Aside0 (Kd.R (Kd.int .u8) 5 wc w.heap.size (fun _ => True) (.slice Bk t187.length Bj) t187) ∧ Aside0 (wc.heap[Ag]? = some (.cells #[.int .i64 t186, (.slice Bk t187.length Bj)] 50 (0, 0))) ∧ Aside0 (Below w.heap.size w wc))
   case first =>
    have H := HC13.out
    clear HC13
    by_cases c16 : t195 = 0
    rotate_left
    ·rw [if_neg c16] at H
     have c16b0 : (t195 == 0) = false := beq_eq_false_iff_ne.mpr c16
     have c16b1 : (t195 != 0) = true := bne_iff_ne.mpr c16
     (first | rw [c16b0] | (simp only [i64_w, i32_w]; rw [c16b0]) | skip)
     have H' := Am H
     clear H
     go_wp2
     go_meet
     case rel => exact ⟨_, (true), (by first | rfl | (simp; done) | (simp [*]; done)), H', ⟨by have := HJ2.out; first | omega | exact Nat.le_refl _⟩, ⟨by (with_reducible repeat (first | apply Kd.R_alloc | apply Kd.R_drewN | apply Kd.R_drew)); exact At.out⟩, ⟨by (with_reducible repeat (first | apply Kd.R_alloc | apply Kd.R_drewN | apply Kd.R_drew)); exact Aa.out⟩, ⟨pK Ab.out⟩, ⟨pE HB.out Ad.out⟩⟩
    rw [if_pos c16] at H
    have c16b0 : (t195 == 0) = true := beq_iff_eq.mpr c16
    have c16b1 : (t195 != 0) = false := bne_eq_false_iff_eq.mpr c16
    clear c16
    (first | rw [c16b0] | (simp only [i64_w, i32_w]; rw [c16b0]) | skip)
    by_cases c17 : 0 < (t193.length : Int)
    rotate_left
    ·rw [if_neg c17] at H
     exact absurd H (by simp)
    rw [if_pos c17] at H
    have c17b0 : decide (0 < (t193.length : Int)) = true := decide_eq_true c17
    have c17b1 : decide (0 < t193.length) = true := decide_eq_true (by omega)
    clear c17
    by_cases c18 : (rd t193 0) > 2147483647
    ·rw [if_pos c18] at H
     have c18b0 : decide (2147483647 < (rd t193 0)) = true := decide_eq_true c18
     clear c18
     have H' := Am H
     clear H
     obtain ⟨Ao19, co19, B1⟩ := Kd.R_slice At.out
     subst B1
     have p198 : 0 ≤ (0 : Int) := (by omega)
     have q198 : 0 < (t193.length : Int) := of_decide_eq_true pS
     obtain ⟨Bs, e198, Aj⟩ := Kd.at_int (Kd.R_reads' At.out).2.2 0 p198 q198
     cases e198
     have qi198 : (0 < t193.length) = True := eq_true (by omega)
     (try rw [tz] at Aj)
     (try rw [Addr.add_zero'] at Aj)
     replace p198 := eq_true p198
     replace q198 := eq_true q198
     go_wp2
     go_meet
     case rel => exact ⟨_, (true), (by first | rfl | (simp; done) | (simp [*]; done)), H', ⟨by have := HJ2.out; first | omega | exact Nat.le_refl _⟩, ⟨by (with_reducible repeat (first | apply Kd.R_alloc | apply Kd.R_drewN | apply Kd.R_drew)); exact At.out⟩, ⟨by (with_reducible repeat (first | apply Kd.R_alloc | apply Kd.R_drewN | apply Kd.R_drew)); exact Aa.out⟩, ⟨pK Ab.out⟩, ⟨pE HB.out Ad.out⟩⟩
    rw [if_neg c18] at H
    have c18b0 : decide (2147483647 < (rd t193 0)) = false := decide_eq_false c18
    clear c18
    by_cases c20 : 1 < (t193.length : Int)
    rotate_left
    ·rw [if_neg c20] at H
     exact absurd H (by simp)
    rw [if_pos c20] at H
    have c20b0 : decide (1 < (t193.length : Int)) = true := decide_eq_true c20
    have c20b1 : decide (1 < t193.length) = true := decide_eq_true (by omega)
    clear c20
    have H' := Am H
    clear H
    obtain ⟨Ao21, co21, B2⟩ := Kd.R_slice At.out
    subst B2
    have p198 : 0 ≤ (0 : Int) := (by omega)
    have q198 : 0 < (t193.length : Int) := of_decide_eq_true pS
    obtain ⟨Bs, e198, Aj⟩ := Kd.at_int (Kd.R_reads' At.out).2.2 0 p198 q198
    cases e198
    have qi198 : (0 < t193.length) = True := eq_true (by omega)
    (try rw [tz] at Aj)
    (try rw [Addr.add_zero'] at Aj)
    replace p198 := eq_true p198
    replace q198 := eq_true q198
    have p199 : 0 ≤ (1 : Int) := (by omega)
    have q199 : 1 < (t193.length : Int) := of_decide_eq_true pS
    obtain ⟨Bx, e199, Av⟩ := Kd.at_int (Kd.R_reads' At.out).2.2 1 p199 q199
    obtain rfl : Bs = Bx := (by injection e199)
    (try simp only [show (1 : Int).toNat = 1 from rfl, Nat.reduceMul, Nat.reduceEqDiff, Go.Addr.add, ↓reduceIte] at Av)
    have qi199 : (1 < t193.length) = True := eq_true (by omega)
    (try rw [show ((1 : Int)).toNat = 1 from rfl] at Av)
    replace p199 := eq_true p199
    replace q199 := eq_true q199
    go_wp2
    go_meet
    case rel => exact ⟨_, (decide ((rd t193 1) > 16384)), (by first | rfl | (simp; done) | (simp [*]; done)), H', ⟨by have := HJ2.out; first | omega | exact Nat.le_refl _⟩, ⟨by (with_reducible repeat (first | apply Kd.R_alloc | apply Kd.R_drewN | apply Kd.R_drew)); exact At.out⟩, ⟨by (with_reducible repeat (first | apply Kd.R_alloc | apply Kd.R_drewN | apply Kd.R_drew)); exact Aa.out⟩, ⟨pK Ab.out⟩, ⟨pE HB.out Ad.out⟩⟩
   case rest =>
    clear HC13
    try clear c1
    try clear p1
    try clear q1
    try clear hx1
    try clear qi1
    try clear c2
    try clear p2
    try clear c6
    try clear c8
    try clear c8b0
    try clear c8b1
    try clear c9
    try clear c9b0
    try clear c9b1
    try clear c11
    try clear c16
    try clear c16b0
    try clear c16b1
    try clear c17
    try clear c17b0
    try clear c17b1
    try clear c18
    try clear c18b0
    try clear p19
    try clear q19
    try clear hx19
    try clear qi19
    try clear c20
    try clear c20b0
    try clear c20b1
    try clear A1 A3
    try clear Be Bf
    try clear A9 Ba
    try clear A4 A5
    try clear Bg Bh
    try clear Bb Bc
    try clear Aj
    try clear Av
    try clear p198
    try clear p199
    try clear p2
    try clear q198
    try clear q199
    obtain ⟨kq, Az, rfl, HA, HJ12, Ah, Aa, Ab, HB⟩ := hcut
    cases kq with
    | zero => exact absurd HA.out (by simp [relay_Get.j1])
    | succ kj12 =>
     have H := HA.out
     clear HA
     simp only [relay_Get.j1] at H
     by_cases c22 : Az = true
     ·subst c22
      have H1 : (some (0, ([] : List (S46)), 2)) = some (r1, r2, r3) := by rw [if_pos rfl] at H; exact H
      clear H
      have H := H1
      clear H1
      simp only [Option.some.injEq, Prod.mk.injEq] at H
      obtain ⟨rfl, rfl, rfl⟩ := H
      go_wp2
      go_ret3
      exact ⟨_, pX, by first | exact Kd.R_nil _ _ _ _ _ | exact Kd.N_nil _ _ _ _ _ | exact Kd.V_nil _ _ _ _ _ | exact Kd.Q_nil _ _ _ _ _ | exact Kd.S_nil _ _ _ _ _, pE HB.out Ad.out⟩
     replace c22 := Bool.eq_false_iff.mpr c22
     subst c22
     have H1 : (if 0 ≤ t194 then (if t194 ≤ (t187.length : Int) then (if 1 < (t193.length : Int) then (relay_Get.l0 kj12 t193 ([] : List (S46)) (t187.drop (t194 : Int).toNat) (rd t193 1) 0) else (none)) else (none)) else (none)) = some (r1, r2, r3) := by rw [if_neg (show ¬ (false = true) by decide)] at H; exact H
     clear H
     have H := H1
     clear H1
     by_cases c23 : 0 ≤ t194
     rotate_left
     ·rw [if_neg c23] at H
      exact absurd H (by simp)
     rw [if_pos c23] at H
     have c23b0 := eq_true c23
     have c23b1 : decide (0 ≤ t194) = true := decide_eq_true c23
     clear c23
     by_cases c24 : t194 ≤ (t187.length : Int)
     rotate_left
     ·rw [if_neg c24] at H
      exact absurd H (by simp)
     rw [if_pos c24] at H
     have c24b0 := eq_true c24
     have c24b1 : decide (t194 ≤ (t187.length : Int)) = true := decide_eq_true c24
     clear c24
     obtain ⟨y200, hy200⟩ : ∃ y_ : List Int, y_ = (t187.drop (t194 : Int).toNat) := ⟨_, rfl⟩
     replace H : (if 1 < (t193.length : Int) then (relay_Get.l0 kj12 t193 ([] : List (S46)) y200 (rd t193 1) 0) else (none)) = some (r1, r2, r3) := by first | (rw [hy200]; with_reducible exact H) | (have H2_ := (Option.bind_some _ _).symm.trans H; rw [hy200]; with_reducible exact H2_) | (have H2_ := (Option.bind_some _ _).symm.trans H; with_reducible exact H2_) | with_reducible exact H | (rw [hy200]; exact H) | exact H
     have Ny200 := Am hy200
     clear hy200
     by_cases c25 : 1 < (t193.length : Int)
     rotate_left
     ·rw [if_neg c25] at H
      exact absurd H (by simp)
     rw [if_pos c25] at H
     have c25b0 : decide (1 < (t193.length : Int)) = true := decide_eq_true c25
     have c25b1 : decide (1 < t193.length) = true := decide_eq_true (by omega)
     clear c25
     have H' := Am H
     clear H
     obtain ⟨Bo, Bp⟩ := bc2 Ab.out
     obtain ⟨Bq, Br⟩ := bf2 Ab.out
     have q27 : (t194 : Int) ≤ ((t187.length : Int) : Int) := of_decide_eq_true pS
     obtain ⟨i027, hi027, _, Bt, _⟩ := info_parts info5
     have Aw : t187.length ≤ Bj := (Kd.R_reads' Aa.out).2.1
     have Bv : Kd.F (Kd.int .u8) _ _ Bk t187.length t187 := (Kd.V_at (base := w.heap.size) (Kd.R_V (Kd.R_types (Kd.R_apart' (Aa.out) (Kd.R_typed Ah.out) (by decide)) Ab.out (by decide)))).2.2
     have q027 : (0 : Int) ≤ (t194 : Int) := of_decide_eq_true pS
     have Bu := cut_from (P := Try.prog) 22 5 .i64 Try.underlying22 hi027 1 Bt Bk t187.length Bj t194 q027 q27
     have Bl := Kd.F_cut (m := (t194 : Int).toNat) (c := Bj) Bv (by omega) Aw
     obtain ⟨A27, hA27⟩ : ∃ AX_, AX_ = (if Bj = (t194 : Int).toNat then Bk else (Bk : Option Addr).map (·.add ((t194 : Int).toNat * 1))) := ⟨_, rfl⟩
     obtain ⟨c27, hc27⟩ : ∃ cX_, cX_ = Bj - (t194 : Int).toNat := ⟨_, rfl⟩
     have hy27 : y200.length = t187.length - (t194 : Int).toNat := (by rw [Ny200.out, List.length_drop] <;> omega)
     rw [show (t187).drop (t194 : Int).toNat = y200 from Ny200.out.symm] at Bl
     replace Bl : Kd.F (Kd.int .u8) _ _ A27 y200.length y200 := (by rw [hA27]; exact Bl)
     rw [← hy27, ← hA27, ← hc27] at Bu
     have By := Am (show Kd.V (Kd.int .u8) 5 _ w.heap.size _ (.slice A27 y200.length c27) y200 from Kd.V_mk (by rw [hy27, hc27]; exact Nat.sub_le_sub_right Aw _) Bl)
     have HC204 := Am (show y200.length ≤ c27 from by rw [hy27, hc27]; exact Nat.sub_le_sub_right Aw _)
     clear Bl Bv Aw hi027 Bt hc27
     have KY27 := Am hy27
     have KA27 := Am hA27
     clear hy27 hA27
     replace q27 := eq_true q27
     obtain ⟨Ao28, A7, B3⟩ := Kd.R_slice Ah.out
     subst B3
     have p205 : 0 ≤ (1 : Int) := (by omega)
     have q205 : 1 < (t193.length : Int) := of_decide_eq_true pS
     obtain ⟨An, e205, A6⟩ := Kd.at_int (Kd.R_reads' Ah.out).2.2 1 p205 q205
     cases e205
     (try simp only [show (1 : Int).toNat = 1 from rfl, Nat.reduceMul, Nat.reduceEqDiff, Go.Addr.add, ↓reduceIte] at A6)
     have qi205 : (1 < t193.length) = True := eq_true (by omega)
     (try rw [show ((1 : Int)).toNat = 1 from rfl] at A6)
     replace p205 := eq_true p205
     replace q205 := eq_true q205
     go_wp2
     go_loopg [10, 11, 62] kj12 (fun kq v10 v11 v62 w' => ∃ (Ai : List (S46)) (Ak : List Int) (Ap : Int), v62 = .int .u64 Ap ∧ Aside0 (relay_Get.l0 kq t193 Ai Ak (rd t193 1) Ap = some (r1, r2, r3)) ∧ Aside0 (kq ≤ kj12) ∧ Aside0 (Kd.R (Kd.int .u64) 56 w' w.heap.size (fun _ => True) (.slice (some An) t193.length A7) t193) ∧ Aside0 (Kd.R k46 46 w' w.heap.size (fun _ => True) v10 Ai) ∧ Aside0 (Kd.V (Kd.int .u8) 5 w' w.heap.size (fun k_ => some k_ ≠ ((.slice (some An) t193.length A7) : Value).ownBlock ∧ some k_ ≠ (v10 : Value).ownBlock ∧ k_ ≠ Ag) v11 Ak) ∧ Aside0 (Kd.R (Kd.int .u8) 5 w' w.heap.size (fun _ => True) (.slice Bk t187.length Bj) t187) ∧ Aside0 (w'.heap[Ag]? = some (.cells #[.int .i64 t186, (.slice Bk t187.length Bj)] 50 (0, 0))) ∧ Aside0 (Below w.heap.size w w'))
     case atStart => exact ⟨(([] : List (S46))), (y200), (0), (by first | rfl | (simp; done) | (simp [*]; done)), H', ⟨Nat.le_refl _⟩, ⟨by (with_reducible repeat (first | apply Kd.R_alloc | apply Kd.R_drewN | apply Kd.R_drew)); exact Ah.out⟩, ⟨by first | exact Kd.R_nil _ _ _ _ _ | exact Kd.N_nil _ _ _ _ _ | exact Kd.V_nil _ _ _ _ _ | exact Kd.Q_nil _ _ _ _ _ | exact Kd.S_nil _ _ _ _ _⟩, ⟨by (with_reducible repeat (first | apply Kd.V_alloc | apply Kd.V_drewN | apply Kd.V_drew)); exact Kd.V_mono By.out (fun _ hk => ⟨hk.1.2, ⟨(by simp [Value.ownBlock]), hk.2⟩⟩)⟩, ⟨by (with_reducible repeat (first | apply Kd.R_alloc | apply Kd.R_drewN | apply Kd.R_drew)); exact Aa.out⟩, ⟨pK Ab.out⟩, ⟨pE HB.out Ad.out⟩⟩
     case round =>
      clear H'
      try clear c1
      try clear p1
      try clear q1
      try clear hx1
      try clear qi1
      try clear c2
      try clear p2
      try clear q2
      try clear hx2
      try clear qi2
      try clear c6
      try clear c8
      try clear c8b0
      try clear c8b1
      try clear c9
      try clear c9b0
      try clear c9b1
      try clear c11
      try clear c16
      try clear c16b0
      try clear c16b1
      try clear c17
      try clear c17b0
      try clear c17b1
      try clear c18
      try clear c18b0
      try clear p19
      try clear q19
      try clear hx19
      try clear qi19
      try clear c20
      try clear c20b0
      try clear c20b1
      try clear p20
      try clear q20
      try clear hx20
      try clear qi20
      try clear c22
      try clear c23
      try clear c23b0
      try clear c23b1
      try clear c24
      try clear c24b0
      try clear c24b1
      try clear c25
      try clear c25b0
      try clear c25b1
      try clear c27
      try clear q27
      try clear A1 A3
      try clear Be Bf
      try clear Bo Bp
      try clear A9 Ba
      try clear A4 A5
      try clear Bg Bh
      try clear Bq Br
      try clear Bb Bc
      try clear Aj
      try clear Av
      try clear A6
      try clear p1
      try clear p19
      try clear p198
      try clear p199
      try clear p2
      try clear p205
      try clear q027
      try clear q1
      try clear q19
      try clear q198
      try clear q199
      try clear q205
      try clear q27
      obtain ⟨Ai, Ak, Ap, rfl, HA, HK3, Ah, Ae, Af, Aa, Ab, HB⟩ := hrel
      cases gk with
      | zero => exact absurd HA.out (by simp [relay_Get.l0])
      | succ k3 =>
       have H := HA.out
       clear HA
       simp only [relay_Get.l0] at H
       by_cases c29 : Ap < (rd t193 1)
       ·rw [if_pos c29] at H
        have c29b0 : decide (Ap < (rd t193 1)) = true := decide_eq_true c29
        clear c29
        replace H := Option.bind_eq_some_iff.mp H
        obtain ⟨⟨t206, t207, t208, t209, t210, t211, t214⟩, A300, H⟩ := H
        replace H : (if t214 = true then (if Ai.length < 3518437208883 then (relay_Get.l0 k3 t193 (Ai ++ [(⟨t206, (⟨t207, t208, t209, t210⟩ : S44)⟩ : S46)]) t211 (rd t193 1) (IntKind.u64.wrap (Ap + 1))) else (none)) else (some (0, ([] : List (S46)), 2))) = some (r1, r2, r3) := H
        have A30 := Am A300
        clear A300
        by_cases c31 : t214 = true
        rotate_left
        ·replace c31 := Bool.eq_false_iff.mpr c31
         subst c31
         have H1 : (some (0, ([] : List (S46)), 2)) = some (r1, r2, r3) := by rw [if_neg (show ¬ (false = true) by decide)] at H; exact H
         clear H
         have H := H1
         clear H1
         simp only [Option.some.injEq, Prod.mk.injEq] at H
         obtain ⟨rfl, rfl, rfl⟩ := H
         obtain ⟨B7, B8, B9⟩ := Kd.V_slice Af.out
         subst B9
         go_wp2_with (first | ((with_reducible refine gate_callee (f := 18) rfl ?_); refine goesL_ (some 66) rfl rfl Try.func18 (by kernel_rfl) rfl #[.slice B7 Ak.length B8] rfl pL ?_; (with_reducible refine (relay_hop.calls k3 (fun k_ => (some k_ ≠ (.slice (some An) t193.length A7 : Value).ownBlock ∧ (some k_ ≠ (u10 : Value).ownBlock ∧ k_ ≠ Ag))) _ _ Ak t206 t207 t208 t209 t210 t211 false _ ?Al A30.out).mono ?_); (case Al => exact Af.out); rintro e w40 ⟨v212, rfl, ho0, hb⟩; refine ⟨_, rfl, ?_⟩; replace Af := bVa Af hb; replace Aa := bRa Aa hb; have Au := Am (Kd.V_lower (Kd.V_mono (ok' := fun k_ => some k_ ≠ (.slice (some An) t193.length A7 : Value).ownBlock ∧ some k_ ≠ (u10 : Value).ownBlock ∧ k_ ≠ Ag) ho0 (fun k_ hk_ => ⟨Or.elim hk_ (fun hs_ => hs_.1) (fun hn_ => (Kd.fresh' (Kd.R_lt (pR Ah.out)) k_ hn_)), Or.elim hk_ (fun hs_ => hs_.2.1) (fun hn_ => (Kd.fresh' (Kd.R_lt (pR Ae.out)) k_ hn_)), Or.elim hk_ (fun hs_ => hs_.2.2) (fun hn_ => (kF Ab.out k_ hn_))⟩)) (below_size (pE HB.out Ad.out))); replace Ah := bRa Ah hb; replace Ae := bRa Ae hb; replace Ab := kBa Ab hb; replace HB := Am (below_step (pE HB.out Ad.out) hb); (try clear hb); (try clear hb2); (try clear hk); (try clear hi); (try clear ho0)) | ((with_reducible refine gate_dst (N := 12) rfl ?_); (try (refine gate_guard (by rfl) ?_; dsimp only)); refine box_event ?hg (N := 12) ?hd (cs := #[.int .i64 0, .int .i64 0, .int .i64 0, .int .i64 0, .int .u32 0]) (t := 46) ?hr ?_; (case hd => rfl); (case hg => rfl); (case hr => first | (go_simp; done) | (go_simp; rfl)); intro Ac hg w41 hbox hb; replace Ah := bRa Ah hb; replace Ae := Am (Kd.R_below (Kd.R_elderB (pR Ae.out) Ac (Nat.le_of_eq hg.symm)) hb); replace Af := Am (Kd.V_below (Kd.V_elderB (pV Af.out) Ac (Nat.le_of_eq hg.symm)) hb); replace Aa := bRa Aa hb; replace Au := Am (Kd.V_below (Kd.V_elderB (pV Au.out) Ac (Nat.le_of_eq hg.symm)) hb); have Aq := Am (hbox); have Bm := Am ((by rw [hg]; exact (below_size (pE HB.out Ad.out)) : w.heap.size ≤ Ac)); replace HB := Am (below_step (pE HB.out Ad.out) hb); have A8 := Bm; have Ao := Am ((by rw [hg]; exact Nat.ne_of_lt (kL Ab.out) : Ag ≠ Ac)); have As := Am ((by rw [hg]; exact Nat.ne_of_gt (kL Ab.out) : Ac ≠ Ag)); replace Ab := kBa Ab hb; clear hb hbox hg; have hnb42 := As.out; have hnc42 := Ao.out; obtain ⟨_, _, _, _, _⟩ := bc5 Aq.out; obtain ⟨_, _, _, _, _⟩ := bf5 Aq.out))
         go_ret3
         exact ⟨_, pX, by first | exact Kd.R_nil _ _ _ _ _ | exact Kd.N_nil _ _ _ _ _ | exact Kd.V_nil _ _ _ _ _ | exact Kd.Q_nil _ _ _ _ _ | exact Kd.S_nil _ _ _ _ _, pE2 HB.out Ad.out A8.out⟩
        subst c31
        have H1 : (if Ai.length < 3518437208883 then (relay_Get.l0 k3 t193 (Ai ++ [(⟨t206, (⟨t207, t208, t209, t210⟩ : S44)⟩ : S46)]) t211 (rd t193 1) (IntKind.u64.wrap (Ap + 1))) else (none)) = some (r1, r2, r3) := by rw [if_pos rfl] at H; exact H
        clear H
        have H := H1
        clear H1
        by_cases c32 : Ai.length < 3518437208883
        rotate_left
        ·rw [if_neg c32] at H
         exact absurd H (by simp)
        rw [if_pos c32] at H
        have LMc32 := Am c32
        clear c32
        obtain ⟨y216, hy216⟩ : ∃ y_ : List (S46), y_ = (Ai ++ [(⟨t206, (⟨t207, t208, t209, t210⟩ : S44)⟩ : S46)]) := ⟨_, rfl⟩
        replace H : (relay_Get.l0 k3 t193 y216 t211 (rd t193 1) (IntKind.u64.wrap (Ap + 1))) = some (r1, r2, r3) := by first | (rw [hy216]; with_reducible exact H) | (have H2_ := (Option.bind_some _ _).symm.trans H; rw [hy216]; with_reducible exact H2_) | (have H2_ := (Option.bind_some _ _).symm.trans H; with_reducible exact H2_) | with_reducible exact H | (rw [hy216]; exact H) | exact H
        have Ny216 := Am hy216
        clear hy216
        have H' := Am H
        clear H
        obtain ⟨B4, B5, B6⟩ := Kd.V_slice Af.out
        subst B6
        go_wp2_with (first | ((with_reducible refine gate_callee (f := 18) rfl ?_); refine goesL_ (some 66) rfl rfl Try.func18 (by kernel_rfl) rfl #[.slice B4 Ak.length B5] rfl pL ?_; (with_reducible refine (relay_hop.calls k3 (fun k_ => (some k_ ≠ (.slice (some An) t193.length A7 : Value).ownBlock ∧ (some k_ ≠ (u10 : Value).ownBlock ∧ k_ ≠ Ag))) _ _ Ak t206 t207 t208 t209 t210 t211 true _ ?Al A30.out).mono ?_); (case Al => exact Af.out); rintro e w34 ⟨v212, rfl, ho0, hb⟩; refine ⟨_, rfl, ?_⟩; replace Af := bVa Af hb; replace Aa := bRa Aa hb; have Au := Am (Kd.V_lower (Kd.V_mono (ok' := fun k_ => some k_ ≠ (.slice (some An) t193.length A7 : Value).ownBlock ∧ some k_ ≠ (u10 : Value).ownBlock ∧ k_ ≠ Ag) ho0 (fun k_ hk_ => ⟨Or.elim hk_ (fun hs_ => hs_.1) (fun hn_ => (Kd.fresh' (Kd.R_lt (pR Ah.out)) k_ hn_)), Or.elim hk_ (fun hs_ => hs_.2.1) (fun hn_ => (Kd.fresh' (Kd.R_lt (pR Ae.out)) k_ hn_)), Or.elim hk_ (fun hs_ => hs_.2.2) (fun hn_ => (kF Ab.out k_ hn_))⟩)) (below_size (pE HB.out Ad.out))); replace Ah := bRa Ah hb; replace Ae := bRa Ae hb; replace Ab := kBa Ab hb; replace HB := Am (below_step (pE HB.out Ad.out) hb); (try clear hb); (try clear hb2); (try clear hk); (try clear hi); (try clear ho0)) | ((with_reducible refine gate_dst (N := 12) rfl ?_); (try (refine gate_guard (by rfl) ?_; dsimp only)); refine box_event ?hg (N := 12) ?hd (cs := #[.int .i64 0, .int .i64 0, .int .i64 0, .int .i64 0, .int .u32 0]) (t := 46) ?hr ?_; (case hd => rfl); (case hg => rfl); (case hr => first | (go_simp; done) | (go_simp; rfl)); intro Ac hg w35 hbox hb; replace Ah := bRa Ah hb; replace Ae := Am (Kd.R_below (Kd.R_elderB (pR Ae.out) Ac (Nat.le_of_eq hg.symm)) hb); replace Af := Am (Kd.V_below (Kd.V_elderB (pV Af.out) Ac (Nat.le_of_eq hg.symm)) hb); replace Aa := bRa Aa hb; replace Au := Am (Kd.V_below (Kd.V_elderB (pV Au.out) Ac (Nat.le_of_eq hg.symm)) hb); have Aq := Am (hbox); have Bm := Am ((by rw [hg]; exact (below_size (pE HB.out Ad.out)) : w.heap.size ≤ Ac)); replace HB := Am (below_step (pE HB.out Ad.out) hb); have A8 := Bm; have Ao := Am ((by rw [hg]; exact Nat.ne_of_lt (kL Ab.out) : Ag ≠ Ac)); have As := Am ((by rw [hg]; exact Nat.ne_of_gt (kL Ab.out) : Ac ≠ Ag)); replace Ab := kBa Ab hb; clear hb hbox hg; have hnb36 := As.out; have hnc36 := Ao.out; obtain ⟨_, _, _, _, _⟩ := bc5 Aq.out; obtain ⟨_, _, _, _, _⟩ := bf5 Aq.out) | ((with_reducible refine gate_builtin (b := .append) (xs := #[.tmp 72, .tmp 74]) rfl ?_); (try (refine gate_guard (by rfl) ?_; dsimp only)); at_builtin; refine Kd.R_append k46 (w0 := w) w.heap.size rfl (.tmp 72) (.tmp 74) 24 46 (.agg #[(.int .i64 0), (.int .i64 0), (.int .i64 0), (.int .i64 0), (.int .u32 0)]) 40 rfl Try.underlying24 info46 rfl (by decide) (by omega) u10 Ai (⟨t206, (⟨t207, t208, t209, t210⟩ : S44)⟩ : S46) [.int .i64 t206, .int .i64 t207, .int .i64 t208, .int .i64 t209, .int .u32 t210] (fun k_ => k_ ≠ Ac) (fun _ => False) rfl (by first | (go_simp; done) | (go_simp; rfl)) ?aP (fun _ hk => hk.elim) ?aF ?aO ?aB ?aS ?aL ?_; (case aP => exact k46_mkM _ _ _ (⟨t206, (⟨t207, t208, t209, t210⟩ : S44)⟩ : S46)); (case aB => exact (pE2 HB.out Ad.out A8.out)); (case aF => exact (fun k_ hk => Kd.freshB (g := Ac) (o := .cells #[.int .i64 t206, .int .i64 t207, .int .i64 t208, .int .i64 t209, .int .u32 t210] 46 (0, 0)) (kX0 Aq.out) k_ hk)); (case aO => exact (by (with_reducible repeat (first | apply Kd.R_alloc | apply Kd.R_drewN | apply Kd.R_drew)); exact Kd.R_mono (Rf5 (g := Ac) (Kd.R_mono Ae.out (fun k_ hk => (⟨hk, hk.2⟩ : _ ∧ k_ ≠ Ac))) (fun _ hk => hk.2)) (fun _ hk => hk.1.2))); (case aS => exact (below_size (pE2 HB.out Ad.out A8.out))); (case aL => have := LMc32.out; omega); intro v217 w38 ho hb hg hat; rw [← Ny216.out] at ho; replace Ah := Am (Kd.R_over' (by (with_reducible repeat (first | apply Kd.R_alloc | apply Kd.R_drewN | apply Kd.R_drew)); exact (Kd.R_mono (Rf5 (g := Ac) (Kd.R_types Ah.out Aq.out (by decide)) (fun _ hk => hk.2)) (fun _ h_ => h_.1))) (Kd.R_typed (by (with_reducible repeat (first | apply Kd.R_alloc | apply Kd.R_drewN | apply Kd.R_drew)); exact (Kd.R_mono (Rf5 (g := Ac) (Kd.R_mono Ae.out (fun k_ hk => (⟨hk, hk.2⟩ : _ ∧ k_ ≠ Ac))) (fun _ hk => hk.2)) (fun _ h_ => h_.1)))) (by decide) hg); replace Af := Am (Kd.V_afterv (ok := (fun k_ => some k_ ≠ (.slice (some An) t193.length A7 : Value).ownBlock ∧ k_ ≠ Ag ∧ k_ ≠ Ac)) (by (with_reducible repeat (first | apply Kd.V_alloc | apply Kd.V_drewN | apply Kd.V_drew)); exact Kd.V_mono (Vf5 (g := Ac) (Kd.V_mono Af.out (fun k_ hk => (⟨hk, hk.2⟩ : _ ∧ k_ ≠ Ac))) (fun _ hk => hk.2)) (fun _ hk => ⟨⟨hk.1.1.1, ⟨hk.1.1.2.2, hk.1.2⟩⟩, hk.1.1.2.1⟩)) hg hat); replace Aa := Am (Kd.R_over' (by (with_reducible repeat (first | apply Kd.R_alloc | apply Kd.R_drewN | apply Kd.R_drew)); exact (Kd.R_mono (Rf5 (g := Ac) (Kd.R_types Aa.out Aq.out (by decide)) (fun _ hk => hk.2)) (fun _ h_ => h_.1))) (Kd.R_typed (by (with_reducible repeat (first | apply Kd.R_alloc | apply Kd.R_drewN | apply Kd.R_drew)); exact (Kd.R_mono (Rf5 (g := Ac) (Kd.R_mono Ae.out (fun k_ hk => (⟨hk, hk.2⟩ : _ ∧ k_ ≠ Ac))) (fun _ hk => hk.2)) (fun _ h_ => h_.1)))) (by decide) hg); replace Ab := Am (blk_grown (g := Ag) (o := .cells #[.int .i64 t186, .slice Bk t187.length Bj] 50 (0, 0)) (kX1 Ab.out Ao.out) hg (Kd.R_ne Ae.out Ab.out (by decide))); replace Au := Am (Kd.V_afterv (ok := (fun k_ => some k_ ≠ (.slice (some An) t193.length A7 : Value).ownBlock ∧ k_ ≠ Ag ∧ k_ ≠ Ac)) (by (with_reducible repeat (first | apply Kd.V_alloc | apply Kd.V_drewN | apply Kd.V_drew)); exact Kd.V_mono (Vf5 (g := Ac) (Kd.V_mono Au.out (fun k_ hk => (⟨hk, hk.2⟩ : _ ∧ k_ ≠ Ac))) (fun _ hk => hk.2)) (fun _ hk => ⟨⟨hk.1.1.1, ⟨hk.1.1.2.2, hk.1.2⟩⟩, hk.1.1.2.1⟩)) hg hat); replace Aq := Am (blk_grown (g := Ac) (o := .cells #[.int .i64 t206, .int .i64 t207, .int .i64 t208, .int .i64 t209, .int .u32 t210] 46 (0, 0)) (kX0 Aq.out) hg (Kd.R_away Ae.out (fun _ hk => hk.2))); replace HB := Am (hb); have Bz := Am (ho); clear Ae ho hb hg hat))
        go_roundg k3
        case measure => have := HJ2.out; have := HJ12.out; have := HK3.out; omega
        case rel => exact ⟨(y216), (t211), (IntKind.u64.wrap (Ap + 1)), (by first | rfl | (simp; done) | (simp [*]; done)), H', ⟨by have := HJ2.out; have := HJ12.out; have := HK3.out; omega⟩, ⟨by (with_reducible repeat (first | apply Kd.R_alloc | apply Kd.R_drewN | apply Kd.R_drew)); exact Ah.out⟩, ⟨by (with_reducible repeat (first | apply Kd.R_alloc | apply Kd.R_drewN | apply Kd.R_drew)); exact Kd.R_mono Bz.out (fun _ hk => trivial)⟩, ⟨by (with_reducible repeat (first | apply Kd.V_alloc | apply Kd.V_drewN | apply Kd.V_drew)); exact Kd.V_mono Au.out (fun _ hk => ⟨hk.1.1, ⟨hk.2, hk.1.2.1⟩⟩)⟩, ⟨by (with_reducible repeat (first | apply Kd.R_alloc | apply Kd.R_drewN | apply Kd.R_drew)); exact Aa.out⟩, ⟨pK Ab.out⟩, ⟨pE2 HB.out Ad.out A8.out⟩⟩
       rw [if_neg c29] at H
       have c29b0 : decide (Ap < (rd t193 1)) = false := decide_eq_false c29
       clear c29
       by_cases c44 : (Ak.length : Int) > 0
       ·rw [if_pos c44] at H
        have c44b0 : decide (0 < (Ak.length : Int)) = true := decide_eq_true c44
        have c44b1 : decide (0 < Ak.length) = true := decide_eq_true (by omega)
        clear c44
        simp only [Option.some.injEq, Prod.mk.injEq] at H
        obtain ⟨rfl, rfl, rfl⟩ := H
        obtain ⟨Ao45, co45, Ca⟩ := Kd.V_slice Af.out
        subst Ca
        go_wp2
        go_ret3
        exact ⟨_, pX, by first | exact Kd.R_nil _ _ _ _ _ | exact Kd.N_nil _ _ _ _ _ | exact Kd.V_nil _ _ _ _ _ | exact Kd.Q_nil _ _ _ _ _ | exact Kd.S_nil _ _ _ _ _, pE HB.out Ad.out⟩
       rw [if_neg c44] at H
       have c44b0 : decide (0 < (Ak.length : Int)) = false := decide_eq_false c44
       have c44b1 : decide (0 < Ak.length) = false := decide_eq_false (by omega)
       clear c44
       by_cases c46 : 0 < (t193.length : Int)
       rotate_left
       ·rw [if_neg c46] at H
        exact absurd H (by simp)
       rw [if_pos c46] at H
       have c46b0 : decide (0 < (t193.length : Int)) = true := decide_eq_true c46
       have c46b1 : decide (0 < t193.length) = true := decide_eq_true (by omega)
       clear c46
       replace H := Option.bind_eq_some_iff.mp H
       obtain ⟨t220, A470, H⟩ := H
       replace H : (if t220 = true then (some (wrap64 (rd t193 0), Ai, 0)) else (some (0, ([] : List (S46)), 2))) = some (r1, r2, r3) := H
       have A47 := Am A470
       clear A470
       by_cases c48 : t220 = true
       ·subst c48
        have H1 : (some (wrap64 (rd t193 0), Ai, 0)) = some (r1, r2, r3) := by rw [if_pos rfl] at H; exact H
        clear H
        have H := H1
        clear H1
        simp only [Option.some.injEq, Prod.mk.injEq] at H
        obtain ⟨rfl, rfl, rfl⟩ := H
        obtain ⟨Ao49, co49, Cb⟩ := Kd.V_slice Af.out
        subst Cb
        have p219 : 0 ≤ (0 : Int) := (by omega)
        have q219 : 0 < (t193.length : Int) := of_decide_eq_true pS
        obtain ⟨Bn, e219, Ar⟩ := Kd.at_int (Kd.R_reads' Ah.out).2.2 0 p219 q219
        obtain rfl : An = Bn := (by injection e219)
        have qi219 : (0 < t193.length) = True := eq_true (by omega)
        (try rw [tz] at Ar)
        (try rw [Addr.add_zero'] at Ar)
        replace p219 := eq_true p219
        replace q219 := eq_true q219
        obtain ⟨Ao50, co50, Cc⟩ := Kd.R_slice Ae.out
        subst Cc
        go_wp2_with (first | (go_at_call 19; (with_reducible refine (relay_may.calls k3 (wrap64 (rd t193 0)) _ _ Ai true _ ?Al ?Ax A47.out).mono ?_); (case Al => exact pC (Kd.R_reads' Ae.out).2.2); (case Ax => exact (Kd.R_reads' Ae.out).2.1); rintro e w51 ⟨rfl, hb⟩; replace Ah := bRa Ah hb; replace Ae := bRa Ae hb; replace Af := bVa Af hb; replace Aa := bRa Aa hb; replace Ab := kBa Ab hb; replace HB := Am (below_step (pE HB.out Ad.out) hb); (try clear hb); (try clear hb2); (try clear hk); (try clear hi); have p221 : 0 ≤ (0 : Int) := (by omega); have q221 : 0 < (t193.length : Int) := of_decide_eq_true pS; obtain ⟨B0, e221, Bi⟩ := Kd.at_int (Kd.R_reads' Ah.out).2.2 0 p221 q221; obtain rfl : An = B0 := (by injection e221); have qi221 : (0 < t193.length) = True := eq_true (by omega); (try rw [tz] at Bi); (try rw [Addr.add_zero'] at Bi); replace p221 := eq_true p221; replace q221 := eq_true q221))
        go_ret3
        exact ⟨_, pX, by (with_reducible repeat (first | apply Kd.R_alloc | apply Kd.R_drewN | apply Kd.R_drew)); exact Ae.out, pE HB.out Ad.out⟩
       replace c48 := Bool.eq_false_iff.mpr c48
       subst c48
       have H1 : (some (0, ([] : List (S46)), 2)) = some (r1, r2, r3) := by rw [if_neg (show ¬ (false = true) by decide)] at H; exact H
       clear H
       have H := H1
       clear H1
       simp only [Option.some.injEq, Prod.mk.injEq] at H
       obtain ⟨rfl, rfl, rfl⟩ := H
       obtain ⟨Ao52, co52, Cd⟩ := Kd.V_slice Af.out
       subst Cd
       have p219 : 0 ≤ (0 : Int) := (by omega)
       have q219 : 0 < (t193.length : Int) := of_decide_eq_true pS
       obtain ⟨Bn, e219, Ar⟩ := Kd.at_int (Kd.R_reads' Ah.out).2.2 0 p219 q219
       obtain rfl : An = Bn := (by injection e219)
       have qi219 : (0 < t193.length) = True := eq_true (by omega)
       (try rw [tz] at Ar)
       (try rw [Addr.add_zero'] at Ar)
       replace p219 := eq_true p219
       replace q219 := eq_true q219
       obtain ⟨Ao53, co53, Ce⟩ := Kd.R_slice Ae.out
       subst Ce
       go_wp2_with (first | (go_at_call 19; (with_reducible refine (relay_may.calls k3 (wrap64 (rd t193 0)) _ _ Ai false _ ?Al ?Ax A47.out).mono ?_); (case Al => exact pC (Kd.R_reads' Ae.out).2.2); (case Ax => exact (Kd.R_reads' Ae.out).2.1); rintro e w54 ⟨rfl, hb⟩; replace Ah := bRa Ah hb; replace Ae := bRa Ae hb; replace Af := bVa Af hb; replace Aa := bRa Aa hb; replace Ab := kBa Ab hb; replace HB := Am (below_step (pE HB.out Ad.out) hb); (try clear hb); (try clear hb2); (try clear hk); (try clear hi)))
       go_ret3
       exact ⟨_, pX, by first | exact Kd.R_nil _ _ _ _ _ | exact Kd.N_nil _ _ _ _ _ | exact Kd.V_nil _ _ _ _ _ | exact Kd.Q_nil _ _ _ _ _ | exact Kd.S_nil _ _ _ _ _, pE HB.out Ad.out⟩
def garnerref21_Hops.l0 : Nat → List (S46) → List (S46) → Int → Option (Bool)
 | 0, _, _, _ => none
 | k + 1, x0, x1, x5 => if x5 < (x0.length : Int) then (if 0 ≤ x5 then (if x5 < (x1.length : Int) then (if (!(((rd_T46 x0 x5).f0) == ((rd_T46 x1 x5).f0)) || ((!(((rd_T46 x0 x5).f1.f0) == ((rd_T46 x1 x5).f1.f0)) || (!(((rd_T46 x0 x5).f1.f1) == ((rd_T46 x1 x5).f1.f1)) || (!(((rd_T46 x0 x5).f1.f2) == ((rd_T46 x1 x5).f1.f2)) || (!(((rd_T46 x0 x5).f1.f3) == ((rd_T46 x1 x5).f1.f3)))))))) = true then (some false) else (garnerref21_Hops.l0 k x0 x1 (wrap64 (x5 + 1)))) else (none)) else (none)) else (some true)
def garnerref21_Hops.f (k : Nat) (l0 : List (S46)) (l1 : List (S46)) : Option (Bool) := if (l0.length : Int) = (l1.length : Int) then (garnerref21_Hops.l0 k l0 l1 0) else (some false)
theorem garnerref21_Hops.mono_l : ∀ k, (∀ y0 y1 y2, LeO (garnerref21_Hops.l0 k y0 y1 y2) (garnerref21_Hops.l0 (k + 1) y0 y1 y2))
 | 0 => fun _ _ _ r h => by simp [garnerref21_Hops.l0] at h
 | k + 1 => by
  have ih0 := garnerref21_Hops.mono_l k
  ·intro y0 y1 y2
   unfold garnerref21_Hops.l0
   repeat' first
   | (with_reducible exact ih0 _ _ _)
   | (with_reducible exact LeO.refl _)
   | (with_reducible exact LeO.none _)
   | (with_reducible refine LeO.ite ?_ ?_)
   | (with_reducible refine LeO.bind ?_ (fun _ => ?_))
   | exact ih0 _ _ _
   | exact LeO.none _
   | refine LeO.ite ?_ ?_
   | refine LeO.bind ?_ (fun _ => ?_)
theorem garnerref21_Hops.mono : ∀ a0 a1 k, LeO (garnerref21_Hops.f k a0 a1) (garnerref21_Hops.f (k + 1) a0 a1) := by
 intro a0 a1 k
 have ih0 := garnerref21_Hops.mono_l k
 unfold garnerref21_Hops.f
 repeat' first
   | (with_reducible exact ih0 _ _ _)
   | (with_reducible exact LeO.refl _)
   | (with_reducible exact LeO.none _)
   | (with_reducible refine LeO.ite ?_ ?_)
   | (with_reducible refine LeO.bind ?_ (fun _ => ?_))
   | exact ih0 _ _ _
   | exact LeO.none _
   | refine LeO.ite ?_ ?_
   | refine LeO.bind ?_ (fun _ => ?_)
set_option maxHeartbeats 8000000 in
set_option maxRecDepth 100000 in
theorem garnerref21_Hops.calls (k : Nat) (A0 : Option Addr) (c0 : Nat) (l0 : List (S46)) (A1 : Option Addr) (c1 : Nat) (l1 : List (S46)) (r : Bool) (w : World) (hr0 : Kd.C k46 w A0 l0.length l0) (hc0 : l0.length ≤ c0) (hr1 : Kd.C k46 w A1 l1.length l1) (hc1 : l1.length ≤ c1) (h : garnerref21_Hops.f k l0 l1 = some r) :
  Calls Try.prog 8 #[.slice A0 l0.length c0, .slice A1 l1.length c1] w fun e w' => e = .returned (.bool r) ∧ Drawn0 w w' := by
 have hu46 := Try.underlying46
 have HR0 := Am hr0
 have HC0 := Am hc0
 clear hr0 hc0
 have HR1 := Am hr1
 have HC1 := Am hc1
 clear hr1 hc1
 have H : (if (l0.length : Int) = (l1.length : Int) then (garnerref21_Hops.l0 k l0 l1 0) else (some false)) = some r := h
 clear h
 by_cases c3 : (l0.length : Int) = (l1.length : Int)
 rotate_left
 ·rw [if_neg c3] at H
  have c3b0 : ((l0.length : Int) == (l1.length : Int)) = false := beq_eq_false_iff_ne.mpr c3
  have c3b1 : ((l0.length : Int) != (l1.length : Int)) = true := bne_iff_ne.mpr c3
  have c3b2 : (l0.length == l1.length) = false := by first | simpa using c3 | (simp at c3 ⊢; omega)
  obtain rfl := Option.some.inj H
  go_enter Try.func8, Try.ntmps8
  go_wp2
  repeat (go_quiet (fail); try go_wp2)
  go_ret
  exact ⟨by first | rfl | (simp; done) | (simp [*]; done), by repeat (first | exact Drawn0.refl _ | apply Drawn0.step)⟩
 rw [if_pos c3] at H
 have c3b0 : ((l0.length : Int) == (l1.length : Int)) = true := beq_iff_eq.mpr c3
 have c3b1 : ((l0.length : Int) != (l1.length : Int)) = false := bne_eq_false_iff_eq.mpr c3
 have c3b2 : (l0.length == l1.length) = true := by first | simpa using c3 | (simp at c3 ⊢; omega)
 clear c3
 have H' := Am H
 clear H
 go_enter Try.func8, Try.ntmps8
 go_wp2
 repeat (go_quiet (fail); try go_wp2)
 go_loopg [5] k (fun kq v5 w' => ∃ (Aa : Int), v5 = .int .i64 Aa ∧ Aside0 (garnerref21_Hops.l0 kq l0 l1 Aa = some r) ∧ Aside0 (kq ≤ k) ∧ Drawn0 w w')
 case atStart => exact ⟨(0), (by first | rfl | (simp; done) | (simp [*]; done)), H', ⟨Nat.le_refl _⟩, by repeat (first | exact Drawn0.refl _ | apply Drawn0.step)⟩
 case round =>
  clear H'
  try clear c1
  try clear p2
  try clear c3
  try clear c3b0
  try clear c3b1
  try clear c3b2
  obtain ⟨Aa, rfl, HA, HK1, ⟨m1, rfl⟩⟩ := hrel
  cases gk with
  | zero => exact absurd HA.out (by simp [garnerref21_Hops.l0])
  | succ k1 =>
   have H := HA.out
   clear HA
   simp only [garnerref21_Hops.l0] at H
   by_cases c4 : Aa < (l0.length : Int)
   rotate_left
   ·rw [if_neg c4] at H
    have c4b0 : decide (Aa < (l0.length : Int)) = false := decide_eq_false c4
    clear c4
    obtain rfl := Option.some.inj H
    go_wp2
    repeat (go_quiet (fail); try go_wp2)
    go_ret
    exact ⟨by first | rfl | (simp; done) | (simp [*]; done), by repeat (first | exact Drawn0.refl _ | apply Drawn0.step)⟩
   rw [if_pos c4] at H
   have c4b0 : decide (Aa < (l0.length : Int)) = true := decide_eq_true c4
   clear c4
   by_cases c5 : 0 ≤ Aa
   rotate_left
   ·rw [if_neg c5] at H
    exact absurd H (by simp)
   rw [if_pos c5] at H
   have c5b0 : decide (0 ≤ Aa) = true := decide_eq_true c5
   clear c5
   by_cases c6 : Aa < (l1.length : Int)
   rotate_left
   ·rw [if_neg c6] at H
    exact absurd H (by simp)
   rw [if_pos c6] at H
   have c6b0 : decide (Aa < (l1.length : Int)) = true := decide_eq_true c6
   clear c6
   by_cases c7 : (!(((rd_T46 l0 Aa).f0) == ((rd_T46 l1 Aa).f0)) || ((!(((rd_T46 l0 Aa).f1.f0) == ((rd_T46 l1 Aa).f1.f0)) || (!(((rd_T46 l0 Aa).f1.f1) == ((rd_T46 l1 Aa).f1.f1)) || (!(((rd_T46 l0 Aa).f1.f2) == ((rd_T46 l1 Aa).f1.f2)) || (!(((rd_T46 l0 Aa).f1.f3) == ((rd_T46 l1 Aa).f1.f3)))))))) = true
   ·rw [if_pos c7] at H
    have c7b0 : (!(((rd_T46 l0 Aa).f0) == ((rd_T46 l1 Aa).f0)) || ((!(((rd_T46 l0 Aa).f1.f0) == ((rd_T46 l1 Aa).f1.f0)) || (!(((rd_T46 l0 Aa).f1.f1) == ((rd_T46 l1 Aa).f1.f1)) || (!(((rd_T46 l0 Aa).f1.f2) == ((rd_T46 l1 Aa).f1.f2)) || (!(((rd_T46 l0 Aa).f1.f3) == ((rd_T46 l1 Aa).f1.f3)))))))) = true := c7
    clear c7
    obtain rfl := Option.some.inj H
    have p222 : 0 ≤ (Aa : Int) := of_decide_eq_true pS
    have q222 : Aa < (l0.length : Int) := of_decide_eq_true pS
    obtain ⟨Al, e222, Ab, Ac, Ad, Ae, Af⟩ := at_T46 HR0.out Aa p222 q222
    cases e222
    replace p222 := eq_true p222
    replace q222 := eq_true q222
    have p223 : 0 ≤ (Aa : Int) := of_decide_eq_true pS
    have q223 : Aa < (l1.length : Int) := of_decide_eq_true pS
    obtain ⟨An, e223, Ag, Ah, Ai, Aj, Ak⟩ := at_T46 HR1.out Aa p223 q223
    cases e223
    replace p223 := eq_true p223
    replace q223 := eq_true q223
    go_wp2
    repeat (go_quiet (fail); try go_wp2)
    go_ret
    exact ⟨by first | rfl | (simp; done) | (simp [*]; done), by repeat (first | exact Drawn0.refl _ | apply Drawn0.step)⟩
   rw [if_neg c7] at H
   have c7b0 : (!(((rd_T46 l0 Aa).f0) == ((rd_T46 l1 Aa).f0)) || ((!(((rd_T46 l0 Aa).f1.f0) == ((rd_T46 l1 Aa).f1.f0)) || (!(((rd_T46 l0 Aa).f1.f1) == ((rd_T46 l1 Aa).f1.f1)) || (!(((rd_T46 l0 Aa).f1.f2) == ((rd_T46 l1 Aa).f1.f2)) || (!(((rd_T46 l0 Aa).f1.f3) == ((rd_T46 l1 Aa).f1.f3)))))))) = false := by simpa using c7
   clear c7
   have H' := Am H
   clear H
   have p222 : 0 ≤ (Aa : Int) := of_decide_eq_true pS
   have q222 : Aa < (l0.length : Int) := of_decide_eq_true pS
   obtain ⟨Al, e222, Ab, Ac, Ad, Ae, Af⟩ := at_T46 HR0.out Aa p222 q222
   cases e222
   replace p222 := eq_true p222
   replace q222 := eq_true q222
   have p223 : 0 ≤ (Aa : Int) := of_decide_eq_true pS
   have q223 : Aa < (l1.length : Int) := of_decide_eq_true pS
   obtain ⟨An, e223, Ag, Ah, Ai, Aj, Ak⟩ := at_T46 HR1.out Aa p223 q223
   cases e223
   replace p223 := eq_true p223
   replace q223 := eq_true q223
   go_wp2
   repeat (go_quiet (fail); try go_wp2)
   go_roundg k1
   case measure => have := HK1.out; omega
   case rel => exact ⟨(wrap64 (Aa + 1)), (by first | rfl | (simp; done) | (simp [*]; done)), H', ⟨by have := HK1.out; omega⟩, by repeat (first | exact Drawn0.refl _ | apply Drawn0.step)⟩
end Go.Proofs.Ytjebpaahpehfnaa.PRelayPuts
