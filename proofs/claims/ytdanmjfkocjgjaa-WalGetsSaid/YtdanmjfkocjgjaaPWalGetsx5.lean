/- What the law reaches, as plain Lean functions, and that the machine's calls answer just that. -/
import Derived.Test.YtdanmjfkocjgjaaPWalGetsx0
import Derived.Test.YtdanmjfkocjgjaaPWalGetsx1
import Derived.Test.YtdanmjfkocjgjaaPWalGetsx3
import Derived.Test.YtdanmjfkocjgjaaPWalGetsx4
namespace Go.Proofs.Ytdanmjfkocjgjaa.PWalGets
open Go.RowKit Go.Proofs.YtdanmjfkocjgjaaW.PrintWords Go.Proofs.YtdanmjfkocjgjaaW.PrintLast Go.Proofs.YtdanmjfkocjgjaaW.PrintMore
attribute [local go_sem] max2_int min2_int max_two min_two max_three min_three max_four min_four
set_option linter.unusedVariables false
set_option linter.unusedSimpArgs false
attribute [local go_sem] wrap64_l1 wrap64_l2 wrap64_l3 wrap64_l4 wrap64_l5
attribute [local go_sem high] eqA28
mutual
def entry_Batch.j0 : Nat → List (S52) → Bool → Option (Int)
 | 0, _, _ => none
 | k + 1, x0, x13 => if x13 = true then (some 1) else (entry_Batch.l0 k x0 x0 (x0.length : Int) 0)
def entry_Batch.l0 : Nat → List (S52) → List (S52) → Int → Int → Option (Int)
 | 0, _, _, _, _ => none
 | k + 1, x0, x14, x15, x16 => if x16 < x15 then (if 0 ≤ x16 then (if x16 < (x14.length : Int) then ((entry_Check.f k ((rd_T52 x14 x16).f0) ((rd_T52 x14 x16).f1) ((rd_T52 x14 x16).f2) ((rd_T52 x14 x16).f3) ((rd_T52 x14 x16).f4.f0) ((rd_T52 x14 x16).f4.f1) ((rd_T52 x14 x16).f4.f2.f0) ((rd_T52 x14 x16).f4.f2.f1) ((rd_T52 x14 x16).f4.f2.f2) ((rd_T52 x14 x16).f4.f2.f3)).bind fun t130 => (if t130 = 0 then (if x16 > 0 then (if 0 ≤ (wrap64 (x16 - 1)) then (if (wrap64 (x16 - 1)) < (x0.length : Int) then (if ((rd_T52 x14 x16).f0) = (wrap64 (((rd_T52 x0 (wrap64 (x16 - 1))).f0) + 1)) then (if ((rd_T52 x14 x16).f1) < ((rd_T52 x0 (wrap64 (x16 - 1))).f1) then (some 1) else (entry_Batch.l0 k x0 x14 x15 (wrap64 (x16 + 1)))) else (some 1)) else (none)) else (none)) else (entry_Batch.l0 k x0 x14 x15 (wrap64 (x16 + 1)))) else (some t130))) else (none)) else (none)) else (some 0)
end
def entry_Batch.f (k : Nat) (l0 : List (S52)) : Option (Int) := if (l0.length : Int) < 1 then (entry_Batch.j0 k l0 true) else (entry_Batch.j0 k l0 (decide ((l0.length : Int) > 16)))
theorem entry_Batch.mono_l : ∀ k, (∀ y0 y1, LeO (entry_Batch.j0 k y0 y1) (entry_Batch.j0 (k + 1) y0 y1)) ∧ (∀ y0 y1 y2 y3, LeO (entry_Batch.l0 k y0 y1 y2 y3) (entry_Batch.l0 (k + 1) y0 y1 y2 y3))
 | 0 => ⟨fun _ _ r h => by simp [entry_Batch.j0] at h, fun _ _ _ _ r h => by simp [entry_Batch.l0] at h⟩
 | k + 1 => by
  obtain ⟨ih0, ih1⟩ := entry_Batch.mono_l k
  refine ⟨?_, ?_⟩
  ·intro y0 y1
   unfold entry_Batch.j0
   repeat' (with_reducible first | exact ih0 .. | exact ih1 .. | exact entry_Check.mono .. | exact LeO.refl .. | exact LeO.none .. | refine LeO.ite ?_ ?_ | refine LeO.bind ?_ (fun _ => ?_))
  ·intro y0 y1 y2 y3
   unfold entry_Batch.l0
   repeat' (with_reducible first | exact ih0 .. | exact ih1 .. | exact entry_Check.mono .. | exact LeO.refl .. | exact LeO.none .. | refine LeO.ite ?_ ?_ | refine LeO.bind ?_ (fun _ => ?_))
theorem entry_Batch.mono : ∀ a0 k, LeO (entry_Batch.f k a0) (entry_Batch.f (k + 1) a0) := by
 intro a0 k
 obtain ⟨ih0, ih1⟩ := entry_Batch.mono_l k
 unfold entry_Batch.f
 repeat' (with_reducible first | exact ih0 .. | exact ih1 .. | exact entry_Check.mono .. | exact LeO.refl .. | exact LeO.none .. | refine LeO.ite ?_ ?_ | refine LeO.bind ?_ (fun _ => ?_))
set_option maxHeartbeats 8000000 in
set_option maxRecDepth 100000 in
theorem entry_Batch.calls (k : Nat) (A0 : Option Addr) (c0 : Nat) (l0 : List (S52)) (r : Int) (w : World) (hr0 : Kd.C k52 w A0 l0.length l0) (hc0 : l0.length ≤ c0) (h : entry_Batch.f k l0 = some r) :
 Calls Try.prog 31 #[.slice A0 l0.length c0] w fun e w' => e = .returned (.int .i64 r) ∧ Below w.heap.size w w' := by
 have hu52 := Try.underlying52
 have HR0 := Am hr0
 have HC0 := Am hc0
 clear hr0 hc0
 have HB := Am (Below.refl w.heap.size w)
 unfold entry_Batch.f at h
 have H := h
 clear h
 have HC2 := Am H
 clear H
 go_enter Try.func31, Try.ntmps31
 go_upto_region 1 with (fail)
 repeat (go_quiet (fail); go_upto_region 1 with (fail))
 go_cut [13] (fun v13 wc => ∃ (kq : Nat) (Bw : Bool), v13 = .bool Bw ∧ Aside0 (entry_Batch.j0 kq l0 Bw = some r) ∧ Aside0 (kq ≤ k) ∧ Aside0 (Below w.heap.size w wc))
 case first =>
  have H := HC2.out
  clear HC2
  by_cases c3 : (l0.length : Int) < 1
  ·rw [if_pos c3] at H
   have c3b0 := decide_eq_true c3
   have c3b1 : decide (l0.length < 1) = true := decide_eq_true (by omega)
   clear c3
   (first | rw [c3b0] | (simp only [i64_w, i32_w]; rw [c3b0]) | skip)
   have H' := Am H
   clear H
   go_wp2
   repeat (go_quiet (fail); try go_wp2)
   go_meet
   case rel => exact ⟨_, (true), zr, H', ⟨zo⟩, ⟨pB HB.out⟩⟩
  rw [if_neg c3] at H
  have c3b0 := decide_eq_false c3
  have c3b1 : decide (l0.length < 1) = false := decide_eq_false (by omega)
  clear c3
  (first | rw [c3b0] | (simp only [i64_w, i32_w]; rw [c3b0]) | skip)
  have H' := Am H
  clear H
  go_wp2
  repeat (go_quiet (fail); try go_wp2)
  go_meet
  case rel => exact ⟨_, (decide ((l0.length : Int) > 16)), zr, H', ⟨zo⟩, ⟨pB HB.out⟩⟩
 case rest =>
  clear HC2
  try clear p2
  try clear c3
  try clear c3b0
  try clear c3b1
  obtain ⟨kq, Bw, rfl, HA, HJ1, HB⟩ := hcut
  cases kq with
  | zero => exact absurd HA.out (by simp [entry_Batch.j0])
  | succ kj1 =>
   have H := HA.out
   clear HA
   simp only [entry_Batch.j0] at H
   by_cases c4 : Bw = true
   ·subst c4
    rw [if_pos rfl] at H
    obtain rfl := Option.some.inj H
    go_wp2
    repeat (go_quiet (fail); try go_wp2)
    go_ret
    exact ⟨pX, pB HB.out⟩
   replace c4 := Bool.eq_false_iff.mpr c4
   subst c4
   rw [if_neg zF] at H
   have H' := Am H
   clear H
   go_wp2
   repeat (go_quiet (fail); try go_wp2)
   go_loopg [16] kj1 (fun kq v16 w' => ∃ (Aa : Int), v16 = .int .i64 Aa ∧ Aside0 (entry_Batch.l0 kq l0 l0 (l0.length : Int) Aa = some r) ∧ Aside0 (kq ≤ kj1) ∧ Aside0 (Below w.heap.size w w'))
   case atStart => exact ⟨(0), zr, H', ⟨Nat.le_refl _⟩, ⟨pB HB.out⟩⟩
   case round =>
    clear H'
    try clear p2
    try clear c3
    try clear c3b0
    try clear c3b1
    try clear c4
    try clear p2
    obtain ⟨Aa, rfl, HA, HK2, HB⟩ := hrel
    cases gk with
    | zero => exact absurd HA.out (by simp [entry_Batch.l0])
    | succ k2 =>
     have H := HA.out
     clear HA
     simp only [entry_Batch.l0] at H
     by_cases c5 : Aa < (l0.length : Int)
     rotate_left
     ·rw [if_neg c5] at H
      have c5b0 := decide_eq_false c5
      clear c5
      obtain rfl := Option.some.inj H
      go_wp2
      repeat (go_quiet (fail); try go_wp2)
      go_ret
      exact ⟨pX, pB HB.out⟩
     rw [if_pos c5] at H
     have c5b0 := decide_eq_true c5
     clear c5
     obtain ⟨c6, H⟩ := zI H
     have c6b0 := decide_eq_true c6
     clear c6
     obtain ⟨c7, H⟩ := zI H
     have c7b0 := decide_eq_true c7
     clear c7
     replace H := Option.bind_eq_some_iff.mp H
     obtain ⟨t130, A80, H⟩ := H
     have A8 := Am A80
     clear A80
     by_cases c9 : t130 = 0
     rotate_left
     ·rw [if_neg c9] at H
      have c9b0 := beq_eq_false_iff_ne.mpr c9
      have c9b1 := bne_iff_ne.mpr c9
      obtain rfl := Option.some.inj H
      have p128 : 0 ≤ (Aa : Int) := of_decide_eq_true pS
      have q128 : Aa < (l0.length : Int) := of_decide_eq_true pS
      obtain ⟨Bc, Bv, c128_5, e128, Bk, Bl, Bm, Bn, Bo, Bp, Bq, Br, Bs, Bt, Ba, Bb⟩ := at_T52u HR0.out Aa p128 q128 HB.out
      cases e128
      have As := Am Bb
      have At := Am Ba
      clear Bb Ba
      replace p128 := eq_true p128
      replace q128 := eq_true q128
      go_wp2_with (first | ((with_reducible refine gate_dst (N := 4) rfl ?_); (try (refine gate_guard (by rfl) ?_; dsimp only)); refine zE 4 #[.int .i64 0, .int .i64 0, .int .i64 0, .string (⟨#[]⟩ : ByteArray), .bool false, .slice none 0 0, .int .i64 0, .int .i64 0, .int .i64 0, .int .u32 0] 52 ?_; intro Ae hg w31 hbox hb; have Ab := Am (hbox); have Au := Am (zG hg (below_size (pB HB.out))); replace HB := Am (below_step (pB HB.out) hb); have Ad := Au; clear hb hbox hg; obtain ⟨Fv, Fw, Fx, Fy, Fz, F0, F1, F2, F3, F4⟩ := bc10 Ab.out; obtain ⟨F5, F6, F7, F8, F9, Ga, Gb, Gc, Gd, Ge⟩ := bf10 Ab.out) | (go_at_call 55; (with_reducible refine (entry_Check.calls k2 ((rd_T52 l0 Aa).f0) ((rd_T52 l0 Aa).f1) ((rd_T52 l0 Aa).f2) ((rd_T52 l0 Aa).f3) ((rd_T52 l0 Aa).f4.f0) _ _ ((rd_T52 l0 Aa).f4.f1) ((rd_T52 l0 Aa).f4.f2.f0) ((rd_T52 l0 Aa).f4.f2.f1) ((rd_T52 l0 Aa).f4.f2.f2) ((rd_T52 l0 Aa).f4.f2.f3) t130 _ ?Av ?Aw A8.out).mono ?_); (case Av => exact Kd.C_below As.out (pE HB.out Ad.out)); (case Aw => exact At.out); rintro e w33 ⟨rfl, hb⟩; replace Ab := Am (blk_below (g := Ae) (kX0 Ab.out) hb); replace HB := Am (below_step (pE HB.out Ad.out) hb); (try clear hb); (try clear hb2); (try clear hk); (try clear hi)))
      repeat (go_quiet (first | ((with_reducible refine gate_dst (N := 4) rfl ?_); (try (refine gate_guard (by rfl) ?_; dsimp only)); refine zE 4 #[.int .i64 0, .int .i64 0, .int .i64 0, .string (⟨#[]⟩ : ByteArray), .bool false, .slice none 0 0, .int .i64 0, .int .i64 0, .int .i64 0, .int .u32 0] 52 ?_; intro Ae hg w31 hbox hb; have Ab := Am (hbox); have Au := Am (zG hg (below_size (pB HB.out))); replace HB := Am (below_step (pB HB.out) hb); have Ad := Au; clear hb hbox hg; obtain ⟨Fv, Fw, Fx, Fy, Fz, F0, F1, F2, F3, F4⟩ := bc10 Ab.out; obtain ⟨F5, F6, F7, F8, F9, Ga, Gb, Gc, Gd, Ge⟩ := bf10 Ab.out) | (go_at_call 55; (with_reducible refine (entry_Check.calls k2 ((rd_T52 l0 Aa).f0) ((rd_T52 l0 Aa).f1) ((rd_T52 l0 Aa).f2) ((rd_T52 l0 Aa).f3) ((rd_T52 l0 Aa).f4.f0) _ _ ((rd_T52 l0 Aa).f4.f1) ((rd_T52 l0 Aa).f4.f2.f0) ((rd_T52 l0 Aa).f4.f2.f1) ((rd_T52 l0 Aa).f4.f2.f2) ((rd_T52 l0 Aa).f4.f2.f3) t130 _ ?Av ?Aw A8.out).mono ?_); (case Av => exact Kd.C_below As.out (pE HB.out Ad.out)); (case Aw => exact At.out); rintro e w33 ⟨rfl, hb⟩; replace Ab := Am (blk_below (g := Ae) (kX0 Ab.out) hb); replace HB := Am (below_step (pE HB.out Ad.out) hb); (try clear hb); (try clear hb2); (try clear hk); (try clear hi))); try go_wp2_with (first | ((with_reducible refine gate_dst (N := 4) rfl ?_); (try (refine gate_guard (by rfl) ?_; dsimp only)); refine zE 4 #[.int .i64 0, .int .i64 0, .int .i64 0, .string (⟨#[]⟩ : ByteArray), .bool false, .slice none 0 0, .int .i64 0, .int .i64 0, .int .i64 0, .int .u32 0] 52 ?_; intro Ae hg w31 hbox hb; have Ab := Am (hbox); have Au := Am (zG hg (below_size (pB HB.out))); replace HB := Am (below_step (pB HB.out) hb); have Ad := Au; clear hb hbox hg; obtain ⟨Fv, Fw, Fx, Fy, Fz, F0, F1, F2, F3, F4⟩ := bc10 Ab.out; obtain ⟨F5, F6, F7, F8, F9, Ga, Gb, Gc, Gd, Ge⟩ := bf10 Ab.out) | (go_at_call 55; (with_reducible refine (entry_Check.calls k2 ((rd_T52 l0 Aa).f0) ((rd_T52 l0 Aa).f1) ((rd_T52 l0 Aa).f2) ((rd_T52 l0 Aa).f3) ((rd_T52 l0 Aa).f4.f0) _ _ ((rd_T52 l0 Aa).f4.f1) ((rd_T52 l0 Aa).f4.f2.f0) ((rd_T52 l0 Aa).f4.f2.f1) ((rd_T52 l0 Aa).f4.f2.f2) ((rd_T52 l0 Aa).f4.f2.f3) t130 _ ?Av ?Aw A8.out).mono ?_); (case Av => exact Kd.C_below As.out (pE HB.out Ad.out)); (case Aw => exact At.out); rintro e w33 ⟨rfl, hb⟩; replace Ab := Am (blk_below (g := Ae) (kX0 Ab.out) hb); replace HB := Am (below_step (pE HB.out Ad.out) hb); (try clear hb); (try clear hb2); (try clear hk); (try clear hi))))
      go_ret
      exact ⟨pX, pE HB.out Ad.out⟩
     rw [if_pos c9] at H
     have c9b0 := beq_iff_eq.mpr c9
     have c9b1 := bne_eq_false_iff_eq.mpr c9
     clear c9
     by_cases c10 : Aa > 0
     rotate_left
     ·rw [if_neg c10] at H
      have c10b0 : decide (0 < Aa) = false := decide_eq_false c10
      clear c10
      have H' := Am H
      clear H
      have p128 : 0 ≤ (Aa : Int) := of_decide_eq_true pS
      have q128 : Aa < (l0.length : Int) := of_decide_eq_true pS
      obtain ⟨Bc, Bv, c128_5, e128, Bk, Bl, Bm, Bn, Bo, Bp, Bq, Br, Bs, Bt, Ba, Bb⟩ := at_T52u HR0.out Aa p128 q128 HB.out
      cases e128
      have As := Am Bb
      have At := Am Ba
      clear Bb Ba
      replace p128 := eq_true p128
      replace q128 := eq_true q128
      go_wp2_with (first | ((with_reducible refine gate_dst (N := 4) rfl ?_); (try (refine gate_guard (by rfl) ?_; dsimp only)); refine zE 4 #[.int .i64 0, .int .i64 0, .int .i64 0, .string (⟨#[]⟩ : ByteArray), .bool false, .slice none 0 0, .int .i64 0, .int .i64 0, .int .i64 0, .int .u32 0] 52 ?_; intro Ae hg w28 hbox hb; have Ab := Am (hbox); have Au := Am (zG hg (below_size (pB HB.out))); replace HB := Am (below_step (pB HB.out) hb); have Ad := Au; clear hb hbox hg; obtain ⟨Fb, Fc, Fd, Fe, Ff, Fg, Fh, Fi, Fj, Fk⟩ := bc10 Ab.out; obtain ⟨Fl, Fm, Fn, Fo, Fp, Fq, Fr, Fs, Ft, Fu⟩ := bf10 Ab.out) | (go_at_call 55; (with_reducible refine (entry_Check.calls k2 ((rd_T52 l0 Aa).f0) ((rd_T52 l0 Aa).f1) ((rd_T52 l0 Aa).f2) ((rd_T52 l0 Aa).f3) ((rd_T52 l0 Aa).f4.f0) _ _ ((rd_T52 l0 Aa).f4.f1) ((rd_T52 l0 Aa).f4.f2.f0) ((rd_T52 l0 Aa).f4.f2.f1) ((rd_T52 l0 Aa).f4.f2.f2) ((rd_T52 l0 Aa).f4.f2.f3) t130 _ ?Av ?Aw A8.out).mono ?_); (case Av => exact Kd.C_below As.out (pE HB.out Ad.out)); (case Aw => exact At.out); rintro e w30 ⟨rfl, hb⟩; replace Ab := Am (blk_below (g := Ae) (kX0 Ab.out) hb); replace HB := Am (below_step (pE HB.out Ad.out) hb); (try clear hb); (try clear hb2); (try clear hk); (try clear hi)))
      repeat (go_quiet (first | ((with_reducible refine gate_dst (N := 4) rfl ?_); (try (refine gate_guard (by rfl) ?_; dsimp only)); refine zE 4 #[.int .i64 0, .int .i64 0, .int .i64 0, .string (⟨#[]⟩ : ByteArray), .bool false, .slice none 0 0, .int .i64 0, .int .i64 0, .int .i64 0, .int .u32 0] 52 ?_; intro Ae hg w28 hbox hb; have Ab := Am (hbox); have Au := Am (zG hg (below_size (pB HB.out))); replace HB := Am (below_step (pB HB.out) hb); have Ad := Au; clear hb hbox hg; obtain ⟨Fb, Fc, Fd, Fe, Ff, Fg, Fh, Fi, Fj, Fk⟩ := bc10 Ab.out; obtain ⟨Fl, Fm, Fn, Fo, Fp, Fq, Fr, Fs, Ft, Fu⟩ := bf10 Ab.out) | (go_at_call 55; (with_reducible refine (entry_Check.calls k2 ((rd_T52 l0 Aa).f0) ((rd_T52 l0 Aa).f1) ((rd_T52 l0 Aa).f2) ((rd_T52 l0 Aa).f3) ((rd_T52 l0 Aa).f4.f0) _ _ ((rd_T52 l0 Aa).f4.f1) ((rd_T52 l0 Aa).f4.f2.f0) ((rd_T52 l0 Aa).f4.f2.f1) ((rd_T52 l0 Aa).f4.f2.f2) ((rd_T52 l0 Aa).f4.f2.f3) t130 _ ?Av ?Aw A8.out).mono ?_); (case Av => exact Kd.C_below As.out (pE HB.out Ad.out)); (case Aw => exact At.out); rintro e w30 ⟨rfl, hb⟩; replace Ab := Am (blk_below (g := Ae) (kX0 Ab.out) hb); replace HB := Am (below_step (pE HB.out Ad.out) hb); (try clear hb); (try clear hb2); (try clear hk); (try clear hi))); try go_wp2_with (first | ((with_reducible refine gate_dst (N := 4) rfl ?_); (try (refine gate_guard (by rfl) ?_; dsimp only)); refine zE 4 #[.int .i64 0, .int .i64 0, .int .i64 0, .string (⟨#[]⟩ : ByteArray), .bool false, .slice none 0 0, .int .i64 0, .int .i64 0, .int .i64 0, .int .u32 0] 52 ?_; intro Ae hg w28 hbox hb; have Ab := Am (hbox); have Au := Am (zG hg (below_size (pB HB.out))); replace HB := Am (below_step (pB HB.out) hb); have Ad := Au; clear hb hbox hg; obtain ⟨Fb, Fc, Fd, Fe, Ff, Fg, Fh, Fi, Fj, Fk⟩ := bc10 Ab.out; obtain ⟨Fl, Fm, Fn, Fo, Fp, Fq, Fr, Fs, Ft, Fu⟩ := bf10 Ab.out) | (go_at_call 55; (with_reducible refine (entry_Check.calls k2 ((rd_T52 l0 Aa).f0) ((rd_T52 l0 Aa).f1) ((rd_T52 l0 Aa).f2) ((rd_T52 l0 Aa).f3) ((rd_T52 l0 Aa).f4.f0) _ _ ((rd_T52 l0 Aa).f4.f1) ((rd_T52 l0 Aa).f4.f2.f0) ((rd_T52 l0 Aa).f4.f2.f1) ((rd_T52 l0 Aa).f4.f2.f2) ((rd_T52 l0 Aa).f4.f2.f3) t130 _ ?Av ?Aw A8.out).mono ?_); (case Av => exact Kd.C_below As.out (pE HB.out Ad.out)); (case Aw => exact At.out); rintro e w30 ⟨rfl, hb⟩; replace Ab := Am (blk_below (g := Ae) (kX0 Ab.out) hb); replace HB := Am (below_step (pE HB.out Ad.out) hb); (try clear hb); (try clear hb2); (try clear hk); (try clear hi))))
      go_roundg k2
      case measure => have := HJ1.out; have := HK2.out; omega
      case rel => exact ⟨(wrap64 (Aa + 1)), zr, H', ⟨by have := HJ1.out; have := HK2.out; omega⟩, ⟨pE HB.out Ad.out⟩⟩
     rw [if_pos c10] at H
     have c10b0 : decide (0 < Aa) = true := decide_eq_true c10
     clear c10
     obtain ⟨ji11, hji11⟩ : ∃ j_ : Int, (wrap64 (Aa - 1)) = j_ := ⟨_, rfl⟩
     replace H : (if 0 ≤ (ji11) then (if (ji11) < (l0.length : Int) then (if ((rd_T52 l0 Aa).f0) = (wrap64 (((rd_T52 l0 (ji11)).f0) + 1)) then (if ((rd_T52 l0 Aa).f1) < ((rd_T52 l0 (ji11)).f1) then (some 1) else (entry_Batch.l0 k2 l0 l0 (l0.length : Int) (wrap64 (Aa + 1)))) else (some 1)) else (none)) else (none)) = some r := by first | (rw [hji11] at H; exact H) | (simp only [hji11] at H ⊢; exact H)
     (try rw [hji11] at A8)
     have hji11w : (IntKind.i64.wrap (Aa - 1)) = ji11 := (i64_w _).trans hji11
     obtain ⟨c12, H⟩ := zI H
     have c12b0 := decide_eq_true c12
     clear c12
     obtain ⟨c13, H⟩ := zI H
     have c13b0 := decide_eq_true c13
     clear c13
     by_cases c14 : ((rd_T52 l0 Aa).f0) = (wrap64 (((rd_T52 l0 (ji11)).f0) + 1))
     rotate_left
     ·rw [if_neg c14] at H
      have c14b0 := beq_eq_false_iff_ne.mpr c14
      have c14b1 := bne_iff_ne.mpr c14
      obtain rfl := Option.some.inj H
      have p128 : 0 ≤ (Aa : Int) := of_decide_eq_true pS
      have q128 : Aa < (l0.length : Int) := of_decide_eq_true pS
      obtain ⟨Bc, Bv, c128_5, e128, Bk, Bl, Bm, Bn, Bo, Bp, Bq, Br, Bs, Bt, Ba, Bb⟩ := at_T52u HR0.out Aa p128 q128 HB.out
      cases e128
      have As := Am Bb
      have At := Am Ba
      clear Bb Ba
      replace p128 := eq_true p128
      replace q128 := eq_true q128
      go_wp2_with (first | ((with_reducible refine gate_dst (N := 4) rfl ?_); (try (refine gate_guard (by rfl) ?_; dsimp only)); refine zE 4 #[.int .i64 0, .int .i64 0, .int .i64 0, .string (⟨#[]⟩ : ByteArray), .bool false, .slice none 0 0, .int .i64 0, .int .i64 0, .int .i64 0, .int .u32 0] 52 ?_; intro Ae hg w24 hbox hb; have Ab := Am (hbox); have Au := Am (zG hg (below_size (pB HB.out))); replace HB := Am (below_step (pB HB.out) hb); have Ad := Au; clear hb hbox hg; obtain ⟨D5, D6, D7, D8, D9, Ea, Eb, Ec, Ed, Ee⟩ := bc10 Ab.out; obtain ⟨Ef, Eg, Eh, Ei, Ej, Ek, El, Em, En, Eo⟩ := bf10 Ab.out) | (go_at_call 55; (with_reducible refine (entry_Check.calls k2 ((rd_T52 l0 Aa).f0) ((rd_T52 l0 Aa).f1) ((rd_T52 l0 Aa).f2) ((rd_T52 l0 Aa).f3) ((rd_T52 l0 Aa).f4.f0) _ _ ((rd_T52 l0 Aa).f4.f1) ((rd_T52 l0 Aa).f4.f2.f0) ((rd_T52 l0 Aa).f4.f2.f1) ((rd_T52 l0 Aa).f4.f2.f2) ((rd_T52 l0 Aa).f4.f2.f3) t130 _ ?Av ?Aw A8.out).mono ?_); (case Av => exact Kd.C_below As.out (pE HB.out Ad.out)); (case Aw => exact At.out); rintro e w26 ⟨rfl, hb⟩; replace Ab := Am (blk_below (g := Ae) (kX0 Ab.out) hb); replace HB := Am (below_step (pE HB.out Ad.out) hb); (try clear hb); (try clear hb2); (try clear hk); (try clear hi); obtain ⟨Ep, Er, Es, Et, Eu, Ew, Ex, Ey, Ez, E0⟩ := bc10 Ab.out; obtain ⟨E1, E2, E3, E4, E5, E6, E7, E8, E9, Fa⟩ := bf10 Ab.out; have p131 : 0 ≤ ((ji11) : Int) := of_decide_eq_true pS; have q131 : (ji11) < (l0.length : Int) := of_decide_eq_true pS; obtain ⟨Bd, Bh, c131_5, e131, Af, Ag, Ah, Ai, Aj, Ac, Ak, Al, An, Ao, Ap, Aq⟩ := at_T52 HR0.out (ji11) p131 q131; obtain rfl : Bc = Bd := (by injection e131); replace Af := cU HB.out Af; replace Ag := cU HB.out Ag; replace Ah := cU HB.out Ah; replace Ai := cU HB.out Ai; replace Aj := cU HB.out Aj; replace Ac := cU HB.out Ac; replace Ak := cU HB.out Ak; replace Al := cU HB.out Al; replace An := cU HB.out An; replace Ao := cU HB.out Ao; have Be := Am Aq; have Bf := Am Ap; clear Aq Ap; replace p131 := eq_true p131; replace q131 := eq_true q131))
      repeat (go_quiet (first | ((with_reducible refine gate_dst (N := 4) rfl ?_); (try (refine gate_guard (by rfl) ?_; dsimp only)); refine zE 4 #[.int .i64 0, .int .i64 0, .int .i64 0, .string (⟨#[]⟩ : ByteArray), .bool false, .slice none 0 0, .int .i64 0, .int .i64 0, .int .i64 0, .int .u32 0] 52 ?_; intro Ae hg w24 hbox hb; have Ab := Am (hbox); have Au := Am (zG hg (below_size (pB HB.out))); replace HB := Am (below_step (pB HB.out) hb); have Ad := Au; clear hb hbox hg; obtain ⟨D5, D6, D7, D8, D9, Ea, Eb, Ec, Ed, Ee⟩ := bc10 Ab.out; obtain ⟨Ef, Eg, Eh, Ei, Ej, Ek, El, Em, En, Eo⟩ := bf10 Ab.out) | (go_at_call 55; (with_reducible refine (entry_Check.calls k2 ((rd_T52 l0 Aa).f0) ((rd_T52 l0 Aa).f1) ((rd_T52 l0 Aa).f2) ((rd_T52 l0 Aa).f3) ((rd_T52 l0 Aa).f4.f0) _ _ ((rd_T52 l0 Aa).f4.f1) ((rd_T52 l0 Aa).f4.f2.f0) ((rd_T52 l0 Aa).f4.f2.f1) ((rd_T52 l0 Aa).f4.f2.f2) ((rd_T52 l0 Aa).f4.f2.f3) t130 _ ?Av ?Aw A8.out).mono ?_); (case Av => exact Kd.C_below As.out (pE HB.out Ad.out)); (case Aw => exact At.out); rintro e w26 ⟨rfl, hb⟩; replace Ab := Am (blk_below (g := Ae) (kX0 Ab.out) hb); replace HB := Am (below_step (pE HB.out Ad.out) hb); (try clear hb); (try clear hb2); (try clear hk); (try clear hi); obtain ⟨Ep, Er, Es, Et, Eu, Ew, Ex, Ey, Ez, E0⟩ := bc10 Ab.out; obtain ⟨E1, E2, E3, E4, E5, E6, E7, E8, E9, Fa⟩ := bf10 Ab.out; have p131 : 0 ≤ ((ji11) : Int) := of_decide_eq_true pS; have q131 : (ji11) < (l0.length : Int) := of_decide_eq_true pS; obtain ⟨Bd, Bh, c131_5, e131, Af, Ag, Ah, Ai, Aj, Ac, Ak, Al, An, Ao, Ap, Aq⟩ := at_T52 HR0.out (ji11) p131 q131; obtain rfl : Bc = Bd := (by injection e131); replace Af := cU HB.out Af; replace Ag := cU HB.out Ag; replace Ah := cU HB.out Ah; replace Ai := cU HB.out Ai; replace Aj := cU HB.out Aj; replace Ac := cU HB.out Ac; replace Ak := cU HB.out Ak; replace Al := cU HB.out Al; replace An := cU HB.out An; replace Ao := cU HB.out Ao; have Be := Am Aq; have Bf := Am Ap; clear Aq Ap; replace p131 := eq_true p131; replace q131 := eq_true q131)); try go_wp2_with (first | ((with_reducible refine gate_dst (N := 4) rfl ?_); (try (refine gate_guard (by rfl) ?_; dsimp only)); refine zE 4 #[.int .i64 0, .int .i64 0, .int .i64 0, .string (⟨#[]⟩ : ByteArray), .bool false, .slice none 0 0, .int .i64 0, .int .i64 0, .int .i64 0, .int .u32 0] 52 ?_; intro Ae hg w24 hbox hb; have Ab := Am (hbox); have Au := Am (zG hg (below_size (pB HB.out))); replace HB := Am (below_step (pB HB.out) hb); have Ad := Au; clear hb hbox hg; obtain ⟨D5, D6, D7, D8, D9, Ea, Eb, Ec, Ed, Ee⟩ := bc10 Ab.out; obtain ⟨Ef, Eg, Eh, Ei, Ej, Ek, El, Em, En, Eo⟩ := bf10 Ab.out) | (go_at_call 55; (with_reducible refine (entry_Check.calls k2 ((rd_T52 l0 Aa).f0) ((rd_T52 l0 Aa).f1) ((rd_T52 l0 Aa).f2) ((rd_T52 l0 Aa).f3) ((rd_T52 l0 Aa).f4.f0) _ _ ((rd_T52 l0 Aa).f4.f1) ((rd_T52 l0 Aa).f4.f2.f0) ((rd_T52 l0 Aa).f4.f2.f1) ((rd_T52 l0 Aa).f4.f2.f2) ((rd_T52 l0 Aa).f4.f2.f3) t130 _ ?Av ?Aw A8.out).mono ?_); (case Av => exact Kd.C_below As.out (pE HB.out Ad.out)); (case Aw => exact At.out); rintro e w26 ⟨rfl, hb⟩; replace Ab := Am (blk_below (g := Ae) (kX0 Ab.out) hb); replace HB := Am (below_step (pE HB.out Ad.out) hb); (try clear hb); (try clear hb2); (try clear hk); (try clear hi); obtain ⟨Ep, Er, Es, Et, Eu, Ew, Ex, Ey, Ez, E0⟩ := bc10 Ab.out; obtain ⟨E1, E2, E3, E4, E5, E6, E7, E8, E9, Fa⟩ := bf10 Ab.out; have p131 : 0 ≤ ((ji11) : Int) := of_decide_eq_true pS; have q131 : (ji11) < (l0.length : Int) := of_decide_eq_true pS; obtain ⟨Bd, Bh, c131_5, e131, Af, Ag, Ah, Ai, Aj, Ac, Ak, Al, An, Ao, Ap, Aq⟩ := at_T52 HR0.out (ji11) p131 q131; obtain rfl : Bc = Bd := (by injection e131); replace Af := cU HB.out Af; replace Ag := cU HB.out Ag; replace Ah := cU HB.out Ah; replace Ai := cU HB.out Ai; replace Aj := cU HB.out Aj; replace Ac := cU HB.out Ac; replace Ak := cU HB.out Ak; replace Al := cU HB.out Al; replace An := cU HB.out An; replace Ao := cU HB.out Ao; have Be := Am Aq; have Bf := Am Ap; clear Aq Ap; replace p131 := eq_true p131; replace q131 := eq_true q131)))
      go_ret
      exact ⟨by first | rfl | (simp [errW_none, errW_some] <;> rfl) | (simp only [← hji11]; first | rfl | (simp [errW_none, errW_some] <;> rfl)) | (simp [*, errW_none, errW_some] <;> rfl), pE HB.out Ad.out⟩
     rw [if_pos c14] at H
     have c14b0 := beq_iff_eq.mpr c14
     have c14b1 := bne_eq_false_iff_eq.mpr c14
     clear c14
     by_cases c15 : ((rd_T52 l0 Aa).f1) < ((rd_T52 l0 (ji11)).f1)
     ·rw [if_pos c15] at H
      have c15b0 := decide_eq_true c15
      clear c15
      obtain rfl := Option.some.inj H
      have p128 : 0 ≤ (Aa : Int) := of_decide_eq_true pS
      have q128 : Aa < (l0.length : Int) := of_decide_eq_true pS
      obtain ⟨Bc, Bv, c128_5, e128, Bk, Bl, Bm, Bn, Bo, Bp, Bq, Br, Bs, Bt, Ba, Bb⟩ := at_T52u HR0.out Aa p128 q128 HB.out
      cases e128
      have As := Am Bb
      have At := Am Ba
      clear Bb Ba
      replace p128 := eq_true p128
      replace q128 := eq_true q128
      go_wp2_with (first | ((with_reducible refine gate_dst (N := 4) rfl ?_); (try (refine gate_guard (by rfl) ?_; dsimp only)); refine zE 4 #[.int .i64 0, .int .i64 0, .int .i64 0, .string (⟨#[]⟩ : ByteArray), .bool false, .slice none 0 0, .int .i64 0, .int .i64 0, .int .i64 0, .int .u32 0] 52 ?_; intro Ae hg w16 hbox hb; have Ab := Am (hbox); have Au := Am (zG hg (below_size (pB HB.out))); replace HB := Am (below_step (pB HB.out) hb); have Ad := Au; clear hb hbox hg; obtain ⟨Bx, By, Bz, B0, B1, B2, B3, B4, B5, B6⟩ := bc10 Ab.out; obtain ⟨B7, B8, B9, Ca, Cb, Cc, Cd, Ce, Cf, Cg⟩ := bf10 Ab.out) | (go_at_call 55; (with_reducible refine (entry_Check.calls k2 ((rd_T52 l0 Aa).f0) ((rd_T52 l0 Aa).f1) ((rd_T52 l0 Aa).f2) ((rd_T52 l0 Aa).f3) ((rd_T52 l0 Aa).f4.f0) _ _ ((rd_T52 l0 Aa).f4.f1) ((rd_T52 l0 Aa).f4.f2.f0) ((rd_T52 l0 Aa).f4.f2.f1) ((rd_T52 l0 Aa).f4.f2.f2) ((rd_T52 l0 Aa).f4.f2.f3) t130 _ ?Av ?Aw A8.out).mono ?_); (case Av => exact Kd.C_below As.out (pE HB.out Ad.out)); (case Aw => exact At.out); rintro e w18 ⟨rfl, hb⟩; replace Ab := Am (blk_below (g := Ae) (kX0 Ab.out) hb); replace HB := Am (below_step (pE HB.out Ad.out) hb); (try clear hb); (try clear hb2); (try clear hk); (try clear hi); obtain ⟨Ch, Ci, Cj, Ck, Cl, Cm, Cn, Co, Cp, Cq⟩ := bc10 Ab.out; obtain ⟨Cr, Cs, Ct, Cu, Cv, Cw, Cx, Cy, Cz, C0⟩ := bf10 Ab.out; have p131 : 0 ≤ ((ji11) : Int) := of_decide_eq_true pS; have q131 : (ji11) < (l0.length : Int) := of_decide_eq_true pS; obtain ⟨Bd, Bh, c131_5, e131, Af, Ag, Ah, Ai, Aj, Ac, Ak, Al, An, Ao, Ap, Aq⟩ := at_T52 HR0.out (ji11) p131 q131; obtain rfl : Bc = Bd := (by injection e131); replace Af := cU HB.out Af; replace Ag := cU HB.out Ag; replace Ah := cU HB.out Ah; replace Ai := cU HB.out Ai; replace Aj := cU HB.out Aj; replace Ac := cU HB.out Ac; replace Ak := cU HB.out Ak; replace Al := cU HB.out Al; replace An := cU HB.out An; replace Ao := cU HB.out Ao; have Be := Am Aq; have Bf := Am Ap; clear Aq Ap; replace p131 := eq_true p131; replace q131 := eq_true q131; have p132 : 0 ≤ ((ji11) : Int) := of_decide_eq_true pS; have q132 : (ji11) < (l0.length : Int) := of_decide_eq_true pS; obtain ⟨Bg, Bu, c132_5, e132, Ax, Ay, Az, A1, A2, Ar, A3, A4, A5, A6, A7, A9⟩ := at_T52 HR0.out (ji11) p132 q132; obtain rfl : Bc = Bg := (by injection e132); replace Ax := cU HB.out Ax; replace Ay := cU HB.out Ay; replace Az := cU HB.out Az; replace A1 := cU HB.out A1; replace A2 := cU HB.out A2; replace Ar := cU HB.out Ar; replace A3 := cU HB.out A3; replace A4 := cU HB.out A4; replace A5 := cU HB.out A5; replace A6 := cU HB.out A6; have Bi := Am A9; have Bj := Am A7; clear A9 A7; replace p132 := eq_true p132; replace q132 := eq_true q132; have ea_ := Option.some.inj (Ac.symm.trans Ar); injection ea_ with ea_ en_ ec_; subst ea_; subst ec_; clear en_))
      repeat (go_quiet (first | ((with_reducible refine gate_dst (N := 4) rfl ?_); (try (refine gate_guard (by rfl) ?_; dsimp only)); refine zE 4 #[.int .i64 0, .int .i64 0, .int .i64 0, .string (⟨#[]⟩ : ByteArray), .bool false, .slice none 0 0, .int .i64 0, .int .i64 0, .int .i64 0, .int .u32 0] 52 ?_; intro Ae hg w16 hbox hb; have Ab := Am (hbox); have Au := Am (zG hg (below_size (pB HB.out))); replace HB := Am (below_step (pB HB.out) hb); have Ad := Au; clear hb hbox hg; obtain ⟨Bx, By, Bz, B0, B1, B2, B3, B4, B5, B6⟩ := bc10 Ab.out; obtain ⟨B7, B8, B9, Ca, Cb, Cc, Cd, Ce, Cf, Cg⟩ := bf10 Ab.out) | (go_at_call 55; (with_reducible refine (entry_Check.calls k2 ((rd_T52 l0 Aa).f0) ((rd_T52 l0 Aa).f1) ((rd_T52 l0 Aa).f2) ((rd_T52 l0 Aa).f3) ((rd_T52 l0 Aa).f4.f0) _ _ ((rd_T52 l0 Aa).f4.f1) ((rd_T52 l0 Aa).f4.f2.f0) ((rd_T52 l0 Aa).f4.f2.f1) ((rd_T52 l0 Aa).f4.f2.f2) ((rd_T52 l0 Aa).f4.f2.f3) t130 _ ?Av ?Aw A8.out).mono ?_); (case Av => exact Kd.C_below As.out (pE HB.out Ad.out)); (case Aw => exact At.out); rintro e w18 ⟨rfl, hb⟩; replace Ab := Am (blk_below (g := Ae) (kX0 Ab.out) hb); replace HB := Am (below_step (pE HB.out Ad.out) hb); (try clear hb); (try clear hb2); (try clear hk); (try clear hi); obtain ⟨Ch, Ci, Cj, Ck, Cl, Cm, Cn, Co, Cp, Cq⟩ := bc10 Ab.out; obtain ⟨Cr, Cs, Ct, Cu, Cv, Cw, Cx, Cy, Cz, C0⟩ := bf10 Ab.out; have p131 : 0 ≤ ((ji11) : Int) := of_decide_eq_true pS; have q131 : (ji11) < (l0.length : Int) := of_decide_eq_true pS; obtain ⟨Bd, Bh, c131_5, e131, Af, Ag, Ah, Ai, Aj, Ac, Ak, Al, An, Ao, Ap, Aq⟩ := at_T52 HR0.out (ji11) p131 q131; obtain rfl : Bc = Bd := (by injection e131); replace Af := cU HB.out Af; replace Ag := cU HB.out Ag; replace Ah := cU HB.out Ah; replace Ai := cU HB.out Ai; replace Aj := cU HB.out Aj; replace Ac := cU HB.out Ac; replace Ak := cU HB.out Ak; replace Al := cU HB.out Al; replace An := cU HB.out An; replace Ao := cU HB.out Ao; have Be := Am Aq; have Bf := Am Ap; clear Aq Ap; replace p131 := eq_true p131; replace q131 := eq_true q131; have p132 : 0 ≤ ((ji11) : Int) := of_decide_eq_true pS; have q132 : (ji11) < (l0.length : Int) := of_decide_eq_true pS; obtain ⟨Bg, Bu, c132_5, e132, Ax, Ay, Az, A1, A2, Ar, A3, A4, A5, A6, A7, A9⟩ := at_T52 HR0.out (ji11) p132 q132; obtain rfl : Bc = Bg := (by injection e132); replace Ax := cU HB.out Ax; replace Ay := cU HB.out Ay; replace Az := cU HB.out Az; replace A1 := cU HB.out A1; replace A2 := cU HB.out A2; replace Ar := cU HB.out Ar; replace A3 := cU HB.out A3; replace A4 := cU HB.out A4; replace A5 := cU HB.out A5; replace A6 := cU HB.out A6; have Bi := Am A9; have Bj := Am A7; clear A9 A7; replace p132 := eq_true p132; replace q132 := eq_true q132; have ea_ := Option.some.inj (Ac.symm.trans Ar); injection ea_ with ea_ en_ ec_; subst ea_; subst ec_; clear en_)); try go_wp2_with (first | ((with_reducible refine gate_dst (N := 4) rfl ?_); (try (refine gate_guard (by rfl) ?_; dsimp only)); refine zE 4 #[.int .i64 0, .int .i64 0, .int .i64 0, .string (⟨#[]⟩ : ByteArray), .bool false, .slice none 0 0, .int .i64 0, .int .i64 0, .int .i64 0, .int .u32 0] 52 ?_; intro Ae hg w16 hbox hb; have Ab := Am (hbox); have Au := Am (zG hg (below_size (pB HB.out))); replace HB := Am (below_step (pB HB.out) hb); have Ad := Au; clear hb hbox hg; obtain ⟨Bx, By, Bz, B0, B1, B2, B3, B4, B5, B6⟩ := bc10 Ab.out; obtain ⟨B7, B8, B9, Ca, Cb, Cc, Cd, Ce, Cf, Cg⟩ := bf10 Ab.out) | (go_at_call 55; (with_reducible refine (entry_Check.calls k2 ((rd_T52 l0 Aa).f0) ((rd_T52 l0 Aa).f1) ((rd_T52 l0 Aa).f2) ((rd_T52 l0 Aa).f3) ((rd_T52 l0 Aa).f4.f0) _ _ ((rd_T52 l0 Aa).f4.f1) ((rd_T52 l0 Aa).f4.f2.f0) ((rd_T52 l0 Aa).f4.f2.f1) ((rd_T52 l0 Aa).f4.f2.f2) ((rd_T52 l0 Aa).f4.f2.f3) t130 _ ?Av ?Aw A8.out).mono ?_); (case Av => exact Kd.C_below As.out (pE HB.out Ad.out)); (case Aw => exact At.out); rintro e w18 ⟨rfl, hb⟩; replace Ab := Am (blk_below (g := Ae) (kX0 Ab.out) hb); replace HB := Am (below_step (pE HB.out Ad.out) hb); (try clear hb); (try clear hb2); (try clear hk); (try clear hi); obtain ⟨Ch, Ci, Cj, Ck, Cl, Cm, Cn, Co, Cp, Cq⟩ := bc10 Ab.out; obtain ⟨Cr, Cs, Ct, Cu, Cv, Cw, Cx, Cy, Cz, C0⟩ := bf10 Ab.out; have p131 : 0 ≤ ((ji11) : Int) := of_decide_eq_true pS; have q131 : (ji11) < (l0.length : Int) := of_decide_eq_true pS; obtain ⟨Bd, Bh, c131_5, e131, Af, Ag, Ah, Ai, Aj, Ac, Ak, Al, An, Ao, Ap, Aq⟩ := at_T52 HR0.out (ji11) p131 q131; obtain rfl : Bc = Bd := (by injection e131); replace Af := cU HB.out Af; replace Ag := cU HB.out Ag; replace Ah := cU HB.out Ah; replace Ai := cU HB.out Ai; replace Aj := cU HB.out Aj; replace Ac := cU HB.out Ac; replace Ak := cU HB.out Ak; replace Al := cU HB.out Al; replace An := cU HB.out An; replace Ao := cU HB.out Ao; have Be := Am Aq; have Bf := Am Ap; clear Aq Ap; replace p131 := eq_true p131; replace q131 := eq_true q131; have p132 : 0 ≤ ((ji11) : Int) := of_decide_eq_true pS; have q132 : (ji11) < (l0.length : Int) := of_decide_eq_true pS; obtain ⟨Bg, Bu, c132_5, e132, Ax, Ay, Az, A1, A2, Ar, A3, A4, A5, A6, A7, A9⟩ := at_T52 HR0.out (ji11) p132 q132; obtain rfl : Bc = Bg := (by injection e132); replace Ax := cU HB.out Ax; replace Ay := cU HB.out Ay; replace Az := cU HB.out Az; replace A1 := cU HB.out A1; replace A2 := cU HB.out A2; replace Ar := cU HB.out Ar; replace A3 := cU HB.out A3; replace A4 := cU HB.out A4; replace A5 := cU HB.out A5; replace A6 := cU HB.out A6; have Bi := Am A9; have Bj := Am A7; clear A9 A7; replace p132 := eq_true p132; replace q132 := eq_true q132; have ea_ := Option.some.inj (Ac.symm.trans Ar); injection ea_ with ea_ en_ ec_; subst ea_; subst ec_; clear en_)))
      go_ret
      exact ⟨by first | rfl | (simp [errW_none, errW_some] <;> rfl) | (simp only [← hji11]; first | rfl | (simp [errW_none, errW_some] <;> rfl)) | (simp [*, errW_none, errW_some] <;> rfl), pE HB.out Ad.out⟩
     rw [if_neg c15] at H
     have c15b0 := decide_eq_false c15
     clear c15
     have H' := Am H
     clear H
     have p128 : 0 ≤ (Aa : Int) := of_decide_eq_true pS
     have q128 : Aa < (l0.length : Int) := of_decide_eq_true pS
     obtain ⟨Bc, Bv, c128_5, e128, Bk, Bl, Bm, Bn, Bo, Bp, Bq, Br, Bs, Bt, Ba, Bb⟩ := at_T52u HR0.out Aa p128 q128 HB.out
     cases e128
     have As := Am Bb
     have At := Am Ba
     clear Bb Ba
     replace p128 := eq_true p128
     replace q128 := eq_true q128
     go_wp2_with (first | ((with_reducible refine gate_dst (N := 4) rfl ?_); (try (refine gate_guard (by rfl) ?_; dsimp only)); refine zE 4 #[.int .i64 0, .int .i64 0, .int .i64 0, .string (⟨#[]⟩ : ByteArray), .bool false, .slice none 0 0, .int .i64 0, .int .i64 0, .int .i64 0, .int .u32 0] 52 ?_; intro Ae hg w20 hbox hb; have Ab := Am (hbox); have Au := Am (zG hg (below_size (pB HB.out))); replace HB := Am (below_step (pB HB.out) hb); have Ad := Au; clear hb hbox hg; obtain ⟨C1, C2, C3, C4, C5, C6, C7, C8, C9, Da⟩ := bc10 Ab.out; obtain ⟨Db, Dc, Dd, De, Df, Dg, Dh, Di, Dj, Dk⟩ := bf10 Ab.out) | (go_at_call 55; (with_reducible refine (entry_Check.calls k2 ((rd_T52 l0 Aa).f0) ((rd_T52 l0 Aa).f1) ((rd_T52 l0 Aa).f2) ((rd_T52 l0 Aa).f3) ((rd_T52 l0 Aa).f4.f0) _ _ ((rd_T52 l0 Aa).f4.f1) ((rd_T52 l0 Aa).f4.f2.f0) ((rd_T52 l0 Aa).f4.f2.f1) ((rd_T52 l0 Aa).f4.f2.f2) ((rd_T52 l0 Aa).f4.f2.f3) t130 _ ?Av ?Aw A8.out).mono ?_); (case Av => exact Kd.C_below As.out (pE HB.out Ad.out)); (case Aw => exact At.out); rintro e w22 ⟨rfl, hb⟩; replace Ab := Am (blk_below (g := Ae) (kX0 Ab.out) hb); replace HB := Am (below_step (pE HB.out Ad.out) hb); (try clear hb); (try clear hb2); (try clear hk); (try clear hi); obtain ⟨Dl, Dm, Dn, Do, Dp, Dq, Dr, Ds, Dt, Du⟩ := bc10 Ab.out; obtain ⟨Dv, Dw, Dx, Dy, Dz, D0, D1, D2, D3, D4⟩ := bf10 Ab.out; have p131 : 0 ≤ ((ji11) : Int) := of_decide_eq_true pS; have q131 : (ji11) < (l0.length : Int) := of_decide_eq_true pS; obtain ⟨Bd, Bh, c131_5, e131, Af, Ag, Ah, Ai, Aj, Ac, Ak, Al, An, Ao, Ap, Aq⟩ := at_T52 HR0.out (ji11) p131 q131; obtain rfl : Bc = Bd := (by injection e131); replace Af := cU HB.out Af; replace Ag := cU HB.out Ag; replace Ah := cU HB.out Ah; replace Ai := cU HB.out Ai; replace Aj := cU HB.out Aj; replace Ac := cU HB.out Ac; replace Ak := cU HB.out Ak; replace Al := cU HB.out Al; replace An := cU HB.out An; replace Ao := cU HB.out Ao; have Be := Am Aq; have Bf := Am Ap; clear Aq Ap; replace p131 := eq_true p131; replace q131 := eq_true q131; have p132 : 0 ≤ ((ji11) : Int) := of_decide_eq_true pS; have q132 : (ji11) < (l0.length : Int) := of_decide_eq_true pS; obtain ⟨Bg, Bu, c132_5, e132, Ax, Ay, Az, A1, A2, Ar, A3, A4, A5, A6, A7, A9⟩ := at_T52 HR0.out (ji11) p132 q132; obtain rfl : Bc = Bg := (by injection e132); replace Ax := cU HB.out Ax; replace Ay := cU HB.out Ay; replace Az := cU HB.out Az; replace A1 := cU HB.out A1; replace A2 := cU HB.out A2; replace Ar := cU HB.out Ar; replace A3 := cU HB.out A3; replace A4 := cU HB.out A4; replace A5 := cU HB.out A5; replace A6 := cU HB.out A6; have Bi := Am A9; have Bj := Am A7; clear A9 A7; replace p132 := eq_true p132; replace q132 := eq_true q132; have ea_ := Option.some.inj (Ac.symm.trans Ar); injection ea_ with ea_ en_ ec_; subst ea_; subst ec_; clear en_))
     repeat (go_quiet (first | ((with_reducible refine gate_dst (N := 4) rfl ?_); (try (refine gate_guard (by rfl) ?_; dsimp only)); refine zE 4 #[.int .i64 0, .int .i64 0, .int .i64 0, .string (⟨#[]⟩ : ByteArray), .bool false, .slice none 0 0, .int .i64 0, .int .i64 0, .int .i64 0, .int .u32 0] 52 ?_; intro Ae hg w20 hbox hb; have Ab := Am (hbox); have Au := Am (zG hg (below_size (pB HB.out))); replace HB := Am (below_step (pB HB.out) hb); have Ad := Au; clear hb hbox hg; obtain ⟨C1, C2, C3, C4, C5, C6, C7, C8, C9, Da⟩ := bc10 Ab.out; obtain ⟨Db, Dc, Dd, De, Df, Dg, Dh, Di, Dj, Dk⟩ := bf10 Ab.out) | (go_at_call 55; (with_reducible refine (entry_Check.calls k2 ((rd_T52 l0 Aa).f0) ((rd_T52 l0 Aa).f1) ((rd_T52 l0 Aa).f2) ((rd_T52 l0 Aa).f3) ((rd_T52 l0 Aa).f4.f0) _ _ ((rd_T52 l0 Aa).f4.f1) ((rd_T52 l0 Aa).f4.f2.f0) ((rd_T52 l0 Aa).f4.f2.f1) ((rd_T52 l0 Aa).f4.f2.f2) ((rd_T52 l0 Aa).f4.f2.f3) t130 _ ?Av ?Aw A8.out).mono ?_); (case Av => exact Kd.C_below As.out (pE HB.out Ad.out)); (case Aw => exact At.out); rintro e w22 ⟨rfl, hb⟩; replace Ab := Am (blk_below (g := Ae) (kX0 Ab.out) hb); replace HB := Am (below_step (pE HB.out Ad.out) hb); (try clear hb); (try clear hb2); (try clear hk); (try clear hi); obtain ⟨Dl, Dm, Dn, Do, Dp, Dq, Dr, Ds, Dt, Du⟩ := bc10 Ab.out; obtain ⟨Dv, Dw, Dx, Dy, Dz, D0, D1, D2, D3, D4⟩ := bf10 Ab.out; have p131 : 0 ≤ ((ji11) : Int) := of_decide_eq_true pS; have q131 : (ji11) < (l0.length : Int) := of_decide_eq_true pS; obtain ⟨Bd, Bh, c131_5, e131, Af, Ag, Ah, Ai, Aj, Ac, Ak, Al, An, Ao, Ap, Aq⟩ := at_T52 HR0.out (ji11) p131 q131; obtain rfl : Bc = Bd := (by injection e131); replace Af := cU HB.out Af; replace Ag := cU HB.out Ag; replace Ah := cU HB.out Ah; replace Ai := cU HB.out Ai; replace Aj := cU HB.out Aj; replace Ac := cU HB.out Ac; replace Ak := cU HB.out Ak; replace Al := cU HB.out Al; replace An := cU HB.out An; replace Ao := cU HB.out Ao; have Be := Am Aq; have Bf := Am Ap; clear Aq Ap; replace p131 := eq_true p131; replace q131 := eq_true q131; have p132 : 0 ≤ ((ji11) : Int) := of_decide_eq_true pS; have q132 : (ji11) < (l0.length : Int) := of_decide_eq_true pS; obtain ⟨Bg, Bu, c132_5, e132, Ax, Ay, Az, A1, A2, Ar, A3, A4, A5, A6, A7, A9⟩ := at_T52 HR0.out (ji11) p132 q132; obtain rfl : Bc = Bg := (by injection e132); replace Ax := cU HB.out Ax; replace Ay := cU HB.out Ay; replace Az := cU HB.out Az; replace A1 := cU HB.out A1; replace A2 := cU HB.out A2; replace Ar := cU HB.out Ar; replace A3 := cU HB.out A3; replace A4 := cU HB.out A4; replace A5 := cU HB.out A5; replace A6 := cU HB.out A6; have Bi := Am A9; have Bj := Am A7; clear A9 A7; replace p132 := eq_true p132; replace q132 := eq_true q132; have ea_ := Option.some.inj (Ac.symm.trans Ar); injection ea_ with ea_ en_ ec_; subst ea_; subst ec_; clear en_)); try go_wp2_with (first | ((with_reducible refine gate_dst (N := 4) rfl ?_); (try (refine gate_guard (by rfl) ?_; dsimp only)); refine zE 4 #[.int .i64 0, .int .i64 0, .int .i64 0, .string (⟨#[]⟩ : ByteArray), .bool false, .slice none 0 0, .int .i64 0, .int .i64 0, .int .i64 0, .int .u32 0] 52 ?_; intro Ae hg w20 hbox hb; have Ab := Am (hbox); have Au := Am (zG hg (below_size (pB HB.out))); replace HB := Am (below_step (pB HB.out) hb); have Ad := Au; clear hb hbox hg; obtain ⟨C1, C2, C3, C4, C5, C6, C7, C8, C9, Da⟩ := bc10 Ab.out; obtain ⟨Db, Dc, Dd, De, Df, Dg, Dh, Di, Dj, Dk⟩ := bf10 Ab.out) | (go_at_call 55; (with_reducible refine (entry_Check.calls k2 ((rd_T52 l0 Aa).f0) ((rd_T52 l0 Aa).f1) ((rd_T52 l0 Aa).f2) ((rd_T52 l0 Aa).f3) ((rd_T52 l0 Aa).f4.f0) _ _ ((rd_T52 l0 Aa).f4.f1) ((rd_T52 l0 Aa).f4.f2.f0) ((rd_T52 l0 Aa).f4.f2.f1) ((rd_T52 l0 Aa).f4.f2.f2) ((rd_T52 l0 Aa).f4.f2.f3) t130 _ ?Av ?Aw A8.out).mono ?_); (case Av => exact Kd.C_below As.out (pE HB.out Ad.out)); (case Aw => exact At.out); rintro e w22 ⟨rfl, hb⟩; replace Ab := Am (blk_below (g := Ae) (kX0 Ab.out) hb); replace HB := Am (below_step (pE HB.out Ad.out) hb); (try clear hb); (try clear hb2); (try clear hk); (try clear hi); obtain ⟨Dl, Dm, Dn, Do, Dp, Dq, Dr, Ds, Dt, Du⟩ := bc10 Ab.out; obtain ⟨Dv, Dw, Dx, Dy, Dz, D0, D1, D2, D3, D4⟩ := bf10 Ab.out; have p131 : 0 ≤ ((ji11) : Int) := of_decide_eq_true pS; have q131 : (ji11) < (l0.length : Int) := of_decide_eq_true pS; obtain ⟨Bd, Bh, c131_5, e131, Af, Ag, Ah, Ai, Aj, Ac, Ak, Al, An, Ao, Ap, Aq⟩ := at_T52 HR0.out (ji11) p131 q131; obtain rfl : Bc = Bd := (by injection e131); replace Af := cU HB.out Af; replace Ag := cU HB.out Ag; replace Ah := cU HB.out Ah; replace Ai := cU HB.out Ai; replace Aj := cU HB.out Aj; replace Ac := cU HB.out Ac; replace Ak := cU HB.out Ak; replace Al := cU HB.out Al; replace An := cU HB.out An; replace Ao := cU HB.out Ao; have Be := Am Aq; have Bf := Am Ap; clear Aq Ap; replace p131 := eq_true p131; replace q131 := eq_true q131; have p132 : 0 ≤ ((ji11) : Int) := of_decide_eq_true pS; have q132 : (ji11) < (l0.length : Int) := of_decide_eq_true pS; obtain ⟨Bg, Bu, c132_5, e132, Ax, Ay, Az, A1, A2, Ar, A3, A4, A5, A6, A7, A9⟩ := at_T52 HR0.out (ji11) p132 q132; obtain rfl : Bc = Bg := (by injection e132); replace Ax := cU HB.out Ax; replace Ay := cU HB.out Ay; replace Az := cU HB.out Az; replace A1 := cU HB.out A1; replace A2 := cU HB.out A2; replace Ar := cU HB.out Ar; replace A3 := cU HB.out A3; replace A4 := cU HB.out A4; replace A5 := cU HB.out A5; replace A6 := cU HB.out A6; have Bi := Am A9; have Bj := Am A7; clear A9 A7; replace p132 := eq_true p132; replace q132 := eq_true q132; have ea_ := Option.some.inj (Ac.symm.trans Ar); injection ea_ with ea_ en_ ec_; subst ea_; subst ec_; clear en_)))
     go_roundg k2
     case measure => have := HJ1.out; have := HK2.out; omega
     case rel => exact ⟨(wrap64 (Aa + 1)), zr, H', ⟨by have := HJ1.out; have := HK2.out; omega⟩, ⟨pE HB.out Ad.out⟩⟩
mutual
def wal_Check.j0 : Nat → Bool → Bool → Bool → Bool → Int → List (S52) → Int → Int → Int → Int → Option (Int)
 | 0, _, _, _, _, _, _, _, _, _, _ => none
 | k + 1, x3, x4, x5, x15, x134000, x134001, x134002, x134003, x134004, x134005 => if x15 = true then (wal_Check.j2 k x3 x4 x15 x134000 x134001 x134002 x134003 x134004 x134005) else (if x3 = true then (wal_Check.j1 k x3 x4 x5 false x134000 x134001 x134002 x134003 x134004 x134005) else (wal_Check.j1 k x3 x4 x5 (decide ((x134001.length : Int) > 0)) x134000 x134001 x134002 x134003 x134004 x134005))
def wal_Check.j2 : Nat → Bool → Bool → Bool → Int → List (S52) → Int → Int → Int → Int → Option (Int)
 | 0, _, _, _, _, _, _, _, _, _ => none
 | k + 1, x3, x4, x15, x134000, x134001, x134002, x134003, x134004, x134005 => if x15 = true then (some 1) else (if x3 = true then ((entry_Batch.f k x134001).bind fun t134 => (some t134)) else (if x4 = true then ((hard_Check.f x134002 x134003 x134004).bind fun t135 => (some t135)) else (if x134005 < 1 then (some 1) else (if x134005 > 2147483647 then (some 1) else (some 0)))))
def wal_Check.j1 : Nat → Bool → Bool → Bool → Bool → Int → List (S52) → Int → Int → Int → Int → Option (Int)
 | 0, _, _, _, _, _, _, _, _, _, _ => none
 | k + 1, x3, x4, x5, x15, x134000, x134001, x134002, x134003, x134004, x134005 => if x15 = true then (wal_Check.j2 k x3 x4 x15 x134000 x134001 x134002 x134003 x134004 x134005) else (if x4 = true then (if x5 = true then (wal_Check.j2 k x3 x4 false x134000 x134001 x134002 x134003 x134004 x134005) else (wal_Check.j2 k x3 x4 (x134005 != 0) x134000 x134001 x134002 x134003 x134004 x134005)) else (if (!(x134002 == 0) || (!(x134003 == 0) || (!(x134004 == 0)))) = true then (wal_Check.j2 k x3 x4 (!(x134002 == 0) || (!(x134003 == 0) || (!(x134004 == 0)))) x134000 x134001 x134002 x134003 x134004 x134005) else (if x5 = true then (wal_Check.j2 k x3 x4 false x134000 x134001 x134002 x134003 x134004 x134005) else (wal_Check.j2 k x3 x4 (x134005 != 0) x134000 x134001 x134002 x134003 x134004 x134005))))
end
def wal_Check.f (k : Nat) (a0_0 : Int) (l0_1 : List (S52)) (a0_2 : Int) (a0_3 : Int) (a0_4 : Int) (a0_5 : Int) : Option (Int) := if a0_0 = 1 then (wal_Check.j0 k (a0_0 == 1) (a0_0 == 2) (a0_0 == 3) false a0_0 l0_1 a0_2 a0_3 a0_4 a0_5) else (if a0_0 = 2 then (wal_Check.j0 k (a0_0 == 1) (a0_0 == 2) (a0_0 == 3) false a0_0 l0_1 a0_2 a0_3 a0_4 a0_5) else (wal_Check.j0 k (a0_0 == 1) (a0_0 == 2) (a0_0 == 3) (!(a0_0 == 3)) a0_0 l0_1 a0_2 a0_3 a0_4 a0_5))
theorem wal_Check.mono_l : ∀ k, (∀ y0 y1 y2 y3 y4 y5 y6 y7 y8 y9, LeO (wal_Check.j0 k y0 y1 y2 y3 y4 y5 y6 y7 y8 y9) (wal_Check.j0 (k + 1) y0 y1 y2 y3 y4 y5 y6 y7 y8 y9)) ∧ (∀ y0 y1 y2 y3 y4 y5 y6 y7 y8, LeO (wal_Check.j2 k y0 y1 y2 y3 y4 y5 y6 y7 y8) (wal_Check.j2 (k + 1) y0 y1 y2 y3 y4 y5 y6 y7 y8)) ∧ (∀ y0 y1 y2 y3 y4 y5 y6 y7 y8 y9, LeO (wal_Check.j1 k y0 y1 y2 y3 y4 y5 y6 y7 y8 y9) (wal_Check.j1 (k + 1) y0 y1 y2 y3 y4 y5 y6 y7 y8 y9))
 | 0 => ⟨fun _ _ _ _ _ _ _ _ _ _ r h => by simp [wal_Check.j0] at h, fun _ _ _ _ _ _ _ _ _ r h => by simp [wal_Check.j2] at h, fun _ _ _ _ _ _ _ _ _ _ r h => by simp [wal_Check.j1] at h⟩
 | k + 1 => by
  obtain ⟨ih0, ih1, ih2⟩ := wal_Check.mono_l k
  refine ⟨?_, ?_, ?_⟩
  ·intro y0 y1 y2 y3 y4 y5 y6 y7 y8 y9
   unfold wal_Check.j0
   repeat' (with_reducible first | exact ih0 .. | exact ih1 .. | exact ih2 .. | exact entry_Batch.mono .. | exact LeO.refl .. | exact LeO.none .. | refine LeO.ite ?_ ?_ | refine LeO.bind ?_ (fun _ => ?_))
  ·intro y0 y1 y2 y3 y4 y5 y6 y7 y8
   unfold wal_Check.j2
   repeat' (with_reducible first | exact ih0 .. | exact ih1 .. | exact ih2 .. | exact entry_Batch.mono .. | exact LeO.refl .. | exact LeO.none .. | refine LeO.ite ?_ ?_ | refine LeO.bind ?_ (fun _ => ?_))
  ·intro y0 y1 y2 y3 y4 y5 y6 y7 y8 y9
   unfold wal_Check.j1
   repeat' (with_reducible first | exact ih0 .. | exact ih1 .. | exact ih2 .. | exact entry_Batch.mono .. | exact LeO.refl .. | exact LeO.none .. | refine LeO.ite ?_ ?_ | refine LeO.bind ?_ (fun _ => ?_))
theorem wal_Check.mono : ∀ a0 a1 a2 a3 a4 a5 k, LeO (wal_Check.f k a0 a1 a2 a3 a4 a5) (wal_Check.f (k + 1) a0 a1 a2 a3 a4 a5) := by
 intro a0 a1 a2 a3 a4 a5 k
 obtain ⟨ih0, ih1, ih2⟩ := wal_Check.mono_l k
 unfold wal_Check.f
 repeat' (with_reducible first | exact ih0 .. | exact ih1 .. | exact ih2 .. | exact entry_Batch.mono .. | exact LeO.refl .. | exact LeO.none .. | refine LeO.ite ?_ ?_ | refine LeO.bind ?_ (fun _ => ?_))
set_option maxHeartbeats 8000000 in
set_option maxRecDepth 100000 in
theorem wal_Check.calls (k : Nat) (a0_0 : Int) (A0_1 : Option Addr) (c0_1 : Nat) (l0_1 : List (S52)) (a0_2 : Int) (a0_3 : Int) (a0_4 : Int) (a0_5 : Int) (r : Int) (w : World) (hr0_1 : Kd.C k52 w A0_1 l0_1.length l0_1) (hc0_1 : l0_1.length ≤ c0_1) (h : wal_Check.f k a0_0 l0_1 a0_2 a0_3 a0_4 a0_5 = some r) :
 Calls Try.prog 13 #[.agg #[.int .i64 a0_0, .slice A0_1 l0_1.length c0_1, .int .i64 a0_2, .int .i64 a0_3, .int .i64 a0_4, .int .i64 a0_5]] w fun e w' => e = .returned (.int .i64 r) ∧ Below w.heap.size w w' := by
 have hu30 := Try.underlying30
 have hu28 := Try.underlying28
 have A8 := Am hr0_1
 have A9 := Am hc0_1
 clear hr0_1 hc0_1
 have HB := Am (Below.refl w.heap.size w)
 unfold wal_Check.f at h
 have H := h
 clear h
 have HC2 := Am H
 clear H
 go_enter Try.func13, Try.ntmps13
 go_upto_region 2 with (first | ((with_reducible refine gate_dst (N := 1) rfl ?_); (try (refine gate_guard (by rfl) ?_; dsimp only)); refine zE 1 #[.int .i64 a0_0, .slice A0_1 l0_1.length c0_1, .int .i64 a0_2, .int .i64 a0_3, .int .i64 a0_4, .int .i64 a0_5] 30 ?_; intro Ac hg w3 hbox hb; have Aa := Am (hbox); have Aq := Am (zG hg (below_size (pB HB.out))); replace HB := Am (below_step (pB HB.out) hb); have Ab := Aq; clear hb hbox hg; obtain ⟨Ad, Ae, Af, Ag, Ah, Ai⟩ := bc6 Aa.out; obtain ⟨Aj, Ak, Al, An, Ao, Ap⟩ := bf6 Aa.out))
 repeat (go_quiet (first | ((with_reducible refine gate_dst (N := 1) rfl ?_); (try (refine gate_guard (by rfl) ?_; dsimp only)); refine zE 1 #[.int .i64 a0_0, .slice A0_1 l0_1.length c0_1, .int .i64 a0_2, .int .i64 a0_3, .int .i64 a0_4, .int .i64 a0_5] 30 ?_; intro Ac hg w3 hbox hb; have Aa := Am (hbox); have Aq := Am (zG hg (below_size (pB HB.out))); replace HB := Am (below_step (pB HB.out) hb); have Ab := Aq; clear hb hbox hg; obtain ⟨Ad, Ae, Af, Ag, Ah, Ai⟩ := bc6 Aa.out; obtain ⟨Aj, Ak, Al, An, Ao, Ap⟩ := bf6 Aa.out)); go_upto_region 2 with (first | ((with_reducible refine gate_dst (N := 1) rfl ?_); (try (refine gate_guard (by rfl) ?_; dsimp only)); refine zE 1 #[.int .i64 a0_0, .slice A0_1 l0_1.length c0_1, .int .i64 a0_2, .int .i64 a0_3, .int .i64 a0_4, .int .i64 a0_5] 30 ?_; intro Ac hg w3 hbox hb; have Aa := Am (hbox); have Aq := Am (zG hg (below_size (pB HB.out))); replace HB := Am (below_step (pB HB.out) hb); have Ab := Aq; clear hb hbox hg; obtain ⟨Ad, Ae, Af, Ag, Ah, Ai⟩ := bc6 Aa.out; obtain ⟨Aj, Ak, Al, An, Ao, Ap⟩ := bf6 Aa.out)))
 (try simp only [Act.put, List.setIfInBounds_toArray, List.set_cons_zero, List.set_cons_succ])
 go_cut [15] (fun v15 wc => ∃ (kq : Nat) (At : Bool), v15 = .bool At ∧ Aside0 (wal_Check.j0 kq (a0_0 == 1) (a0_0 == 2) (a0_0 == 3) At a0_0 l0_1 a0_2 a0_3 a0_4 a0_5 = some r) ∧ Aside0 (kq ≤ k) ∧ Aside0 (wc.heap[Ac]? = some (.cells #[.int .i64 a0_0, (.slice A0_1 l0_1.length c0_1), .int .i64 a0_2, .int .i64 a0_3, .int .i64 a0_4, .int .i64 a0_5] 30 (0, 0))) ∧ Aside0 (Below w.heap.size w wc))
 case first =>
  have H := HC2.out
  clear HC2
  by_cases c5 : a0_0 = 1
  ·rw [if_pos c5] at H
   have c5b0 := beq_iff_eq.mpr c5
   have c5b1 := bne_eq_false_iff_eq.mpr c5
   clear c5
   (first | rw [c5b0] | (simp only [i64_w, i32_w]; rw [c5b0]) | skip)
   have H' := Am H
   clear H
   go_wp2
   repeat (go_quiet (fail); try go_wp2)
   (refine Met.intro ?_; go_step; (repeat apply Exists.intro); refine ⟨?rel, ?eq_⟩; (case eq_ => first | rfl | (simp only [c5b0]; rfl)))
   case rel => exact ⟨_, (false), zr, H', ⟨zo⟩, ⟨pK Aa.out⟩, ⟨pE HB.out Ab.out⟩⟩
  rw [if_neg c5] at H
  have c5b0 := beq_eq_false_iff_ne.mpr c5
  have c5b1 := bne_iff_ne.mpr c5
  (first | rw [c5b0] | (simp only [i64_w, i32_w]; rw [c5b0]) | skip)
  by_cases c6 : a0_0 = 2
  rotate_left
  ·rw [if_neg c6] at H
   have c6b0 := beq_eq_false_iff_ne.mpr c6
   have c6b1 := bne_iff_ne.mpr c6
   have H' := Am H
   clear H
   go_wp2
   repeat (go_quiet (fail); try go_wp2)
   (refine Met.intro ?_; go_step; (repeat apply Exists.intro); refine ⟨?rel, ?eq_⟩; (case eq_ => first | rfl | (simp only [c5b0, c6b0]; rfl)))
   case rel => exact ⟨_, (!(a0_0 == 3)), zr, H', ⟨zo⟩, ⟨pK Aa.out⟩, ⟨pE HB.out Ab.out⟩⟩
  rw [if_pos c6] at H
  have c6b0 := beq_iff_eq.mpr c6
  have c6b1 := bne_eq_false_iff_eq.mpr c6
  clear c6
  have H' := Am H
  clear H
  go_wp2
  repeat (go_quiet (fail); try go_wp2)
  (refine Met.intro ?_; go_step; (repeat apply Exists.intro); refine ⟨?rel, ?eq_⟩; (case eq_ => first | rfl | (simp only [c5b0, c6b0]; rfl)))
  case rel => exact ⟨_, (false), zr, H', ⟨zo⟩, ⟨pK Aa.out⟩, ⟨pE HB.out Ab.out⟩⟩
 case rest =>
  clear HC2
  try clear c1
  try clear p2
  try clear c5
  try clear c5b0
  try clear c5b1
  try clear c6
  try clear c6b0
  try clear c6b1
  try clear Ad Ae Af Ag Ah Ai
  try clear Aj Ak Al An Ao Ap
  obtain ⟨kq, At, rfl, HA, HJ1, Aa, HB⟩ := hcut
  cases kq with
  | zero => exact absurd HA.out (by simp [wal_Check.j0])
  | succ kj1 =>
   have H := HA.out
   clear HA
   simp only [wal_Check.j0] at H
   have HC7 := Am H
   clear H
   go_upto_if 15 with (fail)
   repeat (go_quiet (fail); go_upto_if 15 with (fail))
   go_cut [15] (fun v15 wc => ∃ (kq : Nat) (Au : Bool), v15 = .bool Au ∧ Aside0 (wal_Check.j2 kq (a0_0 == 1) (a0_0 == 2) Au a0_0 l0_1 a0_2 a0_3 a0_4 a0_5 = some r) ∧ Aside0 (kq ≤ kj1) ∧ Aside0 (wc.heap[Ac]? = some (.cells #[.int .i64 a0_0, (.slice A0_1 l0_1.length c0_1), .int .i64 a0_2, .int .i64 a0_3, .int .i64 a0_4, .int .i64 a0_5] 30 (0, 0))) ∧ Aside0 (Below w.heap.size w wc))
   case first =>
    have H := HC7.out
    clear HC7
    by_cases c8 : At = true
    ·subst c8
     rw [if_pos rfl] at H
     have H' := Am H
     clear H
     go_wp2
     repeat (go_quiet (fail); try go_wp2)
     go_meet
     case rel => exact ⟨_, (true), zr, H', ⟨by have := HJ1.out; first | omega | exact Nat.le_refl _⟩, ⟨pK Aa.out⟩, ⟨pE HB.out Ab.out⟩⟩
    replace c8 := Bool.eq_false_iff.mpr c8
    subst c8
    rw [if_neg zF] at H
    have HC9 := Am H
    clear H
    go_upto_region 3 with (fail)
    repeat (go_quiet (fail); go_upto_region 3 with (fail))
    go_cut [15] (fun v15 wc => ∃ (kq : Nat) (Av : Bool), v15 = .bool Av ∧ Aside0 (wal_Check.j1 kq (a0_0 == 1) (a0_0 == 2) (a0_0 == 3) Av a0_0 l0_1 a0_2 a0_3 a0_4 a0_5 = some r) ∧ Aside0 (kq ≤ kj1) ∧ Aside0 (wc.heap[Ac]? = some (.cells #[.int .i64 a0_0, (.slice A0_1 l0_1.length c0_1), .int .i64 a0_2, .int .i64 a0_3, .int .i64 a0_4, .int .i64 a0_5] 30 (0, 0))) ∧ Aside0 (Below w.heap.size w wc))
    case first =>
     have H := HC9.out
     clear HC9
     by_cases c10 : (a0_0 == 1) = true
     ·rw [if_pos c10] at H
      have c10b0 : (a0_0 == 1) = true := c10
      (try (have c10b1 : decide (a0_0 = 1) = true := by simpa using c10))
      (try (have c10b2 : (a0_0 == 1) = true := by simpa using c10))
      clear c10
      (first | rw [c10b0] | (simp only [i64_w, i32_w]; rw [c10b0]) | skip)
      have H' := Am H
      clear H
      go_wp2
      repeat (go_quiet (fail); try go_wp2)
      (refine Met.intro ?_; go_step; (repeat apply Exists.intro); refine ⟨?rel, ?eq_⟩; (case eq_ => first | rfl | (simp only [c10b0]; rfl)))
      case rel => exact ⟨_, (false), zr, H', ⟨by have := HJ1.out; first | omega | exact Nat.le_refl _⟩, ⟨pK Aa.out⟩, ⟨pE HB.out Ab.out⟩⟩
     rw [if_neg c10] at H
     have c10b0 : (a0_0 == 1) = false := by simpa using c10
     (try (have c10b1 : decide (a0_0 = 1) = false := by simpa using c10))
     (try (have c10b2 : (a0_0 == 1) = false := by simpa using c10))
     (try (have c10b3 : ¬ (a0_0 = 1) := by simpa using c10))
     clear c10
     (first | rw [c10b0] | (simp only [i64_w, i32_w]; rw [c10b0]) | skip)
     have H' := Am H
     clear H
     obtain ⟨Aw, Ax, Ay, Az, A0, A1⟩ := bc6 Aa.out
     obtain ⟨A2, A3, A4, A5, A6, A7⟩ := bf6 Aa.out
     go_wp2
     repeat (go_quiet (fail); try go_wp2)
     (refine Met.intro ?_; go_step; (repeat apply Exists.intro); refine ⟨?rel, ?eq_⟩; (case eq_ => first | rfl | (simp only [c10b0]; rfl)))
     case rel => exact ⟨_, (decide ((l0_1.length : Int) > 0)), zr, H', ⟨by have := HJ1.out; first | omega | exact Nat.le_refl _⟩, ⟨pK Aa.out⟩, ⟨pE HB.out Ab.out⟩⟩
    case rest =>
     clear HC9
     try clear c1
     try clear p2
     try clear c5
     try clear c5b0
     try clear c5b1
     try clear c6
     try clear c6b0
     try clear c6b1
     try clear c8
     try clear c10
     try clear c10b0
     try clear c10b1
     try clear c10b2
     try clear Aw Ax Ay Az A0 A1
     try clear Ad Ae Af Ag Ah Ai
     try clear A2 A3 A4 A5 A6 A7
     try clear Aj Ak Al An Ao Ap
     try clear p2
     obtain ⟨kq, Av, rfl, HA, HJ8, Aa, HB⟩ := hcut
     cases kq with
     | zero => exact absurd HA.out (by simp [wal_Check.j1])
     | succ kj8 =>
      have H := HA.out
      clear HA
      simp only [wal_Check.j1] at H
      by_cases c12 : Av = true
      ·subst c12
       rw [if_pos rfl] at H
       have H' := Am H
       clear H
       go_wp2
       repeat (go_quiet (fail); try go_wp2)
       go_meet
       case rel => exact ⟨_, (true), zr, H', ⟨by have := HJ1.out; have := HJ8.out; first | omega | exact Nat.le_refl _⟩, ⟨pK Aa.out⟩, ⟨pE HB.out Ab.out⟩⟩
      replace c12 := Bool.eq_false_iff.mpr c12
      subst c12
      rw [if_neg zF] at H
      by_cases c13 : (a0_0 == 2) = true
      ·rw [if_pos c13] at H
       have c13b0 : (a0_0 == 2) = true := c13
       (try (have c13b1 : decide (a0_0 = 2) = true := by simpa using c13))
       (try (have c13b2 : (a0_0 == 2) = true := by simpa using c13))
       clear c13
       by_cases c14 : (a0_0 == 3) = true
       ·rw [if_pos c14] at H
        have c14b0 : (a0_0 == 3) = true := c14
        (try (have c14b1 : decide (a0_0 = 3) = true := by simpa using c14))
        (try (have c14b2 : (a0_0 == 3) = true := by simpa using c14))
        clear c14
        have H' := Am H
        clear H
        go_wp2
        repeat (go_quiet (fail); try go_wp2)
        (refine Met.intro ?_; go_step; (repeat apply Exists.intro); refine ⟨?rel, ?eq_⟩; (case eq_ => first | rfl | (simp only [c13b0, c14b0]; rfl)))
        case rel => exact ⟨_, (false), zr, H', ⟨by have := HJ1.out; have := HJ8.out; first | omega | exact Nat.le_refl _⟩, ⟨pK Aa.out⟩, ⟨pE HB.out Ab.out⟩⟩
       rw [if_neg c14] at H
       have c14b0 : (a0_0 == 3) = false := by simpa using c14
       (try (have c14b1 : decide (a0_0 = 3) = false := by simpa using c14))
       (try (have c14b2 : (a0_0 == 3) = false := by simpa using c14))
       (try (have c14b3 : ¬ (a0_0 = 3) := by simpa using c14))
       clear c14
       have H' := Am H
       clear H
       obtain ⟨Ba, Bb, Bc, Bd, Be, Bf⟩ := bc6 Aa.out
       obtain ⟨Bg, Bh, Bi, Bj, Bk, Bl⟩ := bf6 Aa.out
       go_wp2
       repeat (go_quiet (fail); try go_wp2)
       (refine Met.intro ?_; go_step; (repeat apply Exists.intro); refine ⟨?rel, ?eq_⟩; (case eq_ => first | rfl | (simp only [c13b0, c14b0]; rfl)))
       case rel => exact ⟨_, ((a0_5 != 0)), zr, H', ⟨by have := HJ1.out; have := HJ8.out; first | omega | exact Nat.le_refl _⟩, ⟨pK Aa.out⟩, ⟨pE HB.out Ab.out⟩⟩
      rw [if_neg c13] at H
      have c13b0 : (a0_0 == 2) = false := by simpa using c13
      (try (have c13b1 : decide (a0_0 = 2) = false := by simpa using c13))
      (try (have c13b2 : (a0_0 == 2) = false := by simpa using c13))
      (try (have c13b3 : ¬ (a0_0 = 2) := by simpa using c13))
      clear c13
      by_cases c16 : (!(a0_2 == 0) || (!(a0_3 == 0) || (!(a0_4 == 0)))) = true
      ·rw [if_pos c16] at H
       have c16b0 : (!(a0_2 == 0) || (!(a0_3 == 0) || (!(a0_4 == 0)))) = true := c16
       clear c16
       have H' := Am H
       clear H
       obtain ⟨Bm, Bn, Bo, Bp, Bq, Br⟩ := bc6 Aa.out
       obtain ⟨Bs, Bt, Bu, Bv, Bw, Bx⟩ := bf6 Aa.out
       go_wp2
       repeat (go_quiet (fail); try go_wp2)
       (refine Met.intro ?_; go_step; (repeat apply Exists.intro); refine ⟨?rel, ?eq_⟩; (case eq_ => first | rfl | (simp only [c13b0, c16b0]; rfl)))
       case rel => exact ⟨_, ((!(a0_2 == 0) || (!(a0_3 == 0) || (!(a0_4 == 0))))), zr, H', ⟨by have := HJ1.out; have := HJ8.out; first | omega | exact Nat.le_refl _⟩, ⟨pK Aa.out⟩, ⟨pE HB.out Ab.out⟩⟩
      rw [if_neg c16] at H
      have c16b0 : (!(a0_2 == 0) || (!(a0_3 == 0) || (!(a0_4 == 0)))) = false := by simpa using c16
      clear c16
      by_cases c18 : (a0_0 == 3) = true
      ·rw [if_pos c18] at H
       have c18b0 : (a0_0 == 3) = true := c18
       (try (have c18b1 : decide (a0_0 = 3) = true := by simpa using c18))
       (try (have c18b2 : (a0_0 == 3) = true := by simpa using c18))
       clear c18
       have H' := Am H
       clear H
       obtain ⟨By, Bz, B0, B1, B2, B3⟩ := bc6 Aa.out
       obtain ⟨B4, B5, B6, B7, B8, B9⟩ := bf6 Aa.out
       go_wp2
       repeat (go_quiet (fail); try go_wp2)
       (refine Met.intro ?_; go_step; (repeat apply Exists.intro); refine ⟨?rel, ?eq_⟩; (case eq_ => first | rfl | (simp only [c13b0, c16b0, c18b0]; rfl)))
       case rel => exact ⟨_, (false), zr, H', ⟨by have := HJ1.out; have := HJ8.out; first | omega | exact Nat.le_refl _⟩, ⟨pK Aa.out⟩, ⟨pE HB.out Ab.out⟩⟩
      rw [if_neg c18] at H
      have c18b0 : (a0_0 == 3) = false := by simpa using c18
      (try (have c18b1 : decide (a0_0 = 3) = false := by simpa using c18))
      (try (have c18b2 : (a0_0 == 3) = false := by simpa using c18))
      (try (have c18b3 : ¬ (a0_0 = 3) := by simpa using c18))
      clear c18
      have H' := Am H
      clear H
      obtain ⟨Ca, Cb, Cc, Cd, Ce, Cf⟩ := bc6 Aa.out
      obtain ⟨Cg, Ch, Ci, Cj, Ck, Cl⟩ := bf6 Aa.out
      go_wp2
      repeat (go_quiet (fail); try go_wp2)
      (refine Met.intro ?_; go_step; (repeat apply Exists.intro); refine ⟨?rel, ?eq_⟩; (case eq_ => first | rfl | (simp only [c13b0, c16b0, c18b0]; rfl)))
      case rel => exact ⟨_, ((a0_5 != 0)), zr, H', ⟨by have := HJ1.out; have := HJ8.out; first | omega | exact Nat.le_refl _⟩, ⟨pK Aa.out⟩, ⟨pE HB.out Ab.out⟩⟩
   case rest =>
    clear HC7
    try clear c1
    try clear p2
    try clear c5
    try clear c5b0
    try clear c5b1
    try clear c6
    try clear c6b0
    try clear c6b1
    try clear c8
    try clear c10
    try clear c10b0
    try clear c10b1
    try clear c10b2
    try clear c12
    try clear c13
    try clear c13b0
    try clear c13b1
    try clear c13b2
    try clear c14
    try clear c14b0
    try clear c14b1
    try clear c14b2
    try clear c16
    try clear c16b0
    try clear c18
    try clear c18b0
    try clear c18b1
    try clear c18b2
    try clear Aw Ax Ay Az A0 A1
    try clear Ba Bb Bc Bd Be Bf
    try clear Bm Bn Bo Bp Bq Br
    try clear By Bz B0 B1 B2 B3
    try clear Ca Cb Cc Cd Ce Cf
    try clear Ad Ae Af Ag Ah Ai
    try clear A2 A3 A4 A5 A6 A7
    try clear Bg Bh Bi Bj Bk Bl
    try clear Bs Bt Bu Bv Bw Bx
    try clear B4 B5 B6 B7 B8 B9
    try clear Cg Ch Ci Cj Ck Cl
    try clear Aj Ak Al An Ao Ap
    try clear p2
    obtain ⟨kq, Au, rfl, HA, HJ6, Aa, HB⟩ := hcut
    cases kq with
    | zero => exact absurd HA.out (by simp [wal_Check.j2])
    | succ kj6 =>
     have H := HA.out
     clear HA
     simp only [wal_Check.j2] at H
     by_cases c21 : Au = true
     ·subst c21
      rw [if_pos rfl] at H
      obtain rfl := Option.some.inj H
      go_wp2
      repeat (go_quiet (fail); try go_wp2)
      go_ret
      exact ⟨pX, pE HB.out Ab.out⟩
     replace c21 := Bool.eq_false_iff.mpr c21
     subst c21
     rw [if_neg zF] at H
     by_cases c22 : (a0_0 == 1) = true
     ·rw [if_pos c22] at H
      have c22b0 : (a0_0 == 1) = true := c22
      (try (have c22b1 : decide (a0_0 = 1) = true := by simpa using c22))
      (try (have c22b2 : (a0_0 == 1) = true := by simpa using c22))
      clear c22
      replace H := Option.bind_eq_some_iff.mp H
      obtain ⟨t134, A230, H⟩ := H
      have A23 := Am A230
      clear A230
      obtain rfl := Option.some.inj H
      obtain ⟨_, _, _, _, _, _⟩ := bc6 Aa.out
      obtain ⟨_, _, _, _, _, _⟩ := bf6 Aa.out
      go_wp2_with (first | (go_at_call 31; (with_reducible refine (entry_Batch.calls kj6 _ _ l0_1 t134 _ ?Ar ?As A23.out).mono ?_); (case Ar => exact pC (Kd.C_below A8.out HB.out)); (case As => exact A9.out); rintro e w25 ⟨rfl, hb⟩; replace Aa := kBa Aa hb; replace HB := Am (below_step (pE HB.out Ab.out) hb); (try clear hb); (try clear hb2); (try clear hk); (try clear hi)))
      repeat (go_quiet (first | (go_at_call 31; (with_reducible refine (entry_Batch.calls kj6 _ _ l0_1 t134 _ ?Ar ?As A23.out).mono ?_); (case Ar => exact pC (Kd.C_below A8.out HB.out)); (case As => exact A9.out); rintro e w25 ⟨rfl, hb⟩; replace Aa := kBa Aa hb; replace HB := Am (below_step (pE HB.out Ab.out) hb); (try clear hb); (try clear hb2); (try clear hk); (try clear hi))); try go_wp2_with (first | (go_at_call 31; (with_reducible refine (entry_Batch.calls kj6 _ _ l0_1 t134 _ ?Ar ?As A23.out).mono ?_); (case Ar => exact pC (Kd.C_below A8.out HB.out)); (case As => exact A9.out); rintro e w25 ⟨rfl, hb⟩; replace Aa := kBa Aa hb; replace HB := Am (below_step (pE HB.out Ab.out) hb); (try clear hb); (try clear hb2); (try clear hk); (try clear hi))))
      go_ret
      exact ⟨pX, pE HB.out Ab.out⟩
     rw [if_neg c22] at H
     have c22b0 : (a0_0 == 1) = false := by simpa using c22
     (try (have c22b1 : decide (a0_0 = 1) = false := by simpa using c22))
     (try (have c22b2 : (a0_0 == 1) = false := by simpa using c22))
     (try (have c22b3 : ¬ (a0_0 = 1) := by simpa using c22))
     clear c22
     by_cases c26 : (a0_0 == 2) = true
     ·rw [if_pos c26] at H
      have c26b0 : (a0_0 == 2) = true := c26
      (try (have c26b1 : decide (a0_0 = 2) = true := by simpa using c26))
      (try (have c26b2 : (a0_0 == 2) = true := by simpa using c26))
      clear c26
      replace H := Option.bind_eq_some_iff.mp H
      obtain ⟨t135, A270, H⟩ := H
      have A27 := Am A270
      clear A270
      obtain rfl := Option.some.inj H
      obtain ⟨_, _, _, _, _, _⟩ := bc6 Aa.out
      obtain ⟨_, _, _, _, _, _⟩ := bf6 Aa.out
      go_wp2_with (first | (go_at_call 32; (with_reducible refine (hard_Check.calls a0_2 a0_3 a0_4 t135 _ A27.out).mono ?_); rintro e w29 ⟨rfl, hb⟩; replace Aa := kBa Aa hb; replace HB := Am (below_step (pE HB.out Ab.out) hb); (try clear hb); (try clear hb2); (try clear hk); (try clear hi)))
      repeat (go_quiet (first | (go_at_call 32; (with_reducible refine (hard_Check.calls a0_2 a0_3 a0_4 t135 _ A27.out).mono ?_); rintro e w29 ⟨rfl, hb⟩; replace Aa := kBa Aa hb; replace HB := Am (below_step (pE HB.out Ab.out) hb); (try clear hb); (try clear hb2); (try clear hk); (try clear hi))); try go_wp2_with (first | (go_at_call 32; (with_reducible refine (hard_Check.calls a0_2 a0_3 a0_4 t135 _ A27.out).mono ?_); rintro e w29 ⟨rfl, hb⟩; replace Aa := kBa Aa hb; replace HB := Am (below_step (pE HB.out Ab.out) hb); (try clear hb); (try clear hb2); (try clear hk); (try clear hi))))
      go_ret
      exact ⟨pX, pE HB.out Ab.out⟩
     rw [if_neg c26] at H
     have c26b0 : (a0_0 == 2) = false := by simpa using c26
     (try (have c26b1 : decide (a0_0 = 2) = false := by simpa using c26))
     (try (have c26b2 : (a0_0 == 2) = false := by simpa using c26))
     (try (have c26b3 : ¬ (a0_0 = 2) := by simpa using c26))
     clear c26
     by_cases c30 : a0_5 < 1
     ·rw [if_pos c30] at H
      have c30b0 := decide_eq_true c30
      clear c30
      obtain rfl := Option.some.inj H
      obtain ⟨_, _, _, _, _, _⟩ := bc6 Aa.out
      obtain ⟨_, _, _, _, _, _⟩ := bf6 Aa.out
      go_wp2
      repeat (go_quiet (fail); try go_wp2)
      go_ret
      exact ⟨pX, pE HB.out Ab.out⟩
     rw [if_neg c30] at H
     have c30b0 := decide_eq_false c30
     clear c30
     by_cases c32 : a0_5 > 2147483647
     ·rw [if_pos c32] at H
      have c32b0 : decide (2147483647 < a0_5) = true := decide_eq_true c32
      clear c32
      obtain rfl := Option.some.inj H
      obtain ⟨_, _, _, _, _, _⟩ := bc6 Aa.out
      obtain ⟨_, _, _, _, _, _⟩ := bf6 Aa.out
      go_wp2
      repeat (go_quiet (fail); try go_wp2)
      go_ret
      exact ⟨pX, pE HB.out Ab.out⟩
     rw [if_neg c32] at H
     have c32b0 : decide (2147483647 < a0_5) = false := decide_eq_false c32
     clear c32
     obtain rfl := Option.some.inj H
     obtain ⟨_, _, _, _, _, _⟩ := bc6 Aa.out
     obtain ⟨_, _, _, _, _, _⟩ := bf6 Aa.out
     go_wp2
     repeat (go_quiet (fail); try go_wp2)
     go_ret
     exact ⟨pX, pE HB.out Ab.out⟩
def wal_Make_1.f (k : Nat) (a0_0 : Int) (l0_1 : List (S52)) (a0_2 : Int) (a0_3 : Int) (a0_4 : Int) (a0_5 : Int) : Option (Bool) := (wal_Check.f k a0_0 l0_1 a0_2 a0_3 a0_4 a0_5).bind fun t137 => (some (t137 != 0))
theorem wal_Make_1.mono : ∀ a0 a1 a2 a3 a4 a5 k, LeO (wal_Make_1.f k a0 a1 a2 a3 a4 a5) (wal_Make_1.f (k + 1) a0 a1 a2 a3 a4 a5) := by
 intro a0 a1 a2 a3 a4 a5 k
 unfold wal_Make_1.f
 repeat' (with_reducible first | exact wal_Check.mono .. | exact LeO.refl .. | exact LeO.none .. | refine LeO.ite ?_ ?_ | refine LeO.bind ?_ (fun _ => ?_))
set_option maxHeartbeats 8000000 in
set_option maxRecDepth 100000 in
theorem wal_Make_1.calls (k : Nat) (a0_0 : Int) (A0_1 : Option Addr) (c0_1 : Nat) (l0_1 : List (S52)) (a0_2 : Int) (a0_3 : Int) (a0_4 : Int) (a0_5 : Int) (r : Bool) (w : World) (hr0_1 : Kd.C k52 w A0_1 l0_1.length l0_1) (hc0_1 : l0_1.length ≤ c0_1) (h : wal_Make_1.f k a0_0 l0_1 a0_2 a0_3 a0_4 a0_5 = some r) :
 Calls Try.prog 39 #[.agg #[.int .i64 a0_0, .slice A0_1 l0_1.length c0_1, .int .i64 a0_2, .int .i64 a0_3, .int .i64 a0_4, .int .i64 a0_5]] w fun e w' => e = .returned (.bool r) ∧ Below w.heap.size w w' := by
 have hu30 := Try.underlying30
 have HR0_1 := Am hr0_1
 have HC0_1 := Am hc0_1
 clear hr0_1 hc0_1
 have HB := Am (Below.refl w.heap.size w)
 unfold wal_Make_1.f at h
 have H := h
 clear h
 replace H := Option.bind_eq_some_iff.mp H
 obtain ⟨t137, A20, H⟩ := H
 have A2 := Am A20
 clear A20
 obtain rfl := Option.some.inj H
 go_enter Try.func39, Try.ntmps39
 go_wp2_with (first | ((with_reducible refine gate_dst (N := 1) rfl ?_); refine zE 1 #[.int .i64 a0_0, .slice A0_1 l0_1.length c0_1, .int .i64 a0_2, .int .i64 a0_3, .int .i64 a0_4, .int .i64 a0_5] 30 ?_; intro gb136 hg w3 hbox hb; have BK136 := Am (hbox); have GW136 := Am (zG hg (below_size (pB HB.out))); replace HB := Am (below_step (pB HB.out) hb); have GE136 := GW136; clear hb hbox hg; obtain ⟨hcz4_0, hcz4_1, hcz4_2, hcz4_3, hcz4_4, hcz4_5⟩ := bc6 BK136.out; obtain ⟨hfz4_0, hfz4_1, hfz4_2, hfz4_3, hfz4_4, hfz4_5⟩ := bf6 BK136.out) | ((with_reducible refine gate_callee (f := 13) rfl ?_); refine goesL_ (some 4) rfl rfl Try.func13 (by kernel_rfl) rfl #[.agg #[.int .i64 a0_0, .slice A0_1 l0_1.length c0_1, .int .i64 a0_2, .int .i64 a0_3, .int .i64 a0_4, .int .i64 a0_5]] rfl pL ?_; (with_reducible refine (wal_Check.calls k a0_0 _ _ l0_1 a0_2 a0_3 a0_4 a0_5 t137 _ ?side1 ?side2 A2.out).mono ?_); (case side1 => exact pC (Kd.C_below HR0_1.out HB.out)); (case side2 => exact HC0_1.out); rintro e w5 ⟨rfl, hb⟩; refine ⟨_, rfl, ?_⟩; replace BK136 := kBa BK136 hb; replace HB := Am (below_step (pE HB.out GE136.out) hb); (try clear hb); (try clear hb2); (try clear hk); (try clear hi)))
 go_ret
 exact ⟨pX, pE HB.out GE136.out⟩
end Go.Proofs.Ytdanmjfkocjgjaa.PWalGets
