/- What the law reaches, as plain Lean functions, and that the machine's calls answer just that. -/
import Derived.Test.YtpplclcgkcjmpaaPEntryReadsx0
import Derived.Test.YtpplclcgkcjmpaaPEntryReadsx2
namespace Go.Proofs.Ytpplclcgkcjmpaa.PEntryReads
open Go.RowKit Go.Proofs.YtpplclcgkcjmpaaW.PrintWords Go.Proofs.YtpplclcgkcjmpaaW.PrintLast Go.Proofs.YtpplclcgkcjmpaaW.PrintMore
attribute [local go_sem] max2_int min2_int max_two min_two max_three min_three max_four min_four
set_option linter.unusedVariables false
set_option linter.unusedSimpArgs false
attribute [local go_sem] wrap64_l1 wrap64_l2 wrap64_l3 wrap64_l4 wrap64_l5
mutual
def entry_Batch.j0 : Nat → List (S42) → Bool → Option (Int)
 | 0, _, _ => none
 | k + 1, x0, x13 => if x13 = true then (some 1) else (entry_Batch.l0 k x0 x0 (x0.length : Int) 0)
def entry_Batch.l0 : Nat → List (S42) → List (S42) → Int → Int → Option (Int)
 | 0, _, _, _, _ => none
 | k + 1, x0, x14, x15, x16 => if x16 < x15 then (if 0 ≤ x16 then (if x16 < (x14.length : Int) then ((entry_Check.f k ((rd_T42 x14 x16).f0) ((rd_T42 x14 x16).f1) ((rd_T42 x14 x16).f2) ((rd_T42 x14 x16).f3) ((rd_T42 x14 x16).f4.f0) ((rd_T42 x14 x16).f4.f1) ((rd_T42 x14 x16).f4.f2.f0) ((rd_T42 x14 x16).f4.f2.f1) ((rd_T42 x14 x16).f4.f2.f2) ((rd_T42 x14 x16).f4.f2.f3)).bind fun t115 => (if t115 = 0 then (if x16 > 0 then (if 0 ≤ (wrap64 (x16 - 1)) then (if (wrap64 (x16 - 1)) < (x0.length : Int) then (if ((rd_T42 x14 x16).f0) = (wrap64 (((rd_T42 x0 (wrap64 (x16 - 1))).f0) + 1)) then (if ((rd_T42 x14 x16).f1) < ((rd_T42 x0 (wrap64 (x16 - 1))).f1) then (some 1) else (entry_Batch.l0 k x0 x14 x15 (wrap64 (x16 + 1)))) else (some 1)) else (none)) else (none)) else (entry_Batch.l0 k x0 x14 x15 (wrap64 (x16 + 1)))) else (some t115))) else (none)) else (none)) else (some 0)
end
def entry_Batch.f (k : Nat) (l0 : List (S42)) : Option (Int) := if (l0.length : Int) < 1 then (entry_Batch.j0 k l0 true) else (entry_Batch.j0 k l0 (decide ((l0.length : Int) > 16)))
theorem entry_Batch.mono_l : ∀ k, (∀ y0 y1, LeO (entry_Batch.j0 k y0 y1) (entry_Batch.j0 (k + 1) y0 y1)) ∧ (∀ y0 y1 y2 y3, LeO (entry_Batch.l0 k y0 y1 y2 y3) (entry_Batch.l0 (k + 1) y0 y1 y2 y3))
 | 0 => ⟨fun _ _ r h => by simp [entry_Batch.j0] at h, fun _ _ _ _ r h => by simp [entry_Batch.l0] at h⟩
 | k + 1 => by
  obtain ⟨ih0, ih1⟩ := entry_Batch.mono_l k
  refine ⟨?_, ?_⟩
  ·intro y0 y1
   unfold entry_Batch.j0
   repeat' first
   | (with_reducible exact ih0 _ _)
   | (with_reducible exact ih1 _ _ _ _)
   | (with_reducible exact entry_Check.mono _ _ _ _ _ _ _ _ _ _ _)
   | (with_reducible exact LeO.refl _)
   | (with_reducible exact LeO.none _)
   | (with_reducible refine LeO.ite ?_ ?_)
   | (with_reducible refine LeO.bind ?_ (fun _ => ?_))
   | exact ih0 _ _
   | exact ih1 _ _ _ _
   | exact entry_Check.mono _ _ _ _ _ _ _ _ _ _ _
   | exact LeO.none _
   | refine LeO.ite ?_ ?_
   | refine LeO.bind ?_ (fun _ => ?_)
  ·intro y0 y1 y2 y3
   unfold entry_Batch.l0
   repeat' first
   | (with_reducible exact ih0 _ _)
   | (with_reducible exact ih1 _ _ _ _)
   | (with_reducible exact entry_Check.mono _ _ _ _ _ _ _ _ _ _ _)
   | (with_reducible exact LeO.refl _)
   | (with_reducible exact LeO.none _)
   | (with_reducible refine LeO.ite ?_ ?_)
   | (with_reducible refine LeO.bind ?_ (fun _ => ?_))
   | exact ih0 _ _
   | exact ih1 _ _ _ _
   | exact entry_Check.mono _ _ _ _ _ _ _ _ _ _ _
   | exact LeO.none _
   | refine LeO.ite ?_ ?_
   | refine LeO.bind ?_ (fun _ => ?_)
theorem entry_Batch.mono : ∀ a0 k, LeO (entry_Batch.f k a0) (entry_Batch.f (k + 1) a0) := by
 intro a0 k
 obtain ⟨ih0, ih1⟩ := entry_Batch.mono_l k
 unfold entry_Batch.f
 repeat' first
   | (with_reducible exact ih0 _ _)
   | (with_reducible exact ih1 _ _ _ _)
   | (with_reducible exact entry_Check.mono _ _ _ _ _ _ _ _ _ _ _)
   | (with_reducible exact LeO.refl _)
   | (with_reducible exact LeO.none _)
   | (with_reducible refine LeO.ite ?_ ?_)
   | (with_reducible refine LeO.bind ?_ (fun _ => ?_))
   | exact ih0 _ _
   | exact ih1 _ _ _ _
   | exact entry_Check.mono _ _ _ _ _ _ _ _ _ _ _
   | exact LeO.none _
   | refine LeO.ite ?_ ?_
   | refine LeO.bind ?_ (fun _ => ?_)
set_option maxHeartbeats 8000000 in
set_option maxRecDepth 100000 in
theorem entry_Batch.calls (k : Nat) (A0 : Option Addr) (c0 : Nat) (l0 : List (S42)) (r : Int) (w : World) (hr0 : Kd.C k42 w A0 l0.length l0) (hc0 : l0.length ≤ c0) (h : entry_Batch.f k l0 = some r) :
  Calls Try.prog 14 #[.slice A0 l0.length c0] w fun e w' => e = .returned (.int .i64 r) ∧ Below w.heap.size w w' := by
 have hu42 := Try.underlying42
 have HR0 := Am hr0
 have HC0 := Am hc0
 clear hr0 hc0
 have HB := Am (Below.refl w.heap.size w)
 have H : (if (l0.length : Int) < 1 then (entry_Batch.j0 k l0 true) else (entry_Batch.j0 k l0 (decide ((l0.length : Int) > 16)))) = some r := h
 clear h
 have HC2 := Am H
 clear H
 go_enter Try.func14, Try.ntmps14
 go_upto_region 1 with (fail)
 repeat (go_quiet (fail); go_upto_region 1 with (fail))
 go_cut [13] (fun v13 wc => ∃ (kq : Nat) (Bw : Bool), v13 = .bool Bw ∧ Aside0 (entry_Batch.j0 kq l0 Bw = some r) ∧ Aside0 (kq ≤ k) ∧ Aside0 (Below w.heap.size w wc))
 case first =>
  have H := HC2.out
  clear HC2
  by_cases c3 : (l0.length : Int) < 1
  ·rw [if_pos c3] at H
   have c3b0 : decide ((l0.length : Int) < 1) = true := decide_eq_true c3
   have c3b1 : decide (l0.length < 1) = true := decide_eq_true (by omega)
   clear c3
   (first | rw [c3b0] | (simp only [i64_w, i32_w]; rw [c3b0]) | skip)
   have H' := Am H
   clear H
   go_wp2
   repeat (go_quiet (fail); try go_wp2)
   go_meet
   case rel => exact ⟨_, (true), (by first | rfl | (simp; done) | (simp [*]; done)), H', ⟨by first | omega | exact Nat.le_refl _⟩, ⟨pB HB.out⟩⟩
  rw [if_neg c3] at H
  have c3b0 : decide ((l0.length : Int) < 1) = false := decide_eq_false c3
  have c3b1 : decide (l0.length < 1) = false := decide_eq_false (by omega)
  clear c3
  (first | rw [c3b0] | (simp only [i64_w, i32_w]; rw [c3b0]) | skip)
  have H' := Am H
  clear H
  go_wp2
  repeat (go_quiet (fail); try go_wp2)
  go_meet
  case rel => exact ⟨_, (decide ((l0.length : Int) > 16)), (by first | rfl | (simp; done) | (simp [*]; done)), H', ⟨by first | omega | exact Nat.le_refl _⟩, ⟨pB HB.out⟩⟩
 case rest =>
  clear HC2
  try clear c1
  try clear p2
  try clear c3
  try clear c3b0
  try clear c3b1
  obtain ⟨kq, Bw, rfl, HA, HJ1, HB⟩ := hcut
  cases kq with
  | zero => exact absurd HA.out (by simp [entry_Batch.j0])
  | succ kj1 =>
   have H := HA.out
   clear HA
   simp only [entry_Batch.j0] at H
   by_cases c4 : Bw = true
   ·subst c4
    have H1 : (some 1) = some r := by rw [if_pos rfl] at H; exact H
    clear H
    have H := H1
    clear H1
    obtain rfl := Option.some.inj H
    go_wp2
    repeat (go_quiet (fail); try go_wp2)
    go_ret
    exact ⟨pX, pB HB.out⟩
   replace c4 := Bool.eq_false_iff.mpr c4
   subst c4
   have H1 : (entry_Batch.l0 kj1 l0 l0 (l0.length : Int) 0) = some r := by rw [if_neg (show ¬ (false = true) by decide)] at H; exact H
   clear H
   have H := H1
   clear H1
   have H' := Am H
   clear H
   go_wp2
   repeat (go_quiet (fail); try go_wp2)
   go_loopg [16] kj1 (fun kq v16 w' => ∃ (Aa : Int), v16 = .int .i64 Aa ∧ Aside0 (entry_Batch.l0 kq l0 l0 (l0.length : Int) Aa = some r) ∧ Aside0 (kq ≤ kj1) ∧ Aside0 (Below w.heap.size w w'))
   case atStart => exact ⟨(0), (by first | rfl | (simp; done) | (simp [*]; done)), H', ⟨Nat.le_refl _⟩, ⟨pB HB.out⟩⟩
   case round =>
    clear H'
    try clear c1
    try clear p2
    try clear c3
    try clear c3b0
    try clear c3b1
    try clear c4
    try clear p2
    obtain ⟨Aa, rfl, HA, HK2, HB⟩ := hrel
    cases gk with
    | zero => exact absurd HA.out (by simp [entry_Batch.l0])
    | succ k2 =>
     have H := HA.out
     clear HA
     simp only [entry_Batch.l0] at H
     by_cases c5 : Aa < (l0.length : Int)
     rotate_left
     ·rw [if_neg c5] at H
      have c5b0 : decide (Aa < (l0.length : Int)) = false := decide_eq_false c5
      clear c5
      obtain rfl := Option.some.inj H
      go_wp2
      repeat (go_quiet (fail); try go_wp2)
      go_ret
      exact ⟨pX, pB HB.out⟩
     rw [if_pos c5] at H
     have c5b0 : decide (Aa < (l0.length : Int)) = true := decide_eq_true c5
     clear c5
     by_cases c6 : 0 ≤ Aa
     rotate_left
     ·rw [if_neg c6] at H
      exact absurd H (by simp)
     rw [if_pos c6] at H
     have c6b0 : decide (0 ≤ Aa) = true := decide_eq_true c6
     clear c6
     by_cases c7 : Aa < (l0.length : Int)
     rotate_left
     ·rw [if_neg c7] at H
      exact absurd H (by simp)
     rw [if_pos c7] at H
     have c7b0 : decide (Aa < (l0.length : Int)) = true := decide_eq_true c7
     clear c7
     replace H := Option.bind_eq_some_iff.mp H
     obtain ⟨t115, A80, H⟩ := H
     replace H : (if t115 = 0 then (if Aa > 0 then (if 0 ≤ (wrap64 (Aa - 1)) then (if (wrap64 (Aa - 1)) < (l0.length : Int) then (if ((rd_T42 l0 Aa).f0) = (wrap64 (((rd_T42 l0 (wrap64 (Aa - 1))).f0) + 1)) then (if ((rd_T42 l0 Aa).f1) < ((rd_T42 l0 (wrap64 (Aa - 1))).f1) then (some 1) else (entry_Batch.l0 k2 l0 l0 (l0.length : Int) (wrap64 (Aa + 1)))) else (some 1)) else (none)) else (none)) else (entry_Batch.l0 k2 l0 l0 (l0.length : Int) (wrap64 (Aa + 1)))) else (some t115)) = some r := H
     have A8 := Am A80
     clear A80
     by_cases c9 : t115 = 0
     rotate_left
     ·rw [if_neg c9] at H
      have c9b0 : (t115 == 0) = false := beq_eq_false_iff_ne.mpr c9
      have c9b1 : (t115 != 0) = true := bne_iff_ne.mpr c9
      obtain rfl := Option.some.inj H
      have p113 : 0 ≤ (Aa : Int) := of_decide_eq_true pS
      have q113 : Aa < (l0.length : Int) := of_decide_eq_true pS
      obtain ⟨Bc, Bv, c113_5, e113, Bk, Bl, Bm, Bn, Bo, Bp, Bq, Br, Bs, Bt, Ba, Bb⟩ := at_T42u HR0.out Aa p113 q113 HB.out
      cases e113
      have As := Am Bb
      have At := Am Ba
      clear Bb Ba
      replace p113 := eq_true p113
      replace q113 := eq_true q113
      go_wp2_with (first | ((with_reducible refine gate_dst (N := 4) rfl ?_); (try (refine gate_guard (by rfl) ?_; dsimp only)); refine box_event ?hg (N := 4) ?hd (cs := #[.int .i64 0, .int .i64 0, .int .i64 0, .string (⟨#[]⟩ : ByteArray), .bool false, .slice none 0 0, .int .i64 0, .int .i64 0, .int .i64 0, .int .u32 0]) (t := 42) ?hr ?_; (case hd => rfl); (case hg => rfl); (case hr => first | (go_simp; done) | (go_simp; rfl)); intro Ae hg w31 hbox hb; have Ab := Am (hbox); have Au := Am ((by rw [hg]; exact (below_size (pB HB.out)) : w.heap.size ≤ Ae)); replace HB := Am (below_step (pB HB.out) hb); have Ad := Au; clear hb hbox hg; obtain ⟨Fv, Fw, Fx, Fy, Fz, F0, F1, F2, F3, F4⟩ := bc10 Ab.out; obtain ⟨F5, F6, F7, F8, F9, Ga, Gb, Gc, Gd, Ge⟩ := bf10 Ab.out) | (go_at_call 27; (with_reducible refine (entry_Check.calls k2 ((rd_T42 l0 Aa).f0) ((rd_T42 l0 Aa).f1) ((rd_T42 l0 Aa).f2) ((rd_T42 l0 Aa).f3) ((rd_T42 l0 Aa).f4.f0) _ _ ((rd_T42 l0 Aa).f4.f1) ((rd_T42 l0 Aa).f4.f2.f0) ((rd_T42 l0 Aa).f4.f2.f1) ((rd_T42 l0 Aa).f4.f2.f2) ((rd_T42 l0 Aa).f4.f2.f3) t115 _ ?Av ?Aw A8.out).mono ?_); (case Av => exact Kd.C_below As.out (pE HB.out Ad.out)); (case Aw => exact At.out); rintro e w33 ⟨rfl, hb⟩; replace Ab := Am (blk_below (g := Ae) (kX0 Ab.out) hb); replace HB := Am (below_step (pE HB.out Ad.out) hb); (try clear hb); (try clear hb2); (try clear hk); (try clear hi)))
      repeat (go_quiet (first | ((with_reducible refine gate_dst (N := 4) rfl ?_); (try (refine gate_guard (by rfl) ?_; dsimp only)); refine box_event ?hg (N := 4) ?hd (cs := #[.int .i64 0, .int .i64 0, .int .i64 0, .string (⟨#[]⟩ : ByteArray), .bool false, .slice none 0 0, .int .i64 0, .int .i64 0, .int .i64 0, .int .u32 0]) (t := 42) ?hr ?_; (case hd => rfl); (case hg => rfl); (case hr => first | (go_simp; done) | (go_simp; rfl)); intro Ae hg w31 hbox hb; have Ab := Am (hbox); have Au := Am ((by rw [hg]; exact (below_size (pB HB.out)) : w.heap.size ≤ Ae)); replace HB := Am (below_step (pB HB.out) hb); have Ad := Au; clear hb hbox hg; obtain ⟨Fv, Fw, Fx, Fy, Fz, F0, F1, F2, F3, F4⟩ := bc10 Ab.out; obtain ⟨F5, F6, F7, F8, F9, Ga, Gb, Gc, Gd, Ge⟩ := bf10 Ab.out) | (go_at_call 27; (with_reducible refine (entry_Check.calls k2 ((rd_T42 l0 Aa).f0) ((rd_T42 l0 Aa).f1) ((rd_T42 l0 Aa).f2) ((rd_T42 l0 Aa).f3) ((rd_T42 l0 Aa).f4.f0) _ _ ((rd_T42 l0 Aa).f4.f1) ((rd_T42 l0 Aa).f4.f2.f0) ((rd_T42 l0 Aa).f4.f2.f1) ((rd_T42 l0 Aa).f4.f2.f2) ((rd_T42 l0 Aa).f4.f2.f3) t115 _ ?Av ?Aw A8.out).mono ?_); (case Av => exact Kd.C_below As.out (pE HB.out Ad.out)); (case Aw => exact At.out); rintro e w33 ⟨rfl, hb⟩; replace Ab := Am (blk_below (g := Ae) (kX0 Ab.out) hb); replace HB := Am (below_step (pE HB.out Ad.out) hb); (try clear hb); (try clear hb2); (try clear hk); (try clear hi))); try go_wp2_with (first | ((with_reducible refine gate_dst (N := 4) rfl ?_); (try (refine gate_guard (by rfl) ?_; dsimp only)); refine box_event ?hg (N := 4) ?hd (cs := #[.int .i64 0, .int .i64 0, .int .i64 0, .string (⟨#[]⟩ : ByteArray), .bool false, .slice none 0 0, .int .i64 0, .int .i64 0, .int .i64 0, .int .u32 0]) (t := 42) ?hr ?_; (case hd => rfl); (case hg => rfl); (case hr => first | (go_simp; done) | (go_simp; rfl)); intro Ae hg w31 hbox hb; have Ab := Am (hbox); have Au := Am ((by rw [hg]; exact (below_size (pB HB.out)) : w.heap.size ≤ Ae)); replace HB := Am (below_step (pB HB.out) hb); have Ad := Au; clear hb hbox hg; obtain ⟨Fv, Fw, Fx, Fy, Fz, F0, F1, F2, F3, F4⟩ := bc10 Ab.out; obtain ⟨F5, F6, F7, F8, F9, Ga, Gb, Gc, Gd, Ge⟩ := bf10 Ab.out) | (go_at_call 27; (with_reducible refine (entry_Check.calls k2 ((rd_T42 l0 Aa).f0) ((rd_T42 l0 Aa).f1) ((rd_T42 l0 Aa).f2) ((rd_T42 l0 Aa).f3) ((rd_T42 l0 Aa).f4.f0) _ _ ((rd_T42 l0 Aa).f4.f1) ((rd_T42 l0 Aa).f4.f2.f0) ((rd_T42 l0 Aa).f4.f2.f1) ((rd_T42 l0 Aa).f4.f2.f2) ((rd_T42 l0 Aa).f4.f2.f3) t115 _ ?Av ?Aw A8.out).mono ?_); (case Av => exact Kd.C_below As.out (pE HB.out Ad.out)); (case Aw => exact At.out); rintro e w33 ⟨rfl, hb⟩; replace Ab := Am (blk_below (g := Ae) (kX0 Ab.out) hb); replace HB := Am (below_step (pE HB.out Ad.out) hb); (try clear hb); (try clear hb2); (try clear hk); (try clear hi))))
      go_ret
      exact ⟨pX, pE HB.out Ad.out⟩
     rw [if_pos c9] at H
     have c9b0 : (t115 == 0) = true := beq_iff_eq.mpr c9
     have c9b1 : (t115 != 0) = false := bne_eq_false_iff_eq.mpr c9
     clear c9
     by_cases c10 : Aa > 0
     rotate_left
     ·rw [if_neg c10] at H
      have c10b0 : decide (0 < Aa) = false := decide_eq_false c10
      clear c10
      have H' := Am H
      clear H
      have p113 : 0 ≤ (Aa : Int) := of_decide_eq_true pS
      have q113 : Aa < (l0.length : Int) := of_decide_eq_true pS
      obtain ⟨Bc, Bv, c113_5, e113, Bk, Bl, Bm, Bn, Bo, Bp, Bq, Br, Bs, Bt, Ba, Bb⟩ := at_T42u HR0.out Aa p113 q113 HB.out
      cases e113
      have As := Am Bb
      have At := Am Ba
      clear Bb Ba
      replace p113 := eq_true p113
      replace q113 := eq_true q113
      go_wp2_with (first | ((with_reducible refine gate_dst (N := 4) rfl ?_); (try (refine gate_guard (by rfl) ?_; dsimp only)); refine box_event ?hg (N := 4) ?hd (cs := #[.int .i64 0, .int .i64 0, .int .i64 0, .string (⟨#[]⟩ : ByteArray), .bool false, .slice none 0 0, .int .i64 0, .int .i64 0, .int .i64 0, .int .u32 0]) (t := 42) ?hr ?_; (case hd => rfl); (case hg => rfl); (case hr => first | (go_simp; done) | (go_simp; rfl)); intro Ae hg w28 hbox hb; have Ab := Am (hbox); have Au := Am ((by rw [hg]; exact (below_size (pB HB.out)) : w.heap.size ≤ Ae)); replace HB := Am (below_step (pB HB.out) hb); have Ad := Au; clear hb hbox hg; obtain ⟨Fb, Fc, Fd, Fe, Ff, Fg, Fh, Fi, Fj, Fk⟩ := bc10 Ab.out; obtain ⟨Fl, Fm, Fn, Fo, Fp, Fq, Fr, Fs, Ft, Fu⟩ := bf10 Ab.out) | (go_at_call 27; (with_reducible refine (entry_Check.calls k2 ((rd_T42 l0 Aa).f0) ((rd_T42 l0 Aa).f1) ((rd_T42 l0 Aa).f2) ((rd_T42 l0 Aa).f3) ((rd_T42 l0 Aa).f4.f0) _ _ ((rd_T42 l0 Aa).f4.f1) ((rd_T42 l0 Aa).f4.f2.f0) ((rd_T42 l0 Aa).f4.f2.f1) ((rd_T42 l0 Aa).f4.f2.f2) ((rd_T42 l0 Aa).f4.f2.f3) t115 _ ?Av ?Aw A8.out).mono ?_); (case Av => exact Kd.C_below As.out (pE HB.out Ad.out)); (case Aw => exact At.out); rintro e w30 ⟨rfl, hb⟩; replace Ab := Am (blk_below (g := Ae) (kX0 Ab.out) hb); replace HB := Am (below_step (pE HB.out Ad.out) hb); (try clear hb); (try clear hb2); (try clear hk); (try clear hi)))
      repeat (go_quiet (first | ((with_reducible refine gate_dst (N := 4) rfl ?_); (try (refine gate_guard (by rfl) ?_; dsimp only)); refine box_event ?hg (N := 4) ?hd (cs := #[.int .i64 0, .int .i64 0, .int .i64 0, .string (⟨#[]⟩ : ByteArray), .bool false, .slice none 0 0, .int .i64 0, .int .i64 0, .int .i64 0, .int .u32 0]) (t := 42) ?hr ?_; (case hd => rfl); (case hg => rfl); (case hr => first | (go_simp; done) | (go_simp; rfl)); intro Ae hg w28 hbox hb; have Ab := Am (hbox); have Au := Am ((by rw [hg]; exact (below_size (pB HB.out)) : w.heap.size ≤ Ae)); replace HB := Am (below_step (pB HB.out) hb); have Ad := Au; clear hb hbox hg; obtain ⟨Fb, Fc, Fd, Fe, Ff, Fg, Fh, Fi, Fj, Fk⟩ := bc10 Ab.out; obtain ⟨Fl, Fm, Fn, Fo, Fp, Fq, Fr, Fs, Ft, Fu⟩ := bf10 Ab.out) | (go_at_call 27; (with_reducible refine (entry_Check.calls k2 ((rd_T42 l0 Aa).f0) ((rd_T42 l0 Aa).f1) ((rd_T42 l0 Aa).f2) ((rd_T42 l0 Aa).f3) ((rd_T42 l0 Aa).f4.f0) _ _ ((rd_T42 l0 Aa).f4.f1) ((rd_T42 l0 Aa).f4.f2.f0) ((rd_T42 l0 Aa).f4.f2.f1) ((rd_T42 l0 Aa).f4.f2.f2) ((rd_T42 l0 Aa).f4.f2.f3) t115 _ ?Av ?Aw A8.out).mono ?_); (case Av => exact Kd.C_below As.out (pE HB.out Ad.out)); (case Aw => exact At.out); rintro e w30 ⟨rfl, hb⟩; replace Ab := Am (blk_below (g := Ae) (kX0 Ab.out) hb); replace HB := Am (below_step (pE HB.out Ad.out) hb); (try clear hb); (try clear hb2); (try clear hk); (try clear hi))); try go_wp2_with (first | ((with_reducible refine gate_dst (N := 4) rfl ?_); (try (refine gate_guard (by rfl) ?_; dsimp only)); refine box_event ?hg (N := 4) ?hd (cs := #[.int .i64 0, .int .i64 0, .int .i64 0, .string (⟨#[]⟩ : ByteArray), .bool false, .slice none 0 0, .int .i64 0, .int .i64 0, .int .i64 0, .int .u32 0]) (t := 42) ?hr ?_; (case hd => rfl); (case hg => rfl); (case hr => first | (go_simp; done) | (go_simp; rfl)); intro Ae hg w28 hbox hb; have Ab := Am (hbox); have Au := Am ((by rw [hg]; exact (below_size (pB HB.out)) : w.heap.size ≤ Ae)); replace HB := Am (below_step (pB HB.out) hb); have Ad := Au; clear hb hbox hg; obtain ⟨Fb, Fc, Fd, Fe, Ff, Fg, Fh, Fi, Fj, Fk⟩ := bc10 Ab.out; obtain ⟨Fl, Fm, Fn, Fo, Fp, Fq, Fr, Fs, Ft, Fu⟩ := bf10 Ab.out) | (go_at_call 27; (with_reducible refine (entry_Check.calls k2 ((rd_T42 l0 Aa).f0) ((rd_T42 l0 Aa).f1) ((rd_T42 l0 Aa).f2) ((rd_T42 l0 Aa).f3) ((rd_T42 l0 Aa).f4.f0) _ _ ((rd_T42 l0 Aa).f4.f1) ((rd_T42 l0 Aa).f4.f2.f0) ((rd_T42 l0 Aa).f4.f2.f1) ((rd_T42 l0 Aa).f4.f2.f2) ((rd_T42 l0 Aa).f4.f2.f3) t115 _ ?Av ?Aw A8.out).mono ?_); (case Av => exact Kd.C_below As.out (pE HB.out Ad.out)); (case Aw => exact At.out); rintro e w30 ⟨rfl, hb⟩; replace Ab := Am (blk_below (g := Ae) (kX0 Ab.out) hb); replace HB := Am (below_step (pE HB.out Ad.out) hb); (try clear hb); (try clear hb2); (try clear hk); (try clear hi))))
      go_roundg k2
      case measure => have := HJ1.out; have := HK2.out; omega
      case rel => exact ⟨(wrap64 (Aa + 1)), (by first | rfl | (simp; done) | (simp [*]; done)), H', ⟨by have := HJ1.out; have := HK2.out; omega⟩, ⟨pE HB.out Ad.out⟩⟩
     rw [if_pos c10] at H
     have c10b0 : decide (0 < Aa) = true := decide_eq_true c10
     clear c10
     obtain ⟨ji11, hji11⟩ : ∃ j_ : Int, (wrap64 (Aa - 1)) = j_ := ⟨_, rfl⟩
     replace H : (if 0 ≤ (ji11) then (if (ji11) < (l0.length : Int) then (if ((rd_T42 l0 Aa).f0) = (wrap64 (((rd_T42 l0 (ji11)).f0) + 1)) then (if ((rd_T42 l0 Aa).f1) < ((rd_T42 l0 (ji11)).f1) then (some 1) else (entry_Batch.l0 k2 l0 l0 (l0.length : Int) (wrap64 (Aa + 1)))) else (some 1)) else (none)) else (none)) = some r := by first | (rw [hji11] at H; exact H) | (simp only [hji11] at H ⊢; exact H)
     (try rw [hji11] at A8)
     have hji11w : (IntKind.i64.wrap (Aa - 1)) = ji11 := (i64_w _).trans hji11
     by_cases c12 : 0 ≤ (ji11)
     rotate_left
     ·rw [if_neg c12] at H
      exact absurd H (by simp)
     rw [if_pos c12] at H
     have c12b0 : decide (0 ≤ (ji11)) = true := decide_eq_true c12
     clear c12
     by_cases c13 : (ji11) < (l0.length : Int)
     rotate_left
     ·rw [if_neg c13] at H
      exact absurd H (by simp)
     rw [if_pos c13] at H
     have c13b0 : decide ((ji11) < (l0.length : Int)) = true := decide_eq_true c13
     clear c13
     by_cases c14 : ((rd_T42 l0 Aa).f0) = (wrap64 (((rd_T42 l0 (ji11)).f0) + 1))
     rotate_left
     ·rw [if_neg c14] at H
      have c14b0 : (((rd_T42 l0 Aa).f0) == (wrap64 (((rd_T42 l0 (ji11)).f0) + 1))) = false := beq_eq_false_iff_ne.mpr c14
      have c14b1 : (((rd_T42 l0 Aa).f0) != (wrap64 (((rd_T42 l0 (ji11)).f0) + 1))) = true := bne_iff_ne.mpr c14
      obtain rfl := Option.some.inj H
      have p113 : 0 ≤ (Aa : Int) := of_decide_eq_true pS
      have q113 : Aa < (l0.length : Int) := of_decide_eq_true pS
      obtain ⟨Bc, Bv, c113_5, e113, Bk, Bl, Bm, Bn, Bo, Bp, Bq, Br, Bs, Bt, Ba, Bb⟩ := at_T42u HR0.out Aa p113 q113 HB.out
      cases e113
      have As := Am Bb
      have At := Am Ba
      clear Bb Ba
      replace p113 := eq_true p113
      replace q113 := eq_true q113
      go_wp2_with (first | ((with_reducible refine gate_dst (N := 4) rfl ?_); (try (refine gate_guard (by rfl) ?_; dsimp only)); refine box_event ?hg (N := 4) ?hd (cs := #[.int .i64 0, .int .i64 0, .int .i64 0, .string (⟨#[]⟩ : ByteArray), .bool false, .slice none 0 0, .int .i64 0, .int .i64 0, .int .i64 0, .int .u32 0]) (t := 42) ?hr ?_; (case hd => rfl); (case hg => rfl); (case hr => first | (go_simp; done) | (go_simp; rfl)); intro Ae hg w24 hbox hb; have Ab := Am (hbox); have Au := Am ((by rw [hg]; exact (below_size (pB HB.out)) : w.heap.size ≤ Ae)); replace HB := Am (below_step (pB HB.out) hb); have Ad := Au; clear hb hbox hg; obtain ⟨D5, D6, D7, D8, D9, Ea, Eb, Ec, Ed, Ee⟩ := bc10 Ab.out; obtain ⟨Ef, Eg, Eh, Ei, Ej, Ek, El, Em, En, Eo⟩ := bf10 Ab.out) | (go_at_call 27; (with_reducible refine (entry_Check.calls k2 ((rd_T42 l0 Aa).f0) ((rd_T42 l0 Aa).f1) ((rd_T42 l0 Aa).f2) ((rd_T42 l0 Aa).f3) ((rd_T42 l0 Aa).f4.f0) _ _ ((rd_T42 l0 Aa).f4.f1) ((rd_T42 l0 Aa).f4.f2.f0) ((rd_T42 l0 Aa).f4.f2.f1) ((rd_T42 l0 Aa).f4.f2.f2) ((rd_T42 l0 Aa).f4.f2.f3) t115 _ ?Av ?Aw A8.out).mono ?_); (case Av => exact Kd.C_below As.out (pE HB.out Ad.out)); (case Aw => exact At.out); rintro e w26 ⟨rfl, hb⟩; replace Ab := Am (blk_below (g := Ae) (kX0 Ab.out) hb); replace HB := Am (below_step (pE HB.out Ad.out) hb); (try clear hb); (try clear hb2); (try clear hk); (try clear hi); obtain ⟨Ep, Er, Es, Et, Eu, Ew, Ex, Ey, Ez, E0⟩ := bc10 Ab.out; obtain ⟨E1, E2, E3, E4, E5, E6, E7, E8, E9, Fa⟩ := bf10 Ab.out; have p116 : 0 ≤ ((ji11) : Int) := of_decide_eq_true pS; have q116 : (ji11) < (l0.length : Int) := of_decide_eq_true pS; obtain ⟨Bd, Bh, c116_5, e116, Af, Ag, Ah, Ai, Aj, Ac, Ak, Al, An, Ao, Ap, Aq⟩ := at_T42 HR0.out (ji11) p116 q116; obtain rfl : Bc = Bd := (by injection e116); replace Af := cU HB.out Af; replace Ag := cU HB.out Ag; replace Ah := cU HB.out Ah; replace Ai := cU HB.out Ai; replace Aj := cU HB.out Aj; replace Ac := cU HB.out Ac; replace Ak := cU HB.out Ak; replace Al := cU HB.out Al; replace An := cU HB.out An; replace Ao := cU HB.out Ao; have Be := Am Aq; have Bf := Am Ap; clear Aq Ap; replace p116 := eq_true p116; replace q116 := eq_true q116))
      repeat (go_quiet (first | ((with_reducible refine gate_dst (N := 4) rfl ?_); (try (refine gate_guard (by rfl) ?_; dsimp only)); refine box_event ?hg (N := 4) ?hd (cs := #[.int .i64 0, .int .i64 0, .int .i64 0, .string (⟨#[]⟩ : ByteArray), .bool false, .slice none 0 0, .int .i64 0, .int .i64 0, .int .i64 0, .int .u32 0]) (t := 42) ?hr ?_; (case hd => rfl); (case hg => rfl); (case hr => first | (go_simp; done) | (go_simp; rfl)); intro Ae hg w24 hbox hb; have Ab := Am (hbox); have Au := Am ((by rw [hg]; exact (below_size (pB HB.out)) : w.heap.size ≤ Ae)); replace HB := Am (below_step (pB HB.out) hb); have Ad := Au; clear hb hbox hg; obtain ⟨D5, D6, D7, D8, D9, Ea, Eb, Ec, Ed, Ee⟩ := bc10 Ab.out; obtain ⟨Ef, Eg, Eh, Ei, Ej, Ek, El, Em, En, Eo⟩ := bf10 Ab.out) | (go_at_call 27; (with_reducible refine (entry_Check.calls k2 ((rd_T42 l0 Aa).f0) ((rd_T42 l0 Aa).f1) ((rd_T42 l0 Aa).f2) ((rd_T42 l0 Aa).f3) ((rd_T42 l0 Aa).f4.f0) _ _ ((rd_T42 l0 Aa).f4.f1) ((rd_T42 l0 Aa).f4.f2.f0) ((rd_T42 l0 Aa).f4.f2.f1) ((rd_T42 l0 Aa).f4.f2.f2) ((rd_T42 l0 Aa).f4.f2.f3) t115 _ ?Av ?Aw A8.out).mono ?_); (case Av => exact Kd.C_below As.out (pE HB.out Ad.out)); (case Aw => exact At.out); rintro e w26 ⟨rfl, hb⟩; replace Ab := Am (blk_below (g := Ae) (kX0 Ab.out) hb); replace HB := Am (below_step (pE HB.out Ad.out) hb); (try clear hb); (try clear hb2); (try clear hk); (try clear hi); obtain ⟨Ep, Er, Es, Et, Eu, Ew, Ex, Ey, Ez, E0⟩ := bc10 Ab.out; obtain ⟨E1, E2, E3, E4, E5, E6, E7, E8, E9, Fa⟩ := bf10 Ab.out; have p116 : 0 ≤ ((ji11) : Int) := of_decide_eq_true pS; have q116 : (ji11) < (l0.length : Int) := of_decide_eq_true pS; obtain ⟨Bd, Bh, c116_5, e116, Af, Ag, Ah, Ai, Aj, Ac, Ak, Al, An, Ao, Ap, Aq⟩ := at_T42 HR0.out (ji11) p116 q116; obtain rfl : Bc = Bd := (by injection e116); replace Af := cU HB.out Af; replace Ag := cU HB.out Ag; replace Ah := cU HB.out Ah; replace Ai := cU HB.out Ai; replace Aj := cU HB.out Aj; replace Ac := cU HB.out Ac; replace Ak := cU HB.out Ak; replace Al := cU HB.out Al; replace An := cU HB.out An; replace Ao := cU HB.out Ao; have Be := Am Aq; have Bf := Am Ap; clear Aq Ap; replace p116 := eq_true p116; replace q116 := eq_true q116)); try go_wp2_with (first | ((with_reducible refine gate_dst (N := 4) rfl ?_); (try (refine gate_guard (by rfl) ?_; dsimp only)); refine box_event ?hg (N := 4) ?hd (cs := #[.int .i64 0, .int .i64 0, .int .i64 0, .string (⟨#[]⟩ : ByteArray), .bool false, .slice none 0 0, .int .i64 0, .int .i64 0, .int .i64 0, .int .u32 0]) (t := 42) ?hr ?_; (case hd => rfl); (case hg => rfl); (case hr => first | (go_simp; done) | (go_simp; rfl)); intro Ae hg w24 hbox hb; have Ab := Am (hbox); have Au := Am ((by rw [hg]; exact (below_size (pB HB.out)) : w.heap.size ≤ Ae)); replace HB := Am (below_step (pB HB.out) hb); have Ad := Au; clear hb hbox hg; obtain ⟨D5, D6, D7, D8, D9, Ea, Eb, Ec, Ed, Ee⟩ := bc10 Ab.out; obtain ⟨Ef, Eg, Eh, Ei, Ej, Ek, El, Em, En, Eo⟩ := bf10 Ab.out) | (go_at_call 27; (with_reducible refine (entry_Check.calls k2 ((rd_T42 l0 Aa).f0) ((rd_T42 l0 Aa).f1) ((rd_T42 l0 Aa).f2) ((rd_T42 l0 Aa).f3) ((rd_T42 l0 Aa).f4.f0) _ _ ((rd_T42 l0 Aa).f4.f1) ((rd_T42 l0 Aa).f4.f2.f0) ((rd_T42 l0 Aa).f4.f2.f1) ((rd_T42 l0 Aa).f4.f2.f2) ((rd_T42 l0 Aa).f4.f2.f3) t115 _ ?Av ?Aw A8.out).mono ?_); (case Av => exact Kd.C_below As.out (pE HB.out Ad.out)); (case Aw => exact At.out); rintro e w26 ⟨rfl, hb⟩; replace Ab := Am (blk_below (g := Ae) (kX0 Ab.out) hb); replace HB := Am (below_step (pE HB.out Ad.out) hb); (try clear hb); (try clear hb2); (try clear hk); (try clear hi); obtain ⟨Ep, Er, Es, Et, Eu, Ew, Ex, Ey, Ez, E0⟩ := bc10 Ab.out; obtain ⟨E1, E2, E3, E4, E5, E6, E7, E8, E9, Fa⟩ := bf10 Ab.out; have p116 : 0 ≤ ((ji11) : Int) := of_decide_eq_true pS; have q116 : (ji11) < (l0.length : Int) := of_decide_eq_true pS; obtain ⟨Bd, Bh, c116_5, e116, Af, Ag, Ah, Ai, Aj, Ac, Ak, Al, An, Ao, Ap, Aq⟩ := at_T42 HR0.out (ji11) p116 q116; obtain rfl : Bc = Bd := (by injection e116); replace Af := cU HB.out Af; replace Ag := cU HB.out Ag; replace Ah := cU HB.out Ah; replace Ai := cU HB.out Ai; replace Aj := cU HB.out Aj; replace Ac := cU HB.out Ac; replace Ak := cU HB.out Ak; replace Al := cU HB.out Al; replace An := cU HB.out An; replace Ao := cU HB.out Ao; have Be := Am Aq; have Bf := Am Ap; clear Aq Ap; replace p116 := eq_true p116; replace q116 := eq_true q116)))
      go_ret
      exact ⟨by first | rfl | (simp [errW_none, errW_some] <;> rfl) | (simp only [← hji11]; first | rfl | (simp [errW_none, errW_some] <;> rfl)) | (simp [*, errW_none, errW_some] <;> rfl), pE HB.out Ad.out⟩
     rw [if_pos c14] at H
     have c14b0 : (((rd_T42 l0 Aa).f0) == (wrap64 (((rd_T42 l0 (ji11)).f0) + 1))) = true := beq_iff_eq.mpr c14
     have c14b1 : (((rd_T42 l0 Aa).f0) != (wrap64 (((rd_T42 l0 (ji11)).f0) + 1))) = false := bne_eq_false_iff_eq.mpr c14
     clear c14
     by_cases c15 : ((rd_T42 l0 Aa).f1) < ((rd_T42 l0 (ji11)).f1)
     ·rw [if_pos c15] at H
      have c15b0 : decide (((rd_T42 l0 Aa).f1) < ((rd_T42 l0 (ji11)).f1)) = true := decide_eq_true c15
      clear c15
      obtain rfl := Option.some.inj H
      have p113 : 0 ≤ (Aa : Int) := of_decide_eq_true pS
      have q113 : Aa < (l0.length : Int) := of_decide_eq_true pS
      obtain ⟨Bc, Bv, c113_5, e113, Bk, Bl, Bm, Bn, Bo, Bp, Bq, Br, Bs, Bt, Ba, Bb⟩ := at_T42u HR0.out Aa p113 q113 HB.out
      cases e113
      have As := Am Bb
      have At := Am Ba
      clear Bb Ba
      replace p113 := eq_true p113
      replace q113 := eq_true q113
      go_wp2_with (first | ((with_reducible refine gate_dst (N := 4) rfl ?_); (try (refine gate_guard (by rfl) ?_; dsimp only)); refine box_event ?hg (N := 4) ?hd (cs := #[.int .i64 0, .int .i64 0, .int .i64 0, .string (⟨#[]⟩ : ByteArray), .bool false, .slice none 0 0, .int .i64 0, .int .i64 0, .int .i64 0, .int .u32 0]) (t := 42) ?hr ?_; (case hd => rfl); (case hg => rfl); (case hr => first | (go_simp; done) | (go_simp; rfl)); intro Ae hg w16 hbox hb; have Ab := Am (hbox); have Au := Am ((by rw [hg]; exact (below_size (pB HB.out)) : w.heap.size ≤ Ae)); replace HB := Am (below_step (pB HB.out) hb); have Ad := Au; clear hb hbox hg; obtain ⟨Bx, By, Bz, B0, B1, B2, B3, B4, B5, B6⟩ := bc10 Ab.out; obtain ⟨B7, B8, B9, Ca, Cb, Cc, Cd, Ce, Cf, Cg⟩ := bf10 Ab.out) | (go_at_call 27; (with_reducible refine (entry_Check.calls k2 ((rd_T42 l0 Aa).f0) ((rd_T42 l0 Aa).f1) ((rd_T42 l0 Aa).f2) ((rd_T42 l0 Aa).f3) ((rd_T42 l0 Aa).f4.f0) _ _ ((rd_T42 l0 Aa).f4.f1) ((rd_T42 l0 Aa).f4.f2.f0) ((rd_T42 l0 Aa).f4.f2.f1) ((rd_T42 l0 Aa).f4.f2.f2) ((rd_T42 l0 Aa).f4.f2.f3) t115 _ ?Av ?Aw A8.out).mono ?_); (case Av => exact Kd.C_below As.out (pE HB.out Ad.out)); (case Aw => exact At.out); rintro e w18 ⟨rfl, hb⟩; replace Ab := Am (blk_below (g := Ae) (kX0 Ab.out) hb); replace HB := Am (below_step (pE HB.out Ad.out) hb); (try clear hb); (try clear hb2); (try clear hk); (try clear hi); obtain ⟨Ch, Ci, Cj, Ck, Cl, Cm, Cn, Co, Cp, Cq⟩ := bc10 Ab.out; obtain ⟨Cr, Cs, Ct, Cu, Cv, Cw, Cx, Cy, Cz, C0⟩ := bf10 Ab.out; have p116 : 0 ≤ ((ji11) : Int) := of_decide_eq_true pS; have q116 : (ji11) < (l0.length : Int) := of_decide_eq_true pS; obtain ⟨Bd, Bh, c116_5, e116, Af, Ag, Ah, Ai, Aj, Ac, Ak, Al, An, Ao, Ap, Aq⟩ := at_T42 HR0.out (ji11) p116 q116; obtain rfl : Bc = Bd := (by injection e116); replace Af := cU HB.out Af; replace Ag := cU HB.out Ag; replace Ah := cU HB.out Ah; replace Ai := cU HB.out Ai; replace Aj := cU HB.out Aj; replace Ac := cU HB.out Ac; replace Ak := cU HB.out Ak; replace Al := cU HB.out Al; replace An := cU HB.out An; replace Ao := cU HB.out Ao; have Be := Am Aq; have Bf := Am Ap; clear Aq Ap; replace p116 := eq_true p116; replace q116 := eq_true q116; have p117 : 0 ≤ ((ji11) : Int) := of_decide_eq_true pS; have q117 : (ji11) < (l0.length : Int) := of_decide_eq_true pS; obtain ⟨Bg, Bu, c117_5, e117, Ax, Ay, Az, A1, A2, Ar, A3, A4, A5, A6, A7, A9⟩ := at_T42 HR0.out (ji11) p117 q117; obtain rfl : Bc = Bg := (by injection e117); replace Ax := cU HB.out Ax; replace Ay := cU HB.out Ay; replace Az := cU HB.out Az; replace A1 := cU HB.out A1; replace A2 := cU HB.out A2; replace Ar := cU HB.out Ar; replace A3 := cU HB.out A3; replace A4 := cU HB.out A4; replace A5 := cU HB.out A5; replace A6 := cU HB.out A6; have Bi := Am A9; have Bj := Am A7; clear A9 A7; replace p117 := eq_true p117; replace q117 := eq_true q117; have ea_ := Option.some.inj (Ac.symm.trans Ar); injection ea_ with ea_ en_ ec_; subst ea_; subst ec_; clear en_))
      repeat (go_quiet (first | ((with_reducible refine gate_dst (N := 4) rfl ?_); (try (refine gate_guard (by rfl) ?_; dsimp only)); refine box_event ?hg (N := 4) ?hd (cs := #[.int .i64 0, .int .i64 0, .int .i64 0, .string (⟨#[]⟩ : ByteArray), .bool false, .slice none 0 0, .int .i64 0, .int .i64 0, .int .i64 0, .int .u32 0]) (t := 42) ?hr ?_; (case hd => rfl); (case hg => rfl); (case hr => first | (go_simp; done) | (go_simp; rfl)); intro Ae hg w16 hbox hb; have Ab := Am (hbox); have Au := Am ((by rw [hg]; exact (below_size (pB HB.out)) : w.heap.size ≤ Ae)); replace HB := Am (below_step (pB HB.out) hb); have Ad := Au; clear hb hbox hg; obtain ⟨Bx, By, Bz, B0, B1, B2, B3, B4, B5, B6⟩ := bc10 Ab.out; obtain ⟨B7, B8, B9, Ca, Cb, Cc, Cd, Ce, Cf, Cg⟩ := bf10 Ab.out) | (go_at_call 27; (with_reducible refine (entry_Check.calls k2 ((rd_T42 l0 Aa).f0) ((rd_T42 l0 Aa).f1) ((rd_T42 l0 Aa).f2) ((rd_T42 l0 Aa).f3) ((rd_T42 l0 Aa).f4.f0) _ _ ((rd_T42 l0 Aa).f4.f1) ((rd_T42 l0 Aa).f4.f2.f0) ((rd_T42 l0 Aa).f4.f2.f1) ((rd_T42 l0 Aa).f4.f2.f2) ((rd_T42 l0 Aa).f4.f2.f3) t115 _ ?Av ?Aw A8.out).mono ?_); (case Av => exact Kd.C_below As.out (pE HB.out Ad.out)); (case Aw => exact At.out); rintro e w18 ⟨rfl, hb⟩; replace Ab := Am (blk_below (g := Ae) (kX0 Ab.out) hb); replace HB := Am (below_step (pE HB.out Ad.out) hb); (try clear hb); (try clear hb2); (try clear hk); (try clear hi); obtain ⟨Ch, Ci, Cj, Ck, Cl, Cm, Cn, Co, Cp, Cq⟩ := bc10 Ab.out; obtain ⟨Cr, Cs, Ct, Cu, Cv, Cw, Cx, Cy, Cz, C0⟩ := bf10 Ab.out; have p116 : 0 ≤ ((ji11) : Int) := of_decide_eq_true pS; have q116 : (ji11) < (l0.length : Int) := of_decide_eq_true pS; obtain ⟨Bd, Bh, c116_5, e116, Af, Ag, Ah, Ai, Aj, Ac, Ak, Al, An, Ao, Ap, Aq⟩ := at_T42 HR0.out (ji11) p116 q116; obtain rfl : Bc = Bd := (by injection e116); replace Af := cU HB.out Af; replace Ag := cU HB.out Ag; replace Ah := cU HB.out Ah; replace Ai := cU HB.out Ai; replace Aj := cU HB.out Aj; replace Ac := cU HB.out Ac; replace Ak := cU HB.out Ak; replace Al := cU HB.out Al; replace An := cU HB.out An; replace Ao := cU HB.out Ao; have Be := Am Aq; have Bf := Am Ap; clear Aq Ap; replace p116 := eq_true p116; replace q116 := eq_true q116; have p117 : 0 ≤ ((ji11) : Int) := of_decide_eq_true pS; have q117 : (ji11) < (l0.length : Int) := of_decide_eq_true pS; obtain ⟨Bg, Bu, c117_5, e117, Ax, Ay, Az, A1, A2, Ar, A3, A4, A5, A6, A7, A9⟩ := at_T42 HR0.out (ji11) p117 q117; obtain rfl : Bc = Bg := (by injection e117); replace Ax := cU HB.out Ax; replace Ay := cU HB.out Ay; replace Az := cU HB.out Az; replace A1 := cU HB.out A1; replace A2 := cU HB.out A2; replace Ar := cU HB.out Ar; replace A3 := cU HB.out A3; replace A4 := cU HB.out A4; replace A5 := cU HB.out A5; replace A6 := cU HB.out A6; have Bi := Am A9; have Bj := Am A7; clear A9 A7; replace p117 := eq_true p117; replace q117 := eq_true q117; have ea_ := Option.some.inj (Ac.symm.trans Ar); injection ea_ with ea_ en_ ec_; subst ea_; subst ec_; clear en_)); try go_wp2_with (first | ((with_reducible refine gate_dst (N := 4) rfl ?_); (try (refine gate_guard (by rfl) ?_; dsimp only)); refine box_event ?hg (N := 4) ?hd (cs := #[.int .i64 0, .int .i64 0, .int .i64 0, .string (⟨#[]⟩ : ByteArray), .bool false, .slice none 0 0, .int .i64 0, .int .i64 0, .int .i64 0, .int .u32 0]) (t := 42) ?hr ?_; (case hd => rfl); (case hg => rfl); (case hr => first | (go_simp; done) | (go_simp; rfl)); intro Ae hg w16 hbox hb; have Ab := Am (hbox); have Au := Am ((by rw [hg]; exact (below_size (pB HB.out)) : w.heap.size ≤ Ae)); replace HB := Am (below_step (pB HB.out) hb); have Ad := Au; clear hb hbox hg; obtain ⟨Bx, By, Bz, B0, B1, B2, B3, B4, B5, B6⟩ := bc10 Ab.out; obtain ⟨B7, B8, B9, Ca, Cb, Cc, Cd, Ce, Cf, Cg⟩ := bf10 Ab.out) | (go_at_call 27; (with_reducible refine (entry_Check.calls k2 ((rd_T42 l0 Aa).f0) ((rd_T42 l0 Aa).f1) ((rd_T42 l0 Aa).f2) ((rd_T42 l0 Aa).f3) ((rd_T42 l0 Aa).f4.f0) _ _ ((rd_T42 l0 Aa).f4.f1) ((rd_T42 l0 Aa).f4.f2.f0) ((rd_T42 l0 Aa).f4.f2.f1) ((rd_T42 l0 Aa).f4.f2.f2) ((rd_T42 l0 Aa).f4.f2.f3) t115 _ ?Av ?Aw A8.out).mono ?_); (case Av => exact Kd.C_below As.out (pE HB.out Ad.out)); (case Aw => exact At.out); rintro e w18 ⟨rfl, hb⟩; replace Ab := Am (blk_below (g := Ae) (kX0 Ab.out) hb); replace HB := Am (below_step (pE HB.out Ad.out) hb); (try clear hb); (try clear hb2); (try clear hk); (try clear hi); obtain ⟨Ch, Ci, Cj, Ck, Cl, Cm, Cn, Co, Cp, Cq⟩ := bc10 Ab.out; obtain ⟨Cr, Cs, Ct, Cu, Cv, Cw, Cx, Cy, Cz, C0⟩ := bf10 Ab.out; have p116 : 0 ≤ ((ji11) : Int) := of_decide_eq_true pS; have q116 : (ji11) < (l0.length : Int) := of_decide_eq_true pS; obtain ⟨Bd, Bh, c116_5, e116, Af, Ag, Ah, Ai, Aj, Ac, Ak, Al, An, Ao, Ap, Aq⟩ := at_T42 HR0.out (ji11) p116 q116; obtain rfl : Bc = Bd := (by injection e116); replace Af := cU HB.out Af; replace Ag := cU HB.out Ag; replace Ah := cU HB.out Ah; replace Ai := cU HB.out Ai; replace Aj := cU HB.out Aj; replace Ac := cU HB.out Ac; replace Ak := cU HB.out Ak; replace Al := cU HB.out Al; replace An := cU HB.out An; replace Ao := cU HB.out Ao; have Be := Am Aq; have Bf := Am Ap; clear Aq Ap; replace p116 := eq_true p116; replace q116 := eq_true q116; have p117 : 0 ≤ ((ji11) : Int) := of_decide_eq_true pS; have q117 : (ji11) < (l0.length : Int) := of_decide_eq_true pS; obtain ⟨Bg, Bu, c117_5, e117, Ax, Ay, Az, A1, A2, Ar, A3, A4, A5, A6, A7, A9⟩ := at_T42 HR0.out (ji11) p117 q117; obtain rfl : Bc = Bg := (by injection e117); replace Ax := cU HB.out Ax; replace Ay := cU HB.out Ay; replace Az := cU HB.out Az; replace A1 := cU HB.out A1; replace A2 := cU HB.out A2; replace Ar := cU HB.out Ar; replace A3 := cU HB.out A3; replace A4 := cU HB.out A4; replace A5 := cU HB.out A5; replace A6 := cU HB.out A6; have Bi := Am A9; have Bj := Am A7; clear A9 A7; replace p117 := eq_true p117; replace q117 := eq_true q117; have ea_ := Option.some.inj (Ac.symm.trans Ar); injection ea_ with ea_ en_ ec_; subst ea_; subst ec_; clear en_)))
      go_ret
      exact ⟨by first | rfl | (simp [errW_none, errW_some] <;> rfl) | (simp only [← hji11]; first | rfl | (simp [errW_none, errW_some] <;> rfl)) | (simp [*, errW_none, errW_some] <;> rfl), pE HB.out Ad.out⟩
     rw [if_neg c15] at H
     have c15b0 : decide (((rd_T42 l0 Aa).f1) < ((rd_T42 l0 (ji11)).f1)) = false := decide_eq_false c15
     clear c15
     have H' := Am H
     clear H
     have p113 : 0 ≤ (Aa : Int) := of_decide_eq_true pS
     have q113 : Aa < (l0.length : Int) := of_decide_eq_true pS
     obtain ⟨Bc, Bv, c113_5, e113, Bk, Bl, Bm, Bn, Bo, Bp, Bq, Br, Bs, Bt, Ba, Bb⟩ := at_T42u HR0.out Aa p113 q113 HB.out
     cases e113
     have As := Am Bb
     have At := Am Ba
     clear Bb Ba
     replace p113 := eq_true p113
     replace q113 := eq_true q113
     go_wp2_with (first | ((with_reducible refine gate_dst (N := 4) rfl ?_); (try (refine gate_guard (by rfl) ?_; dsimp only)); refine box_event ?hg (N := 4) ?hd (cs := #[.int .i64 0, .int .i64 0, .int .i64 0, .string (⟨#[]⟩ : ByteArray), .bool false, .slice none 0 0, .int .i64 0, .int .i64 0, .int .i64 0, .int .u32 0]) (t := 42) ?hr ?_; (case hd => rfl); (case hg => rfl); (case hr => first | (go_simp; done) | (go_simp; rfl)); intro Ae hg w20 hbox hb; have Ab := Am (hbox); have Au := Am ((by rw [hg]; exact (below_size (pB HB.out)) : w.heap.size ≤ Ae)); replace HB := Am (below_step (pB HB.out) hb); have Ad := Au; clear hb hbox hg; obtain ⟨C1, C2, C3, C4, C5, C6, C7, C8, C9, Da⟩ := bc10 Ab.out; obtain ⟨Db, Dc, Dd, De, Df, Dg, Dh, Di, Dj, Dk⟩ := bf10 Ab.out) | (go_at_call 27; (with_reducible refine (entry_Check.calls k2 ((rd_T42 l0 Aa).f0) ((rd_T42 l0 Aa).f1) ((rd_T42 l0 Aa).f2) ((rd_T42 l0 Aa).f3) ((rd_T42 l0 Aa).f4.f0) _ _ ((rd_T42 l0 Aa).f4.f1) ((rd_T42 l0 Aa).f4.f2.f0) ((rd_T42 l0 Aa).f4.f2.f1) ((rd_T42 l0 Aa).f4.f2.f2) ((rd_T42 l0 Aa).f4.f2.f3) t115 _ ?Av ?Aw A8.out).mono ?_); (case Av => exact Kd.C_below As.out (pE HB.out Ad.out)); (case Aw => exact At.out); rintro e w22 ⟨rfl, hb⟩; replace Ab := Am (blk_below (g := Ae) (kX0 Ab.out) hb); replace HB := Am (below_step (pE HB.out Ad.out) hb); (try clear hb); (try clear hb2); (try clear hk); (try clear hi); obtain ⟨Dl, Dm, Dn, Do, Dp, Dq, Dr, Ds, Dt, Du⟩ := bc10 Ab.out; obtain ⟨Dv, Dw, Dx, Dy, Dz, D0, D1, D2, D3, D4⟩ := bf10 Ab.out; have p116 : 0 ≤ ((ji11) : Int) := of_decide_eq_true pS; have q116 : (ji11) < (l0.length : Int) := of_decide_eq_true pS; obtain ⟨Bd, Bh, c116_5, e116, Af, Ag, Ah, Ai, Aj, Ac, Ak, Al, An, Ao, Ap, Aq⟩ := at_T42 HR0.out (ji11) p116 q116; obtain rfl : Bc = Bd := (by injection e116); replace Af := cU HB.out Af; replace Ag := cU HB.out Ag; replace Ah := cU HB.out Ah; replace Ai := cU HB.out Ai; replace Aj := cU HB.out Aj; replace Ac := cU HB.out Ac; replace Ak := cU HB.out Ak; replace Al := cU HB.out Al; replace An := cU HB.out An; replace Ao := cU HB.out Ao; have Be := Am Aq; have Bf := Am Ap; clear Aq Ap; replace p116 := eq_true p116; replace q116 := eq_true q116; have p117 : 0 ≤ ((ji11) : Int) := of_decide_eq_true pS; have q117 : (ji11) < (l0.length : Int) := of_decide_eq_true pS; obtain ⟨Bg, Bu, c117_5, e117, Ax, Ay, Az, A1, A2, Ar, A3, A4, A5, A6, A7, A9⟩ := at_T42 HR0.out (ji11) p117 q117; obtain rfl : Bc = Bg := (by injection e117); replace Ax := cU HB.out Ax; replace Ay := cU HB.out Ay; replace Az := cU HB.out Az; replace A1 := cU HB.out A1; replace A2 := cU HB.out A2; replace Ar := cU HB.out Ar; replace A3 := cU HB.out A3; replace A4 := cU HB.out A4; replace A5 := cU HB.out A5; replace A6 := cU HB.out A6; have Bi := Am A9; have Bj := Am A7; clear A9 A7; replace p117 := eq_true p117; replace q117 := eq_true q117; have ea_ := Option.some.inj (Ac.symm.trans Ar); injection ea_ with ea_ en_ ec_; subst ea_; subst ec_; clear en_))
     repeat (go_quiet (first | ((with_reducible refine gate_dst (N := 4) rfl ?_); (try (refine gate_guard (by rfl) ?_; dsimp only)); refine box_event ?hg (N := 4) ?hd (cs := #[.int .i64 0, .int .i64 0, .int .i64 0, .string (⟨#[]⟩ : ByteArray), .bool false, .slice none 0 0, .int .i64 0, .int .i64 0, .int .i64 0, .int .u32 0]) (t := 42) ?hr ?_; (case hd => rfl); (case hg => rfl); (case hr => first | (go_simp; done) | (go_simp; rfl)); intro Ae hg w20 hbox hb; have Ab := Am (hbox); have Au := Am ((by rw [hg]; exact (below_size (pB HB.out)) : w.heap.size ≤ Ae)); replace HB := Am (below_step (pB HB.out) hb); have Ad := Au; clear hb hbox hg; obtain ⟨C1, C2, C3, C4, C5, C6, C7, C8, C9, Da⟩ := bc10 Ab.out; obtain ⟨Db, Dc, Dd, De, Df, Dg, Dh, Di, Dj, Dk⟩ := bf10 Ab.out) | (go_at_call 27; (with_reducible refine (entry_Check.calls k2 ((rd_T42 l0 Aa).f0) ((rd_T42 l0 Aa).f1) ((rd_T42 l0 Aa).f2) ((rd_T42 l0 Aa).f3) ((rd_T42 l0 Aa).f4.f0) _ _ ((rd_T42 l0 Aa).f4.f1) ((rd_T42 l0 Aa).f4.f2.f0) ((rd_T42 l0 Aa).f4.f2.f1) ((rd_T42 l0 Aa).f4.f2.f2) ((rd_T42 l0 Aa).f4.f2.f3) t115 _ ?Av ?Aw A8.out).mono ?_); (case Av => exact Kd.C_below As.out (pE HB.out Ad.out)); (case Aw => exact At.out); rintro e w22 ⟨rfl, hb⟩; replace Ab := Am (blk_below (g := Ae) (kX0 Ab.out) hb); replace HB := Am (below_step (pE HB.out Ad.out) hb); (try clear hb); (try clear hb2); (try clear hk); (try clear hi); obtain ⟨Dl, Dm, Dn, Do, Dp, Dq, Dr, Ds, Dt, Du⟩ := bc10 Ab.out; obtain ⟨Dv, Dw, Dx, Dy, Dz, D0, D1, D2, D3, D4⟩ := bf10 Ab.out; have p116 : 0 ≤ ((ji11) : Int) := of_decide_eq_true pS; have q116 : (ji11) < (l0.length : Int) := of_decide_eq_true pS; obtain ⟨Bd, Bh, c116_5, e116, Af, Ag, Ah, Ai, Aj, Ac, Ak, Al, An, Ao, Ap, Aq⟩ := at_T42 HR0.out (ji11) p116 q116; obtain rfl : Bc = Bd := (by injection e116); replace Af := cU HB.out Af; replace Ag := cU HB.out Ag; replace Ah := cU HB.out Ah; replace Ai := cU HB.out Ai; replace Aj := cU HB.out Aj; replace Ac := cU HB.out Ac; replace Ak := cU HB.out Ak; replace Al := cU HB.out Al; replace An := cU HB.out An; replace Ao := cU HB.out Ao; have Be := Am Aq; have Bf := Am Ap; clear Aq Ap; replace p116 := eq_true p116; replace q116 := eq_true q116; have p117 : 0 ≤ ((ji11) : Int) := of_decide_eq_true pS; have q117 : (ji11) < (l0.length : Int) := of_decide_eq_true pS; obtain ⟨Bg, Bu, c117_5, e117, Ax, Ay, Az, A1, A2, Ar, A3, A4, A5, A6, A7, A9⟩ := at_T42 HR0.out (ji11) p117 q117; obtain rfl : Bc = Bg := (by injection e117); replace Ax := cU HB.out Ax; replace Ay := cU HB.out Ay; replace Az := cU HB.out Az; replace A1 := cU HB.out A1; replace A2 := cU HB.out A2; replace Ar := cU HB.out Ar; replace A3 := cU HB.out A3; replace A4 := cU HB.out A4; replace A5 := cU HB.out A5; replace A6 := cU HB.out A6; have Bi := Am A9; have Bj := Am A7; clear A9 A7; replace p117 := eq_true p117; replace q117 := eq_true q117; have ea_ := Option.some.inj (Ac.symm.trans Ar); injection ea_ with ea_ en_ ec_; subst ea_; subst ec_; clear en_)); try go_wp2_with (first | ((with_reducible refine gate_dst (N := 4) rfl ?_); (try (refine gate_guard (by rfl) ?_; dsimp only)); refine box_event ?hg (N := 4) ?hd (cs := #[.int .i64 0, .int .i64 0, .int .i64 0, .string (⟨#[]⟩ : ByteArray), .bool false, .slice none 0 0, .int .i64 0, .int .i64 0, .int .i64 0, .int .u32 0]) (t := 42) ?hr ?_; (case hd => rfl); (case hg => rfl); (case hr => first | (go_simp; done) | (go_simp; rfl)); intro Ae hg w20 hbox hb; have Ab := Am (hbox); have Au := Am ((by rw [hg]; exact (below_size (pB HB.out)) : w.heap.size ≤ Ae)); replace HB := Am (below_step (pB HB.out) hb); have Ad := Au; clear hb hbox hg; obtain ⟨C1, C2, C3, C4, C5, C6, C7, C8, C9, Da⟩ := bc10 Ab.out; obtain ⟨Db, Dc, Dd, De, Df, Dg, Dh, Di, Dj, Dk⟩ := bf10 Ab.out) | (go_at_call 27; (with_reducible refine (entry_Check.calls k2 ((rd_T42 l0 Aa).f0) ((rd_T42 l0 Aa).f1) ((rd_T42 l0 Aa).f2) ((rd_T42 l0 Aa).f3) ((rd_T42 l0 Aa).f4.f0) _ _ ((rd_T42 l0 Aa).f4.f1) ((rd_T42 l0 Aa).f4.f2.f0) ((rd_T42 l0 Aa).f4.f2.f1) ((rd_T42 l0 Aa).f4.f2.f2) ((rd_T42 l0 Aa).f4.f2.f3) t115 _ ?Av ?Aw A8.out).mono ?_); (case Av => exact Kd.C_below As.out (pE HB.out Ad.out)); (case Aw => exact At.out); rintro e w22 ⟨rfl, hb⟩; replace Ab := Am (blk_below (g := Ae) (kX0 Ab.out) hb); replace HB := Am (below_step (pE HB.out Ad.out) hb); (try clear hb); (try clear hb2); (try clear hk); (try clear hi); obtain ⟨Dl, Dm, Dn, Do, Dp, Dq, Dr, Ds, Dt, Du⟩ := bc10 Ab.out; obtain ⟨Dv, Dw, Dx, Dy, Dz, D0, D1, D2, D3, D4⟩ := bf10 Ab.out; have p116 : 0 ≤ ((ji11) : Int) := of_decide_eq_true pS; have q116 : (ji11) < (l0.length : Int) := of_decide_eq_true pS; obtain ⟨Bd, Bh, c116_5, e116, Af, Ag, Ah, Ai, Aj, Ac, Ak, Al, An, Ao, Ap, Aq⟩ := at_T42 HR0.out (ji11) p116 q116; obtain rfl : Bc = Bd := (by injection e116); replace Af := cU HB.out Af; replace Ag := cU HB.out Ag; replace Ah := cU HB.out Ah; replace Ai := cU HB.out Ai; replace Aj := cU HB.out Aj; replace Ac := cU HB.out Ac; replace Ak := cU HB.out Ak; replace Al := cU HB.out Al; replace An := cU HB.out An; replace Ao := cU HB.out Ao; have Be := Am Aq; have Bf := Am Ap; clear Aq Ap; replace p116 := eq_true p116; replace q116 := eq_true q116; have p117 : 0 ≤ ((ji11) : Int) := of_decide_eq_true pS; have q117 : (ji11) < (l0.length : Int) := of_decide_eq_true pS; obtain ⟨Bg, Bu, c117_5, e117, Ax, Ay, Az, A1, A2, Ar, A3, A4, A5, A6, A7, A9⟩ := at_T42 HR0.out (ji11) p117 q117; obtain rfl : Bc = Bg := (by injection e117); replace Ax := cU HB.out Ax; replace Ay := cU HB.out Ay; replace Az := cU HB.out Az; replace A1 := cU HB.out A1; replace A2 := cU HB.out A2; replace Ar := cU HB.out Ar; replace A3 := cU HB.out A3; replace A4 := cU HB.out A4; replace A5 := cU HB.out A5; replace A6 := cU HB.out A6; have Bi := Am A9; have Bj := Am A7; clear A9 A7; replace p117 := eq_true p117; replace q117 := eq_true q117; have ea_ := Option.some.inj (Ac.symm.trans Ar); injection ea_ with ea_ en_ ec_; subst ea_; subst ec_; clear en_)))
     go_roundg k2
     case measure => have := HJ1.out; have := HK2.out; omega
     case rel => exact ⟨(wrap64 (Aa + 1)), (by first | rfl | (simp; done) | (simp [*]; done)), H', ⟨by have := HJ1.out; have := HK2.out; omega⟩, ⟨pE HB.out Ad.out⟩⟩
mutual
def varint_Put.l0 : Nat → List Int → List Int → Int → Int → Option (List Int)
 | 0, _, _, _, _ => none
 | k + 1, x3, x6, x7, x8 => if x8 < x7 then (if 0 ≤ x8 then (if x8 < (x6.length : Int) then (varint_Put.l1 k x3 (rd x6 x8) x6 x7 x8) else (none)) else (none)) else (some x3)
def varint_Put.l1 : Nat → List Int → Int → List Int → Int → Int → Option (List Int)
 | 0, _, _, _, _, _ => none
 | k + 1, x3, x5, x6, x7, x8 => if x5 ≥ 128 then (if x3.length < 140737488355328 then (varint_Put.l1 k (x3 ++ [Go.bits .or .u8 ((x5) % 256) 128]) (x5 / 128) x6 x7 x8) else (none)) else (if x3.length < 140737488355328 then (varint_Put.l0 k (x3 ++ [(x5) % 256]) x6 x7 (wrap64 (x8 + 1))) else (none))
end
def varint_Put.f (k : Nat) (l0 : List Int) : Option (List Int) := varint_Put.l0 k ([] : List Int) l0 (l0.length : Int) 0
theorem varint_Put.mono_l : ∀ k, (∀ y0 y1 y2 y3, LeO (varint_Put.l0 k y0 y1 y2 y3) (varint_Put.l0 (k + 1) y0 y1 y2 y3)) ∧ (∀ y0 y1 y2 y3 y4, LeO (varint_Put.l1 k y0 y1 y2 y3 y4) (varint_Put.l1 (k + 1) y0 y1 y2 y3 y4))
 | 0 => ⟨fun _ _ _ _ r h => by simp [varint_Put.l0] at h, fun _ _ _ _ _ r h => by simp [varint_Put.l1] at h⟩
 | k + 1 => by
  obtain ⟨ih0, ih1⟩ := varint_Put.mono_l k
  refine ⟨?_, ?_⟩
  ·intro y0 y1 y2 y3
   unfold varint_Put.l0
   repeat' first
   | (with_reducible exact ih0 _ _ _ _)
   | (with_reducible exact ih1 _ _ _ _ _)
   | (with_reducible exact LeO.refl _)
   | (with_reducible exact LeO.none _)
   | (with_reducible refine LeO.ite ?_ ?_)
   | (with_reducible refine LeO.bind ?_ (fun _ => ?_))
   | exact ih0 _ _ _ _
   | exact ih1 _ _ _ _ _
   | exact LeO.none _
   | refine LeO.ite ?_ ?_
   | refine LeO.bind ?_ (fun _ => ?_)
  ·intro y0 y1 y2 y3 y4
   unfold varint_Put.l1
   repeat' first
   | (with_reducible exact ih0 _ _ _ _)
   | (with_reducible exact ih1 _ _ _ _ _)
   | (with_reducible exact LeO.refl _)
   | (with_reducible exact LeO.none _)
   | (with_reducible refine LeO.ite ?_ ?_)
   | (with_reducible refine LeO.bind ?_ (fun _ => ?_))
   | exact ih0 _ _ _ _
   | exact ih1 _ _ _ _ _
   | exact LeO.none _
   | refine LeO.ite ?_ ?_
   | refine LeO.bind ?_ (fun _ => ?_)
theorem varint_Put.mono : ∀ a0 k, LeO (varint_Put.f k a0) (varint_Put.f (k + 1) a0) := by
 intro a0 k
 obtain ⟨ih0, ih1⟩ := varint_Put.mono_l k
 unfold varint_Put.f
 repeat' first
   | (with_reducible exact ih0 _ _ _ _)
   | (with_reducible exact ih1 _ _ _ _ _)
   | (with_reducible exact LeO.refl _)
   | (with_reducible exact LeO.none _)
   | (with_reducible refine LeO.ite ?_ ?_)
   | (with_reducible refine LeO.bind ?_ (fun _ => ?_))
   | exact ih0 _ _ _ _
   | exact ih1 _ _ _ _ _
   | exact LeO.none _
   | refine LeO.ite ?_ ?_
   | refine LeO.bind ?_ (fun _ => ?_)
set_option maxHeartbeats 8000000 in
set_option maxRecDepth 100000 in
theorem varint_Put.calls (k : Nat) (A0 : Option Addr) (c0 : Nat) (l0 : List Int) (r : List Int) (w : World) (hr0 : Kd.C (Kd.int .u64) w A0 l0.length l0) (hc0 : l0.length ≤ c0) (h : varint_Put.f k l0 = some r) :
  Calls Try.prog 21 #[.slice A0 l0.length c0] w fun e w' => ∃ v0_ : Value, e = .returned (v0_) ∧ Kd.R (Kd.int .u8) 5 w' w.heap.size (fun _ => True) v0_ r ∧ Below w.heap.size w w' := by
 have HR0 := Am hr0
 have HC0 := Am hc0
 clear hr0 hc0
 have HB := Am (Below.refl w.heap.size w)
 have H : (varint_Put.l0 k ([] : List Int) l0 (l0.length : Int) 0) = some r := h
 clear h
 have H' := Am H
 clear H
 go_enter Try.func21, Try.ntmps21
 go_wp2
 go_loopg [3, 8] k (fun kq v3 v8 w' => ∃ (Af : List Int) (Aa : Int), v8 = .int .i64 Aa ∧ Aside0 (varint_Put.l0 kq Af l0 (l0.length : Int) Aa = some r) ∧ Aside0 (kq ≤ k) ∧ Aside0 (Kd.R (Kd.int .u8) 5 w' w.heap.size (fun _ => True) v3 Af) ∧ Aside0 (Below w.heap.size w w'))
 case atStart => exact ⟨(([] : List Int)), (0), (by first | rfl | (simp; done) | (simp [*]; done)), H', ⟨Nat.le_refl _⟩, ⟨by first | exact Kd.R_nil _ _ _ _ _ | exact Kd.N_nil _ _ _ _ _ | exact Kd.V_nil _ _ _ _ _ | exact Kd.Q_nil _ _ _ _ _ | exact Kd.S_nil _ _ _ _ _⟩, ⟨pB HB.out⟩⟩
 case round =>
  clear H'
  obtain ⟨Af, Aa, rfl, HA, HK1, Ae, HB⟩ := hrel
  cases gk with
  | zero => exact absurd HA.out (by simp [varint_Put.l0])
  | succ k1 =>
   have H := HA.out
   clear HA
   simp only [varint_Put.l0] at H
   by_cases c2 : Aa < (l0.length : Int)
   rotate_left
   ·rw [if_neg c2] at H
    have c2b0 : decide (Aa < (l0.length : Int)) = false := decide_eq_false c2
    clear c2
    obtain rfl := Option.some.inj H
    go_wp2
    go_ret
    exact ⟨_, pX, by (with_reducible repeat (first | apply Kd.R_alloc | apply Kd.R_drewN | apply Kd.R_drew)); exact Ae.out, pB HB.out⟩
   rw [if_pos c2] at H
   have c2b0 : decide (Aa < (l0.length : Int)) = true := decide_eq_true c2
   clear c2
   by_cases c3 : 0 ≤ Aa
   rotate_left
   ·rw [if_neg c3] at H
    exact absurd H (by simp)
   rw [if_pos c3] at H
   have c3b0 : decide (0 ≤ Aa) = true := decide_eq_true c3
   clear c3
   by_cases c4 : Aa < (l0.length : Int)
   rotate_left
   ·rw [if_neg c4] at H
    exact absurd H (by simp)
   rw [if_pos c4] at H
   have c4b0 : decide (Aa < (l0.length : Int)) = true := decide_eq_true c4
   clear c4
   have H' := Am H
   clear H
   have p118 : 0 ≤ (Aa : Int) := of_decide_eq_true pS
   have q118 : Aa < (l0.length : Int) := of_decide_eq_true pS
   obtain ⟨ad118, e118, Ad⟩ := Kd.at_int HR0.out Aa p118 q118
   cases e118
   replace Ad := cU HB.out Ad
   replace p118 := eq_true p118
   replace q118 := eq_true q118
   go_wp2
   go_loopg [3, 5] k1 (fun kq v3 v5 w' => ∃ (Ac : List Int) (Ab : Int), v5 = .int .u64 Ab ∧ Aside0 (varint_Put.l1 kq Ac Ab l0 (l0.length : Int) Aa = some r) ∧ Aside0 (kq ≤ k1) ∧ Aside0 (Kd.R (Kd.int .u8) 5 w' w.heap.size (fun _ => True) v3 Ac) ∧ Aside0 (Below w.heap.size w w'))
   case atStart => exact ⟨(Af), (rd l0 Aa), (by first | rfl | (simp; done) | (simp [*]; done)), H', ⟨Nat.le_refl _⟩, ⟨by (with_reducible repeat (first | apply Kd.R_alloc | apply Kd.R_drewN | apply Kd.R_drew)); exact Ae.out⟩, ⟨pB HB.out⟩⟩
   case round =>
    clear H'
    try clear p1
    try clear q1
    try clear hx1
    try clear c2
    try clear c2b0
    try clear p2
    try clear c3
    try clear c3b0
    try clear c4
    try clear c4b0
    try clear Ad
    try clear p118
    try clear q118
    obtain ⟨Ac, Ab, rfl, HA, HK2, Ae, HB⟩ := hrel
    cases gk with
    | zero => exact absurd HA.out (by simp [varint_Put.l1])
    | succ k2 =>
     have H := HA.out
     clear HA
     simp only [varint_Put.l1] at H
     by_cases c5 : Ab ≥ 128
     ·rw [if_pos c5] at H
      have c5b0 : decide (128 ≤ Ab) = true := decide_eq_true c5
      clear c5
      by_cases c6 : Ac.length < 140737488355328
      rotate_left
      ·rw [if_neg c6] at H
       exact absurd H (by simp)
      rw [if_pos c6] at H
      have LMc6 := Am c6
      clear c6
      obtain ⟨y119, hy119⟩ : ∃ y_ : List Int, y_ = (Ac ++ [Go.bits .or .u8 ((Ab) % 256) 128]) := ⟨_, rfl⟩
      replace H : (varint_Put.l1 k2 y119 (Ab / 128) l0 (l0.length : Int) Aa) = some r := by first | (rw [hy119]; with_reducible exact H) | (have H2_ := (Option.bind_some _ _).symm.trans H; rw [hy119]; with_reducible exact H2_) | (have H2_ := (Option.bind_some _ _).symm.trans H; with_reducible exact H2_) | with_reducible exact H | (rw [hy119]; exact H) | exact H
      have Ny119 := Am hy119
      clear hy119
      have H' := Am H
      clear H
      go_wp2_with (first | ((with_reducible refine gate_builtin (b := .append) (xs := #[.tmp 14, .tmp 18]) rfl ?_); at_builtin; refine Kd.R_append (Kd.int .u8) (w0 := w) w.heap.size rfl (.tmp 14) (.tmp 18) 22 5 (.int .u8 0) 1 rfl Try.underlying22 info5 rfl (by decide) (by omega) u3 Ac (Go.bits .or .u8 ((Ab) % 256) 128) [.int .u8 (Go.bits .or .u8 ((Ab) % 256) 128)] (fun _ => True) (fun _ => False) rfl rfl ?aP (fun _ hk => hk.elim) ?aF ?aO ?aB ?aS ?aL ?_; (case aP => exact rfl); (case aB => exact (pB HB.out)); (case aF => exact (fun _ _ => trivial)); (case aO => exact (pR Ae.out)); (case aS => exact (below_size (pB HB.out))); (case aL => have := LMc6.out; omega); intro v120 w7 ho hb hg hat; rw [← Ny119.out] at ho; replace HB := Am (hb); have Ag := Am (ho); clear Ae ho hb hg hat))
      go_roundg k2
      case measure => have := HK1.out; have := HK2.out; omega
      case rel => exact ⟨(y119), (Ab / 128), (by first | rfl | (simp; done) | (simp [*]; done)), H', ⟨by have := HK1.out; have := HK2.out; omega⟩, ⟨by (with_reducible repeat (first | apply Kd.R_alloc | apply Kd.R_drewN | apply Kd.R_drew)); exact Ag.out⟩, ⟨pB HB.out⟩⟩
     rw [if_neg c5] at H
     have c5b0 : decide (128 ≤ Ab) = false := decide_eq_false c5
     clear c5
     by_cases c8 : Ac.length < 140737488355328
     rotate_left
     ·rw [if_neg c8] at H
      exact absurd H (by simp)
     rw [if_pos c8] at H
     have LMc8 := Am c8
     clear c8
     obtain ⟨y122, hy122⟩ : ∃ y_ : List Int, y_ = (Ac ++ [(Ab) % 256]) := ⟨_, rfl⟩
     replace H : (varint_Put.l0 k2 y122 l0 (l0.length : Int) (wrap64 (Aa + 1))) = some r := by first | (rw [hy122]; with_reducible exact H) | (have H2_ := (Option.bind_some _ _).symm.trans H; rw [hy122]; with_reducible exact H2_) | (have H2_ := (Option.bind_some _ _).symm.trans H; with_reducible exact H2_) | with_reducible exact H | (rw [hy122]; exact H) | exact H
     have Ny122 := Am hy122
     clear hy122
     have H' := Am H
     clear H
     go_wp2_with (first | ((with_reducible refine gate_builtin (b := .append) (xs := #[.tmp 22, .tmp 25]) rfl ?_); at_builtin; refine Kd.R_append (Kd.int .u8) (w0 := w) w.heap.size rfl (.tmp 22) (.tmp 25) 22 5 (.int .u8 0) 1 rfl Try.underlying22 info5 rfl (by decide) (by omega) u3 Ac ((Ab) % 256) [.int .u8 ((Ab) % 256)] (fun _ => True) (fun _ => False) rfl rfl ?aP (fun _ hk => hk.elim) ?aF ?aO ?aB ?aS ?aL ?_; (case aP => exact rfl); (case aB => exact (pB HB.out)); (case aF => exact (fun _ _ => trivial)); (case aO => exact (pR Ae.out)); (case aS => exact (below_size (pB HB.out))); (case aL => have := LMc8.out; omega); intro v123 w9 ho hb hg hat; rw [← Ny122.out] at ho; replace HB := Am (hb); have Ah := Am (ho); clear Ae ho hb hg hat))
     go_roundg k2
     case measure => have := HK1.out; have := HK2.out; omega
     case rel => exact ⟨(y122), (wrap64 (Aa + 1)), (by first | rfl | (simp; done) | (simp [*]; done)), H', ⟨by have := HK1.out; have := HK2.out; omega⟩, ⟨by (with_reducible repeat (first | apply Kd.R_alloc | apply Kd.R_drewN | apply Kd.R_drew)); exact Ah.out⟩, ⟨pB HB.out⟩⟩
def point_Put.f (k : Nat) (a0_0 : Int) (a0_1 : Int) (a0_2 : Int) (a0_3 : Int) : Option (List Int × Int) := (point_Check.f a0_0 a0_1 a0_2 a0_3).bind fun t126 => (if t126 = 0 then ((varint_Put.f k (([IntKind.u64.wrap (a0_0), IntKind.u64.wrap (a0_1), IntKind.u64.wrap (a0_2)] : List Int))).bind fun t130 => ((some (([(a0_3) % 256, (a0_3 / 256) % 256, (a0_3 / 65536) % 256, (a0_3 / 16777216) % 256] : List Int) : List Int)).bind fun y133 => (if t130.length + y133.length < 140737488355328 then (some ((t130 ++ y133), 0)) else (none)))) else (some (([] : List Int), t126)))
theorem point_Put.mono : ∀ a0 a1 a2 a3 k, LeO (point_Put.f k a0 a1 a2 a3) (point_Put.f (k + 1) a0 a1 a2 a3) := by
 intro a0 a1 a2 a3 k
 unfold point_Put.f
 repeat' first
   | (with_reducible exact varint_Put.mono _ _)
   | (with_reducible exact LeO.refl _)
   | (with_reducible exact LeO.none _)
   | (with_reducible refine LeO.ite ?_ ?_)
   | (with_reducible refine LeO.bind ?_ (fun _ => ?_))
   | exact varint_Put.mono _ _
   | exact LeO.none _
   | refine LeO.ite ?_ ?_
   | refine LeO.bind ?_ (fun _ => ?_)
set_option maxHeartbeats 8000000 in
set_option maxRecDepth 100000 in
theorem point_Put.calls (k : Nat) (a0_0 : Int) (a0_1 : Int) (a0_2 : Int) (a0_3 : Int) (r1 : List Int) (r2 : Int) (w : World) (h : point_Put.f k a0_0 a0_1 a0_2 a0_3 = some (r1, r2)) :
  Calls Try.prog 35 #[.agg #[.int .i64 a0_0, .int .i64 a0_1, .int .i64 a0_2, .int .u32 a0_3]] w fun e w' => ∃ v0_ : Value, e = .returned (.tuple #[v0_, .int .i64 r2]) ∧ Kd.R (Kd.int .u8) 5 w' w.heap.size (fun _ => True) v0_ r1 ∧ Below w.heap.size w w' := by
 have hu38 := Try.underlying38
 have HB := Am (Below.refl w.heap.size w)
 have H : ((point_Check.f a0_0 a0_1 a0_2 a0_3).bind fun t126 => (if t126 = 0 then ((varint_Put.f k (([IntKind.u64.wrap (a0_0), IntKind.u64.wrap (a0_1), IntKind.u64.wrap (a0_2)] : List Int))).bind fun t130 => ((some (([(a0_3) % 256, (a0_3 / 256) % 256, (a0_3 / 65536) % 256, (a0_3 / 16777216) % 256] : List Int) : List Int)).bind fun y133 => (if t130.length + y133.length < 140737488355328 then (some ((t130 ++ y133), 0)) else (none)))) else (some (([] : List Int), t126)))) = some (r1, r2) := h
 clear h
 replace H := Option.bind_eq_some_iff.mp H
 obtain ⟨t126, A20, H⟩ := H
 replace H : (if t126 = 0 then ((varint_Put.f k (([IntKind.u64.wrap (a0_0), IntKind.u64.wrap (a0_1), IntKind.u64.wrap (a0_2)] : List Int))).bind fun t130 => ((some (([(a0_3) % 256, (a0_3 / 256) % 256, (a0_3 / 65536) % 256, (a0_3 / 16777216) % 256] : List Int) : List Int)).bind fun y133 => (if t130.length + y133.length < 140737488355328 then (some ((t130 ++ y133), 0)) else (none)))) else (some (([] : List Int), t126))) = some (r1, r2) := H
 have A2 := Am A20
 clear A20
 by_cases c3 : t126 = 0
 rotate_left
 ·rw [if_neg c3] at H
  have c3b0 : (t126 == 0) = false := beq_eq_false_iff_ne.mpr c3
  have c3b1 : (t126 != 0) = true := bne_iff_ne.mpr c3
  simp only [Option.some.injEq, Prod.mk.injEq] at H
  obtain ⟨rfl, rfl⟩ := H
  go_enter Try.func35, Try.ntmps35
  go_wp2_with (first | ((with_reducible refine gate_dst (N := 1) rfl ?_); refine box_event ?hg (N := 1) ?hd (cs := #[.int .i64 a0_0, .int .i64 a0_1, .int .i64 a0_2, .int .u32 a0_3]) (t := 38) ?hr ?_; (case hd => rfl); (case hg => rfl); (case hr => first | (go_simp; done) | (go_simp; rfl)); intro Af hg w19 hbox hb; have Aa := Am (hbox); have Ag := Am ((by rw [hg]; exact (below_size (pB HB.out)) : w.heap.size ≤ Af)); replace HB := Am (below_step (pB HB.out) hb); have Ab := Ag; clear hb hbox hg; obtain ⟨_, _, _, _⟩ := bc4 Aa.out; obtain ⟨_, _, _, _⟩ := bf4 Aa.out) | ((with_reducible refine gate_callee (f := 43) rfl ?_); refine goesL_ (some 7) rfl rfl Try.func43 (by kernel_rfl) rfl #[.agg #[.int .i64 a0_0, .int .i64 a0_1, .int .i64 a0_2, .int .u32 a0_3]] rfl pL ?_; (with_reducible refine (point_Check.calls a0_0 a0_1 a0_2 a0_3 t126 _ A2.out).mono ?_); rintro e w21 ⟨rfl, hb⟩; refine ⟨_, rfl, ?_⟩; replace Aa := kBa Aa hb; replace HB := Am (below_step (pE HB.out Ab.out) hb); (try clear hb); (try clear hb2); (try clear hk); (try clear hi)))
  go_ret2
  exact ⟨_, pX, by first | exact Kd.R_nil _ _ _ _ _ | exact Kd.N_nil _ _ _ _ _ | exact Kd.V_nil _ _ _ _ _ | exact Kd.Q_nil _ _ _ _ _ | exact Kd.S_nil _ _ _ _ _, pE HB.out Ab.out⟩
 rw [if_pos c3] at H
 have c3b0 : (t126 == 0) = true := beq_iff_eq.mpr c3
 have c3b1 : (t126 != 0) = false := bne_eq_false_iff_eq.mpr c3
 clear c3
 obtain ⟨y127, hy127⟩ : ∃ y_ : List Int, y_ = (([IntKind.u64.wrap (a0_0), IntKind.u64.wrap (a0_1), IntKind.u64.wrap (a0_2)] : List Int)) := ⟨_, rfl⟩
 replace H : ((varint_Put.f k y127).bind fun t130 => ((some (([(a0_3) % 256, (a0_3 / 256) % 256, (a0_3 / 65536) % 256, (a0_3 / 16777216) % 256] : List Int) : List Int)).bind fun y133 => (if t130.length + y133.length < 140737488355328 then (some ((t130 ++ y133), 0)) else (none)))) = some (r1, r2) := by first | (rw [hy127]; with_reducible exact H) | (have H2_ := (Option.bind_some _ _).symm.trans H; rw [hy127]; with_reducible exact H2_) | (have H2_ := (Option.bind_some _ _).symm.trans H; with_reducible exact H2_) | with_reducible exact H | (rw [hy127]; exact H) | exact H
 have Ny127 := Am hy127
 clear hy127
 replace H := Option.bind_eq_some_iff.mp H
 obtain ⟨t130, A40, H⟩ := H
 replace H : ((some (([(a0_3) % 256, (a0_3 / 256) % 256, (a0_3 / 65536) % 256, (a0_3 / 16777216) % 256] : List Int) : List Int)).bind fun y133 => (if t130.length + y133.length < 140737488355328 then (some ((t130 ++ y133), 0)) else (none))) = some (r1, r2) := H
 have A4 := Am A40
 clear A40
 obtain ⟨y133, hy133⟩ : ∃ y_ : List Int, y_ = (([(a0_3) % 256, (a0_3 / 256) % 256, (a0_3 / 65536) % 256, (a0_3 / 16777216) % 256] : List Int)) := ⟨_, rfl⟩
 replace H : (if t130.length + y133.length < 140737488355328 then (some ((t130 ++ y133), 0)) else (none)) = some (r1, r2) := by first | (rw [hy133]; with_reducible exact H) | (have H2_ := (Option.bind_some _ _).symm.trans H; rw [hy133]; with_reducible exact H2_) | (have H2_ := (Option.bind_some _ _).symm.trans H; with_reducible exact H2_) | with_reducible exact H | (rw [hy133]; exact H) | exact H
 have Ny133 := Am hy133
 clear hy133
 by_cases c5 : t130.length + y133.length < 140737488355328
 rotate_left
 ·rw [if_neg c5] at H
  exact absurd H (by simp)
 rw [if_pos c5] at H
 have LMc5 := Am c5
 clear c5
 obtain ⟨y136, hy136⟩ : ∃ y_ : List Int, y_ = (t130 ++ y133) := ⟨_, rfl⟩
 replace H : (some (y136, 0)) = some (r1, r2) := by first | (rw [hy136]; with_reducible exact H) | (have H2_ := (Option.bind_some _ _).symm.trans H; rw [hy136]; with_reducible exact H2_) | (have H2_ := (Option.bind_some _ _).symm.trans H; with_reducible exact H2_) | with_reducible exact H | (rw [hy136]; exact H) | exact H
 have Ny136 := Am hy136
 clear hy136
 simp only [Option.some.injEq, Prod.mk.injEq] at H
 obtain ⟨rfl, rfl⟩ := H
 go_enter Try.func35, Try.ntmps35
 go_wp2_with (first | ((with_reducible refine gate_dst (N := 1) rfl ?_); refine box_event ?hg (N := 1) ?hd (cs := #[.int .i64 a0_0, .int .i64 a0_1, .int .i64 a0_2, .int .u32 a0_3]) (t := 38) ?hr ?_; (case hd => rfl); (case hg => rfl); (case hr => first | (go_simp; done) | (go_simp; rfl)); intro Af hg w6 hbox hb; have Aa := Am (hbox); have Ag := Am ((by rw [hg]; exact (below_size (pB HB.out)) : w.heap.size ≤ Af)); replace HB := Am (below_step (pB HB.out) hb); have Ab := Ag; clear hb hbox hg; obtain ⟨_, _, _, _⟩ := bc4 Aa.out; obtain ⟨_, _, _, _⟩ := bf4 Aa.out) | ((with_reducible refine gate_callee (f := 43) rfl ?_); refine goesL_ (some 7) rfl rfl Try.func43 (by kernel_rfl) rfl #[.agg #[.int .i64 a0_0, .int .i64 a0_1, .int .i64 a0_2, .int .u32 a0_3]] rfl pL ?_; (with_reducible refine (point_Check.calls a0_0 a0_1 a0_2 a0_3 t126 _ A2.out).mono ?_); rintro e w8 ⟨rfl, hb⟩; refine ⟨_, rfl, ?_⟩; replace Aa := kBa Aa hb; replace HB := Am (below_step (pE HB.out Ab.out) hb); (try clear hb); (try clear hb2); (try clear hk); (try clear hi); obtain ⟨_, _, _, _⟩ := bc4 Aa.out; obtain ⟨_, _, _, _⟩ := bf4 Aa.out) | ((with_reducible refine gate_dst (N := 20) rfl ?_); refine Kd.R_lit (Kd.int .u64) _ 52 ?hg (N := 20) ?hd (xs := ([IntKind.u64.wrap (a0_0), IntKind.u64.wrap (a0_1), IntKind.u64.wrap (a0_2)] : List Int)) (inner := [.int .u64 (IntKind.u64.wrap (a0_0)), .int .u64 (IntKind.u64.wrap (a0_1)), .int .u64 (IntKind.u64.wrap (a0_2))]) (ok := fun _ => True) (okp := fun _ => True) ?hr ?hp (fun _ hk => hk) trivial (Below.refl _ _) (Nat.le_refl _) (by simp) ?_; (case hd => rfl); (case hg => rfl); (case hr => first | (go_simp; done) | (go_simp; rfl)); (case hp => exact (Reps.one (show Kd.M (Kd.int .u64) _ _ _ (IntKind.u64.wrap (a0_0)) [.int .u64 (IntKind.u64.wrap (a0_0))] from rfl) (Reps.one (show Kd.M (Kd.int .u64) _ _ _ (IntKind.u64.wrap (a0_1)) [.int .u64 (IntKind.u64.wrap (a0_1))] from rfl) (Reps.one (show Kd.M (Kd.int .u64) _ _ _ (IntKind.u64.wrap (a0_2)) [.int .u64 (IntKind.u64.wrap (a0_2))] from rfl) (Reps.none _ _))))); intro v128 w10 ho11 hb hg_ hnew_; clear hg_ hnew_; (first | rw [← Ny127.out] at ho11 | (simp only [Int.reduceToNat] at ho11; rw [← Ny127.out] at ho11)); have Ac := Am (Kd.R_lower ho11 (below_size (pE HB.out Ab.out))); replace Aa := kBa Aa hb; replace HB := Am (below_step (pE HB.out Ab.out) hb); clear hb ho11; obtain ⟨Ak, Al, An⟩ := Kd.R_slice Ac.out; subst An) | ((with_reducible refine gate_callee (f := 21) rfl ?_); refine goesL_ (some 21) rfl rfl Try.func21 (by kernel_rfl) rfl #[.slice Ak y127.length Al] rfl pL ?_; (with_reducible refine (varint_Put.calls k _ _ y127 t130 _ ?Ah ?Ai A4.out).mono ?_); (case Ah => exact pC (Kd.R_reads' Ac.out).2.2); (case Ai => exact (Kd.R_reads' Ac.out).2.1); rintro e w13 ⟨v131, rfl, ho0, hb⟩; refine ⟨_, rfl, ?_⟩; replace Ac := bRa Ac hb; have Ad := Am (Kd.R_lower ho0 (below_size (pE HB.out Ab.out))); replace Aa := kBa Aa hb; replace HB := Am (below_step (pE HB.out Ab.out) hb); (try clear hb); (try clear hb2); (try clear hk); (try clear hi); (try clear ho0); obtain ⟨_, _, _, _⟩ := bc4 Aa.out; obtain ⟨_, _, _, _⟩ := bf4 Aa.out) | ((with_reducible refine gate_dst (N := 38) rfl ?_); refine Kd.R_lit (Kd.int .u8) _ 5 ?hg (N := 38) ?hd (xs := ([(a0_3) % 256, (a0_3 / 256) % 256, (a0_3 / 65536) % 256, (a0_3 / 16777216) % 256] : List Int)) (inner := [.int .u8 ((a0_3) % 256), .int .u8 ((a0_3 / 256) % 256), .int .u8 ((a0_3 / 65536) % 256), .int .u8 ((a0_3 / 16777216) % 256)]) (ok := fun _ => True) (okp := fun _ => True) ?hr ?hp (fun _ hk => hk) trivial (Below.refl _ _) (Nat.le_refl _) (by simp) ?_; (case hd => rfl); (case hg => rfl); (case hr => first | (go_simp; done) | (go_simp; rfl)); (case hp => exact (Reps.one (show Kd.M (Kd.int .u8) _ _ _ ((a0_3) % 256) [.int .u8 ((a0_3) % 256)] from rfl) (Reps.one (show Kd.M (Kd.int .u8) _ _ _ ((a0_3 / 256) % 256) [.int .u8 ((a0_3 / 256) % 256)] from rfl) (Reps.one (show Kd.M (Kd.int .u8) _ _ _ ((a0_3 / 65536) % 256) [.int .u8 ((a0_3 / 65536) % 256)] from rfl) (Reps.one (show Kd.M (Kd.int .u8) _ _ _ ((a0_3 / 16777216) % 256) [.int .u8 ((a0_3 / 16777216) % 256)] from rfl) (Reps.none _ _)))))); intro v134 w15 ho16 hb hg_ hnew_; clear hg_ hnew_; (first | rw [← Ny133.out] at ho16 | (simp only [Int.reduceToNat] at ho16; rw [← Ny133.out] at ho16)); replace Ac := bRa Ac hb; have Ae := Am (Kd.R_lower (Kd.R_new' ho16 (Kd.R_lt (pR Ad.out))) (below_size (pE HB.out Ab.out))); replace Ad := Am (Kd.R_elder' (pR Ad.out) (Kd.R_base ho16) hb); replace Aa := kBa Aa hb; replace HB := Am (below_step (pE HB.out Ab.out) hb); clear hb ho16; obtain ⟨Ao, Ap, Aq⟩ := Kd.R_slice Ae.out; subst Aq) | ((with_reducible refine gate_builtin (b := .append) (xs := #[.tmp 22, .tmp 38]) rfl ?_); at_builtin; refine Kd.R_append_rows (Kd.int .u8) (w0 := w) w.heap.size rfl (.tmp 22) (.tmp 38) 22 5 (.int .u8 0) 1 rfl Try.underlying22 info5 rfl (by decide) (by omega) v131 t130 y133 _ _ _ (fun k_ => some k_ ≠ (.slice Ao y133.length Ap : Value).ownBlock) (fun _ => False) rfl rfl ?aO ?aR (fun _ _ h => h) (fun _ h => h.elim) ?aF ?aB ?aS ?aL ?_; (case aR => exact pC (Kd.R_reads' Ae.out).2.2); (case aB => exact (pE HB.out Ab.out)); (case aF => exact (fun k_ hk => Kd.fresh' (Kd.R_lt (pR Ae.out)) k_ hk)); (case aO => exact (by (with_reducible repeat (first | apply Kd.R_alloc | apply Kd.R_drewN | apply Kd.R_drew)); exact Kd.R_mono Ad.out (fun _ hk => hk.2))); (case aS => exact (below_size (pE HB.out Ab.out))); (case aL => have := LMc5.out; omega); intro v137 w17 ho hb hg hat; rw [← Ny136.out] at ho; replace Aa := Am (blk_grown (g := Af) (o := .cells #[.int .i64 a0_0, .int .i64 a0_1, .int .i64 a0_2, .int .u32 a0_3] 38 (0, 0)) (pK Aa.out) hg (Kd.R_ne Ad.out Aa.out (by decide))); replace Ac := Am (Kd.R_over' (pR Ac.out) (Kd.R_typed (pR Ad.out)) (by decide) hg); replace Ae := Am (Kd.R_after (ok := (fun _ => True)) (pR Ae.out) hg hat); replace HB := Am (hb); have Aj := Am (ho); clear Ad ho hb hg hat))
 go_ret2
 exact ⟨_, pX, by (with_reducible repeat (first | apply Kd.R_alloc | apply Kd.R_drewN | apply Kd.R_drew)); exact Kd.R_mono Aj.out (fun _ hk => trivial), pE HB.out Ab.out⟩
def cell_Put.f (k : Nat) (a0_0 : Bool) (l0_1 : List Int) (a0_2 : Int) (a0_3 : Int) (a0_4 : Int) (a0_5 : Int) : Option (List Int × Int) := (cell_Check.f a0_0 l0_1 a0_2 a0_3 a0_4 a0_5).bind fun t140 => (if t140 = 0 then (if a0_0 = true then ((point_Put.f k a0_2 a0_3 a0_4 a0_5).bind fun bt141 => ((some (([1] : List Int) : List Int)).bind fun y145 => (if y145.length + bt141.1.length < 140737488355328 then (some ((y145 ++ bt141.1), bt141.2)) else (none)))) else ((some (([0] : List Int) : List Int)).bind fun y151 => ((varint_Put.f k (([IntKind.u64.wrap ((l0_1.length : Int))] : List Int))).bind fun t157 => (if y151.length + t157.length < 140737488355328 then ((some (y151 ++ t157 : List Int)).bind fun y160 => (if y160.length + l0_1.length < 140737488355328 then (some ((y160 ++ l0_1), 0)) else (none))) else (none))))) else (some (([] : List Int), t140)))
theorem cell_Put.mono : ∀ a0 a1 a2 a3 a4 a5 k, LeO (cell_Put.f k a0 a1 a2 a3 a4 a5) (cell_Put.f (k + 1) a0 a1 a2 a3 a4 a5) := by
 intro a0 a1 a2 a3 a4 a5 k
 unfold cell_Put.f
 repeat' first
   | (with_reducible exact point_Put.mono _ _ _ _ _)
   | (with_reducible exact varint_Put.mono _ _)
   | (with_reducible exact LeO.refl _)
   | (with_reducible exact LeO.none _)
   | (with_reducible refine LeO.ite ?_ ?_)
   | (with_reducible refine LeO.bind ?_ (fun _ => ?_))
   | exact point_Put.mono _ _ _ _ _
   | exact varint_Put.mono _ _
   | exact LeO.none _
   | refine LeO.ite ?_ ?_
   | refine LeO.bind ?_ (fun _ => ?_)
set_option maxHeartbeats 8000000 in
set_option maxRecDepth 100000 in
theorem cell_Put.calls (k : Nat) (a0_0 : Bool) (A0_1 : Option Addr) (c0_1 : Nat) (l0_1 : List Int) (a0_2 : Int) (a0_3 : Int) (a0_4 : Int) (a0_5 : Int) (r1 : List Int) (r2 : Int) (w : World) (hr0_1 : Kd.C (Kd.int .u8) w A0_1 l0_1.length l0_1) (hc0_1 : l0_1.length ≤ c0_1) (h : cell_Put.f k a0_0 l0_1 a0_2 a0_3 a0_4 a0_5 = some (r1, r2)) :
  Calls Try.prog 22 #[.agg #[.bool a0_0, .slice A0_1 l0_1.length c0_1, .int .i64 a0_2, .int .i64 a0_3, .int .i64 a0_4, .int .u32 a0_5]] w fun e w' => ∃ v0_ : Value, e = .returned (.tuple #[v0_, .int .i64 r2]) ∧ Kd.R (Kd.int .u8) 5 w' w.heap.size (fun _ => True) v0_ r1 ∧ Below w.heap.size w w' := by
 have hu40 := Try.underlying40
 have hu38 := Try.underlying38
 have Ak := Am hr0_1
 have An := Am hc0_1
 clear hr0_1 hc0_1
 have HB := Am (Below.refl w.heap.size w)
 have H : ((cell_Check.f a0_0 l0_1 a0_2 a0_3 a0_4 a0_5).bind fun t140 => (if t140 = 0 then (if a0_0 = true then ((point_Put.f k a0_2 a0_3 a0_4 a0_5).bind fun bt141 => ((some (([1] : List Int) : List Int)).bind fun y145 => (if y145.length + bt141.1.length < 140737488355328 then (some ((y145 ++ bt141.1), bt141.2)) else (none)))) else ((some (([0] : List Int) : List Int)).bind fun y151 => ((varint_Put.f k (([IntKind.u64.wrap ((l0_1.length : Int))] : List Int))).bind fun t157 => (if y151.length + t157.length < 140737488355328 then ((some (y151 ++ t157 : List Int)).bind fun y160 => (if y160.length + l0_1.length < 140737488355328 then (some ((y160 ++ l0_1), 0)) else (none))) else (none))))) else (some (([] : List Int), t140)))) = some (r1, r2) := h
 clear h
 replace H := Option.bind_eq_some_iff.mp H
 obtain ⟨t140, A20, H⟩ := H
 replace H : (if t140 = 0 then (if a0_0 = true then ((point_Put.f k a0_2 a0_3 a0_4 a0_5).bind fun bt141 => ((some (([1] : List Int) : List Int)).bind fun y145 => (if y145.length + bt141.1.length < 140737488355328 then (some ((y145 ++ bt141.1), bt141.2)) else (none)))) else ((some (([0] : List Int) : List Int)).bind fun y151 => ((varint_Put.f k (([IntKind.u64.wrap ((l0_1.length : Int))] : List Int))).bind fun t157 => (if y151.length + t157.length < 140737488355328 then ((some (y151 ++ t157 : List Int)).bind fun y160 => (if y160.length + l0_1.length < 140737488355328 then (some ((y160 ++ l0_1), 0)) else (none))) else (none))))) else (some (([] : List Int), t140))) = some (r1, r2) := H
 have A2 := Am A20
 clear A20
 by_cases c3 : t140 = 0
 rotate_left
 ·rw [if_neg c3] at H
  have c3b0 : (t140 == 0) = false := beq_eq_false_iff_ne.mpr c3
  have c3b1 : (t140 != 0) = true := bne_iff_ne.mpr c3
  simp only [Option.some.injEq, Prod.mk.injEq] at H
  obtain ⟨rfl, rfl⟩ := H
  go_enter Try.func22, Try.ntmps22
  go_wp2_with (first | ((with_reducible refine gate_dst (N := 1) rfl ?_); refine box_event ?hg (N := 1) ?hd (cs := #[.bool a0_0, .slice A0_1 l0_1.length c0_1, .int .i64 a0_2, .int .i64 a0_3, .int .i64 a0_4, .int .u32 a0_5]) (t := 40) ?hr ?_; (case hd => rfl); (case hg => rfl); (case hr => first | (go_simp; done) | (go_simp; rfl)); intro Ae hg w34 hbox hb; have Aa := Am (hbox); have Aj := Am ((by rw [hg]; exact (below_size (pB HB.out)) : w.heap.size ≤ Ae)); replace HB := Am (below_step (pB HB.out) hb); have Ab := Aj; clear hb hbox hg; obtain ⟨_, _, _, _, _, _⟩ := bc6 Aa.out; obtain ⟨_, _, _, _, _, _⟩ := bf6 Aa.out) | ((with_reducible refine gate_callee (f := 34) rfl ?_); refine goesL_ (some 9) rfl rfl Try.func34 (by kernel_rfl) rfl #[.agg #[.bool a0_0, .slice A0_1 l0_1.length c0_1, .int .i64 a0_2, .int .i64 a0_3, .int .i64 a0_4, .int .u32 a0_5]] rfl pL ?_; (with_reducible refine (cell_Check.calls a0_0 _ _ l0_1 a0_2 a0_3 a0_4 a0_5 t140 _ ?Ah ?Ai A2.out).mono ?_); (case Ah => exact pC (Kd.C_below Ak.out HB.out)); (case Ai => exact An.out); rintro e w36 ⟨rfl, hb⟩; refine ⟨_, rfl, ?_⟩; replace Aa := kBa Aa hb; replace HB := Am (below_step (pE HB.out Ab.out) hb); (try clear hb); (try clear hb2); (try clear hk); (try clear hi)))
  go_ret2
  exact ⟨_, pX, by first | exact Kd.R_nil _ _ _ _ _ | exact Kd.N_nil _ _ _ _ _ | exact Kd.V_nil _ _ _ _ _ | exact Kd.Q_nil _ _ _ _ _ | exact Kd.S_nil _ _ _ _ _, pE HB.out Ab.out⟩
 rw [if_pos c3] at H
 have c3b0 : (t140 == 0) = true := beq_iff_eq.mpr c3
 have c3b1 : (t140 != 0) = false := bne_eq_false_iff_eq.mpr c3
 clear c3
 by_cases c4 : a0_0 = true
 ·subst c4
  have H1 : ((point_Put.f k a0_2 a0_3 a0_4 a0_5).bind fun bt141 => ((some (([1] : List Int) : List Int)).bind fun y145 => (if y145.length + bt141.1.length < 140737488355328 then (some ((y145 ++ bt141.1), bt141.2)) else (none)))) = some (r1, r2) := by rw [if_pos rfl] at H; exact H
  clear H
  have H := H1
  clear H1
  replace H := Option.bind_eq_some_iff.mp H
  obtain ⟨⟨t141, t144⟩, A50, H⟩ := H
  replace H : ((some (([1] : List Int) : List Int)).bind fun y145 => (if y145.length + t141.length < 140737488355328 then (some ((y145 ++ t141), t144)) else (none))) = some (r1, r2) := H
  have A5 := Am A50
  clear A50
  obtain ⟨y145, hy145⟩ : ∃ y_ : List Int, y_ = (([1] : List Int)) := ⟨_, rfl⟩
  replace H : (if y145.length + t141.length < 140737488355328 then (some ((y145 ++ t141), t144)) else (none)) = some (r1, r2) := by first | (rw [hy145]; with_reducible exact H) | (have H2_ := (Option.bind_some _ _).symm.trans H; rw [hy145]; with_reducible exact H2_) | (have H2_ := (Option.bind_some _ _).symm.trans H; with_reducible exact H2_) | with_reducible exact H | (rw [hy145]; exact H) | exact H
  have Ny145 := Am hy145
  clear hy145
  by_cases c6 : y145.length + t141.length < 140737488355328
  rotate_left
  ·rw [if_neg c6] at H
   exact absurd H (by simp)
  rw [if_pos c6] at H
  have LMc6 := Am c6
  clear c6
  obtain ⟨y148, hy148⟩ : ∃ y_ : List Int, y_ = (y145 ++ t141) := ⟨_, rfl⟩
  replace H : (some (y148, t144)) = some (r1, r2) := by first | (rw [hy148]; with_reducible exact H) | (have H2_ := (Option.bind_some _ _).symm.trans H; rw [hy148]; with_reducible exact H2_) | (have H2_ := (Option.bind_some _ _).symm.trans H; with_reducible exact H2_) | with_reducible exact H | (rw [hy148]; exact H) | exact H
  have Ny148 := Am hy148
  clear hy148
  simp only [Option.some.injEq, Prod.mk.injEq] at H
  obtain ⟨rfl, rfl⟩ := H
  go_enter Try.func22, Try.ntmps22
  go_wp2_with (first | ((with_reducible refine gate_dst (N := 1) rfl ?_); refine box_event ?hg (N := 1) ?hd (cs := #[.bool true, .slice A0_1 l0_1.length c0_1, .int .i64 a0_2, .int .i64 a0_3, .int .i64 a0_4, .int .u32 a0_5]) (t := 40) ?hr ?_; (case hd => rfl); (case hg => rfl); (case hr => first | (go_simp; done) | (go_simp; rfl)); intro Ae hg w7 hbox hb; have Aa := Am (hbox); have Aj := Am ((by rw [hg]; exact (below_size (pB HB.out)) : w.heap.size ≤ Ae)); replace HB := Am (below_step (pB HB.out) hb); have Ab := Aj; clear hb hbox hg; obtain ⟨_, _, _, _, _, _⟩ := bc6 Aa.out; obtain ⟨_, _, _, _, _, _⟩ := bf6 Aa.out) | ((with_reducible refine gate_callee (f := 34) rfl ?_); refine goesL_ (some 9) rfl rfl Try.func34 (by kernel_rfl) rfl #[.agg #[.bool true, .slice A0_1 l0_1.length c0_1, .int .i64 a0_2, .int .i64 a0_3, .int .i64 a0_4, .int .u32 a0_5]] rfl pL ?_; (with_reducible refine (cell_Check.calls true _ _ l0_1 a0_2 a0_3 a0_4 a0_5 t140 _ ?Ah ?Ai A2.out).mono ?_); (case Ah => exact pC (Kd.C_below Ak.out HB.out)); (case Ai => exact An.out); rintro e w9 ⟨rfl, hb⟩; refine ⟨_, rfl, ?_⟩; replace Aa := kBa Aa hb; replace HB := Am (below_step (pE HB.out Ab.out) hb); (try clear hb); (try clear hb2); (try clear hk); (try clear hi); obtain ⟨_, _, _, _, _, _⟩ := bc6 Aa.out; obtain ⟨_, _, _, _, _, _⟩ := bf6 Aa.out) | ((with_reducible refine gate_callee (f := 35) rfl ?_); refine goesL_ (some 18) rfl rfl Try.func35 (by kernel_rfl) rfl #[.agg #[.int .i64 a0_2, .int .i64 a0_3, .int .i64 a0_4, .int .u32 a0_5]] rfl pL ?_; (with_reducible refine (point_Put.calls k a0_2 a0_3 a0_4 a0_5 t141 t144 _ A5.out).mono ?_); rintro e w11 ⟨v142, rfl, ho0, hb⟩; refine ⟨_, rfl, ?_⟩; have Af := Am (Kd.R_lower ho0 (below_size (pE HB.out Ab.out))); replace Aa := kBa Aa hb; replace HB := Am (below_step (pE HB.out Ab.out) hb); (try clear hb); (try clear hb2); (try clear hk); (try clear hi); (try clear ho0)) | ((with_reducible refine gate_dst (N := 21) rfl ?_); refine Kd.R_lit (Kd.int .u8) _ 5 ?hg (N := 21) ?hd (xs := ([1] : List Int)) (inner := [.int .u8 1]) (ok := fun _ => True) (okp := fun _ => True) ?hr ?hp (fun _ hk => hk) trivial (Below.refl _ _) (Nat.le_refl _) (by simp) ?_; (case hd => rfl); (case hg => rfl); (case hr => first | (go_simp; done) | (go_simp; rfl)); (case hp => exact (Reps.one (show Kd.M (Kd.int .u8) _ _ _ 1 [.int .u8 1] from rfl) (Reps.none _ _))); intro v146 w12 ho13 hb hg_ hnew_; clear hg_ hnew_; (first | rw [← Ny145.out] at ho13 | (simp only [Int.reduceToNat] at ho13; rw [← Ny145.out] at ho13)); have Ao := Am (Kd.R_lower (Kd.R_new' ho13 (Kd.R_lt (pR Af.out))) (below_size (pE HB.out Ab.out))); replace Af := Am (Kd.R_elder' (pR Af.out) (Kd.R_base ho13) hb); replace Aa := kBa Aa hb; replace HB := Am (below_step (pE HB.out Ab.out) hb); clear hb ho13; obtain ⟨At, Au, Av⟩ := Kd.R_slice Af.out; subst Av) | ((with_reducible refine gate_builtin (b := .append) (xs := #[.tmp 21, .tmp 22]) rfl ?_); at_builtin; refine Kd.R_append_rows (Kd.int .u8) (w0 := w) w.heap.size rfl (.tmp 21) (.tmp 22) 22 5 (.int .u8 0) 1 rfl Try.underlying22 info5 rfl (by decide) (by omega) v146 y145 t141 _ _ _ (fun k_ => some k_ ≠ (.slice At t141.length Au : Value).ownBlock) (fun _ => False) rfl rfl ?aO ?aR (fun _ _ h => h) (fun _ h => h.elim) ?aF ?aB ?aS ?aL ?_; (case aR => exact pC (Kd.R_reads' Af.out).2.2); (case aB => exact (pE HB.out Ab.out)); (case aF => exact (fun k_ hk => Kd.fresh' (Kd.R_lt (pR Af.out)) k_ hk)); (case aO => exact (by (with_reducible repeat (first | apply Kd.R_alloc | apply Kd.R_drewN | apply Kd.R_drew)); exact Kd.R_mono Ao.out (fun _ hk => hk.2))); (case aS => exact (below_size (pE HB.out Ab.out))); (case aL => have := LMc6.out; omega); intro v149 w14 ho hb hg hat; rw [← Ny148.out] at ho; replace Aa := Am (blk_grown (g := Ae) (o := .cells #[.bool true, .slice A0_1 l0_1.length c0_1, .int .i64 a0_2, .int .i64 a0_3, .int .i64 a0_4, .int .u32 a0_5] 40 (0, 0)) (pK Aa.out) hg (Kd.R_ne Ao.out Aa.out (by decide))); replace Af := Am (Kd.R_after (ok := (fun _ => True)) (pR Af.out) hg hat); replace HB := Am (hb); have Ar := Am (ho); clear Ao ho hb hg hat))
  go_ret2
  exact ⟨_, pX, by (with_reducible repeat (first | apply Kd.R_alloc | apply Kd.R_drewN | apply Kd.R_drew)); exact Kd.R_mono Ar.out (fun _ hk => trivial), pE HB.out Ab.out⟩
 replace c4 := Bool.eq_false_iff.mpr c4
 subst c4
 have H1 : ((some (([0] : List Int) : List Int)).bind fun y151 => ((varint_Put.f k (([IntKind.u64.wrap ((l0_1.length : Int))] : List Int))).bind fun t157 => (if y151.length + t157.length < 140737488355328 then ((some (y151 ++ t157 : List Int)).bind fun y160 => (if y160.length + l0_1.length < 140737488355328 then (some ((y160 ++ l0_1), 0)) else (none))) else (none)))) = some (r1, r2) := by rw [if_neg (show ¬ (false = true) by decide)] at H; exact H
 clear H
 have H := H1
 clear H1
 obtain ⟨y151, hy151⟩ : ∃ y_ : List Int, y_ = (([0] : List Int)) := ⟨_, rfl⟩
 replace H : ((varint_Put.f k (([IntKind.u64.wrap ((l0_1.length : Int))] : List Int))).bind fun t157 => (if y151.length + t157.length < 140737488355328 then ((some (y151 ++ t157 : List Int)).bind fun y160 => (if y160.length + l0_1.length < 140737488355328 then (some ((y160 ++ l0_1), 0)) else (none))) else (none))) = some (r1, r2) := by first | (rw [hy151]; with_reducible exact H) | (have H2_ := (Option.bind_some _ _).symm.trans H; rw [hy151]; with_reducible exact H2_) | (have H2_ := (Option.bind_some _ _).symm.trans H; with_reducible exact H2_) | with_reducible exact H | (rw [hy151]; exact H) | exact H
 have Ny151 := Am hy151
 clear hy151
 obtain ⟨y154, hy154⟩ : ∃ y_ : List Int, y_ = (([IntKind.u64.wrap ((l0_1.length : Int))] : List Int)) := ⟨_, rfl⟩
 replace H : ((varint_Put.f k y154).bind fun t157 => (if y151.length + t157.length < 140737488355328 then ((some (y151 ++ t157 : List Int)).bind fun y160 => (if y160.length + l0_1.length < 140737488355328 then (some ((y160 ++ l0_1), 0)) else (none))) else (none))) = some (r1, r2) := by first | (rw [hy154]; with_reducible exact H) | (have H2_ := (Option.bind_some _ _).symm.trans H; rw [hy154]; with_reducible exact H2_) | (have H2_ := (Option.bind_some _ _).symm.trans H; with_reducible exact H2_) | with_reducible exact H | (rw [hy154]; exact H) | exact H
 have Ny154 := Am hy154
 clear hy154
 replace H := Option.bind_eq_some_iff.mp H
 obtain ⟨t157, A160, H⟩ := H
 replace H : (if y151.length + t157.length < 140737488355328 then ((some (y151 ++ t157 : List Int)).bind fun y160 => (if y160.length + l0_1.length < 140737488355328 then (some ((y160 ++ l0_1), 0)) else (none))) else (none)) = some (r1, r2) := H
 have A16 := Am A160
 clear A160
 by_cases c17 : y151.length + t157.length < 140737488355328
 rotate_left
 ·rw [if_neg c17] at H
  exact absurd H (by simp)
 rw [if_pos c17] at H
 have LMc17 := Am c17
 clear c17
 obtain ⟨y160, hy160⟩ : ∃ y_ : List Int, y_ = (y151 ++ t157) := ⟨_, rfl⟩
 replace H : (if y160.length + l0_1.length < 140737488355328 then (some ((y160 ++ l0_1), 0)) else (none)) = some (r1, r2) := by first | (rw [hy160]; with_reducible exact H) | (have H2_ := (Option.bind_some _ _).symm.trans H; rw [hy160]; with_reducible exact H2_) | (have H2_ := (Option.bind_some _ _).symm.trans H; with_reducible exact H2_) | with_reducible exact H | (rw [hy160]; exact H) | exact H
 have Ny160 := Am hy160
 clear hy160
 by_cases c18 : y160.length + l0_1.length < 140737488355328
 rotate_left
 ·rw [if_neg c18] at H
  exact absurd H (by simp)
 rw [if_pos c18] at H
 have LMc18 := Am c18
 clear c18
 obtain ⟨y163, hy163⟩ : ∃ y_ : List Int, y_ = (y160 ++ l0_1) := ⟨_, rfl⟩
 replace H : (some (y163, 0)) = some (r1, r2) := by first | (rw [hy163]; with_reducible exact H) | (have H2_ := (Option.bind_some _ _).symm.trans H; rw [hy163]; with_reducible exact H2_) | (have H2_ := (Option.bind_some _ _).symm.trans H; with_reducible exact H2_) | with_reducible exact H | (rw [hy163]; exact H) | exact H
 have Ny163 := Am hy163
 clear hy163
 simp only [Option.some.injEq, Prod.mk.injEq] at H
 obtain ⟨rfl, rfl⟩ := H
 go_enter Try.func22, Try.ntmps22
 go_wp2_with (first | ((with_reducible refine gate_dst (N := 1) rfl ?_); refine box_event ?hg (N := 1) ?hd (cs := #[.bool false, .slice A0_1 l0_1.length c0_1, .int .i64 a0_2, .int .i64 a0_3, .int .i64 a0_4, .int .u32 a0_5]) (t := 40) ?hr ?_; (case hd => rfl); (case hg => rfl); (case hr => first | (go_simp; done) | (go_simp; rfl)); intro Ae hg w19 hbox hb; have Aa := Am (hbox); have Aj := Am ((by rw [hg]; exact (below_size (pB HB.out)) : w.heap.size ≤ Ae)); replace HB := Am (below_step (pB HB.out) hb); have Ab := Aj; clear hb hbox hg; obtain ⟨_, _, _, _, _, _⟩ := bc6 Aa.out; obtain ⟨_, _, _, _, _, _⟩ := bf6 Aa.out) | ((with_reducible refine gate_callee (f := 34) rfl ?_); refine goesL_ (some 9) rfl rfl Try.func34 (by kernel_rfl) rfl #[.agg #[.bool false, .slice A0_1 l0_1.length c0_1, .int .i64 a0_2, .int .i64 a0_3, .int .i64 a0_4, .int .u32 a0_5]] rfl pL ?_; (with_reducible refine (cell_Check.calls false _ _ l0_1 a0_2 a0_3 a0_4 a0_5 t140 _ ?Ah ?Ai A2.out).mono ?_); (case Ah => exact pC (Kd.C_below Ak.out HB.out)); (case Ai => exact An.out); rintro e w21 ⟨rfl, hb⟩; refine ⟨_, rfl, ?_⟩; replace Aa := kBa Aa hb; replace HB := Am (below_step (pE HB.out Ab.out) hb); (try clear hb); (try clear hb2); (try clear hk); (try clear hi); obtain ⟨_, _, _, _, _, _⟩ := bc6 Aa.out; obtain ⟨_, _, _, _, _, _⟩ := bf6 Aa.out) | ((with_reducible refine gate_dst (N := 25) rfl ?_); refine Kd.R_lit (Kd.int .u8) _ 5 ?hg (N := 25) ?hd (xs := ([0] : List Int)) (inner := [.int .u8 0]) (ok := fun _ => True) (okp := fun _ => True) ?hr ?hp (fun _ hk => hk) trivial (Below.refl _ _) (Nat.le_refl _) (by simp) ?_; (case hd => rfl); (case hg => rfl); (case hr => first | (go_simp; done) | (go_simp; rfl)); (case hp => exact (Reps.one (show Kd.M (Kd.int .u8) _ _ _ 0 [.int .u8 0] from rfl) (Reps.none _ _))); intro v152 w23 ho24 hb hg_ hnew_; clear hg_ hnew_; (first | rw [← Ny151.out] at ho24 | (simp only [Int.reduceToNat] at ho24; rw [← Ny151.out] at ho24)); have Ac := Am (Kd.R_lower ho24 (below_size (pE HB.out Ab.out))); replace Aa := kBa Aa hb; replace HB := Am (below_step (pE HB.out Ab.out) hb); clear hb ho24; obtain ⟨_, _, _, _, _, _⟩ := bc6 Aa.out; obtain ⟨_, _, _, _, _, _⟩ := bf6 Aa.out) | ((with_reducible refine gate_dst (N := 30) rfl ?_); refine Kd.R_lit (Kd.int .u64) _ 52 ?hg (N := 30) ?hd (xs := ([IntKind.u64.wrap ((l0_1.length : Int))] : List Int)) (inner := [.int .u64 (IntKind.u64.wrap ((l0_1.length : Int)))]) (ok := fun _ => True) (okp := fun _ => True) ?hr ?hp (fun _ hk => hk) trivial (Below.refl _ _) (Nat.le_refl _) (by simp) ?_; (case hd => rfl); (case hg => rfl); (case hr => first | (go_simp; done) | (go_simp; rfl)); (case hp => exact (Reps.one (show Kd.M (Kd.int .u64) _ _ _ (IntKind.u64.wrap ((l0_1.length : Int))) [.int .u64 (IntKind.u64.wrap ((l0_1.length : Int)))] from rfl) (Reps.none _ _))); intro v155 w26 ho27 hb hg_ hnew_; clear hg_ hnew_; (first | rw [← Ny154.out] at ho27 | (simp only [Int.reduceToNat] at ho27; rw [← Ny154.out] at ho27)); replace Ac := bRa Ac hb; have Ad := Am (Kd.R_lower ho27 (below_size (pE HB.out Ab.out))); replace Aa := kBa Aa hb; replace HB := Am (below_step (pE HB.out Ab.out) hb); clear hb ho27; obtain ⟨Aw, Ax, Ay⟩ := Kd.R_slice Ad.out; subst Ay) | ((with_reducible refine gate_callee (f := 21) rfl ?_); refine goesL_ (some 31) rfl rfl Try.func21 (by kernel_rfl) rfl #[.slice Aw y154.length Ax] rfl pL ?_; (with_reducible refine (varint_Put.calls k _ _ y154 t157 _ ?Ah ?Ai A16.out).mono ?_); (case Ah => exact pC (Kd.R_reads' Ad.out).2.2); (case Ai => exact (Kd.R_reads' Ad.out).2.1); rintro e w29 ⟨v158, rfl, ho0, hb⟩; refine ⟨_, rfl, ?_⟩; replace Ad := bRa Ad hb; have Ag := Am (Kd.R_lower (Kd.R_new' ho0 (Kd.R_lt (pR Ac.out))) (below_size (pE HB.out Ab.out))); replace Ac := Am (Kd.R_elder' (pR Ac.out) (Kd.R_base ho0) hb); replace Aa := kBa Aa hb; replace HB := Am (below_step (pE HB.out Ab.out) hb); (try clear hb); (try clear hb2); (try clear hk); (try clear hi); (try clear ho0); obtain ⟨Ap, Aq, Az⟩ := Kd.R_slice Ag.out; subst Az) | ((with_reducible refine gate_builtin (b := .append) (xs := #[.tmp 25, .tmp 31]) rfl ?_); at_builtin; refine Kd.R_append_rows (Kd.int .u8) (w0 := w) w.heap.size rfl (.tmp 25) (.tmp 31) 22 5 (.int .u8 0) 1 rfl Try.underlying22 info5 rfl (by decide) (by omega) v152 y151 t157 _ _ _ (fun k_ => some k_ ≠ (.slice Ap t157.length Aq : Value).ownBlock) (fun _ => False) rfl rfl ?aO ?aR (fun _ _ h => h) (fun _ h => h.elim) ?aF ?aB ?aS ?aL ?_; (case aR => exact pC (Kd.R_reads' Ag.out).2.2); (case aB => exact (pE HB.out Ab.out)); (case aF => exact (fun k_ hk => Kd.fresh' (Kd.R_lt (pR Ag.out)) k_ hk)); (case aO => exact (by (with_reducible repeat (first | apply Kd.R_alloc | apply Kd.R_drewN | apply Kd.R_drew)); exact Kd.R_mono Ac.out (fun _ hk => hk.2))); (case aS => exact (below_size (pE HB.out Ab.out))); (case aL => have := LMc17.out; omega); intro v161 w30 ho hb hg hat; rw [← Ny160.out] at ho; replace Aa := Am (blk_grown (g := Ae) (o := .cells #[.bool false, .slice A0_1 l0_1.length c0_1, .int .i64 a0_2, .int .i64 a0_3, .int .i64 a0_4, .int .u32 a0_5] 40 (0, 0)) (pK Aa.out) hg (Kd.R_ne Ac.out Aa.out (by decide))); replace Ad := Am (Kd.R_over' (pR Ad.out) (Kd.R_typed (pR Ac.out)) (by decide) hg); replace Ag := Am (Kd.R_after (ok := (fun _ => True)) (pR Ag.out) hg hat); replace HB := Am (hb); have Al := Am (ho); clear Ac ho hb hg hat; obtain ⟨_, _, _, _, _, _⟩ := bc6 Aa.out; obtain ⟨_, _, _, _, _, _⟩ := bf6 Aa.out) | ((with_reducible refine gate_builtin (b := .append) (xs := #[.tmp 33, .tmp 35]) rfl ?_); at_builtin; refine Kd.R_append_rows (Kd.int .u8) (w0 := w) w.heap.size rfl (.tmp 33) (.tmp 35) 22 5 (.int .u8 0) 1 rfl Try.underlying22 info5 rfl (by decide) (by omega) v161 y160 l0_1 _ _ _ (fun k_ => some k_ ≠ (.slice Ap t157.length Aq : Value).ownBlock) (fun _ => False) rfl rfl ?aO ?aR (fun _ _ h => h) (fun _ h => h.elim) ?aF ?aB ?aS ?aL ?_; (case aR => exact pC (Kd.C_below Ak.out HB.out)); (case aB => exact (pE HB.out Ab.out)); (case aF => exact (fun k_ hk => Kd.fresh' (Kd.R_lt (pR Ag.out)) k_ hk)); (case aO => exact (pR Al.out)); (case aS => exact (below_size (pE HB.out Ab.out))); (case aL => have := LMc18.out; omega); intro v164 w33 ho hb hg hat; rw [← Ny163.out] at ho; replace Aa := Am (blk_grown (g := Ae) (o := .cells #[.bool false, .slice A0_1 l0_1.length c0_1, .int .i64 a0_2, .int .i64 a0_3, .int .i64 a0_4, .int .u32 a0_5] 40 (0, 0)) (pK Aa.out) hg (Kd.R_ne Al.out Aa.out (by decide))); replace Ad := Am (Kd.R_over' (pR Ad.out) (Kd.R_typed (pR Al.out)) (by decide) hg); replace Ag := Am (Kd.R_after (ok := (fun _ => True)) (pR Ag.out) hg hat); replace HB := Am (hb); have As := Am (ho); clear Al ho hb hg hat))
 go_ret2
 exact ⟨_, pX, by (with_reducible repeat (first | apply Kd.R_alloc | apply Kd.R_drewN | apply Kd.R_drew)); exact Kd.R_mono As.out (fun _ hk => trivial), pE HB.out Ab.out⟩
end Go.Proofs.Ytpplclcgkcjmpaa.PEntryReads
