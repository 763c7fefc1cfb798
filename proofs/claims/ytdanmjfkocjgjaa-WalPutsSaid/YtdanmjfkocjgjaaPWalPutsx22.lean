/- What the law reaches, as plain Lean functions, and that the machine's calls answer just that. -/
import Derived.Test.YtdanmjfkocjgjaaPWalPutsx0
import Derived.Test.YtdanmjfkocjgjaaPWalPutsx21
namespace Go.Proofs.Ytdanmjfkocjgjaa.PWalPuts
open Go.RowKit Go.Proofs.YtdanmjfkocjgjaaW.PrintWords Go.Proofs.YtdanmjfkocjgjaaW.PrintLast Go.Proofs.YtdanmjfkocjgjaaW.PrintMore
attribute [local go_sem] max2_int min2_int max_two min_two max_three min_three max_four min_four
set_option linter.unusedVariables false
set_option maxHeartbeats 8000000
set_option linter.unusedSimpArgs false
attribute [local go_sem] wrap64_l1 wrap64_l2 wrap64_l3 wrap64_l4 wrap64_l5
def garnerref06_Put.l0 : Nat → List (S52) → List Int → Int → Option (List Int)
 | 0, _, _, _ => none
 | k + 1, x0, x3, x4 => if x4 < (x0.length : Int) then (if 0 ≤ x4 then ((garnerref02_One.f k (IntKind.u64.wrap ((rd_T52 x0 x4).f1))).bind fun t623 => (if x3.length + t623.length < 140737488355328 then ((some (x3 ++ t623 : List Int)).bind fun y626 => (if y626.length < 140737488355328 then ((some (y626 ++ [((rd_T52 x0 x4).f2) % 256] : List Int)).bind fun y629 => ((garnerref02_One.f k (IntKind.u64.wrap ((((rd_T52 x0 x4).f3).size : Int)))).bind fun t632 => (if y629.length + t632.length < 140737488355328 then ((some (y629 ++ t632 : List Int)).bind fun y635 => (if y635.length + ((rd_T52 x0 x4).f3).size < 140737488355328 then ((some (y635 ++ bytesOf ((rd_T52 x0 x4).f3) : List Int)).bind fun y638 => (if ((rd_T52 x0 x4).f2) = 2 then (garnerref06_Put.l0 k x0 y638 (wrap64 (x4 + 1))) else ((garnerref05_Put.f k ((rd_T52 x0 x4).f4.f0) ((rd_T52 x0 x4).f4.f1) ((rd_T52 x0 x4).f4.f2.f0) ((rd_T52 x0 x4).f4.f2.f1) ((rd_T52 x0 x4).f4.f2.f2) ((rd_T52 x0 x4).f4.f2.f3)).bind fun t641 => (if y638.length + t641.length < 140737488355328 then (garnerref06_Put.l0 k x0 (y638 ++ t641) (wrap64 (x4 + 1))) else (none))))) else (none))) else (none)))) else (none))) else (none))) else (none)) else (some x3)
def garnerref06_Put.f (k : Nat) (l0 : List (S52)) : Option (List Int) := if 0 < (l0.length : Int) then ((garnerref02_Put.f k (([IntKind.u64.wrap ((l0.length : Int)), IntKind.u64.wrap ((rd_T52 l0 0).f0)] : List Int))).bind fun t618 => (garnerref06_Put.l0 k l0 t618 0)) else (none)
theorem garnerref06_Put.mono_l : ∀ k, (∀ y0 y1 y2, LeO (garnerref06_Put.l0 k y0 y1 y2) (garnerref06_Put.l0 (k + 1) y0 y1 y2))
 | 0 => fun _ _ _ r h => by simp [garnerref06_Put.l0] at h
 | k + 1 => by
  have ih0 := garnerref06_Put.mono_l k
  ·intro y0 y1 y2
   unfold garnerref06_Put.l0
   repeat' (with_reducible first | exact ih0 .. | exact garnerref02_One.mono .. | exact garnerref02_Put.mono .. | exact garnerref05_Put.mono .. | exact LeO.refl .. | exact LeO.none .. | refine LeO.ite ?_ ?_ | refine LeO.bind ?_ (fun _ => ?_))
theorem garnerref06_Put.mono : ∀ a0 k, LeO (garnerref06_Put.f k a0) (garnerref06_Put.f (k + 1) a0) := by
 intro a0 k
 have ih0 := garnerref06_Put.mono_l k
 unfold garnerref06_Put.f
 repeat' (with_reducible first | exact ih0 .. | exact garnerref02_One.mono .. | exact garnerref02_Put.mono .. | exact garnerref05_Put.mono .. | exact LeO.refl .. | exact LeO.none .. | refine LeO.ite ?_ ?_ | refine LeO.bind ?_ (fun _ => ?_))
def garnerref06_Put.T7 : Bool × List (List Nat × List Nat) := (true, [([], []), ([], []), ([1], [1]), ([2], [2]), ([3], [3]), ([0, 4], [0, 4]), ([], []), ([6], [6]), ([7], [7]), ([8], [8]), ([9, 5], [9]), ([5, 10, 10], [5, 10]), ([11, 11, 0, 1, 2, 3, 4, 5, 6, 7, 8, 9, 10, 11], [0, 11])])
def garnerref06_Put.B7 : List Nat := [0, 0, 2, 6, 14, 31, 0, 64, 192, 448, 1023, 2047, 4095]
theorem garnerref06_Put.tab7 : rtab .any (opsOf Try.f34 7) = garnerref06_Put.T7 := by kernel_rfl
theorem garnerref06_Put.bits7 : waitsOk garnerref06_Put.T7.2 garnerref06_Put.B7 = true := by kernel_rfl
set_option maxRecDepth 100000 in
theorem garnerref06_Put.calls (k : Nat) (A0 : Option Addr) (c0 : Nat) (l0 : List (S52)) (r : List Int) (w : World) (hr0 : Kd.C k52 w A0 l0.length l0) (hc0 : l0.length ≤ c0) (h : garnerref06_Put.f k l0 = some r) :
 Calls Try.prog 34 #[.slice A0 l0.length c0] w fun e w' => ∃ v0_ : Value, e = .returned (v0_) ∧ Kd.R (Kd.int .u8) 5 w' w.heap.size (fun _ => True) v0_ r ∧ Below w.heap.size w w' := by
 have hu52 := Try.underlying52
 have hu50 := Try.underlying50
 have HR0 := Am hr0
 have HC0 := Am hc0
 clear hr0 hc0
 have HB := Am (Below.refl w.heap.size w)
 unfold garnerref06_Put.f at h
 have H := h
 clear h
 obtain ⟨c2, H⟩ := zI H
 have c2b0 := decide_eq_true c2
 have c2b1 : decide (0 < l0.length) = true := decide_eq_true (by omega)
 clear c2
 obtain ⟨y615, hy615⟩ : ∃ y_ : List Int, y_ = (([IntKind.u64.wrap ((l0.length : Int)), IntKind.u64.wrap ((rd_T52 l0 0).f0)] : List Int)) := ⟨_, rfl⟩
 replace H : ((garnerref02_Put.f k y615).bind fun t618 => (garnerref06_Put.l0 k l0 t618 0)) = some r := zy hy615 H
 have Ny615 := Am hy615
 clear hy615
 obtain ⟨t618, A3, H⟩ := zb H
 have H' := Am H
 clear H
 have p614 : 0 ≤ (0 : Int) := (by omega)
 have q614 : 0 < (l0.length : Int) := of_decide_eq_true pS
 obtain ⟨Bu, A614_5, c614_5, e614, Ao, Ap, Aq, Ar, As, At, Au, Av, Aw, Ax, A8, A9⟩ := at_T52 HR0.out 0 p614 q614
 cases e614
 have qi614 : (0 < l0.length) = True := eq_true (by omega)
 (try simp only [tz, show 0 * 10 = 0 from rfl, Addr.add_zero'] at Ao Ap Aq Ar As At Au Av Aw Ax)
 have HR614_5 := Am A9
 have HC614_5 := Am A8
 clear A9 A8
 replace p614 := eq_true p614
 replace q614 := eq_true q614
 go_enter Try.func34, Try.ntmps34
 go_wp2_with (first | ((with_reducible refine zD 14 rfl ?_); refine Kd.R_lit (Kd.int .u64) _ 61 ?hg (N := 14) ?hd (xs := ([IntKind.u64.wrap ((l0.length : Int)), IntKind.u64.wrap ((rd_T52 l0 0).f0)] : List Int)) (inner := [.int .u64 (IntKind.u64.wrap ((l0.length : Int))), .int .u64 (IntKind.u64.wrap ((rd_T52 l0 0).f0))]) (ok := fun _ => True) (okp := fun _ => True) ?hr ?hp (fun _ hk => hk) trivial (Below.refl _ _) (Nat.le_refl _) (by simp) ?_; (case hd => rfl); (case hg => rfl); (case hr => first | (go_simp; done) | (go_simp; rfl)); (case hp => exact (Reps.one (show Kd.M (Kd.int .u64) _ _ _ (IntKind.u64.wrap ((l0.length : Int))) [.int .u64 (IntKind.u64.wrap ((l0.length : Int)))] from rfl) (Reps.one (show Kd.M (Kd.int .u64) _ _ _ (IntKind.u64.wrap ((rd_T52 l0 0).f0)) [.int .u64 (IntKind.u64.wrap ((rd_T52 l0 0).f0))] from rfl) (Reps.none _ _)))); intro v616 w4 ho5 hb hg_ hnew_; clear hg_ hnew_; (first | rw [← Ny615.out] at ho5 | (simp only [Int.reduceToNat] at ho5; rw [← Ny615.out] at ho5)); have A4 := Am (Kd.R_lower ho5 (below_size (pB HB.out))); replace HB := zB HB hb; clear hb ho5; obtain ⟨B4, B5, B6⟩ := Kd.R_slice A4.out; subst B6) | ((with_reducible refine zC 57 rfl ?_); refine zL (some 15) Try.func57 #[.slice B4 y615.length B5] ?_; (with_reducible refine (garnerref02_Put.calls k _ _ y615 t618 _ ?Be ?Bf A3.out).mono ?_); (case Be => exact pC (Kd.R_reads' A4.out).2.2); (case Bf => exact (Kd.R_reads' A4.out).2.1); rintro e w7 ⟨v619, rfl, ho0, hb⟩; refine ⟨_, rfl, ?_⟩; replace A4 := bRa A4 hb; have Bz := Am (Kd.R_lower ho0 (below_size (pB HB.out))); replace HB := zB HB hb; (try clear hb); (try clear ho0)))
 go_loopg [3, 4] k (fun kq v3 v4 w' => ∃ (Az : List Int) (Aa : Int), v4 = .int .i64 Aa ∧ Aside0 (garnerref06_Put.l0 kq l0 Az Aa = some r) ∧ Aside0 (kq ≤ k) ∧ Aside0 (Kd.R (Kd.int .u8) 5 w' w.heap.size (fun _ => True) v3 Az) ∧ Aside0 (Below w.heap.size w w'))
 case atStart => exact ⟨(t618), (0), zr, H', ⟨Nat.le_refl _⟩, ⟨by (with_reducible repeat (first | apply Kd.R_alloc | apply Kd.R_drewN | apply Kd.R_drew)); exact Bz.out⟩, ⟨pB HB.out⟩⟩
 case round =>
  clear H'
  try clear c2
  try clear c2b0
  try clear c2b1
  try clear p2
  try clear c3
  try clear c5
  try clear c6
  try clear p6
  try clear q6
  try clear hx6
  try clear qi6
  try clear Ao
  try clear Ap
  try clear Aq
  try clear Ar
  try clear As
  try clear At
  try clear Au
  try clear Av
  try clear Aw
  try clear Ax
  try clear p614
  try clear q614
  obtain ⟨Az, Aa, rfl, HA, HK1, Aj, HB⟩ := hrel
  cases gk with
  | zero => exact absurd HA.out (by simp [garnerref06_Put.l0])
  | succ k1 =>
   have H := HA.out
   clear HA
   simp only [garnerref06_Put.l0] at H
   by_cases c8 : Aa < (l0.length : Int)
   rotate_left
   ·rw [if_neg c8] at H
    have c8b0 := decide_eq_false c8
    clear c8
    obtain rfl := Option.some.inj H
    go_wp2
    go_ret
    exact ⟨_, pX, by (with_reducible repeat (first | apply Kd.R_alloc | apply Kd.R_drewN | apply Kd.R_drew)); exact Aj.out, pB HB.out⟩
   rw [if_pos c8] at H
   have c8b0 := decide_eq_true c8
   clear c8
   obtain ⟨c9, H⟩ := zI H
   have c9b0 := decide_eq_true c9
   clear c9
   obtain ⟨t623, A10, H⟩ := zb H
   obtain ⟨c11, H⟩ := zI H
   have LMc11 := Am c11
   clear c11
   obtain ⟨y626, hy626⟩ : ∃ y_ : List Int, y_ = (Az ++ t623) := ⟨_, rfl⟩
   replace H : (if y626.length < 140737488355328 then ((some (y626 ++ [((rd_T52 l0 Aa).f2) % 256] : List Int)).bind fun y629 => ((garnerref02_One.f k1 (IntKind.u64.wrap ((((rd_T52 l0 Aa).f3).size : Int)))).bind fun t632 => (if y629.length + t632.length < 140737488355328 then ((some (y629 ++ t632 : List Int)).bind fun y635 => (if y635.length + ((rd_T52 l0 Aa).f3).size < 140737488355328 then ((some (y635 ++ bytesOf ((rd_T52 l0 Aa).f3) : List Int)).bind fun y638 => (if ((rd_T52 l0 Aa).f2) = 2 then (garnerref06_Put.l0 k1 l0 y638 (wrap64 (Aa + 1))) else ((garnerref05_Put.f k1 ((rd_T52 l0 Aa).f4.f0) ((rd_T52 l0 Aa).f4.f1) ((rd_T52 l0 Aa).f4.f2.f0) ((rd_T52 l0 Aa).f4.f2.f1) ((rd_T52 l0 Aa).f4.f2.f2) ((rd_T52 l0 Aa).f4.f2.f3)).bind fun t641 => (if y638.length + t641.length < 140737488355328 then (garnerref06_Put.l0 k1 l0 (y638 ++ t641) (wrap64 (Aa + 1))) else (none))))) else (none))) else (none)))) else (none)) = some r := zy hy626 H
   have Ny626 := Am hy626
   clear hy626
   obtain ⟨c12, H⟩ := zI H
   have LMc12 := Am c12
   clear c12
   obtain ⟨y629, hy629⟩ : ∃ y_ : List Int, y_ = (y626 ++ [((rd_T52 l0 Aa).f2) % 256]) := ⟨_, rfl⟩
   replace H : ((garnerref02_One.f k1 (IntKind.u64.wrap ((((rd_T52 l0 Aa).f3).size : Int)))).bind fun t632 => (if y629.length + t632.length < 140737488355328 then ((some (y629 ++ t632 : List Int)).bind fun y635 => (if y635.length + ((rd_T52 l0 Aa).f3).size < 140737488355328 then ((some (y635 ++ bytesOf ((rd_T52 l0 Aa).f3) : List Int)).bind fun y638 => (if ((rd_T52 l0 Aa).f2) = 2 then (garnerref06_Put.l0 k1 l0 y638 (wrap64 (Aa + 1))) else ((garnerref05_Put.f k1 ((rd_T52 l0 Aa).f4.f0) ((rd_T52 l0 Aa).f4.f1) ((rd_T52 l0 Aa).f4.f2.f0) ((rd_T52 l0 Aa).f4.f2.f1) ((rd_T52 l0 Aa).f4.f2.f2) ((rd_T52 l0 Aa).f4.f2.f3)).bind fun t641 => (if y638.length + t641.length < 140737488355328 then (garnerref06_Put.l0 k1 l0 (y638 ++ t641) (wrap64 (Aa + 1))) else (none))))) else (none))) else (none))) = some r := zy hy629 H
   have Ny629 := Am hy629
   clear hy629
   obtain ⟨t632, A13, H⟩ := zb H
   obtain ⟨c14, H⟩ := zI H
   have LMc14 := Am c14
   clear c14
   obtain ⟨y635, hy635⟩ : ∃ y_ : List Int, y_ = (y629 ++ t632) := ⟨_, rfl⟩
   replace H : (if y635.length + ((rd_T52 l0 Aa).f3).size < 140737488355328 then ((some (y635 ++ bytesOf ((rd_T52 l0 Aa).f3) : List Int)).bind fun y638 => (if ((rd_T52 l0 Aa).f2) = 2 then (garnerref06_Put.l0 k1 l0 y638 (wrap64 (Aa + 1))) else ((garnerref05_Put.f k1 ((rd_T52 l0 Aa).f4.f0) ((rd_T52 l0 Aa).f4.f1) ((rd_T52 l0 Aa).f4.f2.f0) ((rd_T52 l0 Aa).f4.f2.f1) ((rd_T52 l0 Aa).f4.f2.f2) ((rd_T52 l0 Aa).f4.f2.f3)).bind fun t641 => (if y638.length + t641.length < 140737488355328 then (garnerref06_Put.l0 k1 l0 (y638 ++ t641) (wrap64 (Aa + 1))) else (none))))) else (none)) = some r := zy hy635 H
   have Ny635 := Am hy635
   clear hy635
   obtain ⟨c15, H⟩ := zI H
   have LMc15 := Am c15
   clear c15
   obtain ⟨y638, hy638⟩ : ∃ y_ : List Int, y_ = (y635 ++ bytesOf ((rd_T52 l0 Aa).f3)) := ⟨_, rfl⟩
   replace H : (if ((rd_T52 l0 Aa).f2) = 2 then (garnerref06_Put.l0 k1 l0 y638 (wrap64 (Aa + 1))) else ((garnerref05_Put.f k1 ((rd_T52 l0 Aa).f4.f0) ((rd_T52 l0 Aa).f4.f1) ((rd_T52 l0 Aa).f4.f2.f0) ((rd_T52 l0 Aa).f4.f2.f1) ((rd_T52 l0 Aa).f4.f2.f2) ((rd_T52 l0 Aa).f4.f2.f3)).bind fun t641 => (if y638.length + t641.length < 140737488355328 then (garnerref06_Put.l0 k1 l0 (y638 ++ t641) (wrap64 (Aa + 1))) else (none)))) = some r := zy hy638 H
   have Ny638 := Am hy638
   clear hy638
   by_cases c16 : ((rd_T52 l0 Aa).f2) = 2
   ·rw [if_pos c16] at H
    obtain ⟨c16b0, c16b1⟩ := zc c16
    clear c16
    have H' := Am H
    clear H
    have p621 : 0 ≤ (Aa : Int) := of_decide_eq_true pS
    have q621 : Aa < (l0.length : Int) := of_decide_eq_true pS
    obtain ⟨Bg, Ag, c621_5, e621, Bk, Bl, Bm, Bn, Bo, Bp, Bq, Br, Bs, Bt, Ak, Al⟩ := at_T52u HR0.out Aa p621 q621 HB.out
    obtain rfl : Bu = Bg := (by injection e621)
    have Ba := Am Al
    have Bb := Am Ak
    clear Al Ak
    replace p621 := eq_true p621
    replace q621 := eq_true q621
    try go_wp2_with (first | ((with_reducible refine zD 5 rfl ?_); refine zE 5 #[.int .i64 0, .int .i64 0, .int .i64 0, .string (⟨#[]⟩ : ByteArray), .bool false, .slice none 0 0, .int .i64 0, .int .i64 0, .int .i64 0, .int .u32 0] 52 ?_; intro Af hg w17 hbox hb; replace Aj := bRa Aj hb; have Ab := Am (hbox); have Bh := zA hg HB; replace HB := zB HB hb; have Ad := Bh; clear hb hbox hg; obtain ⟨_, _, _, _, _, _, _, _, _, _⟩ := bc10 Ab.out; obtain ⟨_, _, _, _, _, _, _, _, _, _⟩ := bf10 Ab.out) | ((with_reducible refine zC 36 rfl ?_); refine zL (some 30) Try.func36 #[.int .u64 (IntKind.u64.wrap ((rd_T52 l0 Aa).f1))] ?_; (with_reducible refine (garnerref02_One.calls k1 (IntKind.u64.wrap ((rd_T52 l0 Aa).f1)) t623 _ A10.out).mono ?_); rintro e w19 ⟨v624, rfl, ho0, hb⟩; refine ⟨_, rfl, ?_⟩; have Ac := Am (Kd.R_lower (Kd.R_new' ho0 (Kd.R_lt (by (with_reducible repeat (first | apply Kd.R_alloc | apply Kd.R_drewN | apply Kd.R_drew)); exact (Kd.R_mono (Rf10 (g := Af) (Kd.R_types Aj.out Ab.out (by decide)) (fun _ hk => hk.2)) (fun _ h_ => h_.1))))) (below_size (pE HB.out Ad.out))); replace Aj := Am (Kd.R_elder' (by (with_reducible repeat (first | apply Kd.R_alloc | apply Kd.R_drewN | apply Kd.R_drew)); exact (Kd.R_mono (Rf10 (g := Af) (Kd.R_types Aj.out Ab.out (by decide)) (fun _ hk => hk.2)) (fun _ h_ => h_.1))) (Kd.R_base ho0) hb); replace Ab := Am (blk_below (g := Af) (kX0 Ab.out) hb); replace HB := zX1 HB Ad.out hb; (try clear hb); (try clear hk); (try clear ho0); obtain ⟨Bc, Bd, B1⟩ := Kd.R_slice Ac.out; subst B1) | ((with_reducible refine gate_builtin (b := .append) (xs := #[.tmp 26, .tmp 30]) rfl ?_); at_builtin; refine Kd.R_append_rows (Kd.int .u8) (w0 := w) w.heap.size rfl (.tmp 26) (.tmp 30) 22 5 (.int .u8 0) 1 rfl Try.underlying22 info5 rfl (by decide) (by omega) u3 Az t623 _ _ _ (fun k_ => some k_ ≠ (.slice Bc t623.length Bd : Value).ownBlock) (fun _ => False) rfl rfl ?aO ?aR (fun _ _ h => h) (fun _ h => h.elim) ?aF ?aB ?aS ?aL ?_; (case aR => exact pC (Kd.R_reads' Ac.out).2.2); (case aB => exact (pE HB.out Ad.out)); (case aF => exact (fun k_ hk => Kd.fresh' (Kd.R_lt (pR Ac.out)) k_ hk)); (case aO => exact (by (with_reducible repeat (first | apply Kd.R_alloc | apply Kd.R_drewN | apply Kd.R_drew)); exact Kd.R_mono Aj.out (fun _ hk => hk.2))); (case aS => exact (below_size (pE HB.out Ad.out))); (case aL => have := LMc11.out; omega); intro v627 w20 ho hb hg hat; rw [← Ny626.out] at ho; replace Ab := Am (blk_grown (g := Af) (o := .cells #[.int .i64 ((rd_T52 l0 Aa).f0), .int .i64 ((rd_T52 l0 Aa).f1), .int .i64 ((rd_T52 l0 Aa).f2), .string ((rd_T52 l0 Aa).f3), .bool ((rd_T52 l0 Aa).f4.f0), .slice Ag ((rd_T52 l0 Aa).f4.f1).length c621_5, .int .i64 ((rd_T52 l0 Aa).f4.f2.f0), .int .i64 ((rd_T52 l0 Aa).f4.f2.f1), .int .i64 ((rd_T52 l0 Aa).f4.f2.f2), .int .u32 ((rd_T52 l0 Aa).f4.f2.f3)] 52 (0, 0)) (pK Ab.out) hg (Kd.R_ne Aj.out Ab.out (by decide))); replace Ac := Am (Kd.R_after (ok := (fun _ => True)) (pR Ac.out) hg hat); replace HB := Am (hb); have Ah := Am (ho); clear Aj ho hb hg hat))
    replace Ac := dRa Ac
    replace Ah := dRa Ah
    replace Ab := kDa Ab
    replace HB := bDa HB
    refine start_ (n := 13) (S := fun w' => cG w' Af 2 (.int .i64 ((rd_T52 l0 Aa).f2)) ∧ cG w' Af 3 (.string ((rd_T52 l0 Aa).f3))) (ds := []) #[false, false, false, false, false, false, false, false, false, false, false, false, false] (by kernel_rfl) rfl rfl ⟨(blk_cell Ab.out 2).trans rfl, (blk_cell Ab.out 3).trans rfl⟩ (fun hHeld => ?_); refine with_tabW garnerref06_Put.tab7 garnerref06_Put.bits7 (fun HT_ HW_ => ?_)
    generalize w20.drew = w22 at Ac Ah Ab HB hHeld ⊢
    refine pui 0 32 13 1 HT_ ?_
    refine zp 1 (h := zp 6 (h := zw 2 (h := zp 3 (h := zw 7 (h := zp 8 (h := zp 9 (h := ?_)))))))
    refine onei 4 36 13 991 HT_ (fun K hK => ?_)
    refine value_ (w1 := ?_) (v := ?_) (by rfl) rfl ?_ ?_
    rotate_left 2
    ·go_simp
     constructor
     ·rfl
     rfl
    refine hK.out _ _ ⟨(blk_cell (blk_alloc Ab.out _) 2).trans rfl, (blk_cell (blk_alloc Ab.out _) 3).trans rfl⟩ (fun hHeld => ?_)
    clear hK K
    refine norm_ (a' := ?_) ?_ ?_
    rotate_left
    ·show Act.put _ (some 36) _ = _
     simp only [Act.put, List.setIfInBounds_toArray, List.set_cons_zero, List.set_cons_succ, i64_w, i32_w]
     rfl
    refine onei 5 37 13 1023 HT_ (fun K hK => ?_)
    refine Kd.R_append_step (Kd.int .u8) (w0 := w) w.heap.size (by rfl) (.tmp 32) (.tmp 36) 22 5 (.int .u8 0) 1 rfl Try.underlying22 info5 rfl (by decide) (by omega) v627 y626 (((rd_T52 l0 Aa).f2) % 256) [.int .u8 (((rd_T52 l0 Aa).f2) % 256)] (fun k_ => some k_ ≠ (.slice Bc t623.length Bd : Value).ownBlock) (fun _ => False) rfl rfl ?aP (fun _ hk => hk.elim) ?aF ?aO ?aB ?aS ?aL ?_
    (case aP => exact rfl)
    (case aB => exact (pE HB.out Ad.out))
    (case aF => exact (fun k_ hk => Kd.fresh' (Kd.R_lt (pR Ac.out)) k_ hk))
    (case aO => exact (pR Ah.out))
    (case aS => exact (below_size (pE HB.out Ad.out)))
    (case aL => have := LMc12.out; omega)
    intro v630 w23 ho hb hg hat
    rw [← Ny629.out] at ho
    replace Ab := Am (blk_grown (g := Af) (o := .cells #[.int .i64 ((rd_T52 l0 Aa).f0), .int .i64 ((rd_T52 l0 Aa).f1), .int .i64 ((rd_T52 l0 Aa).f2), .string ((rd_T52 l0 Aa).f3), .bool ((rd_T52 l0 Aa).f4.f0), .slice Ag ((rd_T52 l0 Aa).f4.f1).length c621_5, .int .i64 ((rd_T52 l0 Aa).f4.f2.f0), .int .i64 ((rd_T52 l0 Aa).f4.f2.f1), .int .i64 ((rd_T52 l0 Aa).f4.f2.f2), .int .u32 ((rd_T52 l0 Aa).f4.f2.f3)] 52 (0, 0)) (pK Ab.out) hg (Kd.R_ne Ah.out Ab.out (by decide)))
    replace Ac := Am (Kd.R_after (ok := (fun _ => True)) (pR Ac.out) hg hat)
    replace HB := Am (hb)
    have Ai := Am (ho)
    clear Ah
    clear ho hb hg hat
    refine hK.out _ _ ⟨(blk_cell Ab.out 2).trans rfl, (blk_cell Ab.out 3).trans rfl⟩ (fun hHeld => ?_)
    clear hK K
    refine norm_ (a' := ?_) ?_ ?_
    rotate_left
    ·show Act.put _ (some 37) _ = _
     simp only [Act.put, List.setIfInBounds_toArray, List.set_cons_zero, List.set_cons_succ, i64_w, i32_w]
     rfl
    refine onei 10 42 13 2047 HT_ (fun K hK => ?_)
    refine goes_ Try.func36 (by kernel_rfl) rfl #[.int .u64 (IntKind.u64.wrap ((((rd_T52 l0 Aa).f3).size : Int)))] (by rfl) rfl rfl pL ?_
    with_reducible refine (garnerref02_One.calls k1 (IntKind.u64.wrap ((((rd_T52 l0 Aa).f3).size : Int))) t632 _ A13.out).mono ?_
    rintro e w24 ⟨v633, rfl, ho0, hb⟩
    refine ⟨_, rfl, ?_⟩
    have Ae := Am (Kd.R_lower (Kd.R_new' (Kd.R_new' ho0 (Kd.R_lt (pR Ac.out))) (Kd.R_lt (pR Ai.out))) (below_size (pE HB.out Ad.out)))
    replace Ac := Am (Kd.R_elder' (pR Ac.out) (Kd.R_base ho0) hb)
    replace Ai := Am (Kd.R_elder' (pR Ai.out) (Kd.R_base ho0) hb)
    replace Ab := kBa Ab hb
    replace HB := zX1 HB Ad.out hb
    (try clear hb)
    (try clear hb2)
    (try clear hk)
    (try clear hi)
    (try clear ho0)
    obtain ⟨Bi, Bj, Bx⟩ := Kd.R_slice Ae.out
    (first | subst Bx | (injection Bx with f1_ f2_ f3_; have f4_ := f1_.symm; have f5_ := f3_.symm; clear f1_ f2_ f3_; subst f4_; subst f5_))
    refine hK.out _ _ ⟨(blk_cell Ab.out 2).trans rfl, (blk_cell Ab.out 3).trans rfl⟩ (fun hHeld => ?_)
    clear hK K
    refine norm_ (a' := ?_) ?_ ?_
    rotate_left
    ·show Act.put _ (some 42) _ = _
     simp only [Act.put, List.setIfInBounds_toArray, List.set_cons_zero, List.set_cons_succ, i64_w, i32_w]
     rfl
    refine onei 11 43 13 4095 HT_ (fun K hK => ?_)
    refine Kd.R_append_rows_step (Kd.int .u8) (w0 := w) w.heap.size (by rfl) (.tmp 37) (.tmp 42) 22 5 (.int .u8 0) 1 rfl Try.underlying22 info5 rfl (by decide) (by omega) v630 y629 t632 _ _ _ (fun k_ => some k_ ≠ (.slice Bc t623.length Bd : Value).ownBlock ∧ some k_ ≠ (.slice Bi t632.length Bj : Value).ownBlock) (fun _ => False) rfl rfl ?aO ?aR (fun _ _ h => h) (fun _ h => h.elim) ?aF ?aB ?aS ?aL ?_
    (case aR => exact pC (Kd.R_reads' Ae.out).2.2)
    (case aB => exact (pE HB.out Ad.out))
    (case aF => exact (fun k_ hk => ⟨Kd.fresh' (Kd.R_lt (pR Ac.out)) k_ hk, Kd.fresh' (Kd.R_lt (pR Ae.out)) k_ hk⟩))
    (case aO => exact (pR Ai.out))
    (case aS => exact (below_size (pE HB.out Ad.out)))
    (case aL => have := LMc14.out; omega)
    intro v636 w25 ho hb hg hat
    rw [← Ny635.out] at ho
    replace Ab := Am (blk_grown (g := Af) (o := .cells #[.int .i64 ((rd_T52 l0 Aa).f0), .int .i64 ((rd_T52 l0 Aa).f1), .int .i64 ((rd_T52 l0 Aa).f2), .string ((rd_T52 l0 Aa).f3), .bool ((rd_T52 l0 Aa).f4.f0), .slice Ag ((rd_T52 l0 Aa).f4.f1).length c621_5, .int .i64 ((rd_T52 l0 Aa).f4.f2.f0), .int .i64 ((rd_T52 l0 Aa).f4.f2.f1), .int .i64 ((rd_T52 l0 Aa).f4.f2.f2), .int .u32 ((rd_T52 l0 Aa).f4.f2.f3)] 52 (0, 0)) (pK Ab.out) hg (Kd.R_ne Ai.out Ab.out (by decide)))
    replace Ac := Am (Kd.R_after (ok := (fun k_ => some k_ ≠ (.slice Bi t632.length Bj : Value).ownBlock)) (by (with_reducible repeat (first | apply Kd.R_alloc | apply Kd.R_drewN | apply Kd.R_drew)); exact Kd.R_mono Ac.out (fun _ hk => ⟨hk.2, hk.1.2⟩)) hg hat)
    replace Ae := Am (Kd.R_after (ok := (fun k_ => some k_ ≠ (.slice Bc t623.length Bd : Value).ownBlock)) (by (with_reducible repeat (first | apply Kd.R_alloc | apply Kd.R_drewN | apply Kd.R_drew)); exact Kd.R_mono Ae.out (fun _ hk => ⟨hk.1.2, hk.2⟩)) hg hat)
    replace HB := Am (hb)
    have Ay := Am (ho)
    clear Ai
    clear ho hb hg hat
    refine hK.out _ _ ⟨(blk_cell Ab.out 2).trans rfl, (blk_cell Ab.out 3).trans rfl⟩ (fun hHeld => ?_)
    clear hK K
    refine norm_ (a' := ?_) ?_ ?_
    rotate_left
    ·show Act.put _ (some 43) _ = _
     simp only [Act.put, List.setIfInBounds_toArray, List.set_cons_zero, List.set_cons_succ, i64_w, i32_w]
     rfl
    refine pui 12 3 13 8191 HT_ ?_
    refine done_ (done_of HT_.out (by kernel_rfl)) ?_
    obtain ⟨_, _, _, _, _, _, _, _, _, _⟩ := bc10 Ab.out
    obtain ⟨_, _, _, _, _, _, _, _, _, _⟩ := bf10 Ab.out
    try go_wp2_with (first | (at_builtin; refine R_append_str (w0 := w) w.heap.size rfl (.tmp 44) _ 22 9 5 rfl Try.underlying22 Try.underlying9 info5 v636 y635 ((rd_T52 l0 Aa).f3) (fun k_ => some k_ ≠ (.slice Bc t623.length Bd : Value).ownBlock ∧ some k_ ≠ (.slice Bi t632.length Bj : Value).ownBlock) rfl rfl ?aO ?aF ?aB ?aS ?aL ?_; (case aB => exact (pE HB.out Ad.out)); (case aF => exact (fun k_ hk => ⟨Kd.fresh' (Kd.R_lt (pR Ac.out)) k_ hk, Kd.fresh' (Kd.R_lt (pR Ae.out)) k_ hk⟩)); (case aO => exact (pR Ay.out)); (case aS => exact (below_size (pE HB.out Ad.out))); (case aL => have := LMc15.out; omega); intro v639 w28 ho hb hg hat; rw [← Ny638.out] at ho; replace Ab := Am (blk_grown (g := Af) (o := .cells #[.int .i64 ((rd_T52 l0 Aa).f0), .int .i64 ((rd_T52 l0 Aa).f1), .int .i64 ((rd_T52 l0 Aa).f2), .string ((rd_T52 l0 Aa).f3), .bool ((rd_T52 l0 Aa).f4.f0), .slice Ag ((rd_T52 l0 Aa).f4.f1).length c621_5, .int .i64 ((rd_T52 l0 Aa).f4.f2.f0), .int .i64 ((rd_T52 l0 Aa).f4.f2.f1), .int .i64 ((rd_T52 l0 Aa).f4.f2.f2), .int .u32 ((rd_T52 l0 Aa).f4.f2.f3)] 52 (0, 0)) (pK Ab.out) hg (Kd.R_ne Ay.out Ab.out (by decide))); replace Ac := Am (Kd.R_after (ok := (fun k_ => some k_ ≠ (.slice Bi t632.length Bj : Value).ownBlock)) (pR Ac.out) hg hat); replace Ae := Am (Kd.R_after (ok := (fun k_ => some k_ ≠ (.slice Bc t623.length Bd : Value).ownBlock)) (pR Ae.out) hg hat); replace HB := Am (hb); have An := Am (ho); clear Ay ho hb hg hat; obtain ⟨_, _, _, _, _, _, _, _, _, _⟩ := bc10 Ab.out; obtain ⟨_, _, _, _, _, _, _, _, _, _⟩ := bf10 Ab.out))
    go_roundg k1
    case measure => have := HK1.out; omega
    case rel => exact ⟨(y638), (wrap64 (Aa + 1)), zr, H', ⟨by have := HK1.out; omega⟩, ⟨by (with_reducible repeat (first | apply Kd.R_alloc | apply Kd.R_drewN | apply Kd.R_drew)); exact Kd.R_mono An.out (fun _ hk => trivial)⟩, ⟨pE HB.out Ad.out⟩⟩
   rw [if_neg c16] at H
   obtain ⟨c16b0, c16b1⟩ := zk c16
   obtain ⟨t641, A30, H⟩ := zb H
   obtain ⟨c31, H⟩ := zI H
   have LMc31 := Am c31
   clear c31
   obtain ⟨y644, hy644⟩ : ∃ y_ : List Int, y_ = (y638 ++ t641) := ⟨_, rfl⟩
   replace H : (garnerref06_Put.l0 k1 l0 y644 (wrap64 (Aa + 1))) = some r := zy hy644 H
   have Ny644 := Am hy644
   clear hy644
   have H' := Am H
   clear H
   have p621 : 0 ≤ (Aa : Int) := of_decide_eq_true pS
   have q621 : Aa < (l0.length : Int) := of_decide_eq_true pS
   obtain ⟨Bg, Ag, c621_5, e621, Bk, Bl, Bm, Bn, Bo, Bp, Bq, Br, Bs, Bt, Ak, Al⟩ := at_T52u HR0.out Aa p621 q621 HB.out
   obtain rfl : Bu = Bg := (by injection e621)
   have Ba := Am Al
   have Bb := Am Ak
   clear Al Ak
   replace p621 := eq_true p621
   replace q621 := eq_true q621
   try go_wp2_with (first | ((with_reducible refine zD 5 rfl ?_); refine zE 5 #[.int .i64 0, .int .i64 0, .int .i64 0, .string (⟨#[]⟩ : ByteArray), .bool false, .slice none 0 0, .int .i64 0, .int .i64 0, .int .i64 0, .int .u32 0] 52 ?_; intro Af hg w32 hbox hb; replace Aj := bRa Aj hb; have Ab := Am (hbox); have Bh := zA hg HB; replace HB := zB HB hb; have Ad := Bh; clear hb hbox hg; obtain ⟨_, _, _, _, _, _, _, _, _, _⟩ := bc10 Ab.out; obtain ⟨_, _, _, _, _, _, _, _, _, _⟩ := bf10 Ab.out) | ((with_reducible refine zC 36 rfl ?_); refine zL (some 30) Try.func36 #[.int .u64 (IntKind.u64.wrap ((rd_T52 l0 Aa).f1))] ?_; (with_reducible refine (garnerref02_One.calls k1 (IntKind.u64.wrap ((rd_T52 l0 Aa).f1)) t623 _ A10.out).mono ?_); rintro e w34 ⟨v624, rfl, ho0, hb⟩; refine ⟨_, rfl, ?_⟩; have Ac := Am (Kd.R_lower (Kd.R_new' ho0 (Kd.R_lt (by (with_reducible repeat (first | apply Kd.R_alloc | apply Kd.R_drewN | apply Kd.R_drew)); exact (Kd.R_mono (Rf10 (g := Af) (Kd.R_types Aj.out Ab.out (by decide)) (fun _ hk => hk.2)) (fun _ h_ => h_.1))))) (below_size (pE HB.out Ad.out))); replace Aj := Am (Kd.R_elder' (by (with_reducible repeat (first | apply Kd.R_alloc | apply Kd.R_drewN | apply Kd.R_drew)); exact (Kd.R_mono (Rf10 (g := Af) (Kd.R_types Aj.out Ab.out (by decide)) (fun _ hk => hk.2)) (fun _ h_ => h_.1))) (Kd.R_base ho0) hb); replace Ab := Am (blk_below (g := Af) (kX0 Ab.out) hb); replace HB := zX1 HB Ad.out hb; (try clear hb); (try clear hk); (try clear ho0); obtain ⟨A1, A2, B2⟩ := Kd.R_slice Ac.out; subst B2) | ((with_reducible refine gate_builtin (b := .append) (xs := #[.tmp 26, .tmp 30]) rfl ?_); at_builtin; refine Kd.R_append_rows (Kd.int .u8) (w0 := w) w.heap.size rfl (.tmp 26) (.tmp 30) 22 5 (.int .u8 0) 1 rfl Try.underlying22 info5 rfl (by decide) (by omega) u3 Az t623 _ _ _ (fun k_ => some k_ ≠ (.slice A1 t623.length A2 : Value).ownBlock) (fun _ => False) rfl rfl ?aO ?aR (fun _ _ h => h) (fun _ h => h.elim) ?aF ?aB ?aS ?aL ?_; (case aR => exact pC (Kd.R_reads' Ac.out).2.2); (case aB => exact (pE HB.out Ad.out)); (case aF => exact (fun k_ hk => Kd.fresh' (Kd.R_lt (pR Ac.out)) k_ hk)); (case aO => exact (by (with_reducible repeat (first | apply Kd.R_alloc | apply Kd.R_drewN | apply Kd.R_drew)); exact Kd.R_mono Aj.out (fun _ hk => hk.2))); (case aS => exact (below_size (pE HB.out Ad.out))); (case aL => have := LMc11.out; omega); intro v627 w35 ho hb hg hat; rw [← Ny626.out] at ho; replace Ab := Am (blk_grown (g := Af) (o := .cells #[.int .i64 ((rd_T52 l0 Aa).f0), .int .i64 ((rd_T52 l0 Aa).f1), .int .i64 ((rd_T52 l0 Aa).f2), .string ((rd_T52 l0 Aa).f3), .bool ((rd_T52 l0 Aa).f4.f0), .slice Ag ((rd_T52 l0 Aa).f4.f1).length c621_5, .int .i64 ((rd_T52 l0 Aa).f4.f2.f0), .int .i64 ((rd_T52 l0 Aa).f4.f2.f1), .int .i64 ((rd_T52 l0 Aa).f4.f2.f2), .int .u32 ((rd_T52 l0 Aa).f4.f2.f3)] 52 (0, 0)) (pK Ab.out) hg (Kd.R_ne Aj.out Ab.out (by decide))); replace Ac := Am (Kd.R_after (ok := (fun _ => True)) (pR Ac.out) hg hat); replace HB := Am (hb); have Ah := Am (ho); clear Aj ho hb hg hat))
   replace Ac := dRa Ac
   replace Ah := dRa Ah
   replace Ab := kDa Ab
   replace HB := bDa HB
   refine start_ (n := 13) (S := fun w' => cG w' Af 2 (.int .i64 ((rd_T52 l0 Aa).f2)) ∧ cG w' Af 3 (.string ((rd_T52 l0 Aa).f3))) (ds := []) #[false, false, false, false, false, false, false, false, false, false, false, false, false] (by kernel_rfl) rfl rfl ⟨(blk_cell Ab.out 2).trans rfl, (blk_cell Ab.out 3).trans rfl⟩ (fun hHeld => ?_); refine with_tabW garnerref06_Put.tab7 garnerref06_Put.bits7 (fun HT_ HW_ => ?_)
   generalize w35.drew = w37 at Ac Ah Ab HB hHeld ⊢
   refine pui 0 32 13 1 HT_ ?_
   refine zp 1 (h := zp 6 (h := zw 2 (h := zp 3 (h := zw 7 (h := zp 8 (h := zp 9 (h := ?_)))))))
   refine onei 4 36 13 991 HT_ (fun K hK => ?_)
   refine value_ (w1 := ?_) (v := ?_) (by rfl) rfl ?_ ?_
   rotate_left 2
   ·go_simp
    constructor
    ·rfl
    rfl
   refine hK.out _ _ ⟨(blk_cell (blk_alloc Ab.out _) 2).trans rfl, (blk_cell (blk_alloc Ab.out _) 3).trans rfl⟩ (fun hHeld => ?_)
   clear hK K
   refine norm_ (a' := ?_) ?_ ?_
   rotate_left
   ·show Act.put _ (some 36) _ = _
    simp only [Act.put, List.setIfInBounds_toArray, List.set_cons_zero, List.set_cons_succ, i64_w, i32_w]
    rfl
   refine onei 5 37 13 1023 HT_ (fun K hK => ?_)
   refine Kd.R_append_step (Kd.int .u8) (w0 := w) w.heap.size (by rfl) (.tmp 32) (.tmp 36) 22 5 (.int .u8 0) 1 rfl Try.underlying22 info5 rfl (by decide) (by omega) v627 y626 (((rd_T52 l0 Aa).f2) % 256) [.int .u8 (((rd_T52 l0 Aa).f2) % 256)] (fun k_ => some k_ ≠ (.slice A1 t623.length A2 : Value).ownBlock) (fun _ => False) rfl rfl ?aP (fun _ hk => hk.elim) ?aF ?aO ?aB ?aS ?aL ?_
   (case aP => exact rfl)
   (case aB => exact (pE HB.out Ad.out))
   (case aF => exact (fun k_ hk => Kd.fresh' (Kd.R_lt (pR Ac.out)) k_ hk))
   (case aO => exact (pR Ah.out))
   (case aS => exact (below_size (pE HB.out Ad.out)))
   (case aL => have := LMc12.out; omega)
   intro v630 w38 ho hb hg hat
   rw [← Ny629.out] at ho
   replace Ab := Am (blk_grown (g := Af) (o := .cells #[.int .i64 ((rd_T52 l0 Aa).f0), .int .i64 ((rd_T52 l0 Aa).f1), .int .i64 ((rd_T52 l0 Aa).f2), .string ((rd_T52 l0 Aa).f3), .bool ((rd_T52 l0 Aa).f4.f0), .slice Ag ((rd_T52 l0 Aa).f4.f1).length c621_5, .int .i64 ((rd_T52 l0 Aa).f4.f2.f0), .int .i64 ((rd_T52 l0 Aa).f4.f2.f1), .int .i64 ((rd_T52 l0 Aa).f4.f2.f2), .int .u32 ((rd_T52 l0 Aa).f4.f2.f3)] 52 (0, 0)) (pK Ab.out) hg (Kd.R_ne Ah.out Ab.out (by decide)))
   replace Ac := Am (Kd.R_after (ok := (fun _ => True)) (pR Ac.out) hg hat)
   replace HB := Am (hb)
   have Ai := Am (ho)
   clear Ah
   clear ho hb hg hat
   refine hK.out _ _ ⟨(blk_cell Ab.out 2).trans rfl, (blk_cell Ab.out 3).trans rfl⟩ (fun hHeld => ?_)
   clear hK K
   refine norm_ (a' := ?_) ?_ ?_
   rotate_left
   ·show Act.put _ (some 37) _ = _
    simp only [Act.put, List.setIfInBounds_toArray, List.set_cons_zero, List.set_cons_succ, i64_w, i32_w]
    rfl
   refine onei 10 42 13 2047 HT_ (fun K hK => ?_)
   refine goes_ Try.func36 (by kernel_rfl) rfl #[.int .u64 (IntKind.u64.wrap ((((rd_T52 l0 Aa).f3).size : Int)))] (by rfl) rfl rfl pL ?_
   with_reducible refine (garnerref02_One.calls k1 (IntKind.u64.wrap ((((rd_T52 l0 Aa).f3).size : Int))) t632 _ A13.out).mono ?_
   rintro e w39 ⟨v633, rfl, ho0, hb⟩
   refine ⟨_, rfl, ?_⟩
   have Ae := Am (Kd.R_lower (Kd.R_new' (Kd.R_new' ho0 (Kd.R_lt (pR Ac.out))) (Kd.R_lt (pR Ai.out))) (below_size (pE HB.out Ad.out)))
   replace Ac := Am (Kd.R_elder' (pR Ac.out) (Kd.R_base ho0) hb)
   replace Ai := Am (Kd.R_elder' (pR Ai.out) (Kd.R_base ho0) hb)
   replace Ab := kBa Ab hb
   replace HB := zX1 HB Ad.out hb
   (try clear hb)
   (try clear hb2)
   (try clear hk)
   (try clear hi)
   (try clear ho0)
   obtain ⟨A6, A7, By⟩ := Kd.R_slice Ae.out
   (first | subst By | (injection By with f1_ f2_ f3_; have f4_ := f1_.symm; have f5_ := f3_.symm; clear f1_ f2_ f3_; subst f4_; subst f5_))
   refine hK.out _ _ ⟨(blk_cell Ab.out 2).trans rfl, (blk_cell Ab.out 3).trans rfl⟩ (fun hHeld => ?_)
   clear hK K
   refine norm_ (a' := ?_) ?_ ?_
   rotate_left
   ·show Act.put _ (some 42) _ = _
    simp only [Act.put, List.setIfInBounds_toArray, List.set_cons_zero, List.set_cons_succ, i64_w, i32_w]
    rfl
   refine onei 11 43 13 4095 HT_ (fun K hK => ?_)
   refine Kd.R_append_rows_step (Kd.int .u8) (w0 := w) w.heap.size (by rfl) (.tmp 37) (.tmp 42) 22 5 (.int .u8 0) 1 rfl Try.underlying22 info5 rfl (by decide) (by omega) v630 y629 t632 _ _ _ (fun k_ => some k_ ≠ (.slice A1 t623.length A2 : Value).ownBlock ∧ some k_ ≠ (.slice A6 t632.length A7 : Value).ownBlock) (fun _ => False) rfl rfl ?aO ?aR (fun _ _ h => h) (fun _ h => h.elim) ?aF ?aB ?aS ?aL ?_
   (case aR => exact pC (Kd.R_reads' Ae.out).2.2)
   (case aB => exact (pE HB.out Ad.out))
   (case aF => exact (fun k_ hk => ⟨Kd.fresh' (Kd.R_lt (pR Ac.out)) k_ hk, Kd.fresh' (Kd.R_lt (pR Ae.out)) k_ hk⟩))
   (case aO => exact (pR Ai.out))
   (case aS => exact (below_size (pE HB.out Ad.out)))
   (case aL => have := LMc14.out; omega)
   intro v636 w40 ho hb hg hat
   rw [← Ny635.out] at ho
   replace Ab := Am (blk_grown (g := Af) (o := .cells #[.int .i64 ((rd_T52 l0 Aa).f0), .int .i64 ((rd_T52 l0 Aa).f1), .int .i64 ((rd_T52 l0 Aa).f2), .string ((rd_T52 l0 Aa).f3), .bool ((rd_T52 l0 Aa).f4.f0), .slice Ag ((rd_T52 l0 Aa).f4.f1).length c621_5, .int .i64 ((rd_T52 l0 Aa).f4.f2.f0), .int .i64 ((rd_T52 l0 Aa).f4.f2.f1), .int .i64 ((rd_T52 l0 Aa).f4.f2.f2), .int .u32 ((rd_T52 l0 Aa).f4.f2.f3)] 52 (0, 0)) (pK Ab.out) hg (Kd.R_ne Ai.out Ab.out (by decide)))
   replace Ac := Am (Kd.R_after (ok := (fun k_ => some k_ ≠ (.slice A6 t632.length A7 : Value).ownBlock)) (by (with_reducible repeat (first | apply Kd.R_alloc | apply Kd.R_drewN | apply Kd.R_drew)); exact Kd.R_mono Ac.out (fun _ hk => ⟨hk.2, hk.1.2⟩)) hg hat)
   replace Ae := Am (Kd.R_after (ok := (fun k_ => some k_ ≠ (.slice A1 t623.length A2 : Value).ownBlock)) (by (with_reducible repeat (first | apply Kd.R_alloc | apply Kd.R_drewN | apply Kd.R_drew)); exact Kd.R_mono Ae.out (fun _ hk => ⟨hk.1.2, hk.2⟩)) hg hat)
   replace HB := Am (hb)
   have Ay := Am (ho)
   clear Ai
   clear ho hb hg hat
   refine hK.out _ _ ⟨(blk_cell Ab.out 2).trans rfl, (blk_cell Ab.out 3).trans rfl⟩ (fun hHeld => ?_)
   clear hK K
   refine norm_ (a' := ?_) ?_ ?_
   rotate_left
   ·show Act.put _ (some 43) _ = _
    simp only [Act.put, List.setIfInBounds_toArray, List.set_cons_zero, List.set_cons_succ, i64_w, i32_w]
    rfl
   refine pui 12 3 13 8191 HT_ ?_
   refine done_ (done_of HT_.out (by kernel_rfl)) ?_
   obtain ⟨_, _, _, _, _, _, _, _, _, _⟩ := bc10 Ab.out
   obtain ⟨_, _, _, _, _, _, _, _, _, _⟩ := bf10 Ab.out
   try go_wp2_with (first | (at_builtin; refine R_append_str (w0 := w) w.heap.size rfl (.tmp 44) _ 22 9 5 rfl Try.underlying22 Try.underlying9 info5 v636 y635 ((rd_T52 l0 Aa).f3) (fun k_ => some k_ ≠ (.slice A1 t623.length A2 : Value).ownBlock ∧ some k_ ≠ (.slice A6 t632.length A7 : Value).ownBlock) rfl rfl ?aO ?aF ?aB ?aS ?aL ?_; (case aB => exact (pE HB.out Ad.out)); (case aF => exact (fun k_ hk => ⟨Kd.fresh' (Kd.R_lt (pR Ac.out)) k_ hk, Kd.fresh' (Kd.R_lt (pR Ae.out)) k_ hk⟩)); (case aO => exact (pR Ay.out)); (case aS => exact (below_size (pE HB.out Ad.out))); (case aL => have := LMc15.out; omega); intro v639 w43 ho hb hg hat; rw [← Ny638.out] at ho; replace Ab := Am (blk_grown (g := Af) (o := .cells #[.int .i64 ((rd_T52 l0 Aa).f0), .int .i64 ((rd_T52 l0 Aa).f1), .int .i64 ((rd_T52 l0 Aa).f2), .string ((rd_T52 l0 Aa).f3), .bool ((rd_T52 l0 Aa).f4.f0), .slice Ag ((rd_T52 l0 Aa).f4.f1).length c621_5, .int .i64 ((rd_T52 l0 Aa).f4.f2.f0), .int .i64 ((rd_T52 l0 Aa).f4.f2.f1), .int .i64 ((rd_T52 l0 Aa).f4.f2.f2), .int .u32 ((rd_T52 l0 Aa).f4.f2.f3)] 52 (0, 0)) (pK Ab.out) hg (Kd.R_ne Ay.out Ab.out (by decide))); replace Ac := Am (Kd.R_after (ok := (fun k_ => some k_ ≠ (.slice A6 t632.length A7 : Value).ownBlock)) (pR Ac.out) hg hat); replace Ae := Am (Kd.R_after (ok := (fun k_ => some k_ ≠ (.slice A1 t623.length A2 : Value).ownBlock)) (pR Ae.out) hg hat); replace HB := Am (hb); have An := Am (ho); clear Ay ho hb hg hat; obtain ⟨_, _, _, _, _, _, _, _, _, _⟩ := bc10 Ab.out; obtain ⟨_, _, _, _, _, _, _, _, _, _⟩ := bf10 Ab.out) | ((with_reducible refine zC 58 rfl ?_); refine zL (some 54) Try.func58 #[.agg #[.bool ((rd_T52 l0 Aa).f4.f0), .slice Ag ((rd_T52 l0 Aa).f4.f1).length c621_5, .int .i64 ((rd_T52 l0 Aa).f4.f2.f0), .int .i64 ((rd_T52 l0 Aa).f4.f2.f1), .int .i64 ((rd_T52 l0 Aa).f4.f2.f2), .int .u32 ((rd_T52 l0 Aa).f4.f2.f3)]] ?_; (with_reducible refine (garnerref05_Put.calls k1 ((rd_T52 l0 Aa).f4.f0) _ _ ((rd_T52 l0 Aa).f4.f1) ((rd_T52 l0 Aa).f4.f2.f0) ((rd_T52 l0 Aa).f4.f2.f1) ((rd_T52 l0 Aa).f4.f2.f2) ((rd_T52 l0 Aa).f4.f2.f3) t641 _ ?Be ?Bf A30.out).mono ?_); (case Be => exact pC (Kd.C_below Ba.out HB.out)); (case Bf => exact Bb.out); rintro e w45 ⟨v642, rfl, ho0, hb⟩; refine ⟨_, rfl, ?_⟩; have A5 := Am (Kd.R_lower (Kd.R_new' (Kd.R_new' (Kd.R_new' ho0 (Kd.R_lt (pR Ac.out))) (Kd.R_lt (pR Ae.out))) (Kd.R_lt (pR An.out))) (below_size (pE HB.out Ad.out))); replace Ac := Am (Kd.R_elder' (pR Ac.out) (Kd.R_base ho0) hb); replace Ae := Am (Kd.R_elder' (pR Ae.out) (Kd.R_base ho0) hb); replace An := Am (Kd.R_elder' (pR An.out) (Kd.R_base ho0) hb); replace Ab := kBa Ab hb; replace HB := zX1 HB Ad.out hb; (try clear hb); (try clear ho0); obtain ⟨Bv, Bw, B3⟩ := Kd.R_slice A5.out; subst B3) | ((with_reducible refine gate_builtin (b := .append) (xs := #[.tmp 51, .tmp 54]) rfl ?_); at_builtin; refine Kd.R_append_rows (Kd.int .u8) (w0 := w) w.heap.size rfl (.tmp 51) (.tmp 54) 22 5 (.int .u8 0) 1 rfl Try.underlying22 info5 rfl (by decide) (by omega) v639 y638 t641 _ _ _ (fun k_ => some k_ ≠ (.slice A1 t623.length A2 : Value).ownBlock ∧ some k_ ≠ (.slice A6 t632.length A7 : Value).ownBlock ∧ some k_ ≠ (.slice Bv t641.length Bw : Value).ownBlock) (fun _ => False) rfl rfl ?aO ?aR (fun _ _ h => h) (fun _ h => h.elim) ?aF ?aB ?aS ?aL ?_; (case aR => exact pC (Kd.R_reads' A5.out).2.2); (case aB => exact (pE HB.out Ad.out)); (case aF => exact (fun k_ hk => ⟨Kd.fresh' (Kd.R_lt (pR Ac.out)) k_ hk, Kd.fresh' (Kd.R_lt (pR Ae.out)) k_ hk, Kd.fresh' (Kd.R_lt (pR A5.out)) k_ hk⟩)); (case aO => exact (by (with_reducible repeat (first | apply Kd.R_alloc | apply Kd.R_drewN | apply Kd.R_drew)); exact Kd.R_mono An.out (fun _ hk => ⟨hk.1.1, ⟨hk.1.2, hk.2⟩⟩))); (case aS => exact (below_size (pE HB.out Ad.out))); (case aL => have := LMc31.out; omega); intro v645 w46 ho hb hg hat; rw [← Ny644.out] at ho; replace Ab := Am (blk_grown (g := Af) (o := .cells #[.int .i64 ((rd_T52 l0 Aa).f0), .int .i64 ((rd_T52 l0 Aa).f1), .int .i64 ((rd_T52 l0 Aa).f2), .string ((rd_T52 l0 Aa).f3), .bool ((rd_T52 l0 Aa).f4.f0), .slice Ag ((rd_T52 l0 Aa).f4.f1).length c621_5, .int .i64 ((rd_T52 l0 Aa).f4.f2.f0), .int .i64 ((rd_T52 l0 Aa).f4.f2.f1), .int .i64 ((rd_T52 l0 Aa).f4.f2.f2), .int .u32 ((rd_T52 l0 Aa).f4.f2.f3)] 52 (0, 0)) (pK Ab.out) hg (Kd.R_ne An.out Ab.out (by decide))); replace Ac := Am (Kd.R_after (ok := (fun k_ => some k_ ≠ (.slice A6 t632.length A7 : Value).ownBlock ∧ some k_ ≠ (.slice Bv t641.length Bw : Value).ownBlock)) (by (with_reducible repeat (first | apply Kd.R_alloc | apply Kd.R_drewN | apply Kd.R_drew)); exact Kd.R_mono Ac.out (fun _ hk => ⟨⟨hk.1.1, hk.2⟩, hk.1.2⟩)) hg hat); replace Ae := Am (Kd.R_after (ok := (fun k_ => some k_ ≠ (.slice A1 t623.length A2 : Value).ownBlock ∧ some k_ ≠ (.slice Bv t641.length Bw : Value).ownBlock)) (by (with_reducible repeat (first | apply Kd.R_alloc | apply Kd.R_drewN | apply Kd.R_drew)); exact Kd.R_mono Ae.out (fun _ hk => ⟨⟨hk.1.1, hk.2⟩, hk.1.2⟩)) hg hat); replace A5 := Am (Kd.R_after (ok := (fun k_ => some k_ ≠ (.slice A1 t623.length A2 : Value).ownBlock ∧ some k_ ≠ (.slice A6 t632.length A7 : Value).ownBlock)) (by (with_reducible repeat (first | apply Kd.R_alloc | apply Kd.R_drewN | apply Kd.R_drew)); exact Kd.R_mono A5.out (fun _ hk => ⟨⟨hk.1.1.2, hk.1.2⟩, hk.2⟩)) hg hat); replace HB := Am (hb); have B0 := Am (ho); clear An ho hb hg hat))
   go_roundg k1
   case measure => have := HK1.out; omega
   case rel => exact ⟨(y644), (wrap64 (Aa + 1)), zr, H', ⟨by have := HK1.out; omega⟩, ⟨by (with_reducible repeat (first | apply Kd.R_alloc | apply Kd.R_drewN | apply Kd.R_drew)); exact Kd.R_mono B0.out (fun _ hk => trivial)⟩, ⟨pE HB.out Ad.out⟩⟩
def garnerref22_Put.f (k : Nat) (a0_0 : Int) (a0_1 : Int) (a0_2 : Int) : Option (List Int) := (garnerref02_Put.f k (([IntKind.u64.wrap (a0_0), IntKind.u64.wrap (a0_1), IntKind.u64.wrap (a0_2)] : List Int))).bind fun t651 => (some t651)
theorem garnerref22_Put.mono : ∀ a0 a1 a2 k, LeO (garnerref22_Put.f k a0 a1 a2) (garnerref22_Put.f (k + 1) a0 a1 a2) := by
 intro a0 a1 a2 k
 unfold garnerref22_Put.f
 repeat' (with_reducible first | exact garnerref02_Put.mono .. | exact LeO.refl .. | exact LeO.none .. | refine LeO.ite ?_ ?_ | refine LeO.bind ?_ (fun _ => ?_))
set_option maxRecDepth 100000 in
theorem garnerref22_Put.calls (k : Nat) (a0_0 : Int) (a0_1 : Int) (a0_2 : Int) (r : List Int) (w : World) (h : garnerref22_Put.f k a0_0 a0_1 a0_2 = some r) :
 Calls Try.prog 35 #[.agg #[.int .i64 a0_0, .int .i64 a0_1, .int .i64 a0_2]] w fun e w' => ∃ v0_ : Value, e = .returned (v0_) ∧ Kd.R (Kd.int .u8) 5 w' w.heap.size (fun _ => True) v0_ r ∧ Below w.heap.size w w' := by
 have hu28 := Try.underlying28
 have HB := Am (Below.refl w.heap.size w)
 unfold garnerref22_Put.f at h
 have H := h
 clear h
 obtain ⟨y648, hy648⟩ : ∃ y_ : List Int, y_ = (([IntKind.u64.wrap (a0_0), IntKind.u64.wrap (a0_1), IntKind.u64.wrap (a0_2)] : List Int)) := ⟨_, rfl⟩
 replace H : ((garnerref02_Put.f k y648).bind fun t651 => (some t651)) = some r := zy hy648 H
 have Ny648 := Am hy648
 clear hy648
 obtain ⟨t651, A2, H⟩ := zb H
 obtain rfl := Option.some.inj H
 go_enter Try.func35, Try.ntmps35
 go_wp2_with (first | ((with_reducible refine zD 1 rfl ?_); refine zE 1 #[.int .i64 a0_0, .int .i64 a0_1, .int .i64 a0_2] 28 ?_; intro Ad hg w3 hbox hb; have Aa := Am (hbox); have Ae := zA hg HB; replace HB := zB HB hb; have Ab := Ae; clear hb hbox hg; obtain ⟨_, _, _⟩ := bc3 Aa.out; obtain ⟨_, _, _⟩ := bf3 Aa.out) | ((with_reducible refine zD 12 rfl ?_); refine Kd.R_lit (Kd.int .u64) _ 61 ?hg (N := 12) ?hd (xs := ([IntKind.u64.wrap (a0_0), IntKind.u64.wrap (a0_1), IntKind.u64.wrap (a0_2)] : List Int)) (inner := [.int .u64 (IntKind.u64.wrap (a0_0)), .int .u64 (IntKind.u64.wrap (a0_1)), .int .u64 (IntKind.u64.wrap (a0_2))]) (ok := fun _ => True) (okp := fun _ => True) ?hr ?hp (fun _ hk => hk) trivial (Below.refl _ _) (Nat.le_refl _) (by simp) ?_; (case hd => rfl); (case hg => rfl); (case hr => first | (go_simp; done) | (go_simp; rfl)); (case hp => exact (Reps.one (show Kd.M (Kd.int .u64) _ _ _ (IntKind.u64.wrap (a0_0)) [.int .u64 (IntKind.u64.wrap (a0_0))] from rfl) (Reps.one (show Kd.M (Kd.int .u64) _ _ _ (IntKind.u64.wrap (a0_1)) [.int .u64 (IntKind.u64.wrap (a0_1))] from rfl) (Reps.one (show Kd.M (Kd.int .u64) _ _ _ (IntKind.u64.wrap (a0_2)) [.int .u64 (IntKind.u64.wrap (a0_2))] from rfl) (Reps.none _ _))))); intro v649 w5 ho6 hb hg_ hnew_; clear hg_ hnew_; (first | rw [← Ny648.out] at ho6 | (simp only [Int.reduceToNat] at ho6; rw [← Ny648.out] at ho6)); have Ac := Am (Kd.R_lower ho6 (below_size (pE HB.out Ab.out))); replace Aa := kBa Aa hb; replace HB := zX1 HB Ab.out hb; clear hb ho6; obtain ⟨Ai, Aj, Ak⟩ := Kd.R_slice Ac.out; subst Ak) | ((with_reducible refine zC 57 rfl ?_); refine zL (some 13) Try.func57 #[.slice Ai y648.length Aj] ?_; (with_reducible refine (garnerref02_Put.calls k _ _ y648 t651 _ ?Af ?Ag A2.out).mono ?_); (case Af => exact pC (Kd.R_reads' Ac.out).2.2); (case Ag => exact (Kd.R_reads' Ac.out).2.1); rintro e w8 ⟨v652, rfl, ho0, hb⟩; refine ⟨_, rfl, ?_⟩; replace Ac := bRa Ac hb; have Ah := Am (Kd.R_lower ho0 (below_size (pE HB.out Ab.out))); replace Aa := kBa Aa hb; replace HB := zX1 HB Ab.out hb; (try clear hb); (try clear ho0)))
 go_ret
 exact ⟨_, pX, by (with_reducible repeat (first | apply Kd.R_alloc | apply Kd.R_drewN | apply Kd.R_drew)); exact Ah.out, pE HB.out Ab.out⟩
def garnerref24_Put.j0 : Nat → Int → List (S52) → Int → Int → Int → Int → Int → List Int → Option (Int × List Int)
 | 0, _, _, _, _, _, _, _, _ => none
 | k + 1, x655000, x655001, x655002, x655003, x655004, x655005, x657000, x657001 => if x655000 = 2 then ((garnerref22_Put.f k x655002 x655003 x655004).bind fun t660 => (if x655000 = 3 then ((garnerref02_One.f k (IntKind.u64.wrap (x655005))).bind fun t663 => (some (x657000, t663))) else (some (x657000, t660)))) else (if x655000 = 3 then ((garnerref02_One.f k (IntKind.u64.wrap (x655005))).bind fun t666 => (some (x657000, t666))) else (some (x657000, x657001)))
def garnerref24_Put.f (k : Nat) (a0_0 : Int) (l0_1 : List (S52)) (a0_2 : Int) (a0_3 : Int) (a0_4 : Int) (a0_5 : Int) : Option (Int × List Int) := if a0_0 = 1 then ((garnerref06_Put.f k l0_1).bind fun t657 => (garnerref24_Put.j0 k a0_0 l0_1 a0_2 a0_3 a0_4 a0_5 (wrap64 (10 + a0_0)) t657)) else (garnerref24_Put.j0 k a0_0 l0_1 a0_2 a0_3 a0_4 a0_5 (wrap64 (10 + a0_0)) ([] : List Int))
theorem garnerref24_Put.mono_l : ∀ k, (∀ y0 y1 y2 y3 y4 y5 y6 y7, LeO (garnerref24_Put.j0 k y0 y1 y2 y3 y4 y5 y6 y7) (garnerref24_Put.j0 (k + 1) y0 y1 y2 y3 y4 y5 y6 y7))
 | 0 => fun _ _ _ _ _ _ _ _ r h => by simp [garnerref24_Put.j0] at h
 | k + 1 => by
  have ih0 := garnerref24_Put.mono_l k
  ·intro y0 y1 y2 y3 y4 y5 y6 y7
   unfold garnerref24_Put.j0
   repeat' (with_reducible first | exact ih0 .. | exact garnerref02_One.mono .. | exact garnerref06_Put.mono .. | exact garnerref22_Put.mono .. | exact LeO.refl .. | exact LeO.none .. | refine LeO.ite ?_ ?_ | refine LeO.bind ?_ (fun _ => ?_))
theorem garnerref24_Put.mono : ∀ a0 a1 a2 a3 a4 a5 k, LeO (garnerref24_Put.f k a0 a1 a2 a3 a4 a5) (garnerref24_Put.f (k + 1) a0 a1 a2 a3 a4 a5) := by
 intro a0 a1 a2 a3 a4 a5 k
 have ih0 := garnerref24_Put.mono_l k
 unfold garnerref24_Put.f
 repeat' (with_reducible first | exact ih0 .. | exact garnerref02_One.mono .. | exact garnerref06_Put.mono .. | exact garnerref22_Put.mono .. | exact LeO.refl .. | exact LeO.none .. | refine LeO.ite ?_ ?_ | refine LeO.bind ?_ (fun _ => ?_))
set_option maxRecDepth 100000 in
theorem garnerref24_Put.calls (k : Nat) (a0_0 : Int) (A0_1 : Option Addr) (c0_1 : Nat) (l0_1 : List (S52)) (a0_2 : Int) (a0_3 : Int) (a0_4 : Int) (a0_5 : Int) (r1 : Int) (r2 : List Int) (w : World) (hr0_1 : Kd.C k52 w A0_1 l0_1.length l0_1) (hc0_1 : l0_1.length ≤ c0_1) (h : garnerref24_Put.f k a0_0 l0_1 a0_2 a0_3 a0_4 a0_5 = some (r1, r2)) :
 Calls Try.prog 15 #[.agg #[.int .i64 a0_0, .slice A0_1 l0_1.length c0_1, .int .i64 a0_2, .int .i64 a0_3, .int .i64 a0_4, .int .i64 a0_5]] w fun e w' => ∃ v1_ : Value, e = .returned (.agg #[.int .i64 r1, v1_]) ∧ Kd.R (Kd.int .u8) 5 w' w.heap.size (fun _ => True) v1_ r2 ∧ Below w.heap.size w w' := by
 have hu30 := Try.underlying30
 have hu24 := Try.underlying24
 have hu28 := Try.underlying28
 have Ce := Am hr0_1
 have Cf := Am hc0_1
 clear hr0_1 hc0_1
 have HB := Am (Below.refl w.heap.size w)
 unfold garnerref24_Put.f at h
 have H := h
 clear h
 have HC2 := Am H
 clear H
 go_enter Try.func15, Try.ntmps15
 go_upto_if 10 with (first | ((with_reducible refine zD 1 rfl ?_); refine zE 1 #[.int .i64 a0_0, .slice A0_1 l0_1.length c0_1, .int .i64 a0_2, .int .i64 a0_3, .int .i64 a0_4, .int .i64 a0_5] 30 ?_; intro Ar hg w3 hbox hb; have Aa := Am (hbox); have Cg := zA hg HB; replace HB := zB HB hb; have Ag := Cg; clear hb hbox hg) | ((with_reducible refine zD 2 rfl ?_); refine zE 2 #[.int .i64 0, .slice none 0 0] 24 ?_; intro Aj hg w4 hbox hb; have Ad := Am (hbox); have Ch := zY1 hg HB Ag.out; replace HB := zX1 HB Ag.out hb; have Ah := Ch; have Al := Am (zN hg (kL Aa.out)); have An := Am (zM hg (kL Aa.out)); replace Aa := kBa Aa hb; clear hb hbox hg; have hnb5 := Al.out; have hnc5 := An.out; obtain ⟨Bu, Bv, Bw, Bx, By, Bz⟩ := bc6 Aa.out; obtain ⟨B0, B1, B2, B3, B4, B5⟩ := bf6 Aa.out) | ((with_reducible refine zD 3 rfl ?_); refine zE 3 #[.int .i64 0, .slice none 0 0] 24 ?_; intro Ak hg w7 hbox hb; have Ab := Am (hbox); have Ci := zY2 hg HB Ag.out Ah.out; replace HB := zX2 HB Ag.out Ah.out hb; have Ai := Ci; have Af := Am (zN hg (kL Aa.out)); have Ao := Am (zM hg (kL Aa.out)); replace Aa := kBa Aa hb; have Ae := Am (zN hg (kL Ad.out)); have Ap := Am (zM hg (kL Ad.out)); replace Ad := kBa Ad hb; clear hb hbox hg; have hnb8 := Ao.out; have hnc8 := Af.out; have hnb9 := Ap.out; have hnc9 := Ae.out; obtain ⟨Av, Aw⟩ := bc2 Ab.out; obtain ⟨Ax, Ay⟩ := bf2 Ab.out; obtain ⟨Az, A0, A1, A2, A3, A4⟩ := bc6 Aa.out; obtain ⟨A5, A6, A7, A8, A9, Ba⟩ := bf6 Aa.out))
 (try simp only [Act.put, List.setIfInBounds_toArray, List.set_cons_zero, List.set_cons_succ])
 go_cut [] (fun wc => ∃ (kq : Nat) (Aq : List Int) (u657001 : Value), Aside0 (garnerref24_Put.j0 kq a0_0 l0_1 a0_2 a0_3 a0_4 a0_5 (wrap64 (10 + a0_0)) Aq = some (r1, r2)) ∧ Aside0 (kq ≤ k) ∧ Aside0 (Kd.R (Kd.int .u8) 5 wc w.heap.size (fun _ => True) u657001 Aq) ∧ Aside0 (wc.heap[Ar]? = some (.cells #[.int .i64 a0_0, (.slice A0_1 l0_1.length c0_1), .int .i64 a0_2, .int .i64 a0_3, .int .i64 a0_4, .int .i64 a0_5] 30 (0, 0))) ∧ Aside0 (wc.heap[Aj]? = some (.cells #[.int .i64 0, (.slice none 0 0)] 24 (0, 0))) ∧ Aside0 (wc.heap[Ak]? = some (.cells #[.int .i64 (wrap64 (10 + a0_0)), u657001] 24 (0, 0))) ∧ Aside0 (Below w.heap.size w wc))
 case first =>
  have H := HC2.out
  clear HC2
  by_cases c12 : a0_0 = 1
  rotate_left
  ·rw [if_neg c12] at H
   obtain ⟨c12b0, c12b1⟩ := zk c12
   (first | rw [c12b0] | (simp only [i64_w, i32_w]; rw [c12b0]) | skip)
   have H' := Am H
   clear H
   go_wp2
   go_meet
   case rel => exact ⟨_, (([] : List Int)), (.slice none 0 0), H', ⟨zo⟩, ⟨zn⟩, ⟨kX1 Aa.out Af.out⟩, ⟨kX1 Ad.out Ae.out⟩, ⟨kX0 Ab.out⟩, ⟨pE3 HB.out Ag.out Ah.out Ai.out⟩⟩
  rw [if_pos c12] at H
  obtain ⟨c12b0, c12b1⟩ := zc c12
  clear c12
  (first | rw [c12b0] | (simp only [i64_w, i32_w]; rw [c12b0]) | skip)
  obtain ⟨t657, A13, H⟩ := zb H
  have H' := Am H
  clear H
  have hnb14 := Al.out
  have hnc14 := An.out
  have hnb15 := Af.out
  have hnc15 := Ao.out
  obtain ⟨Bb, Bc, Bd, Be, Bf, Bg⟩ := bc6 Aa.out
  obtain ⟨Bh, Bi, Bj, Bk, Bl, Bm⟩ := bf6 Aa.out
  go_wp2_with (first | ((with_reducible refine zC 34 rfl ?_); refine zL (some 13) Try.func34 #[.slice A0_1 l0_1.length c0_1] ?_; (with_reducible refine (garnerref06_Put.calls k _ _ l0_1 t657 _ ?Cj ?Ck A13.out).mono ?_); (case Cj => exact Kd.C_below Ce.out (pE3 HB.out Ag.out Ah.out Ai.out)); (case Ck => exact Cf.out); rintro e w17 ⟨v658, rfl, ho0, hb⟩; refine ⟨_, rfl, ?_⟩; have Br := Am (Kd.R_lower ho0 (below_size (pE3 HB.out Ag.out Ah.out Ai.out))); replace Aa := Am (blk_below (g := Ar) (kX1 Aa.out Af.out) hb); replace Ad := Am (blk_below (g := Aj) (kX1 Ad.out Ae.out) hb); replace Ab := Am (blk_below (g := Ak) (kX0 Ab.out) hb); replace HB := zX3 HB Ag.out Ah.out Ai.out hb; (try clear hb); (try clear ho0); obtain ⟨B6, B7, Cl⟩ := Kd.R_slice Br.out; subst Cl; have hnb19 := Ap.out; have hnc19 := Ae.out; obtain ⟨Bn, Bo⟩ := bc2 Ab.out; obtain ⟨Bp, Bq⟩ := bf2 Ab.out))
  go_meet
  case rel => exact ⟨_, (t657), (.slice B6 t657.length B7), H', ⟨zo⟩, ⟨by (with_reducible repeat (first | apply Kd.R_alloc | apply Kd.R_drewN | apply Kd.R_drew)); exact Kd.R_mono (Kd.R_far (p := ⟨Ak, 1, none⟩) (Kd.R_types Br.out Ab.out (by decide)) (fun _ hk => hk.2) (.slice B6 t657.length B7)) (fun _ hk => trivial)⟩, ⟨kX1 Aa.out Af.out⟩, ⟨kX1 Ad.out Ae.out⟩, ⟨by (with_reducible repeat (first | refine blk_drewN ?_ _ | refine blk_drew ?_ | refine blk_alloc ?_ _)); refine blk_put (cs := #[.int .i64 (wrap64 (10 + a0_0)), .slice none 0 0]) ?_ 1 _ rfl; (with_reducible repeat (first | refine blk_drewN ?_ _ | refine blk_drew ?_ | refine blk_alloc ?_ _)); exact Ab.out⟩, ⟨pE3 HB.out Ag.out Ah.out Ai.out⟩⟩
 case rest =>
  clear HC2
  try clear c1
  try clear p2
  try clear c3
  try clear c5
  try clear p6
  try clear c8
  try clear c9
  try clear c12
  try clear c12b0
  try clear c12b1
  try clear c14
  try clear c15
  try clear c19
  try clear Av Aw
  try clear Az A0 A1 A2 A3 A4
  try clear Bb Bc Bd Be Bf Bg
  try clear Bn Bo
  try clear Bu Bv Bw Bx By Bz
  try clear Ax Ay
  try clear A5 A6 A7 A8 A9 Ba
  try clear Bh Bi Bj Bk Bl Bm
  try clear Bp Bq
  try clear B0 B1 B2 B3 B4 B5
  obtain ⟨kq, Aq, u657001, HA, HJ1, Ac, Aa, Ad, Ab, HB⟩ := hcut
  cases kq with
  | zero => exact absurd HA.out (by simp [garnerref24_Put.j0])
  | succ kj1 =>
   have H := HA.out
   clear HA
   simp only [garnerref24_Put.j0] at H
   by_cases c21 : a0_0 = 2
   ·rw [if_pos c21] at H
    obtain ⟨c21b0, c21b1⟩ := zc c21
    clear c21
    obtain ⟨t660, A22, H⟩ := zb H
    by_cases c23 : a0_0 = 3
    rotate_left
    ·rw [if_neg c23] at H
     obtain ⟨c23b0, c23b1⟩ := zk c23
     simp only [Option.some.injEq, Prod.mk.injEq] at H
     obtain ⟨rfl, rfl⟩ := H
     have hnb37 := Al.out
     have hnc37 := An.out
     have hnb38 := Af.out
     have hnc38 := Ao.out
     obtain ⟨_, _, _, _, _, _⟩ := bc6 Aa.out
     obtain ⟨_, _, _, _, _, _⟩ := bf6 Aa.out
     go_wp2_with (first | ((with_reducible refine zC 35 rfl ?_); refine zL (some 20) Try.func35 #[.agg #[.int .i64 a0_2, .int .i64 a0_3, .int .i64 a0_4]] ?_; (with_reducible refine (garnerref22_Put.calls kj1 a0_2 a0_3 a0_4 t660 _ A22.out).mono ?_); rintro e w40 ⟨v661, rfl, ho0, hb⟩; refine ⟨_, rfl, ?_⟩; have As := Am (Kd.R_lower (Kd.R_new' ho0 (Kd.R_lt (pR Ac.out))) (below_size (pE3 HB.out Ag.out Ah.out Ai.out))); replace Ac := Am (Kd.R_elder' (pR Ac.out) (Kd.R_base ho0) hb); replace Aa := kBa Aa hb; replace Ad := kBa Ad hb; replace Ab := kBa Ab hb; replace HB := zX3 HB Ag.out Ah.out Ai.out hb; (try clear hb); (try clear ho0); obtain ⟨Ca, Cb, Co⟩ := Kd.R_slice As.out; subst Co; have hnb42 := Ap.out; have hnc42 := Ae.out; obtain ⟨_, _⟩ := bc2 Ab.out; obtain ⟨_, _⟩ := bf2 Ab.out; obtain ⟨_, _, _, _, _, _⟩ := bc6 Aa.out; obtain ⟨_, _, _, _, _, _⟩ := bf6 Aa.out; obtain ⟨_, _⟩ := bc2 Ad.out; obtain ⟨_, _⟩ := bf2 Ad.out))
     refine bodyPost_ret (results_cell_row rfl _ _ Aj 24 #[.int .i64 (wrap64 (10 + a0_0)), .slice Ca t660.length Cb] (0, 0) _ rfl (kX1 Ad.out Ae.out) Try.underlying24 rfl (by kernel_rfl)) rfl ?_
     exact ⟨_, pX, by (with_reducible repeat (first | apply Kd.R_alloc | apply Kd.R_drewN | apply Kd.R_drew)); exact Kd.R_mono (Rf2 (g := Aj) (Kd.R_far (p := ⟨Ak, 1, none⟩) (Kd.R_types (Kd.R_types As.out Ab.out (by decide)) Ad.out (by decide)) (fun _ hk => hk.1.2) (.slice Ca t660.length Cb)) (fun _ hk => hk.2)) (fun _ hk => trivial), pE3 HB.out Ag.out Ah.out Ai.out⟩
    rw [if_pos c23] at H
    obtain ⟨c23b0, c23b1⟩ := zc c23
    clear c23
    obtain ⟨t663, A24, H⟩ := zb H
    simp only [Option.some.injEq, Prod.mk.injEq] at H
    obtain ⟨rfl, rfl⟩ := H
    have hnb25 := Al.out
    have hnc25 := An.out
    have hnb26 := Af.out
    have hnc26 := Ao.out
    obtain ⟨_, _, _, _, _, _⟩ := bc6 Aa.out
    obtain ⟨_, _, _, _, _, _⟩ := bf6 Aa.out
    go_wp2_with (first | ((with_reducible refine zC 35 rfl ?_); refine zL (some 20) Try.func35 #[.agg #[.int .i64 a0_2, .int .i64 a0_3, .int .i64 a0_4]] ?_; (with_reducible refine (garnerref22_Put.calls kj1 a0_2 a0_3 a0_4 t660 _ A22.out).mono ?_); rintro e w28 ⟨v661, rfl, ho0, hb⟩; refine ⟨_, rfl, ?_⟩; have As := Am (Kd.R_lower (Kd.R_new' ho0 (Kd.R_lt (pR Ac.out))) (below_size (pE3 HB.out Ag.out Ah.out Ai.out))); replace Ac := Am (Kd.R_elder' (pR Ac.out) (Kd.R_base ho0) hb); replace Aa := kBa Aa hb; replace Ad := kBa Ad hb; replace Ab := kBa Ab hb; replace HB := zX3 HB Ag.out Ah.out Ai.out hb; (try clear hb); (try clear ho0); obtain ⟨At, Au, Cm⟩ := Kd.R_slice As.out; subst Cm; have hnb30 := Ap.out; have hnc30 := Ae.out; obtain ⟨_, _⟩ := bc2 Ab.out; obtain ⟨_, _⟩ := bf2 Ab.out; obtain ⟨_, _, _, _, _, _⟩ := bc6 Aa.out; obtain ⟨_, _, _, _, _, _⟩ := bf6 Aa.out) | ((with_reducible refine zC 36 rfl ?_); refine zL (some 28) Try.func36 #[.int .u64 (IntKind.u64.wrap (a0_5))] ?_; (with_reducible refine (garnerref02_One.calls kj1 (IntKind.u64.wrap (a0_5)) t663 _ A24.out).mono ?_); rintro e w33 ⟨v664, rfl, ho0, hb⟩; refine ⟨_, rfl, ?_⟩; have Bs := Am (Kd.R_lower (Kd.R_new' (Kd.R_new' ho0 (Kd.R_lt (by (with_reducible repeat (first | apply Kd.R_alloc | apply Kd.R_drewN | apply Kd.R_drew)); exact (Kd.R_mono (Kd.R_far (p := ⟨Ak, 1, none⟩) (Kd.R_types Ac.out Ab.out (by decide)) (fun _ hk => hk.2) (.slice At t660.length Au)) (fun _ h_ => h_.1))))) (Kd.R_lt (by (with_reducible repeat (first | apply Kd.R_alloc | apply Kd.R_drewN | apply Kd.R_drew)); exact (Kd.R_mono (Kd.R_far (p := ⟨Ak, 1, none⟩) (Kd.R_types As.out Ab.out (by decide)) (fun _ hk => hk.2) (.slice At t660.length Au)) (fun _ h_ => h_.1))))) (below_size (pE3 HB.out Ag.out Ah.out Ai.out))); replace Ac := Am (Kd.R_elder' (by (with_reducible repeat (first | apply Kd.R_alloc | apply Kd.R_drewN | apply Kd.R_drew)); exact (Kd.R_mono (Kd.R_far (p := ⟨Ak, 1, none⟩) (Kd.R_types Ac.out Ab.out (by decide)) (fun _ hk => hk.2) (.slice At t660.length Au)) (fun _ h_ => h_.1))) (Kd.R_base ho0) hb); replace As := Am (Kd.R_elder' (by (with_reducible repeat (first | apply Kd.R_alloc | apply Kd.R_drewN | apply Kd.R_drew)); exact (Kd.R_mono (Kd.R_far (p := ⟨Ak, 1, none⟩) (Kd.R_types As.out Ab.out (by decide)) (fun _ hk => hk.2) (.slice At t660.length Au)) (fun _ h_ => h_.1))) (Kd.R_base ho0) hb); replace Aa := Am (blk_below (g := Ar) (kX1 Aa.out Af.out) hb); replace Ad := Am (blk_below (g := Aj) (kX1 Ad.out Ae.out) hb); replace Ab := Am (blk_below (g := Ak) (o := .cells #[.int .i64 (wrap64 (10 + a0_0)), .slice At t660.length Au] 24 (0, 0)) (by (with_reducible repeat (first | refine blk_drewN ?_ _ | refine blk_drew ?_ | refine blk_alloc ?_ _)); refine blk_put (cs := #[.int .i64 (wrap64 (10 + a0_0)), u657001]) ?_ 1 _ rfl; (with_reducible repeat (first | refine blk_drewN ?_ _ | refine blk_drew ?_ | refine blk_alloc ?_ _)); exact Ab.out) hb); replace HB := zX3 HB Ag.out Ah.out Ai.out hb; (try clear hb); (try clear hk); (try clear ho0); obtain ⟨B8, B9, Cn⟩ := Kd.R_slice Bs.out; subst Cn; obtain ⟨_, _⟩ := bc2 Ab.out; obtain ⟨_, _⟩ := bf2 Ab.out; obtain ⟨_, _⟩ := bc2 Ad.out; obtain ⟨_, _⟩ := bf2 Ad.out))
    refine bodyPost_ret (results_cell_row rfl _ _ Aj 24 #[.int .i64 (wrap64 (10 + a0_0)), .slice B8 t663.length B9] (0, 0) _ rfl (kX1 Ad.out Ae.out) Try.underlying24 rfl (by kernel_rfl)) rfl ?_
    exact ⟨_, pX, by (with_reducible repeat (first | apply Kd.R_alloc | apply Kd.R_drewN | apply Kd.R_drew)); exact Kd.R_mono (Rf2 (g := Aj) (Kd.R_far (p := ⟨Ak, 1, none⟩) (Kd.R_types (Kd.R_types Bs.out Ab.out (by decide)) Ad.out (by decide)) (fun _ hk => hk.1.2) (.slice B8 t663.length B9)) (fun _ hk => hk.2)) (fun _ hk => trivial), pE3 HB.out Ag.out Ah.out Ai.out⟩
   rw [if_neg c21] at H
   obtain ⟨c21b0, c21b1⟩ := zk c21
   by_cases c46 : a0_0 = 3
   ·rw [if_pos c46] at H
    obtain ⟨c46b0, c46b1⟩ := zc c46
    clear c46
    obtain ⟨t666, A47, H⟩ := zb H
    simp only [Option.some.injEq, Prod.mk.injEq] at H
    obtain ⟨rfl, rfl⟩ := H
    have hnb48 := Al.out
    have hnc48 := An.out
    have hnb49 := Af.out
    have hnc49 := Ao.out
    obtain ⟨_, _, _, _, _, _⟩ := bc6 Aa.out
    obtain ⟨_, _, _, _, _, _⟩ := bf6 Aa.out
    go_wp2_with (first | ((with_reducible refine zC 36 rfl ?_); refine zL (some 28) Try.func36 #[.int .u64 (IntKind.u64.wrap (a0_5))] ?_; (with_reducible refine (garnerref02_One.calls kj1 (IntKind.u64.wrap (a0_5)) t666 _ A47.out).mono ?_); rintro e w51 ⟨v667, rfl, ho0, hb⟩; refine ⟨_, rfl, ?_⟩; have Bt := Am (Kd.R_lower (Kd.R_new' ho0 (Kd.R_lt (pR Ac.out))) (below_size (pE3 HB.out Ag.out Ah.out Ai.out))); replace Ac := Am (Kd.R_elder' (pR Ac.out) (Kd.R_base ho0) hb); replace Aa := kBa Aa hb; replace Ad := kBa Ad hb; replace Ab := kBa Ab hb; replace HB := zX3 HB Ag.out Ah.out Ai.out hb; (try clear hb); (try clear ho0); obtain ⟨Cc, Cd, Cp⟩ := Kd.R_slice Bt.out; subst Cp; have hnb53 := Ap.out; have hnc53 := Ae.out; obtain ⟨_, _⟩ := bc2 Ab.out; obtain ⟨_, _⟩ := bf2 Ab.out; obtain ⟨_, _⟩ := bc2 Ad.out; obtain ⟨_, _⟩ := bf2 Ad.out))
    refine bodyPost_ret (results_cell_row rfl _ _ Aj 24 #[.int .i64 (wrap64 (10 + a0_0)), .slice Cc t666.length Cd] (0, 0) _ rfl (kX1 Ad.out Ae.out) Try.underlying24 rfl (by kernel_rfl)) rfl ?_
    exact ⟨_, pX, by (with_reducible repeat (first | apply Kd.R_alloc | apply Kd.R_drewN | apply Kd.R_drew)); exact Kd.R_mono (Rf2 (g := Aj) (Kd.R_far (p := ⟨Ak, 1, none⟩) (Kd.R_types (Kd.R_types Bt.out Ab.out (by decide)) Ad.out (by decide)) (fun _ hk => hk.1.2) (.slice Cc t666.length Cd)) (fun _ hk => hk.2)) (fun _ hk => trivial), pE3 HB.out Ag.out Ah.out Ai.out⟩
   rw [if_neg c46] at H
   obtain ⟨c46b0, c46b1⟩ := zk c46
   simp only [Option.some.injEq, Prod.mk.injEq] at H
   obtain ⟨rfl, rfl⟩ := H
   have hnb56 := Al.out
   have hnc56 := An.out
   have hnb57 := Af.out
   have hnc57 := Ao.out
   obtain ⟨_, _, _, _, _, _⟩ := bc6 Aa.out
   obtain ⟨_, _, _, _, _, _⟩ := bf6 Aa.out
   have hnb59 := Ap.out
   have hnc59 := Ae.out
   obtain ⟨_, _⟩ := bc2 Ab.out
   obtain ⟨_, _⟩ := bf2 Ab.out
   obtain ⟨_, _⟩ := bc2 Ad.out
   obtain ⟨_, _⟩ := bf2 Ad.out
   obtain ⟨Cq, Cr, Cs⟩ := Kd.R_slice Ac.out
   subst Cs
   go_wp2
   refine bodyPost_ret (results_cell_row rfl _ _ Aj 24 #[.int .i64 (wrap64 (10 + a0_0)), .slice Cq Aq.length Cr] (0, 0) _ rfl (kX0 Ad.out) Try.underlying24 rfl (by kernel_rfl)) rfl ?_
   exact ⟨_, pX, by (with_reducible repeat (first | apply Kd.R_alloc | apply Kd.R_drewN | apply Kd.R_drew)); exact Kd.R_mono (Rf2 (g := Aj) (Kd.R_types Ac.out Ad.out (by decide)) (fun _ hk => hk.2)) (fun _ hk => trivial), pE3 HB.out Ag.out Ah.out Ai.out⟩
end Go.Proofs.Ytdanmjfkocjgjaa.PWalPuts
