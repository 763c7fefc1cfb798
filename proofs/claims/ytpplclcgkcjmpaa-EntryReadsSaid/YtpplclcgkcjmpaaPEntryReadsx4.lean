/- What the law reaches, as plain Lean functions, and that the machine's calls answer just that. -/
import Derived.Test.YtpplclcgkcjmpaaPEntryReadsx0
import Derived.Test.YtpplclcgkcjmpaaPEntryReadsx3
namespace Go.Proofs.Ytpplclcgkcjmpaa.PEntryReads
open Go.RowKit Go.Proofs.YtpplclcgkcjmpaaW.PrintWords Go.Proofs.YtpplclcgkcjmpaaW.PrintLast Go.Proofs.YtpplclcgkcjmpaaW.PrintMore
attribute [local go_sem] max2_int min2_int max_two min_two max_three min_three max_four min_four
set_option linter.unusedVariables false
set_option linter.unusedSimpArgs false
attribute [local go_sem] wrap64_l1 wrap64_l2 wrap64_l3 wrap64_l4 wrap64_l5
def entry_Put.l0 : Nat → List Int → List (S42) → Int → Int → Option (List Int × Int)
 | 0, _, _, _, _ => none
 | k + 1, x5, x25, x26, x27 => if x27 < x26 then (if 0 ≤ x27 then (if x27 < (x25.length : Int) then ((varint_Put.f k (([IntKind.u64.wrap ((rd_T42 x25 x27).f1)] : List Int))).bind fun t179 => (if x5.length + t179.length < 140737488355328 then ((some (x5 ++ t179 : List Int)).bind fun y182 => (if y182.length < 140737488355328 then ((some (y182 ++ [((rd_T42 x25 x27).f2) % 256] : List Int)).bind fun y185 => ((varint_Put.f k (([IntKind.u64.wrap ((((rd_T42 x25 x27).f3).size : Int))] : List Int))).bind fun t191 => (if y185.length + t191.length < 140737488355328 then ((some (y185 ++ t191 : List Int)).bind fun y194 => (if y194.length + ((rd_T42 x25 x27).f3).size < 140737488355328 then ((some (y194 ++ bytesOf ((rd_T42 x25 x27).f3) : List Int)).bind fun y197 => (if ((rd_T42 x25 x27).f2) = 2 then (entry_Put.l0 k y197 x25 x26 (wrap64 (x27 + 1))) else ((cell_Put.f k ((rd_T42 x25 x27).f4.f0) ((rd_T42 x25 x27).f4.f1) ((rd_T42 x25 x27).f4.f2.f0) ((rd_T42 x25 x27).f4.f2.f1) ((rd_T42 x25 x27).f4.f2.f2) ((rd_T42 x25 x27).f4.f2.f3)).bind fun bt200 => (if y197.length + bt200.1.length < 140737488355328 then (entry_Put.l0 k (y197 ++ bt200.1) x25 x26 (wrap64 (x27 + 1))) else (none))))) else (none))) else (none)))) else (none))) else (none))) else (none)) else (none)) else (some (x5, 0))
def entry_Put.f (k : Nat) (l0 : List (S42)) : Option (List Int × Int) := (entry_Batch.f k l0).bind fun t166 => (if t166 = 0 then (if 0 < (l0.length : Int) then ((varint_Put.f k (([IntKind.u64.wrap ((l0.length : Int)), IntKind.u64.wrap ((rd_T42 l0 0).f0)] : List Int))).bind fun t171 => (entry_Put.l0 k t171 l0 (l0.length : Int) 0)) else (none)) else (some (([] : List Int), t166)))
theorem entry_Put.mono_l : ∀ k, (∀ y0 y1 y2 y3, LeO (entry_Put.l0 k y0 y1 y2 y3) (entry_Put.l0 (k + 1) y0 y1 y2 y3))
 | 0 => fun _ _ _ _ r h => by simp [entry_Put.l0] at h
 | k + 1 => by
  have ih0 := entry_Put.mono_l k
  ·intro y0 y1 y2 y3
   unfold entry_Put.l0
   repeat' first
   | (with_reducible exact ih0 _ _ _ _)
   | (with_reducible exact cell_Put.mono _ _ _ _ _ _ _)
   | (with_reducible exact entry_Batch.mono _ _)
   | (with_reducible exact varint_Put.mono _ _)
   | (with_reducible exact LeO.refl _)
   | (with_reducible exact LeO.none _)
   | (with_reducible refine LeO.ite ?_ ?_)
   | (with_reducible refine LeO.bind ?_ (fun _ => ?_))
   | exact ih0 _ _ _ _
   | exact cell_Put.mono _ _ _ _ _ _ _
   | exact entry_Batch.mono _ _
   | exact varint_Put.mono _ _
   | exact LeO.none _
   | refine LeO.ite ?_ ?_
   | refine LeO.bind ?_ (fun _ => ?_)
theorem entry_Put.mono : ∀ a0 k, LeO (entry_Put.f k a0) (entry_Put.f (k + 1) a0) := by
 intro a0 k
 have ih0 := entry_Put.mono_l k
 unfold entry_Put.f
 repeat' first
   | (with_reducible exact ih0 _ _ _ _)
   | (with_reducible exact cell_Put.mono _ _ _ _ _ _ _)
   | (with_reducible exact entry_Batch.mono _ _)
   | (with_reducible exact varint_Put.mono _ _)
   | (with_reducible exact LeO.refl _)
   | (with_reducible exact LeO.none _)
   | (with_reducible refine LeO.ite ?_ ?_)
   | (with_reducible refine LeO.bind ?_ (fun _ => ?_))
   | exact ih0 _ _ _ _
   | exact cell_Put.mono _ _ _ _ _ _ _
   | exact entry_Batch.mono _ _
   | exact varint_Put.mono _ _
   | exact LeO.none _
   | refine LeO.ite ?_ ?_
   | refine LeO.bind ?_ (fun _ => ?_)
set_option maxHeartbeats 8000000 in
set_option maxRecDepth 100000 in
theorem entry_Put.calls (k : Nat) (A0 : Option Addr) (c0 : Nat) (l0 : List (S42)) (r1 : List Int) (r2 : Int) (w : World) (hr0 : Kd.C k42 w A0 l0.length l0) (hc0 : l0.length ≤ c0) (h : entry_Put.f k l0 = some (r1, r2)) :
  Calls Try.prog 11 #[.slice A0 l0.length c0] w fun e w' => ∃ v0_ : Value, e = .returned (.tuple #[v0_, .int .i64 r2]) ∧ Kd.R (Kd.int .u8) 5 w' w.heap.size (fun _ => True) v0_ r1 ∧ Below w.heap.size w w' := by
 have hu42 := Try.underlying42
 have hu40 := Try.underlying40
 have HR0 := Am hr0
 have HC0 := Am hc0
 clear hr0 hc0
 have HB := Am (Below.refl w.heap.size w)
 have H : ((entry_Batch.f k l0).bind fun t166 => (if t166 = 0 then (if 0 < (l0.length : Int) then ((varint_Put.f k (([IntKind.u64.wrap ((l0.length : Int)), IntKind.u64.wrap ((rd_T42 l0 0).f0)] : List Int))).bind fun t171 => (entry_Put.l0 k t171 l0 (l0.length : Int) 0)) else (none)) else (some (([] : List Int), t166)))) = some (r1, r2) := h
 clear h
 replace H := Option.bind_eq_some_iff.mp H
 obtain ⟨t166, A20, H⟩ := H
 replace H : (if t166 = 0 then (if 0 < (l0.length : Int) then ((varint_Put.f k (([IntKind.u64.wrap ((l0.length : Int)), IntKind.u64.wrap ((rd_T42 l0 0).f0)] : List Int))).bind fun t171 => (entry_Put.l0 k t171 l0 (l0.length : Int) 0)) else (none)) else (some (([] : List Int), t166))) = some (r1, r2) := H
 have A2 := Am A20
 clear A20
 by_cases c3 : t166 = 0
 rotate_left
 ·rw [if_neg c3] at H
  have c3b0 : (t166 == 0) = false := beq_eq_false_iff_ne.mpr c3
  have c3b1 : (t166 != 0) = true := bne_iff_ne.mpr c3
  simp only [Option.some.injEq, Prod.mk.injEq] at H
  obtain ⟨rfl, rfl⟩ := H
  go_enter Try.func11, Try.ntmps11
  go_wp2_with (first | ((with_reducible refine gate_callee (f := 14) rfl ?_); refine goesL_ (some 11) rfl rfl Try.func14 (by kernel_rfl) rfl #[.slice A0 l0.length c0] rfl pL ?_; (with_reducible refine (entry_Batch.calls k _ _ l0 t166 _ ?Ak ?Al A2.out).mono ?_); (case Ak => repeat (first | exact HR0.out | (with_reducible refine Kd.C_alloc ?_ _) | (with_reducible refine Kd.C_drewN ?_ _) | (with_reducible refine Kd.C_drew ?_))); (case Al => exact HC0.out); rintro e w66 ⟨rfl, hb⟩; refine ⟨_, rfl, ?_⟩; replace HB := Am (below_step (pB HB.out) hb); (try clear hb); (try clear hb2); (try clear hk); (try clear hi)))
  go_ret2
  exact ⟨_, pX, by first | exact Kd.R_nil _ _ _ _ _ | exact Kd.N_nil _ _ _ _ _ | exact Kd.V_nil _ _ _ _ _ | exact Kd.Q_nil _ _ _ _ _ | exact Kd.S_nil _ _ _ _ _, pB HB.out⟩
 rw [if_pos c3] at H
 have c3b0 : (t166 == 0) = true := beq_iff_eq.mpr c3
 have c3b1 : (t166 != 0) = false := bne_eq_false_iff_eq.mpr c3
 clear c3
 by_cases c4 : 0 < (l0.length : Int)
 rotate_left
 ·rw [if_neg c4] at H
  exact absurd H (by simp)
 rw [if_pos c4] at H
 have c4b0 : decide (0 < (l0.length : Int)) = true := decide_eq_true c4
 have c4b1 : decide (0 < l0.length) = true := decide_eq_true (by omega)
 clear c4
 obtain ⟨y168, hy168⟩ : ∃ y_ : List Int, y_ = (([IntKind.u64.wrap ((l0.length : Int)), IntKind.u64.wrap ((rd_T42 l0 0).f0)] : List Int)) := ⟨_, rfl⟩
 replace H : ((varint_Put.f k y168).bind fun t171 => (entry_Put.l0 k t171 l0 (l0.length : Int) 0)) = some (r1, r2) := by first | (rw [hy168]; with_reducible exact H) | (have H2_ := (Option.bind_some _ _).symm.trans H; rw [hy168]; with_reducible exact H2_) | (have H2_ := (Option.bind_some _ _).symm.trans H; with_reducible exact H2_) | with_reducible exact H | (rw [hy168]; exact H) | exact H
 have Ny168 := Am hy168
 clear hy168
 replace H := Option.bind_eq_some_iff.mp H
 obtain ⟨t171, A50, H⟩ := H
 replace H : (entry_Put.l0 k t171 l0 (l0.length : Int) 0) = some (r1, r2) := H
 have A5 := Am A50
 clear A50
 have H' := Am H
 clear H
 go_enter Try.func11, Try.ntmps11
 go_wp2_with (first | ((with_reducible refine gate_callee (f := 14) rfl ?_); refine goesL_ (some 11) rfl rfl Try.func14 (by kernel_rfl) rfl #[.slice A0 l0.length c0] rfl pL ?_; (with_reducible refine (entry_Batch.calls k _ _ l0 t166 _ ?Ak ?Al A2.out).mono ?_); (case Ak => repeat (first | exact HR0.out | (with_reducible refine Kd.C_alloc ?_ _) | (with_reducible refine Kd.C_drewN ?_ _) | (with_reducible refine Kd.C_drew ?_))); (case Al => exact HC0.out); rintro e w6 ⟨rfl, hb⟩; refine ⟨_, rfl, ?_⟩; replace HB := Am (below_step (pB HB.out) hb); (try clear hb); (try clear hb2); (try clear hk); (try clear hi); have p167 : 0 ≤ (0 : Int) := (by omega); have q167 : 0 < (l0.length : Int) := of_decide_eq_true pS; obtain ⟨Bx, A167_5, c167_5, e167, Ap, Aq, Ar, As, At, Au, Av, Aw, Ax, Ay, Bd, Be⟩ := at_T42 HR0.out 0 p167 q167; cases e167; have qi167 : (0 < l0.length) = True := eq_true (by omega); (try rw [tz] at Ap); (try rw [show 0 * 10 = 0 from rfl] at Ap); (try rw [Addr.add_zero'] at Ap); (try rw [tz] at Aq); (try rw [show 0 * 10 = 0 from rfl] at Aq); (try rw [Addr.add_zero'] at Aq); (try rw [tz] at Ar); (try rw [show 0 * 10 = 0 from rfl] at Ar); (try rw [Addr.add_zero'] at Ar); (try rw [tz] at As); (try rw [show 0 * 10 = 0 from rfl] at As); (try rw [Addr.add_zero'] at As); (try rw [tz] at At); (try rw [show 0 * 10 = 0 from rfl] at At); (try rw [Addr.add_zero'] at At); (try rw [tz] at Au); (try rw [show 0 * 10 = 0 from rfl] at Au); (try rw [Addr.add_zero'] at Au); (try rw [tz] at Av); (try rw [show 0 * 10 = 0 from rfl] at Av); (try rw [Addr.add_zero'] at Av); (try rw [tz] at Aw); (try rw [show 0 * 10 = 0 from rfl] at Aw); (try rw [Addr.add_zero'] at Aw); (try rw [tz] at Ax); (try rw [show 0 * 10 = 0 from rfl] at Ax); (try rw [Addr.add_zero'] at Ax); (try rw [tz] at Ay); (try rw [show 0 * 10 = 0 from rfl] at Ay); (try rw [Addr.add_zero'] at Ay); replace Ap := cU HB.out Ap; replace Aq := cU HB.out Aq; replace Ar := cU HB.out Ar; replace As := cU HB.out As; replace At := cU HB.out At; replace Au := cU HB.out Au; replace Av := cU HB.out Av; replace Aw := cU HB.out Aw; replace Ax := cU HB.out Ax; replace Ay := cU HB.out Ay; have HR167_5 := Am Be; have HC167_5 := Am Bd; clear Be Bd; replace p167 := eq_true p167; replace q167 := eq_true q167) | ((with_reducible refine gate_dst (N := 23) rfl ?_); refine Kd.R_lit (Kd.int .u64) _ 52 ?hg (N := 23) ?hd (xs := ([IntKind.u64.wrap ((l0.length : Int)), IntKind.u64.wrap ((rd_T42 l0 0).f0)] : List Int)) (inner := [.int .u64 (IntKind.u64.wrap ((l0.length : Int))), .int .u64 (IntKind.u64.wrap ((rd_T42 l0 0).f0))]) (ok := fun _ => True) (okp := fun _ => True) ?hr ?hp (fun _ hk => hk) trivial (Below.refl _ _) (Nat.le_refl _) (by simp) ?_; (case hd => rfl); (case hg => rfl); (case hr => first | (go_simp; done) | (go_simp; rfl)); (case hp => exact (Reps.one (show Kd.M (Kd.int .u64) _ _ _ (IntKind.u64.wrap ((l0.length : Int))) [.int .u64 (IntKind.u64.wrap ((l0.length : Int)))] from rfl) (Reps.one (show Kd.M (Kd.int .u64) _ _ _ (IntKind.u64.wrap ((rd_T42 l0 0).f0)) [.int .u64 (IntKind.u64.wrap ((rd_T42 l0 0).f0))] from rfl) (Reps.none _ _)))); intro v169 w7 ho8 hb hg_ hnew_; clear hg_ hnew_; (first | rw [← Ny168.out] at ho8 | (simp only [Int.reduceToNat] at ho8; rw [← Ny168.out] at ho8)); have A9 := Am (Kd.R_lower ho8 (below_size (pB HB.out))); replace HB := Am (below_step (pB HB.out) hb); clear hb ho8; obtain ⟨Cj, Ck, Cl⟩ := Kd.R_slice A9.out; subst Cl) | ((with_reducible refine gate_callee (f := 21) rfl ?_); refine goesL_ (some 24) rfl rfl Try.func21 (by kernel_rfl) rfl #[.slice Cj y168.length Ck] rfl pL ?_; (with_reducible refine (varint_Put.calls k _ _ y168 t171 _ ?Ak ?Al A5.out).mono ?_); (case Ak => exact pC (Kd.R_reads' A9.out).2.2); (case Al => exact (Kd.R_reads' A9.out).2.1); rintro e w10 ⟨v172, rfl, ho0, hb⟩; refine ⟨_, rfl, ?_⟩; replace A9 := bRa A9 hb; have B0 := Am (Kd.R_lower ho0 (below_size (pB HB.out))); replace HB := Am (below_step (pB HB.out) hb); (try clear hb); (try clear hb2); (try clear hk); (try clear hi); (try clear ho0)))
 go_loopg [5, 27] k (fun kq v5 v27 w' => ∃ (A6 : List Int) (Aa : Int), v27 = .int .i64 Aa ∧ Aside0 (entry_Put.l0 kq A6 l0 (l0.length : Int) Aa = some (r1, r2)) ∧ Aside0 (kq ≤ k) ∧ Aside0 (Kd.R (Kd.int .u8) 5 w' w.heap.size (fun _ => True) v5 A6) ∧ Aside0 (Below w.heap.size w w'))
 case atStart => exact ⟨(t171), (0), (by first | rfl | (simp; done) | (simp [*]; done)), H', ⟨Nat.le_refl _⟩, ⟨by (with_reducible repeat (first | apply Kd.R_alloc | apply Kd.R_drewN | apply Kd.R_drew)); exact B0.out⟩, ⟨pB HB.out⟩⟩
 case round =>
  clear H'
  try clear c1
  try clear p1
  try clear q1
  try clear hx1
  try clear qi1
  try clear c2
  try clear p2
  try clear c3
  try clear c3b0
  try clear c3b1
  try clear c4
  try clear c4b0
  try clear c4b1
  try clear Ap
  try clear Aq
  try clear Ar
  try clear As
  try clear At
  try clear Au
  try clear Av
  try clear Aw
  try clear Ax
  try clear Ay
  try clear p167
  try clear q167
  obtain ⟨A6, Aa, rfl, HA, HK1, Aj, HB⟩ := hrel
  cases gk with
  | zero => exact absurd HA.out (by simp [entry_Put.l0])
  | succ k1 =>
   have H := HA.out
   clear HA
   simp only [entry_Put.l0] at H
   by_cases c11 : Aa < (l0.length : Int)
   rotate_left
   ·rw [if_neg c11] at H
    have c11b0 : decide (Aa < (l0.length : Int)) = false := decide_eq_false c11
    clear c11
    simp only [Option.some.injEq, Prod.mk.injEq] at H
    obtain ⟨rfl, rfl⟩ := H
    go_wp2
    go_ret2
    exact ⟨_, pX, by (with_reducible repeat (first | apply Kd.R_alloc | apply Kd.R_drewN | apply Kd.R_drew)); exact Aj.out, pB HB.out⟩
   rw [if_pos c11] at H
   have c11b0 : decide (Aa < (l0.length : Int)) = true := decide_eq_true c11
   clear c11
   by_cases c12 : 0 ≤ Aa
   rotate_left
   ·rw [if_neg c12] at H
    exact absurd H (by simp)
   rw [if_pos c12] at H
   have c12b0 : decide (0 ≤ Aa) = true := decide_eq_true c12
   clear c12
   by_cases c13 : Aa < (l0.length : Int)
   rotate_left
   ·rw [if_neg c13] at H
    exact absurd H (by simp)
   rw [if_pos c13] at H
   have c13b0 : decide (Aa < (l0.length : Int)) = true := decide_eq_true c13
   clear c13
   obtain ⟨y176, hy176⟩ : ∃ y_ : List Int, y_ = (([IntKind.u64.wrap ((rd_T42 l0 Aa).f1)] : List Int)) := ⟨_, rfl⟩
   replace H : ((varint_Put.f k1 y176).bind fun t179 => (if A6.length + t179.length < 140737488355328 then ((some (A6 ++ t179 : List Int)).bind fun y182 => (if y182.length < 140737488355328 then ((some (y182 ++ [((rd_T42 l0 Aa).f2) % 256] : List Int)).bind fun y185 => ((varint_Put.f k1 (([IntKind.u64.wrap ((((rd_T42 l0 Aa).f3).size : Int))] : List Int))).bind fun t191 => (if y185.length + t191.length < 140737488355328 then ((some (y185 ++ t191 : List Int)).bind fun y194 => (if y194.length + ((rd_T42 l0 Aa).f3).size < 140737488355328 then ((some (y194 ++ bytesOf ((rd_T42 l0 Aa).f3) : List Int)).bind fun y197 => (if ((rd_T42 l0 Aa).f2) = 2 then (entry_Put.l0 k1 y197 l0 (l0.length : Int) (wrap64 (Aa + 1))) else ((cell_Put.f k1 ((rd_T42 l0 Aa).f4.f0) ((rd_T42 l0 Aa).f4.f1) ((rd_T42 l0 Aa).f4.f2.f0) ((rd_T42 l0 Aa).f4.f2.f1) ((rd_T42 l0 Aa).f4.f2.f2) ((rd_T42 l0 Aa).f4.f2.f3)).bind fun bt200 => (if y197.length + bt200.1.length < 140737488355328 then (entry_Put.l0 k1 (y197 ++ bt200.1) l0 (l0.length : Int) (wrap64 (Aa + 1))) else (none))))) else (none))) else (none)))) else (none))) else (none))) = some (r1, r2) := by first | (rw [hy176]; with_reducible exact H) | (have H2_ := (Option.bind_some _ _).symm.trans H; rw [hy176]; with_reducible exact H2_) | (have H2_ := (Option.bind_some _ _).symm.trans H; with_reducible exact H2_) | with_reducible exact H | (rw [hy176]; exact H) | exact H
   have Ny176 := Am hy176
   clear hy176
   replace H := Option.bind_eq_some_iff.mp H
   obtain ⟨t179, A140, H⟩ := H
   replace H : (if A6.length + t179.length < 140737488355328 then ((some (A6 ++ t179 : List Int)).bind fun y182 => (if y182.length < 140737488355328 then ((some (y182 ++ [((rd_T42 l0 Aa).f2) % 256] : List Int)).bind fun y185 => ((varint_Put.f k1 (([IntKind.u64.wrap ((((rd_T42 l0 Aa).f3).size : Int))] : List Int))).bind fun t191 => (if y185.length + t191.length < 140737488355328 then ((some (y185 ++ t191 : List Int)).bind fun y194 => (if y194.length + ((rd_T42 l0 Aa).f3).size < 140737488355328 then ((some (y194 ++ bytesOf ((rd_T42 l0 Aa).f3) : List Int)).bind fun y197 => (if ((rd_T42 l0 Aa).f2) = 2 then (entry_Put.l0 k1 y197 l0 (l0.length : Int) (wrap64 (Aa + 1))) else ((cell_Put.f k1 ((rd_T42 l0 Aa).f4.f0) ((rd_T42 l0 Aa).f4.f1) ((rd_T42 l0 Aa).f4.f2.f0) ((rd_T42 l0 Aa).f4.f2.f1) ((rd_T42 l0 Aa).f4.f2.f2) ((rd_T42 l0 Aa).f4.f2.f3)).bind fun bt200 => (if y197.length + bt200.1.length < 140737488355328 then (entry_Put.l0 k1 (y197 ++ bt200.1) l0 (l0.length : Int) (wrap64 (Aa + 1))) else (none))))) else (none))) else (none)))) else (none))) else (none)) = some (r1, r2) := H
   have A14 := Am A140
   clear A140
   by_cases c15 : A6.length + t179.length < 140737488355328
   rotate_left
   ·rw [if_neg c15] at H
    exact absurd H (by simp)
   rw [if_pos c15] at H
   have LMc15 := Am c15
   clear c15
   obtain ⟨y182, hy182⟩ : ∃ y_ : List Int, y_ = (A6 ++ t179) := ⟨_, rfl⟩
   replace H : (if y182.length < 140737488355328 then ((some (y182 ++ [((rd_T42 l0 Aa).f2) % 256] : List Int)).bind fun y185 => ((varint_Put.f k1 (([IntKind.u64.wrap ((((rd_T42 l0 Aa).f3).size : Int))] : List Int))).bind fun t191 => (if y185.length + t191.length < 140737488355328 then ((some (y185 ++ t191 : List Int)).bind fun y194 => (if y194.length + ((rd_T42 l0 Aa).f3).size < 140737488355328 then ((some (y194 ++ bytesOf ((rd_T42 l0 Aa).f3) : List Int)).bind fun y197 => (if ((rd_T42 l0 Aa).f2) = 2 then (entry_Put.l0 k1 y197 l0 (l0.length : Int) (wrap64 (Aa + 1))) else ((cell_Put.f k1 ((rd_T42 l0 Aa).f4.f0) ((rd_T42 l0 Aa).f4.f1) ((rd_T42 l0 Aa).f4.f2.f0) ((rd_T42 l0 Aa).f4.f2.f1) ((rd_T42 l0 Aa).f4.f2.f2) ((rd_T42 l0 Aa).f4.f2.f3)).bind fun bt200 => (if y197.length + bt200.1.length < 140737488355328 then (entry_Put.l0 k1 (y197 ++ bt200.1) l0 (l0.length : Int) (wrap64 (Aa + 1))) else (none))))) else (none))) else (none)))) else (none)) = some (r1, r2) := by first | (rw [hy182]; with_reducible exact H) | (have H2_ := (Option.bind_some _ _).symm.trans H; rw [hy182]; with_reducible exact H2_) | (have H2_ := (Option.bind_some _ _).symm.trans H; with_reducible exact H2_) | with_reducible exact H | (rw [hy182]; exact H) | exact H
   have Ny182 := Am hy182
   clear hy182
   by_cases c16 : y182.length < 140737488355328
   rotate_left
   ·rw [if_neg c16] at H
    exact absurd H (by simp)
   rw [if_pos c16] at H
   have LMc16 := Am c16
   clear c16
   obtain ⟨y185, hy185⟩ : ∃ y_ : List Int, y_ = (y182 ++ [((rd_T42 l0 Aa).f2) % 256]) := ⟨_, rfl⟩
   replace H : ((varint_Put.f k1 (([IntKind.u64.wrap ((((rd_T42 l0 Aa).f3).size : Int))] : List Int))).bind fun t191 => (if y185.length + t191.length < 140737488355328 then ((some (y185 ++ t191 : List Int)).bind fun y194 => (if y194.length + ((rd_T42 l0 Aa).f3).size < 140737488355328 then ((some (y194 ++ bytesOf ((rd_T42 l0 Aa).f3) : List Int)).bind fun y197 => (if ((rd_T42 l0 Aa).f2) = 2 then (entry_Put.l0 k1 y197 l0 (l0.length : Int) (wrap64 (Aa + 1))) else ((cell_Put.f k1 ((rd_T42 l0 Aa).f4.f0) ((rd_T42 l0 Aa).f4.f1) ((rd_T42 l0 Aa).f4.f2.f0) ((rd_T42 l0 Aa).f4.f2.f1) ((rd_T42 l0 Aa).f4.f2.f2) ((rd_T42 l0 Aa).f4.f2.f3)).bind fun bt200 => (if y197.length + bt200.1.length < 140737488355328 then (entry_Put.l0 k1 (y197 ++ bt200.1) l0 (l0.length : Int) (wrap64 (Aa + 1))) else (none))))) else (none))) else (none))) = some (r1, r2) := by first | (rw [hy185]; with_reducible exact H) | (have H2_ := (Option.bind_some _ _).symm.trans H; rw [hy185]; with_reducible exact H2_) | (have H2_ := (Option.bind_some _ _).symm.trans H; with_reducible exact H2_) | with_reducible exact H | (rw [hy185]; exact H) | exact H
   have Ny185 := Am hy185
   clear hy185
   obtain ⟨y188, hy188⟩ : ∃ y_ : List Int, y_ = (([IntKind.u64.wrap ((((rd_T42 l0 Aa).f3).size : Int))] : List Int)) := ⟨_, rfl⟩
   replace H : ((varint_Put.f k1 y188).bind fun t191 => (if y185.length + t191.length < 140737488355328 then ((some (y185 ++ t191 : List Int)).bind fun y194 => (if y194.length + ((rd_T42 l0 Aa).f3).size < 140737488355328 then ((some (y194 ++ bytesOf ((rd_T42 l0 Aa).f3) : List Int)).bind fun y197 => (if ((rd_T42 l0 Aa).f2) = 2 then (entry_Put.l0 k1 y197 l0 (l0.length : Int) (wrap64 (Aa + 1))) else ((cell_Put.f k1 ((rd_T42 l0 Aa).f4.f0) ((rd_T42 l0 Aa).f4.f1) ((rd_T42 l0 Aa).f4.f2.f0) ((rd_T42 l0 Aa).f4.f2.f1) ((rd_T42 l0 Aa).f4.f2.f2) ((rd_T42 l0 Aa).f4.f2.f3)).bind fun bt200 => (if y197.length + bt200.1.length < 140737488355328 then (entry_Put.l0 k1 (y197 ++ bt200.1) l0 (l0.length : Int) (wrap64 (Aa + 1))) else (none))))) else (none))) else (none))) = some (r1, r2) := by first | (rw [hy188]; with_reducible exact H) | (have H2_ := (Option.bind_some _ _).symm.trans H; rw [hy188]; with_reducible exact H2_) | (have H2_ := (Option.bind_some _ _).symm.trans H; with_reducible exact H2_) | with_reducible exact H | (rw [hy188]; exact H) | exact H
   have Ny188 := Am hy188
   clear hy188
   replace H := Option.bind_eq_some_iff.mp H
   obtain ⟨t191, A170, H⟩ := H
   replace H : (if y185.length + t191.length < 140737488355328 then ((some (y185 ++ t191 : List Int)).bind fun y194 => (if y194.length + ((rd_T42 l0 Aa).f3).size < 140737488355328 then ((some (y194 ++ bytesOf ((rd_T42 l0 Aa).f3) : List Int)).bind fun y197 => (if ((rd_T42 l0 Aa).f2) = 2 then (entry_Put.l0 k1 y197 l0 (l0.length : Int) (wrap64 (Aa + 1))) else ((cell_Put.f k1 ((rd_T42 l0 Aa).f4.f0) ((rd_T42 l0 Aa).f4.f1) ((rd_T42 l0 Aa).f4.f2.f0) ((rd_T42 l0 Aa).f4.f2.f1) ((rd_T42 l0 Aa).f4.f2.f2) ((rd_T42 l0 Aa).f4.f2.f3)).bind fun bt200 => (if y197.length + bt200.1.length < 140737488355328 then (entry_Put.l0 k1 (y197 ++ bt200.1) l0 (l0.length : Int) (wrap64 (Aa + 1))) else (none))))) else (none))) else (none)) = some (r1, r2) := H
   have A17 := Am A170
   clear A170
   by_cases c18 : y185.length + t191.length < 140737488355328
   rotate_left
   ·rw [if_neg c18] at H
    exact absurd H (by simp)
   rw [if_pos c18] at H
   have LMc18 := Am c18
   clear c18
   obtain ⟨y194, hy194⟩ : ∃ y_ : List Int, y_ = (y185 ++ t191) := ⟨_, rfl⟩
   replace H : (if y194.length + ((rd_T42 l0 Aa).f3).size < 140737488355328 then ((some (y194 ++ bytesOf ((rd_T42 l0 Aa).f3) : List Int)).bind fun y197 => (if ((rd_T42 l0 Aa).f2) = 2 then (entry_Put.l0 k1 y197 l0 (l0.length : Int) (wrap64 (Aa + 1))) else ((cell_Put.f k1 ((rd_T42 l0 Aa).f4.f0) ((rd_T42 l0 Aa).f4.f1) ((rd_T42 l0 Aa).f4.f2.f0) ((rd_T42 l0 Aa).f4.f2.f1) ((rd_T42 l0 Aa).f4.f2.f2) ((rd_T42 l0 Aa).f4.f2.f3)).bind fun bt200 => (if y197.length + bt200.1.length < 140737488355328 then (entry_Put.l0 k1 (y197 ++ bt200.1) l0 (l0.length : Int) (wrap64 (Aa + 1))) else (none))))) else (none)) = some (r1, r2) := by first | (rw [hy194]; with_reducible exact H) | (have H2_ := (Option.bind_some _ _).symm.trans H; rw [hy194]; with_reducible exact H2_) | (have H2_ := (Option.bind_some _ _).symm.trans H; with_reducible exact H2_) | with_reducible exact H | (rw [hy194]; exact H) | exact H
   have Ny194 := Am hy194
   clear hy194
   by_cases c19 : y194.length + ((rd_T42 l0 Aa).f3).size < 140737488355328
   rotate_left
   ·rw [if_neg c19] at H
    exact absurd H (by simp)
   rw [if_pos c19] at H
   have LMc19 := Am c19
   clear c19
   obtain ⟨y197, hy197⟩ : ∃ y_ : List Int, y_ = (y194 ++ bytesOf ((rd_T42 l0 Aa).f3)) := ⟨_, rfl⟩
   replace H : (if ((rd_T42 l0 Aa).f2) = 2 then (entry_Put.l0 k1 y197 l0 (l0.length : Int) (wrap64 (Aa + 1))) else ((cell_Put.f k1 ((rd_T42 l0 Aa).f4.f0) ((rd_T42 l0 Aa).f4.f1) ((rd_T42 l0 Aa).f4.f2.f0) ((rd_T42 l0 Aa).f4.f2.f1) ((rd_T42 l0 Aa).f4.f2.f2) ((rd_T42 l0 Aa).f4.f2.f3)).bind fun bt200 => (if y197.length + bt200.1.length < 140737488355328 then (entry_Put.l0 k1 (y197 ++ bt200.1) l0 (l0.length : Int) (wrap64 (Aa + 1))) else (none)))) = some (r1, r2) := by first | (rw [hy197]; with_reducible exact H) | (have H2_ := (Option.bind_some _ _).symm.trans H; rw [hy197]; with_reducible exact H2_) | (have H2_ := (Option.bind_some _ _).symm.trans H; with_reducible exact H2_) | with_reducible exact H | (rw [hy197]; exact H) | exact H
   have Ny197 := Am hy197
   clear hy197
   by_cases c20 : ((rd_T42 l0 Aa).f2) = 2
   ·rw [if_pos c20] at H
    have c20b0 : (((rd_T42 l0 Aa).f2) == 2) = true := beq_iff_eq.mpr c20
    have c20b1 : (((rd_T42 l0 Aa).f2) != 2) = false := bne_eq_false_iff_eq.mpr c20
    clear c20
    have H' := Am H
    clear H
    have p174 : 0 ≤ (Aa : Int) := of_decide_eq_true pS
    have q174 : Aa < (l0.length : Int) := of_decide_eq_true pS
    obtain ⟨Bj, An, c174_5, e174, Bn, Bo, Bp, Bq, Br, Bs, Bt, Bu, Bv, Bw, A3, A4⟩ := at_T42u HR0.out Aa p174 q174 HB.out
    obtain rfl : Bx = Bj := (by injection e174)
    have Bf := Am A4
    have Bg := Am A3
    clear A4 A3
    replace p174 := eq_true p174
    replace q174 := eq_true q174
    go_wp2_with (first | ((with_reducible refine gate_dst (N := 7) rfl ?_); refine box_event ?hg (N := 7) ?hd (cs := #[.int .i64 0, .int .i64 0, .int .i64 0, .string (⟨#[]⟩ : ByteArray), .bool false, .slice none 0 0, .int .i64 0, .int .i64 0, .int .i64 0, .int .u32 0]) (t := 42) ?hr ?_; (case hd => rfl); (case hg => rfl); (case hr => first | (go_simp; done) | (go_simp; rfl)); intro Ai hg w21 hbox hb; replace Aj := bRa Aj hb; have Ab := Am (hbox); have Bk := Am ((by rw [hg]; exact (below_size (pB HB.out)) : w.heap.size ≤ Ai)); replace HB := Am (below_step (pB HB.out) hb); have Ae := Bk; clear hb hbox hg; obtain ⟨_, _, _, _, _, _, _, _, _, _⟩ := bc10 Ab.out; obtain ⟨_, _, _, _, _, _, _, _, _, _⟩ := bf10 Ab.out) | ((with_reducible refine gate_dst (N := 35) rfl ?_); refine Kd.R_lit (Kd.int .u64) _ 52 ?hg (N := 35) ?hd (xs := ([IntKind.u64.wrap ((rd_T42 l0 Aa).f1)] : List Int)) (inner := [.int .u64 (IntKind.u64.wrap ((rd_T42 l0 Aa).f1))]) (ok := fun _ => True) (okp := fun _ => True) ?hr ?hp (fun _ hk => hk) trivial (Below.refl _ _) (Nat.le_refl _) (by simp) ?_; (case hd => rfl); (case hg => rfl); (case hr => first | (go_simp; done) | (go_simp; rfl)); (case hp => exact (Reps.one (show Kd.M (Kd.int .u64) _ _ _ (IntKind.u64.wrap ((rd_T42 l0 Aa).f1)) [.int .u64 (IntKind.u64.wrap ((rd_T42 l0 Aa).f1))] from rfl) (Reps.none _ _))); intro v177 w23 ho24 hb hg_ hnew_; clear hg_ hnew_; (first | rw [← Ny176.out] at ho24 | (simp only [Int.reduceToNat] at ho24; rw [← Ny176.out] at ho24)); replace Aj := Am (Kd.R_below (by (with_reducible repeat (first | apply Kd.R_alloc | apply Kd.R_drewN | apply Kd.R_drew)); exact (Kd.R_mono (Rf10 (g := Ai) (Kd.R_types Aj.out Ab.out (by decide)) (fun _ hk => hk.2)) (fun _ h_ => h_.1))) hb); have Ad := Am (Kd.R_lower ho24 (below_size (pE HB.out Ae.out))); replace Ab := Am (blk_below (g := Ai) (kX0 Ab.out) hb); replace HB := Am (below_step (pE HB.out Ae.out) hb); clear hb ho24; obtain ⟨B2, B3, B4⟩ := Kd.R_slice Ad.out; subst B4) | ((with_reducible refine gate_callee (f := 21) rfl ?_); refine goesL_ (some 36) rfl rfl Try.func21 (by kernel_rfl) rfl #[.slice B2 y176.length B3] rfl pL ?_; (with_reducible refine (varint_Put.calls k1 _ _ y176 t179 _ ?Ak ?Al A14.out).mono ?_); (case Ak => exact pC (Kd.R_reads' Ad.out).2.2); (case Al => exact (Kd.R_reads' Ad.out).2.1); rintro e w26 ⟨v180, rfl, ho0, hb⟩; refine ⟨_, rfl, ?_⟩; replace Ad := bRa Ad hb; have Ac := Am (Kd.R_lower (Kd.R_new' ho0 (Kd.R_lt (pR Aj.out))) (below_size (pE HB.out Ae.out))); replace Aj := Am (Kd.R_elder' (pR Aj.out) (Kd.R_base ho0) hb); replace Ab := kBa Ab hb; replace HB := Am (below_step (pE HB.out Ae.out) hb); (try clear hb); (try clear hb2); (try clear hk); (try clear hi); (try clear ho0); obtain ⟨Bh, Bi, B5⟩ := Kd.R_slice Ac.out; subst B5) | ((with_reducible refine gate_builtin (b := .append) (xs := #[.tmp 31, .tmp 36]) rfl ?_); at_builtin; refine Kd.R_append_rows (Kd.int .u8) (w0 := w) w.heap.size rfl (.tmp 31) (.tmp 36) 22 5 (.int .u8 0) 1 rfl Try.underlying22 info5 rfl (by decide) (by omega) u5 A6 t179 _ _ _ (fun k_ => some k_ ≠ (.slice Bh t179.length Bi : Value).ownBlock) (fun _ => False) rfl rfl ?aO ?aR (fun _ _ h => h) (fun _ h => h.elim) ?aF ?aB ?aS ?aL ?_; (case aR => exact pC (Kd.R_reads' Ac.out).2.2); (case aB => exact (pE HB.out Ae.out)); (case aF => exact (fun k_ hk => Kd.fresh' (Kd.R_lt (pR Ac.out)) k_ hk)); (case aO => exact (by (with_reducible repeat (first | apply Kd.R_alloc | apply Kd.R_drewN | apply Kd.R_drew)); exact Kd.R_mono Aj.out (fun _ hk => hk.2))); (case aS => exact (below_size (pE HB.out Ae.out))); (case aL => have := LMc15.out; omega); intro v183 w27 ho hb hg hat; rw [← Ny182.out] at ho; replace Ab := Am (blk_grown (g := Ai) (o := .cells #[.int .i64 ((rd_T42 l0 Aa).f0), .int .i64 ((rd_T42 l0 Aa).f1), .int .i64 ((rd_T42 l0 Aa).f2), .string ((rd_T42 l0 Aa).f3), .bool ((rd_T42 l0 Aa).f4.f0), .slice An ((rd_T42 l0 Aa).f4.f1).length c174_5, .int .i64 ((rd_T42 l0 Aa).f4.f2.f0), .int .i64 ((rd_T42 l0 Aa).f4.f2.f1), .int .i64 ((rd_T42 l0 Aa).f4.f2.f2), .int .u32 ((rd_T42 l0 Aa).f4.f2.f3)] 42 (0, 0)) (pK Ab.out) hg (Kd.R_ne Aj.out Ab.out (by decide))); replace Ad := Am (Kd.R_over' (pR Ad.out) (Kd.R_typed (pR Aj.out)) (by decide) hg); replace Ac := Am (Kd.R_after (ok := (fun _ => True)) (pR Ac.out) hg hat); replace HB := Am (hb); have A1 := Am (ho); clear Aj ho hb hg hat; obtain ⟨_, _, _, _, _, _, _, _, _, _⟩ := bc10 Ab.out; obtain ⟨_, _, _, _, _, _, _, _, _, _⟩ := bf10 Ab.out) | ((with_reducible refine gate_builtin (b := .append) (xs := #[.tmp 38, .tmp 42]) rfl ?_); at_builtin; refine Kd.R_append (Kd.int .u8) (w0 := w) w.heap.size rfl (.tmp 38) (.tmp 42) 22 5 (.int .u8 0) 1 rfl Try.underlying22 info5 rfl (by decide) (by omega) v183 y182 (((rd_T42 l0 Aa).f2) % 256) [.int .u8 (((rd_T42 l0 Aa).f2) % 256)] (fun k_ => some k_ ≠ (.slice Bh t179.length Bi : Value).ownBlock) (fun _ => False) rfl rfl ?aP (fun _ hk => hk.elim) ?aF ?aO ?aB ?aS ?aL ?_; (case aP => exact rfl); (case aB => exact (pE HB.out Ae.out)); (case aF => exact (fun k_ hk => Kd.fresh' (Kd.R_lt (pR Ac.out)) k_ hk)); (case aO => exact (pR A1.out)); (case aS => exact (below_size (pE HB.out Ae.out))); (case aL => have := LMc16.out; omega); intro v186 w30 ho hb hg hat; rw [← Ny185.out] at ho; replace Ab := Am (blk_grown (g := Ai) (o := .cells #[.int .i64 ((rd_T42 l0 Aa).f0), .int .i64 ((rd_T42 l0 Aa).f1), .int .i64 ((rd_T42 l0 Aa).f2), .string ((rd_T42 l0 Aa).f3), .bool ((rd_T42 l0 Aa).f4.f0), .slice An ((rd_T42 l0 Aa).f4.f1).length c174_5, .int .i64 ((rd_T42 l0 Aa).f4.f2.f0), .int .i64 ((rd_T42 l0 Aa).f4.f2.f1), .int .i64 ((rd_T42 l0 Aa).f4.f2.f2), .int .u32 ((rd_T42 l0 Aa).f4.f2.f3)] 42 (0, 0)) (pK Ab.out) hg (Kd.R_ne A1.out Ab.out (by decide))); replace Ad := Am (Kd.R_over' (pR Ad.out) (Kd.R_typed (pR A1.out)) (by decide) hg); replace Ac := Am (Kd.R_after (ok := (fun _ => True)) (pR Ac.out) hg hat); replace HB := Am (hb); have Ah := Am (ho); clear A1 ho hb hg hat; obtain ⟨_, _, _, _, _, _, _, _, _, _⟩ := bc10 Ab.out; obtain ⟨_, _, _, _, _, _, _, _, _, _⟩ := bf10 Ab.out) | ((with_reducible refine gate_dst (N := 49) rfl ?_); refine Kd.R_lit (Kd.int .u64) _ 52 ?hg (N := 49) ?hd (xs := ([IntKind.u64.wrap ((((rd_T42 l0 Aa).f3).size : Int))] : List Int)) (inner := [.int .u64 (IntKind.u64.wrap ((((rd_T42 l0 Aa).f3).size : Int)))]) (ok := fun _ => True) (okp := fun _ => True) ?hr ?hp (fun _ hk => hk) trivial (Below.refl _ _) (Nat.le_refl _) (by simp) ?_; (case hd => rfl); (case hg => rfl); (case hr => first | (go_simp; done) | (go_simp; rfl)); (case hp => exact (Reps.one (show Kd.M (Kd.int .u64) _ _ _ (IntKind.u64.wrap ((((rd_T42 l0 Aa).f3).size : Int))) [.int .u64 (IntKind.u64.wrap ((((rd_T42 l0 Aa).f3).size : Int)))] from rfl) (Reps.none _ _))); intro v189 w32 ho33 hb hg_ hnew_; clear hg_ hnew_; (first | rw [← Ny188.out] at ho33 | (simp only [Int.reduceToNat] at ho33; rw [← Ny188.out] at ho33)); replace Ac := bRa Ac hb; replace Ah := bRa Ah hb; have Af := Am (Kd.R_lower (Kd.R_new' ho33 (Kd.R_lt (pR Ad.out))) (below_size (pE HB.out Ae.out))); replace Ad := Am (Kd.R_elder' (pR Ad.out) (Kd.R_base ho33) hb); replace Ab := kBa Ab hb; replace HB := Am (below_step (pE HB.out Ae.out) hb); clear hb ho33; obtain ⟨B6, B7, B8⟩ := Kd.R_slice Af.out; subst B8) | ((with_reducible refine gate_callee (f := 21) rfl ?_); refine goesL_ (some 50) rfl rfl Try.func21 (by kernel_rfl) rfl #[.slice B6 y188.length B7] rfl pL ?_; (with_reducible refine (varint_Put.calls k1 _ _ y188 t191 _ ?Ak ?Al A17.out).mono ?_); (case Ak => exact pC (Kd.R_reads' Af.out).2.2); (case Al => exact (Kd.R_reads' Af.out).2.1); rintro e w35 ⟨v192, rfl, ho0, hb⟩; refine ⟨_, rfl, ?_⟩; replace Ad := bRa Ad hb; replace Af := bRa Af hb; have Ag := Am (Kd.R_lower (Kd.R_new' (Kd.R_new' ho0 (Kd.R_lt (pR Ac.out))) (Kd.R_lt (pR Ah.out))) (below_size (pE HB.out Ae.out))); replace Ac := Am (Kd.R_elder' (pR Ac.out) (Kd.R_base ho0) hb); replace Ah := Am (Kd.R_elder' (pR Ah.out) (Kd.R_base ho0) hb); replace Ab := kBa Ab hb; replace HB := Am (below_step (pE HB.out Ae.out) hb); (try clear hb); (try clear hb2); (try clear hk); (try clear hi); (try clear ho0); obtain ⟨Bl, Bm, B9⟩ := Kd.R_slice Ag.out; subst B9) | ((with_reducible refine gate_builtin (b := .append) (xs := #[.tmp 44, .tmp 50]) rfl ?_); at_builtin; refine Kd.R_append_rows (Kd.int .u8) (w0 := w) w.heap.size rfl (.tmp 44) (.tmp 50) 22 5 (.int .u8 0) 1 rfl Try.underlying22 info5 rfl (by decide) (by omega) v186 y185 t191 _ _ _ (fun k_ => some k_ ≠ (.slice Bh t179.length Bi : Value).ownBlock ∧ some k_ ≠ (.slice Bl t191.length Bm : Value).ownBlock) (fun _ => False) rfl rfl ?aO ?aR (fun _ _ h => h) (fun _ h => h.elim) ?aF ?aB ?aS ?aL ?_; (case aR => exact pC (Kd.R_reads' Ag.out).2.2); (case aB => exact (pE HB.out Ae.out)); (case aF => exact (fun k_ hk => ⟨Kd.fresh' (Kd.R_lt (pR Ac.out)) k_ hk, Kd.fresh' (Kd.R_lt (pR Ag.out)) k_ hk⟩)); (case aO => exact (pR Ah.out)); (case aS => exact (below_size (pE HB.out Ae.out))); (case aL => have := LMc18.out; omega); intro v195 w36 ho hb hg hat; rw [← Ny194.out] at ho; replace Ab := Am (blk_grown (g := Ai) (o := .cells #[.int .i64 ((rd_T42 l0 Aa).f0), .int .i64 ((rd_T42 l0 Aa).f1), .int .i64 ((rd_T42 l0 Aa).f2), .string ((rd_T42 l0 Aa).f3), .bool ((rd_T42 l0 Aa).f4.f0), .slice An ((rd_T42 l0 Aa).f4.f1).length c174_5, .int .i64 ((rd_T42 l0 Aa).f4.f2.f0), .int .i64 ((rd_T42 l0 Aa).f4.f2.f1), .int .i64 ((rd_T42 l0 Aa).f4.f2.f2), .int .u32 ((rd_T42 l0 Aa).f4.f2.f3)] 42 (0, 0)) (pK Ab.out) hg (Kd.R_ne Ah.out Ab.out (by decide))); replace Ad := Am (Kd.R_over' (pR Ad.out) (Kd.R_typed (pR Ah.out)) (by decide) hg); replace Ac := Am (Kd.R_after (ok := (fun k_ => some k_ ≠ (.slice Bl t191.length Bm : Value).ownBlock)) (by (with_reducible repeat (first | apply Kd.R_alloc | apply Kd.R_drewN | apply Kd.R_drew)); exact Kd.R_mono Ac.out (fun _ hk => ⟨hk.2, hk.1.2⟩)) hg hat); replace Af := Am (Kd.R_over' (pR Af.out) (Kd.R_typed (pR Ah.out)) (by decide) hg); replace Ag := Am (Kd.R_after (ok := (fun k_ => some k_ ≠ (.slice Bh t179.length Bi : Value).ownBlock)) (by (with_reducible repeat (first | apply Kd.R_alloc | apply Kd.R_drewN | apply Kd.R_drew)); exact Kd.R_mono Ag.out (fun _ hk => ⟨hk.1.2, hk.2⟩)) hg hat); replace HB := Am (hb); have Ao := Am (ho); clear Ah ho hb hg hat; obtain ⟨_, _, _, _, _, _, _, _, _, _⟩ := bc10 Ab.out; obtain ⟨_, _, _, _, _, _, _, _, _, _⟩ := bf10 Ab.out) | (at_builtin; refine R_append_str (w0 := w) w.heap.size rfl (.tmp 52) _ 22 9 5 rfl Try.underlying22 Try.underlying9 info5 v195 y194 ((rd_T42 l0 Aa).f3) (fun k_ => some k_ ≠ (.slice Bh t179.length Bi : Value).ownBlock ∧ some k_ ≠ (.slice Bl t191.length Bm : Value).ownBlock) rfl rfl ?aO ?aF ?aB ?aS ?aL ?_; (case aB => exact (pE HB.out Ae.out)); (case aF => exact (fun k_ hk => ⟨Kd.fresh' (Kd.R_lt (pR Ac.out)) k_ hk, Kd.fresh' (Kd.R_lt (pR Ag.out)) k_ hk⟩)); (case aO => exact (pR Ao.out)); (case aS => exact (below_size (pE HB.out Ae.out))); (case aL => have := LMc19.out; omega); intro v198 w39 ho hb hg hat; rw [← Ny197.out] at ho; replace Ab := Am (blk_grown (g := Ai) (o := .cells #[.int .i64 ((rd_T42 l0 Aa).f0), .int .i64 ((rd_T42 l0 Aa).f1), .int .i64 ((rd_T42 l0 Aa).f2), .string ((rd_T42 l0 Aa).f3), .bool ((rd_T42 l0 Aa).f4.f0), .slice An ((rd_T42 l0 Aa).f4.f1).length c174_5, .int .i64 ((rd_T42 l0 Aa).f4.f2.f0), .int .i64 ((rd_T42 l0 Aa).f4.f2.f1), .int .i64 ((rd_T42 l0 Aa).f4.f2.f2), .int .u32 ((rd_T42 l0 Aa).f4.f2.f3)] 42 (0, 0)) (pK Ab.out) hg (Kd.R_ne Ao.out Ab.out (by decide))); replace Ad := Am (Kd.R_over' (pR Ad.out) (Kd.R_typed (pR Ao.out)) (by decide) hg); replace Ac := Am (Kd.R_after (ok := (fun k_ => some k_ ≠ (.slice Bl t191.length Bm : Value).ownBlock)) (pR Ac.out) hg hat); replace Af := Am (Kd.R_over' (pR Af.out) (Kd.R_typed (pR Ao.out)) (by decide) hg); replace Ag := Am (Kd.R_after (ok := (fun k_ => some k_ ≠ (.slice Bh t179.length Bi : Value).ownBlock)) (pR Ag.out) hg hat); replace HB := Am (hb); have Az := Am (ho); clear Ao ho hb hg hat; obtain ⟨_, _, _, _, _, _, _, _, _, _⟩ := bc10 Ab.out; obtain ⟨_, _, _, _, _, _, _, _, _, _⟩ := bf10 Ab.out))
    go_roundg k1
    case measure => have := HK1.out; omega
    case rel => exact ⟨(y197), (wrap64 (Aa + 1)), (by first | rfl | (simp; done) | (simp [*]; done)), H', ⟨by have := HK1.out; omega⟩, ⟨by (with_reducible repeat (first | apply Kd.R_alloc | apply Kd.R_drewN | apply Kd.R_drew)); exact Kd.R_mono Az.out (fun _ hk => trivial)⟩, ⟨pE HB.out Ae.out⟩⟩
   rw [if_neg c20] at H
   have c20b0 : (((rd_T42 l0 Aa).f2) == 2) = false := beq_eq_false_iff_ne.mpr c20
   have c20b1 : (((rd_T42 l0 Aa).f2) != 2) = true := bne_iff_ne.mpr c20
   replace H := Option.bind_eq_some_iff.mp H
   obtain ⟨⟨t200, t203⟩, A410, H⟩ := H
   replace H : (if y197.length + t200.length < 140737488355328 then (entry_Put.l0 k1 (y197 ++ t200) l0 (l0.length : Int) (wrap64 (Aa + 1))) else (none)) = some (r1, r2) := H
   have A41 := Am A410
   clear A410
   by_cases c42 : y197.length + t200.length < 140737488355328
   rotate_left
   ·rw [if_neg c42] at H
    exact absurd H (by simp)
   rw [if_pos c42] at H
   have LMc42 := Am c42
   clear c42
   obtain ⟨y204, hy204⟩ : ∃ y_ : List Int, y_ = (y197 ++ t200) := ⟨_, rfl⟩
   replace H : (entry_Put.l0 k1 y204 l0 (l0.length : Int) (wrap64 (Aa + 1))) = some (r1, r2) := by first | (rw [hy204]; with_reducible exact H) | (have H2_ := (Option.bind_some _ _).symm.trans H; rw [hy204]; with_reducible exact H2_) | (have H2_ := (Option.bind_some _ _).symm.trans H; with_reducible exact H2_) | with_reducible exact H | (rw [hy204]; exact H) | exact H
   have Ny204 := Am hy204
   clear hy204
   have H' := Am H
   clear H
   have p174 : 0 ≤ (Aa : Int) := of_decide_eq_true pS
   have q174 : Aa < (l0.length : Int) := of_decide_eq_true pS
   obtain ⟨Bj, An, c174_5, e174, Bn, Bo, Bp, Bq, Br, Bs, Bt, Bu, Bv, Bw, A3, A4⟩ := at_T42u HR0.out Aa p174 q174 HB.out
   obtain rfl : Bx = Bj := (by injection e174)
   have Bf := Am A4
   have Bg := Am A3
   clear A4 A3
   replace p174 := eq_true p174
   replace q174 := eq_true q174
   go_wp2_with (first | ((with_reducible refine gate_dst (N := 7) rfl ?_); refine box_event ?hg (N := 7) ?hd (cs := #[.int .i64 0, .int .i64 0, .int .i64 0, .string (⟨#[]⟩ : ByteArray), .bool false, .slice none 0 0, .int .i64 0, .int .i64 0, .int .i64 0, .int .u32 0]) (t := 42) ?hr ?_; (case hd => rfl); (case hg => rfl); (case hr => first | (go_simp; done) | (go_simp; rfl)); intro Ai hg w43 hbox hb; replace Aj := bRa Aj hb; have Ab := Am (hbox); have Bk := Am ((by rw [hg]; exact (below_size (pB HB.out)) : w.heap.size ≤ Ai)); replace HB := Am (below_step (pB HB.out) hb); have Ae := Bk; clear hb hbox hg; obtain ⟨_, _, _, _, _, _, _, _, _, _⟩ := bc10 Ab.out; obtain ⟨_, _, _, _, _, _, _, _, _, _⟩ := bf10 Ab.out) | ((with_reducible refine gate_dst (N := 35) rfl ?_); refine Kd.R_lit (Kd.int .u64) _ 52 ?hg (N := 35) ?hd (xs := ([IntKind.u64.wrap ((rd_T42 l0 Aa).f1)] : List Int)) (inner := [.int .u64 (IntKind.u64.wrap ((rd_T42 l0 Aa).f1))]) (ok := fun _ => True) (okp := fun _ => True) ?hr ?hp (fun _ hk => hk) trivial (Below.refl _ _) (Nat.le_refl _) (by simp) ?_; (case hd => rfl); (case hg => rfl); (case hr => first | (go_simp; done) | (go_simp; rfl)); (case hp => exact (Reps.one (show Kd.M (Kd.int .u64) _ _ _ (IntKind.u64.wrap ((rd_T42 l0 Aa).f1)) [.int .u64 (IntKind.u64.wrap ((rd_T42 l0 Aa).f1))] from rfl) (Reps.none _ _))); intro v177 w45 ho46 hb hg_ hnew_; clear hg_ hnew_; (first | rw [← Ny176.out] at ho46 | (simp only [Int.reduceToNat] at ho46; rw [← Ny176.out] at ho46)); replace Aj := Am (Kd.R_below (by (with_reducible repeat (first | apply Kd.R_alloc | apply Kd.R_drewN | apply Kd.R_drew)); exact (Kd.R_mono (Rf10 (g := Ai) (Kd.R_types Aj.out Ab.out (by decide)) (fun _ hk => hk.2)) (fun _ h_ => h_.1))) hb); have Ad := Am (Kd.R_lower ho46 (below_size (pE HB.out Ae.out))); replace Ab := Am (blk_below (g := Ai) (kX0 Ab.out) hb); replace HB := Am (below_step (pE HB.out Ae.out) hb); clear hb ho46; obtain ⟨Ca, Cb, Cc⟩ := Kd.R_slice Ad.out; subst Cc) | ((with_reducible refine gate_callee (f := 21) rfl ?_); refine goesL_ (some 36) rfl rfl Try.func21 (by kernel_rfl) rfl #[.slice Ca y176.length Cb] rfl pL ?_; (with_reducible refine (varint_Put.calls k1 _ _ y176 t179 _ ?Ak ?Al A14.out).mono ?_); (case Ak => exact pC (Kd.R_reads' Ad.out).2.2); (case Al => exact (Kd.R_reads' Ad.out).2.1); rintro e w48 ⟨v180, rfl, ho0, hb⟩; refine ⟨_, rfl, ?_⟩; replace Ad := bRa Ad hb; have Ac := Am (Kd.R_lower (Kd.R_new' ho0 (Kd.R_lt (pR Aj.out))) (below_size (pE HB.out Ae.out))); replace Aj := Am (Kd.R_elder' (pR Aj.out) (Kd.R_base ho0) hb); replace Ab := kBa Ab hb; replace HB := Am (below_step (pE HB.out Ae.out) hb); (try clear hb); (try clear hb2); (try clear hk); (try clear hi); (try clear ho0); obtain ⟨A7, A8, Cd⟩ := Kd.R_slice Ac.out; subst Cd) | ((with_reducible refine gate_builtin (b := .append) (xs := #[.tmp 31, .tmp 36]) rfl ?_); at_builtin; refine Kd.R_append_rows (Kd.int .u8) (w0 := w) w.heap.size rfl (.tmp 31) (.tmp 36) 22 5 (.int .u8 0) 1 rfl Try.underlying22 info5 rfl (by decide) (by omega) u5 A6 t179 _ _ _ (fun k_ => some k_ ≠ (.slice A7 t179.length A8 : Value).ownBlock) (fun _ => False) rfl rfl ?aO ?aR (fun _ _ h => h) (fun _ h => h.elim) ?aF ?aB ?aS ?aL ?_; (case aR => exact pC (Kd.R_reads' Ac.out).2.2); (case aB => exact (pE HB.out Ae.out)); (case aF => exact (fun k_ hk => Kd.fresh' (Kd.R_lt (pR Ac.out)) k_ hk)); (case aO => exact (by (with_reducible repeat (first | apply Kd.R_alloc | apply Kd.R_drewN | apply Kd.R_drew)); exact Kd.R_mono Aj.out (fun _ hk => hk.2))); (case aS => exact (below_size (pE HB.out Ae.out))); (case aL => have := LMc15.out; omega); intro v183 w49 ho hb hg hat; rw [← Ny182.out] at ho; replace Ab := Am (blk_grown (g := Ai) (o := .cells #[.int .i64 ((rd_T42 l0 Aa).f0), .int .i64 ((rd_T42 l0 Aa).f1), .int .i64 ((rd_T42 l0 Aa).f2), .string ((rd_T42 l0 Aa).f3), .bool ((rd_T42 l0 Aa).f4.f0), .slice An ((rd_T42 l0 Aa).f4.f1).length c174_5, .int .i64 ((rd_T42 l0 Aa).f4.f2.f0), .int .i64 ((rd_T42 l0 Aa).f4.f2.f1), .int .i64 ((rd_T42 l0 Aa).f4.f2.f2), .int .u32 ((rd_T42 l0 Aa).f4.f2.f3)] 42 (0, 0)) (pK Ab.out) hg (Kd.R_ne Aj.out Ab.out (by decide))); replace Ad := Am (Kd.R_over' (pR Ad.out) (Kd.R_typed (pR Aj.out)) (by decide) hg); replace Ac := Am (Kd.R_after (ok := (fun _ => True)) (pR Ac.out) hg hat); replace HB := Am (hb); have A1 := Am (ho); clear Aj ho hb hg hat; obtain ⟨_, _, _, _, _, _, _, _, _, _⟩ := bc10 Ab.out; obtain ⟨_, _, _, _, _, _, _, _, _, _⟩ := bf10 Ab.out) | ((with_reducible refine gate_builtin (b := .append) (xs := #[.tmp 38, .tmp 42]) rfl ?_); at_builtin; refine Kd.R_append (Kd.int .u8) (w0 := w) w.heap.size rfl (.tmp 38) (.tmp 42) 22 5 (.int .u8 0) 1 rfl Try.underlying22 info5 rfl (by decide) (by omega) v183 y182 (((rd_T42 l0 Aa).f2) % 256) [.int .u8 (((rd_T42 l0 Aa).f2) % 256)] (fun k_ => some k_ ≠ (.slice A7 t179.length A8 : Value).ownBlock) (fun _ => False) rfl rfl ?aP (fun _ hk => hk.elim) ?aF ?aO ?aB ?aS ?aL ?_; (case aP => exact rfl); (case aB => exact (pE HB.out Ae.out)); (case aF => exact (fun k_ hk => Kd.fresh' (Kd.R_lt (pR Ac.out)) k_ hk)); (case aO => exact (pR A1.out)); (case aS => exact (below_size (pE HB.out Ae.out))); (case aL => have := LMc16.out; omega); intro v186 w52 ho hb hg hat; rw [← Ny185.out] at ho; replace Ab := Am (blk_grown (g := Ai) (o := .cells #[.int .i64 ((rd_T42 l0 Aa).f0), .int .i64 ((rd_T42 l0 Aa).f1), .int .i64 ((rd_T42 l0 Aa).f2), .string ((rd_T42 l0 Aa).f3), .bool ((rd_T42 l0 Aa).f4.f0), .slice An ((rd_T42 l0 Aa).f4.f1).length c174_5, .int .i64 ((rd_T42 l0 Aa).f4.f2.f0), .int .i64 ((rd_T42 l0 Aa).f4.f2.f1), .int .i64 ((rd_T42 l0 Aa).f4.f2.f2), .int .u32 ((rd_T42 l0 Aa).f4.f2.f3)] 42 (0, 0)) (pK Ab.out) hg (Kd.R_ne A1.out Ab.out (by decide))); replace Ad := Am (Kd.R_over' (pR Ad.out) (Kd.R_typed (pR A1.out)) (by decide) hg); replace Ac := Am (Kd.R_after (ok := (fun _ => True)) (pR Ac.out) hg hat); replace HB := Am (hb); have Ah := Am (ho); clear A1 ho hb hg hat; obtain ⟨_, _, _, _, _, _, _, _, _, _⟩ := bc10 Ab.out; obtain ⟨_, _, _, _, _, _, _, _, _, _⟩ := bf10 Ab.out) | ((with_reducible refine gate_dst (N := 49) rfl ?_); refine Kd.R_lit (Kd.int .u64) _ 52 ?hg (N := 49) ?hd (xs := ([IntKind.u64.wrap ((((rd_T42 l0 Aa).f3).size : Int))] : List Int)) (inner := [.int .u64 (IntKind.u64.wrap ((((rd_T42 l0 Aa).f3).size : Int)))]) (ok := fun _ => True) (okp := fun _ => True) ?hr ?hp (fun _ hk => hk) trivial (Below.refl _ _) (Nat.le_refl _) (by simp) ?_; (case hd => rfl); (case hg => rfl); (case hr => first | (go_simp; done) | (go_simp; rfl)); (case hp => exact (Reps.one (show Kd.M (Kd.int .u64) _ _ _ (IntKind.u64.wrap ((((rd_T42 l0 Aa).f3).size : Int))) [.int .u64 (IntKind.u64.wrap ((((rd_T42 l0 Aa).f3).size : Int)))] from rfl) (Reps.none _ _))); intro v189 w54 ho55 hb hg_ hnew_; clear hg_ hnew_; (first | rw [← Ny188.out] at ho55 | (simp only [Int.reduceToNat] at ho55; rw [← Ny188.out] at ho55)); replace Ac := bRa Ac hb; replace Ah := bRa Ah hb; have Af := Am (Kd.R_lower (Kd.R_new' ho55 (Kd.R_lt (pR Ad.out))) (below_size (pE HB.out Ae.out))); replace Ad := Am (Kd.R_elder' (pR Ad.out) (Kd.R_base ho55) hb); replace Ab := kBa Ab hb; replace HB := Am (below_step (pE HB.out Ae.out) hb); clear hb ho55; obtain ⟨Ce, Cf, Cg⟩ := Kd.R_slice Af.out; subst Cg) | ((with_reducible refine gate_callee (f := 21) rfl ?_); refine goesL_ (some 50) rfl rfl Try.func21 (by kernel_rfl) rfl #[.slice Ce y188.length Cf] rfl pL ?_; (with_reducible refine (varint_Put.calls k1 _ _ y188 t191 _ ?Ak ?Al A17.out).mono ?_); (case Ak => exact pC (Kd.R_reads' Af.out).2.2); (case Al => exact (Kd.R_reads' Af.out).2.1); rintro e w57 ⟨v192, rfl, ho0, hb⟩; refine ⟨_, rfl, ?_⟩; replace Ad := bRa Ad hb; replace Af := bRa Af hb; have Ag := Am (Kd.R_lower (Kd.R_new' (Kd.R_new' ho0 (Kd.R_lt (pR Ac.out))) (Kd.R_lt (pR Ah.out))) (below_size (pE HB.out Ae.out))); replace Ac := Am (Kd.R_elder' (pR Ac.out) (Kd.R_base ho0) hb); replace Ah := Am (Kd.R_elder' (pR Ah.out) (Kd.R_base ho0) hb); replace Ab := kBa Ab hb; replace HB := Am (below_step (pE HB.out Ae.out) hb); (try clear hb); (try clear hb2); (try clear hk); (try clear hi); (try clear ho0); obtain ⟨Bb, Bc, Ch⟩ := Kd.R_slice Ag.out; subst Ch) | ((with_reducible refine gate_builtin (b := .append) (xs := #[.tmp 44, .tmp 50]) rfl ?_); at_builtin; refine Kd.R_append_rows (Kd.int .u8) (w0 := w) w.heap.size rfl (.tmp 44) (.tmp 50) 22 5 (.int .u8 0) 1 rfl Try.underlying22 info5 rfl (by decide) (by omega) v186 y185 t191 _ _ _ (fun k_ => some k_ ≠ (.slice A7 t179.length A8 : Value).ownBlock ∧ some k_ ≠ (.slice Bb t191.length Bc : Value).ownBlock) (fun _ => False) rfl rfl ?aO ?aR (fun _ _ h => h) (fun _ h => h.elim) ?aF ?aB ?aS ?aL ?_; (case aR => exact pC (Kd.R_reads' Ag.out).2.2); (case aB => exact (pE HB.out Ae.out)); (case aF => exact (fun k_ hk => ⟨Kd.fresh' (Kd.R_lt (pR Ac.out)) k_ hk, Kd.fresh' (Kd.R_lt (pR Ag.out)) k_ hk⟩)); (case aO => exact (pR Ah.out)); (case aS => exact (below_size (pE HB.out Ae.out))); (case aL => have := LMc18.out; omega); intro v195 w58 ho hb hg hat; rw [← Ny194.out] at ho; replace Ab := Am (blk_grown (g := Ai) (o := .cells #[.int .i64 ((rd_T42 l0 Aa).f0), .int .i64 ((rd_T42 l0 Aa).f1), .int .i64 ((rd_T42 l0 Aa).f2), .string ((rd_T42 l0 Aa).f3), .bool ((rd_T42 l0 Aa).f4.f0), .slice An ((rd_T42 l0 Aa).f4.f1).length c174_5, .int .i64 ((rd_T42 l0 Aa).f4.f2.f0), .int .i64 ((rd_T42 l0 Aa).f4.f2.f1), .int .i64 ((rd_T42 l0 Aa).f4.f2.f2), .int .u32 ((rd_T42 l0 Aa).f4.f2.f3)] 42 (0, 0)) (pK Ab.out) hg (Kd.R_ne Ah.out Ab.out (by decide))); replace Ad := Am (Kd.R_over' (pR Ad.out) (Kd.R_typed (pR Ah.out)) (by decide) hg); replace Ac := Am (Kd.R_after (ok := (fun k_ => some k_ ≠ (.slice Bb t191.length Bc : Value).ownBlock)) (by (with_reducible repeat (first | apply Kd.R_alloc | apply Kd.R_drewN | apply Kd.R_drew)); exact Kd.R_mono Ac.out (fun _ hk => ⟨hk.2, hk.1.2⟩)) hg hat); replace Af := Am (Kd.R_over' (pR Af.out) (Kd.R_typed (pR Ah.out)) (by decide) hg); replace Ag := Am (Kd.R_after (ok := (fun k_ => some k_ ≠ (.slice A7 t179.length A8 : Value).ownBlock)) (by (with_reducible repeat (first | apply Kd.R_alloc | apply Kd.R_drewN | apply Kd.R_drew)); exact Kd.R_mono Ag.out (fun _ hk => ⟨hk.1.2, hk.2⟩)) hg hat); replace HB := Am (hb); have Ao := Am (ho); clear Ah ho hb hg hat; obtain ⟨_, _, _, _, _, _, _, _, _, _⟩ := bc10 Ab.out; obtain ⟨_, _, _, _, _, _, _, _, _, _⟩ := bf10 Ab.out) | (at_builtin; refine R_append_str (w0 := w) w.heap.size rfl (.tmp 52) _ 22 9 5 rfl Try.underlying22 Try.underlying9 info5 v195 y194 ((rd_T42 l0 Aa).f3) (fun k_ => some k_ ≠ (.slice A7 t179.length A8 : Value).ownBlock ∧ some k_ ≠ (.slice Bb t191.length Bc : Value).ownBlock) rfl rfl ?aO ?aF ?aB ?aS ?aL ?_; (case aB => exact (pE HB.out Ae.out)); (case aF => exact (fun k_ hk => ⟨Kd.fresh' (Kd.R_lt (pR Ac.out)) k_ hk, Kd.fresh' (Kd.R_lt (pR Ag.out)) k_ hk⟩)); (case aO => exact (pR Ao.out)); (case aS => exact (below_size (pE HB.out Ae.out))); (case aL => have := LMc19.out; omega); intro v198 w61 ho hb hg hat; rw [← Ny197.out] at ho; replace Ab := Am (blk_grown (g := Ai) (o := .cells #[.int .i64 ((rd_T42 l0 Aa).f0), .int .i64 ((rd_T42 l0 Aa).f1), .int .i64 ((rd_T42 l0 Aa).f2), .string ((rd_T42 l0 Aa).f3), .bool ((rd_T42 l0 Aa).f4.f0), .slice An ((rd_T42 l0 Aa).f4.f1).length c174_5, .int .i64 ((rd_T42 l0 Aa).f4.f2.f0), .int .i64 ((rd_T42 l0 Aa).f4.f2.f1), .int .i64 ((rd_T42 l0 Aa).f4.f2.f2), .int .u32 ((rd_T42 l0 Aa).f4.f2.f3)] 42 (0, 0)) (pK Ab.out) hg (Kd.R_ne Ao.out Ab.out (by decide))); replace Ad := Am (Kd.R_over' (pR Ad.out) (Kd.R_typed (pR Ao.out)) (by decide) hg); replace Ac := Am (Kd.R_after (ok := (fun k_ => some k_ ≠ (.slice Bb t191.length Bc : Value).ownBlock)) (pR Ac.out) hg hat); replace Af := Am (Kd.R_over' (pR Af.out) (Kd.R_typed (pR Ao.out)) (by decide) hg); replace Ag := Am (Kd.R_after (ok := (fun k_ => some k_ ≠ (.slice A7 t179.length A8 : Value).ownBlock)) (pR Ag.out) hg hat); replace HB := Am (hb); have Az := Am (ho); clear Ao ho hb hg hat; obtain ⟨_, _, _, _, _, _, _, _, _, _⟩ := bc10 Ab.out; obtain ⟨_, _, _, _, _, _, _, _, _, _⟩ := bf10 Ab.out) | ((with_reducible refine gate_callee (f := 22) rfl ?_); refine goesL_ (some 62) rfl rfl Try.func22 (by kernel_rfl) rfl #[.agg #[.bool ((rd_T42 l0 Aa).f4.f0), .slice An ((rd_T42 l0 Aa).f4.f1).length c174_5, .int .i64 ((rd_T42 l0 Aa).f4.f2.f0), .int .i64 ((rd_T42 l0 Aa).f4.f2.f1), .int .i64 ((rd_T42 l0 Aa).f4.f2.f2), .int .u32 ((rd_T42 l0 Aa).f4.f2.f3)]] rfl pL ?_; (with_reducible refine (cell_Put.calls k1 ((rd_T42 l0 Aa).f4.f0) _ _ ((rd_T42 l0 Aa).f4.f1) ((rd_T42 l0 Aa).f4.f2.f0) ((rd_T42 l0 Aa).f4.f2.f1) ((rd_T42 l0 Aa).f4.f2.f2) ((rd_T42 l0 Aa).f4.f2.f3) t200 t203 _ ?Ak ?Al A41.out).mono ?_); (case Ak => exact pC (Kd.C_below Bf.out HB.out)); (case Al => exact Bg.out); rintro e w63 ⟨v201, rfl, ho0, hb⟩; refine ⟨_, rfl, ?_⟩; replace Ad := bRa Ad hb; replace Af := bRa Af hb; have Ba := Am (Kd.R_lower (Kd.R_new' (Kd.R_new' (Kd.R_new' ho0 (Kd.R_lt (pR Ac.out))) (Kd.R_lt (pR Ag.out))) (Kd.R_lt (pR Az.out))) (below_size (pE HB.out Ae.out))); replace Ac := Am (Kd.R_elder' (pR Ac.out) (Kd.R_base ho0) hb); replace Ag := Am (Kd.R_elder' (pR Ag.out) (Kd.R_base ho0) hb); replace Az := Am (Kd.R_elder' (pR Az.out) (Kd.R_base ho0) hb); replace Ab := kBa Ab hb; replace HB := Am (below_step (pE HB.out Ae.out) hb); (try clear hb); (try clear hb2); (try clear hk); (try clear hi); (try clear ho0); obtain ⟨By, Bz, Ci⟩ := Kd.R_slice Ba.out; subst Ci) | ((with_reducible refine gate_builtin (b := .append) (xs := #[.tmp 65, .tmp 66]) rfl ?_); at_builtin; refine Kd.R_append_rows (Kd.int .u8) (w0 := w) w.heap.size rfl (.tmp 65) (.tmp 66) 22 5 (.int .u8 0) 1 rfl Try.underlying22 info5 rfl (by decide) (by omega) v198 y197 t200 _ _ _ (fun k_ => some k_ ≠ (.slice A7 t179.length A8 : Value).ownBlock ∧ some k_ ≠ (.slice Bb t191.length Bc : Value).ownBlock ∧ some k_ ≠ (.slice By t200.length Bz : Value).ownBlock) (fun _ => False) rfl rfl ?aO ?aR (fun _ _ h => h) (fun _ h => h.elim) ?aF ?aB ?aS ?aL ?_; (case aR => exact pC (Kd.R_reads' Ba.out).2.2); (case aB => exact (pE HB.out Ae.out)); (case aF => exact (fun k_ hk => ⟨Kd.fresh' (Kd.R_lt (pR Ac.out)) k_ hk, Kd.fresh' (Kd.R_lt (pR Ag.out)) k_ hk, Kd.fresh' (Kd.R_lt (pR Ba.out)) k_ hk⟩)); (case aO => exact (by (with_reducible repeat (first | apply Kd.R_alloc | apply Kd.R_drewN | apply Kd.R_drew)); exact Kd.R_mono Az.out (fun _ hk => ⟨hk.1.1, ⟨hk.1.2, hk.2⟩⟩))); (case aS => exact (below_size (pE HB.out Ae.out))); (case aL => have := LMc42.out; omega); intro v205 w64 ho hb hg hat; rw [← Ny204.out] at ho; replace Ab := Am (blk_grown (g := Ai) (o := .cells #[.int .i64 ((rd_T42 l0 Aa).f0), .int .i64 ((rd_T42 l0 Aa).f1), .int .i64 ((rd_T42 l0 Aa).f2), .string ((rd_T42 l0 Aa).f3), .bool ((rd_T42 l0 Aa).f4.f0), .slice An ((rd_T42 l0 Aa).f4.f1).length c174_5, .int .i64 ((rd_T42 l0 Aa).f4.f2.f0), .int .i64 ((rd_T42 l0 Aa).f4.f2.f1), .int .i64 ((rd_T42 l0 Aa).f4.f2.f2), .int .u32 ((rd_T42 l0 Aa).f4.f2.f3)] 42 (0, 0)) (pK Ab.out) hg (Kd.R_ne Az.out Ab.out (by decide))); replace Ad := Am (Kd.R_over' (pR Ad.out) (Kd.R_typed (pR Az.out)) (by decide) hg); replace Ac := Am (Kd.R_after (ok := (fun k_ => some k_ ≠ (.slice Bb t191.length Bc : Value).ownBlock ∧ some k_ ≠ (.slice By t200.length Bz : Value).ownBlock)) (by (with_reducible repeat (first | apply Kd.R_alloc | apply Kd.R_drewN | apply Kd.R_drew)); exact Kd.R_mono Ac.out (fun _ hk => ⟨⟨hk.1.1, hk.2⟩, hk.1.2⟩)) hg hat); replace Af := Am (Kd.R_over' (pR Af.out) (Kd.R_typed (pR Az.out)) (by decide) hg); replace Ag := Am (Kd.R_after (ok := (fun k_ => some k_ ≠ (.slice A7 t179.length A8 : Value).ownBlock ∧ some k_ ≠ (.slice By t200.length Bz : Value).ownBlock)) (by (with_reducible repeat (first | apply Kd.R_alloc | apply Kd.R_drewN | apply Kd.R_drew)); exact Kd.R_mono Ag.out (fun _ hk => ⟨⟨hk.1.1, hk.2⟩, hk.1.2⟩)) hg hat); replace Ba := Am (Kd.R_after (ok := (fun k_ => some k_ ≠ (.slice A7 t179.length A8 : Value).ownBlock ∧ some k_ ≠ (.slice Bb t191.length Bc : Value).ownBlock)) (by (with_reducible repeat (first | apply Kd.R_alloc | apply Kd.R_drewN | apply Kd.R_drew)); exact Kd.R_mono Ba.out (fun _ hk => ⟨⟨hk.1.1.2, hk.1.2⟩, hk.2⟩)) hg hat); replace HB := Am (hb); have B1 := Am (ho); clear Az ho hb hg hat))
   go_roundg k1
   case measure => have := HK1.out; omega
   case rel => exact ⟨(y204), (wrap64 (Aa + 1)), (by first | rfl | (simp; done) | (simp [*]; done)), H', ⟨by have := HK1.out; omega⟩, ⟨by (with_reducible repeat (first | apply Kd.R_alloc | apply Kd.R_drewN | apply Kd.R_drew)); exact Kd.R_mono B1.out (fun _ hk => trivial)⟩, ⟨pE HB.out Ae.out⟩⟩
def garnerref02_same.l0 : Nat → List Int → List Int → Int → Option (Bool)
 | 0, _, _, _ => none
 | k + 1, x0, x1, x5 => if x5 < (x0.length : Int) then (if 0 ≤ x5 then (if x5 < (x1.length : Int) then (if (rd x0 x5) = (rd x1 x5) then (garnerref02_same.l0 k x0 x1 (wrap64 (x5 + 1))) else (some false)) else (none)) else (none)) else (some true)
def garnerref02_same.f (k : Nat) (l0 : List Int) (l1 : List Int) : Option (Bool) := if (l0.length : Int) = (l1.length : Int) then (garnerref02_same.l0 k l0 l1 0) else (some false)
theorem garnerref02_same.mono_l : ∀ k, (∀ y0 y1 y2, LeO (garnerref02_same.l0 k y0 y1 y2) (garnerref02_same.l0 (k + 1) y0 y1 y2))
 | 0 => fun _ _ _ r h => by simp [garnerref02_same.l0] at h
 | k + 1 => by
  have ih0 := garnerref02_same.mono_l k
  ·intro y0 y1 y2
   unfold garnerref02_same.l0
   repeat' first
   | (with_reducible exact ih0 _ _ _)
   | (with_reducible exact LeO.refl _)
   | (with_reducible exact LeO.none _)
   | (with_reducible refine LeO.ite ?_ ?_)
   | (with_reducible refine LeO.bind ?_ (fun _ => ?_))
   | exact ih0 _ _ _
   | exact LeO.none _
   | refine LeO.ite ?_ ?_
   | refine LeO.bind ?_ (fun _ => ?_)
theorem garnerref02_same.mono : ∀ a0 a1 k, LeO (garnerref02_same.f k a0 a1) (garnerref02_same.f (k + 1) a0 a1) := by
 intro a0 a1 k
 have ih0 := garnerref02_same.mono_l k
 unfold garnerref02_same.f
 repeat' first
   | (with_reducible exact ih0 _ _ _)
   | (with_reducible exact LeO.refl _)
   | (with_reducible exact LeO.none _)
   | (with_reducible refine LeO.ite ?_ ?_)
   | (with_reducible refine LeO.bind ?_ (fun _ => ?_))
   | exact ih0 _ _ _
   | exact LeO.none _
   | refine LeO.ite ?_ ?_
   | refine LeO.bind ?_ (fun _ => ?_)
set_option maxHeartbeats 8000000 in
set_option maxRecDepth 100000 in
theorem garnerref02_same.calls (k : Nat) (A0 : Option Addr) (c0 : Nat) (l0 : List Int) (A1 : Option Addr) (c1 : Nat) (l1 : List Int) (r : Bool) (w : World) (hr0 : Kd.C (Kd.int .u8) w A0 l0.length l0) (hc0 : l0.length ≤ c0) (hr1 : Kd.C (Kd.int .u8) w A1 l1.length l1) (hc1 : l1.length ≤ c1) (h : garnerref02_same.f k l0 l1 = some r) :
  Calls Try.prog 26 #[.slice A0 l0.length c0, .slice A1 l1.length c1] w fun e w' => e = .returned (.bool r) ∧ Drawn0 w w' := by
 have HR0 := Am hr0
 have HC0 := Am hc0
 clear hr0 hc0
 have HR1 := Am hr1
 have HC1 := Am hc1
 clear hr1 hc1
 have H : (if (l0.length : Int) = (l1.length : Int) then (garnerref02_same.l0 k l0 l1 0) else (some false)) = some r := h
 clear h
 by_cases c3 : (l0.length : Int) = (l1.length : Int)
 rotate_left
 ·rw [if_neg c3] at H
  have c3b0 : ((l0.length : Int) == (l1.length : Int)) = false := beq_eq_false_iff_ne.mpr c3
  have c3b1 : ((l0.length : Int) != (l1.length : Int)) = true := bne_iff_ne.mpr c3
  have c3b2 : (l0.length == l1.length) = false := by first | simpa using c3 | (simp at c3 ⊢; omega)
  obtain rfl := Option.some.inj H
  go_enter Try.func26, Try.ntmps26
  go_wp2
  repeat (go_quiet (fail); try go_wp2)
  go_ret
  exact ⟨by first | rfl | (simp; done) | (simp [*]; done), by repeat (first | exact Drawn0.refl _ | apply Drawn0.step)⟩
 rw [if_pos c3] at H
 have c3b0 : ((l0.length : Int) == (l1.length : Int)) = true := beq_iff_eq.mpr c3
 have c3b1 : ((l0.length : Int) != (l1.length : Int)) = false := bne_eq_false_iff_eq.mpr c3
 have c3b2 : (l0.length == l1.length) = true := by first | simpa using c3 | (simp at c3 ⊢; omega)
 clear c3
 have H' := Am H
 clear H
 go_enter Try.func26, Try.ntmps26
 go_wp2
 repeat (go_quiet (fail); try go_wp2)
 go_loopg [5] k (fun kq v5 w' => ∃ (Aa : Int), v5 = .int .i64 Aa ∧ Aside0 (garnerref02_same.l0 kq l0 l1 Aa = some r) ∧ Aside0 (kq ≤ k) ∧ Drawn0 w w')
 case atStart => exact ⟨(0), (by first | rfl | (simp; done) | (simp [*]; done)), H', ⟨Nat.le_refl _⟩, by repeat (first | exact Drawn0.refl _ | apply Drawn0.step)⟩
 case round =>
  clear H'
  try clear c1
  try clear c2
  try clear p2
  try clear c3
  try clear c3b0
  try clear c3b1
  try clear c3b2
  obtain ⟨Aa, rfl, HA, HK1, ⟨m1, rfl⟩⟩ := hrel
  cases gk with
  | zero => exact absurd HA.out (by simp [garnerref02_same.l0])
  | succ k1 =>
   have H := HA.out
   clear HA
   simp only [garnerref02_same.l0] at H
   by_cases c4 : Aa < (l0.length : Int)
   rotate_left
   ·rw [if_neg c4] at H
    have c4b0 : decide (Aa < (l0.length : Int)) = false := decide_eq_false c4
    clear c4
    obtain rfl := Option.some.inj H
    go_wp2
    repeat (go_quiet (fail); try go_wp2)
    go_ret
    exact ⟨by first | rfl | (simp; done) | (simp [*]; done), by repeat (first | exact Drawn0.refl _ | apply Drawn0.step)⟩
   rw [if_pos c4] at H
   have c4b0 : decide (Aa < (l0.length : Int)) = true := decide_eq_true c4
   clear c4
   by_cases c5 : 0 ≤ Aa
   rotate_left
   ·rw [if_neg c5] at H
    exact absurd H (by simp)
   rw [if_pos c5] at H
   have c5b0 : decide (0 ≤ Aa) = true := decide_eq_true c5
   clear c5
   by_cases c6 : Aa < (l1.length : Int)
   rotate_left
   ·rw [if_neg c6] at H
    exact absurd H (by simp)
   rw [if_pos c6] at H
   have c6b0 : decide (Aa < (l1.length : Int)) = true := decide_eq_true c6
   clear c6
   by_cases c7 : (rd l0 Aa) = (rd l1 Aa)
   rotate_left
   ·rw [if_neg c7] at H
    have c7b0 : ((rd l0 Aa) == (rd l1 Aa)) = false := beq_eq_false_iff_ne.mpr c7
    have c7b1 : ((rd l0 Aa) != (rd l1 Aa)) = true := bne_iff_ne.mpr c7
    obtain rfl := Option.some.inj H
    have p207 : 0 ≤ (Aa : Int) := of_decide_eq_true pS
    have q207 : Aa < (l0.length : Int) := of_decide_eq_true pS
    obtain ⟨Ad, e207, Ab⟩ := Kd.at_int HR0.out Aa p207 q207
    cases e207
    replace p207 := eq_true p207
    replace q207 := eq_true q207
    have p208 : 0 ≤ (Aa : Int) := of_decide_eq_true pS
    have q208 : Aa < (l1.length : Int) := of_decide_eq_true pS
    obtain ⟨Ae, e208, Ac⟩ := Kd.at_int HR1.out Aa p208 q208
    cases e208
    replace p208 := eq_true p208
    replace q208 := eq_true q208
    go_wp2
    repeat (go_quiet (fail); try go_wp2)
    go_ret
    exact ⟨by first | rfl | (simp; done) | (simp [*]; done), by repeat (first | exact Drawn0.refl _ | apply Drawn0.step)⟩
   rw [if_pos c7] at H
   have c7b0 : ((rd l0 Aa) == (rd l1 Aa)) = true := beq_iff_eq.mpr c7
   have c7b1 : ((rd l0 Aa) != (rd l1 Aa)) = false := bne_eq_false_iff_eq.mpr c7
   clear c7
   have H' := Am H
   clear H
   have p207 : 0 ≤ (Aa : Int) := of_decide_eq_true pS
   have q207 : Aa < (l0.length : Int) := of_decide_eq_true pS
   obtain ⟨Ad, e207, Ab⟩ := Kd.at_int HR0.out Aa p207 q207
   cases e207
   replace p207 := eq_true p207
   replace q207 := eq_true q207
   have p208 : 0 ≤ (Aa : Int) := of_decide_eq_true pS
   have q208 : Aa < (l1.length : Int) := of_decide_eq_true pS
   obtain ⟨Ae, e208, Ac⟩ := Kd.at_int HR1.out Aa p208 q208
   cases e208
   replace p208 := eq_true p208
   replace q208 := eq_true q208
   go_wp2
   repeat (go_quiet (fail); try go_wp2)
   go_roundg k1
   case measure => have := HK1.out; omega
   case rel => exact ⟨(wrap64 (Aa + 1)), (by first | rfl | (simp; done) | (simp [*]; done)), H', ⟨by have := HK1.out; omega⟩, by repeat (first | exact Drawn0.refl _ | apply Drawn0.step)⟩
def garnerref02_Bytes.f (k : Nat) (l0 : List Int) (l1 : List Int) : Option (Bool) := (garnerref02_same.f k l0 l1).bind fun t209 => (some t209)
theorem garnerref02_Bytes.mono : ∀ a0 a1 k, LeO (garnerref02_Bytes.f k a0 a1) (garnerref02_Bytes.f (k + 1) a0 a1) := by
 intro a0 a1 k
 unfold garnerref02_Bytes.f
 repeat' first
   | (with_reducible exact garnerref02_same.mono _ _ _)
   | (with_reducible exact LeO.refl _)
   | (with_reducible exact LeO.none _)
   | (with_reducible refine LeO.ite ?_ ?_)
   | (with_reducible refine LeO.bind ?_ (fun _ => ?_))
   | exact garnerref02_same.mono _ _ _
   | exact LeO.none _
   | refine LeO.ite ?_ ?_
   | refine LeO.bind ?_ (fun _ => ?_)
set_option maxHeartbeats 8000000 in
set_option maxRecDepth 100000 in
theorem garnerref02_Bytes.calls (k : Nat) (A0 : Option Addr) (c0 : Nat) (l0 : List Int) (A1 : Option Addr) (c1 : Nat) (l1 : List Int) (r : Bool) (w : World) (hr0 : Kd.C (Kd.int .u8) w A0 l0.length l0) (hc0 : l0.length ≤ c0) (hr1 : Kd.C (Kd.int .u8) w A1 l1.length l1) (hc1 : l1.length ≤ c1) (h : garnerref02_Bytes.f k l0 l1 = some r) :
  Calls Try.prog 13 #[.slice A0 l0.length c0, .slice A1 l1.length c1] w fun e w' => e = .returned (.bool r) ∧ Drawn0 w w' := by
 have HR0 := Am hr0
 have HC0 := Am hc0
 clear hr0 hc0
 have HR1 := Am hr1
 have HC1 := Am hc1
 clear hr1 hc1
 have H : ((garnerref02_same.f k l0 l1).bind fun t209 => (some t209)) = some r := h
 clear h
 replace H := Option.bind_eq_some_iff.mp H
 obtain ⟨t209, A30, H⟩ := H
 replace H : (some t209) = some r := H
 have A3 := Am A30
 clear A30
 obtain rfl := Option.some.inj H
 go_enter Try.func13, Try.ntmps13
 go_wp2_with (first | ((with_reducible refine gate_callee (f := 26) rfl ?_); refine goesL_ (some 7) rfl rfl Try.func26 (by kernel_rfl) rfl #[.slice A0 l0.length c0, .slice A1 l1.length c1] rfl pL ?_; (with_reducible refine (garnerref02_same.calls k _ _ l0 _ _ l1 t209 _ ?side1 ?side2 ?side3 ?side4 A3.out).mono ?_); (case side1 => repeat (first | exact HR0.out | (with_reducible refine Kd.C_alloc ?_ _) | (with_reducible refine Kd.C_drewN ?_ _) | (with_reducible refine Kd.C_drew ?_))); (case side2 => exact HC0.out); (case side3 => repeat (first | exact HR1.out | (with_reducible refine Kd.C_alloc ?_ _) | (with_reducible refine Kd.C_drewN ?_ _) | (with_reducible refine Kd.C_drew ?_))); (case side4 => exact HC1.out); rintro e w' ⟨rfl, ⟨nd, rfl⟩⟩; refine ⟨_, rfl, ?_⟩))
 go_ret
 exact ⟨by first | rfl | (simp; done) | (simp [*]; done), by repeat (first | exact Drawn0.refl _ | apply Drawn0.step)⟩
def garnerlaw06_awake.f (k : Nat)  : Option (Bool) := (entry_Put.f k (([(⟨3, 2, 1, (⟨#[107]⟩ : ByteArray), (⟨false, (([9] : List Int)), (⟨0, 0, 0, 0⟩ : S38)⟩ : S40)⟩ : S42)] : List (S42)))).bind fun bt216 => (if bt216.2 = 0 then ((garnerref02_Bytes.f k bt216.1 (([1, 3, 2, 1, 1, 107, 0, 1, 9] : List Int))).bind fun t223 => (if t223 = true then ((entry_Batch.f k ([] : List (S42))).bind fun t224 => (some (t224 == 1))) else (some false))) else (some false))
theorem garnerlaw06_awake.mono : ∀ k, LeO (garnerlaw06_awake.f k ) (garnerlaw06_awake.f (k + 1) ) := by
 intro  k
 unfold garnerlaw06_awake.f
 repeat' first
   | (with_reducible exact entry_Batch.mono _ _)
   | (with_reducible exact entry_Put.mono _ _)
   | (with_reducible exact garnerref02_Bytes.mono _ _ _)
   | (with_reducible exact LeO.refl _)
   | (with_reducible exact LeO.none _)
   | (with_reducible refine LeO.ite ?_ ?_)
   | (with_reducible refine LeO.bind ?_ (fun _ => ?_))
   | exact entry_Batch.mono _ _
   | exact entry_Put.mono _ _
   | exact garnerref02_Bytes.mono _ _ _
   | exact LeO.none _
   | refine LeO.ite ?_ ?_
   | refine LeO.bind ?_ (fun _ => ?_)
set_option maxHeartbeats 8000000 in
set_option maxRecDepth 100000 in
theorem garnerlaw06_awake.calls (k : Nat)  (r : Bool) (w : World) (h : garnerlaw06_awake.f k  = some r) :
  Calls Try.prog 5 #[] w fun e w' => e = .returned (.bool r) ∧ Below w.heap.size w w' := by
 have hu40 := Try.underlying40
 have hu42 := Try.underlying42
 have HB := Am (Below.refl w.heap.size w)
 have H : ((entry_Put.f k (([(⟨3, 2, 1, (⟨#[107]⟩ : ByteArray), (⟨false, (([9] : List Int)), (⟨0, 0, 0, 0⟩ : S38)⟩ : S40)⟩ : S42)] : List (S42)))).bind fun bt216 => (if bt216.2 = 0 then ((garnerref02_Bytes.f k bt216.1 (([1, 3, 2, 1, 1, 107, 0, 1, 9] : List Int))).bind fun t223 => (if t223 = true then ((entry_Batch.f k ([] : List (S42))).bind fun t224 => (some (t224 == 1))) else (some false))) else (some false))) = some r := h
 clear h
 obtain ⟨y210, hy210⟩ : ∃ y_ : List Int, y_ = (([9] : List Int)) := ⟨_, rfl⟩
 replace H : ((entry_Put.f k (([(⟨3, 2, 1, (⟨#[107]⟩ : ByteArray), (⟨false, y210, (⟨0, 0, 0, 0⟩ : S38)⟩ : S40)⟩ : S42)] : List (S42)))).bind fun bt216 => (if bt216.2 = 0 then ((garnerref02_Bytes.f k bt216.1 (([1, 3, 2, 1, 1, 107, 0, 1, 9] : List Int))).bind fun t223 => (if t223 = true then ((entry_Batch.f k ([] : List (S42))).bind fun t224 => (some (t224 == 1))) else (some false))) else (some false))) = some r := by first | (rw [hy210]; with_reducible exact H) | (have H2_ := (Option.bind_some _ _).symm.trans H; rw [hy210]; with_reducible exact H2_) | (have H2_ := (Option.bind_some _ _).symm.trans H; with_reducible exact H2_) | with_reducible exact H | (rw [hy210]; exact H) | exact H
 have Ny210 := Am hy210
 clear hy210
 obtain ⟨y213, hy213⟩ : ∃ y_ : List (S42), y_ = (([(⟨3, 2, 1, (⟨#[107]⟩ : ByteArray), (⟨false, y210, (⟨0, 0, 0, 0⟩ : S38)⟩ : S40)⟩ : S42)] : List (S42))) := ⟨_, rfl⟩
 replace H : ((entry_Put.f k y213).bind fun bt216 => (if bt216.2 = 0 then ((garnerref02_Bytes.f k bt216.1 (([1, 3, 2, 1, 1, 107, 0, 1, 9] : List Int))).bind fun t223 => (if t223 = true then ((entry_Batch.f k ([] : List (S42))).bind fun t224 => (some (t224 == 1))) else (some false))) else (some false))) = some r := by first | (rw [hy213]; with_reducible exact H) | (have H2_ := (Option.bind_some _ _).symm.trans H; rw [hy213]; with_reducible exact H2_) | (have H2_ := (Option.bind_some _ _).symm.trans H; with_reducible exact H2_) | with_reducible exact H | (rw [hy213]; exact H) | exact H
 have Ny213 := Am hy213
 clear hy213
 replace H := Option.bind_eq_some_iff.mp H
 obtain ⟨⟨t216, t217⟩, A10, H⟩ := H
 replace H : (if t217 = 0 then ((garnerref02_Bytes.f k t216 (([1, 3, 2, 1, 1, 107, 0, 1, 9] : List Int))).bind fun t223 => (if t223 = true then ((entry_Batch.f k ([] : List (S42))).bind fun t224 => (some (t224 == 1))) else (some false))) else (some false)) = some r := H
 have A1 := Am A10
 clear A10
 by_cases c2 : t217 = 0
 rotate_left
 ·rw [if_neg c2] at H
  have c2b0 : (t217 == 0) = false := beq_eq_false_iff_ne.mpr c2
  have c2b1 : (t217 != 0) = true := bne_iff_ne.mpr c2
  obtain rfl := Option.some.inj H
  go_enter Try.func5, Try.ntmps5
  go_wp2_with (first | ((with_reducible refine gate_dst (N := 4) rfl ?_); (try (refine gate_guard (by rfl) ?_; dsimp only)); refine Kd.R_lit (Kd.int .u8) _ 5 ?hg (N := 4) ?hd (xs := ([9] : List Int)) (inner := [.int .u8 9]) (ok := fun _ => True) (okp := fun _ => True) ?hr ?hp (fun _ hk => hk) trivial (Below.refl _ _) (Nat.le_refl _) (by simp) ?_; (case hd => rfl); (case hg => rfl); (case hr => first | (go_simp; done) | (go_simp; rfl)); (case hp => exact (Reps.one (show Kd.M (Kd.int .u8) _ _ _ 9 [.int .u8 9] from rfl) (Reps.none _ _))); intro v211 w29 ho30 hb hg_ hnew_; clear hg_ hnew_; (first | rw [← Ny210.out] at ho30 | (simp only [Int.reduceToNat] at ho30; rw [← Ny210.out] at ho30)); have Ac := Am (Kd.R_lower ho30 (below_size (pB HB.out))); replace HB := Am (below_step (pB HB.out) hb); clear hb ho30; obtain ⟨Ak, Al, Ay⟩ := Kd.R_slice Ac.out; subst Ay) | ((with_reducible refine gate_dst (N := 7) rfl ?_); (try (refine gate_guard (by rfl) ?_; dsimp only)); refine Kd.N_lit k42 _ 42 ?hg (N' := 7) ?hd (xs := ([(⟨3, 2, 1, (⟨#[107]⟩ : ByteArray), (⟨false, y210, (⟨0, 0, 0, 0⟩ : S38)⟩ : S40)⟩ : S42)] : List (S42))) (inner := [.int .i64 3, .int .i64 2, .int .i64 1, .string (⟨#[107]⟩ : ByteArray), .bool false, .slice Ak y210.length Al, .int .i64 0, .int .i64 0, .int .i64 0, .int .u32 0]) (ok := (fun _ => True)) (okp := (fun _ => True)) ?hr ?hp (fun _ hk => hk) ((show ∀ k_, w29.heap.size ≤ k_ → (fun _ => True) k_ from fun k_ hk => trivial) _ (Nat.le_refl _)) (Below.refl _ _) (Nat.le_refl _) (by simp) ?_; (case hd => rfl); (case hg => rfl); (case hr => first | (go_simp; done) | (go_simp; rfl)); (case hp => exact (Reps.c10 (show Kd.FK k42 _ _ (⟨3, 2, 1, (⟨#[107]⟩ : ByteArray), (⟨false, y210, (⟨0, 0, 0, 0⟩ : S38)⟩ : S40)⟩ : S42) [.int .i64 3, .int .i64 2, .int .i64 1, .string (⟨#[107]⟩ : ByteArray), .bool false, .slice Ak y210.length Al, .int .i64 0, .int .i64 0, .int .i64 0, .int .u32 0] from (k42_mkF _ _ (⟨3, 2, 1, (⟨#[107]⟩ : ByteArray), (⟨false, y210, (⟨0, 0, 0, 0⟩ : S38)⟩ : S40)⟩ : S42) (Kd.R_reads' (Kd.R_mono (ok' := (fun _ => True)) (Ac.out) (fun k_ hk => trivial))).2.1 (Kd.R_F (Kd.R_mono (ok' := (fun _ => True)) (Ac.out) (fun k_ hk => trivial))))) (Reps.none _ _))); intro v214 w32 ho33 hb hg_ hnew_; clear hg_ hnew_; (first | rw [← Ny213.out] at ho33 | (simp only [Int.reduceToNat] at ho33; rw [← Ny213.out] at ho33)); have Aa := Am (Kd.N_lower ho33 (below_size (pB HB.out))); replace HB := Am (below_step (pB HB.out) hb); clear Ac hb ho33; obtain ⟨Az, A0, A2⟩ := Kd.N_slice Aa.out; subst A2) | ((with_reducible refine gate_callee (f := 11) rfl ?_); refine goesL_ (some 10) rfl rfl Try.func11 (by kernel_rfl) rfl #[.slice Az y213.length A0] rfl pL ?_; (with_reducible refine (entry_Put.calls k _ _ y213 t216 t217 _ ?Ad ?Ae A1.out).mono ?_); (case Ad => exact pC (Kd.N_reads' Aa.out).2.2); (case Ae => exact (Kd.N_reads' Aa.out).2.1); rintro e w35 ⟨v218, rfl, ho0, hb⟩; refine ⟨_, rfl, ?_⟩; replace Aa := Am (Kd.N_elder' (pN Aa.out) (Kd.R_base ho0) hb); have Ab := Am (Kd.R_lower ho0 (below_size (pB HB.out))); replace HB := Am (below_step (pB HB.out) hb); (try clear hb); (try clear hb2); (try clear hk); (try clear hi); (try clear ho0)))
  go_ret
  exact ⟨pX, pB HB.out⟩
 rw [if_pos c2] at H
 have c2b0 : (t217 == 0) = true := beq_iff_eq.mpr c2
 have c2b1 : (t217 != 0) = false := bne_eq_false_iff_eq.mpr c2
 clear c2
 obtain ⟨y220, hy220⟩ : ∃ y_ : List Int, y_ = (([1, 3, 2, 1, 1, 107, 0, 1, 9] : List Int)) := ⟨_, rfl⟩
 replace H : ((garnerref02_Bytes.f k t216 y220).bind fun t223 => (if t223 = true then ((entry_Batch.f k ([] : List (S42))).bind fun t224 => (some (t224 == 1))) else (some false))) = some r := by first | (rw [hy220]; with_reducible exact H) | (have H2_ := (Option.bind_some _ _).symm.trans H; rw [hy220]; with_reducible exact H2_) | (have H2_ := (Option.bind_some _ _).symm.trans H; with_reducible exact H2_) | with_reducible exact H | (rw [hy220]; exact H) | exact H
 have Ny220 := Am hy220
 clear hy220
 replace H := Option.bind_eq_some_iff.mp H
 obtain ⟨t223, A30, H⟩ := H
 replace H : (if t223 = true then ((entry_Batch.f k ([] : List (S42))).bind fun t224 => (some (t224 == 1))) else (some false)) = some r := H
 have A3 := Am A30
 clear A30
 by_cases c4 : t223 = true
 rotate_left
 ·replace c4 := Bool.eq_false_iff.mpr c4
  subst c4
  have H1 : (some false) = some r := by rw [if_neg (show ¬ (false = true) by decide)] at H; exact H
  clear H
  have H := H1
  clear H1
  obtain rfl := Option.some.inj H
  go_enter Try.func5, Try.ntmps5
  go_wp2_with (first | ((with_reducible refine gate_dst (N := 4) rfl ?_); (try (refine gate_guard (by rfl) ?_; dsimp only)); refine Kd.R_lit (Kd.int .u8) _ 5 ?hg (N := 4) ?hd (xs := ([9] : List Int)) (inner := [.int .u8 9]) (ok := fun _ => True) (okp := fun _ => True) ?hr ?hp (fun _ hk => hk) trivial (Below.refl _ _) (Nat.le_refl _) (by simp) ?_; (case hd => rfl); (case hg => rfl); (case hr => first | (go_simp; done) | (go_simp; rfl)); (case hp => exact (Reps.one (show Kd.M (Kd.int .u8) _ _ _ 9 [.int .u8 9] from rfl) (Reps.none _ _))); intro v211 w18 ho19 hb hg_ hnew_; clear hg_ hnew_; (first | rw [← Ny210.out] at ho19 | (simp only [Int.reduceToNat] at ho19; rw [← Ny210.out] at ho19)); have Ac := Am (Kd.R_lower ho19 (below_size (pB HB.out))); replace HB := Am (below_step (pB HB.out) hb); clear hb ho19; obtain ⟨Ai, Aj, As⟩ := Kd.R_slice Ac.out; subst As) | ((with_reducible refine gate_dst (N := 7) rfl ?_); (try (refine gate_guard (by rfl) ?_; dsimp only)); refine Kd.N_lit k42 _ 42 ?hg (N' := 7) ?hd (xs := ([(⟨3, 2, 1, (⟨#[107]⟩ : ByteArray), (⟨false, y210, (⟨0, 0, 0, 0⟩ : S38)⟩ : S40)⟩ : S42)] : List (S42))) (inner := [.int .i64 3, .int .i64 2, .int .i64 1, .string (⟨#[107]⟩ : ByteArray), .bool false, .slice Ai y210.length Aj, .int .i64 0, .int .i64 0, .int .i64 0, .int .u32 0]) (ok := (fun _ => True)) (okp := (fun _ => True)) ?hr ?hp (fun _ hk => hk) ((show ∀ k_, w18.heap.size ≤ k_ → (fun _ => True) k_ from fun k_ hk => trivial) _ (Nat.le_refl _)) (Below.refl _ _) (Nat.le_refl _) (by simp) ?_; (case hd => rfl); (case hg => rfl); (case hr => first | (go_simp; done) | (go_simp; rfl)); (case hp => exact (Reps.c10 (show Kd.FK k42 _ _ (⟨3, 2, 1, (⟨#[107]⟩ : ByteArray), (⟨false, y210, (⟨0, 0, 0, 0⟩ : S38)⟩ : S40)⟩ : S42) [.int .i64 3, .int .i64 2, .int .i64 1, .string (⟨#[107]⟩ : ByteArray), .bool false, .slice Ai y210.length Aj, .int .i64 0, .int .i64 0, .int .i64 0, .int .u32 0] from (k42_mkF _ _ (⟨3, 2, 1, (⟨#[107]⟩ : ByteArray), (⟨false, y210, (⟨0, 0, 0, 0⟩ : S38)⟩ : S40)⟩ : S42) (Kd.R_reads' (Kd.R_mono (ok' := (fun _ => True)) (Ac.out) (fun k_ hk => trivial))).2.1 (Kd.R_F (Kd.R_mono (ok' := (fun _ => True)) (Ac.out) (fun k_ hk => trivial))))) (Reps.none _ _))); intro v214 w21 ho22 hb hg_ hnew_; clear hg_ hnew_; (first | rw [← Ny213.out] at ho22 | (simp only [Int.reduceToNat] at ho22; rw [← Ny213.out] at ho22)); have Aa := Am (Kd.N_lower ho22 (below_size (pB HB.out))); replace HB := Am (below_step (pB HB.out) hb); clear Ac hb ho22; obtain ⟨At, Au, Av⟩ := Kd.N_slice Aa.out; subst Av) | ((with_reducible refine gate_callee (f := 11) rfl ?_); refine goesL_ (some 10) rfl rfl Try.func11 (by kernel_rfl) rfl #[.slice At y213.length Au] rfl pL ?_; (with_reducible refine (entry_Put.calls k _ _ y213 t216 t217 _ ?Ad ?Ae A1.out).mono ?_); (case Ad => exact pC (Kd.N_reads' Aa.out).2.2); (case Ae => exact (Kd.N_reads' Aa.out).2.1); rintro e w24 ⟨v218, rfl, ho0, hb⟩; refine ⟨_, rfl, ?_⟩; replace Aa := Am (Kd.N_elder' (pN Aa.out) (Kd.R_base ho0) hb); have Ab := Am (Kd.R_lower ho0 (below_size (pB HB.out))); replace HB := Am (below_step (pB HB.out) hb); (try clear hb); (try clear hb2); (try clear hk); (try clear hi); (try clear ho0)) | ((with_reducible refine gate_dst (N := 17) rfl ?_); (try (refine gate_guard (by rfl) ?_; dsimp only)); refine Kd.R_lit (Kd.int .u8) _ 5 ?hg (N := 17) ?hd (xs := ([1, 3, 2, 1, 1, 107, 0, 1, 9] : List Int)) (inner := [.int .u8 1, .int .u8 3, .int .u8 2, .int .u8 1, .int .u8 1, .int .u8 107, .int .u8 0, .int .u8 1, .int .u8 9]) (ok := fun _ => True) (okp := fun _ => True) ?hr ?hp (fun _ hk => hk) trivial (Below.refl _ _) (Nat.le_refl _) (by simp) ?_; (case hd => rfl); (case hg => rfl); (case hr => first | (go_simp; done) | (go_simp; rfl)); (case hp => exact (Reps.one (show Kd.M (Kd.int .u8) _ _ _ 1 [.int .u8 1] from rfl) (Reps.one (show Kd.M (Kd.int .u8) _ _ _ 3 [.int .u8 3] from rfl) (Reps.one (show Kd.M (Kd.int .u8) _ _ _ 2 [.int .u8 2] from rfl) (Reps.one (show Kd.M (Kd.int .u8) _ _ _ 1 [.int .u8 1] from rfl) (Reps.one (show Kd.M (Kd.int .u8) _ _ _ 1 [.int .u8 1] from rfl) (Reps.one (show Kd.M (Kd.int .u8) _ _ _ 107 [.int .u8 107] from rfl) (Reps.one (show Kd.M (Kd.int .u8) _ _ _ 0 [.int .u8 0] from rfl) (Reps.one (show Kd.M (Kd.int .u8) _ _ _ 1 [.int .u8 1] from rfl) (Reps.one (show Kd.M (Kd.int .u8) _ _ _ 9 [.int .u8 9] from rfl) (Reps.none _ _))))))))))); intro v221 w25 ho26 hb hg_ hnew_; clear hg_ hnew_; (first | rw [← Ny220.out] at ho26 | (simp only [Int.reduceToNat] at ho26; rw [← Ny220.out] at ho26)); replace Aa := Am (Kd.N_elder' (pN Aa.out) (Kd.R_base ho26) hb); have Af := Am (Kd.R_lower (Kd.R_new' ho26 (Kd.R_lt (pR Ab.out))) (below_size (pB HB.out))); replace Ab := Am (Kd.R_elder' (pR Ab.out) (Kd.R_base ho26) hb); replace HB := Am (below_step (pB HB.out) hb); clear hb ho26; obtain ⟨Ao27, co27, Aw⟩ := Kd.R_slice Ab.out; subst Aw; obtain ⟨Ao28, co28, Ax⟩ := Kd.R_slice Af.out; subst Ax) | (go_at_call 13; (with_reducible refine (garnerref02_Bytes.calls k _ _ t216 _ _ y220 false _ ?Ad ?Ae ?Ag ?Ah A3.out).mono ?_); (case Ad => exact pC (Kd.R_reads' Ab.out).2.2); (case Ae => exact (Kd.R_reads' Ab.out).2.1); (case Ag => exact pC (Kd.R_reads' Af.out).2.2); (case Ah => exact (Kd.R_reads' Af.out).2.1); rintro e w' ⟨rfl, ⟨nd, rfl⟩⟩))
  go_ret
  exact ⟨pX, pB HB.out⟩
 subst c4
 have H1 : ((entry_Batch.f k ([] : List (S42))).bind fun t224 => (some (t224 == 1))) = some r := by rw [if_pos rfl] at H; exact H
 clear H
 have H := H1
 clear H1
 replace H := Option.bind_eq_some_iff.mp H
 obtain ⟨t224, A50, H⟩ := H
 replace H : (some (t224 == 1)) = some r := H
 have A5 := Am A50
 clear A50
 obtain rfl := Option.some.inj H
 go_enter Try.func5, Try.ntmps5
 go_wp2_with (first | ((with_reducible refine gate_dst (N := 4) rfl ?_); (try (refine gate_guard (by rfl) ?_; dsimp only)); refine Kd.R_lit (Kd.int .u8) _ 5 ?hg (N := 4) ?hd (xs := ([9] : List Int)) (inner := [.int .u8 9]) (ok := fun _ => True) (okp := fun _ => True) ?hr ?hp (fun _ hk => hk) trivial (Below.refl _ _) (Nat.le_refl _) (by simp) ?_; (case hd => rfl); (case hg => rfl); (case hr => first | (go_simp; done) | (go_simp; rfl)); (case hp => exact (Reps.one (show Kd.M (Kd.int .u8) _ _ _ 9 [.int .u8 9] from rfl) (Reps.none _ _))); intro v211 w6 ho7 hb hg_ hnew_; clear hg_ hnew_; (first | rw [← Ny210.out] at ho7 | (simp only [Int.reduceToNat] at ho7; rw [← Ny210.out] at ho7)); have Ac := Am (Kd.R_lower ho7 (below_size (pB HB.out))); replace HB := Am (below_step (pB HB.out) hb); clear hb ho7; obtain ⟨A4, A6, A7⟩ := Kd.R_slice Ac.out; subst A7) | ((with_reducible refine gate_dst (N := 7) rfl ?_); (try (refine gate_guard (by rfl) ?_; dsimp only)); refine Kd.N_lit k42 _ 42 ?hg (N' := 7) ?hd (xs := ([(⟨3, 2, 1, (⟨#[107]⟩ : ByteArray), (⟨false, y210, (⟨0, 0, 0, 0⟩ : S38)⟩ : S40)⟩ : S42)] : List (S42))) (inner := [.int .i64 3, .int .i64 2, .int .i64 1, .string (⟨#[107]⟩ : ByteArray), .bool false, .slice A4 y210.length A6, .int .i64 0, .int .i64 0, .int .i64 0, .int .u32 0]) (ok := (fun _ => True)) (okp := (fun _ => True)) ?hr ?hp (fun _ hk => hk) ((show ∀ k_, w6.heap.size ≤ k_ → (fun _ => True) k_ from fun k_ hk => trivial) _ (Nat.le_refl _)) (Below.refl _ _) (Nat.le_refl _) (by simp) ?_; (case hd => rfl); (case hg => rfl); (case hr => first | (go_simp; done) | (go_simp; rfl)); (case hp => exact (Reps.c10 (show Kd.FK k42 _ _ (⟨3, 2, 1, (⟨#[107]⟩ : ByteArray), (⟨false, y210, (⟨0, 0, 0, 0⟩ : S38)⟩ : S40)⟩ : S42) [.int .i64 3, .int .i64 2, .int .i64 1, .string (⟨#[107]⟩ : ByteArray), .bool false, .slice A4 y210.length A6, .int .i64 0, .int .i64 0, .int .i64 0, .int .u32 0] from (k42_mkF _ _ (⟨3, 2, 1, (⟨#[107]⟩ : ByteArray), (⟨false, y210, (⟨0, 0, 0, 0⟩ : S38)⟩ : S40)⟩ : S42) (Kd.R_reads' (Kd.R_mono (ok' := (fun _ => True)) (Ac.out) (fun k_ hk => trivial))).2.1 (Kd.R_F (Kd.R_mono (ok' := (fun _ => True)) (Ac.out) (fun k_ hk => trivial))))) (Reps.none _ _))); intro v214 w9 ho10 hb hg_ hnew_; clear hg_ hnew_; (first | rw [← Ny213.out] at ho10 | (simp only [Int.reduceToNat] at ho10; rw [← Ny213.out] at ho10)); have Aa := Am (Kd.N_lower ho10 (below_size (pB HB.out))); replace HB := Am (below_step (pB HB.out) hb); clear Ac hb ho10; obtain ⟨An, Ao, Ap⟩ := Kd.N_slice Aa.out; subst Ap) | ((with_reducible refine gate_callee (f := 11) rfl ?_); refine goesL_ (some 10) rfl rfl Try.func11 (by kernel_rfl) rfl #[.slice An y213.length Ao] rfl pL ?_; (with_reducible refine (entry_Put.calls k _ _ y213 t216 t217 _ ?Ad ?Ae A1.out).mono ?_); (case Ad => exact pC (Kd.N_reads' Aa.out).2.2); (case Ae => exact (Kd.N_reads' Aa.out).2.1); rintro e w12 ⟨v218, rfl, ho0, hb⟩; refine ⟨_, rfl, ?_⟩; replace Aa := Am (Kd.N_elder' (pN Aa.out) (Kd.R_base ho0) hb); have Ab := Am (Kd.R_lower ho0 (below_size (pB HB.out))); replace HB := Am (below_step (pB HB.out) hb); (try clear hb); (try clear hb2); (try clear hk); (try clear hi); (try clear ho0)) | ((with_reducible refine gate_dst (N := 17) rfl ?_); (try (refine gate_guard (by rfl) ?_; dsimp only)); refine Kd.R_lit (Kd.int .u8) _ 5 ?hg (N := 17) ?hd (xs := ([1, 3, 2, 1, 1, 107, 0, 1, 9] : List Int)) (inner := [.int .u8 1, .int .u8 3, .int .u8 2, .int .u8 1, .int .u8 1, .int .u8 107, .int .u8 0, .int .u8 1, .int .u8 9]) (ok := fun _ => True) (okp := fun _ => True) ?hr ?hp (fun _ hk => hk) trivial (Below.refl _ _) (Nat.le_refl _) (by simp) ?_; (case hd => rfl); (case hg => rfl); (case hr => first | (go_simp; done) | (go_simp; rfl)); (case hp => exact (Reps.one (show Kd.M (Kd.int .u8) _ _ _ 1 [.int .u8 1] from rfl) (Reps.one (show Kd.M (Kd.int .u8) _ _ _ 3 [.int .u8 3] from rfl) (Reps.one (show Kd.M (Kd.int .u8) _ _ _ 2 [.int .u8 2] from rfl) (Reps.one (show Kd.M (Kd.int .u8) _ _ _ 1 [.int .u8 1] from rfl) (Reps.one (show Kd.M (Kd.int .u8) _ _ _ 1 [.int .u8 1] from rfl) (Reps.one (show Kd.M (Kd.int .u8) _ _ _ 107 [.int .u8 107] from rfl) (Reps.one (show Kd.M (Kd.int .u8) _ _ _ 0 [.int .u8 0] from rfl) (Reps.one (show Kd.M (Kd.int .u8) _ _ _ 1 [.int .u8 1] from rfl) (Reps.one (show Kd.M (Kd.int .u8) _ _ _ 9 [.int .u8 9] from rfl) (Reps.none _ _))))))))))); intro v221 w13 ho14 hb hg_ hnew_; clear hg_ hnew_; (first | rw [← Ny220.out] at ho14 | (simp only [Int.reduceToNat] at ho14; rw [← Ny220.out] at ho14)); replace Aa := Am (Kd.N_elder' (pN Aa.out) (Kd.R_base ho14) hb); have Af := Am (Kd.R_lower (Kd.R_new' ho14 (Kd.R_lt (pR Ab.out))) (below_size (pB HB.out))); replace Ab := Am (Kd.R_elder' (pR Ab.out) (Kd.R_base ho14) hb); replace HB := Am (below_step (pB HB.out) hb); clear hb ho14; obtain ⟨Ao15, co15, Aq⟩ := Kd.R_slice Ab.out; subst Aq; obtain ⟨Ao16, co16, Ar⟩ := Kd.R_slice Af.out; subst Ar) | (go_at_call 13; (with_reducible refine (garnerref02_Bytes.calls k _ _ t216 _ _ y220 true _ ?Ad ?Ae ?Ag ?Ah A3.out).mono ?_); (case Ad => exact pC (Kd.R_reads' Ab.out).2.2); (case Ae => exact (Kd.R_reads' Ab.out).2.1); (case Ag => exact pC (Kd.R_reads' Af.out).2.2); (case Ah => exact (Kd.R_reads' Af.out).2.1); rintro e w' ⟨rfl, ⟨nd, rfl⟩⟩) | (go_at_call 14; (refine (entry_Batch.calls k _ _ ([] : List (S42)) t224 _ ?Ad ?Ae A5.out).mono ?_); (case Ad => exact Kd.C_nil _ _); (case Ae => exact Nat.le_refl _); rintro e w17 ⟨rfl, hb⟩; replace Aa := bNa Aa hb; replace Ab := bRa Ab hb; replace Af := bRa Af hb; replace HB := Am (below_step (pB HB.out) hb); (try clear hb); (try clear hb2); (try clear hk); (try clear hi)))
 go_ret
 exact ⟨pX, pB HB.out⟩
mutual
def varint_Get.l0 : Nat → List Int → Int → Int → Option (Int × Int × Int)
 | 0, _, _, _ => none
 | k + 1, x0, x5, x6 => if x6 < (x0.length : Int) then (varint_Get.j1 k x0 x5 x6 (decide (x6 < 10))) else (varint_Get.j1 k x0 x5 x6 false)
def varint_Get.j1 : Nat → List Int → Int → Int → Bool → Option (Int × Int × Int)
 | 0, _, _, _, _ => none
 | k + 1, x0, x5, x6, x15 => if x15 = true then (if 0 ≤ x6 then (if x6 < (x0.length : Int) then (if x6 = 9 then (varint_Get.j2 k x0 x5 x6 (IntKind.u64.wrap (rd x0 x6)) (decide ((IntKind.u64.wrap (rd x0 x6)) > 1))) else (varint_Get.j2 k x0 x5 x6 (IntKind.u64.wrap (rd x0 x6)) false)) else (none)) else (none)) else (some (0, 0, 2))
def varint_Get.j2 : Nat → List Int → Int → Int → Int → Bool → Option (Int × Int × Int)
 | 0, _, _, _, _, _ => none
 | k + 1, x0, x5, x6, x7, x28 => if x28 = true then (some (0, 0, 2)) else (if 0 ≤ (wrap64 (7 * x6)) then (if x7 < 128 then (if x7 = 0 then (if x6 > 0 then (some (0, 0, 2)) else (some (Go.bits .or .u64 x5 (shl .u64 (Go.bits .andNot .u64 x7 128) (wrap64 (7 * x6))), wrap64 (x6 + 1), 0))) else (some (Go.bits .or .u64 x5 (shl .u64 (Go.bits .andNot .u64 x7 128) (wrap64 (7 * x6))), wrap64 (x6 + 1), 0))) else (varint_Get.l0 k x0 (Go.bits .or .u64 x5 (shl .u64 (Go.bits .andNot .u64 x7 128) (wrap64 (7 * x6)))) (wrap64 (x6 + 1)))) else (none))
end
def varint_Get.f (k : Nat) (l0 : List Int) : Option (Int × Int × Int) := varint_Get.l0 k l0 0 0
theorem varint_Get.mono_l : ∀ k, (∀ y0 y1 y2, LeO (varint_Get.l0 k y0 y1 y2) (varint_Get.l0 (k + 1) y0 y1 y2)) ∧ (∀ y0 y1 y2 y3, LeO (varint_Get.j1 k y0 y1 y2 y3) (varint_Get.j1 (k + 1) y0 y1 y2 y3)) ∧ (∀ y0 y1 y2 y3 y4, LeO (varint_Get.j2 k y0 y1 y2 y3 y4) (varint_Get.j2 (k + 1) y0 y1 y2 y3 y4))
 | 0 => ⟨fun _ _ _ r h => by simp [varint_Get.l0] at h, fun _ _ _ _ r h => by simp [varint_Get.j1] at h, fun _ _ _ _ _ r h => by simp [varint_Get.j2] at h⟩
 | k + 1 => by
  obtain ⟨ih0, ih1, ih2⟩ := varint_Get.mono_l k
  refine ⟨?_, ?_, ?_⟩
  ·intro y0 y1 y2
   unfold varint_Get.l0
   repeat' first
   | (with_reducible exact ih0 _ _ _)
   | (with_reducible exact ih1 _ _ _ _)
   | (with_reducible exact ih2 _ _ _ _ _)
   | (with_reducible exact LeO.refl _)
   | (with_reducible exact LeO.none _)
   | (with_reducible refine LeO.ite ?_ ?_)
   | (with_reducible refine LeO.bind ?_ (fun _ => ?_))
   | exact ih0 _ _ _
   | exact ih1 _ _ _ _
   | exact ih2 _ _ _ _ _
   | exact LeO.none _
   | refine LeO.ite ?_ ?_
   | refine LeO.bind ?_ (fun _ => ?_)
  ·intro y0 y1 y2 y3
   unfold varint_Get.j1
   repeat' first
   | (with_reducible exact ih0 _ _ _)
   | (with_reducible exact ih1 _ _ _ _)
   | (with_reducible exact ih2 _ _ _ _ _)
   | (with_reducible exact LeO.refl _)
   | (with_reducible exact LeO.none _)
   | (with_reducible refine LeO.ite ?_ ?_)
   | (with_reducible refine LeO.bind ?_ (fun _ => ?_))
   | exact ih0 _ _ _
   | exact ih1 _ _ _ _
   | exact ih2 _ _ _ _ _
   | exact LeO.none _
   | refine LeO.ite ?_ ?_
   | refine LeO.bind ?_ (fun _ => ?_)
  ·intro y0 y1 y2 y3 y4
   unfold varint_Get.j2
   repeat' first
   | (with_reducible exact ih0 _ _ _)
   | (with_reducible exact ih1 _ _ _ _)
   | (with_reducible exact ih2 _ _ _ _ _)
   | (with_reducible exact LeO.refl _)
   | (with_reducible exact LeO.none _)
   | (with_reducible refine LeO.ite ?_ ?_)
   | (with_reducible refine LeO.bind ?_ (fun _ => ?_))
   | exact ih0 _ _ _
   | exact ih1 _ _ _ _
   | exact ih2 _ _ _ _ _
   | exact LeO.none _
   | refine LeO.ite ?_ ?_
   | refine LeO.bind ?_ (fun _ => ?_)
theorem varint_Get.mono : ∀ a0 k, LeO (varint_Get.f k a0) (varint_Get.f (k + 1) a0) := by
 intro a0 k
 obtain ⟨ih0, ih1, ih2⟩ := varint_Get.mono_l k
 unfold varint_Get.f
 repeat' first
   | (with_reducible exact ih0 _ _ _)
   | (with_reducible exact ih1 _ _ _ _)
   | (with_reducible exact ih2 _ _ _ _ _)
   | (with_reducible exact LeO.refl _)
   | (with_reducible exact LeO.none _)
   | (with_reducible refine LeO.ite ?_ ?_)
   | (with_reducible refine LeO.bind ?_ (fun _ => ?_))
   | exact ih0 _ _ _
   | exact ih1 _ _ _ _
   | exact ih2 _ _ _ _ _
   | exact LeO.none _
   | refine LeO.ite ?_ ?_
   | refine LeO.bind ?_ (fun _ => ?_)
set_option maxHeartbeats 8000000 in
set_option maxRecDepth 100000 in
theorem varint_Get.calls (k : Nat) (A0 : Option Addr) (c0 : Nat) (l0 : List Int) (r1 : Int) (r2 : Int) (r3 : Int) (w : World) (hr0 : Kd.C (Kd.int .u8) w A0 l0.length l0) (hc0 : l0.length ≤ c0) (h : varint_Get.f k l0 = some (r1, r2, r3)) :
  Calls Try.prog 28 #[.slice A0 l0.length c0] w fun e w' => e = .returned (.tuple #[.int .u64 r1, .int .i64 r2, .int .i64 r3]) ∧ Drawn0 w w' := by
 have HR0 := Am hr0
 have HC0 := Am hc0
 clear hr0 hc0
 have H : (varint_Get.l0 k l0 0 0) = some (r1, r2, r3) := h
 clear h
 have H' := Am H
 clear H
 go_enter Try.func28, Try.ntmps28
 go_wp2
 go_loopg [5, 6] k (fun kq v5 v6 w' => ∃ (Ab : Int) (Aa : Int), v5 = .int .u64 Ab ∧ v6 = .int .i64 Aa ∧ Aside0 (varint_Get.l0 kq l0 Ab Aa = some (r1, r2, r3)) ∧ Aside0 (kq ≤ k) ∧ Drawn0 w w')
 case atStart => exact ⟨(0), (0), (by first | rfl | (simp; done) | (simp [*]; done)), (by first | rfl | (simp; done) | (simp [*]; done)), H', ⟨Nat.le_refl _⟩, by repeat (first | exact Drawn0.refl _ | apply Drawn0.step)⟩
 case round =>
  clear H'
  obtain ⟨Ab, Aa, rfl, rfl, HA, HK1, ⟨m1, rfl⟩⟩ := hrel
  cases gk with
  | zero => exact absurd HA.out (by simp [varint_Get.l0])
  | succ k1 =>
   have H := HA.out
   clear HA
   simp only [varint_Get.l0] at H
   have HC2 := Am H
   clear H
   go_upto_region 3 with (fail)
   go_cut [15] (fun v15 wc => ∃ (kq : Nat) (Ac : Bool), v15 = .bool Ac ∧ Aside0 (varint_Get.j1 kq l0 Ab Aa Ac = some (r1, r2, r3)) ∧ Aside0 (kq ≤ k1) ∧ Drawn0 w wc)
   case first =>
    have H := HC2.out
    clear HC2
    by_cases c3 : Aa < (l0.length : Int)
    ·rw [if_pos c3] at H
     have c3b0 : decide (Aa < (l0.length : Int)) = true := decide_eq_true c3
     clear c3
     (first | rw [c3b0] | (simp only [i64_w, i32_w]; rw [c3b0]) | skip)
     have H' := Am H
     clear H
     go_wp2
     go_meet
     case rel => exact ⟨_, (decide (Aa < 10)), (by first | rfl | (simp; done) | (simp [*]; done)), H', ⟨by have := HK1.out; first | omega | exact Nat.le_refl _⟩, by repeat (first | exact Drawn0.refl _ | apply Drawn0.step)⟩
    rw [if_neg c3] at H
    have c3b0 : decide (Aa < (l0.length : Int)) = false := decide_eq_false c3
    clear c3
    (first | rw [c3b0] | (simp only [i64_w, i32_w]; rw [c3b0]) | skip)
    have H' := Am H
    clear H
    go_wp2
    go_meet
    case rel => exact ⟨_, (false), (by first | rfl | (simp; done) | (simp [*]; done)), H', ⟨by have := HK1.out; first | omega | exact Nat.le_refl _⟩, by repeat (first | exact Drawn0.refl _ | apply Drawn0.step)⟩
   case rest =>
    clear HC2
    try clear c2
    try clear p2
    try clear c3
    try clear c3b0
    obtain ⟨kq, Ac, rfl, HA, HJ1, ⟨mc1, rfl⟩⟩ := hcut
    cases kq with
    | zero => exact absurd HA.out (by simp [varint_Get.j1])
    | succ kj1 =>
     have H := HA.out
     clear HA
     simp only [varint_Get.j1] at H
     by_cases c4 : Ac = true
     rotate_left
     ·replace c4 := Bool.eq_false_iff.mpr c4
      subst c4
      have H1 : (some (0, 0, 2)) = some (r1, r2, r3) := by rw [if_neg (show ¬ (false = true) by decide)] at H; exact H
      clear H
      have H := H1
      clear H1
      simp only [Option.some.injEq, Prod.mk.injEq] at H
      obtain ⟨rfl, rfl, rfl⟩ := H
      go_wp2
      go_ret3
      exact ⟨by first | rfl | (simp; done) | (simp [*]; done), by repeat (first | exact Drawn0.refl _ | apply Drawn0.step)⟩
     subst c4
     have H1 : (if 0 ≤ Aa then (if Aa < (l0.length : Int) then (if Aa = 9 then (varint_Get.j2 kj1 l0 Ab Aa (IntKind.u64.wrap (rd l0 Aa)) (decide ((IntKind.u64.wrap (rd l0 Aa)) > 1))) else (varint_Get.j2 kj1 l0 Ab Aa (IntKind.u64.wrap (rd l0 Aa)) false)) else (none)) else (none)) = some (r1, r2, r3) := by rw [if_pos rfl] at H; exact H
     clear H
     have H := H1
     clear H1
     by_cases c5 : 0 ≤ Aa
     rotate_left
     ·rw [if_neg c5] at H
      exact absurd H (by simp)
     rw [if_pos c5] at H
     have c5b0 : decide (0 ≤ Aa) = true := decide_eq_true c5
     clear c5
     by_cases c6 : Aa < (l0.length : Int)
     rotate_left
     ·rw [if_neg c6] at H
      exact absurd H (by simp)
     rw [if_pos c6] at H
     have c6b0 : decide (Aa < (l0.length : Int)) = true := decide_eq_true c6
     clear c6
     have HC7 := Am H
     clear H
     have p225 : 0 ≤ (Aa : Int) := of_decide_eq_true pS
     have q225 : Aa < (l0.length : Int) := of_decide_eq_true pS
     obtain ⟨ad225, e225, Ae⟩ := Kd.at_int HR0.out Aa p225 q225
     cases e225
     replace p225 := eq_true p225
     replace q225 := eq_true q225
     go_upto_region 6 with (fail)
     go_cut [28] (fun v28 wc => ∃ (kq : Nat) (Ad : Bool), v28 = .bool Ad ∧ Aside0 (varint_Get.j2 kq l0 Ab Aa (IntKind.u64.wrap (rd l0 Aa)) Ad = some (r1, r2, r3)) ∧ Aside0 (kq ≤ kj1) ∧ Drawn0 w wc)
     case first =>
      have H := HC7.out
      clear HC7
      by_cases c8 : Aa = 9
      rotate_left
      ·rw [if_neg c8] at H
       have c8b0 : (Aa == 9) = false := beq_eq_false_iff_ne.mpr c8
       have c8b1 : (Aa != 9) = true := bne_iff_ne.mpr c8
       (first | rw [c8b0] | (simp only [i64_w, i32_w]; rw [c8b0]) | skip)
       have H' := Am H
       clear H
       go_wp2
       go_meet
       case rel => exact ⟨_, (false), (by first | rfl | (simp; done) | (simp [*]; done)), H', ⟨by have := HK1.out; have := HJ1.out; first | omega | exact Nat.le_refl _⟩, by repeat (first | exact Drawn0.refl _ | apply Drawn0.step)⟩
      rw [if_pos c8] at H
      have c8b0 : (Aa == 9) = true := beq_iff_eq.mpr c8
      have c8b1 : (Aa != 9) = false := bne_eq_false_iff_eq.mpr c8
      clear c8
      (first | rw [c8b0] | (simp only [i64_w, i32_w]; rw [c8b0]) | skip)
      have H' := Am H
      clear H
      go_wp2
      go_meet
      case rel => exact ⟨_, (decide ((IntKind.u64.wrap (rd l0 Aa)) > 1)), (by first | rfl | (simp; done) | (simp [*]; done)), H', ⟨by have := HK1.out; have := HJ1.out; first | omega | exact Nat.le_refl _⟩, by repeat (first | exact Drawn0.refl _ | apply Drawn0.step)⟩
     case rest =>
      clear HC7
      try clear c1
      try clear c2
      try clear p2
      try clear q2
      try clear hx2
      try clear c3
      try clear c3b0
      try clear c4
      try clear c5
      try clear c5b0
      try clear c6
      try clear c6b0
      try clear c8
      try clear c8b0
      try clear c8b1
      try clear Ae
      try clear p2
      try clear p225
      try clear q225
      obtain ⟨kq, Ad, rfl, HA, HJ6, ⟨mc6, rfl⟩⟩ := hcut
      cases kq with
      | zero => exact absurd HA.out (by simp [varint_Get.j2])
      | succ kj6 =>
       have H := HA.out
       clear HA
       simp only [varint_Get.j2] at H
       by_cases c9 : Ad = true
       ·subst c9
        have H1 : (some (0, 0, 2)) = some (r1, r2, r3) := by rw [if_pos rfl] at H; exact H
        clear H
        have H := H1
        clear H1
        simp only [Option.some.injEq, Prod.mk.injEq] at H
        obtain ⟨rfl, rfl, rfl⟩ := H
        go_wp2
        go_ret3
        exact ⟨by first | rfl | (simp; done) | (simp [*]; done), by repeat (first | exact Drawn0.refl _ | apply Drawn0.step)⟩
       replace c9 := Bool.eq_false_iff.mpr c9
       subst c9
       have H1 : (if 0 ≤ (wrap64 (7 * Aa)) then (if (IntKind.u64.wrap (rd l0 Aa)) < 128 then (if (IntKind.u64.wrap (rd l0 Aa)) = 0 then (if Aa > 0 then (some (0, 0, 2)) else (some (Go.bits .or .u64 Ab (shl .u64 (Go.bits .andNot .u64 (IntKind.u64.wrap (rd l0 Aa)) 128) (wrap64 (7 * Aa))), wrap64 (Aa + 1), 0))) else (some (Go.bits .or .u64 Ab (shl .u64 (Go.bits .andNot .u64 (IntKind.u64.wrap (rd l0 Aa)) 128) (wrap64 (7 * Aa))), wrap64 (Aa + 1), 0))) else (varint_Get.l0 kj6 l0 (Go.bits .or .u64 Ab (shl .u64 (Go.bits .andNot .u64 (IntKind.u64.wrap (rd l0 Aa)) 128) (wrap64 (7 * Aa)))) (wrap64 (Aa + 1)))) else (none)) = some (r1, r2, r3) := by rw [if_neg (show ¬ (false = true) by decide)] at H; exact H
       clear H
       have H := H1
       clear H1
       obtain ⟨ji10, hji10⟩ : ∃ j_ : Int, (wrap64 (7 * Aa)) = j_ := ⟨_, rfl⟩
       replace H : (if 0 ≤ (ji10) then (if (IntKind.u64.wrap (rd l0 Aa)) < 128 then (if (IntKind.u64.wrap (rd l0 Aa)) = 0 then (if Aa > 0 then (some (0, 0, 2)) else (some (Go.bits .or .u64 Ab (shl .u64 (Go.bits .andNot .u64 (IntKind.u64.wrap (rd l0 Aa)) 128) (ji10)), wrap64 (Aa + 1), 0))) else (some (Go.bits .or .u64 Ab (shl .u64 (Go.bits .andNot .u64 (IntKind.u64.wrap (rd l0 Aa)) 128) (ji10)), wrap64 (Aa + 1), 0))) else (varint_Get.l0 kj6 l0 (Go.bits .or .u64 Ab (shl .u64 (Go.bits .andNot .u64 (IntKind.u64.wrap (rd l0 Aa)) 128) (ji10))) (wrap64 (Aa + 1)))) else (none)) = some (r1, r2, r3) := by first | (rw [hji10] at H; exact H) | (simp only [hji10] at H ⊢; exact H)
       have hji10w : (IntKind.i64.wrap (7 * Aa)) = ji10 := (i64_w _).trans hji10
       by_cases c11 : 0 ≤ (ji10)
       rotate_left
       ·rw [if_neg c11] at H
        exact absurd H (by simp)
       rw [if_pos c11] at H
       have c11b0 := eq_true c11
       have c11b1 : decide (0 ≤ (ji10)) = true := decide_eq_true c11
       clear c11
       obtain ⟨ji12, hji12⟩ : ∃ j_ : Int, (shl .u64 (Go.bits .andNot .u64 (IntKind.u64.wrap (rd l0 Aa)) 128) (ji10)) = j_ := ⟨_, rfl⟩
       replace H : (if (IntKind.u64.wrap (rd l0 Aa)) < 128 then (if (IntKind.u64.wrap (rd l0 Aa)) = 0 then (if Aa > 0 then (some (0, 0, 2)) else (some (Go.bits .or .u64 Ab (ji12), wrap64 (Aa + 1), 0))) else (some (Go.bits .or .u64 Ab (ji12), wrap64 (Aa + 1), 0))) else (varint_Get.l0 kj6 l0 (Go.bits .or .u64 Ab (ji12)) (wrap64 (Aa + 1)))) = some (r1, r2, r3) := by first | (rw [hji12] at H; exact H) | (simp only [hji12] at H ⊢; exact H)
       have hji12_ : (IntKind.u64.wrap ((Go.bits .andNot .u64 (IntKind.u64.wrap (rd l0 Aa)) 128) * 2 ^ min (ji10).toNat 64)) = ji12 := hji12
       have hji12z : (ji10) ≤ 64 → (IntKind.u64.wrap ((Go.bits .andNot .u64 (IntKind.u64.wrap (rd l0 Aa)) 128) * 2 ^ (ji10).toNat)) = ji12 := shl_small hji12
       by_cases c13 : (IntKind.u64.wrap (rd l0 Aa)) < 128
       rotate_left
       ·rw [if_neg c13] at H
        have c13b0 : decide ((IntKind.u64.wrap (rd l0 Aa)) < 128) = false := decide_eq_false c13
        clear c13
        have H' := Am H
        clear H
        go_wp2
        go_roundg kj6
        case measure => have := HK1.out; have := HJ1.out; have := HJ6.out; omega
        case rel => exact ⟨(Go.bits .or .u64 Ab (ji12)), (wrap64 (Aa + 1)), (by first | rfl | (simp; done) | (simp only [← hji12] <;> (first | rfl | simp)) | (simp [*]; done)), (by first | rfl | (simp; done) | (simp [*]; done)), H', ⟨by have := HK1.out; have := HJ1.out; have := HJ6.out; omega⟩, by repeat (first | exact Drawn0.refl _ | apply Drawn0.step)⟩
       rw [if_pos c13] at H
       have c13b0 : decide ((IntKind.u64.wrap (rd l0 Aa)) < 128) = true := decide_eq_true c13
       clear c13
       by_cases c14 : (IntKind.u64.wrap (rd l0 Aa)) = 0
       rotate_left
       ·rw [if_neg c14] at H
        have c14b0 : ((IntKind.u64.wrap (rd l0 Aa)) == 0) = false := beq_eq_false_iff_ne.mpr c14
        have c14b1 : ((IntKind.u64.wrap (rd l0 Aa)) != 0) = true := bne_iff_ne.mpr c14
        simp only [Option.some.injEq, Prod.mk.injEq] at H
        obtain ⟨rfl, rfl, rfl⟩ := H
        go_wp2
        go_ret3
        exact ⟨by first | rfl | (simp; done) | (simp only [← hji10, ← hji12] <;> (first | rfl | simp)) | (simp [*]; done), by repeat (first | exact Drawn0.refl _ | apply Drawn0.step)⟩
       rw [if_pos c14] at H
       have c14b0 : ((IntKind.u64.wrap (rd l0 Aa)) == 0) = true := beq_iff_eq.mpr c14
       have c14b1 : ((IntKind.u64.wrap (rd l0 Aa)) != 0) = false := bne_eq_false_iff_eq.mpr c14
       clear c14
       by_cases c15 : Aa > 0
       ·rw [if_pos c15] at H
        have c15b0 : decide (0 < Aa) = true := decide_eq_true c15
        clear c15
        simp only [Option.some.injEq, Prod.mk.injEq] at H
        obtain ⟨rfl, rfl, rfl⟩ := H
        go_wp2
        go_ret3
        exact ⟨by first | rfl | (simp; done) | (simp only [← hji10, ← hji12] <;> (first | rfl | simp)) | (simp [*]; done), by repeat (first | exact Drawn0.refl _ | apply Drawn0.step)⟩
       rw [if_neg c15] at H
       have c15b0 : decide (0 < Aa) = false := decide_eq_false c15
       clear c15
       simp only [Option.some.injEq, Prod.mk.injEq] at H
       obtain ⟨rfl, rfl, rfl⟩ := H
       go_wp2
       go_ret3
       exact ⟨by first | rfl | (simp; done) | (simp only [← hji10, ← hji12] <;> (first | rfl | simp)) | (simp [*]; done), by repeat (first | exact Drawn0.refl _ | apply Drawn0.step)⟩
end Go.Proofs.Ytpplclcgkcjmpaa.PEntryReads
