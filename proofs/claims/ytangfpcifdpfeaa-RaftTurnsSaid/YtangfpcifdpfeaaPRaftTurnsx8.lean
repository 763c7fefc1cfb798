/- What the law reaches, as plain Lean functions, and that the machine's calls answer just that. -/
import Derived.Test.YtangfpcifdpfeaaPRaftTurnsx0
import Derived.Test.YtangfpcifdpfeaaPRaftTurnsx5
import Derived.Test.YtangfpcifdpfeaaPRaftTurnsx7
namespace Go.Proofs.Ytangfpcifdpfeaa.PRaftTurns
open Go.RowKit Go.Proofs.YtangfpcifdpfeaaW.PrintWords Go.Proofs.YtangfpcifdpfeaaW.PrintLast Go.Proofs.YtangfpcifdpfeaaW.PrintMore
attribute [local go_sem] max2_int min2_int max_two min_two max_three min_three max_four min_four
set_option linter.unusedVariables false
set_option linter.unusedSimpArgs false
attribute [local go_sem] wrap64_l1 wrap64_l2 wrap64_l3 wrap64_l4 wrap64_l5
def garnerlaw23_rows.l0 : Nat → Int → Int → Int → List (S55) → Int → Option ((List (S55)))
 | 0, _, _, _, _, _ => none
 | k + 1, x0, x1, x2, x7, x8 => if x8 < x2 then (if x7.length < 1353245080339 then (garnerlaw23_rows.l0 k x0 x1 x2 (x7 ++ [(⟨wrap64 (x0 + x8), x1, 0, (⟨#[]⟩ : ByteArray), (⟨false, ([] : List Int), (⟨0, 0, 0, 0⟩ : S51)⟩ : S53)⟩ : S55)]) (wrap64 (x8 + 1))) else (none)) else (some x7)
def garnerlaw23_rows.f (k : Nat) (a0 : Int) (a1 : Int) (a2 : Int) : Option ((List (S55))) := garnerlaw23_rows.l0 k a0 a1 a2 (([] : List (S55))) 0
theorem garnerlaw23_rows.mono_l : ∀ k, (∀ y0 y1 y2 y3 y4, LeO (garnerlaw23_rows.l0 k y0 y1 y2 y3 y4) (garnerlaw23_rows.l0 (k + 1) y0 y1 y2 y3 y4))
 | 0 => fun _ _ _ _ _ r h => by simp [garnerlaw23_rows.l0] at h
 | k + 1 => by
  have ih0 := garnerlaw23_rows.mono_l k
  ·intro y0 y1 y2 y3 y4
   unfold garnerlaw23_rows.l0
   repeat' first
   | (with_reducible exact ih0 _ _ _ _ _)
   | (with_reducible exact LeO.refl _)
   | (with_reducible exact LeO.none _)
   | (with_reducible refine LeO.ite ?_ ?_)
   | (with_reducible refine LeO.bind ?_ (fun _ => ?_))
   | exact ih0 _ _ _ _ _
   | exact LeO.none _
   | refine LeO.ite ?_ ?_
   | refine LeO.bind ?_ (fun _ => ?_)
theorem garnerlaw23_rows.mono : ∀ a0 a1 a2 k, LeO (garnerlaw23_rows.f k a0 a1 a2) (garnerlaw23_rows.f (k + 1) a0 a1 a2) := by
 intro a0 a1 a2 k
 have ih0 := garnerlaw23_rows.mono_l k
 unfold garnerlaw23_rows.f
 repeat' first
   | (with_reducible exact ih0 _ _ _ _ _)
   | (with_reducible exact LeO.refl _)
   | (with_reducible exact LeO.none _)
   | (with_reducible refine LeO.ite ?_ ?_)
   | (with_reducible refine LeO.bind ?_ (fun _ => ?_))
   | exact ih0 _ _ _ _ _
   | exact LeO.none _
   | refine LeO.ite ?_ ?_
   | refine LeO.bind ?_ (fun _ => ?_)
set_option maxHeartbeats 8000000 in
set_option maxRecDepth 100000 in
theorem garnerlaw23_rows.calls (k : Nat) (a0 : Int) (a1 : Int) (a2 : Int) (r : List (S55)) (w : World) (h : garnerlaw23_rows.f k a0 a1 a2 = some r) :
  Calls Try.prog 19 #[.int .i64 a0, .int .i64 a1, .int .i64 a2] w fun e w' => ∃ v0_ : Value, e = .returned (v0_) ∧ Kd.S k55 55 w' w.heap.size (fun _ => True) v0_ r ∧ Below w.heap.size w w' := by
 have hu55 := Try.underlying55
 have HB := Am (Below.refl w.heap.size w)
 have H : (garnerlaw23_rows.l0 k a0 a1 a2 (([] : List (S55))) 0) = some r := h
 clear h
 obtain ⟨y193, hy193⟩ : ∃ y_ : List (S55), y_ = (([] : List (S55))) := ⟨_, rfl⟩
 replace H : (garnerlaw23_rows.l0 k a0 a1 a2 y193 0) = some r := by first | (rw [hy193]; with_reducible exact H) | (have H2_ := (Option.bind_some _ _).symm.trans H; rw [hy193]; with_reducible exact H2_) | (have H2_ := (Option.bind_some _ _).symm.trans H; with_reducible exact H2_) | with_reducible exact H | (rw [hy193]; exact H) | exact H
 have Ny193 := Am hy193
 clear hy193
 have H' := Am H
 clear H
 go_enter Try.func19, Try.ntmps19
 go_wp2_with (first | ((with_reducible refine gate_dst (N := 9) rfl ?_); refine Kd.S_lit k55 _ 55 ?hg (N := 9) ?hd (xs := ([] : List (S55))) (inner := []) (ok := fun _ => True) (okp := fun _ => True) ?hr ?hp (fun _ hk => hk) trivial (Below.refl _ _) (Nat.le_refl _) (by simp) ?_; (case hd => rfl); (case hg => rfl); (case hr => first | (go_simp; done) | (go_simp; rfl)); (case hp => exact (Reps.none _ _)); intro v194 w4 ho5 hb hg_ hnew_; clear hg_ hnew_; (first | rw [← Ny193.out] at ho5 | (simp only [Int.reduceToNat] at ho5; rw [← Ny193.out] at ho5)); have Ad := Am (Kd.S_lower ho5 (below_size (pB HB.out))); replace HB := Am (below_step (pB HB.out) hb); clear hb ho5))
 go_loopg [7, 8] k (fun kq v7 v8 w' => ∃ (Ab : List (S55)) (Aa : Int), v8 = .int .i64 Aa ∧ Aside0 (garnerlaw23_rows.l0 kq a0 a1 a2 Ab Aa = some r) ∧ Aside0 (kq ≤ k) ∧ Aside0 (Kd.S k55 55 w' w.heap.size (fun _ => True) v7 Ab) ∧ Aside0 (Below w.heap.size w w'))
 case atStart => exact ⟨(y193), (0), (by first | rfl | (simp; done) | (simp [*]; done)), H', ⟨Nat.le_refl _⟩, ⟨by (with_reducible repeat (first | apply Kd.S_alloc | apply Kd.S_drewN | apply Kd.S_drew)); exact Ad.out⟩, ⟨pB HB.out⟩⟩
 case round =>
  clear H'
  try clear c1
  try clear p2
  obtain ⟨Ab, Aa, rfl, HA, HK1, Ac, HB⟩ := hrel
  cases gk with
  | zero => exact absurd HA.out (by simp [garnerlaw23_rows.l0])
  | succ k1 =>
   have H := HA.out
   clear HA
   simp only [garnerlaw23_rows.l0] at H
   by_cases c6 : Aa < a2
   rotate_left
   ·rw [if_neg c6] at H
    have c6b0 : decide (Aa < a2) = false := decide_eq_false c6
    clear c6
    obtain rfl := Option.some.inj H
    go_wp2
    go_ret
    exact ⟨_, pX, by (with_reducible repeat (first | apply Kd.S_alloc | apply Kd.S_drewN | apply Kd.S_drew)); exact Ac.out, pB HB.out⟩
   rw [if_pos c6] at H
   have c6b0 : decide (Aa < a2) = true := decide_eq_true c6
   clear c6
   by_cases c7 : Ab.length < 1353245080339
   rotate_left
   ·rw [if_neg c7] at H
    exact absurd H (by simp)
   rw [if_pos c7] at H
   have LMc7 := Am c7
   clear c7
   obtain ⟨y196, hy196⟩ : ∃ y_ : List (S55), y_ = (Ab ++ [(⟨wrap64 (a0 + Aa), a1, 0, (⟨#[]⟩ : ByteArray), (⟨false, ([] : List Int), (⟨0, 0, 0, 0⟩ : S51)⟩ : S53)⟩ : S55)]) := ⟨_, rfl⟩
   replace H : (garnerlaw23_rows.l0 k1 a0 a1 a2 y196 (wrap64 (Aa + 1))) = some r := by first | (rw [hy196]; with_reducible exact H) | (have H2_ := (Option.bind_some _ _).symm.trans H; rw [hy196]; with_reducible exact H2_) | (have H2_ := (Option.bind_some _ _).symm.trans H; with_reducible exact H2_) | with_reducible exact H | (rw [hy196]; exact H) | exact H
   have Ny196 := Am hy196
   clear hy196
   have H' := Am H
   clear H
   go_wp2_with (first | ((with_reducible refine gate_builtin (b := .append) (xs := #[.tmp 15, .tmp 21]) rfl ?_); at_builtin; refine Kd.S_append k55 (w0 := w) w.heap.size rfl (.tmp 15) (.tmp 21) 22 55 (.agg #[(.int .i64 0), (.int .i64 0), (.int .i64 0), (.string ⟨#[]⟩), (.bool false), (.slice none 0 0), (.int .i64 0), (.int .i64 0), (.int .i64 0), (.int .u32 0)]) 104 rfl Try.underlying22 info55 rfl (by decide) (by omega) u7 Ab (⟨wrap64 (a0 + Aa), a1, 0, (⟨#[]⟩ : ByteArray), (⟨false, ([] : List Int), (⟨0, 0, 0, 0⟩ : S51)⟩ : S53)⟩ : S55) [.int .i64 (wrap64 (a0 + Aa)), .int .i64 a1, .int .i64 0, .string (⟨#[]⟩ : ByteArray), .bool false, .slice none 0 0, .int .i64 0, .int .i64 0, .int .i64 0, .int .u32 0] (fun _ => True) (fun _ => False) rfl rfl ?aP (fun k_ hk_ => hk_.elim) ?aF ?aO ?aB ?aS ?aL ?_; (case aP => exact k55_mkM _ _ _ (⟨wrap64 (a0 + Aa), a1, 0, (⟨#[]⟩ : ByteArray), (⟨false, ([] : List Int), (⟨0, 0, 0, 0⟩ : S51)⟩ : S53)⟩ : S55) (Kd.R_nil _ _ _ _ _)); (case aB => exact (pB HB.out)); (case aF => exact (fun _ _ => trivial)); (case aO => exact (by (with_reducible repeat (first | apply Kd.S_alloc | apply Kd.S_drewN | apply Kd.S_drew)); exact Kd.S_mono Ac.out (fun k_ hk => ⟨trivial, fun e_ => e_⟩))); (case aS => exact (below_size (pB HB.out))); (case aL => have := LMc7.out; omega); intro v197 w8 ho hb hg hat; rw [← Ny196.out] at ho; replace HB := Am (hb); have Ae := Am (ho); clear Ac ho hb hg hat))
   go_roundg k1
   case measure => have := HK1.out; omega
   case rel => exact ⟨(y196), (wrap64 (Aa + 1)), (by first | rfl | (simp; done) | (simp [*]; done)), H', ⟨by have := HK1.out; omega⟩, ⟨by (with_reducible repeat (first | apply Kd.S_alloc | apply Kd.S_drewN | apply Kd.S_drew)); exact Ae.out⟩, ⟨pB HB.out⟩⟩
def garnerlaw23_awake.f (k : Nat)  : Option (Bool) := (garnerlaw23_rows.f k 1 1 3).bind fun t199 => ((raft_Put.f k 0 0 ([] : List (S55)) 0 0 0 0 t199).bind fun bt202 => ((garnerlaw23_rows.f k 2 2 1).bind fun t213 => ((raft_Put.f k bt202.1 bt202.2.1 bt202.2.2.1 bt202.2.2.2.1 bt202.2.2.2.2.1 bt202.2.2.2.2.2.1 bt202.2.2.2.2.2.2.1 t213).bind fun bt216 => ((raft_Last.f k bt216.1 bt216.2.1 bt216.2.2.1 bt216.2.2.2.1 bt216.2.2.2.2.1 bt216.2.2.2.2.2.1 bt216.2.2.2.2.2.2.1).bind fun bt226 => (if bt202.2.2.2.2.2.2.2 = 0 then (if bt216.2.2.2.2.2.2.2 = 0 then (if bt226.1 = 2 then (if bt226.2 = 2 then (some ((bt216.2.2.1.length : Int) == 2)) else (some false)) else (some false)) else (some false)) else (some false))))))
theorem garnerlaw23_awake.mono : ∀ k, LeO (garnerlaw23_awake.f k ) (garnerlaw23_awake.f (k + 1) ) := by
 intro  k
 unfold garnerlaw23_awake.f
 repeat' first
   | (with_reducible exact garnerlaw23_rows.mono _ _ _ _)
   | (with_reducible exact raft_Last.mono _ _ _ _ _ _ _ _)
   | (with_reducible exact raft_Put.mono _ _ _ _ _ _ _ _ _)
   | (with_reducible exact LeO.refl _)
   | (with_reducible exact LeO.none _)
   | (with_reducible refine LeO.ite ?_ ?_)
   | (with_reducible refine LeO.bind ?_ (fun _ => ?_))
   | exact garnerlaw23_rows.mono _ _ _ _
   | exact raft_Last.mono _ _ _ _ _ _ _ _
   | exact raft_Put.mono _ _ _ _ _ _ _ _ _
   | exact LeO.none _
   | refine LeO.ite ?_ ?_
   | refine LeO.bind ?_ (fun _ => ?_)
def garnerlaw23_awake.T2 : Bool × List (List Nat × List Nat) := (true, [([], []), ([], []), ([0, 1, 1], [0, 1]), ([2], [2]), ([3], [3]), ([3], [3]), ([4, 2, 0, 1, 2, 3, 4], [4]), ([5, 6, 0, 1, 2, 3, 4, 5, 6], [5])])
def garnerlaw23_awake.B2 : List Nat := [0, 0, 3, 7, 15, 15, 31, 127]
theorem garnerlaw23_awake.tab2 : rtab .any (opsOf Try.f5 2) = garnerlaw23_awake.T2 := by kernel_rfl
theorem garnerlaw23_awake.bits2 : waitsOk garnerlaw23_awake.T2.2 garnerlaw23_awake.B2 = true := by kernel_rfl
set_option maxHeartbeats 8000000 in
set_option maxRecDepth 100000 in
theorem garnerlaw23_awake.calls (k : Nat)  (r : Bool) (w : World) (h : garnerlaw23_awake.f k  = some r) :
  Calls Try.prog 5 #[] w fun e w' => e = .returned (.bool r) ∧ Below w.heap.size w w' := by
 have hu26 := Try.underlying26
 have HB := Am (Below.refl w.heap.size w)
 have H : ((garnerlaw23_rows.f k 1 1 3).bind fun t199 => ((raft_Put.f k 0 0 ([] : List (S55)) 0 0 0 0 t199).bind fun bt202 => ((garnerlaw23_rows.f k 2 2 1).bind fun t213 => ((raft_Put.f k bt202.1 bt202.2.1 bt202.2.2.1 bt202.2.2.2.1 bt202.2.2.2.2.1 bt202.2.2.2.2.2.1 bt202.2.2.2.2.2.2.1 t213).bind fun bt216 => ((raft_Last.f k bt216.1 bt216.2.1 bt216.2.2.1 bt216.2.2.2.1 bt216.2.2.2.2.1 bt216.2.2.2.2.2.1 bt216.2.2.2.2.2.2.1).bind fun bt226 => (if bt202.2.2.2.2.2.2.2 = 0 then (if bt216.2.2.2.2.2.2.2 = 0 then (if bt226.1 = 2 then (if bt226.2 = 2 then (some ((bt216.2.2.1.length : Int) == 2)) else (some false)) else (some false)) else (some false)) else (some false))))))) = some r := h
 clear h
 replace H := Option.bind_eq_some_iff.mp H
 obtain ⟨t199, A10, H⟩ := H
 replace H : ((raft_Put.f k 0 0 ([] : List (S55)) 0 0 0 0 t199).bind fun bt202 => ((garnerlaw23_rows.f k 2 2 1).bind fun t213 => ((raft_Put.f k bt202.1 bt202.2.1 bt202.2.2.1 bt202.2.2.2.1 bt202.2.2.2.2.1 bt202.2.2.2.2.2.1 bt202.2.2.2.2.2.2.1 t213).bind fun bt216 => ((raft_Last.f k bt216.1 bt216.2.1 bt216.2.2.1 bt216.2.2.2.1 bt216.2.2.2.2.1 bt216.2.2.2.2.2.1 bt216.2.2.2.2.2.2.1).bind fun bt226 => (if bt202.2.2.2.2.2.2.2 = 0 then (if bt216.2.2.2.2.2.2.2 = 0 then (if bt226.1 = 2 then (if bt226.2 = 2 then (some ((bt216.2.2.1.length : Int) == 2)) else (some false)) else (some false)) else (some false)) else (some false)))))) = some r := H
 have A1 := Am A10
 clear A10
 replace H := Option.bind_eq_some_iff.mp H
 obtain ⟨⟨t202, t203, t204, t207, t208, t209, t210, t211⟩, A20, H⟩ := H
 replace H : ((garnerlaw23_rows.f k 2 2 1).bind fun t213 => ((raft_Put.f k t202 t203 t204 t207 t208 t209 t210 t213).bind fun bt216 => ((raft_Last.f k bt216.1 bt216.2.1 bt216.2.2.1 bt216.2.2.2.1 bt216.2.2.2.2.1 bt216.2.2.2.2.2.1 bt216.2.2.2.2.2.2.1).bind fun bt226 => (if t211 = 0 then (if bt216.2.2.2.2.2.2.2 = 0 then (if bt226.1 = 2 then (if bt226.2 = 2 then (some ((bt216.2.2.1.length : Int) == 2)) else (some false)) else (some false)) else (some false)) else (some false))))) = some r := H
 have A2 := Am A20
 clear A20
 replace H := Option.bind_eq_some_iff.mp H
 obtain ⟨t213, A30, H⟩ := H
 replace H : ((raft_Put.f k t202 t203 t204 t207 t208 t209 t210 t213).bind fun bt216 => ((raft_Last.f k bt216.1 bt216.2.1 bt216.2.2.1 bt216.2.2.2.1 bt216.2.2.2.2.1 bt216.2.2.2.2.2.1 bt216.2.2.2.2.2.2.1).bind fun bt226 => (if t211 = 0 then (if bt216.2.2.2.2.2.2.2 = 0 then (if bt226.1 = 2 then (if bt226.2 = 2 then (some ((bt216.2.2.1.length : Int) == 2)) else (some false)) else (some false)) else (some false)) else (some false)))) = some r := H
 have A3 := Am A30
 clear A30
 replace H := Option.bind_eq_some_iff.mp H
 obtain ⟨⟨t216, t217, t218, t221, t222, t223, t224, t225⟩, A40, H⟩ := H
 replace H : ((raft_Last.f k t216 t217 t218 t221 t222 t223 t224).bind fun bt226 => (if t211 = 0 then (if t225 = 0 then (if bt226.1 = 2 then (if bt226.2 = 2 then (some ((t218.length : Int) == 2)) else (some false)) else (some false)) else (some false)) else (some false))) = some r := H
 have A4 := Am A40
 clear A40
 replace H := Option.bind_eq_some_iff.mp H
 obtain ⟨⟨t226, t227⟩, A50, H⟩ := H
 replace H : (if t211 = 0 then (if t225 = 0 then (if t226 = 2 then (if t227 = 2 then (some ((t218.length : Int) == 2)) else (some false)) else (some false)) else (some false)) else (some false)) = some r := H
 have A5 := Am A50
 clear A50
 by_cases c6 : t211 = 0
 rotate_left
 ·rw [if_neg c6] at H
  have c6b0 : (t211 == 0) = false := beq_eq_false_iff_ne.mpr c6
  have c6b1 : (t211 != 0) = true := bne_iff_ne.mpr c6
  obtain rfl := Option.some.inj H
  go_enter Try.func5, Try.ntmps5
  try go_wp2_with (first | ((with_reducible refine gate_callee (f := 19) rfl ?_); refine goesL_ (some 8) rfl rfl Try.func19 (by kernel_rfl) rfl #[.int .i64 1, .int .i64 1, .int .i64 3] rfl pL ?_; (with_reducible refine (garnerlaw23_rows.calls k 1 1 3 t199 _ A1.out).mono ?_); rintro e w95 ⟨v200, rfl, ho0, hb⟩; refine ⟨_, rfl, ?_⟩; have Ac := Am (Kd.N_lower (Kd.N_mono (ok' := fun k_ => True) (Kd.S_N (Kd.S_bound ho0)) (fun k_ hk_ => trivial)) (below_size (pB HB.out))); replace HB := Am (below_step (pB HB.out) hb); (try clear hb); (try clear hb2); (try clear hk); (try clear hi); (try clear ho0); obtain ⟨Ba, Bb, Cf⟩ := Kd.N_slice Ac.out; subst Cf) | ((with_reducible refine gate_callee (f := 18) rfl ?_); refine goesL_ (some 9) rfl rfl Try.func18 (by kernel_rfl) rfl #[.agg #[.int .i64 0, .int .i64 0, .slice none 0 0, .int .i64 0, .int .i64 0, .int .i64 0, .int .i64 0], .slice Ba t199.length Bb] rfl pL ?_; (refine (raft_Put.calls k 0 0 _ _ ([] : List (S55)) 0 0 0 0 _ _ t199 t202 t203 t204 t207 t208 t209 t210 t211 _ ?Ag ?Ah ?Aj ?Ak A2.out).mono ?_); (case Ag => exact Kd.C_nil _ _); (case Ah => exact Nat.le_refl _); (case Aj => exact pC (Kd.N_reads' Ac.out).2.2); (case Ak => exact (Kd.N_reads' Ac.out).2.1); rintro e w97 ⟨v205, rfl, ho0, hb⟩; refine ⟨_, rfl, ?_⟩; have Ad := Am (Kd.N_lower (Kd.N_mono (ok' := fun k_ => some k_ ≠ (.slice Ba t199.length Bb : Value).ownBlock) ho0 (fun k_ hk_ => (Kd.fresh' (Kd.N_lt (pN Ac.out)) k_ hk_))) (below_size (pB HB.out))); replace Ac := Am (Kd.N_elder' (pN Ac.out) (Kd.N_base ho0) hb); replace HB := Am (below_step (pB HB.out) hb); (try clear hb); (try clear hb2); (try clear hk); (try clear hi); (try clear ho0)) | ((with_reducible refine gate_dst (N := 1) rfl ?_); (try (refine gate_guard (by rfl) ?_; dsimp only)); refine box_event ?hg (N := 1) ?hd (cs := #[.int .i64 0, .int .i64 0, .slice none 0 0, .int .i64 0, .int .i64 0, .int .i64 0, .int .i64 0]) (t := 26) ?hr ?_; (case hd => rfl); (case hg => rfl); (case hr => first | (go_simp; done) | (go_simp; rfl)); intro Aa hg w98 hbox hb; replace Ac := Am (Kd.N_below (Kd.N_elderB (pN Ac.out) Aa (Nat.le_of_eq hg.symm)) hb); replace Ad := Am (Kd.N_below (Kd.N_elderB (pN Ad.out) Aa (Nat.le_of_eq hg.symm)) hb); have Ab := Am (hbox); have Aw := Am ((by rw [hg]; exact (below_size (pB HB.out)) : w.heap.size ≤ Aa)); replace HB := Am (below_step (pB HB.out) hb); have Af := Aw; clear hb hbox hg; obtain ⟨_, _, _, _, _, _, _⟩ := bc7 Ab.out; obtain ⟨_, _, _, _, _, _, _⟩ := bf7 Ab.out; obtain ⟨Al, An, B1⟩ := Kd.N_slice Ad.out; subst B1))
  have n0_ : Aside0 (Kd.N k55 55 (((((((w98.setCell ⟨Aa, 0, none⟩ (.int .i64 t202)).setCell ⟨Aa, 1, none⟩ (.int .i64 t203)).setCell ⟨Aa, 2, none⟩ (.slice Al t204.length An)).setCell ⟨Aa, 3, none⟩ (.int .i64 t207)).setCell ⟨Aa, 4, none⟩ (.int .i64 t208)).setCell ⟨Aa, 5, none⟩ (.int .i64 t209)).setCell ⟨Aa, 6, none⟩ (.int .i64 t210)) w.heap.size (fun k_ => some k_ ≠ (.slice Al t204.length An : Value).ownBlock ∧ k_ ≠ Aa) (.slice Ba t199.length Bb) t199) := ⟨by (with_reducible repeat (first | apply Kd.N_alloc | apply Kd.N_drewN | apply Kd.N_drew)); exact Kd.N_mono (Nf7 (g := Aa) (Kd.N_mono Ac.out (fun k_ hk => (⟨hk, hk.2⟩ : _ ∧ k_ ≠ Aa))) (fun _ hk => hk.2)) (fun _ hk => ⟨hk.1.1.2, hk.1.2⟩)⟩
  have n1_ : Aside0 (Kd.N k55 55 (((((((w98.setCell ⟨Aa, 0, none⟩ (.int .i64 t202)).setCell ⟨Aa, 1, none⟩ (.int .i64 t203)).setCell ⟨Aa, 2, none⟩ (.slice Al t204.length An)).setCell ⟨Aa, 3, none⟩ (.int .i64 t207)).setCell ⟨Aa, 4, none⟩ (.int .i64 t208)).setCell ⟨Aa, 5, none⟩ (.int .i64 t209)).setCell ⟨Aa, 6, none⟩ (.int .i64 t210)) w.heap.size (fun k_ => some k_ ≠ (.slice Ba t199.length Bb : Value).ownBlock ∧ k_ ≠ Aa) (.slice Al t204.length An) t204) := ⟨by (with_reducible repeat (first | apply Kd.N_alloc | apply Kd.N_drewN | apply Kd.N_drew)); exact Kd.N_mono (Nf7 (g := Aa) (Kd.N_mono Ad.out (fun k_ hk => (⟨hk, hk.2⟩ : _ ∧ k_ ≠ Aa))) (fun _ hk => hk.2)) (fun _ hk => ⟨hk.1.1, hk.1.2⟩)⟩
  have n2_ : Aside0 ((((((((w98.setCell ⟨Aa, 0, none⟩ (.int .i64 t202)).setCell ⟨Aa, 1, none⟩ (.int .i64 t203)).setCell ⟨Aa, 2, none⟩ (.slice Al t204.length An)).setCell ⟨Aa, 3, none⟩ (.int .i64 t207)).setCell ⟨Aa, 4, none⟩ (.int .i64 t208)).setCell ⟨Aa, 5, none⟩ (.int .i64 t209)).setCell ⟨Aa, 6, none⟩ (.int .i64 t210)).heap[Aa]? = some (.cells #[.int .i64 t202, .int .i64 t203, .slice Al t204.length An, .int .i64 t207, .int .i64 t208, .int .i64 t209, .int .i64 t210] 26 (0, 0))) := ⟨kX0 Ab.out⟩
  have n3_ : Aside0 (Below w.heap.size w (((((((w98.setCell ⟨Aa, 0, none⟩ (.int .i64 t202)).setCell ⟨Aa, 1, none⟩ (.int .i64 t203)).setCell ⟨Aa, 2, none⟩ (.slice Al t204.length An)).setCell ⟨Aa, 3, none⟩ (.int .i64 t207)).setCell ⟨Aa, 4, none⟩ (.int .i64 t208)).setCell ⟨Aa, 5, none⟩ (.int .i64 t209)).setCell ⟨Aa, 6, none⟩ (.int .i64 t210))) := ⟨pE HB.out Af.out⟩
  (try clear Ac)
  (try clear Ad)
  (try clear Ab)
  (try clear HB)
  generalize (((((((w98.setCell ⟨Aa, 0, none⟩ (.int .i64 t202)).setCell ⟨Aa, 1, none⟩ (.int .i64 t203)).setCell ⟨Aa, 2, none⟩ (.slice Al t204.length An)).setCell ⟨Aa, 3, none⟩ (.int .i64 t207)).setCell ⟨Aa, 4, none⟩ (.int .i64 t208)).setCell ⟨Aa, 5, none⟩ (.int .i64 t209)).setCell ⟨Aa, 6, none⟩ (.int .i64 t210)) = w101 at n0_ n1_ n2_ n3_ ⊢
  have Ac := n0_
  have Ad := n1_
  have Ab := n2_
  have HB := n3_
  clear n0_ n1_ n2_ n3_
  replace Ac := dNa Ac
  replace Ad := dNa Ad
  replace Ab := kDa Ab
  replace HB := bDa HB
  refine start_ (n := 8) (S := fun w' => cG w' Aa 0 (.int .i64 t202) ∧ cG w' Aa 1 (.int .i64 t203) ∧ cG w' Aa 2 (.slice Al t204.length An) ∧ cG w' Aa 3 (.int .i64 t207) ∧ cG w' Aa 4 (.int .i64 t208) ∧ cG w' Aa 5 (.int .i64 t209) ∧ cG w' Aa 6 (.int .i64 t210)) (ds := [6]) #[false, false, false, false, false, false, false, false] (by kernel_rfl) rfl rfl ⟨(blk_cell Ab.out 0).trans rfl, (blk_cell Ab.out 1).trans rfl, (blk_cell Ab.out 2).trans rfl, (blk_cell Ab.out 3).trans rfl, (blk_cell Ab.out 4).trans rfl, (blk_cell Ab.out 5).trans rfl, (blk_cell Ab.out 6).trans rfl⟩ (fun hHeld => ?_); refine with_tabW garnerlaw23_awake.tab2 garnerlaw23_awake.bits2 (fun HT_ HW_ => ?_)
  generalize w101.drew = w102 at Ac Ad Ab HB hHeld ⊢
  refine tki 0 13 8 1 HT_ HW_ hHeld ?_
  refine onei 1 14 8 3 HT_ (fun K hK => ?_)
  refine goes_ Try.func19 (by kernel_rfl) rfl #[.int .i64 2, .int .i64 2, .int .i64 1] (by rfl) rfl rfl pL ?_
  with_reducible refine (garnerlaw23_rows.calls k 2 2 1 t213 _ A3.out).mono ?_
  rintro e w103 ⟨v214, rfl, ho0, hb⟩
  refine ⟨_, rfl, ?_⟩
  have Ae := Am (Kd.N_lower (Kd.N_mono (ok' := fun k_ => some k_ ≠ (.slice Ba t199.length Bb : Value).ownBlock ∧ some k_ ≠ (.slice Al t204.length An : Value).ownBlock ∧ k_ ≠ Aa) (Kd.S_N (Kd.S_bound ho0)) (fun k_ hk_ => ⟨(Kd.fresh' (Kd.N_lt (pN Ac.out)) k_ hk_.2.1), (Kd.fresh' (Kd.N_lt (pN Ad.out)) k_ hk_.2.1), (kF Ab.out k_ hk_.2.1)⟩)) (below_size (pE HB.out Af.out)))
  replace Ac := Am (Kd.N_elder' (pN Ac.out) (Kd.N_base (Kd.S_N ho0)) hb)
  replace Ad := Am (Kd.N_elder' (pN Ad.out) (Kd.N_base (Kd.S_N ho0)) hb)
  replace Ab := kBa Ab hb
  replace HB := Am (below_step (pE HB.out Af.out) hb)
  (try clear hb)
  (try clear hb2)
  (try clear hk)
  (try clear hi)
  (try clear ho0)
  obtain ⟨Bc, Bd, Be⟩ := Kd.N_slice Ae.out
  (first | subst Be | (injection Be with f1_ f2_ f3_; have f4_ := f1_.symm; have f5_ := f3_.symm; clear f1_ f2_ f3_; subst f4_; subst f5_))
  refine hK.out _ _ ⟨(blk_cell Ab.out 0).trans rfl, (blk_cell Ab.out 1).trans rfl, (blk_cell Ab.out 2).trans rfl, (blk_cell Ab.out 3).trans rfl, (blk_cell Ab.out 4).trans rfl, (blk_cell Ab.out 5).trans rfl, (blk_cell Ab.out 6).trans rfl⟩ (fun hHeld => ?_)
  clear hK K
  refine norm_ (a' := ?_) ?_ ?_
  rotate_left
  ·show Act.put _ (some 14) _ = _
   simp only [Act.put, List.setIfInBounds_toArray, List.set_cons_zero, List.set_cons_succ, i64_w, i32_w]
   rfl
  refine onei 2 15 8 7 HT_ (fun K hK => ?_)
  refine goes_ Try.func18 (by kernel_rfl) rfl #[.agg #[.int .i64 t202, .int .i64 t203, .slice Al t204.length An, .int .i64 t207, .int .i64 t208, .int .i64 t209, .int .i64 t210], .slice Bc t213.length Bd] (by rfl) rfl rfl pL ?_
  with_reducible refine (raft_Put.calls k t202 t203 _ _ t204 t207 t208 t209 t210 _ _ t213 t216 t217 t218 t221 t222 t223 t224 t225 _ ?Ag ?Ah ?Aj ?Ak A4.out).mono ?_
  (case Ag => exact pC (Kd.N_reads' Ad.out).2.2)
  (case Ah => exact (Kd.N_reads' Ad.out).2.1)
  (case Aj => exact pC (Kd.N_reads' Ae.out).2.2)
  (case Ak => exact (Kd.N_reads' Ae.out).2.1)
  rintro e w105 ⟨v219, rfl, ho0, hb⟩
  refine ⟨_, rfl, ?_⟩
  have Ai := Am (Kd.N_lower (Kd.N_mono (ok' := fun k_ => some k_ ≠ (.slice Ba t199.length Bb : Value).ownBlock ∧ some k_ ≠ (.slice Al t204.length An : Value).ownBlock ∧ some k_ ≠ (.slice Bc t213.length Bd : Value).ownBlock ∧ k_ ≠ Aa) ho0 (fun k_ hk_ => ⟨(Kd.fresh' (Kd.N_lt (pN Ac.out)) k_ hk_), (Kd.fresh' (Kd.N_lt (pN Ad.out)) k_ hk_), (Kd.fresh' (Kd.N_lt (pN Ae.out)) k_ hk_), (kF Ab.out k_ hk_)⟩)) (below_size (pE HB.out Af.out)))
  replace Ac := Am (Kd.N_elder' (pN Ac.out) (Kd.N_base ho0) hb)
  replace Ad := Am (Kd.N_elder' (pN Ad.out) (Kd.N_base ho0) hb)
  replace Ae := Am (Kd.N_elder' (pN Ae.out) (Kd.N_base ho0) hb)
  replace Ab := kBa Ab hb
  replace HB := Am (below_step (pE HB.out Af.out) hb)
  (try clear hb)
  (try clear hb2)
  (try clear hk)
  (try clear hi)
  (try clear ho0)
  obtain ⟨B2, Bf, Bg⟩ := Kd.N_slice Ai.out
  (first | subst Bg | (injection Bg with f1_ f2_ f3_; have f4_ := f1_.symm; have f5_ := f3_.symm; clear f1_ f2_ f3_; subst f4_; subst f5_))
  refine hK.out _ _ ⟨(blk_cell Ab.out 0).trans rfl, (blk_cell Ab.out 1).trans rfl, (blk_cell Ab.out 2).trans rfl, (blk_cell Ab.out 3).trans rfl, (blk_cell Ab.out 4).trans rfl, (blk_cell Ab.out 5).trans rfl, (blk_cell Ab.out 6).trans rfl⟩ (fun hHeld => ?_)
  clear hK K
  refine norm_ (a' := ?_) ?_ ?_
  rotate_left
  ·show Act.put _ (some 15) _ = _
   simp only [Act.put, List.setIfInBounds_toArray, List.set_cons_zero, List.set_cons_succ, i64_w, i32_w]
   rfl
  refine pui 3 12 8 15 HT_ ?_
  refine pui 4 16 8 31 HT_ ?_
  refine pui 5 17 8 63 HT_ ?_
  refine last_ (i := 6) (N := none) (bw 8 127) rfl rfl (one_of HT_.out (by kernel_rfl)) (by decide) (fun K hK => ?_)
  have hs106 : w105.cell? ⟨Aa, 0, none⟩ = some (.int .i64 t202) := (blk_cell Ab.out 0).trans rfl
  have hfs106 := blk_frozen Ab.out 0
  have hs107 : w105.cell? ⟨Aa, 1, none⟩ = some (.int .i64 t203) := (blk_cell Ab.out 1).trans rfl
  have hfs107 := blk_frozen Ab.out 1
  have hs109 : w105.cell? ⟨Aa, 2, none⟩ = some (.slice Al t204.length An) := (blk_cell Ab.out 2).trans rfl
  have hfs109 := blk_frozen Ab.out 2
  have hs110 : w105.cell? ⟨Aa, 3, none⟩ = some (.int .i64 t207) := (blk_cell Ab.out 3).trans rfl
  have hfs110 := blk_frozen Ab.out 3
  have hs111 : w105.cell? ⟨Aa, 4, none⟩ = some (.int .i64 t208) := (blk_cell Ab.out 4).trans rfl
  have hfs111 := blk_frozen Ab.out 4
  have hs112 : w105.cell? ⟨Aa, 5, none⟩ = some (.int .i64 t209) := (blk_cell Ab.out 5).trans rfl
  have hfs112 := blk_frozen Ab.out 5
  have hs113 : w105.cell? ⟨Aa, 6, none⟩ = some (.int .i64 t210) := (blk_cell Ab.out 6).trans rfl
  have hfs113 := blk_frozen Ab.out 6
  refine skip_ (w1 := ?_) (by rfl) rfl ?_ ?_
  rotate_left
  ·go_simp
   rfl
  refine hK.out _ _ ?_
  clear hK K
  refine pui 7 3 8 255 HT_ ?_
  refine done_ (done_of HT_.out (by kernel_rfl)) ?_
  obtain ⟨_, _, _, _, _, _, _⟩ := bc7 Ab.out
  obtain ⟨_, _, _, _, _, _, _⟩ := bf7 Ab.out
  try go_wp2_with (first | ((with_reducible refine gate_callee (f := 20) rfl ?_); refine goesL_ (some 20) rfl rfl Try.func20 (by kernel_rfl) rfl #[.agg #[.int .i64 t216, .int .i64 t217, .slice B2 t218.length Bf, .int .i64 t221, .int .i64 t222, .int .i64 t223, .int .i64 t224]] rfl pL ?_; (with_reducible refine (raft_Last.calls k t216 t217 _ _ t218 t221 t222 t223 t224 t226 t227 _ ?Ag ?Ah A5.out).mono ?_); (case Ag => refine (Kd.N_reads' (e := 55) (base := w.heap.size) (ok := fun k_ => (some k_ ≠ (.slice Ba t199.length Bb : Value).ownBlock ∧ (some k_ ≠ (.slice Al t204.length An : Value).ownBlock ∧ (some k_ ≠ (.slice Bc t213.length Bd : Value).ownBlock ∧ k_ ≠ Aa)))) (n := t218.length) (c := Bf) ?_).2.2; exact (by (with_reducible repeat (first | apply Kd.N_alloc | apply Kd.N_drewN | apply Kd.N_drew)); exact (Kd.N_mono (Nf7 (g := Aa) (Kd.N_mono Ai.out (fun k_ hk => (⟨hk, hk.2.2.2⟩ : _ ∧ k_ ≠ Aa))) (fun _ hk => hk.2)) (fun _ h_ => h_.1)))); (case Ah => exact (Kd.N_reads' Ai.out).2.1); rintro e w115 ⟨rfl, hb⟩; refine ⟨_, rfl, ?_⟩; replace Ac := Am (Kd.N_below (by (with_reducible repeat (first | apply Kd.N_alloc | apply Kd.N_drewN | apply Kd.N_drew)); exact (Kd.N_mono (Nf7 (g := Aa) (Kd.N_mono Ac.out (fun k_ hk => (⟨hk, hk.1.1.2⟩ : _ ∧ k_ ≠ Aa))) (fun _ hk => hk.2)) (fun _ h_ => h_.1))) hb); replace Ad := Am (Kd.N_below (by (with_reducible repeat (first | apply Kd.N_alloc | apply Kd.N_drewN | apply Kd.N_drew)); exact (Kd.N_mono (Nf7 (g := Aa) (Kd.N_mono Ad.out (fun k_ hk => (⟨hk, hk.1.1.2⟩ : _ ∧ k_ ≠ Aa))) (fun _ hk => hk.2)) (fun _ h_ => h_.1))) hb); replace Ae := Am (Kd.N_below (by (with_reducible repeat (first | apply Kd.N_alloc | apply Kd.N_drewN | apply Kd.N_drew)); exact (Kd.N_mono (Nf7 (g := Aa) (Kd.N_mono Ae.out (fun k_ hk => (⟨hk, hk.1.2.2⟩ : _ ∧ k_ ≠ Aa))) (fun _ hk => hk.2)) (fun _ h_ => h_.1))) hb); replace Ai := Am (Kd.N_below (by (with_reducible repeat (first | apply Kd.N_alloc | apply Kd.N_drewN | apply Kd.N_drew)); exact (Kd.N_mono (Nf7 (g := Aa) (Kd.N_mono Ai.out (fun k_ hk => (⟨hk, hk.2.2.2⟩ : _ ∧ k_ ≠ Aa))) (fun _ hk => hk.2)) (fun _ h_ => h_.1))) hb); replace Ab := Am (blk_below (g := Aa) (kX0 Ab.out) hb); replace HB := Am (below_step (pE HB.out Af.out) hb); (try clear hb); (try clear hb2); (try clear hk); (try clear hi)))
  go_ret
  exact ⟨pX, pE HB.out Af.out⟩
 rw [if_pos c6] at H
 have c6b0 : (t211 == 0) = true := beq_iff_eq.mpr c6
 have c6b1 : (t211 != 0) = false := bne_eq_false_iff_eq.mpr c6
 clear c6
 by_cases c7 : t225 = 0
 rotate_left
 ·rw [if_neg c7] at H
  have c7b0 : (t225 == 0) = false := beq_eq_false_iff_ne.mpr c7
  have c7b1 : (t225 != 0) = true := bne_iff_ne.mpr c7
  obtain rfl := Option.some.inj H
  go_enter Try.func5, Try.ntmps5
  try go_wp2_with (first | ((with_reducible refine gate_callee (f := 19) rfl ?_); refine goesL_ (some 8) rfl rfl Try.func19 (by kernel_rfl) rfl #[.int .i64 1, .int .i64 1, .int .i64 3] rfl pL ?_; (with_reducible refine (garnerlaw23_rows.calls k 1 1 3 t199 _ A1.out).mono ?_); rintro e w74 ⟨v200, rfl, ho0, hb⟩; refine ⟨_, rfl, ?_⟩; have Ac := Am (Kd.N_lower (Kd.N_mono (ok' := fun k_ => True) (Kd.S_N (Kd.S_bound ho0)) (fun k_ hk_ => trivial)) (below_size (pB HB.out))); replace HB := Am (below_step (pB HB.out) hb); (try clear hb); (try clear hb2); (try clear hk); (try clear hi); (try clear ho0); obtain ⟨A8, A9, Cc⟩ := Kd.N_slice Ac.out; subst Cc) | ((with_reducible refine gate_callee (f := 18) rfl ?_); refine goesL_ (some 9) rfl rfl Try.func18 (by kernel_rfl) rfl #[.agg #[.int .i64 0, .int .i64 0, .slice none 0 0, .int .i64 0, .int .i64 0, .int .i64 0, .int .i64 0], .slice A8 t199.length A9] rfl pL ?_; (refine (raft_Put.calls k 0 0 _ _ ([] : List (S55)) 0 0 0 0 _ _ t199 t202 t203 t204 t207 t208 t209 t210 t211 _ ?Ag ?Ah ?Aj ?Ak A2.out).mono ?_); (case Ag => exact Kd.C_nil _ _); (case Ah => exact Nat.le_refl _); (case Aj => exact pC (Kd.N_reads' Ac.out).2.2); (case Ak => exact (Kd.N_reads' Ac.out).2.1); rintro e w76 ⟨v205, rfl, ho0, hb⟩; refine ⟨_, rfl, ?_⟩; have Ad := Am (Kd.N_lower (Kd.N_mono (ok' := fun k_ => some k_ ≠ (.slice A8 t199.length A9 : Value).ownBlock) ho0 (fun k_ hk_ => (Kd.fresh' (Kd.N_lt (pN Ac.out)) k_ hk_))) (below_size (pB HB.out))); replace Ac := Am (Kd.N_elder' (pN Ac.out) (Kd.N_base ho0) hb); replace HB := Am (below_step (pB HB.out) hb); (try clear hb); (try clear hb2); (try clear hk); (try clear hi); (try clear ho0)) | ((with_reducible refine gate_dst (N := 1) rfl ?_); (try (refine gate_guard (by rfl) ?_; dsimp only)); refine box_event ?hg (N := 1) ?hd (cs := #[.int .i64 0, .int .i64 0, .slice none 0 0, .int .i64 0, .int .i64 0, .int .i64 0, .int .i64 0]) (t := 26) ?hr ?_; (case hd => rfl); (case hg => rfl); (case hr => first | (go_simp; done) | (go_simp; rfl)); intro Aa hg w77 hbox hb; replace Ac := Am (Kd.N_below (Kd.N_elderB (pN Ac.out) Aa (Nat.le_of_eq hg.symm)) hb); replace Ad := Am (Kd.N_below (Kd.N_elderB (pN Ad.out) Aa (Nat.le_of_eq hg.symm)) hb); have Ab := Am (hbox); have Aw := Am ((by rw [hg]; exact (below_size (pB HB.out)) : w.heap.size ≤ Aa)); replace HB := Am (below_step (pB HB.out) hb); have Af := Aw; clear hb hbox hg; obtain ⟨_, _, _, _, _, _, _⟩ := bc7 Ab.out; obtain ⟨_, _, _, _, _, _, _⟩ := bf7 Ab.out; obtain ⟨Au, Av, Cd⟩ := Kd.N_slice Ad.out; subst Cd))
  have n0_ : Aside0 (Kd.N k55 55 (((((((w77.setCell ⟨Aa, 0, none⟩ (.int .i64 t202)).setCell ⟨Aa, 1, none⟩ (.int .i64 t203)).setCell ⟨Aa, 2, none⟩ (.slice Au t204.length Av)).setCell ⟨Aa, 3, none⟩ (.int .i64 t207)).setCell ⟨Aa, 4, none⟩ (.int .i64 t208)).setCell ⟨Aa, 5, none⟩ (.int .i64 t209)).setCell ⟨Aa, 6, none⟩ (.int .i64 t210)) w.heap.size (fun k_ => some k_ ≠ (.slice Au t204.length Av : Value).ownBlock ∧ k_ ≠ Aa) (.slice A8 t199.length A9) t199) := ⟨by (with_reducible repeat (first | apply Kd.N_alloc | apply Kd.N_drewN | apply Kd.N_drew)); exact Kd.N_mono (Nf7 (g := Aa) (Kd.N_mono Ac.out (fun k_ hk => (⟨hk, hk.2⟩ : _ ∧ k_ ≠ Aa))) (fun _ hk => hk.2)) (fun _ hk => ⟨hk.1.1.2, hk.1.2⟩)⟩
  have n1_ : Aside0 (Kd.N k55 55 (((((((w77.setCell ⟨Aa, 0, none⟩ (.int .i64 t202)).setCell ⟨Aa, 1, none⟩ (.int .i64 t203)).setCell ⟨Aa, 2, none⟩ (.slice Au t204.length Av)).setCell ⟨Aa, 3, none⟩ (.int .i64 t207)).setCell ⟨Aa, 4, none⟩ (.int .i64 t208)).setCell ⟨Aa, 5, none⟩ (.int .i64 t209)).setCell ⟨Aa, 6, none⟩ (.int .i64 t210)) w.heap.size (fun k_ => some k_ ≠ (.slice A8 t199.length A9 : Value).ownBlock ∧ k_ ≠ Aa) (.slice Au t204.length Av) t204) := ⟨by (with_reducible repeat (first | apply Kd.N_alloc | apply Kd.N_drewN | apply Kd.N_drew)); exact Kd.N_mono (Nf7 (g := Aa) (Kd.N_mono Ad.out (fun k_ hk => (⟨hk, hk.2⟩ : _ ∧ k_ ≠ Aa))) (fun _ hk => hk.2)) (fun _ hk => ⟨hk.1.1, hk.1.2⟩)⟩
  have n2_ : Aside0 ((((((((w77.setCell ⟨Aa, 0, none⟩ (.int .i64 t202)).setCell ⟨Aa, 1, none⟩ (.int .i64 t203)).setCell ⟨Aa, 2, none⟩ (.slice Au t204.length Av)).setCell ⟨Aa, 3, none⟩ (.int .i64 t207)).setCell ⟨Aa, 4, none⟩ (.int .i64 t208)).setCell ⟨Aa, 5, none⟩ (.int .i64 t209)).setCell ⟨Aa, 6, none⟩ (.int .i64 t210)).heap[Aa]? = some (.cells #[.int .i64 t202, .int .i64 t203, .slice Au t204.length Av, .int .i64 t207, .int .i64 t208, .int .i64 t209, .int .i64 t210] 26 (0, 0))) := ⟨kX0 Ab.out⟩
  have n3_ : Aside0 (Below w.heap.size w (((((((w77.setCell ⟨Aa, 0, none⟩ (.int .i64 t202)).setCell ⟨Aa, 1, none⟩ (.int .i64 t203)).setCell ⟨Aa, 2, none⟩ (.slice Au t204.length Av)).setCell ⟨Aa, 3, none⟩ (.int .i64 t207)).setCell ⟨Aa, 4, none⟩ (.int .i64 t208)).setCell ⟨Aa, 5, none⟩ (.int .i64 t209)).setCell ⟨Aa, 6, none⟩ (.int .i64 t210))) := ⟨pE HB.out Af.out⟩
  (try clear Ac)
  (try clear Ad)
  (try clear Ab)
  (try clear HB)
  generalize (((((((w77.setCell ⟨Aa, 0, none⟩ (.int .i64 t202)).setCell ⟨Aa, 1, none⟩ (.int .i64 t203)).setCell ⟨Aa, 2, none⟩ (.slice Au t204.length Av)).setCell ⟨Aa, 3, none⟩ (.int .i64 t207)).setCell ⟨Aa, 4, none⟩ (.int .i64 t208)).setCell ⟨Aa, 5, none⟩ (.int .i64 t209)).setCell ⟨Aa, 6, none⟩ (.int .i64 t210)) = w80 at n0_ n1_ n2_ n3_ ⊢
  have Ac := n0_
  have Ad := n1_
  have Ab := n2_
  have HB := n3_
  clear n0_ n1_ n2_ n3_
  replace Ac := dNa Ac
  replace Ad := dNa Ad
  replace Ab := kDa Ab
  replace HB := bDa HB
  refine start_ (n := 8) (S := fun w' => cG w' Aa 0 (.int .i64 t202) ∧ cG w' Aa 1 (.int .i64 t203) ∧ cG w' Aa 2 (.slice Au t204.length Av) ∧ cG w' Aa 3 (.int .i64 t207) ∧ cG w' Aa 4 (.int .i64 t208) ∧ cG w' Aa 5 (.int .i64 t209) ∧ cG w' Aa 6 (.int .i64 t210)) (ds := [6]) #[false, false, false, false, false, false, false, false] (by kernel_rfl) rfl rfl ⟨(blk_cell Ab.out 0).trans rfl, (blk_cell Ab.out 1).trans rfl, (blk_cell Ab.out 2).trans rfl, (blk_cell Ab.out 3).trans rfl, (blk_cell Ab.out 4).trans rfl, (blk_cell Ab.out 5).trans rfl, (blk_cell Ab.out 6).trans rfl⟩ (fun hHeld => ?_); refine with_tabW garnerlaw23_awake.tab2 garnerlaw23_awake.bits2 (fun HT_ HW_ => ?_)
  generalize w80.drew = w81 at Ac Ad Ab HB hHeld ⊢
  refine tki 0 13 8 1 HT_ HW_ hHeld ?_
  refine onei 1 14 8 3 HT_ (fun K hK => ?_)
  refine goes_ Try.func19 (by kernel_rfl) rfl #[.int .i64 2, .int .i64 2, .int .i64 1] (by rfl) rfl rfl pL ?_
  with_reducible refine (garnerlaw23_rows.calls k 2 2 1 t213 _ A3.out).mono ?_
  rintro e w82 ⟨v214, rfl, ho0, hb⟩
  refine ⟨_, rfl, ?_⟩
  have Ae := Am (Kd.N_lower (Kd.N_mono (ok' := fun k_ => some k_ ≠ (.slice A8 t199.length A9 : Value).ownBlock ∧ some k_ ≠ (.slice Au t204.length Av : Value).ownBlock ∧ k_ ≠ Aa) (Kd.S_N (Kd.S_bound ho0)) (fun k_ hk_ => ⟨(Kd.fresh' (Kd.N_lt (pN Ac.out)) k_ hk_.2.1), (Kd.fresh' (Kd.N_lt (pN Ad.out)) k_ hk_.2.1), (kF Ab.out k_ hk_.2.1)⟩)) (below_size (pE HB.out Af.out)))
  replace Ac := Am (Kd.N_elder' (pN Ac.out) (Kd.N_base (Kd.S_N ho0)) hb)
  replace Ad := Am (Kd.N_elder' (pN Ad.out) (Kd.N_base (Kd.S_N ho0)) hb)
  replace Ab := kBa Ab hb
  replace HB := Am (below_step (pE HB.out Af.out) hb)
  (try clear hb)
  (try clear hb2)
  (try clear hk)
  (try clear hi)
  (try clear ho0)
  obtain ⟨Bn, Bo, By⟩ := Kd.N_slice Ae.out
  (first | subst By | (injection By with f1_ f2_ f3_; have f4_ := f1_.symm; have f5_ := f3_.symm; clear f1_ f2_ f3_; subst f4_; subst f5_))
  refine hK.out _ _ ⟨(blk_cell Ab.out 0).trans rfl, (blk_cell Ab.out 1).trans rfl, (blk_cell Ab.out 2).trans rfl, (blk_cell Ab.out 3).trans rfl, (blk_cell Ab.out 4).trans rfl, (blk_cell Ab.out 5).trans rfl, (blk_cell Ab.out 6).trans rfl⟩ (fun hHeld => ?_)
  clear hK K
  refine norm_ (a' := ?_) ?_ ?_
  rotate_left
  ·show Act.put _ (some 14) _ = _
   simp only [Act.put, List.setIfInBounds_toArray, List.set_cons_zero, List.set_cons_succ, i64_w, i32_w]
   rfl
  refine onei 2 15 8 7 HT_ (fun K hK => ?_)
  refine goes_ Try.func18 (by kernel_rfl) rfl #[.agg #[.int .i64 t202, .int .i64 t203, .slice Au t204.length Av, .int .i64 t207, .int .i64 t208, .int .i64 t209, .int .i64 t210], .slice Bn t213.length Bo] (by rfl) rfl rfl pL ?_
  with_reducible refine (raft_Put.calls k t202 t203 _ _ t204 t207 t208 t209 t210 _ _ t213 t216 t217 t218 t221 t222 t223 t224 t225 _ ?Ag ?Ah ?Aj ?Ak A4.out).mono ?_
  (case Ag => exact pC (Kd.N_reads' Ad.out).2.2)
  (case Ah => exact (Kd.N_reads' Ad.out).2.1)
  (case Aj => exact pC (Kd.N_reads' Ae.out).2.2)
  (case Ak => exact (Kd.N_reads' Ae.out).2.1)
  rintro e w84 ⟨v219, rfl, ho0, hb⟩
  refine ⟨_, rfl, ?_⟩
  have Ai := Am (Kd.N_lower (Kd.N_mono (ok' := fun k_ => some k_ ≠ (.slice A8 t199.length A9 : Value).ownBlock ∧ some k_ ≠ (.slice Au t204.length Av : Value).ownBlock ∧ some k_ ≠ (.slice Bn t213.length Bo : Value).ownBlock ∧ k_ ≠ Aa) ho0 (fun k_ hk_ => ⟨(Kd.fresh' (Kd.N_lt (pN Ac.out)) k_ hk_), (Kd.fresh' (Kd.N_lt (pN Ad.out)) k_ hk_), (Kd.fresh' (Kd.N_lt (pN Ae.out)) k_ hk_), (kF Ab.out k_ hk_)⟩)) (below_size (pE HB.out Af.out)))
  replace Ac := Am (Kd.N_elder' (pN Ac.out) (Kd.N_base ho0) hb)
  replace Ad := Am (Kd.N_elder' (pN Ad.out) (Kd.N_base ho0) hb)
  replace Ae := Am (Kd.N_elder' (pN Ae.out) (Kd.N_base ho0) hb)
  replace Ab := kBa Ab hb
  replace HB := Am (below_step (pE HB.out Af.out) hb)
  (try clear hb)
  (try clear hb2)
  (try clear hk)
  (try clear hi)
  (try clear ho0)
  obtain ⟨Ce, Bz, B0⟩ := Kd.N_slice Ai.out
  (first | subst B0 | (injection B0 with f1_ f2_ f3_; have f4_ := f1_.symm; have f5_ := f3_.symm; clear f1_ f2_ f3_; subst f4_; subst f5_))
  refine hK.out _ _ ⟨(blk_cell Ab.out 0).trans rfl, (blk_cell Ab.out 1).trans rfl, (blk_cell Ab.out 2).trans rfl, (blk_cell Ab.out 3).trans rfl, (blk_cell Ab.out 4).trans rfl, (blk_cell Ab.out 5).trans rfl, (blk_cell Ab.out 6).trans rfl⟩ (fun hHeld => ?_)
  clear hK K
  refine norm_ (a' := ?_) ?_ ?_
  rotate_left
  ·show Act.put _ (some 15) _ = _
   simp only [Act.put, List.setIfInBounds_toArray, List.set_cons_zero, List.set_cons_succ, i64_w, i32_w]
   rfl
  refine pui 3 12 8 15 HT_ ?_
  refine pui 4 16 8 31 HT_ ?_
  refine pui 5 17 8 63 HT_ ?_
  refine last_ (i := 6) (N := none) (bw 8 127) rfl rfl (one_of HT_.out (by kernel_rfl)) (by decide) (fun K hK => ?_)
  have hs85 : w84.cell? ⟨Aa, 0, none⟩ = some (.int .i64 t202) := (blk_cell Ab.out 0).trans rfl
  have hfs85 := blk_frozen Ab.out 0
  have hs86 : w84.cell? ⟨Aa, 1, none⟩ = some (.int .i64 t203) := (blk_cell Ab.out 1).trans rfl
  have hfs86 := blk_frozen Ab.out 1
  have hs88 : w84.cell? ⟨Aa, 2, none⟩ = some (.slice Au t204.length Av) := (blk_cell Ab.out 2).trans rfl
  have hfs88 := blk_frozen Ab.out 2
  have hs89 : w84.cell? ⟨Aa, 3, none⟩ = some (.int .i64 t207) := (blk_cell Ab.out 3).trans rfl
  have hfs89 := blk_frozen Ab.out 3
  have hs90 : w84.cell? ⟨Aa, 4, none⟩ = some (.int .i64 t208) := (blk_cell Ab.out 4).trans rfl
  have hfs90 := blk_frozen Ab.out 4
  have hs91 : w84.cell? ⟨Aa, 5, none⟩ = some (.int .i64 t209) := (blk_cell Ab.out 5).trans rfl
  have hfs91 := blk_frozen Ab.out 5
  have hs92 : w84.cell? ⟨Aa, 6, none⟩ = some (.int .i64 t210) := (blk_cell Ab.out 6).trans rfl
  have hfs92 := blk_frozen Ab.out 6
  refine skip_ (w1 := ?_) (by rfl) rfl ?_ ?_
  rotate_left
  ·go_simp
   rfl
  refine hK.out _ _ ?_
  clear hK K
  refine pui 7 3 8 255 HT_ ?_
  refine done_ (done_of HT_.out (by kernel_rfl)) ?_
  obtain ⟨_, _, _, _, _, _, _⟩ := bc7 Ab.out
  obtain ⟨_, _, _, _, _, _, _⟩ := bf7 Ab.out
  try go_wp2_with (first | ((with_reducible refine gate_callee (f := 20) rfl ?_); refine goesL_ (some 20) rfl rfl Try.func20 (by kernel_rfl) rfl #[.agg #[.int .i64 t216, .int .i64 t217, .slice Ce t218.length Bz, .int .i64 t221, .int .i64 t222, .int .i64 t223, .int .i64 t224]] rfl pL ?_; (with_reducible refine (raft_Last.calls k t216 t217 _ _ t218 t221 t222 t223 t224 t226 t227 _ ?Ag ?Ah A5.out).mono ?_); (case Ag => refine (Kd.N_reads' (e := 55) (base := w.heap.size) (ok := fun k_ => (some k_ ≠ (.slice A8 t199.length A9 : Value).ownBlock ∧ (some k_ ≠ (.slice Au t204.length Av : Value).ownBlock ∧ (some k_ ≠ (.slice Bn t213.length Bo : Value).ownBlock ∧ k_ ≠ Aa)))) (n := t218.length) (c := Bz) ?_).2.2; exact (by (with_reducible repeat (first | apply Kd.N_alloc | apply Kd.N_drewN | apply Kd.N_drew)); exact (Kd.N_mono (Nf7 (g := Aa) (Kd.N_mono Ai.out (fun k_ hk => (⟨hk, hk.2.2.2⟩ : _ ∧ k_ ≠ Aa))) (fun _ hk => hk.2)) (fun _ h_ => h_.1)))); (case Ah => exact (Kd.N_reads' Ai.out).2.1); rintro e w94 ⟨rfl, hb⟩; refine ⟨_, rfl, ?_⟩; replace Ac := Am (Kd.N_below (by (with_reducible repeat (first | apply Kd.N_alloc | apply Kd.N_drewN | apply Kd.N_drew)); exact (Kd.N_mono (Nf7 (g := Aa) (Kd.N_mono Ac.out (fun k_ hk => (⟨hk, hk.1.1.2⟩ : _ ∧ k_ ≠ Aa))) (fun _ hk => hk.2)) (fun _ h_ => h_.1))) hb); replace Ad := Am (Kd.N_below (by (with_reducible repeat (first | apply Kd.N_alloc | apply Kd.N_drewN | apply Kd.N_drew)); exact (Kd.N_mono (Nf7 (g := Aa) (Kd.N_mono Ad.out (fun k_ hk => (⟨hk, hk.1.1.2⟩ : _ ∧ k_ ≠ Aa))) (fun _ hk => hk.2)) (fun _ h_ => h_.1))) hb); replace Ae := Am (Kd.N_below (by (with_reducible repeat (first | apply Kd.N_alloc | apply Kd.N_drewN | apply Kd.N_drew)); exact (Kd.N_mono (Nf7 (g := Aa) (Kd.N_mono Ae.out (fun k_ hk => (⟨hk, hk.1.2.2⟩ : _ ∧ k_ ≠ Aa))) (fun _ hk => hk.2)) (fun _ h_ => h_.1))) hb); replace Ai := Am (Kd.N_below (by (with_reducible repeat (first | apply Kd.N_alloc | apply Kd.N_drewN | apply Kd.N_drew)); exact (Kd.N_mono (Nf7 (g := Aa) (Kd.N_mono Ai.out (fun k_ hk => (⟨hk, hk.2.2.2⟩ : _ ∧ k_ ≠ Aa))) (fun _ hk => hk.2)) (fun _ h_ => h_.1))) hb); replace Ab := Am (blk_below (g := Aa) (kX0 Ab.out) hb); replace HB := Am (below_step (pE HB.out Af.out) hb); (try clear hb); (try clear hb2); (try clear hk); (try clear hi)))
  go_ret
  exact ⟨pX, pE HB.out Af.out⟩
 rw [if_pos c7] at H
 have c7b0 : (t225 == 0) = true := beq_iff_eq.mpr c7
 have c7b1 : (t225 != 0) = false := bne_eq_false_iff_eq.mpr c7
 clear c7
 by_cases c8 : t226 = 2
 rotate_left
 ·rw [if_neg c8] at H
  have c8b0 : (t226 == 2) = false := beq_eq_false_iff_ne.mpr c8
  have c8b1 : (t226 != 2) = true := bne_iff_ne.mpr c8
  obtain rfl := Option.some.inj H
  go_enter Try.func5, Try.ntmps5
  try go_wp2_with (first | ((with_reducible refine gate_callee (f := 19) rfl ?_); refine goesL_ (some 8) rfl rfl Try.func19 (by kernel_rfl) rfl #[.int .i64 1, .int .i64 1, .int .i64 3] rfl pL ?_; (with_reducible refine (garnerlaw23_rows.calls k 1 1 3 t199 _ A1.out).mono ?_); rintro e w53 ⟨v200, rfl, ho0, hb⟩; refine ⟨_, rfl, ?_⟩; have Ac := Am (Kd.N_lower (Kd.N_mono (ok' := fun k_ => True) (Kd.S_N (Kd.S_bound ho0)) (fun k_ hk_ => trivial)) (below_size (pB HB.out))); replace HB := Am (below_step (pB HB.out) hb); (try clear hb); (try clear hb2); (try clear hk); (try clear hi); (try clear ho0); obtain ⟨A6, A7, B9⟩ := Kd.N_slice Ac.out; subst B9) | ((with_reducible refine gate_callee (f := 18) rfl ?_); refine goesL_ (some 9) rfl rfl Try.func18 (by kernel_rfl) rfl #[.agg #[.int .i64 0, .int .i64 0, .slice none 0 0, .int .i64 0, .int .i64 0, .int .i64 0, .int .i64 0], .slice A6 t199.length A7] rfl pL ?_; (refine (raft_Put.calls k 0 0 _ _ ([] : List (S55)) 0 0 0 0 _ _ t199 t202 t203 t204 t207 t208 t209 t210 t211 _ ?Ag ?Ah ?Aj ?Ak A2.out).mono ?_); (case Ag => exact Kd.C_nil _ _); (case Ah => exact Nat.le_refl _); (case Aj => exact pC (Kd.N_reads' Ac.out).2.2); (case Ak => exact (Kd.N_reads' Ac.out).2.1); rintro e w55 ⟨v205, rfl, ho0, hb⟩; refine ⟨_, rfl, ?_⟩; have Ad := Am (Kd.N_lower (Kd.N_mono (ok' := fun k_ => some k_ ≠ (.slice A6 t199.length A7 : Value).ownBlock) ho0 (fun k_ hk_ => (Kd.fresh' (Kd.N_lt (pN Ac.out)) k_ hk_))) (below_size (pB HB.out))); replace Ac := Am (Kd.N_elder' (pN Ac.out) (Kd.N_base ho0) hb); replace HB := Am (below_step (pB HB.out) hb); (try clear hb); (try clear hb2); (try clear hk); (try clear hi); (try clear ho0)) | ((with_reducible refine gate_dst (N := 1) rfl ?_); (try (refine gate_guard (by rfl) ?_; dsimp only)); refine box_event ?hg (N := 1) ?hd (cs := #[.int .i64 0, .int .i64 0, .slice none 0 0, .int .i64 0, .int .i64 0, .int .i64 0, .int .i64 0]) (t := 26) ?hr ?_; (case hd => rfl); (case hg => rfl); (case hr => first | (go_simp; done) | (go_simp; rfl)); intro Aa hg w56 hbox hb; replace Ac := Am (Kd.N_below (Kd.N_elderB (pN Ac.out) Aa (Nat.le_of_eq hg.symm)) hb); replace Ad := Am (Kd.N_below (Kd.N_elderB (pN Ad.out) Aa (Nat.le_of_eq hg.symm)) hb); have Ab := Am (hbox); have Aw := Am ((by rw [hg]; exact (below_size (pB HB.out)) : w.heap.size ≤ Aa)); replace HB := Am (below_step (pB HB.out) hb); have Af := Aw; clear hb hbox hg; obtain ⟨_, _, _, _, _, _, _⟩ := bc7 Ab.out; obtain ⟨_, _, _, _, _, _, _⟩ := bf7 Ab.out; obtain ⟨As, At, Ca⟩ := Kd.N_slice Ad.out; subst Ca))
  have n0_ : Aside0 (Kd.N k55 55 (((((((w56.setCell ⟨Aa, 0, none⟩ (.int .i64 t202)).setCell ⟨Aa, 1, none⟩ (.int .i64 t203)).setCell ⟨Aa, 2, none⟩ (.slice As t204.length At)).setCell ⟨Aa, 3, none⟩ (.int .i64 t207)).setCell ⟨Aa, 4, none⟩ (.int .i64 t208)).setCell ⟨Aa, 5, none⟩ (.int .i64 t209)).setCell ⟨Aa, 6, none⟩ (.int .i64 t210)) w.heap.size (fun k_ => some k_ ≠ (.slice As t204.length At : Value).ownBlock ∧ k_ ≠ Aa) (.slice A6 t199.length A7) t199) := ⟨by (with_reducible repeat (first | apply Kd.N_alloc | apply Kd.N_drewN | apply Kd.N_drew)); exact Kd.N_mono (Nf7 (g := Aa) (Kd.N_mono Ac.out (fun k_ hk => (⟨hk, hk.2⟩ : _ ∧ k_ ≠ Aa))) (fun _ hk => hk.2)) (fun _ hk => ⟨hk.1.1.2, hk.1.2⟩)⟩
  have n1_ : Aside0 (Kd.N k55 55 (((((((w56.setCell ⟨Aa, 0, none⟩ (.int .i64 t202)).setCell ⟨Aa, 1, none⟩ (.int .i64 t203)).setCell ⟨Aa, 2, none⟩ (.slice As t204.length At)).setCell ⟨Aa, 3, none⟩ (.int .i64 t207)).setCell ⟨Aa, 4, none⟩ (.int .i64 t208)).setCell ⟨Aa, 5, none⟩ (.int .i64 t209)).setCell ⟨Aa, 6, none⟩ (.int .i64 t210)) w.heap.size (fun k_ => some k_ ≠ (.slice A6 t199.length A7 : Value).ownBlock ∧ k_ ≠ Aa) (.slice As t204.length At) t204) := ⟨by (with_reducible repeat (first | apply Kd.N_alloc | apply Kd.N_drewN | apply Kd.N_drew)); exact Kd.N_mono (Nf7 (g := Aa) (Kd.N_mono Ad.out (fun k_ hk => (⟨hk, hk.2⟩ : _ ∧ k_ ≠ Aa))) (fun _ hk => hk.2)) (fun _ hk => ⟨hk.1.1, hk.1.2⟩)⟩
  have n2_ : Aside0 ((((((((w56.setCell ⟨Aa, 0, none⟩ (.int .i64 t202)).setCell ⟨Aa, 1, none⟩ (.int .i64 t203)).setCell ⟨Aa, 2, none⟩ (.slice As t204.length At)).setCell ⟨Aa, 3, none⟩ (.int .i64 t207)).setCell ⟨Aa, 4, none⟩ (.int .i64 t208)).setCell ⟨Aa, 5, none⟩ (.int .i64 t209)).setCell ⟨Aa, 6, none⟩ (.int .i64 t210)).heap[Aa]? = some (.cells #[.int .i64 t202, .int .i64 t203, .slice As t204.length At, .int .i64 t207, .int .i64 t208, .int .i64 t209, .int .i64 t210] 26 (0, 0))) := ⟨kX0 Ab.out⟩
  have n3_ : Aside0 (Below w.heap.size w (((((((w56.setCell ⟨Aa, 0, none⟩ (.int .i64 t202)).setCell ⟨Aa, 1, none⟩ (.int .i64 t203)).setCell ⟨Aa, 2, none⟩ (.slice As t204.length At)).setCell ⟨Aa, 3, none⟩ (.int .i64 t207)).setCell ⟨Aa, 4, none⟩ (.int .i64 t208)).setCell ⟨Aa, 5, none⟩ (.int .i64 t209)).setCell ⟨Aa, 6, none⟩ (.int .i64 t210))) := ⟨pE HB.out Af.out⟩
  (try clear Ac)
  (try clear Ad)
  (try clear Ab)
  (try clear HB)
  generalize (((((((w56.setCell ⟨Aa, 0, none⟩ (.int .i64 t202)).setCell ⟨Aa, 1, none⟩ (.int .i64 t203)).setCell ⟨Aa, 2, none⟩ (.slice As t204.length At)).setCell ⟨Aa, 3, none⟩ (.int .i64 t207)).setCell ⟨Aa, 4, none⟩ (.int .i64 t208)).setCell ⟨Aa, 5, none⟩ (.int .i64 t209)).setCell ⟨Aa, 6, none⟩ (.int .i64 t210)) = w59 at n0_ n1_ n2_ n3_ ⊢
  have Ac := n0_
  have Ad := n1_
  have Ab := n2_
  have HB := n3_
  clear n0_ n1_ n2_ n3_
  replace Ac := dNa Ac
  replace Ad := dNa Ad
  replace Ab := kDa Ab
  replace HB := bDa HB
  refine start_ (n := 8) (S := fun w' => cG w' Aa 0 (.int .i64 t202) ∧ cG w' Aa 1 (.int .i64 t203) ∧ cG w' Aa 2 (.slice As t204.length At) ∧ cG w' Aa 3 (.int .i64 t207) ∧ cG w' Aa 4 (.int .i64 t208) ∧ cG w' Aa 5 (.int .i64 t209) ∧ cG w' Aa 6 (.int .i64 t210)) (ds := [6]) #[false, false, false, false, false, false, false, false] (by kernel_rfl) rfl rfl ⟨(blk_cell Ab.out 0).trans rfl, (blk_cell Ab.out 1).trans rfl, (blk_cell Ab.out 2).trans rfl, (blk_cell Ab.out 3).trans rfl, (blk_cell Ab.out 4).trans rfl, (blk_cell Ab.out 5).trans rfl, (blk_cell Ab.out 6).trans rfl⟩ (fun hHeld => ?_); refine with_tabW garnerlaw23_awake.tab2 garnerlaw23_awake.bits2 (fun HT_ HW_ => ?_)
  generalize w59.drew = w60 at Ac Ad Ab HB hHeld ⊢
  refine tki 0 13 8 1 HT_ HW_ hHeld ?_
  refine onei 1 14 8 3 HT_ (fun K hK => ?_)
  refine goes_ Try.func19 (by kernel_rfl) rfl #[.int .i64 2, .int .i64 2, .int .i64 1] (by rfl) rfl rfl pL ?_
  with_reducible refine (garnerlaw23_rows.calls k 2 2 1 t213 _ A3.out).mono ?_
  rintro e w61 ⟨v214, rfl, ho0, hb⟩
  refine ⟨_, rfl, ?_⟩
  have Ae := Am (Kd.N_lower (Kd.N_mono (ok' := fun k_ => some k_ ≠ (.slice A6 t199.length A7 : Value).ownBlock ∧ some k_ ≠ (.slice As t204.length At : Value).ownBlock ∧ k_ ≠ Aa) (Kd.S_N (Kd.S_bound ho0)) (fun k_ hk_ => ⟨(Kd.fresh' (Kd.N_lt (pN Ac.out)) k_ hk_.2.1), (Kd.fresh' (Kd.N_lt (pN Ad.out)) k_ hk_.2.1), (kF Ab.out k_ hk_.2.1)⟩)) (below_size (pE HB.out Af.out)))
  replace Ac := Am (Kd.N_elder' (pN Ac.out) (Kd.N_base (Kd.S_N ho0)) hb)
  replace Ad := Am (Kd.N_elder' (pN Ad.out) (Kd.N_base (Kd.S_N ho0)) hb)
  replace Ab := kBa Ab hb
  replace HB := Am (below_step (pE HB.out Af.out) hb)
  (try clear hb)
  (try clear hb2)
  (try clear hk)
  (try clear hi)
  (try clear ho0)
  obtain ⟨Bl, Bm, Bv⟩ := Kd.N_slice Ae.out
  (first | subst Bv | (injection Bv with f1_ f2_ f3_; have f4_ := f1_.symm; have f5_ := f3_.symm; clear f1_ f2_ f3_; subst f4_; subst f5_))
  refine hK.out _ _ ⟨(blk_cell Ab.out 0).trans rfl, (blk_cell Ab.out 1).trans rfl, (blk_cell Ab.out 2).trans rfl, (blk_cell Ab.out 3).trans rfl, (blk_cell Ab.out 4).trans rfl, (blk_cell Ab.out 5).trans rfl, (blk_cell Ab.out 6).trans rfl⟩ (fun hHeld => ?_)
  clear hK K
  refine norm_ (a' := ?_) ?_ ?_
  rotate_left
  ·show Act.put _ (some 14) _ = _
   simp only [Act.put, List.setIfInBounds_toArray, List.set_cons_zero, List.set_cons_succ, i64_w, i32_w]
   rfl
  refine onei 2 15 8 7 HT_ (fun K hK => ?_)
  refine goes_ Try.func18 (by kernel_rfl) rfl #[.agg #[.int .i64 t202, .int .i64 t203, .slice As t204.length At, .int .i64 t207, .int .i64 t208, .int .i64 t209, .int .i64 t210], .slice Bl t213.length Bm] (by rfl) rfl rfl pL ?_
  with_reducible refine (raft_Put.calls k t202 t203 _ _ t204 t207 t208 t209 t210 _ _ t213 t216 t217 t218 t221 t222 t223 t224 t225 _ ?Ag ?Ah ?Aj ?Ak A4.out).mono ?_
  (case Ag => exact pC (Kd.N_reads' Ad.out).2.2)
  (case Ah => exact (Kd.N_reads' Ad.out).2.1)
  (case Aj => exact pC (Kd.N_reads' Ae.out).2.2)
  (case Ak => exact (Kd.N_reads' Ae.out).2.1)
  rintro e w63 ⟨v219, rfl, ho0, hb⟩
  refine ⟨_, rfl, ?_⟩
  have Ai := Am (Kd.N_lower (Kd.N_mono (ok' := fun k_ => some k_ ≠ (.slice A6 t199.length A7 : Value).ownBlock ∧ some k_ ≠ (.slice As t204.length At : Value).ownBlock ∧ some k_ ≠ (.slice Bl t213.length Bm : Value).ownBlock ∧ k_ ≠ Aa) ho0 (fun k_ hk_ => ⟨(Kd.fresh' (Kd.N_lt (pN Ac.out)) k_ hk_), (Kd.fresh' (Kd.N_lt (pN Ad.out)) k_ hk_), (Kd.fresh' (Kd.N_lt (pN Ae.out)) k_ hk_), (kF Ab.out k_ hk_)⟩)) (below_size (pE HB.out Af.out)))
  replace Ac := Am (Kd.N_elder' (pN Ac.out) (Kd.N_base ho0) hb)
  replace Ad := Am (Kd.N_elder' (pN Ad.out) (Kd.N_base ho0) hb)
  replace Ae := Am (Kd.N_elder' (pN Ae.out) (Kd.N_base ho0) hb)
  replace Ab := kBa Ab hb
  replace HB := Am (below_step (pE HB.out Af.out) hb)
  (try clear hb)
  (try clear hb2)
  (try clear hk)
  (try clear hi)
  (try clear ho0)
  obtain ⟨Cb, Bw, Bx⟩ := Kd.N_slice Ai.out
  (first | subst Bx | (injection Bx with f1_ f2_ f3_; have f4_ := f1_.symm; have f5_ := f3_.symm; clear f1_ f2_ f3_; subst f4_; subst f5_))
  refine hK.out _ _ ⟨(blk_cell Ab.out 0).trans rfl, (blk_cell Ab.out 1).trans rfl, (blk_cell Ab.out 2).trans rfl, (blk_cell Ab.out 3).trans rfl, (blk_cell Ab.out 4).trans rfl, (blk_cell Ab.out 5).trans rfl, (blk_cell Ab.out 6).trans rfl⟩ (fun hHeld => ?_)
  clear hK K
  refine norm_ (a' := ?_) ?_ ?_
  rotate_left
  ·show Act.put _ (some 15) _ = _
   simp only [Act.put, List.setIfInBounds_toArray, List.set_cons_zero, List.set_cons_succ, i64_w, i32_w]
   rfl
  refine pui 3 12 8 15 HT_ ?_
  refine pui 4 16 8 31 HT_ ?_
  refine pui 5 17 8 63 HT_ ?_
  refine last_ (i := 6) (N := none) (bw 8 127) rfl rfl (one_of HT_.out (by kernel_rfl)) (by decide) (fun K hK => ?_)
  have hs64 : w63.cell? ⟨Aa, 0, none⟩ = some (.int .i64 t202) := (blk_cell Ab.out 0).trans rfl
  have hfs64 := blk_frozen Ab.out 0
  have hs65 : w63.cell? ⟨Aa, 1, none⟩ = some (.int .i64 t203) := (blk_cell Ab.out 1).trans rfl
  have hfs65 := blk_frozen Ab.out 1
  have hs67 : w63.cell? ⟨Aa, 2, none⟩ = some (.slice As t204.length At) := (blk_cell Ab.out 2).trans rfl
  have hfs67 := blk_frozen Ab.out 2
  have hs68 : w63.cell? ⟨Aa, 3, none⟩ = some (.int .i64 t207) := (blk_cell Ab.out 3).trans rfl
  have hfs68 := blk_frozen Ab.out 3
  have hs69 : w63.cell? ⟨Aa, 4, none⟩ = some (.int .i64 t208) := (blk_cell Ab.out 4).trans rfl
  have hfs69 := blk_frozen Ab.out 4
  have hs70 : w63.cell? ⟨Aa, 5, none⟩ = some (.int .i64 t209) := (blk_cell Ab.out 5).trans rfl
  have hfs70 := blk_frozen Ab.out 5
  have hs71 : w63.cell? ⟨Aa, 6, none⟩ = some (.int .i64 t210) := (blk_cell Ab.out 6).trans rfl
  have hfs71 := blk_frozen Ab.out 6
  refine skip_ (w1 := ?_) (by rfl) rfl ?_ ?_
  rotate_left
  ·go_simp
   rfl
  refine hK.out _ _ ?_
  clear hK K
  refine pui 7 3 8 255 HT_ ?_
  refine done_ (done_of HT_.out (by kernel_rfl)) ?_
  obtain ⟨_, _, _, _, _, _, _⟩ := bc7 Ab.out
  obtain ⟨_, _, _, _, _, _, _⟩ := bf7 Ab.out
  try go_wp2_with (first | ((with_reducible refine gate_callee (f := 20) rfl ?_); refine goesL_ (some 20) rfl rfl Try.func20 (by kernel_rfl) rfl #[.agg #[.int .i64 t216, .int .i64 t217, .slice Cb t218.length Bw, .int .i64 t221, .int .i64 t222, .int .i64 t223, .int .i64 t224]] rfl pL ?_; (with_reducible refine (raft_Last.calls k t216 t217 _ _ t218 t221 t222 t223 t224 t226 t227 _ ?Ag ?Ah A5.out).mono ?_); (case Ag => refine (Kd.N_reads' (e := 55) (base := w.heap.size) (ok := fun k_ => (some k_ ≠ (.slice A6 t199.length A7 : Value).ownBlock ∧ (some k_ ≠ (.slice As t204.length At : Value).ownBlock ∧ (some k_ ≠ (.slice Bl t213.length Bm : Value).ownBlock ∧ k_ ≠ Aa)))) (n := t218.length) (c := Bw) ?_).2.2; exact (by (with_reducible repeat (first | apply Kd.N_alloc | apply Kd.N_drewN | apply Kd.N_drew)); exact (Kd.N_mono (Nf7 (g := Aa) (Kd.N_mono Ai.out (fun k_ hk => (⟨hk, hk.2.2.2⟩ : _ ∧ k_ ≠ Aa))) (fun _ hk => hk.2)) (fun _ h_ => h_.1)))); (case Ah => exact (Kd.N_reads' Ai.out).2.1); rintro e w73 ⟨rfl, hb⟩; refine ⟨_, rfl, ?_⟩; replace Ac := Am (Kd.N_below (by (with_reducible repeat (first | apply Kd.N_alloc | apply Kd.N_drewN | apply Kd.N_drew)); exact (Kd.N_mono (Nf7 (g := Aa) (Kd.N_mono Ac.out (fun k_ hk => (⟨hk, hk.1.1.2⟩ : _ ∧ k_ ≠ Aa))) (fun _ hk => hk.2)) (fun _ h_ => h_.1))) hb); replace Ad := Am (Kd.N_below (by (with_reducible repeat (first | apply Kd.N_alloc | apply Kd.N_drewN | apply Kd.N_drew)); exact (Kd.N_mono (Nf7 (g := Aa) (Kd.N_mono Ad.out (fun k_ hk => (⟨hk, hk.1.1.2⟩ : _ ∧ k_ ≠ Aa))) (fun _ hk => hk.2)) (fun _ h_ => h_.1))) hb); replace Ae := Am (Kd.N_below (by (with_reducible repeat (first | apply Kd.N_alloc | apply Kd.N_drewN | apply Kd.N_drew)); exact (Kd.N_mono (Nf7 (g := Aa) (Kd.N_mono Ae.out (fun k_ hk => (⟨hk, hk.1.2.2⟩ : _ ∧ k_ ≠ Aa))) (fun _ hk => hk.2)) (fun _ h_ => h_.1))) hb); replace Ai := Am (Kd.N_below (by (with_reducible repeat (first | apply Kd.N_alloc | apply Kd.N_drewN | apply Kd.N_drew)); exact (Kd.N_mono (Nf7 (g := Aa) (Kd.N_mono Ai.out (fun k_ hk => (⟨hk, hk.2.2.2⟩ : _ ∧ k_ ≠ Aa))) (fun _ hk => hk.2)) (fun _ h_ => h_.1))) hb); replace Ab := Am (blk_below (g := Aa) (kX0 Ab.out) hb); replace HB := Am (below_step (pE HB.out Af.out) hb); (try clear hb); (try clear hb2); (try clear hk); (try clear hi)))
  go_ret
  exact ⟨pX, pE HB.out Af.out⟩
 rw [if_pos c8] at H
 have c8b0 : (t226 == 2) = true := beq_iff_eq.mpr c8
 have c8b1 : (t226 != 2) = false := bne_eq_false_iff_eq.mpr c8
 clear c8
 by_cases c9 : t227 = 2
 rotate_left
 ·rw [if_neg c9] at H
  have c9b0 : (t227 == 2) = false := beq_eq_false_iff_ne.mpr c9
  have c9b1 : (t227 != 2) = true := bne_iff_ne.mpr c9
  obtain rfl := Option.some.inj H
  go_enter Try.func5, Try.ntmps5
  try go_wp2_with (first | ((with_reducible refine gate_callee (f := 19) rfl ?_); refine goesL_ (some 8) rfl rfl Try.func19 (by kernel_rfl) rfl #[.int .i64 1, .int .i64 1, .int .i64 3] rfl pL ?_; (with_reducible refine (garnerlaw23_rows.calls k 1 1 3 t199 _ A1.out).mono ?_); rintro e w32 ⟨v200, rfl, ho0, hb⟩; refine ⟨_, rfl, ?_⟩; have Ac := Am (Kd.N_lower (Kd.N_mono (ok' := fun k_ => True) (Kd.S_N (Kd.S_bound ho0)) (fun k_ hk_ => trivial)) (below_size (pB HB.out))); replace HB := Am (below_step (pB HB.out) hb); (try clear hb); (try clear hb2); (try clear hk); (try clear hi); (try clear ho0); obtain ⟨Az, A0, B6⟩ := Kd.N_slice Ac.out; subst B6) | ((with_reducible refine gate_callee (f := 18) rfl ?_); refine goesL_ (some 9) rfl rfl Try.func18 (by kernel_rfl) rfl #[.agg #[.int .i64 0, .int .i64 0, .slice none 0 0, .int .i64 0, .int .i64 0, .int .i64 0, .int .i64 0], .slice Az t199.length A0] rfl pL ?_; (refine (raft_Put.calls k 0 0 _ _ ([] : List (S55)) 0 0 0 0 _ _ t199 t202 t203 t204 t207 t208 t209 t210 t211 _ ?Ag ?Ah ?Aj ?Ak A2.out).mono ?_); (case Ag => exact Kd.C_nil _ _); (case Ah => exact Nat.le_refl _); (case Aj => exact pC (Kd.N_reads' Ac.out).2.2); (case Ak => exact (Kd.N_reads' Ac.out).2.1); rintro e w34 ⟨v205, rfl, ho0, hb⟩; refine ⟨_, rfl, ?_⟩; have Ad := Am (Kd.N_lower (Kd.N_mono (ok' := fun k_ => some k_ ≠ (.slice Az t199.length A0 : Value).ownBlock) ho0 (fun k_ hk_ => (Kd.fresh' (Kd.N_lt (pN Ac.out)) k_ hk_))) (below_size (pB HB.out))); replace Ac := Am (Kd.N_elder' (pN Ac.out) (Kd.N_base ho0) hb); replace HB := Am (below_step (pB HB.out) hb); (try clear hb); (try clear hb2); (try clear hk); (try clear hi); (try clear ho0)) | ((with_reducible refine gate_dst (N := 1) rfl ?_); (try (refine gate_guard (by rfl) ?_; dsimp only)); refine box_event ?hg (N := 1) ?hd (cs := #[.int .i64 0, .int .i64 0, .slice none 0 0, .int .i64 0, .int .i64 0, .int .i64 0, .int .i64 0]) (t := 26) ?hr ?_; (case hd => rfl); (case hg => rfl); (case hr => first | (go_simp; done) | (go_simp; rfl)); intro Aa hg w35 hbox hb; replace Ac := Am (Kd.N_below (Kd.N_elderB (pN Ac.out) Aa (Nat.le_of_eq hg.symm)) hb); replace Ad := Am (Kd.N_below (Kd.N_elderB (pN Ad.out) Aa (Nat.le_of_eq hg.symm)) hb); have Ab := Am (hbox); have Aw := Am ((by rw [hg]; exact (below_size (pB HB.out)) : w.heap.size ≤ Aa)); replace HB := Am (below_step (pB HB.out) hb); have Af := Aw; clear hb hbox hg; obtain ⟨_, _, _, _, _, _, _⟩ := bc7 Ab.out; obtain ⟨_, _, _, _, _, _, _⟩ := bf7 Ab.out; obtain ⟨Aq, Ar, B7⟩ := Kd.N_slice Ad.out; subst B7))
  have n0_ : Aside0 (Kd.N k55 55 (((((((w35.setCell ⟨Aa, 0, none⟩ (.int .i64 t202)).setCell ⟨Aa, 1, none⟩ (.int .i64 t203)).setCell ⟨Aa, 2, none⟩ (.slice Aq t204.length Ar)).setCell ⟨Aa, 3, none⟩ (.int .i64 t207)).setCell ⟨Aa, 4, none⟩ (.int .i64 t208)).setCell ⟨Aa, 5, none⟩ (.int .i64 t209)).setCell ⟨Aa, 6, none⟩ (.int .i64 t210)) w.heap.size (fun k_ => some k_ ≠ (.slice Aq t204.length Ar : Value).ownBlock ∧ k_ ≠ Aa) (.slice Az t199.length A0) t199) := ⟨by (with_reducible repeat (first | apply Kd.N_alloc | apply Kd.N_drewN | apply Kd.N_drew)); exact Kd.N_mono (Nf7 (g := Aa) (Kd.N_mono Ac.out (fun k_ hk => (⟨hk, hk.2⟩ : _ ∧ k_ ≠ Aa))) (fun _ hk => hk.2)) (fun _ hk => ⟨hk.1.1.2, hk.1.2⟩)⟩
  have n1_ : Aside0 (Kd.N k55 55 (((((((w35.setCell ⟨Aa, 0, none⟩ (.int .i64 t202)).setCell ⟨Aa, 1, none⟩ (.int .i64 t203)).setCell ⟨Aa, 2, none⟩ (.slice Aq t204.length Ar)).setCell ⟨Aa, 3, none⟩ (.int .i64 t207)).setCell ⟨Aa, 4, none⟩ (.int .i64 t208)).setCell ⟨Aa, 5, none⟩ (.int .i64 t209)).setCell ⟨Aa, 6, none⟩ (.int .i64 t210)) w.heap.size (fun k_ => some k_ ≠ (.slice Az t199.length A0 : Value).ownBlock ∧ k_ ≠ Aa) (.slice Aq t204.length Ar) t204) := ⟨by (with_reducible repeat (first | apply Kd.N_alloc | apply Kd.N_drewN | apply Kd.N_drew)); exact Kd.N_mono (Nf7 (g := Aa) (Kd.N_mono Ad.out (fun k_ hk => (⟨hk, hk.2⟩ : _ ∧ k_ ≠ Aa))) (fun _ hk => hk.2)) (fun _ hk => ⟨hk.1.1, hk.1.2⟩)⟩
  have n2_ : Aside0 ((((((((w35.setCell ⟨Aa, 0, none⟩ (.int .i64 t202)).setCell ⟨Aa, 1, none⟩ (.int .i64 t203)).setCell ⟨Aa, 2, none⟩ (.slice Aq t204.length Ar)).setCell ⟨Aa, 3, none⟩ (.int .i64 t207)).setCell ⟨Aa, 4, none⟩ (.int .i64 t208)).setCell ⟨Aa, 5, none⟩ (.int .i64 t209)).setCell ⟨Aa, 6, none⟩ (.int .i64 t210)).heap[Aa]? = some (.cells #[.int .i64 t202, .int .i64 t203, .slice Aq t204.length Ar, .int .i64 t207, .int .i64 t208, .int .i64 t209, .int .i64 t210] 26 (0, 0))) := ⟨kX0 Ab.out⟩
  have n3_ : Aside0 (Below w.heap.size w (((((((w35.setCell ⟨Aa, 0, none⟩ (.int .i64 t202)).setCell ⟨Aa, 1, none⟩ (.int .i64 t203)).setCell ⟨Aa, 2, none⟩ (.slice Aq t204.length Ar)).setCell ⟨Aa, 3, none⟩ (.int .i64 t207)).setCell ⟨Aa, 4, none⟩ (.int .i64 t208)).setCell ⟨Aa, 5, none⟩ (.int .i64 t209)).setCell ⟨Aa, 6, none⟩ (.int .i64 t210))) := ⟨pE HB.out Af.out⟩
  (try clear Ac)
  (try clear Ad)
  (try clear Ab)
  (try clear HB)
  generalize (((((((w35.setCell ⟨Aa, 0, none⟩ (.int .i64 t202)).setCell ⟨Aa, 1, none⟩ (.int .i64 t203)).setCell ⟨Aa, 2, none⟩ (.slice Aq t204.length Ar)).setCell ⟨Aa, 3, none⟩ (.int .i64 t207)).setCell ⟨Aa, 4, none⟩ (.int .i64 t208)).setCell ⟨Aa, 5, none⟩ (.int .i64 t209)).setCell ⟨Aa, 6, none⟩ (.int .i64 t210)) = w38 at n0_ n1_ n2_ n3_ ⊢
  have Ac := n0_
  have Ad := n1_
  have Ab := n2_
  have HB := n3_
  clear n0_ n1_ n2_ n3_
  replace Ac := dNa Ac
  replace Ad := dNa Ad
  replace Ab := kDa Ab
  replace HB := bDa HB
  refine start_ (n := 8) (S := fun w' => cG w' Aa 0 (.int .i64 t202) ∧ cG w' Aa 1 (.int .i64 t203) ∧ cG w' Aa 2 (.slice Aq t204.length Ar) ∧ cG w' Aa 3 (.int .i64 t207) ∧ cG w' Aa 4 (.int .i64 t208) ∧ cG w' Aa 5 (.int .i64 t209) ∧ cG w' Aa 6 (.int .i64 t210)) (ds := [6]) #[false, false, false, false, false, false, false, false] (by kernel_rfl) rfl rfl ⟨(blk_cell Ab.out 0).trans rfl, (blk_cell Ab.out 1).trans rfl, (blk_cell Ab.out 2).trans rfl, (blk_cell Ab.out 3).trans rfl, (blk_cell Ab.out 4).trans rfl, (blk_cell Ab.out 5).trans rfl, (blk_cell Ab.out 6).trans rfl⟩ (fun hHeld => ?_); refine with_tabW garnerlaw23_awake.tab2 garnerlaw23_awake.bits2 (fun HT_ HW_ => ?_)
  generalize w38.drew = w39 at Ac Ad Ab HB hHeld ⊢
  refine tki 0 13 8 1 HT_ HW_ hHeld ?_
  refine onei 1 14 8 3 HT_ (fun K hK => ?_)
  refine goes_ Try.func19 (by kernel_rfl) rfl #[.int .i64 2, .int .i64 2, .int .i64 1] (by rfl) rfl rfl pL ?_
  with_reducible refine (garnerlaw23_rows.calls k 2 2 1 t213 _ A3.out).mono ?_
  rintro e w40 ⟨v214, rfl, ho0, hb⟩
  refine ⟨_, rfl, ?_⟩
  have Ae := Am (Kd.N_lower (Kd.N_mono (ok' := fun k_ => some k_ ≠ (.slice Az t199.length A0 : Value).ownBlock ∧ some k_ ≠ (.slice Aq t204.length Ar : Value).ownBlock ∧ k_ ≠ Aa) (Kd.S_N (Kd.S_bound ho0)) (fun k_ hk_ => ⟨(Kd.fresh' (Kd.N_lt (pN Ac.out)) k_ hk_.2.1), (Kd.fresh' (Kd.N_lt (pN Ad.out)) k_ hk_.2.1), (kF Ab.out k_ hk_.2.1)⟩)) (below_size (pE HB.out Af.out)))
  replace Ac := Am (Kd.N_elder' (pN Ac.out) (Kd.N_base (Kd.S_N ho0)) hb)
  replace Ad := Am (Kd.N_elder' (pN Ad.out) (Kd.N_base (Kd.S_N ho0)) hb)
  replace Ab := kBa Ab hb
  replace HB := Am (below_step (pE HB.out Af.out) hb)
  (try clear hb)
  (try clear hb2)
  (try clear hk)
  (try clear hi)
  (try clear ho0)
  obtain ⟨Bj, Bk, Bs⟩ := Kd.N_slice Ae.out
  (first | subst Bs | (injection Bs with f1_ f2_ f3_; have f4_ := f1_.symm; have f5_ := f3_.symm; clear f1_ f2_ f3_; subst f4_; subst f5_))
  refine hK.out _ _ ⟨(blk_cell Ab.out 0).trans rfl, (blk_cell Ab.out 1).trans rfl, (blk_cell Ab.out 2).trans rfl, (blk_cell Ab.out 3).trans rfl, (blk_cell Ab.out 4).trans rfl, (blk_cell Ab.out 5).trans rfl, (blk_cell Ab.out 6).trans rfl⟩ (fun hHeld => ?_)
  clear hK K
  refine norm_ (a' := ?_) ?_ ?_
  rotate_left
  ·show Act.put _ (some 14) _ = _
   simp only [Act.put, List.setIfInBounds_toArray, List.set_cons_zero, List.set_cons_succ, i64_w, i32_w]
   rfl
  refine onei 2 15 8 7 HT_ (fun K hK => ?_)
  refine goes_ Try.func18 (by kernel_rfl) rfl #[.agg #[.int .i64 t202, .int .i64 t203, .slice Aq t204.length Ar, .int .i64 t207, .int .i64 t208, .int .i64 t209, .int .i64 t210], .slice Bj t213.length Bk] (by rfl) rfl rfl pL ?_
  with_reducible refine (raft_Put.calls k t202 t203 _ _ t204 t207 t208 t209 t210 _ _ t213 t216 t217 t218 t221 t222 t223 t224 t225 _ ?Ag ?Ah ?Aj ?Ak A4.out).mono ?_
  (case Ag => exact pC (Kd.N_reads' Ad.out).2.2)
  (case Ah => exact (Kd.N_reads' Ad.out).2.1)
  (case Aj => exact pC (Kd.N_reads' Ae.out).2.2)
  (case Ak => exact (Kd.N_reads' Ae.out).2.1)
  rintro e w42 ⟨v219, rfl, ho0, hb⟩
  refine ⟨_, rfl, ?_⟩
  have Ai := Am (Kd.N_lower (Kd.N_mono (ok' := fun k_ => some k_ ≠ (.slice Az t199.length A0 : Value).ownBlock ∧ some k_ ≠ (.slice Aq t204.length Ar : Value).ownBlock ∧ some k_ ≠ (.slice Bj t213.length Bk : Value).ownBlock ∧ k_ ≠ Aa) ho0 (fun k_ hk_ => ⟨(Kd.fresh' (Kd.N_lt (pN Ac.out)) k_ hk_), (Kd.fresh' (Kd.N_lt (pN Ad.out)) k_ hk_), (Kd.fresh' (Kd.N_lt (pN Ae.out)) k_ hk_), (kF Ab.out k_ hk_)⟩)) (below_size (pE HB.out Af.out)))
  replace Ac := Am (Kd.N_elder' (pN Ac.out) (Kd.N_base ho0) hb)
  replace Ad := Am (Kd.N_elder' (pN Ad.out) (Kd.N_base ho0) hb)
  replace Ae := Am (Kd.N_elder' (pN Ae.out) (Kd.N_base ho0) hb)
  replace Ab := kBa Ab hb
  replace HB := Am (below_step (pE HB.out Af.out) hb)
  (try clear hb)
  (try clear hb2)
  (try clear hk)
  (try clear hi)
  (try clear ho0)
  obtain ⟨B8, Bt, Bu⟩ := Kd.N_slice Ai.out
  (first | subst Bu | (injection Bu with f1_ f2_ f3_; have f4_ := f1_.symm; have f5_ := f3_.symm; clear f1_ f2_ f3_; subst f4_; subst f5_))
  refine hK.out _ _ ⟨(blk_cell Ab.out 0).trans rfl, (blk_cell Ab.out 1).trans rfl, (blk_cell Ab.out 2).trans rfl, (blk_cell Ab.out 3).trans rfl, (blk_cell Ab.out 4).trans rfl, (blk_cell Ab.out 5).trans rfl, (blk_cell Ab.out 6).trans rfl⟩ (fun hHeld => ?_)
  clear hK K
  refine norm_ (a' := ?_) ?_ ?_
  rotate_left
  ·show Act.put _ (some 15) _ = _
   simp only [Act.put, List.setIfInBounds_toArray, List.set_cons_zero, List.set_cons_succ, i64_w, i32_w]
   rfl
  refine pui 3 12 8 15 HT_ ?_
  refine pui 4 16 8 31 HT_ ?_
  refine pui 5 17 8 63 HT_ ?_
  refine last_ (i := 6) (N := none) (bw 8 127) rfl rfl (one_of HT_.out (by kernel_rfl)) (by decide) (fun K hK => ?_)
  have hs43 : w42.cell? ⟨Aa, 0, none⟩ = some (.int .i64 t202) := (blk_cell Ab.out 0).trans rfl
  have hfs43 := blk_frozen Ab.out 0
  have hs44 : w42.cell? ⟨Aa, 1, none⟩ = some (.int .i64 t203) := (blk_cell Ab.out 1).trans rfl
  have hfs44 := blk_frozen Ab.out 1
  have hs46 : w42.cell? ⟨Aa, 2, none⟩ = some (.slice Aq t204.length Ar) := (blk_cell Ab.out 2).trans rfl
  have hfs46 := blk_frozen Ab.out 2
  have hs47 : w42.cell? ⟨Aa, 3, none⟩ = some (.int .i64 t207) := (blk_cell Ab.out 3).trans rfl
  have hfs47 := blk_frozen Ab.out 3
  have hs48 : w42.cell? ⟨Aa, 4, none⟩ = some (.int .i64 t208) := (blk_cell Ab.out 4).trans rfl
  have hfs48 := blk_frozen Ab.out 4
  have hs49 : w42.cell? ⟨Aa, 5, none⟩ = some (.int .i64 t209) := (blk_cell Ab.out 5).trans rfl
  have hfs49 := blk_frozen Ab.out 5
  have hs50 : w42.cell? ⟨Aa, 6, none⟩ = some (.int .i64 t210) := (blk_cell Ab.out 6).trans rfl
  have hfs50 := blk_frozen Ab.out 6
  refine skip_ (w1 := ?_) (by rfl) rfl ?_ ?_
  rotate_left
  ·go_simp
   rfl
  refine hK.out _ _ ?_
  clear hK K
  refine pui 7 3 8 255 HT_ ?_
  refine done_ (done_of HT_.out (by kernel_rfl)) ?_
  obtain ⟨_, _, _, _, _, _, _⟩ := bc7 Ab.out
  obtain ⟨_, _, _, _, _, _, _⟩ := bf7 Ab.out
  try go_wp2_with (first | ((with_reducible refine gate_callee (f := 20) rfl ?_); refine goesL_ (some 20) rfl rfl Try.func20 (by kernel_rfl) rfl #[.agg #[.int .i64 t216, .int .i64 t217, .slice B8 t218.length Bt, .int .i64 t221, .int .i64 t222, .int .i64 t223, .int .i64 t224]] rfl pL ?_; (with_reducible refine (raft_Last.calls k t216 t217 _ _ t218 t221 t222 t223 t224 t226 t227 _ ?Ag ?Ah A5.out).mono ?_); (case Ag => refine (Kd.N_reads' (e := 55) (base := w.heap.size) (ok := fun k_ => (some k_ ≠ (.slice Az t199.length A0 : Value).ownBlock ∧ (some k_ ≠ (.slice Aq t204.length Ar : Value).ownBlock ∧ (some k_ ≠ (.slice Bj t213.length Bk : Value).ownBlock ∧ k_ ≠ Aa)))) (n := t218.length) (c := Bt) ?_).2.2; exact (by (with_reducible repeat (first | apply Kd.N_alloc | apply Kd.N_drewN | apply Kd.N_drew)); exact (Kd.N_mono (Nf7 (g := Aa) (Kd.N_mono Ai.out (fun k_ hk => (⟨hk, hk.2.2.2⟩ : _ ∧ k_ ≠ Aa))) (fun _ hk => hk.2)) (fun _ h_ => h_.1)))); (case Ah => exact (Kd.N_reads' Ai.out).2.1); rintro e w52 ⟨rfl, hb⟩; refine ⟨_, rfl, ?_⟩; replace Ac := Am (Kd.N_below (by (with_reducible repeat (first | apply Kd.N_alloc | apply Kd.N_drewN | apply Kd.N_drew)); exact (Kd.N_mono (Nf7 (g := Aa) (Kd.N_mono Ac.out (fun k_ hk => (⟨hk, hk.1.1.2⟩ : _ ∧ k_ ≠ Aa))) (fun _ hk => hk.2)) (fun _ h_ => h_.1))) hb); replace Ad := Am (Kd.N_below (by (with_reducible repeat (first | apply Kd.N_alloc | apply Kd.N_drewN | apply Kd.N_drew)); exact (Kd.N_mono (Nf7 (g := Aa) (Kd.N_mono Ad.out (fun k_ hk => (⟨hk, hk.1.1.2⟩ : _ ∧ k_ ≠ Aa))) (fun _ hk => hk.2)) (fun _ h_ => h_.1))) hb); replace Ae := Am (Kd.N_below (by (with_reducible repeat (first | apply Kd.N_alloc | apply Kd.N_drewN | apply Kd.N_drew)); exact (Kd.N_mono (Nf7 (g := Aa) (Kd.N_mono Ae.out (fun k_ hk => (⟨hk, hk.1.2.2⟩ : _ ∧ k_ ≠ Aa))) (fun _ hk => hk.2)) (fun _ h_ => h_.1))) hb); replace Ai := Am (Kd.N_below (by (with_reducible repeat (first | apply Kd.N_alloc | apply Kd.N_drewN | apply Kd.N_drew)); exact (Kd.N_mono (Nf7 (g := Aa) (Kd.N_mono Ai.out (fun k_ hk => (⟨hk, hk.2.2.2⟩ : _ ∧ k_ ≠ Aa))) (fun _ hk => hk.2)) (fun _ h_ => h_.1))) hb); replace Ab := Am (blk_below (g := Aa) (kX0 Ab.out) hb); replace HB := Am (below_step (pE HB.out Af.out) hb); (try clear hb); (try clear hb2); (try clear hk); (try clear hi)))
  go_ret
  exact ⟨pX, pE HB.out Af.out⟩
 rw [if_pos c9] at H
 have c9b0 : (t227 == 2) = true := beq_iff_eq.mpr c9
 have c9b1 : (t227 != 2) = false := bne_eq_false_iff_eq.mpr c9
 clear c9
 obtain rfl := Option.some.inj H
 go_enter Try.func5, Try.ntmps5
 try go_wp2_with (first | ((with_reducible refine gate_callee (f := 19) rfl ?_); refine goesL_ (some 8) rfl rfl Try.func19 (by kernel_rfl) rfl #[.int .i64 1, .int .i64 1, .int .i64 3] rfl pL ?_; (with_reducible refine (garnerlaw23_rows.calls k 1 1 3 t199 _ A1.out).mono ?_); rintro e w10 ⟨v200, rfl, ho0, hb⟩; refine ⟨_, rfl, ?_⟩; have Ac := Am (Kd.N_lower (Kd.N_mono (ok' := fun k_ => True) (Kd.S_N (Kd.S_bound ho0)) (fun k_ hk_ => trivial)) (below_size (pB HB.out))); replace HB := Am (below_step (pB HB.out) hb); (try clear hb); (try clear hb2); (try clear hk); (try clear hi); (try clear ho0); obtain ⟨Ax, Ay, B3⟩ := Kd.N_slice Ac.out; subst B3) | ((with_reducible refine gate_callee (f := 18) rfl ?_); refine goesL_ (some 9) rfl rfl Try.func18 (by kernel_rfl) rfl #[.agg #[.int .i64 0, .int .i64 0, .slice none 0 0, .int .i64 0, .int .i64 0, .int .i64 0, .int .i64 0], .slice Ax t199.length Ay] rfl pL ?_; (refine (raft_Put.calls k 0 0 _ _ ([] : List (S55)) 0 0 0 0 _ _ t199 t202 t203 t204 t207 t208 t209 t210 t211 _ ?Ag ?Ah ?Aj ?Ak A2.out).mono ?_); (case Ag => exact Kd.C_nil _ _); (case Ah => exact Nat.le_refl _); (case Aj => exact pC (Kd.N_reads' Ac.out).2.2); (case Ak => exact (Kd.N_reads' Ac.out).2.1); rintro e w12 ⟨v205, rfl, ho0, hb⟩; refine ⟨_, rfl, ?_⟩; have Ad := Am (Kd.N_lower (Kd.N_mono (ok' := fun k_ => some k_ ≠ (.slice Ax t199.length Ay : Value).ownBlock) ho0 (fun k_ hk_ => (Kd.fresh' (Kd.N_lt (pN Ac.out)) k_ hk_))) (below_size (pB HB.out))); replace Ac := Am (Kd.N_elder' (pN Ac.out) (Kd.N_base ho0) hb); replace HB := Am (below_step (pB HB.out) hb); (try clear hb); (try clear hb2); (try clear hk); (try clear hi); (try clear ho0)) | ((with_reducible refine gate_dst (N := 1) rfl ?_); (try (refine gate_guard (by rfl) ?_; dsimp only)); refine box_event ?hg (N := 1) ?hd (cs := #[.int .i64 0, .int .i64 0, .slice none 0 0, .int .i64 0, .int .i64 0, .int .i64 0, .int .i64 0]) (t := 26) ?hr ?_; (case hd => rfl); (case hg => rfl); (case hr => first | (go_simp; done) | (go_simp; rfl)); intro Aa hg w13 hbox hb; replace Ac := Am (Kd.N_below (Kd.N_elderB (pN Ac.out) Aa (Nat.le_of_eq hg.symm)) hb); replace Ad := Am (Kd.N_below (Kd.N_elderB (pN Ad.out) Aa (Nat.le_of_eq hg.symm)) hb); have Ab := Am (hbox); have Aw := Am ((by rw [hg]; exact (below_size (pB HB.out)) : w.heap.size ≤ Aa)); replace HB := Am (below_step (pB HB.out) hb); have Af := Aw; clear hb hbox hg; obtain ⟨_, _, _, _, _, _, _⟩ := bc7 Ab.out; obtain ⟨_, _, _, _, _, _, _⟩ := bf7 Ab.out; obtain ⟨Ao, Ap, B4⟩ := Kd.N_slice Ad.out; subst B4))
 have n0_ : Aside0 (Kd.N k55 55 (((((((w13.setCell ⟨Aa, 0, none⟩ (.int .i64 t202)).setCell ⟨Aa, 1, none⟩ (.int .i64 t203)).setCell ⟨Aa, 2, none⟩ (.slice Ao t204.length Ap)).setCell ⟨Aa, 3, none⟩ (.int .i64 t207)).setCell ⟨Aa, 4, none⟩ (.int .i64 t208)).setCell ⟨Aa, 5, none⟩ (.int .i64 t209)).setCell ⟨Aa, 6, none⟩ (.int .i64 t210)) w.heap.size (fun k_ => some k_ ≠ (.slice Ao t204.length Ap : Value).ownBlock ∧ k_ ≠ Aa) (.slice Ax t199.length Ay) t199) := ⟨by (with_reducible repeat (first | apply Kd.N_alloc | apply Kd.N_drewN | apply Kd.N_drew)); exact Kd.N_mono (Nf7 (g := Aa) (Kd.N_mono Ac.out (fun k_ hk => (⟨hk, hk.2⟩ : _ ∧ k_ ≠ Aa))) (fun _ hk => hk.2)) (fun _ hk => ⟨hk.1.1.2, hk.1.2⟩)⟩
 have n1_ : Aside0 (Kd.N k55 55 (((((((w13.setCell ⟨Aa, 0, none⟩ (.int .i64 t202)).setCell ⟨Aa, 1, none⟩ (.int .i64 t203)).setCell ⟨Aa, 2, none⟩ (.slice Ao t204.length Ap)).setCell ⟨Aa, 3, none⟩ (.int .i64 t207)).setCell ⟨Aa, 4, none⟩ (.int .i64 t208)).setCell ⟨Aa, 5, none⟩ (.int .i64 t209)).setCell ⟨Aa, 6, none⟩ (.int .i64 t210)) w.heap.size (fun k_ => some k_ ≠ (.slice Ax t199.length Ay : Value).ownBlock ∧ k_ ≠ Aa) (.slice Ao t204.length Ap) t204) := ⟨by (with_reducible repeat (first | apply Kd.N_alloc | apply Kd.N_drewN | apply Kd.N_drew)); exact Kd.N_mono (Nf7 (g := Aa) (Kd.N_mono Ad.out (fun k_ hk => (⟨hk, hk.2⟩ : _ ∧ k_ ≠ Aa))) (fun _ hk => hk.2)) (fun _ hk => ⟨hk.1.1, hk.1.2⟩)⟩
 have n2_ : Aside0 ((((((((w13.setCell ⟨Aa, 0, none⟩ (.int .i64 t202)).setCell ⟨Aa, 1, none⟩ (.int .i64 t203)).setCell ⟨Aa, 2, none⟩ (.slice Ao t204.length Ap)).setCell ⟨Aa, 3, none⟩ (.int .i64 t207)).setCell ⟨Aa, 4, none⟩ (.int .i64 t208)).setCell ⟨Aa, 5, none⟩ (.int .i64 t209)).setCell ⟨Aa, 6, none⟩ (.int .i64 t210)).heap[Aa]? = some (.cells #[.int .i64 t202, .int .i64 t203, .slice Ao t204.length Ap, .int .i64 t207, .int .i64 t208, .int .i64 t209, .int .i64 t210] 26 (0, 0))) := ⟨kX0 Ab.out⟩
 have n3_ : Aside0 (Below w.heap.size w (((((((w13.setCell ⟨Aa, 0, none⟩ (.int .i64 t202)).setCell ⟨Aa, 1, none⟩ (.int .i64 t203)).setCell ⟨Aa, 2, none⟩ (.slice Ao t204.length Ap)).setCell ⟨Aa, 3, none⟩ (.int .i64 t207)).setCell ⟨Aa, 4, none⟩ (.int .i64 t208)).setCell ⟨Aa, 5, none⟩ (.int .i64 t209)).setCell ⟨Aa, 6, none⟩ (.int .i64 t210))) := ⟨pE HB.out Af.out⟩
 (try clear Ac)
 (try clear Ad)
 (try clear Ab)
 (try clear HB)
 generalize (((((((w13.setCell ⟨Aa, 0, none⟩ (.int .i64 t202)).setCell ⟨Aa, 1, none⟩ (.int .i64 t203)).setCell ⟨Aa, 2, none⟩ (.slice Ao t204.length Ap)).setCell ⟨Aa, 3, none⟩ (.int .i64 t207)).setCell ⟨Aa, 4, none⟩ (.int .i64 t208)).setCell ⟨Aa, 5, none⟩ (.int .i64 t209)).setCell ⟨Aa, 6, none⟩ (.int .i64 t210)) = w16 at n0_ n1_ n2_ n3_ ⊢
 have Ac := n0_
 have Ad := n1_
 have Ab := n2_
 have HB := n3_
 clear n0_ n1_ n2_ n3_
 replace Ac := dNa Ac
 replace Ad := dNa Ad
 replace Ab := kDa Ab
 replace HB := bDa HB
 refine start_ (n := 8) (S := fun w' => cG w' Aa 0 (.int .i64 t202) ∧ cG w' Aa 1 (.int .i64 t203) ∧ cG w' Aa 2 (.slice Ao t204.length Ap) ∧ cG w' Aa 3 (.int .i64 t207) ∧ cG w' Aa 4 (.int .i64 t208) ∧ cG w' Aa 5 (.int .i64 t209) ∧ cG w' Aa 6 (.int .i64 t210)) (ds := [6]) #[false, false, false, false, false, false, false, false] (by kernel_rfl) rfl rfl ⟨(blk_cell Ab.out 0).trans rfl, (blk_cell Ab.out 1).trans rfl, (blk_cell Ab.out 2).trans rfl, (blk_cell Ab.out 3).trans rfl, (blk_cell Ab.out 4).trans rfl, (blk_cell Ab.out 5).trans rfl, (blk_cell Ab.out 6).trans rfl⟩ (fun hHeld => ?_); refine with_tabW garnerlaw23_awake.tab2 garnerlaw23_awake.bits2 (fun HT_ HW_ => ?_)
 generalize w16.drew = w17 at Ac Ad Ab HB hHeld ⊢
 refine tki 0 13 8 1 HT_ HW_ hHeld ?_
 refine onei 1 14 8 3 HT_ (fun K hK => ?_)
 refine goes_ Try.func19 (by kernel_rfl) rfl #[.int .i64 2, .int .i64 2, .int .i64 1] (by rfl) rfl rfl pL ?_
 with_reducible refine (garnerlaw23_rows.calls k 2 2 1 t213 _ A3.out).mono ?_
 rintro e w18 ⟨v214, rfl, ho0, hb⟩
 refine ⟨_, rfl, ?_⟩
 have Ae := Am (Kd.N_lower (Kd.N_mono (ok' := fun k_ => some k_ ≠ (.slice Ax t199.length Ay : Value).ownBlock ∧ some k_ ≠ (.slice Ao t204.length Ap : Value).ownBlock ∧ k_ ≠ Aa) (Kd.S_N (Kd.S_bound ho0)) (fun k_ hk_ => ⟨(Kd.fresh' (Kd.N_lt (pN Ac.out)) k_ hk_.2.1), (Kd.fresh' (Kd.N_lt (pN Ad.out)) k_ hk_.2.1), (kF Ab.out k_ hk_.2.1)⟩)) (below_size (pE HB.out Af.out)))
 replace Ac := Am (Kd.N_elder' (pN Ac.out) (Kd.N_base (Kd.S_N ho0)) hb)
 replace Ad := Am (Kd.N_elder' (pN Ad.out) (Kd.N_base (Kd.S_N ho0)) hb)
 replace Ab := kBa Ab hb
 replace HB := Am (below_step (pE HB.out Af.out) hb)
 (try clear hb)
 (try clear hb2)
 (try clear hk)
 (try clear hi)
 (try clear ho0)
 obtain ⟨Bh, Bi, Bp⟩ := Kd.N_slice Ae.out
 (first | subst Bp | (injection Bp with f1_ f2_ f3_; have f4_ := f1_.symm; have f5_ := f3_.symm; clear f1_ f2_ f3_; subst f4_; subst f5_))
 refine hK.out _ _ ⟨(blk_cell Ab.out 0).trans rfl, (blk_cell Ab.out 1).trans rfl, (blk_cell Ab.out 2).trans rfl, (blk_cell Ab.out 3).trans rfl, (blk_cell Ab.out 4).trans rfl, (blk_cell Ab.out 5).trans rfl, (blk_cell Ab.out 6).trans rfl⟩ (fun hHeld => ?_)
 clear hK K
 refine norm_ (a' := ?_) ?_ ?_
 rotate_left
 ·show Act.put _ (some 14) _ = _
  simp only [Act.put, List.setIfInBounds_toArray, List.set_cons_zero, List.set_cons_succ, i64_w, i32_w]
  rfl
 refine onei 2 15 8 7 HT_ (fun K hK => ?_)
 refine goes_ Try.func18 (by kernel_rfl) rfl #[.agg #[.int .i64 t202, .int .i64 t203, .slice Ao t204.length Ap, .int .i64 t207, .int .i64 t208, .int .i64 t209, .int .i64 t210], .slice Bh t213.length Bi] (by rfl) rfl rfl pL ?_
 with_reducible refine (raft_Put.calls k t202 t203 _ _ t204 t207 t208 t209 t210 _ _ t213 t216 t217 t218 t221 t222 t223 t224 t225 _ ?Ag ?Ah ?Aj ?Ak A4.out).mono ?_
 (case Ag => exact pC (Kd.N_reads' Ad.out).2.2)
 (case Ah => exact (Kd.N_reads' Ad.out).2.1)
 (case Aj => exact pC (Kd.N_reads' Ae.out).2.2)
 (case Ak => exact (Kd.N_reads' Ae.out).2.1)
 rintro e w20 ⟨v219, rfl, ho0, hb⟩
 refine ⟨_, rfl, ?_⟩
 have Ai := Am (Kd.N_lower (Kd.N_mono (ok' := fun k_ => some k_ ≠ (.slice Ax t199.length Ay : Value).ownBlock ∧ some k_ ≠ (.slice Ao t204.length Ap : Value).ownBlock ∧ some k_ ≠ (.slice Bh t213.length Bi : Value).ownBlock ∧ k_ ≠ Aa) ho0 (fun k_ hk_ => ⟨(Kd.fresh' (Kd.N_lt (pN Ac.out)) k_ hk_), (Kd.fresh' (Kd.N_lt (pN Ad.out)) k_ hk_), (Kd.fresh' (Kd.N_lt (pN Ae.out)) k_ hk_), (kF Ab.out k_ hk_)⟩)) (below_size (pE HB.out Af.out)))
 replace Ac := Am (Kd.N_elder' (pN Ac.out) (Kd.N_base ho0) hb)
 replace Ad := Am (Kd.N_elder' (pN Ad.out) (Kd.N_base ho0) hb)
 replace Ae := Am (Kd.N_elder' (pN Ae.out) (Kd.N_base ho0) hb)
 replace Ab := kBa Ab hb
 replace HB := Am (below_step (pE HB.out Af.out) hb)
 (try clear hb)
 (try clear hb2)
 (try clear hk)
 (try clear hi)
 (try clear ho0)
 obtain ⟨B5, Bq, Br⟩ := Kd.N_slice Ai.out
 (first | subst Br | (injection Br with f1_ f2_ f3_; have f4_ := f1_.symm; have f5_ := f3_.symm; clear f1_ f2_ f3_; subst f4_; subst f5_))
 refine hK.out _ _ ⟨(blk_cell Ab.out 0).trans rfl, (blk_cell Ab.out 1).trans rfl, (blk_cell Ab.out 2).trans rfl, (blk_cell Ab.out 3).trans rfl, (blk_cell Ab.out 4).trans rfl, (blk_cell Ab.out 5).trans rfl, (blk_cell Ab.out 6).trans rfl⟩ (fun hHeld => ?_)
 clear hK K
 refine norm_ (a' := ?_) ?_ ?_
 rotate_left
 ·show Act.put _ (some 15) _ = _
  simp only [Act.put, List.setIfInBounds_toArray, List.set_cons_zero, List.set_cons_succ, i64_w, i32_w]
  rfl
 refine pui 3 12 8 15 HT_ ?_
 refine pui 4 16 8 31 HT_ ?_
 refine pui 5 17 8 63 HT_ ?_
 refine last_ (i := 6) (N := none) (bw 8 127) rfl rfl (one_of HT_.out (by kernel_rfl)) (by decide) (fun K hK => ?_)
 have hs21 : w20.cell? ⟨Aa, 0, none⟩ = some (.int .i64 t202) := (blk_cell Ab.out 0).trans rfl
 have hfs21 := blk_frozen Ab.out 0
 have hs22 : w20.cell? ⟨Aa, 1, none⟩ = some (.int .i64 t203) := (blk_cell Ab.out 1).trans rfl
 have hfs22 := blk_frozen Ab.out 1
 have hs24 : w20.cell? ⟨Aa, 2, none⟩ = some (.slice Ao t204.length Ap) := (blk_cell Ab.out 2).trans rfl
 have hfs24 := blk_frozen Ab.out 2
 have hs25 : w20.cell? ⟨Aa, 3, none⟩ = some (.int .i64 t207) := (blk_cell Ab.out 3).trans rfl
 have hfs25 := blk_frozen Ab.out 3
 have hs26 : w20.cell? ⟨Aa, 4, none⟩ = some (.int .i64 t208) := (blk_cell Ab.out 4).trans rfl
 have hfs26 := blk_frozen Ab.out 4
 have hs27 : w20.cell? ⟨Aa, 5, none⟩ = some (.int .i64 t209) := (blk_cell Ab.out 5).trans rfl
 have hfs27 := blk_frozen Ab.out 5
 have hs28 : w20.cell? ⟨Aa, 6, none⟩ = some (.int .i64 t210) := (blk_cell Ab.out 6).trans rfl
 have hfs28 := blk_frozen Ab.out 6
 refine skip_ (w1 := ?_) (by rfl) rfl ?_ ?_
 rotate_left
 ·go_simp
  rfl
 refine hK.out _ _ ?_
 clear hK K
 refine pui 7 3 8 255 HT_ ?_
 refine done_ (done_of HT_.out (by kernel_rfl)) ?_
 obtain ⟨_, _, _, _, _, _, _⟩ := bc7 Ab.out
 obtain ⟨_, _, _, _, _, _, _⟩ := bf7 Ab.out
 try go_wp2_with (first | ((with_reducible refine gate_callee (f := 20) rfl ?_); refine goesL_ (some 20) rfl rfl Try.func20 (by kernel_rfl) rfl #[.agg #[.int .i64 t216, .int .i64 t217, .slice B5 t218.length Bq, .int .i64 t221, .int .i64 t222, .int .i64 t223, .int .i64 t224]] rfl pL ?_; (with_reducible refine (raft_Last.calls k t216 t217 _ _ t218 t221 t222 t223 t224 t226 t227 _ ?Ag ?Ah A5.out).mono ?_); (case Ag => refine (Kd.N_reads' (e := 55) (base := w.heap.size) (ok := fun k_ => (some k_ ≠ (.slice Ax t199.length Ay : Value).ownBlock ∧ (some k_ ≠ (.slice Ao t204.length Ap : Value).ownBlock ∧ (some k_ ≠ (.slice Bh t213.length Bi : Value).ownBlock ∧ k_ ≠ Aa)))) (n := t218.length) (c := Bq) ?_).2.2; exact (by (with_reducible repeat (first | apply Kd.N_alloc | apply Kd.N_drewN | apply Kd.N_drew)); exact (Kd.N_mono (Nf7 (g := Aa) (Kd.N_mono Ai.out (fun k_ hk => (⟨hk, hk.2.2.2⟩ : _ ∧ k_ ≠ Aa))) (fun _ hk => hk.2)) (fun _ h_ => h_.1)))); (case Ah => exact (Kd.N_reads' Ai.out).2.1); rintro e w30 ⟨rfl, hb⟩; refine ⟨_, rfl, ?_⟩; replace Ac := Am (Kd.N_below (by (with_reducible repeat (first | apply Kd.N_alloc | apply Kd.N_drewN | apply Kd.N_drew)); exact (Kd.N_mono (Nf7 (g := Aa) (Kd.N_mono Ac.out (fun k_ hk => (⟨hk, hk.1.1.2⟩ : _ ∧ k_ ≠ Aa))) (fun _ hk => hk.2)) (fun _ h_ => h_.1))) hb); replace Ad := Am (Kd.N_below (by (with_reducible repeat (first | apply Kd.N_alloc | apply Kd.N_drewN | apply Kd.N_drew)); exact (Kd.N_mono (Nf7 (g := Aa) (Kd.N_mono Ad.out (fun k_ hk => (⟨hk, hk.1.1.2⟩ : _ ∧ k_ ≠ Aa))) (fun _ hk => hk.2)) (fun _ h_ => h_.1))) hb); replace Ae := Am (Kd.N_below (by (with_reducible repeat (first | apply Kd.N_alloc | apply Kd.N_drewN | apply Kd.N_drew)); exact (Kd.N_mono (Nf7 (g := Aa) (Kd.N_mono Ae.out (fun k_ hk => (⟨hk, hk.1.2.2⟩ : _ ∧ k_ ≠ Aa))) (fun _ hk => hk.2)) (fun _ h_ => h_.1))) hb); replace Ai := Am (Kd.N_below (by (with_reducible repeat (first | apply Kd.N_alloc | apply Kd.N_drewN | apply Kd.N_drew)); exact (Kd.N_mono (Nf7 (g := Aa) (Kd.N_mono Ai.out (fun k_ hk => (⟨hk, hk.2.2.2⟩ : _ ∧ k_ ≠ Aa))) (fun _ hk => hk.2)) (fun _ h_ => h_.1))) hb); replace Ab := Am (blk_below (g := Aa) (kX0 Ab.out) hb); replace HB := Am (below_step (pE HB.out Af.out) hb); (try clear hb); (try clear hb2); (try clear hk); (try clear hi); obtain ⟨_, _, _, _, _, _, _⟩ := bc7 Ab.out; obtain ⟨_, _, _, _, _, _, _⟩ := bf7 Ab.out))
 go_ret
 exact ⟨pX, pE HB.out Af.out⟩
end Go.Proofs.Ytangfpcifdpfeaa.PRaftTurns
