/- What the law reaches, as plain Lean functions, and that the machine's calls answer just that. -/
import Derived.Test.YtangfpcifdpfeaaPRaftTurnsx0
import Derived.Test.YtangfpcifdpfeaaPRaftTurnsx10
import Derived.Test.YtangfpcifdpfeaaPRaftTurnsx14
import Derived.Test.YtangfpcifdpfeaaPRaftTurnsx15
namespace Go.Proofs.Ytangfpcifdpfeaa.PRaftTurns
open Go.RowKit Go.Proofs.YtangfpcifdpfeaaW.PrintWords Go.Proofs.YtangfpcifdpfeaaW.PrintLast Go.Proofs.YtangfpcifdpfeaaW.PrintMore
attribute [local go_sem] max2_int min2_int max_two min_two max_three min_three max_four min_four
set_option linter.unusedVariables false
set_option linter.unusedSimpArgs false
attribute [local go_sem] wrap64_l1 wrap64_l2 wrap64_l3 wrap64_l4 wrap64_l5
mutual
def garnerref23_Reset.j0 : Nat → Int → Int → Bool → Int → Int → List (S55) → Int → Int → Int → Int → Option (Int × Int × (List (S55)) × Int × Int × Int × Int × Int)
 | 0, _, _, _, _, _, _, _, _, _, _ => none
 | k + 1, x1, x2, x16, x355000, x355001, x355002, x355003, x355004, x355005, x355006 => if x16 = true then (some (0, 0, ([] : List (S55)), 0, 0, 0, 0, 1)) else (if x1 ≤ x355006 then (some (0, 0, ([] : List (S55)), 0, 0, 0, 0, 4)) else ((some (([] : List (S55)) : List (S55))).bind fun y358 => ((garnerref23_Where.f x355000 x355001 x355002 x355003 x355004 x355005 x355006 x1).bind fun t361 => (if t361 = 0 then ((garnerref23_Term.f x355000 x355001 x355002 x355003 x355004 x355005 x355006 x1).bind fun t362 => (garnerref23_Reset.j1 k x1 x2 y358 (t362 == x2) x355000 x355001 x355002 x355003 x355004 x355005 x355006)) else (garnerref23_Reset.j1 k x1 x2 y358 false x355000 x355001 x355002 x355003 x355004 x355005 x355006)))))
def garnerref23_Reset.j1 : Nat → Int → Int → List (S55) → Bool → Int → Int → List (S55) → Int → Int → Int → Int → Option (Int × Int × (List (S55)) × Int × Int × Int × Int × Int)
 | 0, _, _, _, _, _, _, _, _, _, _, _ => none
 | k + 1, x1, x2, x8, x34, x355000, x355001, x355002, x355003, x355004, x355005, x355006 => if x34 = true then (if 0 ≤ (wrap64 (x1 - x355000)) then (if (wrap64 (x1 - x355000)) ≤ (x355002.length : Int) then ((some (x355002.drop ((wrap64 (x1 - x355000)) : Int).toNat : List (S55))).bind fun y363 => (if x8.length + y363.length < 1353245080339 then (garnerref23_Reset.j2 k x1 x2 (x8 ++ y363) x355000 x355001 x355002 x355003 x355004 x355005 x355006) else (none))) else (none)) else (none)) else (garnerref23_Reset.j2 k x1 x2 x8 x355000 x355001 x355002 x355003 x355004 x355005 x355006)
def garnerref23_Reset.j2 : Nat → Int → Int → List (S55) → Int → Int → List (S55) → Int → Int → Int → Int → Option (Int × Int × (List (S55)) × Int × Int × Int × Int × Int)
 | 0, _, _, _, _, _, _, _, _, _, _ => none
 | k + 1, x1, x2, x8, x355000, x355001, x355002, x355003, x355004, x355005, x355006 => if x355005 < x1 then (garnerref23_Reset.j3 k x2 x1 x2 x8 x355003 x355004 x1 x1) else (garnerref23_Reset.j3 k x2 x1 x2 x8 x355003 x355004 x355005 x1)
def garnerref23_Reset.j3 : Nat → Int → Int → Int → List (S55) → Int → Int → Int → Int → Option (Int × Int × (List (S55)) × Int × Int × Int × Int × Int)
 | 0, _, _, _, _, _, _, _, _ => none
 | k + 1, x2, x355000, x355001, x355002, x355003, x355004, x355005, x355006 => (garnerref23_Last.f x355000 x355001 x355002 x355003 x355004 x355005 x355006).bind fun t371 => (if x355005 > t371 then ((garnerref23_Last.f x355000 x355001 x355002 x355003 x355004 x355005 x355006).bind fun t372 => (if x355003 < x2 then (some (x355000, x355001, x355002, x2, 0, t372, x355006, 0)) else (some (x355000, x355001, x355002, x355003, x355004, t372, x355006, 0)))) else (if x355003 < x2 then (some (x355000, x355001, x355002, x2, 0, x355005, x355006, 0)) else (some (x355000, x355001, x355002, x355003, x355004, x355005, x355006, 0))))
end
def garnerref23_Reset.f (k : Nat) (a0_0 : Int) (a0_1 : Int) (l0_2 : List (S55)) (a0_3 : Int) (a0_4 : Int) (a0_5 : Int) (a0_6 : Int) (a1 : Int) (a2 : Int) : Option (Int × Int × (List (S55)) × Int × Int × Int × Int × Int) := (garnerref23_counts.f a1).bind fun t356 => (if t356 = true then ((garnerref23_counts.f a2).bind fun t357 => (garnerref23_Reset.j0 k a1 a2 (!t357) a0_0 a0_1 l0_2 a0_3 a0_4 a0_5 a0_6)) else (garnerref23_Reset.j0 k a1 a2 true a0_0 a0_1 l0_2 a0_3 a0_4 a0_5 a0_6))
theorem garnerref23_Reset.mono_l : ∀ k, (∀ y0 y1 y2 y3 y4 y5 y6 y7 y8 y9, LeO (garnerref23_Reset.j0 k y0 y1 y2 y3 y4 y5 y6 y7 y8 y9) (garnerref23_Reset.j0 (k + 1) y0 y1 y2 y3 y4 y5 y6 y7 y8 y9)) ∧ (∀ y0 y1 y2 y3 y4 y5 y6 y7 y8 y9 y10, LeO (garnerref23_Reset.j1 k y0 y1 y2 y3 y4 y5 y6 y7 y8 y9 y10) (garnerref23_Reset.j1 (k + 1) y0 y1 y2 y3 y4 y5 y6 y7 y8 y9 y10)) ∧ (∀ y0 y1 y2 y3 y4 y5 y6 y7 y8 y9, LeO (garnerref23_Reset.j2 k y0 y1 y2 y3 y4 y5 y6 y7 y8 y9) (garnerref23_Reset.j2 (k + 1) y0 y1 y2 y3 y4 y5 y6 y7 y8 y9)) ∧ (∀ y0 y1 y2 y3 y4 y5 y6 y7, LeO (garnerref23_Reset.j3 k y0 y1 y2 y3 y4 y5 y6 y7) (garnerref23_Reset.j3 (k + 1) y0 y1 y2 y3 y4 y5 y6 y7))
 | 0 => ⟨fun _ _ _ _ _ _ _ _ _ _ r h => by simp [garnerref23_Reset.j0] at h, fun _ _ _ _ _ _ _ _ _ _ _ r h => by simp [garnerref23_Reset.j1] at h, fun _ _ _ _ _ _ _ _ _ _ r h => by simp [garnerref23_Reset.j2] at h, fun _ _ _ _ _ _ _ _ r h => by simp [garnerref23_Reset.j3] at h⟩
 | k + 1 => by
  obtain ⟨ih0, ih1, ih2, ih3⟩ := garnerref23_Reset.mono_l k
  refine ⟨?_, ?_, ?_, ?_⟩
  ·intro y0 y1 y2 y3 y4 y5 y6 y7 y8 y9
   unfold garnerref23_Reset.j0
   repeat' first
   | (with_reducible exact ih0 _ _ _ _ _ _ _ _ _ _)
   | (with_reducible exact ih1 _ _ _ _ _ _ _ _ _ _ _)
   | (with_reducible exact ih2 _ _ _ _ _ _ _ _ _ _)
   | (with_reducible exact ih3 _ _ _ _ _ _ _ _)
   | (with_reducible exact LeO.refl _)
   | (with_reducible exact LeO.none _)
   | (with_reducible refine LeO.ite ?_ ?_)
   | (with_reducible refine LeO.bind ?_ (fun _ => ?_))
   | exact ih0 _ _ _ _ _ _ _ _ _ _
   | exact ih1 _ _ _ _ _ _ _ _ _ _ _
   | exact ih2 _ _ _ _ _ _ _ _ _ _
   | exact ih3 _ _ _ _ _ _ _ _
   | exact LeO.none _
   | refine LeO.ite ?_ ?_
   | refine LeO.bind ?_ (fun _ => ?_)
  ·intro y0 y1 y2 y3 y4 y5 y6 y7 y8 y9 y10
   unfold garnerref23_Reset.j1
   repeat' first
   | (with_reducible exact ih0 _ _ _ _ _ _ _ _ _ _)
   | (with_reducible exact ih1 _ _ _ _ _ _ _ _ _ _ _)
   | (with_reducible exact ih2 _ _ _ _ _ _ _ _ _ _)
   | (with_reducible exact ih3 _ _ _ _ _ _ _ _)
   | (with_reducible exact LeO.refl _)
   | (with_reducible exact LeO.none _)
   | (with_reducible refine LeO.ite ?_ ?_)
   | (with_reducible refine LeO.bind ?_ (fun _ => ?_))
   | exact ih0 _ _ _ _ _ _ _ _ _ _
   | exact ih1 _ _ _ _ _ _ _ _ _ _ _
   | exact ih2 _ _ _ _ _ _ _ _ _ _
   | exact ih3 _ _ _ _ _ _ _ _
   | exact LeO.none _
   | refine LeO.ite ?_ ?_
   | refine LeO.bind ?_ (fun _ => ?_)
  ·intro y0 y1 y2 y3 y4 y5 y6 y7 y8 y9
   unfold garnerref23_Reset.j2
   repeat' first
   | (with_reducible exact ih0 _ _ _ _ _ _ _ _ _ _)
   | (with_reducible exact ih1 _ _ _ _ _ _ _ _ _ _ _)
   | (with_reducible exact ih2 _ _ _ _ _ _ _ _ _ _)
   | (with_reducible exact ih3 _ _ _ _ _ _ _ _)
   | (with_reducible exact LeO.refl _)
   | (with_reducible exact LeO.none _)
   | (with_reducible refine LeO.ite ?_ ?_)
   | (with_reducible refine LeO.bind ?_ (fun _ => ?_))
   | exact ih0 _ _ _ _ _ _ _ _ _ _
   | exact ih1 _ _ _ _ _ _ _ _ _ _ _
   | exact ih2 _ _ _ _ _ _ _ _ _ _
   | exact ih3 _ _ _ _ _ _ _ _
   | exact LeO.none _
   | refine LeO.ite ?_ ?_
   | refine LeO.bind ?_ (fun _ => ?_)
  ·intro y0 y1 y2 y3 y4 y5 y6 y7
   unfold garnerref23_Reset.j3
   repeat' first
   | (with_reducible exact ih0 _ _ _ _ _ _ _ _ _ _)
   | (with_reducible exact ih1 _ _ _ _ _ _ _ _ _ _ _)
   | (with_reducible exact ih2 _ _ _ _ _ _ _ _ _ _)
   | (with_reducible exact ih3 _ _ _ _ _ _ _ _)
   | (with_reducible exact LeO.refl _)
   | (with_reducible exact LeO.none _)
   | (with_reducible refine LeO.ite ?_ ?_)
   | (with_reducible refine LeO.bind ?_ (fun _ => ?_))
   | exact ih0 _ _ _ _ _ _ _ _ _ _
   | exact ih1 _ _ _ _ _ _ _ _ _ _ _
   | exact ih2 _ _ _ _ _ _ _ _ _ _
   | exact ih3 _ _ _ _ _ _ _ _
   | exact LeO.none _
   | refine LeO.ite ?_ ?_
   | refine LeO.bind ?_ (fun _ => ?_)
theorem garnerref23_Reset.mono : ∀ a0 a1 a2 a3 a4 a5 a6 a7 a8 k, LeO (garnerref23_Reset.f k a0 a1 a2 a3 a4 a5 a6 a7 a8) (garnerref23_Reset.f (k + 1) a0 a1 a2 a3 a4 a5 a6 a7 a8) := by
 intro a0 a1 a2 a3 a4 a5 a6 a7 a8 k
 obtain ⟨ih0, ih1, ih2, ih3⟩ := garnerref23_Reset.mono_l k
 unfold garnerref23_Reset.f
 repeat' first
   | (with_reducible exact ih0 _ _ _ _ _ _ _ _ _ _)
   | (with_reducible exact ih1 _ _ _ _ _ _ _ _ _ _ _)
   | (with_reducible exact ih2 _ _ _ _ _ _ _ _ _ _)
   | (with_reducible exact ih3 _ _ _ _ _ _ _ _)
   | (with_reducible exact LeO.refl _)
   | (with_reducible exact LeO.none _)
   | (with_reducible refine LeO.ite ?_ ?_)
   | (with_reducible refine LeO.bind ?_ (fun _ => ?_))
   | exact ih0 _ _ _ _ _ _ _ _ _ _
   | exact ih1 _ _ _ _ _ _ _ _ _ _ _
   | exact ih2 _ _ _ _ _ _ _ _ _ _
   | exact ih3 _ _ _ _ _ _ _ _
   | exact LeO.none _
   | refine LeO.ite ?_ ?_
   | refine LeO.bind ?_ (fun _ => ?_)
set_option maxHeartbeats 8000000 in
set_option maxRecDepth 100000 in
theorem garnerref23_Reset.calls (k : Nat) (a0_0 : Int) (a0_1 : Int) (P0_2_ : Nat → Prop) (A0_2 : Option Addr) (c0_2 : Nat) (l0_2 : List (S55)) (a0_3 : Int) (a0_4 : Int) (a0_5 : Int) (a0_6 : Int) (a1 : Int) (a2 : Int) (r1 : Int) (r2 : Int) (r3 : List (S55)) (r4 : Int) (r5 : Int) (r6 : Int) (r7 : Int) (r8 : Int) (w : World) (hs0_2 : Kd.V k55 55 w w.heap.size (fun k_ => P0_2_ k_) (.slice A0_2 l0_2.length c0_2) l0_2) (h : garnerref23_Reset.f k a0_0 a0_1 l0_2 a0_3 a0_4 a0_5 a0_6 a1 a2 = some (r1, r2, r3, r4, r5, r6, r7, r8)) :
  Calls Try.prog 15 #[.agg #[.int .i64 a0_0, .int .i64 a0_1, .slice A0_2 l0_2.length c0_2, .int .i64 a0_3, .int .i64 a0_4, .int .i64 a0_5, .int .i64 a0_6], .int .i64 a1, .int .i64 a2] w fun e w' => ∃ v2_ : Value, e = .returned (.tuple #[.agg #[.int .i64 r1, .int .i64 r2, v2_, .int .i64 r4, .int .i64 r5, .int .i64 r6, .int .i64 r7], .int .i64 r8]) ∧ Kd.N k55 55 w' w.heap.size (fun k_ => (P0_2_ k_ ∨ w.heap.size ≤ k_)) v2_ r3 ∧ Below w.heap.size w w' := by
 have hu26 := Try.underlying26
 have HO0_2 := Am (show Kd.V k55 55 w w.heap.size (fun k_ => (P0_2_ k_ ∨ w.heap.size ≤ k_)) (.slice A0_2 l0_2.length c0_2) l0_2 from Kd.V_mono hs0_2 (fun k_ hk => .inl hk))
 have HB := Am (Below.refl w.heap.size w)
 have H : ((garnerref23_counts.f a1).bind fun t356 => (if t356 = true then ((garnerref23_counts.f a2).bind fun t357 => (garnerref23_Reset.j0 k a1 a2 (!t357) a0_0 a0_1 l0_2 a0_3 a0_4 a0_5 a0_6)) else (garnerref23_Reset.j0 k a1 a2 true a0_0 a0_1 l0_2 a0_3 a0_4 a0_5 a0_6))) = some (r1, r2, r3, r4, r5, r6, r7, r8) := h
 clear h
 have HC4 := Am H
 clear H
 go_enter Try.func15, Try.ntmps15
 go_upto_region 1 with (first | ((with_reducible refine gate_dst (N := 3) rfl ?_); refine box_event ?hg (N := 3) ?hd (cs := #[.int .i64 a0_0, .int .i64 a0_1, .slice A0_2 l0_2.length c0_2, .int .i64 a0_3, .int .i64 a0_4, .int .i64 a0_5, .int .i64 a0_6]) (t := 26) ?hr ?_; (case hd => rfl); (case hg => rfl); (case hr => first | (go_simp; done) | (go_simp; rfl)); intro Ae hg w5 hbox hb; replace HO0_2 := Am (Kd.V_below (Kd.V_elderB (pV HO0_2.out) Ae (Nat.le_of_eq hg.symm)) hb); have Ab := Am (hbox); have E0 := Am ((by rw [hg]; exact (below_size (pB HB.out)) : w.heap.size ≤ Ae)); replace HB := Am (below_step (pB HB.out) hb); have Ai := E0; clear hb hbox hg) | ((with_reducible refine gate_dst (N := 6) rfl ?_); refine box_event ?hg (N := 6) ?hd (cs := #[.int .i64 0, .int .i64 0, .slice none 0 0, .int .i64 0, .int .i64 0, .int .i64 0, .int .i64 0]) (t := 26) ?hr ?_; (case hd => rfl); (case hg => rfl); (case hr => first | (go_simp; done) | (go_simp; rfl)); intro Ag hg w6 hbox hb; replace HO0_2 := Am (Kd.V_below (Kd.V_elderB (pV HO0_2.out) Ag (Nat.le_of_eq hg.symm)) hb); have Ad := Am (hbox); have E1 := Am ((by rw [hg]; exact (below_size (pE HB.out Ai.out)) : w.heap.size ≤ Ag)); replace HB := Am (below_step (pE HB.out Ai.out) hb); have Ak := E1; have Aj := Am ((by rw [hg]; exact Nat.ne_of_lt (kL Ab.out) : Ae ≠ Ag)); have Af := Am ((by rw [hg]; exact Nat.ne_of_gt (kL Ab.out) : Ag ≠ Ae)); replace Ab := kBa Ab hb; clear hb hbox hg))
 (try simp only [Act.put, List.setIfInBounds_toArray, List.set_cons_zero, List.set_cons_succ])
 go_cut [16] (fun v16 wc => ∃ (kq : Nat) (Dm : Bool), v16 = .bool Dm ∧ Aside0 (garnerref23_Reset.j0 kq a1 a2 Dm a0_0 a0_1 l0_2 a0_3 a0_4 a0_5 a0_6 = some (r1, r2, r3, r4, r5, r6, r7, r8)) ∧ Aside0 (kq ≤ k) ∧ Aside0 (Kd.V k55 55 wc w.heap.size (fun k_ => (P0_2_ k_ ∨ w.heap.size ≤ k_) ∧ k_ ≠ Ae ∧ k_ ≠ Ag) (.slice A0_2 l0_2.length c0_2) l0_2) ∧ Aside0 (wc.heap[Ae]? = some (.cells #[.int .i64 a0_0, .int .i64 a0_1, (.slice A0_2 l0_2.length c0_2), .int .i64 a0_3, .int .i64 a0_4, .int .i64 a0_5, .int .i64 a0_6] 26 (0, 0))) ∧ Aside0 (wc.heap[Ag]? = some (.cells #[.int .i64 0, .int .i64 0, (.slice none 0 0), .int .i64 0, .int .i64 0, .int .i64 0, .int .i64 0] 26 (0, 0))) ∧ Aside0 (Below w.heap.size w wc))
 case first =>
  have H := HC4.out
  clear HC4
  replace H := Option.bind_eq_some_iff.mp H
  obtain ⟨t356, A70, H⟩ := H
  replace H : (if t356 = true then ((garnerref23_counts.f a2).bind fun t357 => (garnerref23_Reset.j0 k a1 a2 (!t357) a0_0 a0_1 l0_2 a0_3 a0_4 a0_5 a0_6)) else (garnerref23_Reset.j0 k a1 a2 true a0_0 a0_1 l0_2 a0_3 a0_4 a0_5 a0_6)) = some (r1, r2, r3, r4, r5, r6, r7, r8) := H
  have A7 := Am A70
  clear A70
  by_cases c8 : t356 = true
  rotate_left
  ·replace c8 := Bool.eq_false_iff.mpr c8
   subst c8
   have H1 : (garnerref23_Reset.j0 k a1 a2 true a0_0 a0_1 l0_2 a0_3 a0_4 a0_5 a0_6) = some (r1, r2, r3, r4, r5, r6, r7, r8) := by rw [if_neg (show ¬ (false = true) by decide)] at H; exact H
   clear H
   have H := H1
   clear H1
   have H' := Am H
   clear H
   go_wp2_with (first | ((with_reducible refine gate_callee (f := 31) rfl ?_); refine goesL_ (some 10) rfl rfl Try.func31 (by kernel_rfl) rfl #[.int .i64 a1] rfl pL ?_; (with_reducible refine (garnerref23_counts.calls a1 false _ A7.out).mono ?_); rintro e w' ⟨rfl, ⟨nd, rfl⟩⟩; refine ⟨_, rfl, ?_⟩))
   go_meet
   case rel => exact ⟨_, (true), (by first | rfl | (simp; done) | (simp [*]; done)), H', ⟨by first | omega | exact Nat.le_refl _⟩, ⟨by (with_reducible repeat (first | apply Kd.V_alloc | apply Kd.V_drewN | apply Kd.V_drew)); exact Kd.V_mono HO0_2.out (fun _ hk => ⟨hk.1.1, ⟨hk.1.2, hk.2⟩⟩)⟩, ⟨pK Ab.out⟩, ⟨pK Ad.out⟩, ⟨pE2 HB.out Ai.out Ak.out⟩⟩
  subst c8
  have H1 : ((garnerref23_counts.f a2).bind fun t357 => (garnerref23_Reset.j0 k a1 a2 (!t357) a0_0 a0_1 l0_2 a0_3 a0_4 a0_5 a0_6)) = some (r1, r2, r3, r4, r5, r6, r7, r8) := by rw [if_pos rfl] at H; exact H
  clear H
  have H := H1
  clear H1
  replace H := Option.bind_eq_some_iff.mp H
  obtain ⟨t357, A90, H⟩ := H
  replace H : (garnerref23_Reset.j0 k a1 a2 (!t357) a0_0 a0_1 l0_2 a0_3 a0_4 a0_5 a0_6) = some (r1, r2, r3, r4, r5, r6, r7, r8) := H
  have A9 := Am A90
  clear A90
  have H' := Am H
  clear H
  go_wp2_with (first | ((with_reducible refine gate_callee (f := 31) rfl ?_); refine goesL_ (some 10) rfl rfl Try.func31 (by kernel_rfl) rfl #[.int .i64 a1] rfl pL ?_; (with_reducible refine (garnerref23_counts.calls a1 true _ A7.out).mono ?_); rintro e w' ⟨rfl, ⟨nd, rfl⟩⟩; refine ⟨_, rfl, ?_⟩) | (go_at_call 31; (with_reducible refine (garnerref23_counts.calls a2 t357 _ A9.out).mono ?_); rintro e w' ⟨rfl, ⟨nd, rfl⟩⟩))
  go_meet
  case rel => exact ⟨_, (!t357), (by first | rfl | (simp; done) | (simp [*]; done)), H', ⟨by first | omega | exact Nat.le_refl _⟩, ⟨by (with_reducible repeat (first | apply Kd.V_alloc | apply Kd.V_drewN | apply Kd.V_drew)); exact Kd.V_mono HO0_2.out (fun _ hk => ⟨hk.1.1, ⟨hk.1.2, hk.2⟩⟩)⟩, ⟨pK Ab.out⟩, ⟨pK Ad.out⟩, ⟨pE2 HB.out Ai.out Ak.out⟩⟩
 case rest =>
  clear HC4
  try clear c1
  try clear p2
  try clear c3
  try clear c8
  obtain ⟨kq, Dm, rfl, HA, HJ3, Aa, Ab, Ad, HB⟩ := hcut
  cases kq with
  | zero => exact absurd HA.out (by simp [garnerref23_Reset.j0])
  | succ kj3 =>
   have H := HA.out
   clear HA
   simp only [garnerref23_Reset.j0] at H
   by_cases c10 : Dm = true
   ·subst c10
    have H1 : (some (0, 0, ([] : List (S55)), 0, 0, 0, 0, 1)) = some (r1, r2, r3, r4, r5, r6, r7, r8) := by rw [if_pos rfl] at H; exact H
    clear H
    have H := H1
    clear H1
    simp only [Option.some.injEq, Prod.mk.injEq] at H
    obtain ⟨rfl, rfl, rfl, rfl, rfl, rfl, rfl, rfl⟩ := H
    have hnb11 := Af.out
    have hnc11 := Aj.out
    obtain ⟨Au, Av, Aw, Ax, Ay, Az, A0⟩ := bc7 Ad.out
    obtain ⟨A1, A2, A3, A4, A5, A6, A8⟩ := bf7 Ad.out
    go_wp2
    refine bodyPost_ret (results_ct rfl _ _ Ag 26 #[.int .i64 0, .int .i64 0, .slice none 0 0, .int .i64 0, .int .i64 0, .int .i64 0, .int .i64 0] (0, 0) _ rfl (kX0 Ad.out) Try.underlying26 rfl (by kernel_rfl)) rfl ?_
    exact ⟨_, pX, by first | exact Kd.S_nil _ _ _ _ _ | exact Kd.N_nil _ _ _ _ _ | exact Kd.V_nil _ _ _ _ _ | exact Kd.Q_nil _ _ _ _ _ | exact Kd.R_nil _ _ _ _ _, pE2 HB.out Ai.out Ak.out⟩
   replace c10 := Bool.eq_false_iff.mpr c10
   subst c10
   have H1 : (if a1 ≤ a0_6 then (some (0, 0, ([] : List (S55)), 0, 0, 0, 0, 4)) else ((some (([] : List (S55)) : List (S55))).bind fun y358 => ((garnerref23_Where.f a0_0 a0_1 l0_2 a0_3 a0_4 a0_5 a0_6 a1).bind fun t361 => (if t361 = 0 then ((garnerref23_Term.f a0_0 a0_1 l0_2 a0_3 a0_4 a0_5 a0_6 a1).bind fun t362 => (garnerref23_Reset.j1 kj3 a1 a2 y358 (t362 == a2) a0_0 a0_1 l0_2 a0_3 a0_4 a0_5 a0_6)) else (garnerref23_Reset.j1 kj3 a1 a2 y358 false a0_0 a0_1 l0_2 a0_3 a0_4 a0_5 a0_6))))) = some (r1, r2, r3, r4, r5, r6, r7, r8) := by rw [if_neg (show ¬ (false = true) by decide)] at H; exact H
   clear H
   have H := H1
   clear H1
   by_cases c13 : a1 ≤ a0_6
   ·rw [if_pos c13] at H
    have c13b0 : decide (a1 ≤ a0_6) = true := decide_eq_true c13
    clear c13
    simp only [Option.some.injEq, Prod.mk.injEq] at H
    obtain ⟨rfl, rfl, rfl, rfl, rfl, rfl, rfl, rfl⟩ := H
    have hnb14 := Aj.out
    have hnc14 := Af.out
    obtain ⟨Ba, Bb, Bc, Bd, Be, Bf, Bg⟩ := bc7 Ab.out
    obtain ⟨Bh, Bi, Bj, Bk, Bl, Bm, Bn⟩ := bf7 Ab.out
    obtain ⟨Bo, Bp, Bq, Br, Bs, Bt, Bu⟩ := bc7 Ad.out
    obtain ⟨Bv, Bw, Bx, By, Bz, B0, B1⟩ := bf7 Ad.out
    go_wp2
    refine bodyPost_ret (results_ct rfl _ _ Ag 26 #[.int .i64 0, .int .i64 0, .slice none 0 0, .int .i64 0, .int .i64 0, .int .i64 0, .int .i64 0] (0, 0) _ rfl (kX0 Ad.out) Try.underlying26 rfl (by kernel_rfl)) rfl ?_
    exact ⟨_, pX, by first | exact Kd.S_nil _ _ _ _ _ | exact Kd.N_nil _ _ _ _ _ | exact Kd.V_nil _ _ _ _ _ | exact Kd.Q_nil _ _ _ _ _ | exact Kd.R_nil _ _ _ _ _, pE2 HB.out Ai.out Ak.out⟩
   rw [if_neg c13] at H
   have c13b0 : decide (a1 ≤ a0_6) = false := decide_eq_false c13
   clear c13
   obtain ⟨y358, hy358⟩ : ∃ y_ : List (S55), y_ = (([] : List (S55))) := ⟨_, rfl⟩
   replace H : ((garnerref23_Where.f a0_0 a0_1 l0_2 a0_3 a0_4 a0_5 a0_6 a1).bind fun t361 => (if t361 = 0 then ((garnerref23_Term.f a0_0 a0_1 l0_2 a0_3 a0_4 a0_5 a0_6 a1).bind fun t362 => (garnerref23_Reset.j1 kj3 a1 a2 y358 (t362 == a2) a0_0 a0_1 l0_2 a0_3 a0_4 a0_5 a0_6)) else (garnerref23_Reset.j1 kj3 a1 a2 y358 false a0_0 a0_1 l0_2 a0_3 a0_4 a0_5 a0_6))) = some (r1, r2, r3, r4, r5, r6, r7, r8) := by first | (rw [hy358]; with_reducible exact H) | (have H2_ := (Option.bind_some _ _).symm.trans H; rw [hy358]; with_reducible exact H2_) | (have H2_ := (Option.bind_some _ _).symm.trans H; with_reducible exact H2_) | with_reducible exact H | (rw [hy358]; exact H) | exact H
   have Ny358 := Am hy358
   clear hy358
   have HC17 := Am H
   clear H
   have hnb18 := Aj.out
   have hnc18 := Af.out
   obtain ⟨B2, B3, B4, B5, B6, B7, B8⟩ := bc7 Ab.out
   obtain ⟨B9, Ca, Cb, Cc, Cd, Ce, Cf⟩ := bf7 Ab.out
   go_upto_region 6 with (first | ((with_reducible refine gate_dst (N := 23) rfl ?_); refine Kd.N_lit k55 _ 55 ?hg (N' := 23) ?hd (xs := ([] : List (S55))) (inner := []) (ok := (fun k_ => (P0_2_ k_ ∨ w.heap.size ≤ k_) ∧ k_ ≠ Ae ∧ k_ ≠ Ag)) (okp := (fun k_ => (P0_2_ k_ ∨ w.heap.size ≤ k_) ∧ k_ ≠ Ae ∧ k_ ≠ Ag)) ?hr ?hp (fun _ hk => hk) ((show ∀ k_, wc.heap.size ≤ k_ → (fun k_ => (P0_2_ k_ ∨ w.heap.size ≤ k_) ∧ k_ ≠ Ae ∧ k_ ≠ Ag) k_ from fun k_ hk => ⟨(.inr (Nat.le_trans (below_size (pE2 HB.out Ai.out Ak.out)) hk)), kF Ab.out k_ hk, kF Ad.out k_ hk⟩) _ (Nat.le_refl _)) (Below.refl _ _) (Nat.le_refl _) (by simp) ?_; (case hd => rfl); (case hg => rfl); (case hr => first | (go_simp; done) | (go_simp; rfl)); (case hp => exact (Reps.none _ _)); intro v359 w20 ho21 hb hg_ hnew_; clear hg_ hnew_; (first | rw [← Ny358.out] at ho21 | (simp only [Int.reduceToNat] at ho21; rw [← Ny358.out] at ho21)); replace Aa := Am (Kd.V_elder' (pV Aa.out) (Kd.N_base ho21) hb); have Aq := Am (Kd.N_lower ho21 (below_size (pE2 HB.out Ai.out Ak.out))); replace Ab := kBa Ab hb; replace Ad := kBa Ad hb; replace HB := Am (below_step (pE2 HB.out Ai.out Ak.out) hb); clear hb ho21))
   (try simp only [Act.put, List.setIfInBounds_toArray, List.set_cons_zero, List.set_cons_succ])
   go_cut [34] (fun v34 wc => ∃ (kq : Nat) (At : Bool), v34 = .bool At ∧ Aside0 (garnerref23_Reset.j1 kq a1 a2 y358 At a0_0 a0_1 l0_2 a0_3 a0_4 a0_5 a0_6 = some (r1, r2, r3, r4, r5, r6, r7, r8)) ∧ Aside0 (kq ≤ kj3) ∧ Aside0 (Kd.N k55 55 wc w.heap.size (fun k_ => (P0_2_ k_ ∨ w.heap.size ≤ k_) ∧ k_ ≠ Ae ∧ k_ ≠ Ag) v359 y358) ∧ Aside0 (Kd.V k55 55 wc w.heap.size (fun k_ => (P0_2_ k_ ∨ w.heap.size ≤ k_) ∧ some k_ ≠ (v359 : Value).ownBlock ∧ k_ ≠ Ae ∧ k_ ≠ Ag) (.slice A0_2 l0_2.length c0_2) l0_2) ∧ Aside0 (wc.heap[Ae]? = some (.cells #[.int .i64 a0_0, .int .i64 a0_1, (.slice A0_2 l0_2.length c0_2), .int .i64 a0_3, .int .i64 a0_4, .int .i64 a0_5, .int .i64 a0_6] 26 (0, 0))) ∧ Aside0 (wc.heap[Ag]? = some (.cells #[.int .i64 0, .int .i64 0, (.slice none 0 0), .int .i64 0, .int .i64 0, .int .i64 0, .int .i64 0] 26 (0, 0))) ∧ Aside0 (Below w.heap.size w wc))
   case first =>
    have H := HC17.out
    clear HC17
    replace H := Option.bind_eq_some_iff.mp H
    obtain ⟨t361, A220, H⟩ := H
    replace H : (if t361 = 0 then ((garnerref23_Term.f a0_0 a0_1 l0_2 a0_3 a0_4 a0_5 a0_6 a1).bind fun t362 => (garnerref23_Reset.j1 kj3 a1 a2 y358 (t362 == a2) a0_0 a0_1 l0_2 a0_3 a0_4 a0_5 a0_6)) else (garnerref23_Reset.j1 kj3 a1 a2 y358 false a0_0 a0_1 l0_2 a0_3 a0_4 a0_5 a0_6)) = some (r1, r2, r3, r4, r5, r6, r7, r8) := H
    have A22 := Am A220
    clear A220
    by_cases c23 : t361 = 0
    rotate_left
    ·rw [if_neg c23] at H
     have c23b0 : (t361 == 0) = false := beq_eq_false_iff_ne.mpr c23
     have c23b1 : (t361 != 0) = true := bne_iff_ne.mpr c23
     (first | rw [c23b0] | (simp only [i64_w, i32_w]; rw [c23b0]) | skip)
     have H' := Am H
     clear H
     have hnb30 := Aj.out
     have hnc30 := Af.out
     obtain ⟨C8, C9, Da, Db, Dc, Dd, De⟩ := bc7 Ab.out
     obtain ⟨Df, Dg, Dh, Di, Dj, Dk, Dl⟩ := bf7 Ab.out
     go_wp2_with (first | ((with_reducible refine gate_callee (f := 32) rfl ?_); refine goesL_ (some 26) rfl rfl Try.func32 (by kernel_rfl) rfl #[.agg #[.int .i64 a0_0, .int .i64 a0_1, .slice A0_2 l0_2.length c0_2, .int .i64 a0_3, .int .i64 a0_4, .int .i64 a0_5, .int .i64 a0_6], .int .i64 a1] rfl pL ?_; (with_reducible refine (garnerref23_Where.calls a0_0 a0_1 _ _ l0_2 a0_3 a0_4 a0_5 a0_6 a1 t361 _ ?Al ?An A22.out).mono ?_); (case Al => exact pC (Kd.V_reads' Aa.out).2.2); (case An => exact (Kd.V_reads' Aa.out).2.1); rintro e w32 ⟨rfl, hb⟩; refine ⟨_, rfl, ?_⟩; replace Aa := bVa Aa hb; replace Aq := bNa Aq hb; replace Ab := kBa Ab hb; replace Ad := kBa Ad hb; replace HB := Am (below_step (pE2 HB.out Ai.out Ak.out) hb); (try clear hb); (try clear hb2); (try clear hk); (try clear hi)))
     go_meet
     case rel => exact ⟨_, (false), (by first | rfl | (simp; done) | (simp [*]; done)), H', ⟨by have := HJ3.out; first | omega | exact Nat.le_refl _⟩, ⟨by (with_reducible repeat (first | apply Kd.N_alloc | apply Kd.N_drewN | apply Kd.N_drew)); exact Aq.out⟩, ⟨by (with_reducible repeat (first | apply Kd.V_alloc | apply Kd.V_drewN | apply Kd.V_drew)); exact Kd.V_mono Aa.out (fun _ hk => ⟨hk.1.1, ⟨hk.2, ⟨hk.1.2.1, hk.1.2.2⟩⟩⟩)⟩, ⟨pK Ab.out⟩, ⟨pK Ad.out⟩, ⟨pE2 HB.out Ai.out Ak.out⟩⟩
    rw [if_pos c23] at H
    have c23b0 : (t361 == 0) = true := beq_iff_eq.mpr c23
    have c23b1 : (t361 != 0) = false := bne_eq_false_iff_eq.mpr c23
    clear c23
    (first | rw [c23b0] | (simp only [i64_w, i32_w]; rw [c23b0]) | skip)
    replace H := Option.bind_eq_some_iff.mp H
    obtain ⟨t362, A240, H⟩ := H
    replace H : (garnerref23_Reset.j1 kj3 a1 a2 y358 (t362 == a2) a0_0 a0_1 l0_2 a0_3 a0_4 a0_5 a0_6) = some (r1, r2, r3, r4, r5, r6, r7, r8) := H
    have A24 := Am A240
    clear A240
    have H' := Am H
    clear H
    have hnb25 := Aj.out
    have hnc25 := Af.out
    obtain ⟨Cg, Ch, Ci, Cj, Ck, Cl, Cm⟩ := bc7 Ab.out
    obtain ⟨Cn, Co, Cp, Cq, Cr, Cs, Ct⟩ := bf7 Ab.out
    go_wp2_with (first | ((with_reducible refine gate_callee (f := 32) rfl ?_); refine goesL_ (some 26) rfl rfl Try.func32 (by kernel_rfl) rfl #[.agg #[.int .i64 a0_0, .int .i64 a0_1, .slice A0_2 l0_2.length c0_2, .int .i64 a0_3, .int .i64 a0_4, .int .i64 a0_5, .int .i64 a0_6], .int .i64 a1] rfl pL ?_; (with_reducible refine (garnerref23_Where.calls a0_0 a0_1 _ _ l0_2 a0_3 a0_4 a0_5 a0_6 a1 t361 _ ?Al ?An A22.out).mono ?_); (case Al => exact pC (Kd.V_reads' Aa.out).2.2); (case An => exact (Kd.V_reads' Aa.out).2.1); rintro e w27 ⟨rfl, hb⟩; refine ⟨_, rfl, ?_⟩; replace Aa := bVa Aa hb; replace Aq := bNa Aq hb; replace Ab := kBa Ab hb; replace Ad := kBa Ad hb; replace HB := Am (below_step (pE2 HB.out Ai.out Ak.out) hb); (try clear hb); (try clear hb2); (try clear hk); (try clear hi); obtain ⟨Cu, Cv, Cw, Cx, Cy, Cz, C0⟩ := bc7 Ab.out; obtain ⟨C1, C2, C3, C4, C5, C6, C7⟩ := bf7 Ab.out) | (go_at_call 30; (with_reducible refine (garnerref23_Term.calls a0_0 a0_1 _ _ l0_2 a0_3 a0_4 a0_5 a0_6 a1 t362 _ ?Al ?An A24.out).mono ?_); (case Al => exact pC (Kd.V_reads' Aa.out).2.2); (case An => exact (Kd.V_reads' Aa.out).2.1); rintro e w29 ⟨rfl, hb⟩; replace Aa := bVa Aa hb; replace Aq := bNa Aq hb; replace Ab := kBa Ab hb; replace Ad := kBa Ad hb; replace HB := Am (below_step (pE2 HB.out Ai.out Ak.out) hb); (try clear hb); (try clear hb2); (try clear hk); (try clear hi)))
    go_meet
    case rel => exact ⟨_, ((t362 == a2)), (by first | rfl | (simp; done) | (simp [*]; done)), H', ⟨by have := HJ3.out; first | omega | exact Nat.le_refl _⟩, ⟨by (with_reducible repeat (first | apply Kd.N_alloc | apply Kd.N_drewN | apply Kd.N_drew)); exact Aq.out⟩, ⟨by (with_reducible repeat (first | apply Kd.V_alloc | apply Kd.V_drewN | apply Kd.V_drew)); exact Kd.V_mono Aa.out (fun _ hk => ⟨hk.1.1, ⟨hk.2, ⟨hk.1.2.1, hk.1.2.2⟩⟩⟩)⟩, ⟨pK Ab.out⟩, ⟨pK Ad.out⟩, ⟨pE2 HB.out Ai.out Ak.out⟩⟩
   case rest =>
    clear HC17
    try clear c1
    try clear c2
    try clear p2
    try clear c3
    try clear c8
    try clear c10
    try clear c11
    try clear c13
    try clear c13b0
    try clear c14
    try clear c15
    try clear c18
    try clear c23
    try clear c23b0
    try clear c23b1
    try clear c25
    try clear c30
    try clear c31
    try clear c32
    try clear Au Av Aw Ax Ay Az A0
    try clear Ba Bb Bc Bd Be Bf Bg
    try clear Bo Bp Bq Br Bs Bt Bu
    try clear B2 B3 B4 B5 B6 B7 B8
    try clear Cg Ch Ci Cj Ck Cl Cm
    try clear Cu Cv Cw Cx Cy Cz C0
    try clear C8 C9 Da Db Dc Dd De
    try clear A1 A2 A3 A4 A5 A6 A8
    try clear Bh Bi Bj Bk Bl Bm Bn
    try clear Bv Bw Bx By Bz B0 B1
    try clear B9 Ca Cb Cc Cd Ce Cf
    try clear Cn Co Cp Cq Cr Cs Ct
    try clear C1 C2 C3 C4 C5 C6 C7
    try clear Df Dg Dh Di Dj Dk Dl
    try clear p2
    obtain ⟨kq, At, rfl, HA, HJ16, As, Aa, Ab, Ad, HB⟩ := hcut
    cases kq with
    | zero => exact absurd HA.out (by simp [garnerref23_Reset.j1])
    | succ kj16 =>
     have H := HA.out
     clear HA
     simp only [garnerref23_Reset.j1] at H
     have HC33 := Am H
     clear H
     go_upto_if 34 with (fail)
     go_cut [8] (fun v8 wc => ∃ (kq : Nat) (Ah : List (S55)), Aside0 (garnerref23_Reset.j2 kq a1 a2 Ah a0_0 a0_1 l0_2 a0_3 a0_4 a0_5 a0_6 = some (r1, r2, r3, r4, r5, r6, r7, r8)) ∧ Aside0 (kq ≤ kj16) ∧ Aside0 (Kd.N k55 55 wc w.heap.size (fun k_ => (P0_2_ k_ ∨ w.heap.size ≤ k_) ∧ k_ ≠ Ae ∧ k_ ≠ Ag) v8 Ah) ∧ Aside0 (Kd.V k55 55 wc w.heap.size (fun k_ => (P0_2_ k_ ∨ w.heap.size ≤ k_) ∧ some k_ ≠ (v8 : Value).ownBlock ∧ k_ ≠ Ae ∧ k_ ≠ Ag) (.slice A0_2 l0_2.length c0_2) l0_2) ∧ Aside0 (wc.heap[Ae]? = some (.cells #[.int .i64 a0_0, .int .i64 a0_1, (.slice A0_2 l0_2.length c0_2), .int .i64 a0_3, .int .i64 a0_4, .int .i64 a0_5, .int .i64 a0_6] 26 (0, 0))) ∧ Aside0 (wc.heap[Ag]? = some (.cells #[.int .i64 0, .int .i64 0, (.slice none 0 0), .int .i64 0, .int .i64 0, .int .i64 0, .int .i64 0] 26 (0, 0))) ∧ Aside0 (Below w.heap.size w wc))
     case first =>
      have H := HC33.out
      clear HC33
      by_cases c34 : At = true
      rotate_left
      ·replace c34 := Bool.eq_false_iff.mpr c34
       subst c34
       have H1 : (garnerref23_Reset.j2 kj16 a1 a2 y358 a0_0 a0_1 l0_2 a0_3 a0_4 a0_5 a0_6) = some (r1, r2, r3, r4, r5, r6, r7, r8) := by rw [if_neg (show ¬ (false = true) by decide)] at H; exact H
       clear H
       have H := H1
       clear H1
       have H' := Am H
       clear H
       go_wp2
       go_meet
       case rel => exact ⟨_, (y358), H', ⟨by have := HJ3.out; have := HJ16.out; first | omega | exact Nat.le_refl _⟩, ⟨by (with_reducible repeat (first | apply Kd.N_alloc | apply Kd.N_drewN | apply Kd.N_drew)); exact As.out⟩, ⟨by (with_reducible repeat (first | apply Kd.V_alloc | apply Kd.V_drewN | apply Kd.V_drew)); exact Aa.out⟩, ⟨pK Ab.out⟩, ⟨pK Ad.out⟩, ⟨pE2 HB.out Ai.out Ak.out⟩⟩
      subst c34
      have H1 : (if 0 ≤ (wrap64 (a1 - a0_0)) then (if (wrap64 (a1 - a0_0)) ≤ (l0_2.length : Int) then ((some (l0_2.drop ((wrap64 (a1 - a0_0)) : Int).toNat : List (S55))).bind fun y363 => (if y358.length + y363.length < 1353245080339 then (garnerref23_Reset.j2 kj16 a1 a2 (y358 ++ y363) a0_0 a0_1 l0_2 a0_3 a0_4 a0_5 a0_6) else (none))) else (none)) else (none)) = some (r1, r2, r3, r4, r5, r6, r7, r8) := by rw [if_pos rfl] at H; exact H
      clear H
      have H := H1
      clear H1
      obtain ⟨ji35, hji35⟩ : ∃ j_ : Int, (wrap64 (a1 - a0_0)) = j_ := ⟨_, rfl⟩
      replace H : (if 0 ≤ (ji35) then (if (ji35) ≤ (l0_2.length : Int) then ((some (l0_2.drop ((ji35) : Int).toNat : List (S55))).bind fun y363 => (if y358.length + y363.length < 1353245080339 then (garnerref23_Reset.j2 kj16 a1 a2 (y358 ++ y363) a0_0 a0_1 l0_2 a0_3 a0_4 a0_5 a0_6) else (none))) else (none)) else (none)) = some (r1, r2, r3, r4, r5, r6, r7, r8) := by first | (rw [hji35] at H; exact H) | (simp only [hji35] at H ⊢; exact H)
      have hji35w : (IntKind.i64.wrap (a1 - a0_0)) = ji35 := (i64_w _).trans hji35
      by_cases c36 : 0 ≤ (ji35)
      rotate_left
      ·rw [if_neg c36] at H
       exact absurd H (by simp)
      rw [if_pos c36] at H
      have c36b0 := eq_true c36
      have c36b1 : decide (0 ≤ (ji35)) = true := decide_eq_true c36
      clear c36
      by_cases c37 : (ji35) ≤ (l0_2.length : Int)
      rotate_left
      ·rw [if_neg c37] at H
       exact absurd H (by simp)
      rw [if_pos c37] at H
      have c37b0 := eq_true c37
      have c37b1 : decide ((ji35) ≤ (l0_2.length : Int)) = true := decide_eq_true c37
      clear c37
      obtain ⟨y363, hy363⟩ : ∃ y_ : List (S55), y_ = (l0_2.drop ((ji35) : Int).toNat) := ⟨_, rfl⟩
      replace H : (if y358.length + y363.length < 1353245080339 then (garnerref23_Reset.j2 kj16 a1 a2 (y358 ++ y363) a0_0 a0_1 l0_2 a0_3 a0_4 a0_5 a0_6) else (none)) = some (r1, r2, r3, r4, r5, r6, r7, r8) := by first | (rw [hy363]; with_reducible exact H) | (have H2_ := (Option.bind_some _ _).symm.trans H; rw [hy363]; with_reducible exact H2_) | (have H2_ := (Option.bind_some _ _).symm.trans H; with_reducible exact H2_) | with_reducible exact H | (rw [hy363]; exact H) | exact H
      have Ny363 := Am hy363
      clear hy363
      by_cases c38 : y358.length + y363.length < 1353245080339
      rotate_left
      ·rw [if_neg c38] at H
       exact absurd H (by simp)
      rw [if_pos c38] at H
      have LMc38 := Am c38
      clear c38
      obtain ⟨y368, hy368⟩ : ∃ y_ : List (S55), y_ = (y358 ++ y363) := ⟨_, rfl⟩
      replace H : (garnerref23_Reset.j2 kj16 a1 a2 y368 a0_0 a0_1 l0_2 a0_3 a0_4 a0_5 a0_6) = some (r1, r2, r3, r4, r5, r6, r7, r8) := by first | (rw [hy368]; with_reducible exact H) | (have H2_ := (Option.bind_some _ _).symm.trans H; rw [hy368]; with_reducible exact H2_) | (have H2_ := (Option.bind_some _ _).symm.trans H; with_reducible exact H2_) | with_reducible exact H | (rw [hy368]; exact H) | exact H
      have Ny368 := Am hy368
      clear hy368
      have H' := Am H
      clear H
      have hnb39 := Aj.out
      have hnc39 := Af.out
      obtain ⟨Dn, Do, Dp, Dq, Dr, Ds, Dt⟩ := bc7 Ab.out
      obtain ⟨Du, Dv, Dw, Dx, Dy, Dz, D0⟩ := bf7 Ab.out
      have q41 : ((ji35) : Int) ≤ ((l0_2.length : Int) : Int) := of_decide_eq_true pS
      obtain ⟨i041, hi041, _, Ex, _⟩ := info_parts info55
      have Ar : l0_2.length ≤ c0_2 := (Kd.V_reads' Aa.out).2.1
      have Ez : Kd.F k55 _ _ A0_2 l0_2.length l0_2 := (Kd.V_at (base := w.heap.size) Aa.out).2.2
      have q041 : (0 : Int) ≤ ((ji35) : Int) := of_decide_eq_true pS
      have Ey := cut_from (P := Try.prog) 22 55 .i64 Try.underlying22 hi041 10 Ex A0_2 l0_2.length c0_2 (ji35) q041 q41
      have D1 := Kd.F_cut (m := ((ji35) : Int).toNat) (c := c0_2) Ez (by omega) Ar
      obtain ⟨A41, hA41⟩ : ∃ AX_, AX_ = (if c0_2 = ((ji35) : Int).toNat then A0_2 else (A0_2 : Option Addr).map (·.add (((ji35) : Int).toNat * 10))) := ⟨_, rfl⟩
      obtain ⟨c41, hc41⟩ : ∃ cX_, cX_ = c0_2 - ((ji35) : Int).toNat := ⟨_, rfl⟩
      have hy41 : y363.length = l0_2.length - ((ji35) : Int).toNat := (by rw [Ny363.out, List.length_drop] <;> omega)
      rw [show (l0_2).drop ((ji35) : Int).toNat = y363 from Ny363.out.symm] at D1
      replace D1 : Kd.F k55 _ _ A41 y363.length y363 := (by rw [hA41]; exact D1)
      rw [← hy41, ← hA41, ← hc41] at Ey
      have D2 := Am (show Kd.V k55 55 _ w.heap.size _ (.slice A41 y363.length c41) y363 from Kd.V_mk (by rw [hy41, hc41]; exact Nat.sub_le_sub_right Ar _) D1)
      have HC367 := Am (show y363.length ≤ c41 from by rw [hy41, hc41]; exact Nat.sub_le_sub_right Ar _)
      clear D1 Ez Ar hi041 Ex hc41
      have KY41 := Am hy41
      have KA41 := Am hA41
      clear hy41 hA41
      replace q41 := eq_true q41
      go_wp2_with (first | ((with_reducible refine gate_builtin (b := .append) (xs := #[.tmp 35, .tmp 42]) rfl ?_); at_builtin; refine Kd.N_append_rows k55 (w0 := w) w.heap.size rfl (.tmp 35) (.tmp 42) 22 55 (.agg #[(.int .i64 0), (.int .i64 0), (.int .i64 0), (.string ⟨#[]⟩), (.bool false), (.slice none 0 0), (.int .i64 0), (.int .i64 0), (.int .i64 0), (.int .u32 0)]) 104 rfl Try.underlying22 info55 rfl (by decide) (by omega) v359 y358 y363 _ _ _ (fun k_ => (P0_2_ k_ ∨ w.heap.size ≤ k_) ∧ k_ ≠ Ae ∧ k_ ≠ Ag) (fun k_ => ((fun k_ => (P0_2_ k_ ∨ w.heap.size ≤ k_) ∧ k_ ≠ Ae ∧ k_ ≠ Ag)) k_ ∧ some k_ ≠ (v359 : Value).ownBlock) rfl rfl ?aO ?aR (fun _ hk => hk) ?aF ?aB ?aS ?aL ?_; (case aR => exact (by skip; exact Kd.V_F (Kd.V_mono (ok' := (fun k_ => ((fun k_ => (P0_2_ k_ ∨ w.heap.size ≤ k_) ∧ k_ ≠ Ae ∧ k_ ≠ Ag)) k_ ∧ some k_ ≠ (v359 : Value).ownBlock)) (D2.out) (fun k_ hk => ⟨⟨hk.1, ⟨hk.2.2.1, hk.2.2.2⟩⟩, hk.2.1⟩)))); (case aB => exact (pE2 HB.out Ai.out Ak.out)); (case aF => exact (fun k_ hk => ⟨(.inr (Nat.le_trans (below_size (pE2 HB.out Ai.out Ak.out)) hk)), kF Ab.out k_ hk, kF Ad.out k_ hk⟩)); (case aO => exact (pN As.out)); (case aS => exact (below_size (pE2 HB.out Ai.out Ak.out))); (case aL => have := LMc38.out; omega); intro v369 w42 ho hb hg hat; rw [← Ny368.out] at ho; replace Aa := Am (Kd.V_afterv (ok := (fun k_ => (P0_2_ k_ ∨ w.heap.size ≤ k_) ∧ k_ ≠ Ae ∧ k_ ≠ Ag)) (by (with_reducible repeat (first | apply Kd.V_alloc | apply Kd.V_drewN | apply Kd.V_drew)); exact Kd.V_mono Aa.out (fun _ hk => ⟨⟨hk.1, ⟨hk.2.2.1, hk.2.2.2⟩⟩, hk.2.1⟩)) hg hat); replace Ab := Am (blk_grown (g := Ae) (o := .cells #[.int .i64 a0_0, .int .i64 a0_1, .slice A0_2 l0_2.length c0_2, .int .i64 a0_3, .int .i64 a0_4, .int .i64 a0_5, .int .i64 a0_6] 26 (0, 0)) (pK Ab.out) hg (Kd.N_ne As.out Ab.out (by decide))); replace Ad := Am (blk_grown (g := Ag) (o := .cells #[.int .i64 0, .int .i64 0, .slice none 0 0, .int .i64 0, .int .i64 0, .int .i64 0, .int .i64 0] 26 (0, 0)) (pK Ad.out) hg (Kd.N_ne As.out Ad.out (by decide))); replace D2 := Am (Kd.V_afterv (ok := (fun k_ => (P0_2_ k_ ∨ w.heap.size ≤ k_) ∧ k_ ≠ Ae ∧ k_ ≠ Ag)) (by (with_reducible repeat (first | apply Kd.V_alloc | apply Kd.V_drewN | apply Kd.V_drew)); exact Kd.V_mono D2.out (fun _ hk => ⟨⟨hk.1, ⟨hk.2.2.1, hk.2.2.2⟩⟩, hk.2.1⟩)) hg hat); replace HB := Am (hb); have E2 := Am (ho); clear As ho hb hg hat))
      go_meet
      case rel => exact ⟨_, (y368), H', ⟨by have := HJ3.out; have := HJ16.out; first | omega | exact Nat.le_refl _⟩, ⟨by (with_reducible repeat (first | apply Kd.N_alloc | apply Kd.N_drewN | apply Kd.N_drew)); exact E2.out⟩, ⟨by (with_reducible repeat (first | apply Kd.V_alloc | apply Kd.V_drewN | apply Kd.V_drew)); exact Kd.V_mono Aa.out (fun _ hk => ⟨hk.1.1, ⟨hk.2, ⟨hk.1.2.1, hk.1.2.2⟩⟩⟩)⟩, ⟨pK Ab.out⟩, ⟨pK Ad.out⟩, ⟨pE2 HB.out Ai.out Ak.out⟩⟩
     case rest =>
      clear HC33
      try clear c1
      try clear c2
      try clear p2
      try clear c3
      try clear c4
      try clear q4
      try clear p6
      try clear c8
      try clear c10
      try clear c11
      try clear c13
      try clear c13b0
      try clear c14
      try clear c15
      try clear c18
      try clear c23
      try clear c23b0
      try clear c23b1
      try clear c25
      try clear c30
      try clear c31
      try clear c32
      try clear c34
      try clear c36
      try clear c36b0
      try clear c36b1
      try clear c37
      try clear c37b0
      try clear c37b1
      try clear c38
      try clear c39
      try clear c41
      try clear q41
      try clear Au Av Aw Ax Ay Az A0
      try clear Ba Bb Bc Bd Be Bf Bg
      try clear Bo Bp Bq Br Bs Bt Bu
      try clear B2 B3 B4 B5 B6 B7 B8
      try clear Cg Ch Ci Cj Ck Cl Cm
      try clear Cu Cv Cw Cx Cy Cz C0
      try clear C8 C9 Da Db Dc Dd De
      try clear Dn Do Dp Dq Dr Ds Dt
      try clear A1 A2 A3 A4 A5 A6 A8
      try clear Bh Bi Bj Bk Bl Bm Bn
      try clear Bv Bw Bx By Bz B0 B1
      try clear B9 Ca Cb Cc Cd Ce Cf
      try clear Cn Co Cp Cq Cr Cs Ct
      try clear C1 C2 C3 C4 C5 C6 C7
      try clear Df Dg Dh Di Dj Dk Dl
      try clear Du Dv Dw Dx Dy Dz D0
      try clear p2
      try clear q041
      try clear q41
      obtain ⟨kq, Ah, HA, HJ32, As, Aa, Ab, Ad, HB⟩ := hcut
      cases kq with
      | zero => exact absurd HA.out (by simp [garnerref23_Reset.j2])
      | succ kj32 =>
       have H := HA.out
       clear HA
       simp only [garnerref23_Reset.j2] at H
       have HC43 := Am H
       clear H
       have hnb44 := Aj.out
       have hnc44 := Af.out
       obtain ⟨D3, D4, D5, D6, D7, D8, D9⟩ := bc7 Ab.out
       obtain ⟨Ea, Eb, Ec, Ed, Ee, Ef, Eg⟩ := bf7 Ab.out
       obtain ⟨Ao, Ap, E3⟩ := Kd.N_slice As.out
       subst E3
       go_upto_if 56 with (fail)
       go_cut [] (fun wc => ∃ (kq : Nat) (Ac : Int), Aside0 (garnerref23_Reset.j3 kq a2 a1 a2 Ah a0_3 a0_4 Ac a1 = some (r1, r2, r3, r4, r5, r6, r7, r8)) ∧ Aside0 (kq ≤ kj32) ∧ Aside0 (Kd.N k55 55 wc w.heap.size (fun k_ => (P0_2_ k_ ∨ w.heap.size ≤ k_) ∧ k_ ≠ Ae ∧ k_ ≠ Ag) (.slice Ao Ah.length Ap) Ah) ∧ Aside0 (wc.heap[Ae]? = some (.cells #[.int .i64 a1, .int .i64 a2, (.slice Ao Ah.length Ap), .int .i64 a0_3, .int .i64 a0_4, .int .i64 Ac, .int .i64 a1] 26 (0, 0))) ∧ Aside0 (wc.heap[Ag]? = some (.cells #[.int .i64 0, .int .i64 0, (.slice none 0 0), .int .i64 0, .int .i64 0, .int .i64 0, .int .i64 0] 26 (0, 0))) ∧ Aside0 (Below w.heap.size w wc))
       case first =>
        have H := HC43.out
        clear HC43
        by_cases c47 : a0_5 < a1
        rotate_left
        ·rw [if_neg c47] at H
         have c47b0 : decide (a0_5 < a1) = false := decide_eq_false c47
         clear c47
         (first | rw [c47b0] | (simp only [i64_w, i32_w]; rw [c47b0]) | skip)
         have H' := Am H
         clear H
         go_wp2
         go_meet
         case rel => exact ⟨_, (a0_5), H', ⟨by have := HJ3.out; have := HJ16.out; have := HJ32.out; first | omega | exact Nat.le_refl _⟩, ⟨by (with_reducible repeat (first | apply Kd.N_alloc | apply Kd.N_drewN | apply Kd.N_drew)); exact Kd.N_mono (Kd.N_far (p := ⟨Ae, 6, none⟩) (Nf3 (g := Ae) (Kd.N_mono As.out (fun k_ hk => (⟨hk, hk.2.1⟩ : _ ∧ k_ ≠ Ae))) (fun _ hk => hk.2)) (fun _ hk => hk.2) (.int .i64 a1)) (fun _ hk => ⟨hk.1.1, ⟨hk.1.2.1, hk.1.2.2⟩⟩)⟩, ⟨by (with_reducible repeat (first | refine blk_drewN ?_ _ | refine blk_drew ?_ | refine blk_alloc ?_ _)); refine blk_put (cs := #[.int .i64 a1, .int .i64 a2, .slice Ao Ah.length Ap, .int .i64 a0_3, .int .i64 a0_4, .int .i64 a0_5, .int .i64 a0_6]) ?_ 6 _ rfl; (with_reducible repeat (first | refine blk_drewN ?_ _ | refine blk_drew ?_ | refine blk_alloc ?_ _)); refine blk_put (cs := #[.int .i64 a1, .int .i64 a2, .slice A0_2 l0_2.length c0_2, .int .i64 a0_3, .int .i64 a0_4, .int .i64 a0_5, .int .i64 a0_6]) ?_ 2 _ rfl; (with_reducible repeat (first | refine blk_drewN ?_ _ | refine blk_drew ?_ | refine blk_alloc ?_ _)); refine blk_put (cs := #[.int .i64 a1, .int .i64 a0_1, .slice A0_2 l0_2.length c0_2, .int .i64 a0_3, .int .i64 a0_4, .int .i64 a0_5, .int .i64 a0_6]) ?_ 1 _ rfl; (with_reducible repeat (first | refine blk_drewN ?_ _ | refine blk_drew ?_ | refine blk_alloc ?_ _)); refine blk_put (cs := #[.int .i64 a0_0, .int .i64 a0_1, .slice A0_2 l0_2.length c0_2, .int .i64 a0_3, .int .i64 a0_4, .int .i64 a0_5, .int .i64 a0_6]) ?_ 0 _ rfl; (with_reducible repeat (first | refine blk_drewN ?_ _ | refine blk_drew ?_ | refine blk_alloc ?_ _)); exact Ab.out⟩, ⟨kX1 Ad.out Af.out⟩, ⟨pE2 HB.out Ai.out Ak.out⟩⟩
        rw [if_pos c47] at H
        have c47b0 : decide (a0_5 < a1) = true := decide_eq_true c47
        clear c47
        (first | rw [c47b0] | (simp only [i64_w, i32_w]; rw [c47b0]) | skip)
        have H' := Am H
        clear H
        have hnb48 := Aj.out
        have hnc48 := Af.out
        obtain ⟨Eh, Ei, Ej, Ek, El, Em, En⟩ := bc7 Ab.out
        obtain ⟨Eo, Ep, Er, Es, Et, Eu, Ew⟩ := bf7 Ab.out
        go_wp2
        go_meet
        case rel => exact ⟨_, (a1), H', ⟨by have := HJ3.out; have := HJ16.out; have := HJ32.out; first | omega | exact Nat.le_refl _⟩, ⟨by (with_reducible repeat (first | apply Kd.N_alloc | apply Kd.N_drewN | apply Kd.N_drew)); exact Kd.N_mono (Kd.N_far (p := ⟨Ae, 5, none⟩) (Kd.N_far (p := ⟨Ae, 6, none⟩) (Nf3 (g := Ae) (Kd.N_mono As.out (fun k_ hk => (⟨hk, hk.2.1⟩ : _ ∧ k_ ≠ Ae))) (fun _ hk => hk.2)) (fun _ hk => hk.2) (.int .i64 a1)) (fun _ hk => hk.2) (.int .i64 a1)) (fun _ hk => ⟨hk.1.1, ⟨hk.1.2.1, hk.1.2.2⟩⟩)⟩, ⟨by (with_reducible repeat (first | refine blk_drewN ?_ _ | refine blk_drew ?_ | refine blk_alloc ?_ _)); refine blk_put (cs := #[.int .i64 a1, .int .i64 a2, .slice Ao Ah.length Ap, .int .i64 a0_3, .int .i64 a0_4, .int .i64 a0_5, .int .i64 a1]) ?_ 5 _ rfl; (with_reducible repeat (first | refine blk_drewN ?_ _ | refine blk_drew ?_ | refine blk_alloc ?_ _)); refine blk_put (cs := #[.int .i64 a1, .int .i64 a2, .slice Ao Ah.length Ap, .int .i64 a0_3, .int .i64 a0_4, .int .i64 a0_5, .int .i64 a0_6]) ?_ 6 _ rfl; (with_reducible repeat (first | refine blk_drewN ?_ _ | refine blk_drew ?_ | refine blk_alloc ?_ _)); refine blk_put (cs := #[.int .i64 a1, .int .i64 a2, .slice A0_2 l0_2.length c0_2, .int .i64 a0_3, .int .i64 a0_4, .int .i64 a0_5, .int .i64 a0_6]) ?_ 2 _ rfl; (with_reducible repeat (first | refine blk_drewN ?_ _ | refine blk_drew ?_ | refine blk_alloc ?_ _)); refine blk_put (cs := #[.int .i64 a1, .int .i64 a0_1, .slice A0_2 l0_2.length c0_2, .int .i64 a0_3, .int .i64 a0_4, .int .i64 a0_5, .int .i64 a0_6]) ?_ 1 _ rfl; (with_reducible repeat (first | refine blk_drewN ?_ _ | refine blk_drew ?_ | refine blk_alloc ?_ _)); refine blk_put (cs := #[.int .i64 a0_0, .int .i64 a0_1, .slice A0_2 l0_2.length c0_2, .int .i64 a0_3, .int .i64 a0_4, .int .i64 a0_5, .int .i64 a0_6]) ?_ 0 _ rfl; (with_reducible repeat (first | refine blk_drewN ?_ _ | refine blk_drew ?_ | refine blk_alloc ?_ _)); exact Ab.out⟩, ⟨kX1 Ad.out Af.out⟩, ⟨pE2 HB.out Ai.out Ak.out⟩⟩
       case rest =>
        clear HC43
        try clear c1
        try clear c2
        try clear p2
        try clear c3
        try clear c4
        try clear q4
        try clear p6
        try clear c8
        try clear c10
        try clear c11
        try clear c13
        try clear c13b0
        try clear c14
        try clear c15
        try clear c18
        try clear c23
        try clear c23b0
        try clear c23b1
        try clear c25
        try clear c30
        try clear c31
        try clear c32
        try clear c34
        try clear c36
        try clear c36b0
        try clear c36b1
        try clear c37
        try clear c37b0
        try clear c37b1
        try clear c38
        try clear c39
        try clear c41
        try clear q41
        try clear c44
        try clear c47
        try clear c47b0
        try clear c48
        try clear Au Av Aw Ax Ay Az A0
        try clear Ba Bb Bc Bd Be Bf Bg
        try clear Bo Bp Bq Br Bs Bt Bu
        try clear B2 B3 B4 B5 B6 B7 B8
        try clear Cg Ch Ci Cj Ck Cl Cm
        try clear Cu Cv Cw Cx Cy Cz C0
        try clear C8 C9 Da Db Dc Dd De
        try clear Dn Do Dp Dq Dr Ds Dt
        try clear D3 D4 D5 D6 D7 D8 D9
        try clear Eh Ei Ej Ek El Em En
        try clear A1 A2 A3 A4 A5 A6 A8
        try clear Bh Bi Bj Bk Bl Bm Bn
        try clear Bv Bw Bx By Bz B0 B1
        try clear B9 Ca Cb Cc Cd Ce Cf
        try clear Cn Co Cp Cq Cr Cs Ct
        try clear C1 C2 C3 C4 C5 C6 C7
        try clear Df Dg Dh Di Dj Dk Dl
        try clear Du Dv Dw Dx Dy Dz D0
        try clear Ea Eb Ec Ed Ee Ef Eg
        try clear Eo Ep Er Es Et Eu Ew
        try clear p2
        try clear p6
        try clear q041
        try clear q4
        try clear q41
        obtain ⟨kq, Ac, HA, HJ42, Aa, Ab, Ad, HB⟩ := hcut
        cases kq with
        | zero => exact absurd HA.out (by simp [garnerref23_Reset.j3])
        | succ kj42 =>
         have H := HA.out
         clear HA
         simp only [garnerref23_Reset.j3] at H
         replace H := Option.bind_eq_some_iff.mp H
         obtain ⟨t371, A500, H⟩ := H
         replace H : (if Ac > t371 then ((garnerref23_Last.f a1 a2 Ah a0_3 a0_4 Ac a1).bind fun t372 => (if a0_3 < a2 then (some (a1, a2, Ah, a2, 0, t372, a1, 0)) else (some (a1, a2, Ah, a0_3, a0_4, t372, a1, 0)))) else (if a0_3 < a2 then (some (a1, a2, Ah, a2, 0, Ac, a1, 0)) else (some (a1, a2, Ah, a0_3, a0_4, Ac, a1, 0)))) = some (r1, r2, r3, r4, r5, r6, r7, r8) := H
         have A50 := Am A500
         clear A500
         by_cases c51 : Ac > t371
         ·rw [if_pos c51] at H
          have c51b0 : decide (t371 < Ac) = true := decide_eq_true c51
          clear c51
          replace H := Option.bind_eq_some_iff.mp H
          obtain ⟨t372, A520, H⟩ := H
          replace H : (if a0_3 < a2 then (some (a1, a2, Ah, a2, 0, t372, a1, 0)) else (some (a1, a2, Ah, a0_3, a0_4, t372, a1, 0))) = some (r1, r2, r3, r4, r5, r6, r7, r8) := H
          have A52 := Am A520
          clear A520
          by_cases c53 : a0_3 < a2
          ·rw [if_pos c53] at H
           have c53b0 : decide (a0_3 < a2) = true := decide_eq_true c53
           clear c53
           simp only [Option.some.injEq, Prod.mk.injEq] at H
           obtain ⟨rfl, rfl, rfl, rfl, rfl, rfl, rfl, rfl⟩ := H
           try go_wp2
           replace Aa := dNa Aa
           replace Ab := kDa Ab
           replace Ad := kDa Ad
           replace HB := bDa HB
           refine start_ (n := 6) (S := fun w' => cG w' Ae 0 (.int .i64 a1) ∧ cG w' Ae 1 (.int .i64 a2) ∧ cG w' Ae 2 (.slice Ao Ah.length Ap) ∧ cG w' Ae 3 (.int .i64 a0_3) ∧ cG w' Ae 4 (.int .i64 a0_4) ∧ cG w' Ae 5 (.int .i64 Ac) ∧ cG w' Ae 6 (.int .i64 a1)) (ds := []) #[false, false, false, false, false, false] (by kernel_rfl) rfl rfl ⟨(blk_cell Ab.out 0).trans rfl, (blk_cell Ab.out 1).trans rfl, (blk_cell Ab.out 2).trans rfl, (blk_cell Ab.out 3).trans rfl, (blk_cell Ab.out 4).trans rfl, (blk_cell Ab.out 5).trans rfl, (blk_cell Ab.out 6).trans rfl⟩ (fun hHeld => ?_)
           (first | generalize wc.drew = w54 at Aa Ab Ad HB hHeld ⊢ | generalize wc.drew = w54 at Ab Ad HB hHeld ⊢)
           refine pure_ (i := 0) (N := some 60) (v := ?_) (a' := ?_) (bw 6 1) rfl rfl (by kernel_rfl) (fun _ _ _ h => h) (Or.inl ⟨by rfl, ?_⟩) ?_ ?_
           rotate_left
           ·intro w'
            go_simp
            with_reducible rfl
           rotate_left
           ·simp only [Act.put, List.setIfInBounds_toArray, List.set_cons_zero, List.set_cons_succ, i64_w, i32_w]
            rfl
           refine pure_ (i := 1) (N := some 61) (v := ?_) (a' := ?_) (bw 6 3) rfl rfl (by kernel_rfl) (fun _ _ _ h => h) (Or.inl ⟨by rfl, ?_⟩) ?_ ?_
           rotate_left
           ·intro w'
            go_simp
            with_reducible rfl
           rotate_left
           ·simp only [Act.put, List.setIfInBounds_toArray, List.set_cons_zero, List.set_cons_succ, i64_w, i32_w]
            rfl
           refine take_ (i := 2) (N := some 62) (v := ?_) (a' := ?_) (bw 6 7) rfl rfl (by kernel_rfl) (fun _ _ _ h => h) (Or.inl ⟨by rfl, ?_⟩) hHeld ?_ ?_
           rotate_left
           ·rintro w' ⟨s0, s1, s2, s3, s4, s5, s6⟩
            go_simp
            with_reducible rfl
           rotate_left
           ·simp only [Act.put, List.setIfInBounds_toArray, List.set_cons_zero, List.set_cons_succ, i64_w, i32_w]
            rfl
           refine take_ (i := 3) (N := some 63) (v := ?_) (a' := ?_) (bw 6 15) rfl rfl (by kernel_rfl) (fun _ _ _ h => h) (Or.inl ⟨by rfl, ?_⟩) hHeld ?_ ?_
           rotate_left
           ·rintro w' ⟨s0, s1, s2, s3, s4, s5, s6⟩
            go_simp
            with_reducible rfl
           rotate_left
           ·simp only [Act.put, List.setIfInBounds_toArray, List.set_cons_zero, List.set_cons_succ, i64_w, i32_w]
            rfl
           refine one_ (i := 4) (N := some 64) (bw 6 31) rfl rfl (by kernel_rfl) (by decide) (fun K hK => ?_)
           refine goes_ Try.func29 (by kernel_rfl) rfl #[.agg #[.int .i64 a1, .int .i64 a2, .slice Ao Ah.length Ap, .int .i64 a0_3, .int .i64 a0_4, .int .i64 Ac, .int .i64 a1]] (by rfl) rfl rfl pL ?_
           with_reducible refine (garnerref23_Last.calls a1 a2 _ _ Ah a0_3 a0_4 Ac a1 t371 _ ?Al ?An A50.out).mono ?_
           (case Al => exact pC (Kd.N_reads' Aa.out).2.2)
           (case An => exact (Kd.N_reads' Aa.out).2.1)
           rintro e w55 ⟨rfl, hb⟩
           refine ⟨_, rfl, ?_⟩
           replace Aa := bNa Aa hb
           replace Ab := kBa Ab hb
           replace Ad := kBa Ad hb
           replace HB := Am (below_step (pE2 HB.out Ai.out Ak.out) hb)
           (try clear hb)
           (try clear hb2)
           (try clear hk)
           (try clear hi)
           refine hK.out _ _ ⟨(blk_cell Ab.out 0).trans rfl, (blk_cell Ab.out 1).trans rfl, (blk_cell Ab.out 2).trans rfl, (blk_cell Ab.out 3).trans rfl, (blk_cell Ab.out 4).trans rfl, (blk_cell Ab.out 5).trans rfl, (blk_cell Ab.out 6).trans rfl⟩ (fun hHeld => ?_)
           clear hK K
           refine norm_ (a' := ?_) ?_ ?_
           rotate_left
           ·show Act.put _ (some 64) _ = _
            simp only [Act.put, List.setIfInBounds_toArray, List.set_cons_zero, List.set_cons_succ, i64_w, i32_w]
            rfl
           refine pure_ (i := 5) (N := some 65) (v := ?_) (a' := ?_) (bw 6 63) rfl rfl (by kernel_rfl) (fun _ _ _ h => h) (Or.inl ⟨by rfl, ?_⟩) ?_ ?_
           rotate_left
           ·intro w'
            go_simp
            with_reducible rfl
           rotate_left
           ·simp only [Act.put, List.setIfInBounds_toArray, List.set_cons_zero, List.set_cons_succ, i64_w, i32_w]
            rfl
           refine done_ (by kernel_rfl) ?_
           have hnb56 := Aj.out
           have hnc56 := Af.out
           obtain ⟨_, _, _, _, _, _, _⟩ := bc7 Ab.out
           obtain ⟨_, _, _, _, _, _, _⟩ := bf7 Ab.out
           try go_wp2_with (first | ((with_reducible refine gate_callee (f := 29) rfl ?_); refine goesL_ (some 67) rfl rfl Try.func29 (by kernel_rfl) rfl #[.agg #[.int .i64 a1, .int .i64 a2, .slice Ao Ah.length Ap, .int .i64 a0_3, .int .i64 a0_4, .int .i64 Ac, .int .i64 a1]] rfl pL ?_; (with_reducible refine (garnerref23_Last.calls a1 a2 _ _ Ah a0_3 a0_4 Ac a1 t372 _ ?Al ?An A52.out).mono ?_); (case Al => exact pC (Kd.N_reads' Aa.out).2.2); (case An => exact (Kd.N_reads' Aa.out).2.1); rintro e w58 ⟨rfl, hb⟩; refine ⟨_, rfl, ?_⟩; replace Aa := bNa Aa hb; replace Ab := kBa Ab hb; replace Ad := kBa Ad hb; replace HB := Am (below_step (pE2 HB.out Ai.out Ak.out) hb); (try clear hb); (try clear hb2); (try clear hk); (try clear hi); obtain ⟨_, _, _, _, _, _, _⟩ := bc7 Ab.out; obtain ⟨_, _, _, _, _, _, _⟩ := bf7 Ab.out; obtain ⟨_, _, _, _, _, _, _⟩ := bc7 Ad.out; obtain ⟨_, _, _, _, _, _, _⟩ := bf7 Ad.out))
           refine bodyPost_ret (results_ct rfl _ _ Ag 26 #[.int .i64 a1, .int .i64 a2, .slice Ao Ah.length Ap, .int .i64 a2, .int .i64 0, .int .i64 t372, .int .i64 a1] (0, 0) _ rfl (kX1 Ad.out Af.out) Try.underlying26 rfl (by kernel_rfl)) rfl ?_
           exact ⟨_, pX, by (with_reducible repeat (first | apply Kd.N_alloc | apply Kd.N_drewN | apply Kd.N_drew)); have h0_ := Kd.N_mono (Kd.N_mono Aa.out (fun k_ hk => (⟨hk, hk.2.1⟩ : _ ∧ k_ ≠ Ae))) (fun k_ hk => (⟨hk, hk.1.2.2⟩ : _ ∧ k_ ≠ Ag)); have h1_ := Kd.N_far (p := ⟨Ae, 5, none⟩) h0_ (fun _ hk => hk.1.2) (.int .i64 t372); have h2_ := Kd.N_far (p := ⟨Ae, 3, none⟩) h1_ (fun _ hk => hk.1.2) (.int .i64 a2); have h3_ := Kd.N_far (p := ⟨Ae, 4, none⟩) h2_ (fun _ hk => hk.1.2) (.int .i64 0); exact Kd.N_mono (Nf7 (g := Ag) (h3_) (fun _ hk => hk.2)) (fun _ hk => hk.1.1.1), pE2 HB.out Ai.out Ak.out⟩
          rw [if_neg c53] at H
          have c53b0 : decide (a0_3 < a2) = false := decide_eq_false c53
          clear c53
          simp only [Option.some.injEq, Prod.mk.injEq] at H
          obtain ⟨rfl, rfl, rfl, rfl, rfl, rfl, rfl, rfl⟩ := H
          try go_wp2
          replace Aa := dNa Aa
          replace Ab := kDa Ab
          replace Ad := kDa Ad
          replace HB := bDa HB
          refine start_ (n := 6) (S := fun w' => cG w' Ae 0 (.int .i64 a1) ∧ cG w' Ae 1 (.int .i64 a2) ∧ cG w' Ae 2 (.slice Ao Ah.length Ap) ∧ cG w' Ae 3 (.int .i64 a0_3) ∧ cG w' Ae 4 (.int .i64 a0_4) ∧ cG w' Ae 5 (.int .i64 Ac) ∧ cG w' Ae 6 (.int .i64 a1)) (ds := []) #[false, false, false, false, false, false] (by kernel_rfl) rfl rfl ⟨(blk_cell Ab.out 0).trans rfl, (blk_cell Ab.out 1).trans rfl, (blk_cell Ab.out 2).trans rfl, (blk_cell Ab.out 3).trans rfl, (blk_cell Ab.out 4).trans rfl, (blk_cell Ab.out 5).trans rfl, (blk_cell Ab.out 6).trans rfl⟩ (fun hHeld => ?_)
          (first | generalize wc.drew = w61 at Aa Ab Ad HB hHeld ⊢ | generalize wc.drew = w61 at Ab Ad HB hHeld ⊢)
          refine pure_ (i := 0) (N := some 60) (v := ?_) (a' := ?_) (bw 6 1) rfl rfl (by kernel_rfl) (fun _ _ _ h => h) (Or.inl ⟨by rfl, ?_⟩) ?_ ?_
          rotate_left
          ·intro w'
           go_simp
           with_reducible rfl
          rotate_left
          ·simp only [Act.put, List.setIfInBounds_toArray, List.set_cons_zero, List.set_cons_succ, i64_w, i32_w]
           rfl
          refine pure_ (i := 1) (N := some 61) (v := ?_) (a' := ?_) (bw 6 3) rfl rfl (by kernel_rfl) (fun _ _ _ h => h) (Or.inl ⟨by rfl, ?_⟩) ?_ ?_
          rotate_left
          ·intro w'
           go_simp
           with_reducible rfl
          rotate_left
          ·simp only [Act.put, List.setIfInBounds_toArray, List.set_cons_zero, List.set_cons_succ, i64_w, i32_w]
           rfl
          refine take_ (i := 2) (N := some 62) (v := ?_) (a' := ?_) (bw 6 7) rfl rfl (by kernel_rfl) (fun _ _ _ h => h) (Or.inl ⟨by rfl, ?_⟩) hHeld ?_ ?_
          rotate_left
          ·rintro w' ⟨s0, s1, s2, s3, s4, s5, s6⟩
           go_simp
           with_reducible rfl
          rotate_left
          ·simp only [Act.put, List.setIfInBounds_toArray, List.set_cons_zero, List.set_cons_succ, i64_w, i32_w]
           rfl
          refine take_ (i := 3) (N := some 63) (v := ?_) (a' := ?_) (bw 6 15) rfl rfl (by kernel_rfl) (fun _ _ _ h => h) (Or.inl ⟨by rfl, ?_⟩) hHeld ?_ ?_
          rotate_left
          ·rintro w' ⟨s0, s1, s2, s3, s4, s5, s6⟩
           go_simp
           with_reducible rfl
          rotate_left
          ·simp only [Act.put, List.setIfInBounds_toArray, List.set_cons_zero, List.set_cons_succ, i64_w, i32_w]
           rfl
          refine one_ (i := 4) (N := some 64) (bw 6 31) rfl rfl (by kernel_rfl) (by decide) (fun K hK => ?_)
          refine goes_ Try.func29 (by kernel_rfl) rfl #[.agg #[.int .i64 a1, .int .i64 a2, .slice Ao Ah.length Ap, .int .i64 a0_3, .int .i64 a0_4, .int .i64 Ac, .int .i64 a1]] (by rfl) rfl rfl pL ?_
          with_reducible refine (garnerref23_Last.calls a1 a2 _ _ Ah a0_3 a0_4 Ac a1 t371 _ ?Al ?An A50.out).mono ?_
          (case Al => exact pC (Kd.N_reads' Aa.out).2.2)
          (case An => exact (Kd.N_reads' Aa.out).2.1)
          rintro e w62 ⟨rfl, hb⟩
          refine ⟨_, rfl, ?_⟩
          replace Aa := bNa Aa hb
          replace Ab := kBa Ab hb
          replace Ad := kBa Ad hb
          replace HB := Am (below_step (pE2 HB.out Ai.out Ak.out) hb)
          (try clear hb)
          (try clear hb2)
          (try clear hk)
          (try clear hi)
          refine hK.out _ _ ⟨(blk_cell Ab.out 0).trans rfl, (blk_cell Ab.out 1).trans rfl, (blk_cell Ab.out 2).trans rfl, (blk_cell Ab.out 3).trans rfl, (blk_cell Ab.out 4).trans rfl, (blk_cell Ab.out 5).trans rfl, (blk_cell Ab.out 6).trans rfl⟩ (fun hHeld => ?_)
          clear hK K
          refine norm_ (a' := ?_) ?_ ?_
          rotate_left
          ·show Act.put _ (some 64) _ = _
           simp only [Act.put, List.setIfInBounds_toArray, List.set_cons_zero, List.set_cons_succ, i64_w, i32_w]
           rfl
          refine pure_ (i := 5) (N := some 65) (v := ?_) (a' := ?_) (bw 6 63) rfl rfl (by kernel_rfl) (fun _ _ _ h => h) (Or.inl ⟨by rfl, ?_⟩) ?_ ?_
          rotate_left
          ·intro w'
           go_simp
           with_reducible rfl
          rotate_left
          ·simp only [Act.put, List.setIfInBounds_toArray, List.set_cons_zero, List.set_cons_succ, i64_w, i32_w]
           rfl
          refine done_ (by kernel_rfl) ?_
          have hnb63 := Aj.out
          have hnc63 := Af.out
          obtain ⟨_, _, _, _, _, _, _⟩ := bc7 Ab.out
          obtain ⟨_, _, _, _, _, _, _⟩ := bf7 Ab.out
          try go_wp2_with (first | ((with_reducible refine gate_callee (f := 29) rfl ?_); refine goesL_ (some 67) rfl rfl Try.func29 (by kernel_rfl) rfl #[.agg #[.int .i64 a1, .int .i64 a2, .slice Ao Ah.length Ap, .int .i64 a0_3, .int .i64 a0_4, .int .i64 Ac, .int .i64 a1]] rfl pL ?_; (with_reducible refine (garnerref23_Last.calls a1 a2 _ _ Ah a0_3 a0_4 Ac a1 t372 _ ?Al ?An A52.out).mono ?_); (case Al => exact pC (Kd.N_reads' Aa.out).2.2); (case An => exact (Kd.N_reads' Aa.out).2.1); rintro e w65 ⟨rfl, hb⟩; refine ⟨_, rfl, ?_⟩; replace Aa := bNa Aa hb; replace Ab := kBa Ab hb; replace Ad := kBa Ad hb; replace HB := Am (below_step (pE2 HB.out Ai.out Ak.out) hb); (try clear hb); (try clear hb2); (try clear hk); (try clear hi); obtain ⟨_, _, _, _, _, _, _⟩ := bc7 Ab.out; obtain ⟨_, _, _, _, _, _, _⟩ := bf7 Ab.out; obtain ⟨_, _, _, _, _, _, _⟩ := bc7 Ad.out; obtain ⟨_, _, _, _, _, _, _⟩ := bf7 Ad.out))
          refine bodyPost_ret (results_ct rfl _ _ Ag 26 #[.int .i64 a1, .int .i64 a2, .slice Ao Ah.length Ap, .int .i64 a0_3, .int .i64 a0_4, .int .i64 t372, .int .i64 a1] (0, 0) _ rfl (kX1 Ad.out Af.out) Try.underlying26 rfl (by kernel_rfl)) rfl ?_
          exact ⟨_, pX, by (with_reducible repeat (first | apply Kd.N_alloc | apply Kd.N_drewN | apply Kd.N_drew)); exact Kd.N_mono (Nf7 (g := Ag) (Kd.N_far (p := ⟨Ae, 5, none⟩) (Kd.N_mono (Kd.N_mono Aa.out (fun k_ hk => (⟨hk, hk.2.1⟩ : _ ∧ k_ ≠ Ae))) (fun k_ hk => (⟨hk, hk.1.2.2⟩ : _ ∧ k_ ≠ Ag))) (fun _ hk => hk.1.2) (.int .i64 t372)) (fun _ hk => hk.2)) (fun _ hk => hk.1.1.1), pE2 HB.out Ai.out Ak.out⟩
         rw [if_neg c51] at H
         have c51b0 : decide (t371 < Ac) = false := decide_eq_false c51
         clear c51
         by_cases c68 : a0_3 < a2
         ·rw [if_pos c68] at H
          have c68b0 : decide (a0_3 < a2) = true := decide_eq_true c68
          clear c68
          simp only [Option.some.injEq, Prod.mk.injEq] at H
          obtain ⟨rfl, rfl, rfl, rfl, rfl, rfl, rfl, rfl⟩ := H
          try go_wp2
          replace Aa := dNa Aa
          replace Ab := kDa Ab
          replace Ad := kDa Ad
          replace HB := bDa HB
          refine start_ (n := 6) (S := fun w' => cG w' Ae 0 (.int .i64 a1) ∧ cG w' Ae 1 (.int .i64 a2) ∧ cG w' Ae 2 (.slice Ao Ah.length Ap) ∧ cG w' Ae 3 (.int .i64 a0_3) ∧ cG w' Ae 4 (.int .i64 a0_4) ∧ cG w' Ae 5 (.int .i64 Ac) ∧ cG w' Ae 6 (.int .i64 a1)) (ds := []) #[false, false, false, false, false, false] (by kernel_rfl) rfl rfl ⟨(blk_cell Ab.out 0).trans rfl, (blk_cell Ab.out 1).trans rfl, (blk_cell Ab.out 2).trans rfl, (blk_cell Ab.out 3).trans rfl, (blk_cell Ab.out 4).trans rfl, (blk_cell Ab.out 5).trans rfl, (blk_cell Ab.out 6).trans rfl⟩ (fun hHeld => ?_)
          (first | generalize wc.drew = w69 at Aa Ab Ad HB hHeld ⊢ | generalize wc.drew = w69 at Ab Ad HB hHeld ⊢)
          refine pure_ (i := 0) (N := some 60) (v := ?_) (a' := ?_) (bw 6 1) rfl rfl (by kernel_rfl) (fun _ _ _ h => h) (Or.inl ⟨by rfl, ?_⟩) ?_ ?_
          rotate_left
          ·intro w'
           go_simp
           with_reducible rfl
          rotate_left
          ·simp only [Act.put, List.setIfInBounds_toArray, List.set_cons_zero, List.set_cons_succ, i64_w, i32_w]
           rfl
          refine pure_ (i := 1) (N := some 61) (v := ?_) (a' := ?_) (bw 6 3) rfl rfl (by kernel_rfl) (fun _ _ _ h => h) (Or.inl ⟨by rfl, ?_⟩) ?_ ?_
          rotate_left
          ·intro w'
           go_simp
           with_reducible rfl
          rotate_left
          ·simp only [Act.put, List.setIfInBounds_toArray, List.set_cons_zero, List.set_cons_succ, i64_w, i32_w]
           rfl
          refine take_ (i := 2) (N := some 62) (v := ?_) (a' := ?_) (bw 6 7) rfl rfl (by kernel_rfl) (fun _ _ _ h => h) (Or.inl ⟨by rfl, ?_⟩) hHeld ?_ ?_
          rotate_left
          ·rintro w' ⟨s0, s1, s2, s3, s4, s5, s6⟩
           go_simp
           with_reducible rfl
          rotate_left
          ·simp only [Act.put, List.setIfInBounds_toArray, List.set_cons_zero, List.set_cons_succ, i64_w, i32_w]
           rfl
          refine take_ (i := 3) (N := some 63) (v := ?_) (a' := ?_) (bw 6 15) rfl rfl (by kernel_rfl) (fun _ _ _ h => h) (Or.inl ⟨by rfl, ?_⟩) hHeld ?_ ?_
          rotate_left
          ·rintro w' ⟨s0, s1, s2, s3, s4, s5, s6⟩
           go_simp
           with_reducible rfl
          rotate_left
          ·simp only [Act.put, List.setIfInBounds_toArray, List.set_cons_zero, List.set_cons_succ, i64_w, i32_w]
           rfl
          refine one_ (i := 4) (N := some 64) (bw 6 31) rfl rfl (by kernel_rfl) (by decide) (fun K hK => ?_)
          refine goes_ Try.func29 (by kernel_rfl) rfl #[.agg #[.int .i64 a1, .int .i64 a2, .slice Ao Ah.length Ap, .int .i64 a0_3, .int .i64 a0_4, .int .i64 Ac, .int .i64 a1]] (by rfl) rfl rfl pL ?_
          with_reducible refine (garnerref23_Last.calls a1 a2 _ _ Ah a0_3 a0_4 Ac a1 t371 _ ?Al ?An A50.out).mono ?_
          (case Al => exact pC (Kd.N_reads' Aa.out).2.2)
          (case An => exact (Kd.N_reads' Aa.out).2.1)
          rintro e w70 ⟨rfl, hb⟩
          refine ⟨_, rfl, ?_⟩
          replace Aa := bNa Aa hb
          replace Ab := kBa Ab hb
          replace Ad := kBa Ad hb
          replace HB := Am (below_step (pE2 HB.out Ai.out Ak.out) hb)
          (try clear hb)
          (try clear hb2)
          (try clear hk)
          (try clear hi)
          refine hK.out _ _ ⟨(blk_cell Ab.out 0).trans rfl, (blk_cell Ab.out 1).trans rfl, (blk_cell Ab.out 2).trans rfl, (blk_cell Ab.out 3).trans rfl, (blk_cell Ab.out 4).trans rfl, (blk_cell Ab.out 5).trans rfl, (blk_cell Ab.out 6).trans rfl⟩ (fun hHeld => ?_)
          clear hK K
          refine norm_ (a' := ?_) ?_ ?_
          rotate_left
          ·show Act.put _ (some 64) _ = _
           simp only [Act.put, List.setIfInBounds_toArray, List.set_cons_zero, List.set_cons_succ, i64_w, i32_w]
           rfl
          refine pure_ (i := 5) (N := some 65) (v := ?_) (a' := ?_) (bw 6 63) rfl rfl (by kernel_rfl) (fun _ _ _ h => h) (Or.inl ⟨by rfl, ?_⟩) ?_ ?_
          rotate_left
          ·intro w'
           go_simp
           with_reducible rfl
          rotate_left
          ·simp only [Act.put, List.setIfInBounds_toArray, List.set_cons_zero, List.set_cons_succ, i64_w, i32_w]
           rfl
          refine done_ (by kernel_rfl) ?_
          have hnb71 := Aj.out
          have hnc71 := Af.out
          obtain ⟨_, _, _, _, _, _, _⟩ := bc7 Ab.out
          obtain ⟨_, _, _, _, _, _, _⟩ := bf7 Ab.out
          obtain ⟨_, _, _, _, _, _, _⟩ := bc7 Ad.out
          obtain ⟨_, _, _, _, _, _, _⟩ := bf7 Ad.out
          try go_wp2
          refine bodyPost_ret (results_ct rfl _ _ Ag 26 #[.int .i64 a1, .int .i64 a2, .slice Ao Ah.length Ap, .int .i64 a2, .int .i64 0, .int .i64 Ac, .int .i64 a1] (0, 0) _ rfl (kX1 Ad.out Af.out) Try.underlying26 rfl (by kernel_rfl)) rfl ?_
          exact ⟨_, pX, by (with_reducible repeat (first | apply Kd.N_alloc | apply Kd.N_drewN | apply Kd.N_drew)); have h0_ := Kd.N_mono (Kd.N_mono Aa.out (fun k_ hk => (⟨hk, hk.2.1⟩ : _ ∧ k_ ≠ Ae))) (fun k_ hk => (⟨hk, hk.1.2.2⟩ : _ ∧ k_ ≠ Ag)); have h1_ := Kd.N_far (p := ⟨Ae, 3, none⟩) h0_ (fun _ hk => hk.1.2) (.int .i64 a2); have h2_ := Kd.N_far (p := ⟨Ae, 4, none⟩) h1_ (fun _ hk => hk.1.2) (.int .i64 0); exact Kd.N_mono (Nf7 (g := Ag) (h2_) (fun _ hk => hk.2)) (fun _ hk => hk.1.1.1), pE2 HB.out Ai.out Ak.out⟩
         rw [if_neg c68] at H
         have c68b0 : decide (a0_3 < a2) = false := decide_eq_false c68
         clear c68
         simp only [Option.some.injEq, Prod.mk.injEq] at H
         obtain ⟨rfl, rfl, rfl, rfl, rfl, rfl, rfl, rfl⟩ := H
         try go_wp2
         replace Aa := dNa Aa
         replace Ab := kDa Ab
         replace Ad := kDa Ad
         replace HB := bDa HB
         refine start_ (n := 6) (S := fun w' => cG w' Ae 0 (.int .i64 a1) ∧ cG w' Ae 1 (.int .i64 a2) ∧ cG w' Ae 2 (.slice Ao Ah.length Ap) ∧ cG w' Ae 3 (.int .i64 a0_3) ∧ cG w' Ae 4 (.int .i64 a0_4) ∧ cG w' Ae 5 (.int .i64 Ac) ∧ cG w' Ae 6 (.int .i64 a1)) (ds := []) #[false, false, false, false, false, false] (by kernel_rfl) rfl rfl ⟨(blk_cell Ab.out 0).trans rfl, (blk_cell Ab.out 1).trans rfl, (blk_cell Ab.out 2).trans rfl, (blk_cell Ab.out 3).trans rfl, (blk_cell Ab.out 4).trans rfl, (blk_cell Ab.out 5).trans rfl, (blk_cell Ab.out 6).trans rfl⟩ (fun hHeld => ?_)
         (first | generalize wc.drew = w74 at Aa Ab Ad HB hHeld ⊢ | generalize wc.drew = w74 at Ab Ad HB hHeld ⊢)
         refine pure_ (i := 0) (N := some 60) (v := ?_) (a' := ?_) (bw 6 1) rfl rfl (by kernel_rfl) (fun _ _ _ h => h) (Or.inl ⟨by rfl, ?_⟩) ?_ ?_
         rotate_left
         ·intro w'
          go_simp
          with_reducible rfl
         rotate_left
         ·simp only [Act.put, List.setIfInBounds_toArray, List.set_cons_zero, List.set_cons_succ, i64_w, i32_w]
          rfl
         refine pure_ (i := 1) (N := some 61) (v := ?_) (a' := ?_) (bw 6 3) rfl rfl (by kernel_rfl) (fun _ _ _ h => h) (Or.inl ⟨by rfl, ?_⟩) ?_ ?_
         rotate_left
         ·intro w'
          go_simp
          with_reducible rfl
         rotate_left
         ·simp only [Act.put, List.setIfInBounds_toArray, List.set_cons_zero, List.set_cons_succ, i64_w, i32_w]
          rfl
         refine take_ (i := 2) (N := some 62) (v := ?_) (a' := ?_) (bw 6 7) rfl rfl (by kernel_rfl) (fun _ _ _ h => h) (Or.inl ⟨by rfl, ?_⟩) hHeld ?_ ?_
         rotate_left
         ·rintro w' ⟨s0, s1, s2, s3, s4, s5, s6⟩
          go_simp
          with_reducible rfl
         rotate_left
         ·simp only [Act.put, List.setIfInBounds_toArray, List.set_cons_zero, List.set_cons_succ, i64_w, i32_w]
          rfl
         refine take_ (i := 3) (N := some 63) (v := ?_) (a' := ?_) (bw 6 15) rfl rfl (by kernel_rfl) (fun _ _ _ h => h) (Or.inl ⟨by rfl, ?_⟩) hHeld ?_ ?_
         rotate_left
         ·rintro w' ⟨s0, s1, s2, s3, s4, s5, s6⟩
          go_simp
          with_reducible rfl
         rotate_left
         ·simp only [Act.put, List.setIfInBounds_toArray, List.set_cons_zero, List.set_cons_succ, i64_w, i32_w]
          rfl
         refine one_ (i := 4) (N := some 64) (bw 6 31) rfl rfl (by kernel_rfl) (by decide) (fun K hK => ?_)
         refine goes_ Try.func29 (by kernel_rfl) rfl #[.agg #[.int .i64 a1, .int .i64 a2, .slice Ao Ah.length Ap, .int .i64 a0_3, .int .i64 a0_4, .int .i64 Ac, .int .i64 a1]] (by rfl) rfl rfl pL ?_
         with_reducible refine (garnerref23_Last.calls a1 a2 _ _ Ah a0_3 a0_4 Ac a1 t371 _ ?Al ?An A50.out).mono ?_
         (case Al => exact pC (Kd.N_reads' Aa.out).2.2)
         (case An => exact (Kd.N_reads' Aa.out).2.1)
         rintro e w75 ⟨rfl, hb⟩
         refine ⟨_, rfl, ?_⟩
         replace Aa := bNa Aa hb
         replace Ab := kBa Ab hb
         replace Ad := kBa Ad hb
         replace HB := Am (below_step (pE2 HB.out Ai.out Ak.out) hb)
         (try clear hb)
         (try clear hb2)
         (try clear hk)
         (try clear hi)
         refine hK.out _ _ ⟨(blk_cell Ab.out 0).trans rfl, (blk_cell Ab.out 1).trans rfl, (blk_cell Ab.out 2).trans rfl, (blk_cell Ab.out 3).trans rfl, (blk_cell Ab.out 4).trans rfl, (blk_cell Ab.out 5).trans rfl, (blk_cell Ab.out 6).trans rfl⟩ (fun hHeld => ?_)
         clear hK K
         refine norm_ (a' := ?_) ?_ ?_
         rotate_left
         ·show Act.put _ (some 64) _ = _
          simp only [Act.put, List.setIfInBounds_toArray, List.set_cons_zero, List.set_cons_succ, i64_w, i32_w]
          rfl
         refine pure_ (i := 5) (N := some 65) (v := ?_) (a' := ?_) (bw 6 63) rfl rfl (by kernel_rfl) (fun _ _ _ h => h) (Or.inl ⟨by rfl, ?_⟩) ?_ ?_
         rotate_left
         ·intro w'
          go_simp
          with_reducible rfl
         rotate_left
         ·simp only [Act.put, List.setIfInBounds_toArray, List.set_cons_zero, List.set_cons_succ, i64_w, i32_w]
          rfl
         refine done_ (by kernel_rfl) ?_
         have hnb76 := Aj.out
         have hnc76 := Af.out
         obtain ⟨_, _, _, _, _, _, _⟩ := bc7 Ab.out
         obtain ⟨_, _, _, _, _, _, _⟩ := bf7 Ab.out
         obtain ⟨_, _, _, _, _, _, _⟩ := bc7 Ad.out
         obtain ⟨_, _, _, _, _, _, _⟩ := bf7 Ad.out
         try go_wp2
         refine bodyPost_ret (results_ct rfl _ _ Ag 26 #[.int .i64 a1, .int .i64 a2, .slice Ao Ah.length Ap, .int .i64 a0_3, .int .i64 a0_4, .int .i64 Ac, .int .i64 a1] (0, 0) _ rfl (kX0 Ad.out) Try.underlying26 rfl (by kernel_rfl)) rfl ?_
         exact ⟨_, pX, by (with_reducible repeat (first | apply Kd.N_alloc | apply Kd.N_drewN | apply Kd.N_drew)); exact Kd.N_mono (Nf7 (g := Ag) (Kd.N_mono Aa.out (fun k_ hk => (⟨hk, hk.2.2⟩ : _ ∧ k_ ≠ Ag))) (fun _ hk => hk.2)) (fun _ hk => hk.1.1), pE2 HB.out Ai.out Ak.out⟩
end Go.Proofs.Ytangfpcifdpfeaa.PRaftTurns
