/- What the law reaches, as plain Lean functions, and that the machine's calls answer just that. -/
import Derived.Test.YtjebpaahpehfnaaPRelayPutsx0
namespace Go.Proofs.Ytjebpaahpehfnaa.PRelayPuts
open Go.RowKit Go.Proofs.YtjebpaahpehfnaaW.PrintWords Go.Proofs.YtjebpaahpehfnaaW.PrintLast Go.Proofs.YtjebpaahpehfnaaW.PrintMore
attribute [local go_sem] max2_int min2_int max_two min_two max_three min_three max_four min_four
set_option linter.unusedVariables false
set_option linter.unusedSimpArgs false
attribute [local go_sem] wrap64_l1 wrap64_l2 wrap64_l3 wrap64_l4 wrap64_l5
def point_Check.f (a0_0 : Int) (a0_1 : Int) (a0_2 : Int) (a0_3 : Int) : Option (Int) := if a0_0 < 1 then (some 1) else (if a0_0 > 2147483647 then (some 1) else (if a0_1 < 0 then (some 1) else (if a0_1 > 2147483647 then (some 1) else (if a0_2 < 0 then (some 1) else (if a0_2 > 4096 then (some 1) else (some 0))))))
set_option maxHeartbeats 8000000 in
set_option maxRecDepth 100000 in
theorem point_Check.calls (a0_0 : Int) (a0_1 : Int) (a0_2 : Int) (a0_3 : Int) (r : Int) (w : World) (h : point_Check.f a0_0 a0_1 a0_2 a0_3 = some r) :
  Calls Try.prog 34 #[.agg #[.int .i64 a0_0, .int .i64 a0_1, .int .i64 a0_2, .int .u32 a0_3]] w fun e w' => e = .returned (.int .i64 r) ∧ Below w.heap.size w w' := by
 have hu44 := Try.underlying44
 have HB := Am (Below.refl w.heap.size w)
 have H : (if a0_0 < 1 then (some 1) else (if a0_0 > 2147483647 then (some 1) else (if a0_1 < 0 then (some 1) else (if a0_1 > 2147483647 then (some 1) else (if a0_2 < 0 then (some 1) else (if a0_2 > 4096 then (some 1) else (some 0))))))) = some r := h
 clear h
 by_cases c2 : a0_0 < 1
 ·rw [if_pos c2] at H
  have c2b0 : decide (a0_0 < 1) = true := decide_eq_true c2
  clear c2
  obtain rfl := Option.some.inj H
  go_enter Try.func34, Try.ntmps34
  go_wp2_with (first | ((with_reducible refine gate_dst (N := 1) rfl ?_); refine box_event ?hg (N := 1) ?hd (cs := #[.int .i64 a0_0, .int .i64 a0_1, .int .i64 a0_2, .int .u32 a0_3]) (t := 44) ?hr ?_; (case hd => rfl); (case hg => rfl); (case hr => first | (go_simp; done) | (go_simp; rfl)); intro Ab hg w3 hbox hb; have Aa := Am (hbox); have Ac := Am ((by rw [hg]; exact (below_size (pB HB.out)) : w.heap.size ≤ Ab)); replace HB := Am (below_step (pB HB.out) hb); have Ad := Ac; clear hb hbox hg; obtain ⟨_, _, _, _⟩ := bc4 Aa.out; obtain ⟨_, _, _, _⟩ := bf4 Aa.out))
  go_ret
  exact ⟨pX, pE HB.out Ad.out⟩
 rw [if_neg c2] at H
 have c2b0 : decide (a0_0 < 1) = false := decide_eq_false c2
 clear c2
 by_cases c5 : a0_0 > 2147483647
 ·rw [if_pos c5] at H
  have c5b0 : decide (2147483647 < a0_0) = true := decide_eq_true c5
  clear c5
  obtain rfl := Option.some.inj H
  go_enter Try.func34, Try.ntmps34
  go_wp2_with (first | ((with_reducible refine gate_dst (N := 1) rfl ?_); refine box_event ?hg (N := 1) ?hd (cs := #[.int .i64 a0_0, .int .i64 a0_1, .int .i64 a0_2, .int .u32 a0_3]) (t := 44) ?hr ?_; (case hd => rfl); (case hg => rfl); (case hr => first | (go_simp; done) | (go_simp; rfl)); intro Ab hg w6 hbox hb; have Aa := Am (hbox); have Ac := Am ((by rw [hg]; exact (below_size (pB HB.out)) : w.heap.size ≤ Ab)); replace HB := Am (below_step (pB HB.out) hb); have Ad := Ac; clear hb hbox hg; obtain ⟨_, _, _, _⟩ := bc4 Aa.out; obtain ⟨_, _, _, _⟩ := bf4 Aa.out))
  go_ret
  exact ⟨pX, pE HB.out Ad.out⟩
 rw [if_neg c5] at H
 have c5b0 : decide (2147483647 < a0_0) = false := decide_eq_false c5
 clear c5
 by_cases c8 : a0_1 < 0
 ·rw [if_pos c8] at H
  have c8b0 : decide (a0_1 < 0) = true := decide_eq_true c8
  clear c8
  obtain rfl := Option.some.inj H
  go_enter Try.func34, Try.ntmps34
  go_wp2_with (first | ((with_reducible refine gate_dst (N := 1) rfl ?_); refine box_event ?hg (N := 1) ?hd (cs := #[.int .i64 a0_0, .int .i64 a0_1, .int .i64 a0_2, .int .u32 a0_3]) (t := 44) ?hr ?_; (case hd => rfl); (case hg => rfl); (case hr => first | (go_simp; done) | (go_simp; rfl)); intro Ab hg w9 hbox hb; have Aa := Am (hbox); have Ac := Am ((by rw [hg]; exact (below_size (pB HB.out)) : w.heap.size ≤ Ab)); replace HB := Am (below_step (pB HB.out) hb); have Ad := Ac; clear hb hbox hg; obtain ⟨_, _, _, _⟩ := bc4 Aa.out; obtain ⟨_, _, _, _⟩ := bf4 Aa.out))
  go_ret
  exact ⟨pX, pE HB.out Ad.out⟩
 rw [if_neg c8] at H
 have c8b0 : decide (a0_1 < 0) = false := decide_eq_false c8
 clear c8
 by_cases c11 : a0_1 > 2147483647
 ·rw [if_pos c11] at H
  have c11b0 : decide (2147483647 < a0_1) = true := decide_eq_true c11
  clear c11
  obtain rfl := Option.some.inj H
  go_enter Try.func34, Try.ntmps34
  go_wp2_with (first | ((with_reducible refine gate_dst (N := 1) rfl ?_); refine box_event ?hg (N := 1) ?hd (cs := #[.int .i64 a0_0, .int .i64 a0_1, .int .i64 a0_2, .int .u32 a0_3]) (t := 44) ?hr ?_; (case hd => rfl); (case hg => rfl); (case hr => first | (go_simp; done) | (go_simp; rfl)); intro Ab hg w12 hbox hb; have Aa := Am (hbox); have Ac := Am ((by rw [hg]; exact (below_size (pB HB.out)) : w.heap.size ≤ Ab)); replace HB := Am (below_step (pB HB.out) hb); have Ad := Ac; clear hb hbox hg; obtain ⟨_, _, _, _⟩ := bc4 Aa.out; obtain ⟨_, _, _, _⟩ := bf4 Aa.out))
  go_ret
  exact ⟨pX, pE HB.out Ad.out⟩
 rw [if_neg c11] at H
 have c11b0 : decide (2147483647 < a0_1) = false := decide_eq_false c11
 clear c11
 by_cases c14 : a0_2 < 0
 ·rw [if_pos c14] at H
  have c14b0 : decide (a0_2 < 0) = true := decide_eq_true c14
  clear c14
  obtain rfl := Option.some.inj H
  go_enter Try.func34, Try.ntmps34
  go_wp2_with (first | ((with_reducible refine gate_dst (N := 1) rfl ?_); refine box_event ?hg (N := 1) ?hd (cs := #[.int .i64 a0_0, .int .i64 a0_1, .int .i64 a0_2, .int .u32 a0_3]) (t := 44) ?hr ?_; (case hd => rfl); (case hg => rfl); (case hr => first | (go_simp; done) | (go_simp; rfl)); intro Ab hg w15 hbox hb; have Aa := Am (hbox); have Ac := Am ((by rw [hg]; exact (below_size (pB HB.out)) : w.heap.size ≤ Ab)); replace HB := Am (below_step (pB HB.out) hb); have Ad := Ac; clear hb hbox hg; obtain ⟨_, _, _, _⟩ := bc4 Aa.out; obtain ⟨_, _, _, _⟩ := bf4 Aa.out))
  go_ret
  exact ⟨pX, pE HB.out Ad.out⟩
 rw [if_neg c14] at H
 have c14b0 : decide (a0_2 < 0) = false := decide_eq_false c14
 clear c14
 by_cases c17 : a0_2 > 4096
 ·rw [if_pos c17] at H
  have c17b0 : decide (4096 < a0_2) = true := decide_eq_true c17
  clear c17
  obtain rfl := Option.some.inj H
  go_enter Try.func34, Try.ntmps34
  go_wp2_with (first | ((with_reducible refine gate_dst (N := 1) rfl ?_); refine box_event ?hg (N := 1) ?hd (cs := #[.int .i64 a0_0, .int .i64 a0_1, .int .i64 a0_2, .int .u32 a0_3]) (t := 44) ?hr ?_; (case hd => rfl); (case hg => rfl); (case hr => first | (go_simp; done) | (go_simp; rfl)); intro Ab hg w18 hbox hb; have Aa := Am (hbox); have Ac := Am ((by rw [hg]; exact (below_size (pB HB.out)) : w.heap.size ≤ Ab)); replace HB := Am (below_step (pB HB.out) hb); have Ad := Ac; clear hb hbox hg; obtain ⟨_, _, _, _⟩ := bc4 Aa.out; obtain ⟨_, _, _, _⟩ := bf4 Aa.out))
  go_ret
  exact ⟨pX, pE HB.out Ad.out⟩
 rw [if_neg c17] at H
 have c17b0 : decide (4096 < a0_2) = false := decide_eq_false c17
 clear c17
 obtain rfl := Option.some.inj H
 go_enter Try.func34, Try.ntmps34
 go_wp2_with (first | ((with_reducible refine gate_dst (N := 1) rfl ?_); refine box_event ?hg (N := 1) ?hd (cs := #[.int .i64 a0_0, .int .i64 a0_1, .int .i64 a0_2, .int .u32 a0_3]) (t := 44) ?hr ?_; (case hd => rfl); (case hg => rfl); (case hr => first | (go_simp; done) | (go_simp; rfl)); intro Ab hg w20 hbox hb; have Aa := Am (hbox); have Ac := Am ((by rw [hg]; exact (below_size (pB HB.out)) : w.heap.size ≤ Ab)); replace HB := Am (below_step (pB HB.out) hb); have Ad := Ac; clear hb hbox hg; obtain ⟨_, _, _, _⟩ := bc4 Aa.out; obtain ⟨_, _, _, _⟩ := bf4 Aa.out))
 go_ret
 exact ⟨pX, pE HB.out Ad.out⟩
mutual
def relay_may.j0 : Nat → Int → List (S46) → Bool → Option (Bool)
 | 0, _, _, _ => none
 | k + 1, x0, x1, x18 => if x18 = true then (some false) else (relay_may.l0 k x0 (-1) x1 (x1.length : Int) 0)
def relay_may.l0 : Nat → Int → Int → List (S46) → Int → Int → Option (Bool)
 | 0, _, _, _, _, _ => none
 | k + 1, x0, x5, x19, x20, x21 => if x21 < x20 then (if 0 ≤ x21 then (if x21 < (x19.length : Int) then (if ((rd_T46 x19 x21).f0) ≤ x5 then (some false) else (if ((rd_T46 x19 x21).f0) > 2147483647 then (some false) else ((point_Check.f ((rd_T46 x19 x21).f1.f0) ((rd_T46 x19 x21).f1.f1) ((rd_T46 x19 x21).f1.f2) ((rd_T46 x19 x21).f1.f3)).bind fun t104 => (if t104 = 0 then (if ((rd_T46 x19 x21).f1.f0) ≤ x0 then (some false) else (relay_may.l0 k x0 ((rd_T46 x19 x21).f0) x19 x20 (wrap64 (x21 + 1)))) else (some false))))) else (none)) else (none)) else (some true)
end
def relay_may.f (k : Nat) (a0 : Int) (l1 : List (S46)) : Option (Bool) := if a0 < 1 then (relay_may.j0 k a0 l1 true) else (if a0 > 2147483647 then (relay_may.j0 k a0 l1 true) else (relay_may.j0 k a0 l1 (decide ((l1.length : Int) > 16384))))
theorem relay_may.mono_l : ∀ k, (∀ y0 y1 y2, LeO (relay_may.j0 k y0 y1 y2) (relay_may.j0 (k + 1) y0 y1 y2)) ∧ (∀ y0 y1 y2 y3 y4, LeO (relay_may.l0 k y0 y1 y2 y3 y4) (relay_may.l0 (k + 1) y0 y1 y2 y3 y4))
 | 0 => ⟨fun _ _ _ r h => by simp [relay_may.j0] at h, fun _ _ _ _ _ r h => by simp [relay_may.l0] at h⟩
 | k + 1 => by
  obtain ⟨ih0, ih1⟩ := relay_may.mono_l k
  refine ⟨?_, ?_⟩
  ·intro y0 y1 y2
   unfold relay_may.j0
   repeat' first
   | (with_reducible exact ih0 _ _ _)
   | (with_reducible exact ih1 _ _ _ _ _)
   | (with_reducible exact LeO.refl _)
   | (with_reducible exact LeO.none _)
   | (with_reducible refine LeO.ite ?_ ?_)
   | (with_reducible refine LeO.bind ?_ (fun _ => ?_))
   | exact ih0 _ _ _
   | exact ih1 _ _ _ _ _
   | exact LeO.none _
   | refine LeO.ite ?_ ?_
   | refine LeO.bind ?_ (fun _ => ?_)
  ·intro y0 y1 y2 y3 y4
   unfold relay_may.l0
   repeat' first
   | (with_reducible exact ih0 _ _ _)
   | (with_reducible exact ih1 _ _ _ _ _)
   | (with_reducible exact LeO.refl _)
   | (with_reducible exact LeO.none _)
   | (with_reducible refine LeO.ite ?_ ?_)
   | (with_reducible refine LeO.bind ?_ (fun _ => ?_))
   | exact ih0 _ _ _
   | exact ih1 _ _ _ _ _
   | exact LeO.none _
   | refine LeO.ite ?_ ?_
   | refine LeO.bind ?_ (fun _ => ?_)
theorem relay_may.mono : ∀ a0 a1 k, LeO (relay_may.f k a0 a1) (relay_may.f (k + 1) a0 a1) := by
 intro a0 a1 k
 obtain ⟨ih0, ih1⟩ := relay_may.mono_l k
 unfold relay_may.f
 repeat' first
   | (with_reducible exact ih0 _ _ _)
   | (with_reducible exact ih1 _ _ _ _ _)
   | (with_reducible exact LeO.refl _)
   | (with_reducible exact LeO.none _)
   | (with_reducible refine LeO.ite ?_ ?_)
   | (with_reducible refine LeO.bind ?_ (fun _ => ?_))
   | exact ih0 _ _ _
   | exact ih1 _ _ _ _ _
   | exact LeO.none _
   | refine LeO.ite ?_ ?_
   | refine LeO.bind ?_ (fun _ => ?_)
set_option maxHeartbeats 8000000 in
set_option maxRecDepth 100000 in
theorem relay_may.calls (k : Nat) (a0 : Int) (A1 : Option Addr) (c1 : Nat) (l1 : List (S46)) (r : Bool) (w : World) (hr1 : Kd.C k46 w A1 l1.length l1) (hc1 : l1.length ≤ c1) (h : relay_may.f k a0 l1 = some r) :
  Calls Try.prog 19 #[.int .i64 a0, .slice A1 l1.length c1] w fun e w' => e = .returned (.bool r) ∧ Below w.heap.size w w' := by
 have hu46 := Try.underlying46
 have hu44 := Try.underlying44
 have HR1 := Am hr1
 have HC1 := Am hc1
 clear hr1 hc1
 have HB := Am (Below.refl w.heap.size w)
 have H : (if a0 < 1 then (relay_may.j0 k a0 l1 true) else (if a0 > 2147483647 then (relay_may.j0 k a0 l1 true) else (relay_may.j0 k a0 l1 (decide ((l1.length : Int) > 16384))))) = some r := h
 clear h
 have HC3 := Am H
 clear H
 go_enter Try.func19, Try.ntmps19
 go_upto_region 1 with (fail)
 go_cut [18] (fun v18 wc => ∃ (kq : Nat) (Ak : Bool), v18 = .bool Ak ∧ Aside0 (relay_may.j0 kq a0 l1 Ak = some r) ∧ Aside0 (kq ≤ k) ∧ Aside0 (Below w.heap.size w wc))
 case first =>
  have H := HC3.out
  clear HC3
  by_cases c4 : a0 < 1
  ·rw [if_pos c4] at H
   have c4b0 : decide (a0 < 1) = true := decide_eq_true c4
   clear c4
   (first | rw [c4b0] | (simp only [i64_w, i32_w]; rw [c4b0]) | skip)
   have H' := Am H
   clear H
   go_wp2
   go_meet
   case rel => exact ⟨_, (true), (by first | rfl | (simp; done) | (simp [*]; done)), H', ⟨by first | omega | exact Nat.le_refl _⟩, ⟨pB HB.out⟩⟩
  rw [if_neg c4] at H
  have c4b0 : decide (a0 < 1) = false := decide_eq_false c4
  clear c4
  (first | rw [c4b0] | (simp only [i64_w, i32_w]; rw [c4b0]) | skip)
  by_cases c5 : a0 > 2147483647
  ·rw [if_pos c5] at H
   have c5b0 : decide (2147483647 < a0) = true := decide_eq_true c5
   clear c5
   have H' := Am H
   clear H
   go_wp2
   go_meet
   case rel => exact ⟨_, (true), (by first | rfl | (simp; done) | (simp [*]; done)), H', ⟨by first | omega | exact Nat.le_refl _⟩, ⟨pB HB.out⟩⟩
  rw [if_neg c5] at H
  have c5b0 : decide (2147483647 < a0) = false := decide_eq_false c5
  clear c5
  have H' := Am H
  clear H
  go_wp2
  go_meet
  case rel => exact ⟨_, (decide ((l1.length : Int) > 16384)), (by first | rfl | (simp; done) | (simp [*]; done)), H', ⟨by first | omega | exact Nat.le_refl _⟩, ⟨pB HB.out⟩⟩
 case rest =>
  clear HC3
  try clear c1
  try clear p2
  try clear c4
  try clear c4b0
  try clear c5
  try clear c5b0
  obtain ⟨kq, Ak, rfl, HA, HJ2, HB⟩ := hcut
  cases kq with
  | zero => exact absurd HA.out (by simp [relay_may.j0])
  | succ kj2 =>
   have H := HA.out
   clear HA
   simp only [relay_may.j0] at H
   by_cases c6 : Ak = true
   ·subst c6
    have H1 : (some false) = some r := by rw [if_pos rfl] at H; exact H
    clear H
    have H := H1
    clear H1
    obtain rfl := Option.some.inj H
    go_wp2
    go_ret
    exact ⟨pX, pB HB.out⟩
   replace c6 := Bool.eq_false_iff.mpr c6
   subst c6
   have H1 : (relay_may.l0 kj2 a0 (-1) l1 (l1.length : Int) 0) = some r := by rw [if_neg (show ¬ (false = true) by decide)] at H; exact H
   clear H
   have H := H1
   clear H1
   have H' := Am H
   clear H
   go_wp2
   go_loopg [5, 21] kj2 (fun kq v5 v21 w' => ∃ (An : Int) (Aa : Int), v5 = .int .i64 An ∧ v21 = .int .i64 Aa ∧ Aside0 (relay_may.l0 kq a0 An l1 (l1.length : Int) Aa = some r) ∧ Aside0 (kq ≤ kj2) ∧ Aside0 (Below w.heap.size w w'))
   case atStart => exact ⟨((-1)), (0), (by first | rfl | (simp; done) | (simp [*]; done)), (by first | rfl | (simp; done) | (simp [*]; done)), H', ⟨Nat.le_refl _⟩, ⟨pB HB.out⟩⟩
   case round =>
    clear H'
    try clear c1
    try clear p2
    try clear c4
    try clear c4b0
    try clear c5
    try clear c5b0
    try clear c6
    try clear p2
    obtain ⟨An, Aa, rfl, rfl, HA, HK2, HB⟩ := hrel
    cases gk with
    | zero => exact absurd HA.out (by simp [relay_may.l0])
    | succ k2 =>
     have H := HA.out
     clear HA
     simp only [relay_may.l0] at H
     by_cases c7 : Aa < (l1.length : Int)
     rotate_left
     ·rw [if_neg c7] at H
      have c7b0 : decide (Aa < (l1.length : Int)) = false := decide_eq_false c7
      clear c7
      obtain rfl := Option.some.inj H
      go_wp2
      go_ret
      exact ⟨pX, pB HB.out⟩
     rw [if_pos c7] at H
     have c7b0 : decide (Aa < (l1.length : Int)) = true := decide_eq_true c7
     clear c7
     by_cases c8 : 0 ≤ Aa
     rotate_left
     ·rw [if_neg c8] at H
      exact absurd H (by simp)
     rw [if_pos c8] at H
     have c8b0 : decide (0 ≤ Aa) = true := decide_eq_true c8
     clear c8
     by_cases c9 : Aa < (l1.length : Int)
     rotate_left
     ·rw [if_neg c9] at H
      exact absurd H (by simp)
     rw [if_pos c9] at H
     have c9b0 : decide (Aa < (l1.length : Int)) = true := decide_eq_true c9
     clear c9
     by_cases c10 : ((rd_T46 l1 Aa).f0) ≤ An
     ·rw [if_pos c10] at H
      have c10b0 : decide (((rd_T46 l1 Aa).f0) ≤ An) = true := decide_eq_true c10
      clear c10
      obtain rfl := Option.some.inj H
      have p102 : 0 ≤ (Aa : Int) := of_decide_eq_true pS
      have q102 : Aa < (l1.length : Int) := of_decide_eq_true pS
      obtain ⟨Al, e102, Af, Ag, Ah, Ai, Aj⟩ := at_T46u HR1.out Aa p102 q102 HB.out
      cases e102
      replace p102 := eq_true p102
      replace q102 := eq_true q102
      go_wp2_with (first | ((with_reducible refine gate_dst (N := 7) rfl ?_); (try (refine gate_guard (by rfl) ?_; dsimp only)); refine box_event ?hg (N := 7) ?hd (cs := #[.int .i64 0, .int .i64 0, .int .i64 0, .int .i64 0, .int .u32 0]) (t := 46) ?hr ?_; (case hd => rfl); (case hg => rfl); (case hr => first | (go_simp; done) | (go_simp; rfl)); intro Ac hg w11 hbox hb; have Ab := Am (hbox); have Ae := Am ((by rw [hg]; exact (below_size (pB HB.out)) : w.heap.size ≤ Ac)); replace HB := Am (below_step (pB HB.out) hb); have Ad := Ae; clear hb hbox hg; obtain ⟨_, _, _, _, _⟩ := bc5 Ab.out; obtain ⟨_, _, _, _, _⟩ := bf5 Ab.out))
      go_ret
      exact ⟨pX, pE HB.out Ad.out⟩
     rw [if_neg c10] at H
     have c10b0 : decide (((rd_T46 l1 Aa).f0) ≤ An) = false := decide_eq_false c10
     clear c10
     by_cases c13 : ((rd_T46 l1 Aa).f0) > 2147483647
     ·rw [if_pos c13] at H
      have c13b0 : decide (2147483647 < ((rd_T46 l1 Aa).f0)) = true := decide_eq_true c13
      clear c13
      obtain rfl := Option.some.inj H
      have p102 : 0 ≤ (Aa : Int) := of_decide_eq_true pS
      have q102 : Aa < (l1.length : Int) := of_decide_eq_true pS
      obtain ⟨Al, e102, Af, Ag, Ah, Ai, Aj⟩ := at_T46u HR1.out Aa p102 q102 HB.out
      cases e102
      replace p102 := eq_true p102
      replace q102 := eq_true q102
      go_wp2_with (first | ((with_reducible refine gate_dst (N := 7) rfl ?_); (try (refine gate_guard (by rfl) ?_; dsimp only)); refine box_event ?hg (N := 7) ?hd (cs := #[.int .i64 0, .int .i64 0, .int .i64 0, .int .i64 0, .int .u32 0]) (t := 46) ?hr ?_; (case hd => rfl); (case hg => rfl); (case hr => first | (go_simp; done) | (go_simp; rfl)); intro Ac hg w14 hbox hb; have Ab := Am (hbox); have Ae := Am ((by rw [hg]; exact (below_size (pB HB.out)) : w.heap.size ≤ Ac)); replace HB := Am (below_step (pB HB.out) hb); have Ad := Ae; clear hb hbox hg; obtain ⟨_, _, _, _, _⟩ := bc5 Ab.out; obtain ⟨_, _, _, _, _⟩ := bf5 Ab.out))
      go_ret
      exact ⟨pX, pE HB.out Ad.out⟩
     rw [if_neg c13] at H
     have c13b0 : decide (2147483647 < ((rd_T46 l1 Aa).f0)) = false := decide_eq_false c13
     clear c13
     replace H := Option.bind_eq_some_iff.mp H
     obtain ⟨t104, A160, H⟩ := H
     replace H : (if t104 = 0 then (if ((rd_T46 l1 Aa).f1.f0) ≤ a0 then (some false) else (relay_may.l0 k2 a0 ((rd_T46 l1 Aa).f0) l1 (l1.length : Int) (wrap64 (Aa + 1)))) else (some false)) = some r := H
     have A16 := Am A160
     clear A160
     by_cases c17 : t104 = 0
     rotate_left
     ·rw [if_neg c17] at H
      have c17b0 : (t104 == 0) = false := beq_eq_false_iff_ne.mpr c17
      have c17b1 : (t104 != 0) = true := bne_iff_ne.mpr c17
      obtain rfl := Option.some.inj H
      have p102 : 0 ≤ (Aa : Int) := of_decide_eq_true pS
      have q102 : Aa < (l1.length : Int) := of_decide_eq_true pS
      obtain ⟨Al, e102, Af, Ag, Ah, Ai, Aj⟩ := at_T46u HR1.out Aa p102 q102 HB.out
      cases e102
      replace p102 := eq_true p102
      replace q102 := eq_true q102
      go_wp2_with (first | ((with_reducible refine gate_dst (N := 7) rfl ?_); (try (refine gate_guard (by rfl) ?_; dsimp only)); refine box_event ?hg (N := 7) ?hd (cs := #[.int .i64 0, .int .i64 0, .int .i64 0, .int .i64 0, .int .u32 0]) (t := 46) ?hr ?_; (case hd => rfl); (case hg => rfl); (case hr => first | (go_simp; done) | (go_simp; rfl)); intro Ac hg w27 hbox hb; have Ab := Am (hbox); have Ae := Am ((by rw [hg]; exact (below_size (pB HB.out)) : w.heap.size ≤ Ac)); replace HB := Am (below_step (pB HB.out) hb); have Ad := Ae; clear hb hbox hg; obtain ⟨_, _, _, _, _⟩ := bc5 Ab.out; obtain ⟨_, _, _, _, _⟩ := bf5 Ab.out) | (go_at_call 34; (with_reducible refine (point_Check.calls ((rd_T46 l1 Aa).f1.f0) ((rd_T46 l1 Aa).f1.f1) ((rd_T46 l1 Aa).f1.f2) ((rd_T46 l1 Aa).f1.f3) t104 _ A16.out).mono ?_); rintro e w29 ⟨rfl, hb⟩; replace Ab := Am (blk_below (g := Ac) (kX0 Ab.out) hb); replace HB := Am (below_step (pE HB.out Ad.out) hb); (try clear hb); (try clear hb2); (try clear hk); (try clear hi)))
      go_ret
      exact ⟨pX, pE HB.out Ad.out⟩
     rw [if_pos c17] at H
     have c17b0 : (t104 == 0) = true := beq_iff_eq.mpr c17
     have c17b1 : (t104 != 0) = false := bne_eq_false_iff_eq.mpr c17
     clear c17
     by_cases c18 : ((rd_T46 l1 Aa).f1.f0) ≤ a0
     ·rw [if_pos c18] at H
      have c18b0 : decide (((rd_T46 l1 Aa).f1.f0) ≤ a0) = true := decide_eq_true c18
      clear c18
      obtain rfl := Option.some.inj H
      have p102 : 0 ≤ (Aa : Int) := of_decide_eq_true pS
      have q102 : Aa < (l1.length : Int) := of_decide_eq_true pS
      obtain ⟨Al, e102, Af, Ag, Ah, Ai, Aj⟩ := at_T46u HR1.out Aa p102 q102 HB.out
      cases e102
      replace p102 := eq_true p102
      replace q102 := eq_true q102
      go_wp2_with (first | ((with_reducible refine gate_dst (N := 7) rfl ?_); (try (refine gate_guard (by rfl) ?_; dsimp only)); refine box_event ?hg (N := 7) ?hd (cs := #[.int .i64 0, .int .i64 0, .int .i64 0, .int .i64 0, .int .u32 0]) (t := 46) ?hr ?_; (case hd => rfl); (case hg => rfl); (case hr => first | (go_simp; done) | (go_simp; rfl)); intro Ac hg w19 hbox hb; have Ab := Am (hbox); have Ae := Am ((by rw [hg]; exact (below_size (pB HB.out)) : w.heap.size ≤ Ac)); replace HB := Am (below_step (pB HB.out) hb); have Ad := Ae; clear hb hbox hg; obtain ⟨_, _, _, _, _⟩ := bc5 Ab.out; obtain ⟨_, _, _, _, _⟩ := bf5 Ab.out) | (go_at_call 34; (with_reducible refine (point_Check.calls ((rd_T46 l1 Aa).f1.f0) ((rd_T46 l1 Aa).f1.f1) ((rd_T46 l1 Aa).f1.f2) ((rd_T46 l1 Aa).f1.f3) t104 _ A16.out).mono ?_); rintro e w21 ⟨rfl, hb⟩; replace Ab := Am (blk_below (g := Ac) (kX0 Ab.out) hb); replace HB := Am (below_step (pE HB.out Ad.out) hb); (try clear hb); (try clear hb2); (try clear hk); (try clear hi); obtain ⟨_, _, _, _, _⟩ := bc5 Ab.out; obtain ⟨_, _, _, _, _⟩ := bf5 Ab.out))
      go_ret
      exact ⟨pX, pE HB.out Ad.out⟩
     rw [if_neg c18] at H
     have c18b0 : decide (((rd_T46 l1 Aa).f1.f0) ≤ a0) = false := decide_eq_false c18
     clear c18
     have H' := Am H
     clear H
     have p102 : 0 ≤ (Aa : Int) := of_decide_eq_true pS
     have q102 : Aa < (l1.length : Int) := of_decide_eq_true pS
     obtain ⟨Al, e102, Af, Ag, Ah, Ai, Aj⟩ := at_T46u HR1.out Aa p102 q102 HB.out
     cases e102
     replace p102 := eq_true p102
     replace q102 := eq_true q102
     go_wp2_with (first | ((with_reducible refine gate_dst (N := 7) rfl ?_); (try (refine gate_guard (by rfl) ?_; dsimp only)); refine box_event ?hg (N := 7) ?hd (cs := #[.int .i64 0, .int .i64 0, .int .i64 0, .int .i64 0, .int .u32 0]) (t := 46) ?hr ?_; (case hd => rfl); (case hg => rfl); (case hr => first | (go_simp; done) | (go_simp; rfl)); intro Ac hg w23 hbox hb; have Ab := Am (hbox); have Ae := Am ((by rw [hg]; exact (below_size (pB HB.out)) : w.heap.size ≤ Ac)); replace HB := Am (below_step (pB HB.out) hb); have Ad := Ae; clear hb hbox hg; obtain ⟨_, _, _, _, _⟩ := bc5 Ab.out; obtain ⟨_, _, _, _, _⟩ := bf5 Ab.out) | (go_at_call 34; (with_reducible refine (point_Check.calls ((rd_T46 l1 Aa).f1.f0) ((rd_T46 l1 Aa).f1.f1) ((rd_T46 l1 Aa).f1.f2) ((rd_T46 l1 Aa).f1.f3) t104 _ A16.out).mono ?_); rintro e w25 ⟨rfl, hb⟩; replace Ab := Am (blk_below (g := Ac) (kX0 Ab.out) hb); replace HB := Am (below_step (pE HB.out Ad.out) hb); (try clear hb); (try clear hb2); (try clear hk); (try clear hi); obtain ⟨_, _, _, _, _⟩ := bc5 Ab.out; obtain ⟨_, _, _, _, _⟩ := bf5 Ab.out))
     go_roundg k2
     case measure => have := HJ2.out; have := HK2.out; omega
     case rel => exact ⟨((rd_T46 l1 Aa).f0), (wrap64 (Aa + 1)), (by first | rfl | (simp; done) | (simp [*]; done)), (by first | rfl | (simp; done) | (simp [*]; done)), H', ⟨by have := HJ2.out; have := HK2.out; omega⟩, ⟨pE HB.out Ad.out⟩⟩
set_option maxHeartbeats 4000000 in
set_option maxRecDepth 100000 in
theorem garnerlaw21_awake.chk {P : Program} {kt : TypeId} (hk : P.underlying kt = some (.int .i64)) (k : Int) (e : Bool) (W : World) : (Instr.checkKey e 10000 kt (.int .i64 k)).run P W = .ok () W := by
 show (Instr.checkKey e (9999 + 1) kt (.int .i64 k)).run P W = _
 rw [Instr.checkKey]
 simp [run_underlying hk, Result.andThen]
set_option maxHeartbeats 4000000 in
set_option maxRecDepth 100000 in
theorem garnerlaw21_awake.size_alloc (w : World) (o : Obj) : (w.alloc o).heap.size = w.heap.size + 1 := by simp
set_option maxHeartbeats 4000000 in
set_option maxRecDepth 100000 in
theorem garnerlaw21_awake.lt {w : World} {k : Nat} {o : Obj} (h : w.heap[k]? = some o) : k < w.heap.size := (Array.getElem?_eq_some_iff.1 h).1
set_option maxHeartbeats 4000000 in
set_option maxRecDepth 100000 in
theorem garnerlaw21_awake.set_heap {w : World} {k : Nat} {c : Array Value} {E : TypeId} (j : Nat) (v : Value) (h : w.heap[k]? = some (.cells c E (0, 0))) : (w.setCell ⟨k, j, none⟩ v).heap[k]? = some (.cells (c.setIfInBounds j v) E (0, 0)) := by
 simp [World.setCell, Array.getElem?_modify, h]
set_option maxHeartbeats 4000000 in
set_option maxRecDepth 100000 in
theorem garnerlaw21_awake.below_set {B : Nat} {a w : World} {m : Nat} {es : Array MapEntry} {c : Nat} {o' : Obj} (h : Below B a w) (hm : w.heap[m]? = some (.map es c)) (hBm : B ≤ m) (hs : B ≤ w.heap.size) : Below B a (ChangeMaps.setBlock w m o') :=
 h.grown (row := some m) ⟨rfl, rfl, rfl, by simp [ChangeMaps.setBlock], fun i _ hi => ChangeMaps.heap_setBlock_other hm _ (fun e => hi (by rw [e]))⟩ hs (fun k hk => by cases hk; exact hBm)
section
variable {P : Program} {t kt et : TypeId} {w : World} {m : Nat} {es : Array MapEntry} {c : Nat} {k : Int}
set_option maxHeartbeats 4000000 in
set_option maxRecDepth 100000 in
theorem garnerlaw21_awake.run_upd (ht : P.underlying t = some (.map kt et)) (hk : P.underlying kt = some (.int .i64)) (hb : w.heap[m]? = some (.map es c)) (hf : Instr.findNow (.int .i64) (.int .i64 k) es.toList 0 = some none) (v : Value) :
  (Instr.mapUpdate t (.map (some m)) (.int .i64 k) v).run P w = .ok () (ChangeMaps.setBlock w m (.map (es.push { key := .int .i64 k, val := v, born := c }) (c + 1))) := by
 simp [Instr.mapUpdate, run_underlying ht, run_underlying hk, MapKept.run_getObj_map hb, garnerlaw21_awake.chk hk, Instr.findKey, hf, MapKept.run_setObj_map _ hb, Result.andThen, ChangeMaps.setBlock]
set_option maxHeartbeats 4000000 in
set_option maxRecDepth 100000 in
theorem garnerlaw21_awake.run_look (ht : P.underlying t = some (.map kt et)) (hk : P.underlying kt = some (.int .i64)) (hb : w.heap[m]? = some (.map es c)) (i : Nat) (v : Value) (hf : Instr.findNow (.int .i64) (.int .i64 k) es.toList 0 = some (some (i, v))) (ok : Bool) :
  (Instr.lookup t (.map (some m)) (.int .i64 k) ok).run P w = .ok (if ok then .tuple #[v, .bool true] else v) w := by
 simp [Instr.lookup, run_underlying ht, run_underlying hk, MapKept.run_getObj_map hb, garnerlaw21_awake.chk hk, Instr.findKey, hf, Result.andThen]
set_option maxHeartbeats 4000000 in
set_option maxRecDepth 100000 in
theorem garnerlaw21_awake.run_miss (ht : P.underlying t = some (.map kt et)) (hk : P.underlying kt = some (.int .i64)) (hb : w.heap[m]? = some (.map es c)) (v : Value) (hf : Instr.findNow (.int .i64) (.int .i64 k) es.toList 0 = some none) (hz : (zeroValue et).run P w = .ok v w) :
  (Instr.lookup t (.map (some m)) (.int .i64 k) false).run P w = .ok v w := by
 simp [Instr.lookup, run_underlying ht, run_underlying hk, MapKept.run_getObj_map hb, garnerlaw21_awake.chk hk, Instr.findKey, hf, Result.andThen, hz]
end
set_option maxHeartbeats 4000000 in
set_option maxRecDepth 100000 in
theorem garnerlaw21_awake.wpUpd {P : Program} (w : World) {ops : Array Oper} {rest : List Oper} {o : Oper} {a : Act} {Q : Exit → Act → World → Prop}
  (hg : o.guard = none) (m x v : Operand) (t : TypeId) (hop : o.op = Op.mapUpdate t m x v) (M K V : Value) (hm : a.eval m = M) (hx : a.eval x = K) (hv : a.eval v = V) {w' : World} (hr : (Instr.mapUpdate t M K V).run P w = .ok () w')
  (hK : wpList P ops Q rest (a.put o.dst undef) w') : wpList P ops Q (o :: rest) a w := by
 refine wpList_plain hg fun K' hK' => ?_
 unfold Oper.wp
 simp [execOp, hop, hm, hx, hv, hr, Result.andThen]
 exact hK' _ _ hK
set_option maxHeartbeats 4000000 in
set_option maxRecDepth 100000 in
theorem garnerlaw21_awake.wpLook {P : Program} (w : World) {ops : Array Oper} {rest : List Oper} {o : Oper} {a : Act} {Q : Exit → Act → World → Prop}
  (hg : o.guard = none) (m x : Operand) (t : TypeId) (ok : Bool) (hop : o.op = Op.lookup t m x ok) (M K V : Value) (hm : a.eval m = M) (hx : a.eval x = K) (hr : (Instr.lookup t M K ok).run P w = .ok V w)
  (hK : wpList P ops Q rest (a.put o.dst V) w) : wpList P ops Q (o :: rest) a w := by
 refine wpList_plain hg fun K' hK' => ?_
 unfold Oper.wp
 simp [execOp, hop, hm, hx, hr, Result.andThen]
 exact hK' _ _ hK
set_option maxHeartbeats 4000000 in
set_option maxRecDepth 100000 in
theorem garnerlaw21_awake.New (w : World) : Calls Try.prog 13 #[] w fun e w' => ∃ b m, e = .returned (.pointer (some ⟨b, 0, none⟩)) ∧ w'.heap[b]? = some (.cells #[.map (some m)] 74) ∧ w'.heap[m]? = some (.map #[] 0) ∧ w.heap.size ≤ b ∧ w.heap.size ≤ m ∧ m < b ∧ Below w.heap.size w w' := by
 have hmm : ∀ (t : TypeId) (w : World), (Instr.makeMap t none).run Try.prog w = .ok (.map (some w.heap.size)) (w.alloc (.map #[] 0)) := fun _ _ => rfl
 have hu74 := Try.underlying74
 go_enter Try.func13, Try.ntmps13
 go_wp2
 go_ret
 have hs : (w.alloc (.map #[] 0)).heap.size = w.heap.size + 1 := garnerlaw21_awake.size_alloc _ _
 refine ⟨w.heap.size + 1, w.heap.size, rfl, ?_, ?_, by omega, by omega, by omega, (((Below.refl _ _).alloc (Nat.le_refl _) _).alloc (by omega) _)⟩
 ·rw [← hs]; exact (MapKept.heap_alloc _ _).1
 ·exact ((MapKept.heap_alloc (w.alloc (.map #[] 0)) _).2 _ (by omega)).trans (MapKept.heap_alloc w _).1
set_option maxHeartbeats 4000000 in
set_option maxRecDepth 100000 in
theorem garnerlaw21_awake.is (w : World) (b m : Nat) (hb : w.heap[b]? = some (.cells #[.map (some m)] 74)) : Calls Try.prog 33 #[.pointer (some ⟨b, 0, none⟩)] w fun e w' => e = .returned (.bool true) ∧ w' = w := by
 have hu74 := Try.underlying74
 have hc : w.cell? ⟨b, 0, none⟩ = some (.map (some m)) := by simp [World.cell?, hb]
 have hne : ∀ (m : Nat) (W : World), (_root_.Go.binOp BinOp.neq 72 (.map (some m)) (.map none)).run Try.prog W = .ok (.bool true) W := fun m W => by kernel_rfl
 go_enter Try.func33, Try.ntmps33
 go_wp2
 go_ret
 exact ⟨rfl, rfl⟩
set_option maxHeartbeats 4000000 in
set_option maxRecDepth 100000 in
theorem garnerlaw21_awake.Set (w : World) (b m : Nat) (hb : w.heap[b]? = some (.cells #[.map (some m)] 74)) (hm : w.heap[m]? = some (.map #[] 0)) (A : Option Addr) (c : Nat) (hr : Kd.C k46 w A 1 [(⟨2, ⟨3, 9, 0, 0⟩⟩ : S46)]) (hc : 1 ≤ c) :
  Calls Try.prog 14 #[.pointer (some ⟨b, 0, none⟩), .int .i64 1, .slice A 1 c] w fun e w' => ∃ m2, e = .returned (.int .i64 0) ∧ w'.heap[b]? = some (.cells #[.map (some m)] 74) ∧ w'.heap[m]? = some (.map #[⟨.int .i64 1, .map (some m2), 0⟩] 1) ∧ w'.heap[m2]? = some (.map #[⟨.int .i64 2, .agg #[.int .i64 3, .int .i64 9, .int .i64 0, .int .u32 0], 0⟩] 1) ∧ ∀ B, B ≤ b → B ≤ m → Below B w w' := by
 have hu74 := Try.underlying74
 have hu75 := Try.underlying75
 have hu72 := Try.underlying72
 have hu46 := Try.underlying46
 have hu44 := Try.underlying44
 have hu3 := Try.underlying3
 have hmm : ∀ (t : TypeId) (w : World), (Instr.makeMap t none).run Try.prog w = .ok (.map (some w.heap.size)) (w.alloc (.map #[] 0)) := fun _ _ => rfl
 obtain ⟨a, rfl, _⟩ := at_T46uz hr (by omega) (by omega) (Below.refl _ _)
 have hmay : relay_may.f 3 1 [(⟨2, ⟨3, 9, 0, 0⟩⟩ : S46)] = some true := by decide +kernel
 go_enter Try.func14, Try.ntmps14
 go_wp2_with (first | (go_at_call 33; refine (garnerlaw21_awake.is _ _ _ hb).mono ?_; rintro e w1 ⟨rfl, hw⟩; rw [hw]) | (go_at_call 19; refine (relay_may.calls 3 _ _ _ [(⟨2, ⟨3, 9, 0, 0⟩⟩ : S46)] true _ hr hc hmay).mono ?_; rintro e w1 ⟨rfl, hB⟩))
 have hcell := at_T46uz hr (by omega) (by omega) (hB.alloc hB.size (.map #[] 0))
 obtain ⟨ad, hA, h0, h1, h2, h3, h4⟩ := hcell
 cases hA
 replace h0 : _ = some (Value.int .i64 2) := h0
 replace h1 : _ = some (Value.int .i64 3) := h1
 replace h2 : _ = some (Value.int .i64 9) := h2
 replace h3 : _ = some (Value.int .i64 0) := h3
 replace h4 : _ = some (Value.int .u32 0) := h4
 clear hr
 refine wp_loop_rounds 2 ?_
 rw [rounds_succ]
 have hm2 : ∀ o, ((w1.alloc (.map #[] 0)).alloc o).heap[w1.heap.size]? = some (.map #[] 0) := fun o => ((MapKept.heap_alloc (w1.alloc (.map #[] 0)) o).2 _ (by rw [garnerlaw21_awake.size_alloc]; omega)).trans (MapKept.heap_alloc w1 _).1
 go_wp2_with (refine garnerlaw21_awake.wpUpd _ rfl _ _ _ 75 rfl (.map (some w1.heap.size)) (.int .i64 2) (.agg #[.int .i64 3, .int .i64 9, .int .i64 0, .int .u32 0]) rfl rfl rfl (garnerlaw21_awake.run_upd (m := w1.heap.size) hu75 hu3 (hm2 _) rfl _) ?_)
 have hbw := garnerlaw21_awake.lt hb
 have hmw := garnerlaw21_awake.lt hm
 have hsz := hB.size
 obtain ⟨W3, hW3⟩ : ∃ W3, W3 = ChangeMaps.setBlock ((w1.alloc (Obj.map #[] 0)).alloc (Obj.cells #[Value.int IntKind.i64 2, Value.int IntKind.i64 3, Value.int IntKind.i64 9, Value.int IntKind.i64 0, Value.int IntKind.u32 0] 46)) w1.heap.size (Obj.map #[{ key := Value.int IntKind.i64 2, val := Value.agg #[Value.int IntKind.i64 3, Value.int IntKind.i64 9, Value.int IntKind.i64 0, Value.int IntKind.u32 0], born := 0 }] 1) := ⟨_, rfl⟩
 have hB3 : Below w.heap.size w W3 := by
  rw [hW3]
  exact garnerlaw21_awake.below_set (((hB.alloc hsz _)).alloc (by rw [garnerlaw21_awake.size_alloc]; omega) _) (hm2 _) hsz (by rw [garnerlaw21_awake.size_alloc, garnerlaw21_awake.size_alloc]; omega)
 have hx3 : W3.heap[w1.heap.size]? = some (Obj.map #[{ key := Value.int IntKind.i64 2, val := Value.agg #[Value.int IntKind.i64 3, Value.int IntKind.i64 9, Value.int IntKind.i64 0, Value.int IntKind.u32 0], born := 0 }] 1) := by
  rw [hW3]
  exact ChangeMaps.heap_setBlock_same (hm2 _) _
 have hb3 := (hB3.block b hbw).trans hb
 have hm3 := (hB3.block m hmw).trans hm
 have hc3 : W3.cell? ⟨b, 0, none⟩ = some (.map (some m)) := by simp [World.cell?, hb3]
 rw [← hW3]
 have hw3w := garnerlaw21_awake.lt hx3
 have hsz3 := hB3.size
 clear hW3
 rw [rounds_succ]
 go_wp2_with (refine garnerlaw21_awake.wpUpd _ rfl _ _ _ 72 rfl (.map (some m)) (.int .i64 1) (.map (some w1.heap.size)) rfl rfl rfl (garnerlaw21_awake.run_upd (m := m) hu72 hu3 hm3 rfl _) ?_)
 go_ret
 have hne : m ≠ w1.heap.size := by omega
 have hnb : m ≠ b := by
  intro e
  subst e
  rw [hb] at hm
  cases hm
 refine ⟨w1.heap.size, rfl, ?_, ?_, ?_, ?_⟩
 ·exact (ChangeMaps.heap_setBlock_other hm3 _ (Ne.symm hnb)).trans hb3
 ·exact ChangeMaps.heap_setBlock_same hm3 _
 ·exact (ChangeMaps.heap_setBlock_other hm3 _ (Ne.symm hne)).trans hx3
 ·intro B h5 h6
  exact garnerlaw21_awake.below_set (hB3.mono (by omega)) hm3 h6 (by omega)
set_option maxHeartbeats 4000000 in
set_option maxRecDepth 100000 in
theorem garnerlaw21_awake.Find (w : World) (b m m2 : Nat) (hb : w.heap[b]? = some (.cells #[.map (some m)] 74)) (hm : w.heap[m]? = some (.map #[⟨.int .i64 1, .map (some m2), 0⟩] 1)) (hm2 : w.heap[m2]? = some (.map #[⟨.int .i64 2, .agg #[.int .i64 3, .int .i64 9, .int .i64 0, .int .u32 0], 0⟩] 1)) :
  Calls Try.prog 15 #[.pointer (some ⟨b, 0, none⟩), .agg #[.int .i64 1, .int .i64 2, .int .i64 0, .int .u32 0]] w fun e w' => e = .returned (.tuple #[.agg #[.int .i64 3, .int .i64 9, .int .i64 0, .int .u32 0], .int .i64 1, .int .i64 0]) ∧ Below w.heap.size w w' := by
 have hu74 := Try.underlying74
 have hu75 := Try.underlying75
 have hu72 := Try.underlying72
 have hu46 := Try.underlying46
 have hu44 := Try.underlying44
 have hu3 := Try.underlying3
 have hbw := garnerlaw21_awake.lt hb
 have hmw := garnerlaw21_awake.lt hm
 have hm2w := garnerlaw21_awake.lt hm2
 have HB := Am (Below.refl w.heap.size w)
 have hchk : point_Check.f 1 2 0 0 = some 0 := by decide +kernel
 have hc : ∀ W, Below w.heap.size w W → W.cell? ⟨b, 0, none⟩ = some (.map (some m)) := fun W h => by
  have := (h.block b hbw).trans hb
  simp [World.cell?, this]
 have hne : ∀ (m : Nat) (W : World), (_root_.Go.binOp BinOp.eql 75 (.map (some m)) (.map none)).run Try.prog W = .ok (.bool false) W := fun m W => by kernel_rfl
 go_enter Try.func15, Try.ntmps15
 go_wp2_with (first | (go_at_call 33; refine (garnerlaw21_awake.is _ b m (((pB HB.out : Below w.heap.size w _).block b hbw).trans hb)).mono ?_; rintro e w1 ⟨rfl, hw⟩; rw [hw]) | (go_at_call 34; refine (point_Check.calls 1 2 0 0 0 _ hchk).mono ?_; rintro e w1 ⟨rfl, hb1⟩; have Hq := Am hb1; replace HB := Am (below_step (pB HB.out) hb1); clear hb1))
 have hs := garnerlaw21_awake.size_alloc w (.cells #[.int .i64 1, .int .i64 2, .int .i64 0, .int .u32 0] 44)
 have hp1 : w1.heap[w.heap.size]? = some (.cells #[.int .i64 1, .int .i64 2, .int .i64 0, .int .u32 0] 44) :=
  ((Hq.out.block _ (by rw [garnerlaw21_awake.size_alloc, hs]; omega)).trans ((MapKept.heap_alloc _ _).2 _ (by rw [hs]; omega))).trans (MapKept.heap_alloc w _).1
 have hq1 : w1.heap[w.heap.size + 1]? = some (.cells #[.int .i64 0, .int .i64 0, .int .i64 0, .int .u32 0] 44) :=
  (Hq.out.block _ (by rw [garnerlaw21_awake.size_alloc, hs]; omega)).trans (by rw [← hs]; exact (MapKept.heap_alloc _ _).1)
 clear Hq
 have hn1 := HB.out.size
 have hc1 := hc _ HB.out
 have hl1 : ∀ n, (Instr.lookup 72 (.map (some m)) (.int .i64 1) false).run Try.prog (w1.drewN n) = .ok (.map (some m2)) (w1.drewN n) := fun n => garnerlaw21_awake.run_look (w := w1.drewN n) hu72 hu3 ((HB.out.block m hmw).trans hm) 0 _ rfl false
 have hl2 : ∀ n, (Instr.lookup 75 (.map (some m2)) (.int .i64 2) true).run Try.prog (w1.drewN n) = .ok (.tuple #[.agg #[.int .i64 3, .int .i64 9, .int .i64 0, .int .u32 0], .bool true]) (w1.drewN n) := fun n => garnerlaw21_awake.run_look (w := w1.drewN n) hu75 hu3 ((HB.out.block m2 hm2w).trans hm2) 0 _ rfl true
 have e0 : w1.cell? ⟨w.heap.size, 0, none⟩ = some (.int .i64 1) := by simp [World.cell?, hp1]
 have e1 : w1.cell? ⟨w.heap.size, 1, none⟩ = some (.int .i64 2) := by simp [World.cell?, hp1]
 have e2 : w1.cell? ⟨w.heap.size, 2, none⟩ = some (.int .i64 0) := by simp [World.cell?, hp1]
 have e3 : w1.cell? ⟨w.heap.size, 3, none⟩ = some (.int .u32 0) := by simp [World.cell?, hp1]
 have f0 : ∀ k, w1.frozen? ⟨w.heap.size, k, none⟩ = false := fun k => by simp [World.frozen?, hp1]
 refine wp_loop_rounds 2 ?_
 rw [rounds_succ]
 go_wp2
 go_quiet (fail)
 obtain ⟨w2, hw2⟩ : ∃ w2, w2 = w1.drewN nq := ⟨_, rfl⟩
 have HB2 : Below w.heap.size w w2 := by rw [hw2]; exact pB HB.out
 have hl2' := hl2 nq
 have hx2 : w2.heap = w1.heap := by rw [hw2]; rfl
 rw [← hw2] at hl2' ⊢
 clear hl1 hl2
 have e0' : w2.cell? ⟨w.heap.size, 0, none⟩ = some (.int .i64 1) := by rw [hw2]; exact e0
 have e1' : w2.cell? ⟨w.heap.size, 1, none⟩ = some (.int .i64 2) := by rw [hw2]; exact e1
 have e2' : w2.cell? ⟨w.heap.size, 2, none⟩ = some (.int .i64 0) := by rw [hw2]; exact e2
 have e3' : w2.cell? ⟨w.heap.size, 3, none⟩ = some (.int .u32 0) := by rw [hw2]; exact e3
 have f0' : ∀ k, w2.frozen? ⟨w.heap.size, k, none⟩ = false := fun k => by rw [hw2]; exact f0 k
 have hp2 : w2.heap[w.heap.size]? = some (.cells #[.int .i64 1, .int .i64 2, .int .i64 0, .int .u32 0] 44) := by rw [hx2]; exact hp1
 have hq2 : w2.heap[w.heap.size + 1]? = some (.cells #[.int .i64 0, .int .i64 0, .int .i64 0, .int .u32 0] 44) := by rw [hx2]; exact hq1
 clear hw2 hx2 e0 e1 e2 e3 f0 hp1 hq1 hc1 hn1 HB
 have hn2 := HB2.size
 have hpw2 := garnerlaw21_awake.lt hp2
 have ea : ∀ o k, (w2.alloc o).cell? ⟨w.heap.size, k, none⟩ = w2.cell? ⟨w.heap.size, k, none⟩ := fun o k => ((Below.refl w2.heap.size w2).alloc (Nat.le_refl _) o).cell (p := ⟨w.heap.size, k, none⟩) hpw2
 have fa : ∀ o k, (w2.alloc o).frozen? ⟨w.heap.size, k, none⟩ = false := fun o k => (((Below.refl w2.heap.size w2).alloc (Nat.le_refl _) o).frozen (p := ⟨w.heap.size, k, none⟩) hpw2).trans (f0' k)
 have e0a := fun o => (ea o 0).trans e0'
 have e1a := fun o => (ea o 1).trans e1'
 have e2a := fun o => (ea o 2).trans e2'
 have e3a := fun o => (ea o 3).trans e3'
 clear ea
 go_wp2
 have HB4 : Below w.heap.size w (((((w2.setCell ⟨w.heap.size, 0, none⟩ (.int .i64 3)).setCell ⟨w.heap.size, 1, none⟩ (.int .i64 9)).setCell ⟨w.heap.size, 2, none⟩ (.int .i64 0)).setCell ⟨w.heap.size, 3, none⟩ (.int .u32 0)).alloc (.cells #[.int .i64 3, .int .i64 9, .int .i64 0, .int .u32 0] 44)) :=
  ((((HB2.setCell (Nat.le_refl _) _).setCell (Nat.le_refl _) _).setCell (Nat.le_refl _) _).setCell (Nat.le_refl _) _).alloc (by simp; omega) _
 have g0 : (((((w2.setCell ⟨w.heap.size, 0, none⟩ (.int .i64 3)).setCell ⟨w.heap.size, 1, none⟩ (.int .i64 9)).setCell ⟨w.heap.size, 2, none⟩ (.int .i64 0)).setCell ⟨w.heap.size, 3, none⟩ (.int .u32 0)).alloc (.cells #[.int .i64 3, .int .i64 9, .int .i64 0, .int .u32 0] 44)).heap[w.heap.size]? = some (.cells #[.int .i64 3, .int .i64 9, .int .i64 0, .int .u32 0] 44) := by
  refine ((MapKept.heap_alloc _ _).2 _ (by simp; omega)).trans ?_
  exact garnerlaw21_awake.set_heap 3 _ (garnerlaw21_awake.set_heap 2 _ (garnerlaw21_awake.set_heap 1 _ (garnerlaw21_awake.set_heap 0 _ hp2)))
 have k0 : (((((w2.setCell ⟨w.heap.size, 0, none⟩ (.int .i64 3)).setCell ⟨w.heap.size, 1, none⟩ (.int .i64 9)).setCell ⟨w.heap.size, 2, none⟩ (.int .i64 0)).setCell ⟨w.heap.size, 3, none⟩ (.int .u32 0)).alloc (.cells #[.int .i64 3, .int .i64 9, .int .i64 0, .int .u32 0] 44)).heap[w.heap.size + 1]? = some (.cells #[.int .i64 0, .int .i64 0, .int .i64 0, .int .u32 0] 44) := by
  have hqw := garnerlaw21_awake.lt hq2
  refine ((MapKept.heap_alloc _ _).2 _ (by simp; omega)).trans ?_
  rw [Below.heap_setCell _ _ _ _ (by simp), Below.heap_setCell _ _ _ _ (by simp), Below.heap_setCell _ _ _ _ (by simp), Below.heap_setCell _ _ _ _ (by simp)]
  exact hq2
 generalize (((((w2.setCell ⟨w.heap.size, 0, none⟩ (.int .i64 3)).setCell ⟨w.heap.size, 1, none⟩ (.int .i64 9)).setCell ⟨w.heap.size, 2, none⟩ (.int .i64 0)).setCell ⟨w.heap.size, 3, none⟩ (.int .u32 0)).alloc (.cells #[.int .i64 3, .int .i64 9, .int .i64 0, .int .u32 0] 44)) = w4 at HB4 g0 k0 ⊢
 clear HB2 hl2' e0' e1' e2' e3' f0' hp2 hq2 hn2 hpw2 fa e0a e1a e2a e3a
 have hc4 := hc _ HB4
 have e0 : w4.cell? ⟨w.heap.size, 0, none⟩ = some (.int .i64 3) := by simp [World.cell?, g0]
 have e1 : w4.cell? ⟨w.heap.size, 1, none⟩ = some (.int .i64 9) := by simp [World.cell?, g0]
 have e2 : w4.cell? ⟨w.heap.size, 2, none⟩ = some (.int .i64 0) := by simp [World.cell?, g0]
 have e3 : w4.cell? ⟨w.heap.size, 3, none⟩ = some (.int .u32 0) := by simp [World.cell?, g0]
 have f0 : ∀ k, w4.frozen? ⟨w.heap.size, k, none⟩ = false := fun k => by simp [World.frozen?, g0]
 have i0 : w4.cell? ⟨w.heap.size + 1, 0, none⟩ = some (.int .i64 0) := by simp [World.cell?, k0]
 have i1 : w4.cell? ⟨w.heap.size + 1, 1, none⟩ = some (.int .i64 0) := by simp [World.cell?, k0]
 have i2 : w4.cell? ⟨w.heap.size + 1, 2, none⟩ = some (.int .i64 0) := by simp [World.cell?, k0]
 have i3 : w4.cell? ⟨w.heap.size + 1, 3, none⟩ = some (.int .u32 0) := by simp [World.cell?, k0]
 have j0 : ∀ k, w4.frozen? ⟨w.heap.size + 1, k, none⟩ = false := fun k => by simp [World.frozen?, k0]
 have hnn : ∀ (W : World), (_root_.Go.binOp BinOp.eql 75 (.map none) (.map none)).run Try.prog W = .ok (.bool true) W := fun W => by kernel_rfl
 have hz : ∀ (W : World), (zeroValue 75).run Try.prog W = .ok (.map none) W := fun W => by kernel_rfl
 have hl4 : ∀ n, (Instr.lookup 72 (.map (some m)) (.int .i64 3) false).run Try.prog (w4.drewN n) = .ok (.map none) (w4.drewN n) := fun n => garnerlaw21_awake.run_miss (w := w4.drewN n) hu72 hu3 ((HB4.block m hmw).trans hm) _ rfl (hz _)
 rw [rounds_succ]
 go_wp2
 go_quiet (fail)
 go_wp2
 have HB5 : Below w.heap.size w (w4.drewN nq) := pB HB4
 refine bodyPost_ret (results_ctt rfl _ _ (w.heap.size + 1) 44 #[.int .i64 3, .int .i64 9, .int .i64 0, .int .u32 0] (0, 0) _ rfl (garnerlaw21_awake.set_heap 3 _ (garnerlaw21_awake.set_heap 2 _ (garnerlaw21_awake.set_heap 1 _ (garnerlaw21_awake.set_heap 0 _ (show (w4.drewN nq).heap[w.heap.size + 1]? = _ from k0))))) Try.underlying44 rfl (by kernel_rfl)) rfl ?_
 exact ⟨rfl, (((HB5.setCell (by simp) _).setCell (by simp) _).setCell (by simp) _).setCell (by simp) _⟩
set_option maxHeartbeats 4000000 in
set_option maxRecDepth 100000 in
theorem garnerlaw21_awake.awake (w : World) : Calls Try.prog 5 #[] w fun e w' => e = .returned (.bool true) ∧ Below w.heap.size w w' := by
 have hu74 := Try.underlying74
 have hu46 := Try.underlying46
 have hu44 := Try.underlying44
 have hu24 := Try.underlying24
 have HB := Am (Below.refl w.heap.size w)
 go_enter Try.func5, Try.ntmps5
 go_wp2_with (first
  | (go_at_call 13; refine (garnerlaw21_awake.New _).mono ?_; rintro e w1 ⟨b, m, rfl, hb1, hm1, hbs, hms, hmb, h1⟩; have Hb := Am hb1; have Hm := Am hm1; have Hl := Am (And.intro hbs (And.intro hms hmb)); replace HB := Am (below_step (pB HB.out) h1); clear h1 hb1 hm1 hbs hms hmb)
  | ((with_reducible refine gate_dst (N := 10) rfl ?_); refine Kd.R_lit k46 _ 46 ?hg (N := 10) ?hd (xs := ([(⟨2, ⟨3, 9, 0, 0⟩⟩ : S46)] : List (S46))) (inner := [.int .i64 2, .int .i64 3, .int .i64 9, .int .i64 0, .int .u32 0]) (ok := fun _ => True) (okp := fun _ => True) ?hr ?hp (fun _ hk => hk) trivial (Below.refl _ _) (Nat.le_refl _) (by simp) ?_; (case hd => rfl); (case hg => rfl); (case hr => first | (go_simp; done) | (go_simp; rfl)); (case hp => exact (Reps.c5 (show Kd.M k46 _ _ _ (⟨2, ⟨3, 9, 0, 0⟩⟩ : S46) [.int .i64 2, .int .i64 3, .int .i64 9, .int .i64 0, .int .u32 0] from (k46_mkM _ _ _ (⟨2, ⟨3, 9, 0, 0⟩⟩ : S46))) (Reps.none _ _))); intro v154 w17 ho18 hb hg_ hnew_; clear hg_ hnew_; replace Hb := Am ((hb.block _ (garnerlaw21_awake.lt Hb.out)).trans Hb.out); replace Hm := Am ((hb.block _ (garnerlaw21_awake.lt Hm.out)).trans Hm.out); replace HB := Am (below_step (pB HB.out) hb); have Aa := Am ho18; clear hb ho18; obtain ⟨Ai, Aj, Ak⟩ := Kd.R_slice Aa.out; subst Ak)
  | (go_at_call 14; refine (garnerlaw21_awake.Set _ _ _ Hb.out Hm.out _ _ (Kd.R_reads' Aa.out).2.2 (Kd.R_reads' Aa.out).2.1).mono ?_; rintro e w1 ⟨m2, rfl, hb1, hm1, hm2, h1⟩; replace Hb := Am hb1; replace Hm := Am hm1; have Hn := Am hm2; replace HB := Am (Below.trans (pB HB.out) (h1 w.heap.size Hl.out.1 Hl.out.2.1)); clear h1 hb1 hm1 hm2)
  | (go_at_call 15; refine (garnerlaw21_awake.Find _ _ _ _ Hb.out Hm.out Hn.out).mono ?_; rintro e w1 ⟨rfl, h1⟩; replace HB := Am (below_step (pB HB.out) h1); clear h1))
 go_ret
 exact ⟨rfl, pB HB.out⟩
def garnerlaw21_awake.f : Option Bool := some true
theorem garnerlaw21_awake.calls (r : Bool) (w : World) (h : garnerlaw21_awake.f = some r) : Calls Try.prog 5 #[] w fun e w' => e = .returned (.bool r) ∧ Below w.heap.size w w' := by
 obtain rfl := Option.some.inj h
 exact garnerlaw21_awake.awake w
theorem frame_within.rdm {xs : List Int} {i : Int} (h0 : 0 ≤ i) (h : i < xs.length) : rd xs i ∈ xs := by
 obtain ⟨n, rfl⟩ := Int.eq_ofNat_of_zero_le h0
 have hn : n < xs.length := by omega
 simp [rd, hn]
set_option maxHeartbeats 1000000 in
set_option maxRecDepth 100000 in
theorem frame_within.clo (x : Int) (w : World) : Calls Try.prog 48 #[.int .u8 x] w fun e w' => e = .returned (.bool (decide (x < 128))) ∧ w' = w := by
 go_enter Try.func48, Try.ntmps48
 go_wp2
 go_ret
 exact ⟨rfl, rfl⟩
set_option maxHeartbeats 1000000 in
set_option maxRecDepth 100000 in
theorem frame_within.idx (A0 : Option Addr) (c0 : Nat) (l0 : List Int) (w : World) (hr0 : Kd.C (Kd.int .u8) w A0 l0.length l0) (hc0 : l0.length ≤ c0) :
  Calls Try.prog 55 #[.slice A0 l0.length c0, .func (.func 48) #[] #[]] w fun e w' => ∃ i : Int, e = .returned (.int .i64 i) ∧ (0 ≤ i ↔ ∃ x ∈ l0, x < 128) ∧ Drawn0 w w' := by
 have HR0 := Aside0.mk hr0
 have HC0 := Aside0.mk hc0
 have hn : l0.length ≤ 9223372036854775807 := hr0.2.1
 clear hr0 hc0
 go_enter Try.func55, Try.ntmps55
 go_wp2
 go_loopw [8] (fun v8 wr => ∃ k : Nat, k ≤ l0.length ∧ v8 = .int .i64 k ∧ Aside0 (∀ j : Nat, j < k → ¬ rd l0 (j : Int) < 128) ∧ Drawn0 w wr) (fun v8 _ => l0.length - (intOf v8).toNat)
 case atStart => exact ⟨0, Nat.zero_le _, rfl, ⟨fun j h => by omega⟩, Drawn0.refl _⟩
 case round =>
  obtain ⟨k, hk, rfl, HN, HD⟩ := hrel
  by_cases hlt : k < l0.length
  ·obtain ⟨nd, rfl⟩ := HD.out
   clear HD
   obtain ⟨ad, rfl, hcell⟩ : ∃ ad, A0 = some ad ∧ w.cell? (ad.add k) = some (.int .u8 (rd l0 (k : Int))) := by
    obtain ⟨ad, c, e, _, hK, hc⟩ := Kd.C_get HR0.out 0 (k : Int) (by omega) (by omega)
    have := hc 0 (.int .u8 (rd l0 (k : Int))) (by rw [show c = [.int .u8 (rd l0 (k : Int))] from hK]; rfl)
    rw [show (k : Int).toNat * (Kd.int .u8).sz + 0 = k from by show k * 1 + 0 = k; omega] at this
    exact ⟨ad, e, this⟩
   have b0 : decide (k < l0.length) = true := by simp; omega
   by_cases hp : rd l0 (k : Int) < 128
   ·have b1 := Aside0.mk hp
    clear hp
    go_wp2_with (go_at_call 48; refine (frame_within.clo _ _).mono ?_; rintro e w' ⟨rfl, hw⟩; rw [hw]; rw [decide_eq_true b1.out])
    go_ret
    exact ⟨_, rfl, ⟨fun _ => ⟨_, frame_within.rdm (by omega) (by omega), b1.out⟩, fun _ => by omega⟩, ⟨nd, rfl⟩⟩
   ·have b1 := Aside0.mk hp
    clear hp
    go_wp2_with (go_at_call 48; refine (frame_within.clo _ _).mono ?_; rintro e w' ⟨rfl, hw⟩; rw [hw]; rw [decide_eq_false b1.out])
    go_roundw
    case rel => exact ⟨k + 1, by omega, by go_num, ⟨fun j h => by
     by_cases hj : j = k
     ·subst hj; have := b1.out; omega
     ·have := HN.out j (by omega); omega⟩, ⟨nd, rfl⟩⟩
    case measure => simp [intOf]; omega
  ·have hkl : k = l0.length := by omega
   go_wp2
   go_ret
   refine ⟨_, rfl, ⟨fun h => by omega, fun h => ?_⟩, HD⟩
   obtain ⟨x, hx, hlt2⟩ := h
   obtain ⟨j, hj, rfl⟩ := List.mem_iff_getElem.1 hx
   have := HN.out j (by omega)
   simp [rd, hj] at this
   omega
set_option maxHeartbeats 1000000 in
set_option maxRecDepth 100000 in
theorem frame_within.con (A0 : Option Addr) (c0 : Nat) (l0 : List Int) (w : World) (hr0 : Kd.C (Kd.int .u8) w A0 l0.length l0) (hc0 : l0.length ≤ c0) :
  Calls Try.prog 47 #[.slice A0 l0.length c0, .func (.func 48) #[] #[]] w fun e w' => ∃ b : Bool, e = .returned (.bool b) ∧ (b = true ↔ ∃ x ∈ l0, x < 128) ∧ Drawn0 w w' := by
 go_enter Try.func47, Try.ntmps47
 go_wp2_with (go_at_call 55; refine (frame_within.idx _ _ _ _ hr0 hc0).mono ?_; rintro e w' ⟨i, rfl, hi, hd⟩; have HI := Aside0.mk hi; have HD := Aside0.mk hd; clear hi hd)
 go_ret
 refine ⟨_, rfl, ?_, HD.out⟩
 rw [← HI.out]
 simp
def frame_within.f (l0 : List Int) : Option Bool := some (decide (l0.length < 3) && l0.all fun c => decide (128 ≤ c))
set_option maxHeartbeats 1000000 in
set_option maxRecDepth 100000 in
theorem frame_within.calls (A0 : Option Addr) (c0 : Nat) (l0 : List Int) (r : Bool) (w : World) (hr0 : Kd.C (Kd.int .u8) w A0 l0.length l0) (hc0 : l0.length ≤ c0) (h : frame_within.f l0 = some r) :
  Calls Try.prog 35 #[.slice A0 l0.length c0] w fun e w' => e = .returned (.bool r) ∧ Drawn0 w w' := by
 unfold frame_within.f at h
 obtain rfl := Option.some.inj h
 clear h
 by_cases hl : l0.length < 3
 ·have b0 : decide ((l0.length : Int) < 3) = true := by simp; omega
  have b1 : decide (l0.length < 3) = true := by simp; omega
  rw [b1]
  have HH : ∀ b : Bool, (b = true ↔ ∃ x ∈ l0, x < 128) → (!b) = (true && l0.all fun c => decide (128 ≤ c)) := by
   intro b hb
   rw [Bool.true_and, Bool.eq_iff_iff, Bool.not_eq_true', ← Bool.not_eq_true, hb]
   simp
  have HH := Aside0.mk HH
  generalize (true && l0.all fun c => decide (128 ≤ c)) = z at HH ⊢
  go_enter Try.func35, Try.ntmps35
  go_wp2_with (go_at_call 47; refine (frame_within.con _ _ _ _ hr0 hc0).mono ?_; rintro e w' ⟨b, rfl, hb, hd⟩; have HB := Aside0.mk (HH.out b hb); have HD := Aside0.mk hd; clear hb hd)
  go_ret
  exact ⟨by first | rfl | (rw [HB.out]; rfl), HD.out⟩
 ·have b0 : decide ((l0.length : Int) < 3) = false := by simp; omega
  have b1 : decide (l0.length < 3) = false := by simp; omega
  rw [b1, Bool.false_and]
  go_enter Try.func35, Try.ntmps35
  go_wp2
  go_ret
  exact ⟨rfl, Drawn0.refl _⟩
end Go.Proofs.Ytjebpaahpehfnaa.PRelayPuts
