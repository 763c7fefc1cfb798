/- What the law reaches, as plain Lean functions, and that the machine's calls answer just that. -/
import Derived.Test.YtcjkchjgmgdbgaaPVictimSparsex0
import Derived.Test.YtcjkchjgmgdbgaaPVictimSparsex2
namespace Go.Proofs.Ytcjkchjgmgdbgaa.PVictimSparse
open Go.RowKit Go.Proofs.YtcjkchjgmgdbgaaW.PrintWords Go.Proofs.YtcjkchjgmgdbgaaW.PrintLast Go.Proofs.YtcjkchjgmgdbgaaW.PrintMore
attribute [local go_sem] max2_int min2_int max_two min_two max_three min_three max_four min_four
set_option linter.unusedVariables false
set_option linter.unusedSimpArgs false
attribute [local go_sem] wrap64_l1 wrap64_l2 wrap64_l3 wrap64_l4 wrap64_l5
mutual
def victim_may.j0 : Nat → List Int → List Int → Bool → Option (Bool)
 | 0, _, _, _ => none
 | k + 1, x0, x1, x34 => if x34 = true then (some false) else (victim_may.l0 k x1 0 x0 (x0.length : Int) 0)
def victim_may.l0 : Nat → List Int → Int → List Int → Int → Int → Option (Bool)
 | 0, _, _, _, _, _ => none
 | k + 1, x1, x9, x35, x36, x37 => if x37 < x36 then (if 0 ≤ x37 then (if x37 < (x35.length : Int) then (if (rd x35 x37) ≤ x9 then (some false) else (if (rd x35 x37) > 2147483647 then (some false) else (if x37 < (x1.length : Int) then (if (rd x1 x37) < 0 then (some false) else (if (rd x1 x37) > 4194304 then (some false) else (victim_may.l0 k x1 (rd x35 x37) x35 x36 (wrap64 (x37 + 1))))) else (none)))) else (none)) else (none)) else (some true)
end
def victim_may.f (k : Nat) (l0 : List Int) (l1 : List Int) (l2 : List (S132)) (a3 : Int) : Option (Bool) := if (l0.length : Int) = (l1.length : Int) then (if (l0.length : Int) > 64 then (victim_may.j0 k l0 l1 true) else (if a3 < 1 then (victim_may.j0 k l0 l1 true) else (if a3 > 100 then (victim_may.j0 k l0 l1 true) else ((tally_Check.f k l2).bind fun t130 => (victim_may.j0 k l0 l1 (t130 != 0)))))) else (victim_may.j0 k l0 l1 true)
theorem victim_may.mono_l : ∀ k, (∀ y0 y1 y2, LeO (victim_may.j0 k y0 y1 y2) (victim_may.j0 (k + 1) y0 y1 y2)) ∧ (∀ y0 y1 y2 y3 y4, LeO (victim_may.l0 k y0 y1 y2 y3 y4) (victim_may.l0 (k + 1) y0 y1 y2 y3 y4))
 | 0 => ⟨fun _ _ _ r h => by simp [victim_may.j0] at h, fun _ _ _ _ _ r h => by simp [victim_may.l0] at h⟩
 | k + 1 => by
  obtain ⟨ih0, ih1⟩ := victim_may.mono_l k
  refine ⟨?_, ?_⟩
  ·intro y0 y1 y2
   unfold victim_may.j0
   repeat' first
   | (with_reducible exact ih0 _ _ _)
   | (with_reducible exact ih1 _ _ _ _ _)
   | (with_reducible exact tally_Check.mono _ _)
   | (with_reducible exact LeO.refl _)
   | (with_reducible exact LeO.none _)
   | (with_reducible refine LeO.ite ?_ ?_)
   | (with_reducible refine LeO.bind ?_ (fun _ => ?_))
   | exact ih0 _ _ _
   | exact ih1 _ _ _ _ _
   | exact tally_Check.mono _ _
   | exact LeO.none _
   | refine LeO.ite ?_ ?_
   | refine LeO.bind ?_ (fun _ => ?_)
  ·intro y0 y1 y2 y3 y4
   unfold victim_may.l0
   repeat' first
   | (with_reducible exact ih0 _ _ _)
   | (with_reducible exact ih1 _ _ _ _ _)
   | (with_reducible exact tally_Check.mono _ _)
   | (with_reducible exact LeO.refl _)
   | (with_reducible exact LeO.none _)
   | (with_reducible refine LeO.ite ?_ ?_)
   | (with_reducible refine LeO.bind ?_ (fun _ => ?_))
   | exact ih0 _ _ _
   | exact ih1 _ _ _ _ _
   | exact tally_Check.mono _ _
   | exact LeO.none _
   | refine LeO.ite ?_ ?_
   | refine LeO.bind ?_ (fun _ => ?_)
theorem victim_may.mono : ∀ a0 a1 a2 a3 k, LeO (victim_may.f k a0 a1 a2 a3) (victim_may.f (k + 1) a0 a1 a2 a3) := by
 intro a0 a1 a2 a3 k
 obtain ⟨ih0, ih1⟩ := victim_may.mono_l k
 unfold victim_may.f
 repeat' first
   | (with_reducible exact ih0 _ _ _)
   | (with_reducible exact ih1 _ _ _ _ _)
   | (with_reducible exact tally_Check.mono _ _)
   | (with_reducible exact LeO.refl _)
   | (with_reducible exact LeO.none _)
   | (with_reducible refine LeO.ite ?_ ?_)
   | (with_reducible refine LeO.bind ?_ (fun _ => ?_))
   | exact ih0 _ _ _
   | exact ih1 _ _ _ _ _
   | exact tally_Check.mono _ _
   | exact LeO.none _
   | refine LeO.ite ?_ ?_
   | refine LeO.bind ?_ (fun _ => ?_)
set_option maxHeartbeats 8000000 in
set_option maxRecDepth 100000 in
theorem victim_may.calls (k : Nat) (A0 : Option Addr) (c0 : Nat) (l0 : List Int) (A1 : Option Addr) (c1 : Nat) (l1 : List Int) (A2 : Option Addr) (c2 : Nat) (l2 : List (S132)) (a3 : Int) (r : Bool) (w : World) (hr0 : Kd.C (Kd.int .i64) w A0 l0.length l0) (hc0 : l0.length ≤ c0) (hr1 : Kd.C (Kd.int .i64) w A1 l1.length l1) (hc1 : l1.length ≤ c1) (hr2 : Kd.C k132 w A2 l2.length l2) (hc2 : l2.length ≤ c2) (h : victim_may.f k l0 l1 l2 a3 = some r) :
  Calls Try.prog 121 #[.slice A0 l0.length c0, .slice A1 l1.length c1, .slice A2 l2.length c2, .int .i64 a3] w fun e w' => e = .returned (.bool r) ∧ Below w.heap.size w w' := by
 have HR0 := Aside0.mk hr0
 have HC0 := Aside0.mk hc0
 clear hr0 hc0
 have HR1 := Aside0.mk hr1
 have HC1 := Aside0.mk hc1
 clear hr1 hc1
 have HR2 := Aside0.mk hr2
 have HC2 := Aside0.mk hc2
 clear hr2 hc2
 have HB := Aside0.mk (Below.refl w.heap.size w)
 have H : (if (l0.length : Int) = (l1.length : Int) then (if (l0.length : Int) > 64 then (victim_may.j0 k l0 l1 true) else (if a3 < 1 then (victim_may.j0 k l0 l1 true) else (if a3 > 100 then (victim_may.j0 k l0 l1 true) else ((tally_Check.f k l2).bind fun t130 => (victim_may.j0 k l0 l1 (t130 != 0)))))) else (victim_may.j0 k l0 l1 true)) = some r := h
 clear h
 have HC5 := Aside0.mk H
 clear H
 go_enter Try.func121, Try.ntmps121
 go_upto_region 1 with (fail)
 go_cut [34] (fun v34 wc => ∃ (kq : Nat) (x34_4 : Bool), v34 = .bool x34_4 ∧ Aside0 (victim_may.j0 kq l0 l1 x34_4 = some r) ∧ Aside0 (kq ≤ k) ∧ Aside0 (Below w.heap.size w wc))
 case first =>
  have H := HC5.out
  clear HC5
  by_cases c6 : (l0.length : Int) = (l1.length : Int)
  ·rw [if_pos c6] at H
   have c6b0 : ((l0.length : Int) == (l1.length : Int)) = true := beq_iff_eq.mpr c6
   have c6b1 : ((l0.length : Int) != (l1.length : Int)) = false := bne_eq_false_iff_eq.mpr c6
   have c6b2 : (l0.length == l1.length) = true := by first | simpa using c6 | (simp at c6 ⊢; omega)
   clear c6
   (first | rw [c6b0] | (simp only [i64_w, i32_w]; rw [c6b0]) | skip)
   by_cases c7 : (l0.length : Int) > 64
   ·rw [if_pos c7] at H
    have c7b0 : decide (64 < (l0.length : Int)) = true := decide_eq_true c7
    have c7b1 : decide (64 < l0.length) = true := decide_eq_true (by omega)
    clear c7
    have H' := Aside0.mk H
    clear H
    go_wp2
    go_meet
    case rel => exact ⟨_, (true), (by first | rfl | (simp; done) | (simp [*]; done)), H', ⟨by first | omega | exact Nat.le_refl _⟩, ⟨by repeat (first | (with_reducible first | exact HB.out | apply below_alloc | apply pw_below_drewN | apply below_drew1) | exact HB.out)⟩⟩
   ·rw [if_neg c7] at H
    have c7b0 : decide (64 < (l0.length : Int)) = false := decide_eq_false c7
    have c7b1 : decide (64 < l0.length) = false := decide_eq_false (by omega)
    clear c7
    by_cases c8 : a3 < 1
    ·rw [if_pos c8] at H
     have c8b0 : decide (a3 < 1) = true := decide_eq_true c8
     clear c8
     have H' := Aside0.mk H
     clear H
     go_wp2
     go_meet
     case rel => exact ⟨_, (true), (by first | rfl | (simp; done) | (simp [*]; done)), H', ⟨by first | omega | exact Nat.le_refl _⟩, ⟨by repeat (first | (with_reducible first | exact HB.out | apply below_alloc | apply pw_below_drewN | apply below_drew1) | exact HB.out)⟩⟩
    ·rw [if_neg c8] at H
     have c8b0 : decide (a3 < 1) = false := decide_eq_false c8
     clear c8
     by_cases c9 : a3 > 100
     ·rw [if_pos c9] at H
      have c9b0 : decide (100 < a3) = true := decide_eq_true c9
      clear c9
      have H' := Aside0.mk H
      clear H
      go_wp2
      go_meet
      case rel => exact ⟨_, (true), (by first | rfl | (simp; done) | (simp [*]; done)), H', ⟨by first | omega | exact Nat.le_refl _⟩, ⟨by repeat (first | (with_reducible first | exact HB.out | apply below_alloc | apply pw_below_drewN | apply below_drew1) | exact HB.out)⟩⟩
     ·rw [if_neg c9] at H
      have c9b0 : decide (100 < a3) = false := decide_eq_false c9
      clear c9
      replace H := Option.bind_eq_some_iff.mp H
      obtain ⟨t130, A100, H⟩ := H
      replace H : (victim_may.j0 k l0 l1 (t130 != 0)) = some r := H
      have A10 := Aside0.mk A100
      clear A100
      have H' := Aside0.mk H
      clear H
      go_wp2_with (first | (go_at_call 42; (with_reducible refine (tally_Check.calls k _ _ l2 t130 _ ?side1 ?side2 A10.out).mono ?_); (case side1 => exact pC (Kd.C_below HR2.out HB.out)); (case side2 => exact HC2.out); rintro e w11 ⟨rfl, hb⟩; have n0_ := Aside0.mk (below_step (pB HB.out) hb); clear HB; have HB := n0_; clear n0_; (try clear hb); (try clear hb2); (try clear hk); (try clear hi)))
      go_meet
      case rel => exact ⟨_, ((t130 != 0)), (by first | rfl | (simp; done) | (simp [*]; done)), H', ⟨by first | omega | exact Nat.le_refl _⟩, ⟨by repeat (first | (with_reducible first | exact HB.out | apply below_alloc | apply pw_below_drewN | apply below_drew1) | exact HB.out)⟩⟩
  ·rw [if_neg c6] at H
   have c6b0 : ((l0.length : Int) == (l1.length : Int)) = false := beq_eq_false_iff_ne.mpr c6
   have c6b1 : ((l0.length : Int) != (l1.length : Int)) = true := bne_iff_ne.mpr c6
   have c6b2 : (l0.length == l1.length) = false := by first | simpa using c6 | (simp at c6 ⊢; omega)
   (first | rw [c6b0] | (simp only [i64_w, i32_w]; rw [c6b0]) | skip)
   have H' := Aside0.mk H
   clear H
   go_wp2
   go_meet
   case rel => exact ⟨_, (true), (by first | rfl | (simp; done) | (simp [*]; done)), H', ⟨by first | omega | exact Nat.le_refl _⟩, ⟨by repeat (first | (with_reducible first | exact HB.out | apply below_alloc | apply pw_below_drewN | apply below_drew1) | exact HB.out)⟩⟩
 case rest =>
  clear HC5
  try clear c1
  try clear c2
  try clear p2
  try clear c6
  try clear c6b0
  try clear c6b1
  try clear c6b2
  try clear c7
  try clear c7b0
  try clear c7b1
  try clear c8
  try clear c8b0
  try clear c9
  try clear c9b0
  obtain ⟨kq, x34_4, rfl, HA, HJ4, HB⟩ := hcut
  cases kq with
  | zero => exact absurd HA.out (by simp [victim_may.j0])
  | succ kj4 =>
   have H := HA.out
   clear HA
   simp only [victim_may.j0] at H
   by_cases c12 : x34_4 = true
   ·subst c12
    have H1 : (some false) = some r := by rw [if_pos rfl] at H; exact H
    clear H
    have H := H1
    clear H1
    obtain rfl := Option.some.inj H
    go_wp2
    go_ret
    exact ⟨by first | rfl | (simp [errW_none, errW_some] <;> rfl) | (simp [*, errW_none, errW_some] <;> rfl), by repeat (first | (with_reducible first | exact HB.out | apply below_alloc | apply pw_below_drewN | apply below_drew1) | exact HB.out)⟩
   ·replace c12 := Bool.eq_false_iff.mpr c12
    subst c12
    have H1 : (victim_may.l0 kj4 l1 0 l0 (l0.length : Int) 0) = some r := by rw [if_neg (show ¬ (false = true) by decide)] at H; exact H
    clear H
    have H := H1
    clear H1
    have H' := Aside0.mk H
    clear H
    go_wp2
    go_loopg [9, 37] kj4 (fun kq v9 v37 w' => ∃ (x9_2 : Int) (x37_2 : Int), v9 = .int .i64 x9_2 ∧ v37 = .int .i64 x37_2 ∧ Aside0 (victim_may.l0 kq l1 x9_2 l0 (l0.length : Int) x37_2 = some r) ∧ Aside0 (kq ≤ kj4) ∧ Aside0 (Below w.heap.size w w'))
    case atStart => exact ⟨(0), (0), (by first | rfl | (simp; done) | (simp [*]; done)), (by first | rfl | (simp; done) | (simp [*]; done)), H', ⟨Nat.le_refl _⟩, ⟨by repeat (first | (with_reducible first | exact HB.out | apply below_alloc | apply pw_below_drewN | apply below_drew1) | exact HB.out)⟩⟩
    case round =>
     clear H'
     try clear c1
     try clear c2
     try clear p2
     try clear c6
     try clear c6b0
     try clear c6b1
     try clear c6b2
     try clear c7
     try clear c7b0
     try clear c7b1
     try clear c8
     try clear c8b0
     try clear c9
     try clear c9b0
     try clear c12
     try clear p2
     obtain ⟨x9_2, x37_2, rfl, rfl, HA, HK2, HB⟩ := hrel
     cases gk with
     | zero => exact absurd HA.out (by simp [victim_may.l0])
     | succ k2 =>
      have H := HA.out
      clear HA
      simp only [victim_may.l0] at H
      by_cases c13 : x37_2 < (l0.length : Int)
      ·rw [if_pos c13] at H
       have c13b0 : decide (x37_2 < (l0.length : Int)) = true := decide_eq_true c13
       clear c13
       by_cases c14 : 0 ≤ x37_2
       ·rw [if_pos c14] at H
        have c14b0 : decide (0 ≤ x37_2) = true := decide_eq_true c14
        clear c14
        by_cases c15 : x37_2 < (l0.length : Int)
        ·rw [if_pos c15] at H
         have c15b0 : decide (x37_2 < (l0.length : Int)) = true := decide_eq_true c15
         clear c15
         by_cases c16 : (rd l0 x37_2) ≤ x9_2
         ·rw [if_pos c16] at H
          have c16b0 : decide ((rd l0 x37_2) ≤ x9_2) = true := decide_eq_true c16
          clear c16
          obtain rfl := Option.some.inj H
          have p131 : 0 ≤ (x37_2 : Int) := of_decide_eq_true pS
          have q131 : x37_2 < (l0.length : Int) := of_decide_eq_true pS
          obtain ⟨ad131, e131, hx131_0⟩ := Kd.at_int HR0.out x37_2 p131 q131
          cases e131
          replace hx131_0 := (HB.out.cell (World.block_lt_of_cell? w _ hx131_0)).trans hx131_0
          replace p131 := eq_true p131
          replace q131 := eq_true q131
          go_wp2
          go_ret
          exact ⟨by first | rfl | (simp [errW_none, errW_some] <;> rfl) | (simp [*, errW_none, errW_some] <;> rfl), by repeat (first | (with_reducible first | exact HB.out | apply below_alloc | apply pw_below_drewN | apply below_drew1) | exact HB.out)⟩
         ·rw [if_neg c16] at H
          have c16b0 : decide ((rd l0 x37_2) ≤ x9_2) = false := decide_eq_false c16
          clear c16
          by_cases c17 : (rd l0 x37_2) > 2147483647
          ·rw [if_pos c17] at H
           have c17b0 : decide (2147483647 < (rd l0 x37_2)) = true := decide_eq_true c17
           clear c17
           obtain rfl := Option.some.inj H
           have p131 : 0 ≤ (x37_2 : Int) := of_decide_eq_true pS
           have q131 : x37_2 < (l0.length : Int) := of_decide_eq_true pS
           obtain ⟨ad131, e131, hx131_0⟩ := Kd.at_int HR0.out x37_2 p131 q131
           cases e131
           replace hx131_0 := (HB.out.cell (World.block_lt_of_cell? w _ hx131_0)).trans hx131_0
           replace p131 := eq_true p131
           replace q131 := eq_true q131
           go_wp2
           go_ret
           exact ⟨by first | rfl | (simp [errW_none, errW_some] <;> rfl) | (simp [*, errW_none, errW_some] <;> rfl), by repeat (first | (with_reducible first | exact HB.out | apply below_alloc | apply pw_below_drewN | apply below_drew1) | exact HB.out)⟩
          ·rw [if_neg c17] at H
           have c17b0 : decide (2147483647 < (rd l0 x37_2)) = false := decide_eq_false c17
           clear c17
           by_cases c18 : x37_2 < (l1.length : Int)
           ·rw [if_pos c18] at H
            have c18b0 : decide (x37_2 < (l1.length : Int)) = true := decide_eq_true c18
            clear c18
            by_cases c19 : (rd l1 x37_2) < 0
            ·rw [if_pos c19] at H
             have c19b0 : decide ((rd l1 x37_2) < 0) = true := decide_eq_true c19
             clear c19
             obtain rfl := Option.some.inj H
             have p131 : 0 ≤ (x37_2 : Int) := of_decide_eq_true pS
             have q131 : x37_2 < (l0.length : Int) := of_decide_eq_true pS
             obtain ⟨ad131, e131, hx131_0⟩ := Kd.at_int HR0.out x37_2 p131 q131
             cases e131
             replace hx131_0 := (HB.out.cell (World.block_lt_of_cell? w _ hx131_0)).trans hx131_0
             replace p131 := eq_true p131
             replace q131 := eq_true q131
             have p132 : 0 ≤ (x37_2 : Int) := of_decide_eq_true pS
             have q132 : x37_2 < (l1.length : Int) := of_decide_eq_true pS
             obtain ⟨ad132, e132, hx132_0⟩ := Kd.at_int HR1.out x37_2 p132 q132
             cases e132
             replace hx132_0 := (HB.out.cell (World.block_lt_of_cell? w _ hx132_0)).trans hx132_0
             replace p132 := eq_true p132
             replace q132 := eq_true q132
             go_wp2
             go_ret
             exact ⟨by first | rfl | (simp [errW_none, errW_some] <;> rfl) | (simp [*, errW_none, errW_some] <;> rfl), by repeat (first | (with_reducible first | exact HB.out | apply below_alloc | apply pw_below_drewN | apply below_drew1) | exact HB.out)⟩
            ·rw [if_neg c19] at H
             have c19b0 : decide ((rd l1 x37_2) < 0) = false := decide_eq_false c19
             clear c19
             by_cases c20 : (rd l1 x37_2) > 4194304
             ·rw [if_pos c20] at H
              have c20b0 : decide (4194304 < (rd l1 x37_2)) = true := decide_eq_true c20
              clear c20
              obtain rfl := Option.some.inj H
              have p131 : 0 ≤ (x37_2 : Int) := of_decide_eq_true pS
              have q131 : x37_2 < (l0.length : Int) := of_decide_eq_true pS
              obtain ⟨ad131, e131, hx131_0⟩ := Kd.at_int HR0.out x37_2 p131 q131
              cases e131
              replace hx131_0 := (HB.out.cell (World.block_lt_of_cell? w _ hx131_0)).trans hx131_0
              replace p131 := eq_true p131
              replace q131 := eq_true q131
              have p132 : 0 ≤ (x37_2 : Int) := of_decide_eq_true pS
              have q132 : x37_2 < (l1.length : Int) := of_decide_eq_true pS
              obtain ⟨ad132, e132, hx132_0⟩ := Kd.at_int HR1.out x37_2 p132 q132
              cases e132
              replace hx132_0 := (HB.out.cell (World.block_lt_of_cell? w _ hx132_0)).trans hx132_0
              replace p132 := eq_true p132
              replace q132 := eq_true q132
              have p133 : 0 ≤ (x37_2 : Int) := of_decide_eq_true pS
              have q133 : x37_2 < (l1.length : Int) := of_decide_eq_true pS
              obtain ⟨ad133, e133, hx133_0⟩ := Kd.at_int HR1.out x37_2 p133 q133
              obtain rfl : ad132 = ad133 := (by injection e133)
              replace hx133_0 := (HB.out.cell (World.block_lt_of_cell? w _ hx133_0)).trans hx133_0
              replace p133 := eq_true p133
              replace q133 := eq_true q133
              go_wp2
              go_ret
              exact ⟨by first | rfl | (simp [errW_none, errW_some] <;> rfl) | (simp [*, errW_none, errW_some] <;> rfl), by repeat (first | (with_reducible first | exact HB.out | apply below_alloc | apply pw_below_drewN | apply below_drew1) | exact HB.out)⟩
             ·rw [if_neg c20] at H
              have c20b0 : decide (4194304 < (rd l1 x37_2)) = false := decide_eq_false c20
              clear c20
              have H' := Aside0.mk H
              clear H
              have p131 : 0 ≤ (x37_2 : Int) := of_decide_eq_true pS
              have q131 : x37_2 < (l0.length : Int) := of_decide_eq_true pS
              obtain ⟨ad131, e131, hx131_0⟩ := Kd.at_int HR0.out x37_2 p131 q131
              cases e131
              replace hx131_0 := (HB.out.cell (World.block_lt_of_cell? w _ hx131_0)).trans hx131_0
              replace p131 := eq_true p131
              replace q131 := eq_true q131
              have p132 : 0 ≤ (x37_2 : Int) := of_decide_eq_true pS
              have q132 : x37_2 < (l1.length : Int) := of_decide_eq_true pS
              obtain ⟨ad132, e132, hx132_0⟩ := Kd.at_int HR1.out x37_2 p132 q132
              cases e132
              replace hx132_0 := (HB.out.cell (World.block_lt_of_cell? w _ hx132_0)).trans hx132_0
              replace p132 := eq_true p132
              replace q132 := eq_true q132
              have p133 : 0 ≤ (x37_2 : Int) := of_decide_eq_true pS
              have q133 : x37_2 < (l1.length : Int) := of_decide_eq_true pS
              obtain ⟨ad133, e133, hx133_0⟩ := Kd.at_int HR1.out x37_2 p133 q133
              obtain rfl : ad132 = ad133 := (by injection e133)
              replace hx133_0 := (HB.out.cell (World.block_lt_of_cell? w _ hx133_0)).trans hx133_0
              replace p133 := eq_true p133
              replace q133 := eq_true q133
              go_wp2
              go_roundg k2
              case measure => have := HJ4.out; have := HK2.out; omega
              case rel => exact ⟨(rd l0 x37_2), (wrap64 (x37_2 + 1)), (by first | rfl | (simp; done) | (simp [*]; done)), (by first | rfl | (simp; done) | (simp [*]; done)), H', ⟨by have := HJ4.out; have := HK2.out; omega⟩, ⟨by repeat (first | (with_reducible first | exact HB.out | apply below_alloc | apply pw_below_drewN | apply below_drew1) | exact HB.out)⟩⟩
           ·rw [if_neg c18] at H
            exact absurd H (by simp)
        ·rw [if_neg c15] at H
         exact absurd H (by simp)
       ·rw [if_neg c14] at H
        exact absurd H (by simp)
      ·rw [if_neg c13] at H
       have c13b0 : decide (x37_2 < (l0.length : Int)) = false := decide_eq_false c13
       clear c13
       obtain rfl := Option.some.inj H
       go_wp2
       go_ret
       exact ⟨by first | rfl | (simp [errW_none, errW_some] <;> rfl) | (simp [*, errW_none, errW_some] <;> rfl), by repeat (first | (with_reducible first | exact HB.out | apply below_alloc | apply pw_below_drewN | apply below_drew1) | exact HB.out)⟩
end Go.Proofs.Ytcjkchjgmgdbgaa.PVictimSparse
