/- What the law reaches, as plain Lean functions, and that the machine's calls answer just that. -/
import Derived.Test.YtdanmjfkocjgjaaPWalPutsx0
import Derived.Test.YtdanmjfkocjgjaaPWalPutsx5
namespace Go.Proofs.Ytdanmjfkocjgjaa.PWalPuts
open Go.RowKit Go.Proofs.YtdanmjfkocjgjaaW.PrintWords Go.Proofs.YtdanmjfkocjgjaaW.PrintLast Go.Proofs.YtdanmjfkocjgjaaW.PrintMore
attribute [local go_sem] max2_int min2_int max_two min_two max_three min_three max_four min_four
set_option linter.unusedVariables false
set_option maxHeartbeats 8000000
set_option linter.unusedSimpArgs false
attribute [local go_sem] wrap64_l1 wrap64_l2 wrap64_l3 wrap64_l4 wrap64_l5
attribute [local go_sem high] eqA28
mutual
def garnerlaw06_Light.l0 : Nat → List (S52) → Int → Option (Bool)
 | 0, _, _ => none
 | k + 1, x0, x3 => if x3 < (x0.length : Int) then (garnerlaw06_Light.j1 k x0 x3 (decide (x3 ≤ 40))) else (garnerlaw06_Light.j1 k x0 x3 false)
def garnerlaw06_Light.j1 : Nat → List (S52) → Int → Bool → Option (Bool)
 | 0, _, _, _ => none
 | k + 1, x0, x3, x11 => if x11 = true then (if 0 ≤ x3 then (if x3 < (x0.length : Int) then (if (((rd_T52 x0 x3).f3).size : Int) > 200 then (some false) else (if (((rd_T52 x0 x3).f4.f1).length : Int) > 200 then (some false) else (garnerlaw06_Light.l0 k x0 (wrap64 (x3 + 1))))) else (none)) else (none)) else (some (decide ((x0.length : Int) ≤ 40)))
end
def garnerlaw06_Light.f (k : Nat) (l0 : List (S52)) : Option (Bool) := garnerlaw06_Light.l0 k l0 0
theorem garnerlaw06_Light.mono_l : ∀ k, (∀ y0 y1, LeO (garnerlaw06_Light.l0 k y0 y1) (garnerlaw06_Light.l0 (k + 1) y0 y1)) ∧ (∀ y0 y1 y2, LeO (garnerlaw06_Light.j1 k y0 y1 y2) (garnerlaw06_Light.j1 (k + 1) y0 y1 y2))
 | 0 => ⟨fun _ _ r h => by simp [garnerlaw06_Light.l0] at h, fun _ _ _ r h => by simp [garnerlaw06_Light.j1] at h⟩
 | k + 1 => by
  obtain ⟨ih0, ih1⟩ := garnerlaw06_Light.mono_l k
  refine ⟨?_, ?_⟩
  ·intro y0 y1
   unfold garnerlaw06_Light.l0
   repeat' (with_reducible first | exact ih0 .. | exact ih1 .. | exact LeO.refl .. | exact LeO.none .. | refine LeO.ite ?_ ?_ | refine LeO.bind ?_ (fun _ => ?_))
  ·intro y0 y1 y2
   unfold garnerlaw06_Light.j1
   repeat' (with_reducible first | exact ih0 .. | exact ih1 .. | exact LeO.refl .. | exact LeO.none .. | refine LeO.ite ?_ ?_ | refine LeO.bind ?_ (fun _ => ?_))
theorem garnerlaw06_Light.mono : ∀ a0 k, LeO (garnerlaw06_Light.f k a0) (garnerlaw06_Light.f (k + 1) a0) := by
 intro a0 k
 obtain ⟨ih0, ih1⟩ := garnerlaw06_Light.mono_l k
 unfold garnerlaw06_Light.f
 repeat' (with_reducible first | exact ih0 .. | exact ih1 .. | exact LeO.refl .. | exact LeO.none .. | refine LeO.ite ?_ ?_ | refine LeO.bind ?_ (fun _ => ?_))
set_option maxRecDepth 100000 in
theorem garnerlaw06_Light.calls (k : Nat) (A0 : Option Addr) (c0 : Nat) (l0 : List (S52)) (r : Bool) (w : World) (hr0 : Kd.C k52 w A0 l0.length l0) (hc0 : l0.length ≤ c0) (h : garnerlaw06_Light.f k l0 = some r) :
 Calls Try.prog 24 #[.slice A0 l0.length c0] w fun e w' => e = .returned (.bool r) ∧ Drawn0 w w' := by
 have HR0 := Am hr0
 have HC0 := Am hc0
 clear hr0 hc0
 unfold garnerlaw06_Light.f at h
 have H := h
 clear h
 have H' := Am H
 clear H
 go_enter Try.func24, Try.ntmps24
 go_wp2
 go_loopg [3] k (fun kq v3 w' => ∃ (Aa : Int), v3 = .int .i64 Aa ∧ Aside0 (garnerlaw06_Light.l0 kq l0 Aa = some r) ∧ Aside0 (kq ≤ k) ∧ Drawn0 w w')
 case atStart => exact ⟨(0), zr, H', ⟨Nat.le_refl _⟩, zd⟩
 case round =>
  clear H'
  obtain ⟨Aa, rfl, HA, HK1, ⟨m1, rfl⟩⟩ := hrel
  cases gk with
  | zero => exact absurd HA.out (by simp [garnerlaw06_Light.l0])
  | succ k1 =>
   have H := HA.out
   clear HA
   simp only [garnerlaw06_Light.l0] at H
   have HC2 := Am H
   clear H
   go_upto_region 2 with (fail)
   go_cut [11] (fun v11 wc => ∃ (kq : Nat) (Ad : Bool), v11 = .bool Ad ∧ Aside0 (garnerlaw06_Light.j1 kq l0 Aa Ad = some r) ∧ Aside0 (kq ≤ k1) ∧ Drawn0 w wc)
   case first =>
    have H := HC2.out
    clear HC2
    by_cases c3 : Aa < (l0.length : Int)
    ·rw [if_pos c3] at H
     have c3b0 := decide_eq_true c3
     clear c3
     (first | rw [c3b0] | (simp only [i64_w, i32_w]; rw [c3b0]) | skip)
     have H' := Am H
     clear H
     go_wp2
     go_meet
     case rel => exact ⟨_, (decide (Aa ≤ 40)), zr, H', ⟨by have := HK1.out; first | omega | exact Nat.le_refl _⟩, zd⟩
    rw [if_neg c3] at H
    have c3b0 := decide_eq_false c3
    clear c3
    (first | rw [c3b0] | (simp only [i64_w, i32_w]; rw [c3b0]) | skip)
    have H' := Am H
    clear H
    go_wp2
    go_meet
    case rel => exact ⟨_, (false), zr, H', ⟨by have := HK1.out; first | omega | exact Nat.le_refl _⟩, zd⟩
   case rest =>
    clear HC2
    try clear c2
    try clear p2
    try clear c3
    try clear c3b0
    obtain ⟨kq, Ad, rfl, HA, HJ1, ⟨mc1, rfl⟩⟩ := hcut
    cases kq with
    | zero => exact absurd HA.out (by simp [garnerlaw06_Light.j1])
    | succ kj1 =>
     have H := HA.out
     clear HA
     simp only [garnerlaw06_Light.j1] at H
     by_cases c4 : Ad = true
     rotate_left
     ·replace c4 := Bool.eq_false_iff.mpr c4
      subst c4
      rw [if_neg zF] at H
      obtain rfl := Option.some.inj H
      go_wp2
      go_ret
      exact ⟨zr, zd⟩
     subst c4
     rw [if_pos rfl] at H
     obtain ⟨c5, H⟩ := zI H
     have c5b0 := decide_eq_true c5
     clear c5
     obtain ⟨c6, H⟩ := zI H
     have c6b0 := decide_eq_true c6
     clear c6
     by_cases c7 : (((rd_T52 l0 Aa).f3).size : Int) > 200
     ·rw [if_pos c7] at H
      have c7b0 : decide (200 < (((rd_T52 l0 Aa).f3).size : Int)) = true := decide_eq_true c7
      have c7b1 : decide (200 < ((rd_T52 l0 Aa).f3).size) = true := decide_eq_true (by omega)
      clear c7
      obtain rfl := Option.some.inj H
      have p399 : 0 ≤ (Aa : Int) := of_decide_eq_true pS
      have q399 : Aa < (l0.length : Int) := of_decide_eq_true pS
      obtain ⟨As, Ar, c399_5, e399, Ae, Af, Ag, Ah, Ai, Aj, Ak, Al, An, Ao, Ab, Ac⟩ := at_T52 HR0.out Aa p399 q399
      cases e399
      have Ap := Am Ac
      have Aq := Am Ab
      clear Ac Ab
      replace p399 := eq_true p399
      replace q399 := eq_true q399
      go_wp2
      go_ret
      exact ⟨zr, zd⟩
     rw [if_neg c7] at H
     have c7b0 : decide (200 < (((rd_T52 l0 Aa).f3).size : Int)) = false := decide_eq_false c7
     have c7b1 : decide (200 < ((rd_T52 l0 Aa).f3).size) = false := decide_eq_false (by omega)
     clear c7
     by_cases c8 : (((rd_T52 l0 Aa).f4.f1).length : Int) > 200
     ·rw [if_pos c8] at H
      have c8b0 : decide (200 < (((rd_T52 l0 Aa).f4.f1).length : Int)) = true := decide_eq_true c8
      have c8b1 : decide (200 < ((rd_T52 l0 Aa).f4.f1).length) = true := decide_eq_true (by omega)
      clear c8
      obtain rfl := Option.some.inj H
      have p399 : 0 ≤ (Aa : Int) := of_decide_eq_true pS
      have q399 : Aa < (l0.length : Int) := of_decide_eq_true pS
      obtain ⟨As, Ar, c399_5, e399, Ae, Af, Ag, Ah, Ai, Aj, Ak, Al, An, Ao, Ab, Ac⟩ := at_T52 HR0.out Aa p399 q399
      cases e399
      have Ap := Am Ac
      have Aq := Am Ab
      clear Ac Ab
      replace p399 := eq_true p399
      replace q399 := eq_true q399
      go_wp2
      go_ret
      exact ⟨zr, zd⟩
     rw [if_neg c8] at H
     have c8b0 : decide (200 < (((rd_T52 l0 Aa).f4.f1).length : Int)) = false := decide_eq_false c8
     have c8b1 : decide (200 < ((rd_T52 l0 Aa).f4.f1).length) = false := decide_eq_false (by omega)
     clear c8
     have H' := Am H
     clear H
     have p399 : 0 ≤ (Aa : Int) := of_decide_eq_true pS
     have q399 : Aa < (l0.length : Int) := of_decide_eq_true pS
     obtain ⟨As, Ar, c399_5, e399, Ae, Af, Ag, Ah, Ai, Aj, Ak, Al, An, Ao, Ab, Ac⟩ := at_T52 HR0.out Aa p399 q399
     cases e399
     have Ap := Am Ac
     have Aq := Am Ab
     clear Ac Ab
     replace p399 := eq_true p399
     replace q399 := eq_true q399
     go_wp2
     go_roundg kj1
     case measure => have := HK1.out; have := HJ1.out; omega
     case rel => exact ⟨(wrap64 (Aa + 1)), zr, H', ⟨by have := HK1.out; have := HJ1.out; omega⟩, zd⟩
mutual
def garnerlaw24_Light.l0 : Nat → List (S30) → Int → Option (Bool)
 | 0, _, _ => none
 | k + 1, x0, x3 => if x3 < (x0.length : Int) then (garnerlaw24_Light.j1 k x0 x3 (decide (x3 ≤ 60))) else (garnerlaw24_Light.j1 k x0 x3 false)
def garnerlaw24_Light.j1 : Nat → List (S30) → Int → Bool → Option (Bool)
 | 0, _, _, _ => none
 | k + 1, x0, x3, x11 => if x11 = true then (if 0 ≤ x3 then (if x3 < (x0.length : Int) then ((garnerlaw06_Light.f k ((rd_T30 x0 x3).f1)).bind fun t402 => (if t402 = true then (garnerlaw24_Light.l0 k x0 (wrap64 (x3 + 1))) else (some false))) else (none)) else (none)) else (some (decide ((x0.length : Int) ≤ 60)))
end
def garnerlaw24_Light.f (k : Nat) (l0 : List (S30)) : Option (Bool) := garnerlaw24_Light.l0 k l0 0
theorem garnerlaw24_Light.mono_l : ∀ k, (∀ y0 y1, LeO (garnerlaw24_Light.l0 k y0 y1) (garnerlaw24_Light.l0 (k + 1) y0 y1)) ∧ (∀ y0 y1 y2, LeO (garnerlaw24_Light.j1 k y0 y1 y2) (garnerlaw24_Light.j1 (k + 1) y0 y1 y2))
 | 0 => ⟨fun _ _ r h => by simp [garnerlaw24_Light.l0] at h, fun _ _ _ r h => by simp [garnerlaw24_Light.j1] at h⟩
 | k + 1 => by
  obtain ⟨ih0, ih1⟩ := garnerlaw24_Light.mono_l k
  refine ⟨?_, ?_⟩
  ·intro y0 y1
   unfold garnerlaw24_Light.l0
   repeat' (with_reducible first | exact ih0 .. | exact ih1 .. | exact garnerlaw06_Light.mono .. | exact LeO.refl .. | exact LeO.none .. | refine LeO.ite ?_ ?_ | refine LeO.bind ?_ (fun _ => ?_))
  ·intro y0 y1 y2
   unfold garnerlaw24_Light.j1
   repeat' (with_reducible first | exact ih0 .. | exact ih1 .. | exact garnerlaw06_Light.mono .. | exact LeO.refl .. | exact LeO.none .. | refine LeO.ite ?_ ?_ | refine LeO.bind ?_ (fun _ => ?_))
theorem garnerlaw24_Light.mono : ∀ a0 k, LeO (garnerlaw24_Light.f k a0) (garnerlaw24_Light.f (k + 1) a0) := by
 intro a0 k
 obtain ⟨ih0, ih1⟩ := garnerlaw24_Light.mono_l k
 unfold garnerlaw24_Light.f
 repeat' (with_reducible first | exact ih0 .. | exact ih1 .. | exact garnerlaw06_Light.mono .. | exact LeO.refl .. | exact LeO.none .. | refine LeO.ite ?_ ?_ | refine LeO.bind ?_ (fun _ => ?_))
set_option maxRecDepth 100000 in
theorem garnerlaw24_Light.calls (k : Nat) (A0 : Option Addr) (c0 : Nat) (l0 : List (S30)) (r : Bool) (w : World) (hr0 : Kd.C k30 w A0 l0.length l0) (hc0 : l0.length ≤ c0) (h : garnerlaw24_Light.f k l0 = some r) :
 Calls Try.prog 9 #[.slice A0 l0.length c0] w fun e w' => e = .returned (.bool r) ∧ Drawn0 w w' := by
 have HR0 := Am hr0
 have HC0 := Am hc0
 clear hr0 hc0
 unfold garnerlaw24_Light.f at h
 have H := h
 clear h
 have H' := Am H
 clear H
 go_enter Try.func9, Try.ntmps9
 go_wp2
 go_loopg [3] k (fun kq v3 w' => ∃ (Aa : Int), v3 = .int .i64 Aa ∧ Aside0 (garnerlaw24_Light.l0 kq l0 Aa = some r) ∧ Aside0 (kq ≤ k) ∧ Drawn0 w w')
 case atStart => exact ⟨(0), zr, H', ⟨Nat.le_refl _⟩, zd⟩
 case round =>
  clear H'
  obtain ⟨Aa, rfl, HA, HK1, ⟨m1, rfl⟩⟩ := hrel
  cases gk with
  | zero => exact absurd HA.out (by simp [garnerlaw24_Light.l0])
  | succ k1 =>
   have H := HA.out
   clear HA
   simp only [garnerlaw24_Light.l0] at H
   have HC2 := Am H
   clear H
   go_upto_region 2 with (fail)
   go_cut [11] (fun v11 wc => ∃ (kq : Nat) (Ag : Bool), v11 = .bool Ag ∧ Aside0 (garnerlaw24_Light.j1 kq l0 Aa Ag = some r) ∧ Aside0 (kq ≤ k1) ∧ Drawn0 w wc)
   case first =>
    have H := HC2.out
    clear HC2
    by_cases c3 : Aa < (l0.length : Int)
    ·rw [if_pos c3] at H
     have c3b0 := decide_eq_true c3
     clear c3
     (first | rw [c3b0] | (simp only [i64_w, i32_w]; rw [c3b0]) | skip)
     have H' := Am H
     clear H
     go_wp2
     go_meet
     case rel => exact ⟨_, (decide (Aa ≤ 60)), zr, H', ⟨by have := HK1.out; first | omega | exact Nat.le_refl _⟩, zd⟩
    rw [if_neg c3] at H
    have c3b0 := decide_eq_false c3
    clear c3
    (first | rw [c3b0] | (simp only [i64_w, i32_w]; rw [c3b0]) | skip)
    have H' := Am H
    clear H
    go_wp2
    go_meet
    case rel => exact ⟨_, (false), zr, H', ⟨by have := HK1.out; first | omega | exact Nat.le_refl _⟩, zd⟩
   case rest =>
    clear HC2
    try clear p2
    try clear c3
    try clear c3b0
    obtain ⟨kq, Ag, rfl, HA, HJ1, ⟨mc1, rfl⟩⟩ := hcut
    cases kq with
    | zero => exact absurd HA.out (by simp [garnerlaw24_Light.j1])
    | succ kj1 =>
     have H := HA.out
     clear HA
     simp only [garnerlaw24_Light.j1] at H
     by_cases c4 : Ag = true
     rotate_left
     ·replace c4 := Bool.eq_false_iff.mpr c4
      subst c4
      rw [if_neg zF] at H
      obtain rfl := Option.some.inj H
      go_wp2
      go_ret
      exact ⟨zr, zd⟩
     subst c4
     rw [if_pos rfl] at H
     obtain ⟨c5, H⟩ := zI H
     have c5b0 := decide_eq_true c5
     clear c5
     obtain ⟨c6, H⟩ := zI H
     have c6b0 := decide_eq_true c6
     clear c6
     obtain ⟨t402, A7, H⟩ := zb H
     by_cases c8 : t402 = true
     rotate_left
     ·replace c8 := Bool.eq_false_iff.mpr c8
      subst c8
      rw [if_neg zF] at H
      obtain rfl := Option.some.inj H
      have p401 : 0 ≤ (Aa : Int) := of_decide_eq_true pS
      have q401 : Aa < (l0.length : Int) := of_decide_eq_true pS
      obtain ⟨Aq, Af, c401_1, e401, Aj, Ak, Al, An, Ao, Ap, Ab, Ac⟩ := at_T30 HR0.out Aa p401 q401
      cases e401
      have Ad := Am Ac
      have Ae := Am Ab
      clear Ac Ab
      replace p401 := eq_true p401
      replace q401 := eq_true q401
      go_wp2_with (first | ((with_reducible refine zC 24 rfl ?_); refine zL (some 19) Try.func24 #[.slice Af ((rd_T30 l0 Aa).f1).length c401_1] ?_; (with_reducible refine (garnerlaw06_Light.calls kj1 _ _ ((rd_T30 l0 Aa).f1) false _ ?Ah ?Ai A7.out).mono ?_); (case Ah => repeat (first | exact Ad.out | (with_reducible refine Kd.C_alloc ?_ _) | (with_reducible refine Kd.C_drewN ?_ _) | (with_reducible refine Kd.C_drew ?_))); (case Ai => exact Ae.out); rintro e w' ⟨rfl, ⟨nd, rfl⟩⟩; refine ⟨_, rfl, ?_⟩))
      go_ret
      exact ⟨zr, zd⟩
     subst c8
     rw [if_pos rfl] at H
     have H' := Am H
     clear H
     have p401 : 0 ≤ (Aa : Int) := of_decide_eq_true pS
     have q401 : Aa < (l0.length : Int) := of_decide_eq_true pS
     obtain ⟨Aq, Af, c401_1, e401, Aj, Ak, Al, An, Ao, Ap, Ab, Ac⟩ := at_T30 HR0.out Aa p401 q401
     cases e401
     have Ad := Am Ac
     have Ae := Am Ab
     clear Ac Ab
     replace p401 := eq_true p401
     replace q401 := eq_true q401
     go_wp2_with (first | ((with_reducible refine zC 24 rfl ?_); refine zL (some 19) Try.func24 #[.slice Af ((rd_T30 l0 Aa).f1).length c401_1] ?_; (with_reducible refine (garnerlaw06_Light.calls kj1 _ _ ((rd_T30 l0 Aa).f1) true _ ?Ah ?Ai A7.out).mono ?_); (case Ah => repeat (first | exact Ad.out | (with_reducible refine Kd.C_alloc ?_ _) | (with_reducible refine Kd.C_drewN ?_ _) | (with_reducible refine Kd.C_drew ?_))); (case Ai => exact Ae.out); rintro e w' ⟨rfl, ⟨nd, rfl⟩⟩; refine ⟨_, rfl, ?_⟩))
     go_roundg kj1
     case measure => have := HK1.out; have := HJ1.out; omega
     case rel => exact ⟨(wrap64 (Aa + 1)), zr, H', ⟨by have := HK1.out; have := HJ1.out; omega⟩, zd⟩
def entry_Same_1.f (a0_0 : Int) (a0_1 : Int) (a0_2 : Int) (a0_3 : ByteArray) (a0_4 : Bool) (l0_5 : List Int) (a0_6 : Int) (a0_7 : Int) (a0_8 : Int) (a0_9 : Int) (a1_0 : Int) (a1_1 : Int) (a1_2 : Int) (a1_3 : ByteArray) (a1_4 : Bool) (l1_5 : List Int) (a1_6 : Int) (a1_7 : Int) (a1_8 : Int) (a1_9 : Int) : Option (Bool) := if a0_0 = a1_0 then (if a0_1 = a1_1 then (if a0_2 = a1_2 then (if a0_3.toList = a1_3.toList then ((cell_Same.f a0_4 l0_5 a0_6 a0_7 a0_8 a0_9 a1_4 l1_5 a1_6 a1_7 a1_8 a1_9).bind fun t405 => (some t405)) else (some false)) else (some false)) else (some false)) else (some false)
set_option maxRecDepth 100000 in
theorem entry_Same_1.calls (a0_0 : Int) (a0_1 : Int) (a0_2 : Int) (a0_3 : ByteArray) (a0_4 : Bool) (A0_5 : Option Addr) (c0_5 : Nat) (l0_5 : List Int) (a0_6 : Int) (a0_7 : Int) (a0_8 : Int) (a0_9 : Int) (a1_0 : Int) (a1_1 : Int) (a1_2 : Int) (a1_3 : ByteArray) (a1_4 : Bool) (A1_5 : Option Addr) (c1_5 : Nat) (l1_5 : List Int) (a1_6 : Int) (a1_7 : Int) (a1_8 : Int) (a1_9 : Int) (r : Bool) (w : World) (hr0_5 : Kd.C (Kd.int .u8) w A0_5 l0_5.length l0_5) (hc0_5 : l0_5.length ≤ c0_5) (hr1_5 : Kd.C (Kd.int .u8) w A1_5 l1_5.length l1_5) (hc1_5 : l1_5.length ≤ c1_5) (h : entry_Same_1.f a0_0 a0_1 a0_2 a0_3 a0_4 l0_5 a0_6 a0_7 a0_8 a0_9 a1_0 a1_1 a1_2 a1_3 a1_4 l1_5 a1_6 a1_7 a1_8 a1_9 = some r) :
 Calls Try.prog 51 #[.agg #[.int .i64 a0_0, .int .i64 a0_1, .int .i64 a0_2, .string a0_3, .bool a0_4, .slice A0_5 l0_5.length c0_5, .int .i64 a0_6, .int .i64 a0_7, .int .i64 a0_8, .int .u32 a0_9], .agg #[.int .i64 a1_0, .int .i64 a1_1, .int .i64 a1_2, .string a1_3, .bool a1_4, .slice A1_5 l1_5.length c1_5, .int .i64 a1_6, .int .i64 a1_7, .int .i64 a1_8, .int .u32 a1_9]] w fun e w' => e = .returned (.bool r) ∧ Below w.heap.size w w' := by
 have hu52 := Try.underlying52
 have hu50 := Try.underlying50
 have Ak := Am hr0_5
 have Al := Am hc0_5
 clear hr0_5 hc0_5
 have An := Am hr1_5
 have Ao := Am hc1_5
 clear hr1_5 hc1_5
 have HB := Am (Below.refl w.heap.size w)
 unfold entry_Same_1.f at h
 have H := h
 clear h
 by_cases c3 : a0_0 = a1_0
 rotate_left
 ·rw [if_neg c3] at H
  obtain ⟨c3b0, c3b1⟩ := zk c3
  obtain rfl := Option.some.inj H
  go_enter Try.func51, Try.ntmps51
  go_wp2_with (first | ((with_reducible refine zD 2 rfl ?_); refine zE 2 #[.int .i64 a0_0, .int .i64 a0_1, .int .i64 a0_2, .string a0_3, .bool a0_4, .slice A0_5 l0_5.length c0_5, .int .i64 a0_6, .int .i64 a0_7, .int .i64 a0_8, .int .u32 a0_9] 52 ?_; intro Ae hg w29 hbox hb; have Aa := Am (hbox); have Ai := zA hg HB; replace HB := zB HB hb; have Ad := Ai; clear hb hbox hg) | ((with_reducible refine zD 3 rfl ?_); refine zE 3 #[.int .i64 a1_0, .int .i64 a1_1, .int .i64 a1_2, .string a1_3, .bool a1_4, .slice A1_5 l1_5.length c1_5, .int .i64 a1_6, .int .i64 a1_7, .int .i64 a1_8, .int .u32 a1_9] 52 ?_; intro Af hg w30 hbox hb; have Ag := Am (hbox); have Aj := zY1 hg HB Ad.out; replace HB := zX1 HB Ad.out hb; have Ah := Aj; have Ab := Am (zN hg (kL Aa.out)); have Ac := Am (zM hg (kL Aa.out)); replace Aa := kBa Aa hb; clear hb hbox hg; have hnb31 := Ab.out; have hnc31 := Ac.out; obtain ⟨_, _, _, _, _, _, _, _, _, _⟩ := bc10 Aa.out; obtain ⟨_, _, _, _, _, _, _, _, _, _⟩ := bf10 Aa.out; obtain ⟨_, _, _, _, _, _, _, _, _, _⟩ := bc10 Ag.out; obtain ⟨_, _, _, _, _, _, _, _, _, _⟩ := bf10 Ag.out))
  go_ret
  exact ⟨pX, pE2 HB.out Ad.out Ah.out⟩
 rw [if_pos c3] at H
 obtain ⟨c3b0, c3b1⟩ := zc c3
 clear c3
 by_cases c4 : a0_1 = a1_1
 rotate_left
 ·rw [if_neg c4] at H
  obtain ⟨c4b0, c4b1⟩ := zk c4
  obtain rfl := Option.some.inj H
  go_enter Try.func51, Try.ntmps51
  go_wp2_with (first | ((with_reducible refine zD 2 rfl ?_); refine zE 2 #[.int .i64 a0_0, .int .i64 a0_1, .int .i64 a0_2, .string a0_3, .bool a0_4, .slice A0_5 l0_5.length c0_5, .int .i64 a0_6, .int .i64 a0_7, .int .i64 a0_8, .int .u32 a0_9] 52 ?_; intro Ae hg w24 hbox hb; have Aa := Am (hbox); have Ai := zA hg HB; replace HB := zB HB hb; have Ad := Ai; clear hb hbox hg) | ((with_reducible refine zD 3 rfl ?_); refine zE 3 #[.int .i64 a1_0, .int .i64 a1_1, .int .i64 a1_2, .string a1_3, .bool a1_4, .slice A1_5 l1_5.length c1_5, .int .i64 a1_6, .int .i64 a1_7, .int .i64 a1_8, .int .u32 a1_9] 52 ?_; intro Af hg w25 hbox hb; have Ag := Am (hbox); have Aj := zY1 hg HB Ad.out; replace HB := zX1 HB Ad.out hb; have Ah := Aj; have Ab := Am (zN hg (kL Aa.out)); have Ac := Am (zM hg (kL Aa.out)); replace Aa := kBa Aa hb; clear hb hbox hg; have hnb26 := Ab.out; have hnc26 := Ac.out; obtain ⟨_, _, _, _, _, _, _, _, _, _⟩ := bc10 Aa.out; obtain ⟨_, _, _, _, _, _, _, _, _, _⟩ := bf10 Aa.out; obtain ⟨_, _, _, _, _, _, _, _, _, _⟩ := bc10 Ag.out; obtain ⟨_, _, _, _, _, _, _, _, _, _⟩ := bf10 Ag.out))
  go_ret
  exact ⟨pX, pE2 HB.out Ad.out Ah.out⟩
 rw [if_pos c4] at H
 obtain ⟨c4b0, c4b1⟩ := zc c4
 clear c4
 by_cases c5 : a0_2 = a1_2
 rotate_left
 ·rw [if_neg c5] at H
  obtain ⟨c5b0, c5b1⟩ := zk c5
  obtain rfl := Option.some.inj H
  go_enter Try.func51, Try.ntmps51
  go_wp2_with (first | ((with_reducible refine zD 2 rfl ?_); refine zE 2 #[.int .i64 a0_0, .int .i64 a0_1, .int .i64 a0_2, .string a0_3, .bool a0_4, .slice A0_5 l0_5.length c0_5, .int .i64 a0_6, .int .i64 a0_7, .int .i64 a0_8, .int .u32 a0_9] 52 ?_; intro Ae hg w19 hbox hb; have Aa := Am (hbox); have Ai := zA hg HB; replace HB := zB HB hb; have Ad := Ai; clear hb hbox hg) | ((with_reducible refine zD 3 rfl ?_); refine zE 3 #[.int .i64 a1_0, .int .i64 a1_1, .int .i64 a1_2, .string a1_3, .bool a1_4, .slice A1_5 l1_5.length c1_5, .int .i64 a1_6, .int .i64 a1_7, .int .i64 a1_8, .int .u32 a1_9] 52 ?_; intro Af hg w20 hbox hb; have Ag := Am (hbox); have Aj := zY1 hg HB Ad.out; replace HB := zX1 HB Ad.out hb; have Ah := Aj; have Ab := Am (zN hg (kL Aa.out)); have Ac := Am (zM hg (kL Aa.out)); replace Aa := kBa Aa hb; clear hb hbox hg; have hnb21 := Ab.out; have hnc21 := Ac.out; obtain ⟨_, _, _, _, _, _, _, _, _, _⟩ := bc10 Aa.out; obtain ⟨_, _, _, _, _, _, _, _, _, _⟩ := bf10 Aa.out; obtain ⟨_, _, _, _, _, _, _, _, _, _⟩ := bc10 Ag.out; obtain ⟨_, _, _, _, _, _, _, _, _, _⟩ := bf10 Ag.out))
  go_ret
  exact ⟨pX, pE2 HB.out Ad.out Ah.out⟩
 rw [if_pos c5] at H
 obtain ⟨c5b0, c5b1⟩ := zc c5
 clear c5
 by_cases c6 : a0_3.toList = a1_3.toList
 rotate_left
 ·rw [if_neg c6] at H
  obtain ⟨c6b0, c6b1⟩ := zk c6
  obtain rfl := Option.some.inj H
  go_enter Try.func51, Try.ntmps51
  go_wp2_with (first | ((with_reducible refine zD 2 rfl ?_); refine zE 2 #[.int .i64 a0_0, .int .i64 a0_1, .int .i64 a0_2, .string a0_3, .bool a0_4, .slice A0_5 l0_5.length c0_5, .int .i64 a0_6, .int .i64 a0_7, .int .i64 a0_8, .int .u32 a0_9] 52 ?_; intro Ae hg w14 hbox hb; have Aa := Am (hbox); have Ai := zA hg HB; replace HB := zB HB hb; have Ad := Ai; clear hb hbox hg) | ((with_reducible refine zD 3 rfl ?_); refine zE 3 #[.int .i64 a1_0, .int .i64 a1_1, .int .i64 a1_2, .string a1_3, .bool a1_4, .slice A1_5 l1_5.length c1_5, .int .i64 a1_6, .int .i64 a1_7, .int .i64 a1_8, .int .u32 a1_9] 52 ?_; intro Af hg w15 hbox hb; have Ag := Am (hbox); have Aj := zY1 hg HB Ad.out; replace HB := zX1 HB Ad.out hb; have Ah := Aj; have Ab := Am (zN hg (kL Aa.out)); have Ac := Am (zM hg (kL Aa.out)); replace Aa := kBa Aa hb; clear hb hbox hg; have hnb16 := Ab.out; have hnc16 := Ac.out; obtain ⟨_, _, _, _, _, _, _, _, _, _⟩ := bc10 Aa.out; obtain ⟨_, _, _, _, _, _, _, _, _, _⟩ := bf10 Aa.out; obtain ⟨_, _, _, _, _, _, _, _, _, _⟩ := bc10 Ag.out; obtain ⟨_, _, _, _, _, _, _, _, _, _⟩ := bf10 Ag.out))
  go_ret
  exact ⟨pX, pE2 HB.out Ad.out Ah.out⟩
 rw [if_pos c6] at H
 obtain ⟨c6b0, c6b1⟩ := zc c6
 clear c6
 obtain ⟨t405, A7, H⟩ := zb H
 obtain rfl := Option.some.inj H
 go_enter Try.func51, Try.ntmps51
 go_wp2_with (first | ((with_reducible refine zD 2 rfl ?_); refine zE 2 #[.int .i64 a0_0, .int .i64 a0_1, .int .i64 a0_2, .string a0_3, .bool a0_4, .slice A0_5 l0_5.length c0_5, .int .i64 a0_6, .int .i64 a0_7, .int .i64 a0_8, .int .u32 a0_9] 52 ?_; intro Ae hg w8 hbox hb; have Aa := Am (hbox); have Ai := zA hg HB; replace HB := zB HB hb; have Ad := Ai; clear hb hbox hg) | ((with_reducible refine zD 3 rfl ?_); refine zE 3 #[.int .i64 a1_0, .int .i64 a1_1, .int .i64 a1_2, .string a1_3, .bool a1_4, .slice A1_5 l1_5.length c1_5, .int .i64 a1_6, .int .i64 a1_7, .int .i64 a1_8, .int .u32 a1_9] 52 ?_; intro Af hg w9 hbox hb; have Ag := Am (hbox); have Aj := zY1 hg HB Ad.out; replace HB := zX1 HB Ad.out hb; have Ah := Aj; have Ab := Am (zN hg (kL Aa.out)); have Ac := Am (zM hg (kL Aa.out)); replace Aa := kBa Aa hb; clear hb hbox hg; have hnb10 := Ab.out; have hnc10 := Ac.out; obtain ⟨_, _, _, _, _, _, _, _, _, _⟩ := bc10 Aa.out; obtain ⟨_, _, _, _, _, _, _, _, _, _⟩ := bf10 Aa.out; obtain ⟨_, _, _, _, _, _, _, _, _, _⟩ := bc10 Ag.out; obtain ⟨_, _, _, _, _, _, _, _, _, _⟩ := bf10 Ag.out) | (go_at_call 52; (with_reducible refine (cell_Same.calls a0_4 _ _ l0_5 a0_6 a0_7 a0_8 a0_9 a1_4 _ _ l1_5 a1_6 a1_7 a1_8 a1_9 t405 _ ?Ap ?Aq ?Ar ?As A7.out).mono ?_); (case Ap => exact pC (Kd.C_below Ak.out HB.out)); (case Aq => exact Al.out); (case Ar => exact pC (Kd.C_below An.out HB.out)); (case As => exact Ao.out); rintro e w13 ⟨rfl, hb⟩; replace Aa := kBa Aa hb; replace Ag := kBa Ag hb; replace HB := zX2 HB Ad.out Ah.out hb; (try clear hb)))
 go_ret
 exact ⟨pX, pE2 HB.out Ad.out Ah.out⟩
def slices_EqualFunc_api_Entry.l0 : Nat → List (S52) → List (S52) → Int → Int → Option (Bool)
 | 0, _, _, _, _ => none
 | k + 1, x1, x15, x16, x17 => if x17 < x16 then (if 0 ≤ x17 then (if x17 < (x15.length : Int) then (if x17 < (x1.length : Int) then ((entry_Same_1.f ((rd_T52 x15 x17).f0) ((rd_T52 x15 x17).f1) ((rd_T52 x15 x17).f2) ((rd_T52 x15 x17).f3) ((rd_T52 x15 x17).f4.f0) ((rd_T52 x15 x17).f4.f1) ((rd_T52 x15 x17).f4.f2.f0) ((rd_T52 x15 x17).f4.f2.f1) ((rd_T52 x15 x17).f4.f2.f2) ((rd_T52 x15 x17).f4.f2.f3) ((rd_T52 x1 x17).f0) ((rd_T52 x1 x17).f1) ((rd_T52 x1 x17).f2) ((rd_T52 x1 x17).f3) ((rd_T52 x1 x17).f4.f0) ((rd_T52 x1 x17).f4.f1) ((rd_T52 x1 x17).f4.f2.f0) ((rd_T52 x1 x17).f4.f2.f1) ((rd_T52 x1 x17).f4.f2.f2) ((rd_T52 x1 x17).f4.f2.f3)).bind fun t410 => (if t410 = true then (slices_EqualFunc_api_Entry.l0 k x1 x15 x16 (wrap64 (x17 + 1))) else (some false))) else (none)) else (none)) else (none)) else (some true)
def slices_EqualFunc_api_Entry.f (k : Nat) (l0 : List (S52)) (l1 : List (S52))  : Option (Bool) := if (l0.length : Int) = (l1.length : Int) then (slices_EqualFunc_api_Entry.l0 k l1 l0 (l0.length : Int) 0) else (some false)
theorem slices_EqualFunc_api_Entry.mono_l : ∀ k, (∀ y0 y1 y2 y3, LeO (slices_EqualFunc_api_Entry.l0 k y0 y1 y2 y3) (slices_EqualFunc_api_Entry.l0 (k + 1) y0 y1 y2 y3))
 | 0 => fun _ _ _ _ r h => by simp [slices_EqualFunc_api_Entry.l0] at h
 | k + 1 => by
  have ih0 := slices_EqualFunc_api_Entry.mono_l k
  ·intro y0 y1 y2 y3
   unfold slices_EqualFunc_api_Entry.l0
   repeat' (with_reducible first | exact ih0 .. | exact LeO.refl .. | exact LeO.none .. | refine LeO.ite ?_ ?_ | refine LeO.bind ?_ (fun _ => ?_))
theorem slices_EqualFunc_api_Entry.mono : ∀ a0 a1 k, LeO (slices_EqualFunc_api_Entry.f k a0 a1) (slices_EqualFunc_api_Entry.f (k + 1) a0 a1) := by
 intro a0 a1 k
 have ih0 := slices_EqualFunc_api_Entry.mono_l k
 unfold slices_EqualFunc_api_Entry.f
 repeat' (with_reducible first | exact ih0 .. | exact LeO.refl .. | exact LeO.none .. | refine LeO.ite ?_ ?_ | refine LeO.bind ?_ (fun _ => ?_))
set_option maxRecDepth 100000 in
theorem slices_EqualFunc_api_Entry.calls (k : Nat) (A0 : Option Addr) (c0 : Nat) (l0 : List (S52)) (A1 : Option Addr) (c1 : Nat) (l1 : List (S52))  (r : Bool) (w : World) (hr0 : Kd.C k52 w A0 l0.length l0) (hc0 : l0.length ≤ c0) (hr1 : Kd.C k52 w A1 l1.length l1) (hc1 : l1.length ≤ c1) (h : slices_EqualFunc_api_Entry.f k l0 l1 = some r) :
 Calls Try.prog 50 #[.slice A0 l0.length c0, .slice A1 l1.length c1, .func (.func 51) #[] #[]] w fun e w' => e = .returned (.bool r) ∧ Below w.heap.size w w' := by
 have hu52 := Try.underlying52
 have HR0 := Am hr0
 have HC0 := Am hc0
 clear hr0 hc0
 have HR1 := Am hr1
 have HC1 := Am hc1
 clear hr1 hc1
 have HB := Am (Below.refl w.heap.size w)
 unfold slices_EqualFunc_api_Entry.f at h
 have H := h
 clear h
 by_cases c4 : (l0.length : Int) = (l1.length : Int)
 rotate_left
 ·rw [if_neg c4] at H
  obtain ⟨c4b0, c4b1⟩ := zk c4
  have c4b2 : (l0.length == l1.length) = false := by first | simpa using c4 | (simp at c4 ⊢; omega)
  obtain rfl := Option.some.inj H
  go_enter Try.func50, Try.ntmps50
  go_wp2
  go_ret
  exact ⟨pX, pB HB.out⟩
 rw [if_pos c4] at H
 obtain ⟨c4b0, c4b1⟩ := zc c4
 have c4b2 : (l0.length == l1.length) = true := by first | simpa using c4 | (simp at c4 ⊢; omega)
 clear c4
 have H' := Am H
 clear H
 go_enter Try.func50, Try.ntmps50
 go_wp2
 go_loopg [17] k (fun kq v17 w' => ∃ (Aa : Int), v17 = .int .i64 Aa ∧ Aside0 (slices_EqualFunc_api_Entry.l0 kq l1 l0 (l0.length : Int) Aa = some r) ∧ Aside0 (kq ≤ k) ∧ Aside0 (Below w.heap.size w w'))
 case atStart => exact ⟨(0), zr, H', ⟨Nat.le_refl _⟩, ⟨pB HB.out⟩⟩
 case round =>
  clear H'
  try clear c1
  try clear p2
  try clear c4
  try clear c4b0
  try clear c4b1
  try clear c4b2
  obtain ⟨Aa, rfl, HA, HK1, HB⟩ := hrel
  cases gk with
  | zero => exact absurd HA.out (by simp [slices_EqualFunc_api_Entry.l0])
  | succ k1 =>
   have H := HA.out
   clear HA
   simp only [slices_EqualFunc_api_Entry.l0] at H
   by_cases c5 : Aa < (l0.length : Int)
   rotate_left
   ·rw [if_neg c5] at H
    have c5b0 := decide_eq_false c5
    clear c5
    obtain rfl := Option.some.inj H
    go_wp2
    go_ret
    exact ⟨pX, pB HB.out⟩
   rw [if_pos c5] at H
   have c5b0 := decide_eq_true c5
   clear c5
   obtain ⟨c6, H⟩ := zI H
   have c6b0 := decide_eq_true c6
   clear c6
   obtain ⟨c7, H⟩ := zI H
   have c7b0 := decide_eq_true c7
   clear c7
   obtain ⟨c8, H⟩ := zI H
   have c8b0 := decide_eq_true c8
   clear c8
   obtain ⟨t410, A9, H⟩ := zb H
   by_cases c10 : t410 = true
   rotate_left
   ·replace c10 := Bool.eq_false_iff.mpr c10
    subst c10
    rw [if_neg zF] at H
    obtain rfl := Option.some.inj H
    have p406 : 0 ≤ (Aa : Int) := of_decide_eq_true pS
    have q406 : Aa < (l0.length : Int) := of_decide_eq_true pS
    obtain ⟨Bo, An, c406_5, e406, Bd, Be, Bf, Bg, Bh, Bi, Bj, Bk, Bl, Bm, Aw, Ax⟩ := at_T52u HR0.out Aa p406 q406 HB.out
    cases e406
    have A3 := Am Ax
    have A4 := Am Aw
    clear Ax Aw
    replace p406 := eq_true p406
    replace q406 := eq_true q406
    go_wp2_with (first | ((with_reducible refine zD 8 rfl ?_); refine zE 8 #[.int .i64 0, .int .i64 0, .int .i64 0, .string (⟨#[]⟩ : ByteArray), .bool false, .slice none 0 0, .int .i64 0, .int .i64 0, .int .i64 0, .int .u32 0] 52 ?_; intro Ab hg w18 hbox hb; have Ap := Am (hbox); have Ao := zA hg HB; replace HB := zB HB hb; have Ar := Ao; clear hb hbox hg; obtain ⟨_, _, _, _, _, _, _, _, _, _⟩ := bc10 Ap.out; obtain ⟨_, _, _, _, _, _, _, _, _, _⟩ := bf10 Ap.out; have p408 : 0 ≤ (Aa : Int) := of_decide_eq_true pS; have q408 : Aa < (l1.length : Int) := of_decide_eq_true pS; obtain ⟨Aq, Bn, c408_5, e408, Ac, Ad, Ae, Af, Ag, Ah, Ai, Aj, Ak, Al, Ay, Az⟩ := at_T52 HR1.out Aa p408 q408; cases e408; have hn408_0 : Aq.block ≠ Ab := Nat.ne_of_lt (Nat.lt_of_lt_of_le (by have := World.block_lt_of_cell? _ _ Ac; first | rwa [add_block] at this | exact this) Ao.out); have hn408_1 : Aq.block ≠ Ab := Nat.ne_of_lt (Nat.lt_of_lt_of_le (by have := World.block_lt_of_cell? _ _ Ac; first | rwa [add_block] at this | exact this) Ao.out); have hn408_2 : Aq.block ≠ Ab := Nat.ne_of_lt (Nat.lt_of_lt_of_le (by have := World.block_lt_of_cell? _ _ Ac; first | rwa [add_block] at this | exact this) Ao.out); have hn408_3 : Aq.block ≠ Ab := Nat.ne_of_lt (Nat.lt_of_lt_of_le (by have := World.block_lt_of_cell? _ _ Ac; first | rwa [add_block] at this | exact this) Ao.out); have hn408_4 : Aq.block ≠ Ab := Nat.ne_of_lt (Nat.lt_of_lt_of_le (by have := World.block_lt_of_cell? _ _ Ac; first | rwa [add_block] at this | exact this) Ao.out); have hn408_5 : Aq.block ≠ Ab := Nat.ne_of_lt (Nat.lt_of_lt_of_le (by have := World.block_lt_of_cell? _ _ Ac; first | rwa [add_block] at this | exact this) Ao.out); have hn408_6 : Aq.block ≠ Ab := Nat.ne_of_lt (Nat.lt_of_lt_of_le (by have := World.block_lt_of_cell? _ _ Ac; first | rwa [add_block] at this | exact this) Ao.out); have hn408_7 : Aq.block ≠ Ab := Nat.ne_of_lt (Nat.lt_of_lt_of_le (by have := World.block_lt_of_cell? _ _ Ac; first | rwa [add_block] at this | exact this) Ao.out); have hn408_8 : Aq.block ≠ Ab := Nat.ne_of_lt (Nat.lt_of_lt_of_le (by have := World.block_lt_of_cell? _ _ Ac; first | rwa [add_block] at this | exact this) Ao.out); have hn408_9 : Aq.block ≠ Ab := Nat.ne_of_lt (Nat.lt_of_lt_of_le (by have := World.block_lt_of_cell? _ _ Ac; first | rwa [add_block] at this | exact this) Ao.out); replace Ac := cU HB.out Ac; replace Ad := cU HB.out Ad; replace Ae := cU HB.out Ae; replace Af := cU HB.out Af; replace Ag := cU HB.out Ag; replace Ah := cU HB.out Ah; replace Ai := cU HB.out Ai; replace Aj := cU HB.out Aj; replace Ak := cU HB.out Ak; replace Al := cU HB.out Al; have A5 := Am Az; have A6 := Am Ay; clear Az Ay; have n_ := zf ⟨Ab, 0, none⟩ (.int .i64 ((rd_T52 l0 Aa).f0)) hn408_0 Ac Ad Ae Af Ag Ah Ai Aj Ak Al; clear Ac Ad Ae Af Ag Ah Ai Aj Ak Al; obtain ⟨Ac, Ad, Ae, Af, Ag, Ah, Ai, Aj, Ak, Al⟩ := n_; have n_ := zf ⟨Ab, 1, none⟩ (.int .i64 ((rd_T52 l0 Aa).f1)) hn408_1 Ac Ad Ae Af Ag Ah Ai Aj Ak Al; clear Ac Ad Ae Af Ag Ah Ai Aj Ak Al; obtain ⟨Ac, Ad, Ae, Af, Ag, Ah, Ai, Aj, Ak, Al⟩ := n_; have n_ := zf ⟨Ab, 2, none⟩ (.int .i64 ((rd_T52 l0 Aa).f2)) hn408_2 Ac Ad Ae Af Ag Ah Ai Aj Ak Al; clear Ac Ad Ae Af Ag Ah Ai Aj Ak Al; obtain ⟨Ac, Ad, Ae, Af, Ag, Ah, Ai, Aj, Ak, Al⟩ := n_; have n_ := zf ⟨Ab, 3, none⟩ (.string ((rd_T52 l0 Aa).f3)) hn408_3 Ac Ad Ae Af Ag Ah Ai Aj Ak Al; clear Ac Ad Ae Af Ag Ah Ai Aj Ak Al; obtain ⟨Ac, Ad, Ae, Af, Ag, Ah, Ai, Aj, Ak, Al⟩ := n_; have n_ := zf ⟨Ab, 4, none⟩ (.bool ((rd_T52 l0 Aa).f4.f0)) hn408_4 Ac Ad Ae Af Ag Ah Ai Aj Ak Al; clear Ac Ad Ae Af Ag Ah Ai Aj Ak Al; obtain ⟨Ac, Ad, Ae, Af, Ag, Ah, Ai, Aj, Ak, Al⟩ := n_; have n_ := zf ⟨Ab, 5, none⟩ (.slice An ((rd_T52 l0 Aa).f4.f1).length c406_5) hn408_5 Ac Ad Ae Af Ag Ah Ai Aj Ak Al; clear Ac Ad Ae Af Ag Ah Ai Aj Ak Al; obtain ⟨Ac, Ad, Ae, Af, Ag, Ah, Ai, Aj, Ak, Al⟩ := n_; have n_ := zf ⟨Ab, 6, none⟩ (.int .i64 ((rd_T52 l0 Aa).f4.f2.f0)) hn408_6 Ac Ad Ae Af Ag Ah Ai Aj Ak Al; clear Ac Ad Ae Af Ag Ah Ai Aj Ak Al; obtain ⟨Ac, Ad, Ae, Af, Ag, Ah, Ai, Aj, Ak, Al⟩ := n_; have n_ := zf ⟨Ab, 7, none⟩ (.int .i64 ((rd_T52 l0 Aa).f4.f2.f1)) hn408_7 Ac Ad Ae Af Ag Ah Ai Aj Ak Al; clear Ac Ad Ae Af Ag Ah Ai Aj Ak Al; obtain ⟨Ac, Ad, Ae, Af, Ag, Ah, Ai, Aj, Ak, Al⟩ := n_; have n_ := zf ⟨Ab, 8, none⟩ (.int .i64 ((rd_T52 l0 Aa).f4.f2.f2)) hn408_8 Ac Ad Ae Af Ag Ah Ai Aj Ak Al; clear Ac Ad Ae Af Ag Ah Ai Aj Ak Al; obtain ⟨Ac, Ad, Ae, Af, Ag, Ah, Ai, Aj, Ak, Al⟩ := n_; have n_ := zf ⟨Ab, 9, none⟩ (.int .u32 ((rd_T52 l0 Aa).f4.f2.f3)) hn408_9 Ac Ad Ae Af Ag Ah Ai Aj Ak Al; clear Ac Ad Ae Af Ag Ah Ai Aj Ak Al; obtain ⟨Ac, Ad, Ae, Af, Ag, Ah, Ai, Aj, Ak, Al⟩ := n_; clear hn408_0 hn408_1 hn408_2 hn408_3 hn408_4 hn408_5 hn408_6 hn408_7 hn408_8 hn408_9; replace p408 := eq_true p408; replace q408 := eq_true q408) | ((with_reducible refine zD 9 rfl ?_); refine zE 9 #[.int .i64 0, .int .i64 0, .int .i64 0, .string (⟨#[]⟩ : ByteArray), .bool false, .slice none 0 0, .int .i64 0, .int .i64 0, .int .i64 0, .int .u32 0] 52 ?_; intro At hg w20 hbox hb; have Au := Am (hbox); have A7 := zY1 hg HB Ar.out; replace HB := zX1 HB Ar.out hb; have Av := A7; have As := Am ((by rw [hg]; exact Nat.ne_of_lt (blk_lt (g := Ab) (o := .cells #[.int .i64 ((rd_T52 l0 Aa).f0), .int .i64 ((rd_T52 l0 Aa).f1), .int .i64 ((rd_T52 l0 Aa).f2), .string ((rd_T52 l0 Aa).f3), .bool ((rd_T52 l0 Aa).f4.f0), .slice An ((rd_T52 l0 Aa).f4.f1).length c406_5, .int .i64 ((rd_T52 l0 Aa).f4.f2.f0), .int .i64 ((rd_T52 l0 Aa).f4.f2.f1), .int .i64 ((rd_T52 l0 Aa).f4.f2.f2), .int .u32 ((rd_T52 l0 Aa).f4.f2.f3)] 52 (0, 0)) (kX0 Ap.out)) : Ab ≠ At)); have A2 := Am ((by rw [hg]; exact Nat.ne_of_gt (blk_lt (g := Ab) (o := .cells #[.int .i64 ((rd_T52 l0 Aa).f0), .int .i64 ((rd_T52 l0 Aa).f1), .int .i64 ((rd_T52 l0 Aa).f2), .string ((rd_T52 l0 Aa).f3), .bool ((rd_T52 l0 Aa).f4.f0), .slice An ((rd_T52 l0 Aa).f4.f1).length c406_5, .int .i64 ((rd_T52 l0 Aa).f4.f2.f0), .int .i64 ((rd_T52 l0 Aa).f4.f2.f1), .int .i64 ((rd_T52 l0 Aa).f4.f2.f2), .int .u32 ((rd_T52 l0 Aa).f4.f2.f3)] 52 (0, 0)) (kX0 Ap.out)) : At ≠ Ab)); replace Ap := Am (blk_below (g := Ab) (kX0 Ap.out) hb); clear hb hbox hg; have hnb21 := A2.out; have hnc21 := As.out; obtain ⟨_, _, _, _, _, _, _, _, _, _⟩ := bc10 Au.out; obtain ⟨_, _, _, _, _, _, _, _, _, _⟩ := bf10 Au.out; obtain ⟨_, _, _, _, _, _, _, _, _, _⟩ := bc10 Ap.out; obtain ⟨_, _, _, _, _, _, _, _, _, _⟩ := bf10 Ap.out) | (go_at_call 51; (with_reducible refine (entry_Same_1.calls ((rd_T52 l0 Aa).f0) ((rd_T52 l0 Aa).f1) ((rd_T52 l0 Aa).f2) ((rd_T52 l0 Aa).f3) ((rd_T52 l0 Aa).f4.f0) _ _ ((rd_T52 l0 Aa).f4.f1) ((rd_T52 l0 Aa).f4.f2.f0) ((rd_T52 l0 Aa).f4.f2.f1) ((rd_T52 l0 Aa).f4.f2.f2) ((rd_T52 l0 Aa).f4.f2.f3) ((rd_T52 l1 Aa).f0) ((rd_T52 l1 Aa).f1) ((rd_T52 l1 Aa).f2) ((rd_T52 l1 Aa).f3) ((rd_T52 l1 Aa).f4.f0) _ _ ((rd_T52 l1 Aa).f4.f1) ((rd_T52 l1 Aa).f4.f2.f0) ((rd_T52 l1 Aa).f4.f2.f1) ((rd_T52 l1 Aa).f4.f2.f2) ((rd_T52 l1 Aa).f4.f2.f3) false _ ?A8 ?Ba ?Bb ?Bc A9.out).mono ?_); (case A8 => exact Kd.C_below A3.out (pE2 HB.out Ar.out Av.out)); (case Ba => exact A4.out); (case Bb => exact Kd.C_below A5.out (pE2 HB.out Ar.out Av.out)); (case Bc => exact A6.out); rintro e w24 ⟨rfl, hb⟩; replace Ap := Am (blk_below (g := Ab) (kX1 Ap.out As.out) hb); replace Au := Am (blk_below (g := At) (kX0 Au.out) hb); replace HB := zX2 HB Ar.out Av.out hb; (try clear hb)))
    go_ret
    exact ⟨pX, pE2 HB.out Ar.out Av.out⟩
   subst c10
   rw [if_pos rfl] at H
   have H' := Am H
   clear H
   have p406 : 0 ≤ (Aa : Int) := of_decide_eq_true pS
   have q406 : Aa < (l0.length : Int) := of_decide_eq_true pS
   obtain ⟨Bo, An, c406_5, e406, Bd, Be, Bf, Bg, Bh, Bi, Bj, Bk, Bl, Bm, Aw, Ax⟩ := at_T52u HR0.out Aa p406 q406 HB.out
   cases e406
   have A3 := Am Ax
   have A4 := Am Aw
   clear Ax Aw
   replace p406 := eq_true p406
   replace q406 := eq_true q406
   go_wp2_with (first | ((with_reducible refine zD 8 rfl ?_); refine zE 8 #[.int .i64 0, .int .i64 0, .int .i64 0, .string (⟨#[]⟩ : ByteArray), .bool false, .slice none 0 0, .int .i64 0, .int .i64 0, .int .i64 0, .int .u32 0] 52 ?_; intro Ab hg w11 hbox hb; have Ap := Am (hbox); have Ao := zA hg HB; replace HB := zB HB hb; have Ar := Ao; clear hb hbox hg; obtain ⟨_, _, _, _, _, _, _, _, _, _⟩ := bc10 Ap.out; obtain ⟨_, _, _, _, _, _, _, _, _, _⟩ := bf10 Ap.out; have p408 : 0 ≤ (Aa : Int) := of_decide_eq_true pS; have q408 : Aa < (l1.length : Int) := of_decide_eq_true pS; obtain ⟨Aq, Bn, c408_5, e408, Ac, Ad, Ae, Af, Ag, Ah, Ai, Aj, Ak, Al, Ay, Az⟩ := at_T52 HR1.out Aa p408 q408; cases e408; have hn408_0 : Aq.block ≠ Ab := Nat.ne_of_lt (Nat.lt_of_lt_of_le (by have := World.block_lt_of_cell? _ _ Ac; first | rwa [add_block] at this | exact this) Ao.out); have hn408_1 : Aq.block ≠ Ab := Nat.ne_of_lt (Nat.lt_of_lt_of_le (by have := World.block_lt_of_cell? _ _ Ac; first | rwa [add_block] at this | exact this) Ao.out); have hn408_2 : Aq.block ≠ Ab := Nat.ne_of_lt (Nat.lt_of_lt_of_le (by have := World.block_lt_of_cell? _ _ Ac; first | rwa [add_block] at this | exact this) Ao.out); have hn408_3 : Aq.block ≠ Ab := Nat.ne_of_lt (Nat.lt_of_lt_of_le (by have := World.block_lt_of_cell? _ _ Ac; first | rwa [add_block] at this | exact this) Ao.out); have hn408_4 : Aq.block ≠ Ab := Nat.ne_of_lt (Nat.lt_of_lt_of_le (by have := World.block_lt_of_cell? _ _ Ac; first | rwa [add_block] at this | exact this) Ao.out); have hn408_5 : Aq.block ≠ Ab := Nat.ne_of_lt (Nat.lt_of_lt_of_le (by have := World.block_lt_of_cell? _ _ Ac; first | rwa [add_block] at this | exact this) Ao.out); have hn408_6 : Aq.block ≠ Ab := Nat.ne_of_lt (Nat.lt_of_lt_of_le (by have := World.block_lt_of_cell? _ _ Ac; first | rwa [add_block] at this | exact this) Ao.out); have hn408_7 : Aq.block ≠ Ab := Nat.ne_of_lt (Nat.lt_of_lt_of_le (by have := World.block_lt_of_cell? _ _ Ac; first | rwa [add_block] at this | exact this) Ao.out); have hn408_8 : Aq.block ≠ Ab := Nat.ne_of_lt (Nat.lt_of_lt_of_le (by have := World.block_lt_of_cell? _ _ Ac; first | rwa [add_block] at this | exact this) Ao.out); have hn408_9 : Aq.block ≠ Ab := Nat.ne_of_lt (Nat.lt_of_lt_of_le (by have := World.block_lt_of_cell? _ _ Ac; first | rwa [add_block] at this | exact this) Ao.out); replace Ac := cU HB.out Ac; replace Ad := cU HB.out Ad; replace Ae := cU HB.out Ae; replace Af := cU HB.out Af; replace Ag := cU HB.out Ag; replace Ah := cU HB.out Ah; replace Ai := cU HB.out Ai; replace Aj := cU HB.out Aj; replace Ak := cU HB.out Ak; replace Al := cU HB.out Al; have A5 := Am Az; have A6 := Am Ay; clear Az Ay; have n_ := zf ⟨Ab, 0, none⟩ (.int .i64 ((rd_T52 l0 Aa).f0)) hn408_0 Ac Ad Ae Af Ag Ah Ai Aj Ak Al; clear Ac Ad Ae Af Ag Ah Ai Aj Ak Al; obtain ⟨Ac, Ad, Ae, Af, Ag, Ah, Ai, Aj, Ak, Al⟩ := n_; have n_ := zf ⟨Ab, 1, none⟩ (.int .i64 ((rd_T52 l0 Aa).f1)) hn408_1 Ac Ad Ae Af Ag Ah Ai Aj Ak Al; clear Ac Ad Ae Af Ag Ah Ai Aj Ak Al; obtain ⟨Ac, Ad, Ae, Af, Ag, Ah, Ai, Aj, Ak, Al⟩ := n_; have n_ := zf ⟨Ab, 2, none⟩ (.int .i64 ((rd_T52 l0 Aa).f2)) hn408_2 Ac Ad Ae Af Ag Ah Ai Aj Ak Al; clear Ac Ad Ae Af Ag Ah Ai Aj Ak Al; obtain ⟨Ac, Ad, Ae, Af, Ag, Ah, Ai, Aj, Ak, Al⟩ := n_; have n_ := zf ⟨Ab, 3, none⟩ (.string ((rd_T52 l0 Aa).f3)) hn408_3 Ac Ad Ae Af Ag Ah Ai Aj Ak Al; clear Ac Ad Ae Af Ag Ah Ai Aj Ak Al; obtain ⟨Ac, Ad, Ae, Af, Ag, Ah, Ai, Aj, Ak, Al⟩ := n_; have n_ := zf ⟨Ab, 4, none⟩ (.bool ((rd_T52 l0 Aa).f4.f0)) hn408_4 Ac Ad Ae Af Ag Ah Ai Aj Ak Al; clear Ac Ad Ae Af Ag Ah Ai Aj Ak Al; obtain ⟨Ac, Ad, Ae, Af, Ag, Ah, Ai, Aj, Ak, Al⟩ := n_; have n_ := zf ⟨Ab, 5, none⟩ (.slice An ((rd_T52 l0 Aa).f4.f1).length c406_5) hn408_5 Ac Ad Ae Af Ag Ah Ai Aj Ak Al; clear Ac Ad Ae Af Ag Ah Ai Aj Ak Al; obtain ⟨Ac, Ad, Ae, Af, Ag, Ah, Ai, Aj, Ak, Al⟩ := n_; have n_ := zf ⟨Ab, 6, none⟩ (.int .i64 ((rd_T52 l0 Aa).f4.f2.f0)) hn408_6 Ac Ad Ae Af Ag Ah Ai Aj Ak Al; clear Ac Ad Ae Af Ag Ah Ai Aj Ak Al; obtain ⟨Ac, Ad, Ae, Af, Ag, Ah, Ai, Aj, Ak, Al⟩ := n_; have n_ := zf ⟨Ab, 7, none⟩ (.int .i64 ((rd_T52 l0 Aa).f4.f2.f1)) hn408_7 Ac Ad Ae Af Ag Ah Ai Aj Ak Al; clear Ac Ad Ae Af Ag Ah Ai Aj Ak Al; obtain ⟨Ac, Ad, Ae, Af, Ag, Ah, Ai, Aj, Ak, Al⟩ := n_; have n_ := zf ⟨Ab, 8, none⟩ (.int .i64 ((rd_T52 l0 Aa).f4.f2.f2)) hn408_8 Ac Ad Ae Af Ag Ah Ai Aj Ak Al; clear Ac Ad Ae Af Ag Ah Ai Aj Ak Al; obtain ⟨Ac, Ad, Ae, Af, Ag, Ah, Ai, Aj, Ak, Al⟩ := n_; have n_ := zf ⟨Ab, 9, none⟩ (.int .u32 ((rd_T52 l0 Aa).f4.f2.f3)) hn408_9 Ac Ad Ae Af Ag Ah Ai Aj Ak Al; clear Ac Ad Ae Af Ag Ah Ai Aj Ak Al; obtain ⟨Ac, Ad, Ae, Af, Ag, Ah, Ai, Aj, Ak, Al⟩ := n_; clear hn408_0 hn408_1 hn408_2 hn408_3 hn408_4 hn408_5 hn408_6 hn408_7 hn408_8 hn408_9; replace p408 := eq_true p408; replace q408 := eq_true q408) | ((with_reducible refine zD 9 rfl ?_); refine zE 9 #[.int .i64 0, .int .i64 0, .int .i64 0, .string (⟨#[]⟩ : ByteArray), .bool false, .slice none 0 0, .int .i64 0, .int .i64 0, .int .i64 0, .int .u32 0] 52 ?_; intro At hg w13 hbox hb; have Au := Am (hbox); have A7 := zY1 hg HB Ar.out; replace HB := zX1 HB Ar.out hb; have Av := A7; have As := Am ((by rw [hg]; exact Nat.ne_of_lt (blk_lt (g := Ab) (o := .cells #[.int .i64 ((rd_T52 l0 Aa).f0), .int .i64 ((rd_T52 l0 Aa).f1), .int .i64 ((rd_T52 l0 Aa).f2), .string ((rd_T52 l0 Aa).f3), .bool ((rd_T52 l0 Aa).f4.f0), .slice An ((rd_T52 l0 Aa).f4.f1).length c406_5, .int .i64 ((rd_T52 l0 Aa).f4.f2.f0), .int .i64 ((rd_T52 l0 Aa).f4.f2.f1), .int .i64 ((rd_T52 l0 Aa).f4.f2.f2), .int .u32 ((rd_T52 l0 Aa).f4.f2.f3)] 52 (0, 0)) (kX0 Ap.out)) : Ab ≠ At)); have A2 := Am ((by rw [hg]; exact Nat.ne_of_gt (blk_lt (g := Ab) (o := .cells #[.int .i64 ((rd_T52 l0 Aa).f0), .int .i64 ((rd_T52 l0 Aa).f1), .int .i64 ((rd_T52 l0 Aa).f2), .string ((rd_T52 l0 Aa).f3), .bool ((rd_T52 l0 Aa).f4.f0), .slice An ((rd_T52 l0 Aa).f4.f1).length c406_5, .int .i64 ((rd_T52 l0 Aa).f4.f2.f0), .int .i64 ((rd_T52 l0 Aa).f4.f2.f1), .int .i64 ((rd_T52 l0 Aa).f4.f2.f2), .int .u32 ((rd_T52 l0 Aa).f4.f2.f3)] 52 (0, 0)) (kX0 Ap.out)) : At ≠ Ab)); replace Ap := Am (blk_below (g := Ab) (kX0 Ap.out) hb); clear hb hbox hg; have hnb14 := A2.out; have hnc14 := As.out; obtain ⟨_, _, _, _, _, _, _, _, _, _⟩ := bc10 Au.out; obtain ⟨_, _, _, _, _, _, _, _, _, _⟩ := bf10 Au.out; obtain ⟨_, _, _, _, _, _, _, _, _, _⟩ := bc10 Ap.out; obtain ⟨_, _, _, _, _, _, _, _, _, _⟩ := bf10 Ap.out) | (go_at_call 51; (with_reducible refine (entry_Same_1.calls ((rd_T52 l0 Aa).f0) ((rd_T52 l0 Aa).f1) ((rd_T52 l0 Aa).f2) ((rd_T52 l0 Aa).f3) ((rd_T52 l0 Aa).f4.f0) _ _ ((rd_T52 l0 Aa).f4.f1) ((rd_T52 l0 Aa).f4.f2.f0) ((rd_T52 l0 Aa).f4.f2.f1) ((rd_T52 l0 Aa).f4.f2.f2) ((rd_T52 l0 Aa).f4.f2.f3) ((rd_T52 l1 Aa).f0) ((rd_T52 l1 Aa).f1) ((rd_T52 l1 Aa).f2) ((rd_T52 l1 Aa).f3) ((rd_T52 l1 Aa).f4.f0) _ _ ((rd_T52 l1 Aa).f4.f1) ((rd_T52 l1 Aa).f4.f2.f0) ((rd_T52 l1 Aa).f4.f2.f1) ((rd_T52 l1 Aa).f4.f2.f2) ((rd_T52 l1 Aa).f4.f2.f3) true _ ?A8 ?Ba ?Bb ?Bc A9.out).mono ?_); (case A8 => exact Kd.C_below A3.out (pE2 HB.out Ar.out Av.out)); (case Ba => exact A4.out); (case Bb => exact Kd.C_below A5.out (pE2 HB.out Ar.out Av.out)); (case Bc => exact A6.out); rintro e w17 ⟨rfl, hb⟩; replace Ap := Am (blk_below (g := Ab) (kX1 Ap.out As.out) hb); replace Au := Am (blk_below (g := At) (kX0 Au.out) hb); replace HB := zX2 HB Ar.out Av.out hb; (try clear hb)))
   go_roundg k1
   case measure => have := HK1.out; omega
   case rel => exact ⟨(wrap64 (Aa + 1)), zr, H', ⟨by have := HK1.out; omega⟩, ⟨pE2 HB.out Ar.out Av.out⟩⟩
def entry_Same.f (k : Nat) (l0 : List (S52)) (l1 : List (S52)) : Option (Bool) := (slices_EqualFunc_api_Entry.f k l0 l1).bind fun t411 => (some t411)
theorem entry_Same.mono : ∀ a0 a1 k, LeO (entry_Same.f k a0 a1) (entry_Same.f (k + 1) a0 a1) := by
 intro a0 a1 k
 unfold entry_Same.f
 repeat' (with_reducible first | exact slices_EqualFunc_api_Entry.mono .. | exact LeO.refl .. | exact LeO.none .. | refine LeO.ite ?_ ?_ | refine LeO.bind ?_ (fun _ => ?_))
set_option maxRecDepth 100000 in
theorem entry_Same.calls (k : Nat) (A0 : Option Addr) (c0 : Nat) (l0 : List (S52)) (A1 : Option Addr) (c1 : Nat) (l1 : List (S52)) (r : Bool) (w : World) (hr0 : Kd.C k52 w A0 l0.length l0) (hc0 : l0.length ≤ c0) (hr1 : Kd.C k52 w A1 l1.length l1) (hc1 : l1.length ≤ c1) (h : entry_Same.f k l0 l1 = some r) :
 Calls Try.prog 25 #[.slice A0 l0.length c0, .slice A1 l1.length c1] w fun e w' => e = .returned (.bool r) ∧ Below w.heap.size w w' := by
 have HR0 := Am hr0
 have HC0 := Am hc0
 clear hr0 hc0
 have HR1 := Am hr1
 have HC1 := Am hc1
 clear hr1 hc1
 have HB := Am (Below.refl w.heap.size w)
 unfold entry_Same.f at h
 have H := h
 clear h
 obtain ⟨t411, A3, H⟩ := zb H
 obtain rfl := Option.some.inj H
 go_enter Try.func25, Try.ntmps25
 go_wp2_with (first | ((with_reducible refine zC 50 rfl ?_); refine zL (some 7) Try.func50 #[.slice A0 l0.length c0, .slice A1 l1.length c1, .func (.func 51) #[] #[]] ?_; (with_reducible refine (slices_EqualFunc_api_Entry.calls k _ _ l0 _ _ l1 t411 _ ?side1 ?side2 ?side3 ?side4 A3.out).mono ?_); (case side1 => repeat (first | exact HR0.out | (with_reducible refine Kd.C_alloc ?_ _) | (with_reducible refine Kd.C_drewN ?_ _) | (with_reducible refine Kd.C_drew ?_))); (case side2 => exact HC0.out); (case side3 => repeat (first | exact HR1.out | (with_reducible refine Kd.C_alloc ?_ _) | (with_reducible refine Kd.C_drewN ?_ _) | (with_reducible refine Kd.C_drew ?_))); (case side4 => exact HC1.out); rintro e w4 ⟨rfl, hb⟩; refine ⟨_, rfl, ?_⟩; replace HB := zB HB hb; (try clear hb)))
 go_ret
 exact ⟨pX, pB HB.out⟩
def wal_Same.f (k : Nat) (a0_0 : Int) (l0_1 : List (S52)) (a0_2 : Int) (a0_3 : Int) (a0_4 : Int) (a0_5 : Int) (a1_0 : Int) (l1_1 : List (S52)) (a1_2 : Int) (a1_3 : Int) (a1_4 : Int) (a1_5 : Int) : Option (Bool) := if a0_0 = a1_0 then (if (a0_2 == a1_2 && (a0_3 == a1_3 && (a0_4 == a1_4))) = true then (if a0_5 = a1_5 then ((entry_Same.f k l0_1 l1_1).bind fun t414 => (some t414)) else (some false)) else (some false)) else (some false)
theorem wal_Same.mono : ∀ a0 a1 a2 a3 a4 a5 a6 a7 a8 a9 a10 a11 k, LeO (wal_Same.f k a0 a1 a2 a3 a4 a5 a6 a7 a8 a9 a10 a11) (wal_Same.f (k + 1) a0 a1 a2 a3 a4 a5 a6 a7 a8 a9 a10 a11) := by
 intro a0 a1 a2 a3 a4 a5 a6 a7 a8 a9 a10 a11 k
 unfold wal_Same.f
 repeat' (with_reducible first | exact entry_Same.mono .. | exact LeO.refl .. | exact LeO.none .. | refine LeO.ite ?_ ?_ | refine LeO.bind ?_ (fun _ => ?_))
set_option maxRecDepth 100000 in
theorem wal_Same.calls (k : Nat) (a0_0 : Int) (A0_1 : Option Addr) (c0_1 : Nat) (l0_1 : List (S52)) (a0_2 : Int) (a0_3 : Int) (a0_4 : Int) (a0_5 : Int) (a1_0 : Int) (A1_1 : Option Addr) (c1_1 : Nat) (l1_1 : List (S52)) (a1_2 : Int) (a1_3 : Int) (a1_4 : Int) (a1_5 : Int) (r : Bool) (w : World) (hr0_1 : Kd.C k52 w A0_1 l0_1.length l0_1) (hc0_1 : l0_1.length ≤ c0_1) (hr1_1 : Kd.C k52 w A1_1 l1_1.length l1_1) (hc1_1 : l1_1.length ≤ c1_1) (h : wal_Same.f k a0_0 l0_1 a0_2 a0_3 a0_4 a0_5 a1_0 l1_1 a1_2 a1_3 a1_4 a1_5 = some r) :
 Calls Try.prog 10 #[.agg #[.int .i64 a0_0, .slice A0_1 l0_1.length c0_1, .int .i64 a0_2, .int .i64 a0_3, .int .i64 a0_4, .int .i64 a0_5], .agg #[.int .i64 a1_0, .slice A1_1 l1_1.length c1_1, .int .i64 a1_2, .int .i64 a1_3, .int .i64 a1_4, .int .i64 a1_5]] w fun e w' => e = .returned (.bool r) ∧ Below w.heap.size w w' := by
 have hu30 := Try.underlying30
 have hu28 := Try.underlying28
 have Ak := Am hr0_1
 have Al := Am hc0_1
 clear hr0_1 hc0_1
 have An := Am hr1_1
 have Ao := Am hc1_1
 clear hr1_1 hc1_1
 have HB := Am (Below.refl w.heap.size w)
 unfold wal_Same.f at h
 have H := h
 clear h
 by_cases c3 : a0_0 = a1_0
 rotate_left
 ·rw [if_neg c3] at H
  obtain ⟨c3b0, c3b1⟩ := zk c3
  obtain rfl := Option.some.inj H
  go_enter Try.func10, Try.ntmps10
  go_wp2_with (first | ((with_reducible refine zD 2 rfl ?_); refine zE 2 #[.int .i64 a0_0, .slice A0_1 l0_1.length c0_1, .int .i64 a0_2, .int .i64 a0_3, .int .i64 a0_4, .int .i64 a0_5] 30 ?_; intro Ae hg w23 hbox hb; have Aa := Am (hbox); have Ai := zA hg HB; replace HB := zB HB hb; have Ad := Ai; clear hb hbox hg) | ((with_reducible refine zD 3 rfl ?_); refine zE 3 #[.int .i64 a1_0, .slice A1_1 l1_1.length c1_1, .int .i64 a1_2, .int .i64 a1_3, .int .i64 a1_4, .int .i64 a1_5] 30 ?_; intro Af hg w24 hbox hb; have Ag := Am (hbox); have Aj := zY1 hg HB Ad.out; replace HB := zX1 HB Ad.out hb; have Ah := Aj; have Ab := Am (zN hg (kL Aa.out)); have Ac := Am (zM hg (kL Aa.out)); replace Aa := kBa Aa hb; clear hb hbox hg; have hnb25 := Ab.out; have hnc25 := Ac.out; obtain ⟨_, _, _, _, _, _⟩ := bc6 Aa.out; obtain ⟨_, _, _, _, _, _⟩ := bf6 Aa.out; obtain ⟨_, _, _, _, _, _⟩ := bc6 Ag.out; obtain ⟨_, _, _, _, _, _⟩ := bf6 Ag.out))
  go_ret
  exact ⟨pX, pE2 HB.out Ad.out Ah.out⟩
 rw [if_pos c3] at H
 obtain ⟨c3b0, c3b1⟩ := zc c3
 clear c3
 by_cases c4 : (a0_2 == a1_2 && (a0_3 == a1_3 && (a0_4 == a1_4))) = true
 rotate_left
 ·rw [if_neg c4] at H
  have c4b0 : (a0_2 == a1_2 && (a0_3 == a1_3 && (a0_4 == a1_4))) = false := by simpa using c4
  (try (have c4b1 : decide (a0_2 = a1_2 && (a0_3 == a1_3 && (a0_4 == a1_4))) = false := by simpa using c4))
  (try (have c4b2 : (a0_2 == a1_2 && (a0_3 == a1_3 && (a0_4 == a1_4))) = false := by simpa using c4))
  (try (have c4b3 : ¬ (a0_2 = a1_2 && (a0_3 == a1_3 && (a0_4 == a1_4))) := by simpa using c4))
  clear c4
  obtain rfl := Option.some.inj H
  go_enter Try.func10, Try.ntmps10
  go_wp2_with (first | ((with_reducible refine zD 2 rfl ?_); refine zE 2 #[.int .i64 a0_0, .slice A0_1 l0_1.length c0_1, .int .i64 a0_2, .int .i64 a0_3, .int .i64 a0_4, .int .i64 a0_5] 30 ?_; intro Ae hg w18 hbox hb; have Aa := Am (hbox); have Ai := zA hg HB; replace HB := zB HB hb; have Ad := Ai; clear hb hbox hg) | ((with_reducible refine zD 3 rfl ?_); refine zE 3 #[.int .i64 a1_0, .slice A1_1 l1_1.length c1_1, .int .i64 a1_2, .int .i64 a1_3, .int .i64 a1_4, .int .i64 a1_5] 30 ?_; intro Af hg w19 hbox hb; have Ag := Am (hbox); have Aj := zY1 hg HB Ad.out; replace HB := zX1 HB Ad.out hb; have Ah := Aj; have Ab := Am (zN hg (kL Aa.out)); have Ac := Am (zM hg (kL Aa.out)); replace Aa := kBa Aa hb; clear hb hbox hg; have hnb20 := Ab.out; have hnc20 := Ac.out; obtain ⟨_, _, _, _, _, _⟩ := bc6 Aa.out; obtain ⟨_, _, _, _, _, _⟩ := bf6 Aa.out; obtain ⟨_, _, _, _, _, _⟩ := bc6 Ag.out; obtain ⟨_, _, _, _, _, _⟩ := bf6 Ag.out))
  go_ret
  exact ⟨pX, pE2 HB.out Ad.out Ah.out⟩
 rw [if_pos c4] at H
 have c4b0 : (a0_2 == a1_2 && (a0_3 == a1_3 && (a0_4 == a1_4))) = true := c4
 (try (have c4b1 : decide (a0_2 = a1_2 && (a0_3 == a1_3 && (a0_4 == a1_4))) = true := by simpa using c4))
 (try (have c4b2 : (a0_2 == a1_2 && (a0_3 == a1_3 && (a0_4 == a1_4))) = true := by simpa using c4))
 clear c4
 by_cases c5 : a0_5 = a1_5
 rotate_left
 ·rw [if_neg c5] at H
  obtain ⟨c5b0, c5b1⟩ := zk c5
  obtain rfl := Option.some.inj H
  go_enter Try.func10, Try.ntmps10
  go_wp2_with (first | ((with_reducible refine zD 2 rfl ?_); refine zE 2 #[.int .i64 a0_0, .slice A0_1 l0_1.length c0_1, .int .i64 a0_2, .int .i64 a0_3, .int .i64 a0_4, .int .i64 a0_5] 30 ?_; intro Ae hg w13 hbox hb; have Aa := Am (hbox); have Ai := zA hg HB; replace HB := zB HB hb; have Ad := Ai; clear hb hbox hg) | ((with_reducible refine zD 3 rfl ?_); refine zE 3 #[.int .i64 a1_0, .slice A1_1 l1_1.length c1_1, .int .i64 a1_2, .int .i64 a1_3, .int .i64 a1_4, .int .i64 a1_5] 30 ?_; intro Af hg w14 hbox hb; have Ag := Am (hbox); have Aj := zY1 hg HB Ad.out; replace HB := zX1 HB Ad.out hb; have Ah := Aj; have Ab := Am (zN hg (kL Aa.out)); have Ac := Am (zM hg (kL Aa.out)); replace Aa := kBa Aa hb; clear hb hbox hg; have hnb15 := Ab.out; have hnc15 := Ac.out; obtain ⟨_, _, _, _, _, _⟩ := bc6 Aa.out; obtain ⟨_, _, _, _, _, _⟩ := bf6 Aa.out; obtain ⟨_, _, _, _, _, _⟩ := bc6 Ag.out; obtain ⟨_, _, _, _, _, _⟩ := bf6 Ag.out))
  go_ret
  exact ⟨pX, pE2 HB.out Ad.out Ah.out⟩
 rw [if_pos c5] at H
 obtain ⟨c5b0, c5b1⟩ := zc c5
 clear c5
 obtain ⟨t414, A6, H⟩ := zb H
 obtain rfl := Option.some.inj H
 go_enter Try.func10, Try.ntmps10
 go_wp2_with (first | ((with_reducible refine zD 2 rfl ?_); refine zE 2 #[.int .i64 a0_0, .slice A0_1 l0_1.length c0_1, .int .i64 a0_2, .int .i64 a0_3, .int .i64 a0_4, .int .i64 a0_5] 30 ?_; intro Ae hg w7 hbox hb; have Aa := Am (hbox); have Ai := zA hg HB; replace HB := zB HB hb; have Ad := Ai; clear hb hbox hg) | ((with_reducible refine zD 3 rfl ?_); refine zE 3 #[.int .i64 a1_0, .slice A1_1 l1_1.length c1_1, .int .i64 a1_2, .int .i64 a1_3, .int .i64 a1_4, .int .i64 a1_5] 30 ?_; intro Af hg w8 hbox hb; have Ag := Am (hbox); have Aj := zY1 hg HB Ad.out; replace HB := zX1 HB Ad.out hb; have Ah := Aj; have Ab := Am (zN hg (kL Aa.out)); have Ac := Am (zM hg (kL Aa.out)); replace Aa := kBa Aa hb; clear hb hbox hg; have hnb9 := Ab.out; have hnc9 := Ac.out; obtain ⟨_, _, _, _, _, _⟩ := bc6 Aa.out; obtain ⟨_, _, _, _, _, _⟩ := bf6 Aa.out; obtain ⟨_, _, _, _, _, _⟩ := bc6 Ag.out; obtain ⟨_, _, _, _, _, _⟩ := bf6 Ag.out) | (go_at_call 25; (with_reducible refine (entry_Same.calls k _ _ l0_1 _ _ l1_1 t414 _ ?Ap ?Aq ?Ar ?As A6.out).mono ?_); (case Ap => exact pC (Kd.C_below Ak.out HB.out)); (case Aq => exact Al.out); (case Ar => exact pC (Kd.C_below An.out HB.out)); (case As => exact Ao.out); rintro e w12 ⟨rfl, hb⟩; replace Aa := kBa Aa hb; replace Ag := kBa Ag hb; replace HB := zX2 HB Ad.out Ah.out hb; (try clear hb)))
 go_ret
 exact ⟨pX, pE2 HB.out Ad.out Ah.out⟩
end Go.Proofs.Ytdanmjfkocjgjaa.PWalPuts
