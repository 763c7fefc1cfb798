/- What the law reaches, as plain Lean functions, and that the machine's calls answer just that. -/
import Derived.Test.YtmcijphmcobjlaaPWalMakesx0
namespace Go.Proofs.Ytmcijphmcobjlaa.PWalMakes
open Go.RowKit Go.Proofs.YtmcijphmcobjlaaW.PrintWords Go.Proofs.YtmcijphmcobjlaaW.PrintLast Go.Proofs.YtmcijphmcobjlaaW.PrintMore
set_option linter.unusedVariables false
set_option linter.unusedSimpArgs false
section
attribute [local go_sem] max2_int min2_int max_two min_two max_three min_three max_four min_four
attribute [local go_sem] wrap64_l1 wrap64_l2 wrap64_l3 wrap64_l4 wrap64_l5
theorem eqA24 (d : Nat) (w : World) (x0 y0 : Int) (x1 y1 : Int) (x2 y2 : Int) :
 (Op.equalIn (d + 2) 24 (.agg #[.int .i64 x0, .int .i64 x1, .int .i64 x2]) (.agg #[.int .i64 y0, .int .i64 y1, .int .i64 y2])).run Try.prog w = .ok (x0 == y0 && (x1 == y1 && (x2 == y2))) w := by
 refine eqA_of Try.underlying24 (by kernel_rfl) ?_
 refine eqf_cons (by rfl) (by go_simp; rfl) (by go_simp; rfl) (by go_simp) ?_
 refine eqf_cons (by rfl) (by go_simp; rfl) (by go_simp; rfl) (by go_simp) ?_
 exact eqf_last (by rfl) (by go_simp; rfl) (by go_simp; rfl) (by go_simp)
end
section
attribute [local go_sem] max2_int min2_int max_two min_two max_three min_three max_four min_four
attribute [local go_sem] wrap64_l1 wrap64_l2 wrap64_l3 wrap64_l4 wrap64_l5
theorem eqA50 (d : Nat) (w : World) (x0 y0 : Int) (x1 y1 : Int) (x2 y2 : Int) (x3 y3 : Int) :
 (Op.equalIn (d + 2) 50 (.agg #[.int .i64 x0, .int .i64 x1, .int .i64 x2, .int .u32 x3]) (.agg #[.int .i64 y0, .int .i64 y1, .int .i64 y2, .int .u32 y3])).run Try.prog w = .ok (x0 == y0 && (x1 == y1 && (x2 == y2 && (x3 == y3)))) w := by
 refine eqA_of Try.underlying50 (by kernel_rfl) ?_
 refine eqf_cons (by rfl) (by go_simp; rfl) (by go_simp; rfl) (by go_simp) ?_
 refine eqf_cons (by rfl) (by go_simp; rfl) (by go_simp; rfl) (by go_simp) ?_
 refine eqf_cons (by rfl) (by go_simp; rfl) (by go_simp; rfl) (by go_simp) ?_
 exact eqf_last (by rfl) (by go_simp; rfl) (by go_simp; rfl) (by go_simp)
end
section
attribute [local go_sem] max2_int min2_int max_two min_two max_three min_three max_four min_four
set_option maxHeartbeats 8000000
attribute [local go_sem] wrap64_l1 wrap64_l2 wrap64_l3 wrap64_l4 wrap64_l5
mutual
def garnerlaw06_Light.l0 : Nat → List (S54) → Int → Option (Bool)
 | 0, _, _ => none
 | k + 1, x0, x3 => if x3 < (x0.length : Int) then (garnerlaw06_Light.j1 k x0 x3 (decide (x3 ≤ 40))) else (garnerlaw06_Light.j1 k x0 x3 false)
def garnerlaw06_Light.j1 : Nat → List (S54) → Int → Bool → Option (Bool)
 | 0, _, _, _ => none
 | k + 1, x0, x3, x11 => if x11 = true then (if 0 ≤ x3 then (if x3 < (x0.length : Int) then (if (((rd_T54 x0 x3).f3).size : Int) > 200 then (some false) else (if (((rd_T54 x0 x3).f4.f1).length : Int) > 200 then (some false) else (garnerlaw06_Light.l0 k x0 (wrap64 (x3 + 1))))) else (none)) else (none)) else (some (decide ((x0.length : Int) ≤ 40)))
end
def garnerlaw06_Light.f (k : Nat) (l0 : List (S54)) : Option (Bool) := garnerlaw06_Light.l0 k l0 0
theorem garnerlaw06_Light.mono_l : ∀ k, (∀ y0 y1, LeO (garnerlaw06_Light.l0 k y0 y1) (garnerlaw06_Light.l0 (k + 1) y0 y1)) ∧ (∀ y0 y1 y2, LeO (garnerlaw06_Light.j1 k y0 y1 y2) (garnerlaw06_Light.j1 (k + 1) y0 y1 y2))
 | 0 => ⟨fun _ _ r h => by simp [garnerlaw06_Light.l0] at h, fun _ _ _ r h => by simp [garnerlaw06_Light.j1] at h⟩
 | k + 1 => by
  obtain ⟨ih0, ih1⟩ := garnerlaw06_Light.mono_l k
  refine ⟨?_, ?_⟩
  ·intro y0 y1
   unfold garnerlaw06_Light.l0
   repeat' (with_reducible first | exact ih0 .. | exact ih1 .. | exact LeO.refl .. | exact LeO.none .. | refine LeO.ite ?_ ?_ | refine LeO.bind ?_ (fun _ => ?_))
  ·intro y0 y1 y2
   unfold garnerlaw06_Light.j1
   repeat' (with_reducible first | exact ih0 .. | exact ih1 .. | exact LeO.refl .. | exact LeO.none .. | refine LeO.ite ?_ ?_ | refine LeO.bind ?_ (fun _ => ?_))
theorem garnerlaw06_Light.mono : ∀ a0 k, LeO (garnerlaw06_Light.f k a0) (garnerlaw06_Light.f (k + 1) a0) := by
 intro a0 k
 obtain ⟨ih0, ih1⟩ := garnerlaw06_Light.mono_l k
 unfold garnerlaw06_Light.f
 repeat' (with_reducible first | exact ih0 .. | exact ih1 .. | exact LeO.refl .. | exact LeO.none .. | refine LeO.ite ?_ ?_ | refine LeO.bind ?_ (fun _ => ?_))
set_option maxRecDepth 100000 in
theorem garnerlaw06_Light.calls (k : Nat) (A0 : Option Addr) (c0 : Nat) (l0 : List (S54)) (r : Bool) (w : World) (hr0 : Kd.C k54 w A0 l0.length l0) (hc0 : l0.length ≤ c0) (h : garnerlaw06_Light.f k l0 = some r) :
 Calls Try.prog 7 #[.slice A0 l0.length c0] w fun e w' => e = .returned (.bool r) ∧ Drawn0 w w' := by
 have HR0 := Am hr0
 have HC0 := Am hc0
 clear hr0 hc0
 unfold garnerlaw06_Light.f at h
 have H := h
 clear h
 have H' := Am H
 clear H
 go_enter Try.func7, Try.ntmps7
 go_wp2
 go_loopg [3] k (fun kq v3 w' => ∃ (Aa : Int), v3 = .int .i64 Aa ∧ Aside0 (garnerlaw06_Light.l0 kq l0 Aa = some r) ∧ Aside0 (kq ≤ k) ∧ Drawn0 w w')
 case atStart => exact ⟨(0), zr, H', ⟨Nat.le_refl _⟩, zd⟩
 case round =>
  clear H'
  obtain ⟨Aa, rfl, HA, HK1, ⟨m1, rfl⟩⟩ := hrel
  cases gk with
  | zero => exact absurd HA.out (by simp [garnerlaw06_Light.l0])
  | succ k1 =>
   have H := HA.out
   clear HA
   simp only [garnerlaw06_Light.l0] at H
   have HC2 := Am H
   clear H
   go_upto_region 2 with (fail)
   go_cut [11] (fun v11 wc => ∃ (kq : Nat) (Ad : Bool), v11 = .bool Ad ∧ Aside0 (garnerlaw06_Light.j1 kq l0 Aa Ad = some r) ∧ Aside0 (kq ≤ k1) ∧ Drawn0 w wc)
   case first =>
    have H := HC2.out
    clear HC2
    by_cases c3 : Aa < (l0.length : Int)
    ·rw [if_pos c3] at H
     have c3b0 := decide_eq_true c3
     clear c3
     (first | rw [c3b0] | (simp only [i64_w, i32_w]; rw [c3b0]) | skip)
     have H' := Am H
     clear H
     go_wp2
     go_meet
     case rel => exact ⟨_, (decide (Aa ≤ 40)), zr, H', ⟨by have := HK1.out; first | omega | exact Nat.le_refl _⟩, zd⟩
    rw [if_neg c3] at H
    have c3b0 := decide_eq_false c3
    clear c3
    (first | rw [c3b0] | (simp only [i64_w, i32_w]; rw [c3b0]) | skip)
    have H' := Am H
    clear H
    go_wp2
    go_meet
    case rel => exact ⟨_, (false), zr, H', ⟨by have := HK1.out; first | omega | exact Nat.le_refl _⟩, zd⟩
   case rest =>
    clear HC2
    try clear p2
    try clear c3
    try clear c3b0
    obtain ⟨kq, Ad, rfl, HA, HJ1, ⟨mc1, rfl⟩⟩ := hcut
    cases kq with
    | zero => exact absurd HA.out (by simp [garnerlaw06_Light.j1])
    | succ kj1 =>
     have H := HA.out
     clear HA
     simp only [garnerlaw06_Light.j1] at H
     by_cases c4 : Ad = true
     rotate_left
     ·replace c4 := Bool.eq_false_iff.mpr c4
      subst c4
      rw [if_neg zF] at H
      obtain rfl := Option.some.inj H
      go_wp2
      go_ret
      exact ⟨zr, zd⟩
     subst c4
     rw [if_pos rfl] at H
     obtain ⟨c5, H⟩ := zI H
     have c5b0 := decide_eq_true c5
     clear c5
     obtain ⟨c6, H⟩ := zI H
     have c6b0 := decide_eq_true c6
     clear c6
     by_cases c7 : (((rd_T54 l0 Aa).f3).size : Int) > 200
     ·rw [if_pos c7] at H
      have c7b0 : decide (200 < (((rd_T54 l0 Aa).f3).size : Int)) = true := decide_eq_true c7
      have c7b1 : decide (200 < ((rd_T54 l0 Aa).f3).size) = true := decide_eq_true (by omega)
      clear c7
      obtain rfl := Option.some.inj H
      have p101 : 0 ≤ (Aa : Int) := of_decide_eq_true pS
      have q101 : Aa < (l0.length : Int) := of_decide_eq_true pS
      obtain ⟨As, Ar, c101_5, e101, Ae, Af, Ag, Ah, Ai, Aj, Ak, Al, An, Ao, Ab, Ac⟩ := at_T54 HR0.out Aa p101 q101
      cases e101
      have Ap := Am Ac
      have Aq := Am Ab
      clear Ac Ab
      replace p101 := eq_true p101
      replace q101 := eq_true q101
      go_wp2
      go_ret
      exact ⟨zr, zd⟩
     rw [if_neg c7] at H
     have c7b0 : decide (200 < (((rd_T54 l0 Aa).f3).size : Int)) = false := decide_eq_false c7
     have c7b1 : decide (200 < ((rd_T54 l0 Aa).f3).size) = false := decide_eq_false (by omega)
     clear c7
     by_cases c8 : (((rd_T54 l0 Aa).f4.f1).length : Int) > 200
     ·rw [if_pos c8] at H
      have c8b0 : decide (200 < (((rd_T54 l0 Aa).f4.f1).length : Int)) = true := decide_eq_true c8
      have c8b1 : decide (200 < ((rd_T54 l0 Aa).f4.f1).length) = true := decide_eq_true (by omega)
      clear c8
      obtain rfl := Option.some.inj H
      have p101 : 0 ≤ (Aa : Int) := of_decide_eq_true pS
      have q101 : Aa < (l0.length : Int) := of_decide_eq_true pS
      obtain ⟨As, Ar, c101_5, e101, Ae, Af, Ag, Ah, Ai, Aj, Ak, Al, An, Ao, Ab, Ac⟩ := at_T54 HR0.out Aa p101 q101
      cases e101
      have Ap := Am Ac
      have Aq := Am Ab
      clear Ac Ab
      replace p101 := eq_true p101
      replace q101 := eq_true q101
      go_wp2
      go_ret
      exact ⟨zr, zd⟩
     rw [if_neg c8] at H
     have c8b0 : decide (200 < (((rd_T54 l0 Aa).f4.f1).length : Int)) = false := decide_eq_false c8
     have c8b1 : decide (200 < ((rd_T54 l0 Aa).f4.f1).length) = false := decide_eq_false (by omega)
     clear c8
     have H' := Am H
     clear H
     have p101 : 0 ≤ (Aa : Int) := of_decide_eq_true pS
     have q101 : Aa < (l0.length : Int) := of_decide_eq_true pS
     obtain ⟨As, Ar, c101_5, e101, Ae, Af, Ag, Ah, Ai, Aj, Ak, Al, An, Ao, Ab, Ac⟩ := at_T54 HR0.out Aa p101 q101
     cases e101
     have Ap := Am Ac
     have Aq := Am Ab
     clear Ac Ab
     replace p101 := eq_true p101
     replace q101 := eq_true q101
     go_wp2
     go_roundg kj1
     case measure => have := HK1.out; have := HJ1.out; omega
     case rel => exact ⟨(wrap64 (Aa + 1)), zr, H', ⟨by have := HK1.out; have := HJ1.out; omega⟩, zd⟩
mutual
def garnerlaw24_Light.l0 : Nat → List (S34) → Int → Option (Bool)
 | 0, _, _ => none
 | k + 1, x0, x3 => if x3 < (x0.length : Int) then (garnerlaw24_Light.j1 k x0 x3 (decide (x3 ≤ 60))) else (garnerlaw24_Light.j1 k x0 x3 false)
def garnerlaw24_Light.j1 : Nat → List (S34) → Int → Bool → Option (Bool)
 | 0, _, _, _ => none
 | k + 1, x0, x3, x11 => if x11 = true then (if 0 ≤ x3 then (if x3 < (x0.length : Int) then ((garnerlaw06_Light.f k ((rd_T34 x0 x3).f1)).bind fun t104 => (if t104 = true then (garnerlaw24_Light.l0 k x0 (wrap64 (x3 + 1))) else (some false))) else (none)) else (none)) else (some (decide ((x0.length : Int) ≤ 60)))
end
def garnerlaw24_Light.f (k : Nat) (l0 : List (S34)) : Option (Bool) := garnerlaw24_Light.l0 k l0 0
theorem garnerlaw24_Light.mono_l : ∀ k, (∀ y0 y1, LeO (garnerlaw24_Light.l0 k y0 y1) (garnerlaw24_Light.l0 (k + 1) y0 y1)) ∧ (∀ y0 y1 y2, LeO (garnerlaw24_Light.j1 k y0 y1 y2) (garnerlaw24_Light.j1 (k + 1) y0 y1 y2))
 | 0 => ⟨fun _ _ r h => by simp [garnerlaw24_Light.l0] at h, fun _ _ _ r h => by simp [garnerlaw24_Light.j1] at h⟩
 | k + 1 => by
  obtain ⟨ih0, ih1⟩ := garnerlaw24_Light.mono_l k
  refine ⟨?_, ?_⟩
  ·intro y0 y1
   unfold garnerlaw24_Light.l0
   repeat' (with_reducible first | exact ih0 .. | exact ih1 .. | exact garnerlaw06_Light.mono .. | exact LeO.refl .. | exact LeO.none .. | refine LeO.ite ?_ ?_ | refine LeO.bind ?_ (fun _ => ?_))
  ·intro y0 y1 y2
   unfold garnerlaw24_Light.j1
   repeat' (with_reducible first | exact ih0 .. | exact ih1 .. | exact garnerlaw06_Light.mono .. | exact LeO.refl .. | exact LeO.none .. | refine LeO.ite ?_ ?_ | refine LeO.bind ?_ (fun _ => ?_))
theorem garnerlaw24_Light.mono : ∀ a0 k, LeO (garnerlaw24_Light.f k a0) (garnerlaw24_Light.f (k + 1) a0) := by
 intro a0 k
 obtain ⟨ih0, ih1⟩ := garnerlaw24_Light.mono_l k
 unfold garnerlaw24_Light.f
 repeat' (with_reducible first | exact ih0 .. | exact ih1 .. | exact garnerlaw06_Light.mono .. | exact LeO.refl .. | exact LeO.none .. | refine LeO.ite ?_ ?_ | refine LeO.bind ?_ (fun _ => ?_))
set_option maxRecDepth 100000 in
theorem garnerlaw24_Light.calls (k : Nat) (A0 : Option Addr) (c0 : Nat) (l0 : List (S34)) (r : Bool) (w : World) (hr0 : Kd.C k34 w A0 l0.length l0) (hc0 : l0.length ≤ c0) (h : garnerlaw24_Light.f k l0 = some r) :
 Calls Try.prog 6 #[.slice A0 l0.length c0] w fun e w' => e = .returned (.bool r) ∧ Drawn0 w w' := by
 have HR0 := Am hr0
 have HC0 := Am hc0
 clear hr0 hc0
 unfold garnerlaw24_Light.f at h
 have H := h
 clear h
 have H' := Am H
 clear H
 go_enter Try.func6, Try.ntmps6
 go_wp2
 go_loopg [3] k (fun kq v3 w' => ∃ (Aa : Int), v3 = .int .i64 Aa ∧ Aside0 (garnerlaw24_Light.l0 kq l0 Aa = some r) ∧ Aside0 (kq ≤ k) ∧ Drawn0 w w')
 case atStart => exact ⟨(0), zr, H', ⟨Nat.le_refl _⟩, zd⟩
 case round =>
  clear H'
  obtain ⟨Aa, rfl, HA, HK1, ⟨m1, rfl⟩⟩ := hrel
  cases gk with
  | zero => exact absurd HA.out (by simp [garnerlaw24_Light.l0])
  | succ k1 =>
   have H := HA.out
   clear HA
   simp only [garnerlaw24_Light.l0] at H
   have HC2 := Am H
   clear H
   go_upto_region 2 with (fail)
   go_cut [11] (fun v11 wc => ∃ (kq : Nat) (Ag : Bool), v11 = .bool Ag ∧ Aside0 (garnerlaw24_Light.j1 kq l0 Aa Ag = some r) ∧ Aside0 (kq ≤ k1) ∧ Drawn0 w wc)
   case first =>
    have H := HC2.out
    clear HC2
    by_cases c3 : Aa < (l0.length : Int)
    ·rw [if_pos c3] at H
     have c3b0 := decide_eq_true c3
     clear c3
     (first | rw [c3b0] | (simp only [i64_w, i32_w]; rw [c3b0]) | skip)
     have H' := Am H
     clear H
     go_wp2
     go_meet
     case rel => exact ⟨_, (decide (Aa ≤ 60)), zr, H', ⟨by have := HK1.out; first | omega | exact Nat.le_refl _⟩, zd⟩
    rw [if_neg c3] at H
    have c3b0 := decide_eq_false c3
    clear c3
    (first | rw [c3b0] | (simp only [i64_w, i32_w]; rw [c3b0]) | skip)
    have H' := Am H
    clear H
    go_wp2
    go_meet
    case rel => exact ⟨_, (false), zr, H', ⟨by have := HK1.out; first | omega | exact Nat.le_refl _⟩, zd⟩
   case rest =>
    clear HC2
    try clear p2
    try clear c3
    try clear c3b0
    obtain ⟨kq, Ag, rfl, HA, HJ1, ⟨mc1, rfl⟩⟩ := hcut
    cases kq with
    | zero => exact absurd HA.out (by simp [garnerlaw24_Light.j1])
    | succ kj1 =>
     have H := HA.out
     clear HA
     simp only [garnerlaw24_Light.j1] at H
     by_cases c4 : Ag = true
     rotate_left
     ·replace c4 := Bool.eq_false_iff.mpr c4
      subst c4
      rw [if_neg zF] at H
      obtain rfl := Option.some.inj H
      go_wp2
      go_ret
      exact ⟨zr, zd⟩
     subst c4
     rw [if_pos rfl] at H
     obtain ⟨c5, H⟩ := zI H
     have c5b0 := decide_eq_true c5
     clear c5
     obtain ⟨c6, H⟩ := zI H
     have c6b0 := decide_eq_true c6
     clear c6
     obtain ⟨t104, A7, H⟩ := zb H
     by_cases c8 : t104 = true
     rotate_left
     ·replace c8 := Bool.eq_false_iff.mpr c8
      subst c8
      rw [if_neg zF] at H
      obtain rfl := Option.some.inj H
      have p103 : 0 ≤ (Aa : Int) := of_decide_eq_true pS
      have q103 : Aa < (l0.length : Int) := of_decide_eq_true pS
      obtain ⟨Aq, Af, c103_1, e103, Aj, Ak, Al, An, Ao, Ap, Ab, Ac⟩ := at_T34 HR0.out Aa p103 q103
      cases e103
      have Ad := Am Ac
      have Ae := Am Ab
      clear Ac Ab
      replace p103 := eq_true p103
      replace q103 := eq_true q103
      go_wp2_with (first | ((with_reducible refine zC 7 rfl ?_); refine zL (some 19) Try.func7 #[.slice Af ((rd_T34 l0 Aa).f1).length c103_1] ?_; (with_reducible refine (garnerlaw06_Light.calls kj1 _ _ ((rd_T34 l0 Aa).f1) false _ ?Ah ?Ai A7.out).mono ?_); (case Ah => repeat (first | exact Ad.out | (with_reducible refine Kd.C_alloc ?_ _) | (with_reducible refine Kd.C_drewN ?_ _) | (with_reducible refine Kd.C_drew ?_))); (case Ai => exact Ae.out); rintro e w' ⟨rfl, ⟨nd, rfl⟩⟩; refine ⟨_, rfl, ?_⟩))
      go_ret
      exact ⟨zr, zd⟩
     subst c8
     rw [if_pos rfl] at H
     have H' := Am H
     clear H
     have p103 : 0 ≤ (Aa : Int) := of_decide_eq_true pS
     have q103 : Aa < (l0.length : Int) := of_decide_eq_true pS
     obtain ⟨Aq, Af, c103_1, e103, Aj, Ak, Al, An, Ao, Ap, Ab, Ac⟩ := at_T34 HR0.out Aa p103 q103
     cases e103
     have Ad := Am Ac
     have Ae := Am Ab
     clear Ac Ab
     replace p103 := eq_true p103
     replace q103 := eq_true q103
     go_wp2_with (first | ((with_reducible refine zC 7 rfl ?_); refine zL (some 19) Try.func7 #[.slice Af ((rd_T34 l0 Aa).f1).length c103_1] ?_; (with_reducible refine (garnerlaw06_Light.calls kj1 _ _ ((rd_T34 l0 Aa).f1) true _ ?Ah ?Ai A7.out).mono ?_); (case Ah => repeat (first | exact Ad.out | (with_reducible refine Kd.C_alloc ?_ _) | (with_reducible refine Kd.C_drewN ?_ _) | (with_reducible refine Kd.C_drew ?_))); (case Ai => exact Ae.out); rintro e w' ⟨rfl, ⟨nd, rfl⟩⟩; refine ⟨_, rfl, ?_⟩))
     go_roundg kj1
     case measure => have := HK1.out; have := HJ1.out; omega
     case rel => exact ⟨(wrap64 (Aa + 1)), zr, H', ⟨by have := HK1.out; have := HJ1.out; omega⟩, zd⟩
def raft_counts.f (a0 : Int) : Option (Bool) := if a0 ≥ 1 then (some (decide (a0 ≤ 2147483647))) else (some false)
set_option maxRecDepth 100000 in
theorem raft_counts.calls (a0 : Int) (r : Bool) (w : World) (h : raft_counts.f a0 = some r) :
 Calls Try.prog 43 #[.int .i64 a0] w fun e w' => e = .returned (.bool r) ∧ Drawn0 w w' := by
 unfold raft_counts.f at h
 have H := h
 clear h
 by_cases c2 : a0 ≥ 1
 ·rw [if_pos c2] at H
  have c2b0 : decide (1 ≤ a0) = true := decide_eq_true c2
  clear c2
  obtain rfl := Option.some.inj H
  go_enter Try.func43, Try.ntmps43
  go_wp2
  go_ret
  exact ⟨zr, zd⟩
 rw [if_neg c2] at H
 have c2b0 : decide (1 ≤ a0) = false := decide_eq_false c2
 clear c2
 obtain rfl := Option.some.inj H
 go_enter Try.func43, Try.ntmps43
 go_wp2
 go_ret
 exact ⟨zr, zd⟩
end
section
attribute [local go_sem] max2_int min2_int max_two min_two max_three min_three max_four min_four
set_option maxHeartbeats 8000000
attribute [local go_sem] wrap64_l1 wrap64_l2 wrap64_l3 wrap64_l4 wrap64_l5
def raft_rows.l0 : Nat → List (S54) → List (S54) → Int → Int → Option (Bool)
 | 0, _, _, _, _ => none
 | k + 1, x0, x5, x6, x7 => if x7 < x6 then (if 0 ≤ x7 then (if x7 < (x5.length : Int) then ((raft_counts.f ((rd_T54 x5 x7).f0)).bind fun t107 => (if t107 = true then ((raft_counts.f ((rd_T54 x5 x7).f1)).bind fun t108 => (if t108 = true then (if x7 > 0 then (if 0 ≤ (wrap64 (x7 - 1)) then (if (wrap64 (x7 - 1)) < (x0.length : Int) then (if (wrap64 (((rd_T54 x5 x7).f0) - 1)) = ((rd_T54 x0 (wrap64 (x7 - 1))).f0) then (if ((rd_T54 x5 x7).f1) < ((rd_T54 x0 (wrap64 (x7 - 1))).f1) then (some false) else (raft_rows.l0 k x0 x5 x6 (wrap64 (x7 + 1)))) else (some false)) else (none)) else (none)) else (raft_rows.l0 k x0 x5 x6 (wrap64 (x7 + 1)))) else (some false))) else (some false))) else (none)) else (none)) else (some true)
def raft_rows.f (k : Nat) (l0 : List (S54)) : Option (Bool) := raft_rows.l0 k l0 l0 (l0.length : Int) 0
theorem raft_rows.mono_l : ∀ k, (∀ y0 y1 y2 y3, LeO (raft_rows.l0 k y0 y1 y2 y3) (raft_rows.l0 (k + 1) y0 y1 y2 y3))
 | 0 => fun _ _ _ _ r h => by simp [raft_rows.l0] at h
 | k + 1 => by
  have ih0 := raft_rows.mono_l k
  ·intro y0 y1 y2 y3
   unfold raft_rows.l0
   repeat' (with_reducible first | exact ih0 .. | exact LeO.refl .. | exact LeO.none .. | refine LeO.ite ?_ ?_ | refine LeO.bind ?_ (fun _ => ?_))
theorem raft_rows.mono : ∀ a0 k, LeO (raft_rows.f k a0) (raft_rows.f (k + 1) a0) := by
 intro a0 k
 have ih0 := raft_rows.mono_l k
 unfold raft_rows.f
 repeat' (with_reducible first | exact ih0 .. | exact LeO.refl .. | exact LeO.none .. | refine LeO.ite ?_ ?_ | refine LeO.bind ?_ (fun _ => ?_))
def raft_rows.T4 : Bool × List (List Nat × List Nat) := (true, [([], []), ([0], [0]), ([1], [1]), ([2], [2]), ([3, 2], [3]), ([4], [4]), ([5, 4], [4, 5]), ([6, 4, 4], [4, 6]), ([7, 4], [4, 7]), ([4, 8], [4, 8]), ([9, 7], [9]), ([10], [10]), ([11, 10], [10, 11]), ([12, 10, 10], [10, 12]), ([13], [13]), ([14, 13], [13, 14]), ([15, 13], [13, 15]), ([13], [13]), ([13], [13]), ([18, 13], [13, 18]), ([17, 19, 13], [13, 17, 19]), ([20, 13], [13, 20]), ([21, 13], [13, 21]), ([16, 22, 13], [13, 16, 22]), ([23, 13, 13], [13, 23]), ([24], [24]), ([25, 24], [24, 25]), ([24], [24]), ([24], [24]), ([28, 24], [24, 28]), ([27, 29, 24], [24, 27, 29]), ([30, 24], [24, 30]), ([31, 24], [24, 31]), ([26, 32, 24], [24, 26, 32]), ([24, 33, 13], [13, 24, 33]), ([13, 34, 10], [10, 13, 34]), ([10, 35], [10, 35])])
def raft_rows.B4 : List Nat := [0, 1, 3, 7, 15, 31, 63, 127, 255, 511, 1023, 2047, 4095, 8191, 16383, 32767, 65535, 16383, 16383, 278527, 933887, 1982463, 4079615, 8388607, 16777215, 33554431, 67108863, 33554431, 33554431, 301989887, 973078527, 2046820351, 4194303999, 8589934591, 17179869183, 34359738367, 68719476735]
theorem raft_rows.tab4 : rtab .any (opsOf Try.f44 4) = raft_rows.T4 := by kernel_rfl
theorem raft_rows.bits4 : waitsOk raft_rows.T4.2 raft_rows.B4 = true := by kernel_rfl
set_option maxRecDepth 100000 in
theorem raft_rows.calls (k : Nat) (A0 : Option Addr) (c0 : Nat) (l0 : List (S54)) (r : Bool) (w : World) (hr0 : Kd.C k54 w A0 l0.length l0) (hc0 : l0.length ≤ c0) (h : raft_rows.f k l0 = some r) :
 Calls Try.prog 44 #[.slice A0 l0.length c0] w fun e w' => e = .returned (.bool r) ∧ Below w.heap.size w w' := by
 have hu54 := Try.underlying54
 have HR0 := Am hr0
 have HC0 := Am hc0
 clear hr0 hc0
 have HB := Am (Below.refl w.heap.size w)
 unfold raft_rows.f at h
 have H := h
 clear h
 have H' := Am H
 clear H
 go_enter Try.func44, Try.ntmps44
 go_wp2
 go_loopg [7] k (fun kq v7 w' => ∃ (Aa : Int), v7 = .int .i64 Aa ∧ Aside0 (raft_rows.l0 kq l0 l0 (l0.length : Int) Aa = some r) ∧ Aside0 (kq ≤ k) ∧ Aside0 (Below w.heap.size w w'))
 case atStart => exact ⟨(0), zr, H', ⟨Nat.le_refl _⟩, ⟨pB HB.out⟩⟩
 case round =>
  clear H'
  obtain ⟨Aa, rfl, HA, HK1, HB⟩ := hrel
  cases gk with
  | zero => exact absurd HA.out (by simp [raft_rows.l0])
  | succ k1 =>
   have H := HA.out
   clear HA
   simp only [raft_rows.l0] at H
   by_cases c2 : Aa < (l0.length : Int)
   rotate_left
   ·rw [if_neg c2] at H
    have c2b0 := decide_eq_false c2
    clear c2
    obtain rfl := Option.some.inj H
    go_wp2
    go_ret
    exact ⟨pX, pB HB.out⟩
   rw [if_pos c2] at H
   have c2b0 := decide_eq_true c2
   clear c2
   obtain ⟨c3, H⟩ := zI H
   have c3b0 := decide_eq_true c3
   clear c3
   obtain ⟨c4, H⟩ := zI H
   have c4b0 := decide_eq_true c4
   clear c4
   obtain ⟨t107, A5, H⟩ := zb H
   by_cases c6 : t107 = true
   rotate_left
   ·replace c6 := Bool.eq_false_iff.mpr c6
    subst c6
    rw [if_neg zF] at H
    obtain rfl := Option.some.inj H
    have p105 : 0 ≤ (Aa : Int) := of_decide_eq_true pS
    have q105 : Aa < (l0.length : Int) := of_decide_eq_true pS
    obtain ⟨Ah, Ad, c105_5, e105, Ap, Aq, Ar, As, At, Au, Av, Aw, Ax, Ay, Ae, Af⟩ := at_T54u HR0.out Aa p105 q105 HB.out
    cases e105
    have Az := Am Af
    have A1 := Am Ae
    clear Af Ae
    replace p105 := eq_true p105
    replace q105 := eq_true q105
    try go_wp2_with (first | ((with_reducible refine zD 4 rfl ?_); refine zE 4 #[.int .i64 0, .int .i64 0, .int .i64 0, .string (⟨#[]⟩ : ByteArray), .bool false, .slice none 0 0, .int .i64 0, .int .i64 0, .int .i64 0, .int .u32 0] 54 ?_; intro Ab hg w35 hbox hb; have Ac := Am (hbox); have Ao := zA hg HB; replace HB := zB HB hb; have Ai := Ao; clear hb hbox hg; obtain ⟨_, _, _, _, _, _, _, _, _, _⟩ := bc10 Ac.out; obtain ⟨_, _, _, _, _, _, _, _, _, _⟩ := bf10 Ac.out))
    have n0_ : Aside0 (((((((((((w35.setCell ⟨Ab, 0, none⟩ (.int .i64 ((rd_T54 l0 Aa).f0))).setCell ⟨Ab, 1, none⟩ (.int .i64 ((rd_T54 l0 Aa).f1))).setCell ⟨Ab, 2, none⟩ (.int .i64 ((rd_T54 l0 Aa).f2))).setCell ⟨Ab, 3, none⟩ (.string ((rd_T54 l0 Aa).f3))).setCell ⟨Ab, 4, none⟩ (.bool ((rd_T54 l0 Aa).f4.f0))).setCell ⟨Ab, 5, none⟩ (.slice Ad ((rd_T54 l0 Aa).f4.f1).length c105_5)).setCell ⟨Ab, 6, none⟩ (.int .i64 ((rd_T54 l0 Aa).f4.f2.f0))).setCell ⟨Ab, 7, none⟩ (.int .i64 ((rd_T54 l0 Aa).f4.f2.f1))).setCell ⟨Ab, 8, none⟩ (.int .i64 ((rd_T54 l0 Aa).f4.f2.f2))).setCell ⟨Ab, 9, none⟩ (.int .u32 ((rd_T54 l0 Aa).f4.f2.f3))).heap[Ab]? = some (.cells #[.int .i64 ((rd_T54 l0 Aa).f0), .int .i64 ((rd_T54 l0 Aa).f1), .int .i64 ((rd_T54 l0 Aa).f2), .string ((rd_T54 l0 Aa).f3), .bool ((rd_T54 l0 Aa).f4.f0), .slice Ad ((rd_T54 l0 Aa).f4.f1).length c105_5, .int .i64 ((rd_T54 l0 Aa).f4.f2.f0), .int .i64 ((rd_T54 l0 Aa).f4.f2.f1), .int .i64 ((rd_T54 l0 Aa).f4.f2.f2), .int .u32 ((rd_T54 l0 Aa).f4.f2.f3)] 54 (0, 0))) := ⟨kX0 Ac.out⟩
    have n1_ : Aside0 (Below w.heap.size w ((((((((((w35.setCell ⟨Ab, 0, none⟩ (.int .i64 ((rd_T54 l0 Aa).f0))).setCell ⟨Ab, 1, none⟩ (.int .i64 ((rd_T54 l0 Aa).f1))).setCell ⟨Ab, 2, none⟩ (.int .i64 ((rd_T54 l0 Aa).f2))).setCell ⟨Ab, 3, none⟩ (.string ((rd_T54 l0 Aa).f3))).setCell ⟨Ab, 4, none⟩ (.bool ((rd_T54 l0 Aa).f4.f0))).setCell ⟨Ab, 5, none⟩ (.slice Ad ((rd_T54 l0 Aa).f4.f1).length c105_5)).setCell ⟨Ab, 6, none⟩ (.int .i64 ((rd_T54 l0 Aa).f4.f2.f0))).setCell ⟨Ab, 7, none⟩ (.int .i64 ((rd_T54 l0 Aa).f4.f2.f1))).setCell ⟨Ab, 8, none⟩ (.int .i64 ((rd_T54 l0 Aa).f4.f2.f2))).setCell ⟨Ab, 9, none⟩ (.int .u32 ((rd_T54 l0 Aa).f4.f2.f3)))) := ⟨pE HB.out Ai.out⟩
    (try clear Ac)
    (try clear HB)
    generalize ((((((((((w35.setCell ⟨Ab, 0, none⟩ (.int .i64 ((rd_T54 l0 Aa).f0))).setCell ⟨Ab, 1, none⟩ (.int .i64 ((rd_T54 l0 Aa).f1))).setCell ⟨Ab, 2, none⟩ (.int .i64 ((rd_T54 l0 Aa).f2))).setCell ⟨Ab, 3, none⟩ (.string ((rd_T54 l0 Aa).f3))).setCell ⟨Ab, 4, none⟩ (.bool ((rd_T54 l0 Aa).f4.f0))).setCell ⟨Ab, 5, none⟩ (.slice Ad ((rd_T54 l0 Aa).f4.f1).length c105_5)).setCell ⟨Ab, 6, none⟩ (.int .i64 ((rd_T54 l0 Aa).f4.f2.f0))).setCell ⟨Ab, 7, none⟩ (.int .i64 ((rd_T54 l0 Aa).f4.f2.f1))).setCell ⟨Ab, 8, none⟩ (.int .i64 ((rd_T54 l0 Aa).f4.f2.f2))).setCell ⟨Ab, 9, none⟩ (.int .u32 ((rd_T54 l0 Aa).f4.f2.f3))) = w37 at n0_ n1_ ⊢
    have Ac := n0_
    have HB := n1_
    clear n0_ n1_
    replace Ac := kDa Ac
    replace HB := bDa HB
    refine start_ (n := 37) (S := fun w' => cG w' Ab 0 (.int .i64 ((rd_T54 l0 Aa).f0))) (ds := []) #[false, false, false, false, false, false, false, false, false, false, false, false, false, false, false, false, false, false, false, false, false, false, false, false, false, false, false, false, false, false, false, false, false, false, false, false, false] (by kernel_rfl) rfl rfl ((blk_cell Ac.out 0).trans rfl) (fun hHeld => ?_); refine with_tabW raft_rows.tab4 raft_rows.bits4 (fun HT_ HW_ => ?_)
    generalize w37.drew = w38 at Ac HB hHeld ⊢
    refine pui 0 12 37 1 HT_ ?_
    refine take_ (i := 1) (N := some 13) (v := ?_) (a' := ?_) (bw 37 3) rfl rfl (take_ofW HT_.out HW_.out (by kernel_rfl)) (fun _ _ _ h => h) (Or.inl ⟨by rfl, ?_⟩) hHeld ?_ ?_
    rotate_left
    ·intro w' s0
     go_simp
     with_reducible rfl
    rotate_left
    ·exact za
    refine onei 2 14 37 7 HT_ (fun K hK => ?_)
    refine goes_ Try.func43 (by kernel_rfl) rfl #[.int .i64 ((rd_T54 l0 Aa).f0)] (by rfl) rfl rfl pL ?_
    with_reducible refine (raft_counts.calls ((rd_T54 l0 Aa).f0) false _ A5.out).mono ?_
    rintro e w' ⟨rfl, ⟨nd, rfl⟩⟩
    refine ⟨_, rfl, ?_⟩
    refine hK.out _ _ ((blk_cell Ac.out 0).trans rfl) (fun hHeld => ?_)
    clear hK K
    refine norm_ (a' := ?_) ?_ ?_
    rotate_left
    ·show Act.put _ (some 14) _ = _
     simp only [Act.put, List.setIfInBounds_toArray, List.set_cons_zero, List.set_cons_succ, i64_w, i32_w]
     rfl
    refine pui 3 15 37 15 HT_ ?_
    refine zp 4 (h := zq 5 (h := zq 6 (h := zq 7 (h := zq 8 (h := zp 9 (h := zp 10 (h := zq 11 (h := zq 12 (h := zq 13 (h := zq 14 (h := zq 15 (h := zq 16 (h := zq 17 (h := zq 18 (h := zq 19 (h := zq 20 (h := zq 21 (h := zq 22 (h := zq 23 (h := zq 24 (h := zq 25 (h := zq 26 (h := zq 27 (h := zq 28 (h := zq 29 (h := zq 30 (h := zq 31 (h := zq 32 (h := zq 33 (h := zq 34 (h := zq 35 (h := zp 36 (h := ?_)))))))))))))))))))))))))))))))))
    refine done_ (done_of HT_.out (by kernel_rfl)) ?_
    try go_wp2
    go_ret
    exact ⟨pX, pE HB.out Ai.out⟩
   subst c6
   rw [if_pos rfl] at H
   obtain ⟨t108, A7, H⟩ := zb H
   by_cases c8 : t108 = true
   rotate_left
   ·replace c8 := Bool.eq_false_iff.mpr c8
    subst c8
    rw [if_neg zF] at H
    obtain rfl := Option.some.inj H
    have p105 : 0 ≤ (Aa : Int) := of_decide_eq_true pS
    have q105 : Aa < (l0.length : Int) := of_decide_eq_true pS
    obtain ⟨Ah, Ad, c105_5, e105, Ap, Aq, Ar, As, At, Au, Av, Aw, Ax, Ay, Ae, Af⟩ := at_T54u HR0.out Aa p105 q105 HB.out
    cases e105
    have Az := Am Af
    have A1 := Am Ae
    clear Af Ae
    replace p105 := eq_true p105
    replace q105 := eq_true q105
    try go_wp2_with (first | ((with_reducible refine zD 4 rfl ?_); refine zE 4 #[.int .i64 0, .int .i64 0, .int .i64 0, .string (⟨#[]⟩ : ByteArray), .bool false, .slice none 0 0, .int .i64 0, .int .i64 0, .int .i64 0, .int .u32 0] 54 ?_; intro Ab hg w31 hbox hb; have Ac := Am (hbox); have Ao := zA hg HB; replace HB := zB HB hb; have Ai := Ao; clear hb hbox hg; obtain ⟨_, _, _, _, _, _, _, _, _, _⟩ := bc10 Ac.out; obtain ⟨_, _, _, _, _, _, _, _, _, _⟩ := bf10 Ac.out))
    have n0_ : Aside0 (((((((((((w31.setCell ⟨Ab, 0, none⟩ (.int .i64 ((rd_T54 l0 Aa).f0))).setCell ⟨Ab, 1, none⟩ (.int .i64 ((rd_T54 l0 Aa).f1))).setCell ⟨Ab, 2, none⟩ (.int .i64 ((rd_T54 l0 Aa).f2))).setCell ⟨Ab, 3, none⟩ (.string ((rd_T54 l0 Aa).f3))).setCell ⟨Ab, 4, none⟩ (.bool ((rd_T54 l0 Aa).f4.f0))).setCell ⟨Ab, 5, none⟩ (.slice Ad ((rd_T54 l0 Aa).f4.f1).length c105_5)).setCell ⟨Ab, 6, none⟩ (.int .i64 ((rd_T54 l0 Aa).f4.f2.f0))).setCell ⟨Ab, 7, none⟩ (.int .i64 ((rd_T54 l0 Aa).f4.f2.f1))).setCell ⟨Ab, 8, none⟩ (.int .i64 ((rd_T54 l0 Aa).f4.f2.f2))).setCell ⟨Ab, 9, none⟩ (.int .u32 ((rd_T54 l0 Aa).f4.f2.f3))).heap[Ab]? = some (.cells #[.int .i64 ((rd_T54 l0 Aa).f0), .int .i64 ((rd_T54 l0 Aa).f1), .int .i64 ((rd_T54 l0 Aa).f2), .string ((rd_T54 l0 Aa).f3), .bool ((rd_T54 l0 Aa).f4.f0), .slice Ad ((rd_T54 l0 Aa).f4.f1).length c105_5, .int .i64 ((rd_T54 l0 Aa).f4.f2.f0), .int .i64 ((rd_T54 l0 Aa).f4.f2.f1), .int .i64 ((rd_T54 l0 Aa).f4.f2.f2), .int .u32 ((rd_T54 l0 Aa).f4.f2.f3)] 54 (0, 0))) := ⟨kX0 Ac.out⟩
    have n1_ : Aside0 (Below w.heap.size w ((((((((((w31.setCell ⟨Ab, 0, none⟩ (.int .i64 ((rd_T54 l0 Aa).f0))).setCell ⟨Ab, 1, none⟩ (.int .i64 ((rd_T54 l0 Aa).f1))).setCell ⟨Ab, 2, none⟩ (.int .i64 ((rd_T54 l0 Aa).f2))).setCell ⟨Ab, 3, none⟩ (.string ((rd_T54 l0 Aa).f3))).setCell ⟨Ab, 4, none⟩ (.bool ((rd_T54 l0 Aa).f4.f0))).setCell ⟨Ab, 5, none⟩ (.slice Ad ((rd_T54 l0 Aa).f4.f1).length c105_5)).setCell ⟨Ab, 6, none⟩ (.int .i64 ((rd_T54 l0 Aa).f4.f2.f0))).setCell ⟨Ab, 7, none⟩ (.int .i64 ((rd_T54 l0 Aa).f4.f2.f1))).setCell ⟨Ab, 8, none⟩ (.int .i64 ((rd_T54 l0 Aa).f4.f2.f2))).setCell ⟨Ab, 9, none⟩ (.int .u32 ((rd_T54 l0 Aa).f4.f2.f3)))) := ⟨pE HB.out Ai.out⟩
    (try clear Ac)
    (try clear HB)
    generalize ((((((((((w31.setCell ⟨Ab, 0, none⟩ (.int .i64 ((rd_T54 l0 Aa).f0))).setCell ⟨Ab, 1, none⟩ (.int .i64 ((rd_T54 l0 Aa).f1))).setCell ⟨Ab, 2, none⟩ (.int .i64 ((rd_T54 l0 Aa).f2))).setCell ⟨Ab, 3, none⟩ (.string ((rd_T54 l0 Aa).f3))).setCell ⟨Ab, 4, none⟩ (.bool ((rd_T54 l0 Aa).f4.f0))).setCell ⟨Ab, 5, none⟩ (.slice Ad ((rd_T54 l0 Aa).f4.f1).length c105_5)).setCell ⟨Ab, 6, none⟩ (.int .i64 ((rd_T54 l0 Aa).f4.f2.f0))).setCell ⟨Ab, 7, none⟩ (.int .i64 ((rd_T54 l0 Aa).f4.f2.f1))).setCell ⟨Ab, 8, none⟩ (.int .i64 ((rd_T54 l0 Aa).f4.f2.f2))).setCell ⟨Ab, 9, none⟩ (.int .u32 ((rd_T54 l0 Aa).f4.f2.f3))) = w33 at n0_ n1_ ⊢
    have Ac := n0_
    have HB := n1_
    clear n0_ n1_
    replace Ac := kDa Ac
    replace HB := bDa HB
    refine start_ (n := 37) (S := fun w' => cG w' Ab 0 (.int .i64 ((rd_T54 l0 Aa).f0)) ∧ cG w' Ab 1 (.int .i64 ((rd_T54 l0 Aa).f1))) (ds := []) #[false, false, false, false, false, false, false, false, false, false, false, false, false, false, false, false, false, false, false, false, false, false, false, false, false, false, false, false, false, false, false, false, false, false, false, false, false] (by kernel_rfl) rfl rfl ⟨(blk_cell Ac.out 0).trans rfl, (blk_cell Ac.out 1).trans rfl⟩ (fun hHeld => ?_); refine with_tabW raft_rows.tab4 raft_rows.bits4 (fun HT_ HW_ => ?_)
    generalize w33.drew = w34 at Ac HB hHeld ⊢
    refine pui 0 12 37 1 HT_ ?_
    refine zw 1 (h := ?_)
    refine onei 2 14 37 7 HT_ (fun K hK => ?_)
    refine goes_ Try.func43 (by kernel_rfl) rfl #[.int .i64 ((rd_T54 l0 Aa).f0)] (by rfl) rfl rfl pL ?_
    with_reducible refine (raft_counts.calls ((rd_T54 l0 Aa).f0) true _ A5.out).mono ?_
    rintro e w' ⟨rfl, ⟨nd, rfl⟩⟩
    refine ⟨_, rfl, ?_⟩
    refine hK.out _ _ ⟨(blk_cell Ac.out 0).trans rfl, (blk_cell Ac.out 1).trans rfl⟩ (fun hHeld => ?_)
    clear hK K
    refine norm_ (a' := ?_) ?_ ?_
    rotate_left
    ·show Act.put _ (some 14) _ = _
     simp only [Act.put, List.setIfInBounds_toArray, List.set_cons_zero, List.set_cons_succ, i64_w, i32_w]
     rfl
    refine pui 3 15 37 15 HT_ ?_
    refine zp 4 (h := zp 5 (h := zw 6 (h := ?_)))
    refine onei 7 19 37 255 HT_ (fun K hK => ?_)
    refine goes_ Try.func43 (by kernel_rfl) rfl #[.int .i64 ((rd_T54 l0 Aa).f1)] (by rfl) rfl rfl pL ?_
    with_reducible refine (raft_counts.calls ((rd_T54 l0 Aa).f1) false _ A7.out).mono ?_
    rintro e w' ⟨rfl, ⟨nd, rfl⟩⟩
    refine ⟨_, rfl, ?_⟩
    refine hK.out _ _ ⟨(blk_cell Ac.out 0).trans rfl, (blk_cell Ac.out 1).trans rfl⟩ (fun hHeld => ?_)
    clear hK K
    refine norm_ (a' := ?_) ?_ ?_
    rotate_left
    ·show Act.put _ (some 19) _ = _
     simp only [Act.put, List.setIfInBounds_toArray, List.set_cons_zero, List.set_cons_succ, i64_w, i32_w]
     rfl
    refine pui 8 20 37 511 HT_ ?_
    refine zp 9 (h := zp 10 (h := zq 11 (h := zq 12 (h := zq 13 (h := zq 14 (h := zq 15 (h := zq 16 (h := zq 17 (h := zq 18 (h := zq 19 (h := zq 20 (h := zq 21 (h := zq 22 (h := zq 23 (h := zq 24 (h := zq 25 (h := zq 26 (h := zq 27 (h := zq 28 (h := zq 29 (h := zq 30 (h := zq 31 (h := zq 32 (h := zq 33 (h := zq 34 (h := zq 35 (h := zp 36 (h := ?_))))))))))))))))))))))))))))
    refine done_ (done_of HT_.out (by kernel_rfl)) ?_
    try go_wp2
    go_ret
    exact ⟨pX, pE HB.out Ai.out⟩
   subst c8
   rw [if_pos rfl] at H
   by_cases c9 : Aa > 0
   rotate_left
   ·rw [if_neg c9] at H
    have c9b0 : decide (0 < Aa) = false := decide_eq_false c9
    clear c9
    have H' := Am H
    clear H
    have p105 : 0 ≤ (Aa : Int) := of_decide_eq_true pS
    have q105 : Aa < (l0.length : Int) := of_decide_eq_true pS
    obtain ⟨Ah, Ad, c105_5, e105, Ap, Aq, Ar, As, At, Au, Av, Aw, Ax, Ay, Ae, Af⟩ := at_T54u HR0.out Aa p105 q105 HB.out
    cases e105
    have Az := Am Af
    have A1 := Am Ae
    clear Af Ae
    replace p105 := eq_true p105
    replace q105 := eq_true q105
    try go_wp2_with (first | ((with_reducible refine zD 4 rfl ?_); refine zE 4 #[.int .i64 0, .int .i64 0, .int .i64 0, .string (⟨#[]⟩ : ByteArray), .bool false, .slice none 0 0, .int .i64 0, .int .i64 0, .int .i64 0, .int .u32 0] 54 ?_; intro Ab hg w27 hbox hb; have Ac := Am (hbox); have Ao := zA hg HB; replace HB := zB HB hb; have Ai := Ao; clear hb hbox hg; obtain ⟨_, _, _, _, _, _, _, _, _, _⟩ := bc10 Ac.out; obtain ⟨_, _, _, _, _, _, _, _, _, _⟩ := bf10 Ac.out))
    have n0_ : Aside0 (((((((((((w27.setCell ⟨Ab, 0, none⟩ (.int .i64 ((rd_T54 l0 Aa).f0))).setCell ⟨Ab, 1, none⟩ (.int .i64 ((rd_T54 l0 Aa).f1))).setCell ⟨Ab, 2, none⟩ (.int .i64 ((rd_T54 l0 Aa).f2))).setCell ⟨Ab, 3, none⟩ (.string ((rd_T54 l0 Aa).f3))).setCell ⟨Ab, 4, none⟩ (.bool ((rd_T54 l0 Aa).f4.f0))).setCell ⟨Ab, 5, none⟩ (.slice Ad ((rd_T54 l0 Aa).f4.f1).length c105_5)).setCell ⟨Ab, 6, none⟩ (.int .i64 ((rd_T54 l0 Aa).f4.f2.f0))).setCell ⟨Ab, 7, none⟩ (.int .i64 ((rd_T54 l0 Aa).f4.f2.f1))).setCell ⟨Ab, 8, none⟩ (.int .i64 ((rd_T54 l0 Aa).f4.f2.f2))).setCell ⟨Ab, 9, none⟩ (.int .u32 ((rd_T54 l0 Aa).f4.f2.f3))).heap[Ab]? = some (.cells #[.int .i64 ((rd_T54 l0 Aa).f0), .int .i64 ((rd_T54 l0 Aa).f1), .int .i64 ((rd_T54 l0 Aa).f2), .string ((rd_T54 l0 Aa).f3), .bool ((rd_T54 l0 Aa).f4.f0), .slice Ad ((rd_T54 l0 Aa).f4.f1).length c105_5, .int .i64 ((rd_T54 l0 Aa).f4.f2.f0), .int .i64 ((rd_T54 l0 Aa).f4.f2.f1), .int .i64 ((rd_T54 l0 Aa).f4.f2.f2), .int .u32 ((rd_T54 l0 Aa).f4.f2.f3)] 54 (0, 0))) := ⟨kX0 Ac.out⟩
    have n1_ : Aside0 (Below w.heap.size w ((((((((((w27.setCell ⟨Ab, 0, none⟩ (.int .i64 ((rd_T54 l0 Aa).f0))).setCell ⟨Ab, 1, none⟩ (.int .i64 ((rd_T54 l0 Aa).f1))).setCell ⟨Ab, 2, none⟩ (.int .i64 ((rd_T54 l0 Aa).f2))).setCell ⟨Ab, 3, none⟩ (.string ((rd_T54 l0 Aa).f3))).setCell ⟨Ab, 4, none⟩ (.bool ((rd_T54 l0 Aa).f4.f0))).setCell ⟨Ab, 5, none⟩ (.slice Ad ((rd_T54 l0 Aa).f4.f1).length c105_5)).setCell ⟨Ab, 6, none⟩ (.int .i64 ((rd_T54 l0 Aa).f4.f2.f0))).setCell ⟨Ab, 7, none⟩ (.int .i64 ((rd_T54 l0 Aa).f4.f2.f1))).setCell ⟨Ab, 8, none⟩ (.int .i64 ((rd_T54 l0 Aa).f4.f2.f2))).setCell ⟨Ab, 9, none⟩ (.int .u32 ((rd_T54 l0 Aa).f4.f2.f3)))) := ⟨pE HB.out Ai.out⟩
    (try clear Ac)
    (try clear HB)
    generalize ((((((((((w27.setCell ⟨Ab, 0, none⟩ (.int .i64 ((rd_T54 l0 Aa).f0))).setCell ⟨Ab, 1, none⟩ (.int .i64 ((rd_T54 l0 Aa).f1))).setCell ⟨Ab, 2, none⟩ (.int .i64 ((rd_T54 l0 Aa).f2))).setCell ⟨Ab, 3, none⟩ (.string ((rd_T54 l0 Aa).f3))).setCell ⟨Ab, 4, none⟩ (.bool ((rd_T54 l0 Aa).f4.f0))).setCell ⟨Ab, 5, none⟩ (.slice Ad ((rd_T54 l0 Aa).f4.f1).length c105_5)).setCell ⟨Ab, 6, none⟩ (.int .i64 ((rd_T54 l0 Aa).f4.f2.f0))).setCell ⟨Ab, 7, none⟩ (.int .i64 ((rd_T54 l0 Aa).f4.f2.f1))).setCell ⟨Ab, 8, none⟩ (.int .i64 ((rd_T54 l0 Aa).f4.f2.f2))).setCell ⟨Ab, 9, none⟩ (.int .u32 ((rd_T54 l0 Aa).f4.f2.f3))) = w29 at n0_ n1_ ⊢
    have Ac := n0_
    have HB := n1_
    clear n0_ n1_
    replace Ac := kDa Ac
    replace HB := bDa HB
    refine start_ (n := 37) (S := fun w' => cG w' Ab 0 (.int .i64 ((rd_T54 l0 Aa).f0)) ∧ cG w' Ab 1 (.int .i64 ((rd_T54 l0 Aa).f1))) (ds := []) #[false, false, false, false, false, false, false, false, false, false, false, false, false, false, false, false, false, false, false, false, false, false, false, false, false, false, false, false, false, false, false, false, false, false, false, false, false] (by kernel_rfl) rfl rfl ⟨(blk_cell Ac.out 0).trans rfl, (blk_cell Ac.out 1).trans rfl⟩ (fun hHeld => ?_); refine with_tabW raft_rows.tab4 raft_rows.bits4 (fun HT_ HW_ => ?_)
    generalize w29.drew = w30 at Ac HB hHeld ⊢
    refine pui 0 12 37 1 HT_ ?_
    refine zw 1 (h := ?_)
    refine onei 2 14 37 7 HT_ (fun K hK => ?_)
    refine goes_ Try.func43 (by kernel_rfl) rfl #[.int .i64 ((rd_T54 l0 Aa).f0)] (by rfl) rfl rfl pL ?_
    with_reducible refine (raft_counts.calls ((rd_T54 l0 Aa).f0) true _ A5.out).mono ?_
    rintro e w' ⟨rfl, ⟨nd, rfl⟩⟩
    refine ⟨_, rfl, ?_⟩
    refine hK.out _ _ ⟨(blk_cell Ac.out 0).trans rfl, (blk_cell Ac.out 1).trans rfl⟩ (fun hHeld => ?_)
    clear hK K
    refine norm_ (a' := ?_) ?_ ?_
    rotate_left
    ·show Act.put _ (some 14) _ = _
     simp only [Act.put, List.setIfInBounds_toArray, List.set_cons_zero, List.set_cons_succ, i64_w, i32_w]
     rfl
    refine pui 3 15 37 15 HT_ ?_
    refine zp 4 (h := zp 5 (h := zw 6 (h := ?_)))
    refine onei 7 19 37 255 HT_ (fun K hK => ?_)
    refine goes_ Try.func43 (by kernel_rfl) rfl #[.int .i64 ((rd_T54 l0 Aa).f1)] (by rfl) rfl rfl pL ?_
    with_reducible refine (raft_counts.calls ((rd_T54 l0 Aa).f1) true _ A7.out).mono ?_
    rintro e w' ⟨rfl, ⟨nd, rfl⟩⟩
    refine ⟨_, rfl, ?_⟩
    refine hK.out _ _ ⟨(blk_cell Ac.out 0).trans rfl, (blk_cell Ac.out 1).trans rfl⟩ (fun hHeld => ?_)
    clear hK K
    refine norm_ (a' := ?_) ?_ ?_
    rotate_left
    ·show Act.put _ (some 19) _ = _
     simp only [Act.put, List.setIfInBounds_toArray, List.set_cons_zero, List.set_cons_succ, i64_w, i32_w]
     rfl
    refine pui 8 20 37 511 HT_ ?_
    refine zp 9 (h := zp 10 (h := zp 11 (h := zp 12 (h := zp 13 (h := zq 14 (h := zq 15 (h := zq 16 (h := zq 17 (h := zq 18 (h := zq 19 (h := zq 20 (h := zq 21 (h := zq 22 (h := zq 23 (h := zq 24 (h := zq 25 (h := zq 26 (h := zq 27 (h := zq 28 (h := zq 29 (h := zq 30 (h := zq 31 (h := zq 32 (h := zq 33 (h := zq 34 (h := zp 35 (h := zp 36 (h := ?_))))))))))))))))))))))))))))
    refine done_ (done_of HT_.out (by kernel_rfl)) ?_
    try go_wp2
    go_roundg k1
    case measure => have := HK1.out; omega
    case rel => exact ⟨(wrap64 (Aa + 1)), zr, H', ⟨by have := HK1.out; omega⟩, ⟨pE HB.out Ai.out⟩⟩
   rw [if_pos c9] at H
   have c9b0 : decide (0 < Aa) = true := decide_eq_true c9
   clear c9
   obtain ⟨ji10, hji10⟩ : ∃ j_ : Int, (wrap64 (Aa - 1)) = j_ := ⟨_, rfl⟩
   replace H : (if 0 ≤ (ji10) then (if (ji10) < (l0.length : Int) then (if (wrap64 (((rd_T54 l0 Aa).f0) - 1)) = ((rd_T54 l0 (ji10)).f0) then (if ((rd_T54 l0 Aa).f1) < ((rd_T54 l0 (ji10)).f1) then (some false) else (raft_rows.l0 k1 l0 l0 (l0.length : Int) (wrap64 (Aa + 1)))) else (some false)) else (none)) else (none)) = some r := by first | (rw [hji10] at H; exact H) | (simp only [hji10] at H ⊢; exact H)
   (try rw [hji10] at A5)
   (try rw [hji10] at A7)
   have hji10w : (IntKind.i64.wrap (Aa - 1)) = ji10 := (i64_w _).trans hji10
   obtain ⟨c11, H⟩ := zI H
   have c11b0 := decide_eq_true c11
   clear c11
   obtain ⟨c12, H⟩ := zI H
   have c12b0 := decide_eq_true c12
   clear c12
   by_cases c13 : (wrap64 (((rd_T54 l0 Aa).f0) - 1)) = ((rd_T54 l0 (ji10)).f0)
   rotate_left
   ·rw [if_neg c13] at H
    obtain ⟨c13b0, c13b1⟩ := zk c13
    obtain rfl := Option.some.inj H
    have p105 : 0 ≤ (Aa : Int) := of_decide_eq_true pS
    have q105 : Aa < (l0.length : Int) := of_decide_eq_true pS
    obtain ⟨Ah, Ad, c105_5, e105, Ap, Aq, Ar, As, At, Au, Av, Aw, Ax, Ay, Ae, Af⟩ := at_T54u HR0.out Aa p105 q105 HB.out
    cases e105
    have Az := Am Af
    have A1 := Am Ae
    clear Af Ae
    replace p105 := eq_true p105
    replace q105 := eq_true q105
    try go_wp2_with (first | ((with_reducible refine zD 4 rfl ?_); refine zE 4 #[.int .i64 0, .int .i64 0, .int .i64 0, .string (⟨#[]⟩ : ByteArray), .bool false, .slice none 0 0, .int .i64 0, .int .i64 0, .int .i64 0, .int .u32 0] 54 ?_; intro Ab hg w23 hbox hb; have Ac := Am (hbox); have Ao := zA hg HB; replace HB := zB HB hb; have Ai := Ao; clear hb hbox hg; obtain ⟨_, _, _, _, _, _, _, _, _, _⟩ := bc10 Ac.out; obtain ⟨_, _, _, _, _, _, _, _, _, _⟩ := bf10 Ac.out))
    have n0_ : Aside0 (((((((((((w23.setCell ⟨Ab, 0, none⟩ (.int .i64 ((rd_T54 l0 Aa).f0))).setCell ⟨Ab, 1, none⟩ (.int .i64 ((rd_T54 l0 Aa).f1))).setCell ⟨Ab, 2, none⟩ (.int .i64 ((rd_T54 l0 Aa).f2))).setCell ⟨Ab, 3, none⟩ (.string ((rd_T54 l0 Aa).f3))).setCell ⟨Ab, 4, none⟩ (.bool ((rd_T54 l0 Aa).f4.f0))).setCell ⟨Ab, 5, none⟩ (.slice Ad ((rd_T54 l0 Aa).f4.f1).length c105_5)).setCell ⟨Ab, 6, none⟩ (.int .i64 ((rd_T54 l0 Aa).f4.f2.f0))).setCell ⟨Ab, 7, none⟩ (.int .i64 ((rd_T54 l0 Aa).f4.f2.f1))).setCell ⟨Ab, 8, none⟩ (.int .i64 ((rd_T54 l0 Aa).f4.f2.f2))).setCell ⟨Ab, 9, none⟩ (.int .u32 ((rd_T54 l0 Aa).f4.f2.f3))).heap[Ab]? = some (.cells #[.int .i64 ((rd_T54 l0 Aa).f0), .int .i64 ((rd_T54 l0 Aa).f1), .int .i64 ((rd_T54 l0 Aa).f2), .string ((rd_T54 l0 Aa).f3), .bool ((rd_T54 l0 Aa).f4.f0), .slice Ad ((rd_T54 l0 Aa).f4.f1).length c105_5, .int .i64 ((rd_T54 l0 Aa).f4.f2.f0), .int .i64 ((rd_T54 l0 Aa).f4.f2.f1), .int .i64 ((rd_T54 l0 Aa).f4.f2.f2), .int .u32 ((rd_T54 l0 Aa).f4.f2.f3)] 54 (0, 0))) := ⟨kX0 Ac.out⟩
    have n1_ : Aside0 (Below w.heap.size w ((((((((((w23.setCell ⟨Ab, 0, none⟩ (.int .i64 ((rd_T54 l0 Aa).f0))).setCell ⟨Ab, 1, none⟩ (.int .i64 ((rd_T54 l0 Aa).f1))).setCell ⟨Ab, 2, none⟩ (.int .i64 ((rd_T54 l0 Aa).f2))).setCell ⟨Ab, 3, none⟩ (.string ((rd_T54 l0 Aa).f3))).setCell ⟨Ab, 4, none⟩ (.bool ((rd_T54 l0 Aa).f4.f0))).setCell ⟨Ab, 5, none⟩ (.slice Ad ((rd_T54 l0 Aa).f4.f1).length c105_5)).setCell ⟨Ab, 6, none⟩ (.int .i64 ((rd_T54 l0 Aa).f4.f2.f0))).setCell ⟨Ab, 7, none⟩ (.int .i64 ((rd_T54 l0 Aa).f4.f2.f1))).setCell ⟨Ab, 8, none⟩ (.int .i64 ((rd_T54 l0 Aa).f4.f2.f2))).setCell ⟨Ab, 9, none⟩ (.int .u32 ((rd_T54 l0 Aa).f4.f2.f3)))) := ⟨pE HB.out Ai.out⟩
    (try clear Ac)
    (try clear HB)
    generalize ((((((((((w23.setCell ⟨Ab, 0, none⟩ (.int .i64 ((rd_T54 l0 Aa).f0))).setCell ⟨Ab, 1, none⟩ (.int .i64 ((rd_T54 l0 Aa).f1))).setCell ⟨Ab, 2, none⟩ (.int .i64 ((rd_T54 l0 Aa).f2))).setCell ⟨Ab, 3, none⟩ (.string ((rd_T54 l0 Aa).f3))).setCell ⟨Ab, 4, none⟩ (.bool ((rd_T54 l0 Aa).f4.f0))).setCell ⟨Ab, 5, none⟩ (.slice Ad ((rd_T54 l0 Aa).f4.f1).length c105_5)).setCell ⟨Ab, 6, none⟩ (.int .i64 ((rd_T54 l0 Aa).f4.f2.f0))).setCell ⟨Ab, 7, none⟩ (.int .i64 ((rd_T54 l0 Aa).f4.f2.f1))).setCell ⟨Ab, 8, none⟩ (.int .i64 ((rd_T54 l0 Aa).f4.f2.f2))).setCell ⟨Ab, 9, none⟩ (.int .u32 ((rd_T54 l0 Aa).f4.f2.f3))) = w25 at n0_ n1_ ⊢
    have Ac := n0_
    have HB := n1_
    clear n0_ n1_
    replace Ac := kDa Ac
    replace HB := bDa HB
    have p109 : 0 ≤ ((ji10) : Int) := of_decide_eq_true pS
    have q109 : (ji10) < (l0.length : Int) := of_decide_eq_true pS
    obtain ⟨Br, B3, c109_5, e109, A2, A3, A4, A6, A8, Al, A9, Ba, Bb, Bc, Aj, Ak, Ag, Bs, Bt, Bu, Bv, Bw, Bx, By, Bz, B0⟩ := at_T54w HR0.out (ji10) p109 q109 HB.out
    obtain rfl : Ah = Br := (by injection e109)
    have Bd := Am Ak
    have B1 := Am Aj
    clear Ak Aj
    replace p109 := eq_true p109
    replace q109 := eq_true q109
    refine start_ (n := 37) (S := fun w' => cG w' Ab 0 (.int .i64 ((rd_T54 l0 Aa).f0)) ∧ cG w' Ab 1 (.int .i64 ((rd_T54 l0 Aa).f1)) ∧ w'.cell? (Ah.add (((ji10)).toNat * 10)) = some (.int .i64 ((rd_T54 l0 (ji10)).f0))) (ds := []) #[false, false, false, false, false, false, false, false, false, false, false, false, false, false, false, false, false, false, false, false, false, false, false, false, false, false, false, false, false, false, false, false, false, false, false, false, false] (by kernel_rfl) rfl rfl ⟨(blk_cell Ac.out 0).trans rfl, (blk_cell Ac.out 1).trans rfl, (cT HB.out Ag)⟩ (fun hHeld => ?_); refine with_tabW raft_rows.tab4 raft_rows.bits4 (fun HT_ HW_ => ?_)
    generalize w25.drew = w26 at Ac HB Bd A2 A3 A4 A6 A8 Al A9 Ba Bb Bc hHeld ⊢
    refine pui 0 12 37 1 HT_ ?_
    refine zw 1 (h := ?_)
    refine onei 2 14 37 7 HT_ (fun K hK => ?_)
    refine goes_ Try.func43 (by kernel_rfl) rfl #[.int .i64 ((rd_T54 l0 Aa).f0)] (by rfl) rfl rfl pL ?_
    with_reducible refine (raft_counts.calls ((rd_T54 l0 Aa).f0) true _ A5.out).mono ?_
    rintro e w' ⟨rfl, ⟨nd, rfl⟩⟩
    refine ⟨_, rfl, ?_⟩
    refine hK.out _ _ ⟨(blk_cell Ac.out 0).trans rfl, (blk_cell Ac.out 1).trans rfl, (cT HB.out Ag)⟩ (fun hHeld => ?_)
    clear hK K
    refine norm_ (a' := ?_) ?_ ?_
    rotate_left
    ·show Act.put _ (some 14) _ = _
     simp only [Act.put, List.setIfInBounds_toArray, List.set_cons_zero, List.set_cons_succ, i64_w, i32_w]
     rfl
    refine pui 3 15 37 15 HT_ ?_
    refine zp 4 (h := zp 5 (h := zw 6 (h := ?_)))
    refine onei 7 19 37 255 HT_ (fun K hK => ?_)
    refine goes_ Try.func43 (by kernel_rfl) rfl #[.int .i64 ((rd_T54 l0 Aa).f1)] (by rfl) rfl rfl pL ?_
    with_reducible refine (raft_counts.calls ((rd_T54 l0 Aa).f1) true _ A7.out).mono ?_
    rintro e w' ⟨rfl, ⟨nd, rfl⟩⟩
    refine ⟨_, rfl, ?_⟩
    refine hK.out _ _ ⟨(blk_cell Ac.out 0).trans rfl, (blk_cell Ac.out 1).trans rfl, (cT HB.out Ag)⟩ (fun hHeld => ?_)
    clear hK K
    refine norm_ (a' := ?_) ?_ ?_
    rotate_left
    ·show Act.put _ (some 19) _ = _
     simp only [Act.put, List.setIfInBounds_toArray, List.set_cons_zero, List.set_cons_succ, i64_w, i32_w]
     rfl
    refine pui 8 20 37 511 HT_ ?_
    refine zp 9 (h := zp 10 (h := zp 11 (h := zp 12 (h := zp 13 (h := zp 14 (h := zp 17 (h := zp 18 (h := zp 19 (h := zp 20 (h := zp 21 (h := zw 15 (h := zp 16 (h := zw 22 (h := zp 23 (h := zp 24 (h := zq 25 (h := zq 26 (h := zq 27 (h := zq 28 (h := zq 29 (h := zq 30 (h := zq 31 (h := zq 32 (h := zq 33 (h := zp 34 (h := zp 35 (h := zp 36 (h := ?_))))))))))))))))))))))))))))
    refine done_ (done_of HT_.out (by kernel_rfl)) ?_
    try go_wp2
    go_ret
    exact ⟨by first | rfl | (simp [errW_none, errW_some] <;> rfl) | (simp only [← hji10]; first | rfl | (simp [errW_none, errW_some] <;> rfl)) | (simp [*, errW_none, errW_some] <;> rfl), pE HB.out Ai.out⟩
   rw [if_pos c13] at H
   obtain ⟨c13b0, c13b1⟩ := zc c13
   clear c13
   by_cases c14 : ((rd_T54 l0 Aa).f1) < ((rd_T54 l0 (ji10)).f1)
   ·rw [if_pos c14] at H
    have c14b0 := decide_eq_true c14
    clear c14
    obtain rfl := Option.some.inj H
    have p105 : 0 ≤ (Aa : Int) := of_decide_eq_true pS
    have q105 : Aa < (l0.length : Int) := of_decide_eq_true pS
    obtain ⟨Ah, Ad, c105_5, e105, Ap, Aq, Ar, As, At, Au, Av, Aw, Ax, Ay, Ae, Af⟩ := at_T54u HR0.out Aa p105 q105 HB.out
    cases e105
    have Az := Am Af
    have A1 := Am Ae
    clear Af Ae
    replace p105 := eq_true p105
    replace q105 := eq_true q105
    try go_wp2_with (first | ((with_reducible refine zD 4 rfl ?_); refine zE 4 #[.int .i64 0, .int .i64 0, .int .i64 0, .string (⟨#[]⟩ : ByteArray), .bool false, .slice none 0 0, .int .i64 0, .int .i64 0, .int .i64 0, .int .u32 0] 54 ?_; intro Ab hg w15 hbox hb; have Ac := Am (hbox); have Ao := zA hg HB; replace HB := zB HB hb; have Ai := Ao; clear hb hbox hg; obtain ⟨_, _, _, _, _, _, _, _, _, _⟩ := bc10 Ac.out; obtain ⟨_, _, _, _, _, _, _, _, _, _⟩ := bf10 Ac.out))
    have n0_ : Aside0 (((((((((((w15.setCell ⟨Ab, 0, none⟩ (.int .i64 ((rd_T54 l0 Aa).f0))).setCell ⟨Ab, 1, none⟩ (.int .i64 ((rd_T54 l0 Aa).f1))).setCell ⟨Ab, 2, none⟩ (.int .i64 ((rd_T54 l0 Aa).f2))).setCell ⟨Ab, 3, none⟩ (.string ((rd_T54 l0 Aa).f3))).setCell ⟨Ab, 4, none⟩ (.bool ((rd_T54 l0 Aa).f4.f0))).setCell ⟨Ab, 5, none⟩ (.slice Ad ((rd_T54 l0 Aa).f4.f1).length c105_5)).setCell ⟨Ab, 6, none⟩ (.int .i64 ((rd_T54 l0 Aa).f4.f2.f0))).setCell ⟨Ab, 7, none⟩ (.int .i64 ((rd_T54 l0 Aa).f4.f2.f1))).setCell ⟨Ab, 8, none⟩ (.int .i64 ((rd_T54 l0 Aa).f4.f2.f2))).setCell ⟨Ab, 9, none⟩ (.int .u32 ((rd_T54 l0 Aa).f4.f2.f3))).heap[Ab]? = some (.cells #[.int .i64 ((rd_T54 l0 Aa).f0), .int .i64 ((rd_T54 l0 Aa).f1), .int .i64 ((rd_T54 l0 Aa).f2), .string ((rd_T54 l0 Aa).f3), .bool ((rd_T54 l0 Aa).f4.f0), .slice Ad ((rd_T54 l0 Aa).f4.f1).length c105_5, .int .i64 ((rd_T54 l0 Aa).f4.f2.f0), .int .i64 ((rd_T54 l0 Aa).f4.f2.f1), .int .i64 ((rd_T54 l0 Aa).f4.f2.f2), .int .u32 ((rd_T54 l0 Aa).f4.f2.f3)] 54 (0, 0))) := ⟨kX0 Ac.out⟩
    have n1_ : Aside0 (Below w.heap.size w ((((((((((w15.setCell ⟨Ab, 0, none⟩ (.int .i64 ((rd_T54 l0 Aa).f0))).setCell ⟨Ab, 1, none⟩ (.int .i64 ((rd_T54 l0 Aa).f1))).setCell ⟨Ab, 2, none⟩ (.int .i64 ((rd_T54 l0 Aa).f2))).setCell ⟨Ab, 3, none⟩ (.string ((rd_T54 l0 Aa).f3))).setCell ⟨Ab, 4, none⟩ (.bool ((rd_T54 l0 Aa).f4.f0))).setCell ⟨Ab, 5, none⟩ (.slice Ad ((rd_T54 l0 Aa).f4.f1).length c105_5)).setCell ⟨Ab, 6, none⟩ (.int .i64 ((rd_T54 l0 Aa).f4.f2.f0))).setCell ⟨Ab, 7, none⟩ (.int .i64 ((rd_T54 l0 Aa).f4.f2.f1))).setCell ⟨Ab, 8, none⟩ (.int .i64 ((rd_T54 l0 Aa).f4.f2.f2))).setCell ⟨Ab, 9, none⟩ (.int .u32 ((rd_T54 l0 Aa).f4.f2.f3)))) := ⟨pE HB.out Ai.out⟩
    (try clear Ac)
    (try clear HB)
    generalize ((((((((((w15.setCell ⟨Ab, 0, none⟩ (.int .i64 ((rd_T54 l0 Aa).f0))).setCell ⟨Ab, 1, none⟩ (.int .i64 ((rd_T54 l0 Aa).f1))).setCell ⟨Ab, 2, none⟩ (.int .i64 ((rd_T54 l0 Aa).f2))).setCell ⟨Ab, 3, none⟩ (.string ((rd_T54 l0 Aa).f3))).setCell ⟨Ab, 4, none⟩ (.bool ((rd_T54 l0 Aa).f4.f0))).setCell ⟨Ab, 5, none⟩ (.slice Ad ((rd_T54 l0 Aa).f4.f1).length c105_5)).setCell ⟨Ab, 6, none⟩ (.int .i64 ((rd_T54 l0 Aa).f4.f2.f0))).setCell ⟨Ab, 7, none⟩ (.int .i64 ((rd_T54 l0 Aa).f4.f2.f1))).setCell ⟨Ab, 8, none⟩ (.int .i64 ((rd_T54 l0 Aa).f4.f2.f2))).setCell ⟨Ab, 9, none⟩ (.int .u32 ((rd_T54 l0 Aa).f4.f2.f3))) = w17 at n0_ n1_ ⊢
    have Ac := n0_
    have HB := n1_
    clear n0_ n1_
    replace Ac := kDa Ac
    replace HB := bDa HB
    have p109 : 0 ≤ ((ji10) : Int) := of_decide_eq_true pS
    have q109 : (ji10) < (l0.length : Int) := of_decide_eq_true pS
    obtain ⟨Br, B3, c109_5, e109, A2, A3, A4, A6, A8, Al, A9, Ba, Bb, Bc, Aj, Ak, Ag, Bs, Bt, Bu, Bv, Bw, Bx, By, Bz, B0⟩ := at_T54w HR0.out (ji10) p109 q109 HB.out
    obtain rfl : Ah = Br := (by injection e109)
    have Bd := Am Ak
    have B1 := Am Aj
    clear Ak Aj
    replace p109 := eq_true p109
    replace q109 := eq_true q109
    have p110 : 0 ≤ ((ji10) : Int) := of_decide_eq_true pS
    have q110 : (ji10) < (l0.length : Int) := of_decide_eq_true pS
    obtain ⟨B2, Ce, c110_5, e110, Bh, Bi, Bj, Bk, Bl, Be, Bm, Bn, Bo, Bp, Bf, Bg, B4, An, B5, B6, B7, B8, B9, Ca, Cb, Cc⟩ := at_T54w HR0.out (ji10) p110 q110 HB.out
    obtain rfl : Ah = B2 := (by injection e110)
    have Bq := Am Bg
    have Cd := Am Bf
    clear Bg Bf
    replace p110 := eq_true p110
    replace q110 := eq_true q110
    have ea_ := Option.some.inj (Al.symm.trans Be)
    injection ea_ with ea_ en_ ec_
    subst ea_
    subst ec_
    clear en_
    refine start_ (n := 37) (S := fun w' => cG w' Ab 0 (.int .i64 ((rd_T54 l0 Aa).f0)) ∧ cG w' Ab 1 (.int .i64 ((rd_T54 l0 Aa).f1)) ∧ w'.cell? (Ah.add (((ji10)).toNat * 10)) = some (.int .i64 ((rd_T54 l0 (ji10)).f0)) ∧ w'.cell? ⟨(Ah.add (((ji10)).toNat * 10)).block, (Ah.add (((ji10)).toNat * 10)).off + 1, none⟩ = some (.int .i64 ((rd_T54 l0 (ji10)).f1))) (ds := []) #[false, false, false, false, false, false, false, false, false, false, false, false, false, false, false, false, false, false, false, false, false, false, false, false, false, false, false, false, false, false, false, false, false, false, false, false, false] (by kernel_rfl) rfl rfl ⟨(blk_cell Ac.out 0).trans rfl, (blk_cell Ac.out 1).trans rfl, (cT HB.out Ag), (cT HB.out An)⟩ (fun hHeld => ?_); refine with_tabW raft_rows.tab4 raft_rows.bits4 (fun HT_ HW_ => ?_)
    generalize w17.drew = w18 at Ac HB Bd Bq A2 A3 A4 A6 A8 Al A9 Ba Bb Bc Bh Bi Bj Bk Bl Be Bm Bn Bo Bp hHeld ⊢
    refine pui 0 12 37 1 HT_ ?_
    refine zw 1 (h := ?_)
    refine onei 2 14 37 7 HT_ (fun K hK => ?_)
    refine goes_ Try.func43 (by kernel_rfl) rfl #[.int .i64 ((rd_T54 l0 Aa).f0)] (by rfl) rfl rfl pL ?_
    with_reducible refine (raft_counts.calls ((rd_T54 l0 Aa).f0) true _ A5.out).mono ?_
    rintro e w' ⟨rfl, ⟨nd, rfl⟩⟩
    refine ⟨_, rfl, ?_⟩
    refine hK.out _ _ ⟨(blk_cell Ac.out 0).trans rfl, (blk_cell Ac.out 1).trans rfl, (cT HB.out Ag), (cT HB.out An)⟩ (fun hHeld => ?_)
    clear hK K
    refine norm_ (a' := ?_) ?_ ?_
    rotate_left
    ·show Act.put _ (some 14) _ = _
     simp only [Act.put, List.setIfInBounds_toArray, List.set_cons_zero, List.set_cons_succ, i64_w, i32_w]
     rfl
    refine pui 3 15 37 15 HT_ ?_
    refine zp 4 (h := zp 5 (h := zw 6 (h := ?_)))
    refine onei 7 19 37 255 HT_ (fun K hK => ?_)
    refine goes_ Try.func43 (by kernel_rfl) rfl #[.int .i64 ((rd_T54 l0 Aa).f1)] (by rfl) rfl rfl pL ?_
    with_reducible refine (raft_counts.calls ((rd_T54 l0 Aa).f1) true _ A7.out).mono ?_
    rintro e w' ⟨rfl, ⟨nd, rfl⟩⟩
    refine ⟨_, rfl, ?_⟩
    refine hK.out _ _ ⟨(blk_cell Ac.out 0).trans rfl, (blk_cell Ac.out 1).trans rfl, (cT HB.out Ag), (cT HB.out An)⟩ (fun hHeld => ?_)
    clear hK K
    refine norm_ (a' := ?_) ?_ ?_
    rotate_left
    ·show Act.put _ (some 19) _ = _
     simp only [Act.put, List.setIfInBounds_toArray, List.set_cons_zero, List.set_cons_succ, i64_w, i32_w]
     rfl
    refine pui 8 20 37 511 HT_ ?_
    refine zp 9 (h := zp 10 (h := zp 11 (h := zp 12 (h := zp 13 (h := zp 14 (h := zp 17 (h := zp 18 (h := zp 19 (h := zp 20 (h := zp 21 (h := zw 15 (h := zp 16 (h := zw 22 (h := zp 23 (h := zp 24 (h := zp 25 (h := zp 27 (h := zp 28 (h := zp 29 (h := zp 30 (h := zp 31 (h := zw 26 (h := zw 32 (h := zp 33 (h := zp 34 (h := zp 35 (h := zp 36 (h := ?_))))))))))))))))))))))))))))
    refine done_ (done_of HT_.out (by kernel_rfl)) ?_
    try go_wp2
    go_ret
    exact ⟨by first | rfl | (simp [errW_none, errW_some] <;> rfl) | (simp only [← hji10]; first | rfl | (simp [errW_none, errW_some] <;> rfl)) | (simp [*, errW_none, errW_some] <;> rfl), pE HB.out Ai.out⟩
   rw [if_neg c14] at H
   have c14b0 := decide_eq_false c14
   clear c14
   have H' := Am H
   clear H
   have p105 : 0 ≤ (Aa : Int) := of_decide_eq_true pS
   have q105 : Aa < (l0.length : Int) := of_decide_eq_true pS
   obtain ⟨Ah, Ad, c105_5, e105, Ap, Aq, Ar, As, At, Au, Av, Aw, Ax, Ay, Ae, Af⟩ := at_T54u HR0.out Aa p105 q105 HB.out
   cases e105
   have Az := Am Af
   have A1 := Am Ae
   clear Af Ae
   replace p105 := eq_true p105
   replace q105 := eq_true q105
   try go_wp2_with (first | ((with_reducible refine zD 4 rfl ?_); refine zE 4 #[.int .i64 0, .int .i64 0, .int .i64 0, .string (⟨#[]⟩ : ByteArray), .bool false, .slice none 0 0, .int .i64 0, .int .i64 0, .int .i64 0, .int .u32 0] 54 ?_; intro Ab hg w19 hbox hb; have Ac := Am (hbox); have Ao := zA hg HB; replace HB := zB HB hb; have Ai := Ao; clear hb hbox hg; obtain ⟨_, _, _, _, _, _, _, _, _, _⟩ := bc10 Ac.out; obtain ⟨_, _, _, _, _, _, _, _, _, _⟩ := bf10 Ac.out))
   have n0_ : Aside0 (((((((((((w19.setCell ⟨Ab, 0, none⟩ (.int .i64 ((rd_T54 l0 Aa).f0))).setCell ⟨Ab, 1, none⟩ (.int .i64 ((rd_T54 l0 Aa).f1))).setCell ⟨Ab, 2, none⟩ (.int .i64 ((rd_T54 l0 Aa).f2))).setCell ⟨Ab, 3, none⟩ (.string ((rd_T54 l0 Aa).f3))).setCell ⟨Ab, 4, none⟩ (.bool ((rd_T54 l0 Aa).f4.f0))).setCell ⟨Ab, 5, none⟩ (.slice Ad ((rd_T54 l0 Aa).f4.f1).length c105_5)).setCell ⟨Ab, 6, none⟩ (.int .i64 ((rd_T54 l0 Aa).f4.f2.f0))).setCell ⟨Ab, 7, none⟩ (.int .i64 ((rd_T54 l0 Aa).f4.f2.f1))).setCell ⟨Ab, 8, none⟩ (.int .i64 ((rd_T54 l0 Aa).f4.f2.f2))).setCell ⟨Ab, 9, none⟩ (.int .u32 ((rd_T54 l0 Aa).f4.f2.f3))).heap[Ab]? = some (.cells #[.int .i64 ((rd_T54 l0 Aa).f0), .int .i64 ((rd_T54 l0 Aa).f1), .int .i64 ((rd_T54 l0 Aa).f2), .string ((rd_T54 l0 Aa).f3), .bool ((rd_T54 l0 Aa).f4.f0), .slice Ad ((rd_T54 l0 Aa).f4.f1).length c105_5, .int .i64 ((rd_T54 l0 Aa).f4.f2.f0), .int .i64 ((rd_T54 l0 Aa).f4.f2.f1), .int .i64 ((rd_T54 l0 Aa).f4.f2.f2), .int .u32 ((rd_T54 l0 Aa).f4.f2.f3)] 54 (0, 0))) := ⟨kX0 Ac.out⟩
   have n1_ : Aside0 (Below w.heap.size w ((((((((((w19.setCell ⟨Ab, 0, none⟩ (.int .i64 ((rd_T54 l0 Aa).f0))).setCell ⟨Ab, 1, none⟩ (.int .i64 ((rd_T54 l0 Aa).f1))).setCell ⟨Ab, 2, none⟩ (.int .i64 ((rd_T54 l0 Aa).f2))).setCell ⟨Ab, 3, none⟩ (.string ((rd_T54 l0 Aa).f3))).setCell ⟨Ab, 4, none⟩ (.bool ((rd_T54 l0 Aa).f4.f0))).setCell ⟨Ab, 5, none⟩ (.slice Ad ((rd_T54 l0 Aa).f4.f1).length c105_5)).setCell ⟨Ab, 6, none⟩ (.int .i64 ((rd_T54 l0 Aa).f4.f2.f0))).setCell ⟨Ab, 7, none⟩ (.int .i64 ((rd_T54 l0 Aa).f4.f2.f1))).setCell ⟨Ab, 8, none⟩ (.int .i64 ((rd_T54 l0 Aa).f4.f2.f2))).setCell ⟨Ab, 9, none⟩ (.int .u32 ((rd_T54 l0 Aa).f4.f2.f3)))) := ⟨pE HB.out Ai.out⟩
   (try clear Ac)
   (try clear HB)
   generalize ((((((((((w19.setCell ⟨Ab, 0, none⟩ (.int .i64 ((rd_T54 l0 Aa).f0))).setCell ⟨Ab, 1, none⟩ (.int .i64 ((rd_T54 l0 Aa).f1))).setCell ⟨Ab, 2, none⟩ (.int .i64 ((rd_T54 l0 Aa).f2))).setCell ⟨Ab, 3, none⟩ (.string ((rd_T54 l0 Aa).f3))).setCell ⟨Ab, 4, none⟩ (.bool ((rd_T54 l0 Aa).f4.f0))).setCell ⟨Ab, 5, none⟩ (.slice Ad ((rd_T54 l0 Aa).f4.f1).length c105_5)).setCell ⟨Ab, 6, none⟩ (.int .i64 ((rd_T54 l0 Aa).f4.f2.f0))).setCell ⟨Ab, 7, none⟩ (.int .i64 ((rd_T54 l0 Aa).f4.f2.f1))).setCell ⟨Ab, 8, none⟩ (.int .i64 ((rd_T54 l0 Aa).f4.f2.f2))).setCell ⟨Ab, 9, none⟩ (.int .u32 ((rd_T54 l0 Aa).f4.f2.f3))) = w21 at n0_ n1_ ⊢
   have Ac := n0_
   have HB := n1_
   clear n0_ n1_
   replace Ac := kDa Ac
   replace HB := bDa HB
   have p109 : 0 ≤ ((ji10) : Int) := of_decide_eq_true pS
   have q109 : (ji10) < (l0.length : Int) := of_decide_eq_true pS
   obtain ⟨Br, B3, c109_5, e109, A2, A3, A4, A6, A8, Al, A9, Ba, Bb, Bc, Aj, Ak, Ag, Bs, Bt, Bu, Bv, Bw, Bx, By, Bz, B0⟩ := at_T54w HR0.out (ji10) p109 q109 HB.out
   obtain rfl : Ah = Br := (by injection e109)
   have Bd := Am Ak
   have B1 := Am Aj
   clear Ak Aj
   replace p109 := eq_true p109
   replace q109 := eq_true q109
   have p110 : 0 ≤ ((ji10) : Int) := of_decide_eq_true pS
   have q110 : (ji10) < (l0.length : Int) := of_decide_eq_true pS
   obtain ⟨B2, Ce, c110_5, e110, Bh, Bi, Bj, Bk, Bl, Be, Bm, Bn, Bo, Bp, Bf, Bg, B4, An, B5, B6, B7, B8, B9, Ca, Cb, Cc⟩ := at_T54w HR0.out (ji10) p110 q110 HB.out
   obtain rfl : Ah = B2 := (by injection e110)
   have Bq := Am Bg
   have Cd := Am Bf
   clear Bg Bf
   replace p110 := eq_true p110
   replace q110 := eq_true q110
   have ea_ := Option.some.inj (Al.symm.trans Be)
   injection ea_ with ea_ en_ ec_
   subst ea_
   subst ec_
   clear en_
   refine start_ (n := 37) (S := fun w' => cG w' Ab 0 (.int .i64 ((rd_T54 l0 Aa).f0)) ∧ cG w' Ab 1 (.int .i64 ((rd_T54 l0 Aa).f1)) ∧ w'.cell? (Ah.add (((ji10)).toNat * 10)) = some (.int .i64 ((rd_T54 l0 (ji10)).f0)) ∧ w'.cell? ⟨(Ah.add (((ji10)).toNat * 10)).block, (Ah.add (((ji10)).toNat * 10)).off + 1, none⟩ = some (.int .i64 ((rd_T54 l0 (ji10)).f1))) (ds := []) #[false, false, false, false, false, false, false, false, false, false, false, false, false, false, false, false, false, false, false, false, false, false, false, false, false, false, false, false, false, false, false, false, false, false, false, false, false] (by kernel_rfl) rfl rfl ⟨(blk_cell Ac.out 0).trans rfl, (blk_cell Ac.out 1).trans rfl, (cT HB.out Ag), (cT HB.out An)⟩ (fun hHeld => ?_); refine with_tabW raft_rows.tab4 raft_rows.bits4 (fun HT_ HW_ => ?_)
   generalize w21.drew = w22 at Ac HB Bd Bq A2 A3 A4 A6 A8 Al A9 Ba Bb Bc Bh Bi Bj Bk Bl Be Bm Bn Bo Bp hHeld ⊢
   refine pui 0 12 37 1 HT_ ?_
   refine zw 1 (h := ?_)
   refine onei 2 14 37 7 HT_ (fun K hK => ?_)
   refine goes_ Try.func43 (by kernel_rfl) rfl #[.int .i64 ((rd_T54 l0 Aa).f0)] (by rfl) rfl rfl pL ?_
   with_reducible refine (raft_counts.calls ((rd_T54 l0 Aa).f0) true _ A5.out).mono ?_
   rintro e w' ⟨rfl, ⟨nd, rfl⟩⟩
   refine ⟨_, rfl, ?_⟩
   refine hK.out _ _ ⟨(blk_cell Ac.out 0).trans rfl, (blk_cell Ac.out 1).trans rfl, (cT HB.out Ag), (cT HB.out An)⟩ (fun hHeld => ?_)
   clear hK K
   refine norm_ (a' := ?_) ?_ ?_
   rotate_left
   ·show Act.put _ (some 14) _ = _
    simp only [Act.put, List.setIfInBounds_toArray, List.set_cons_zero, List.set_cons_succ, i64_w, i32_w]
    rfl
   refine pui 3 15 37 15 HT_ ?_
   refine zp 4 (h := zp 5 (h := zw 6 (h := ?_)))
   refine onei 7 19 37 255 HT_ (fun K hK => ?_)
   refine goes_ Try.func43 (by kernel_rfl) rfl #[.int .i64 ((rd_T54 l0 Aa).f1)] (by rfl) rfl rfl pL ?_
   with_reducible refine (raft_counts.calls ((rd_T54 l0 Aa).f1) true _ A7.out).mono ?_
   rintro e w' ⟨rfl, ⟨nd, rfl⟩⟩
   refine ⟨_, rfl, ?_⟩
   refine hK.out _ _ ⟨(blk_cell Ac.out 0).trans rfl, (blk_cell Ac.out 1).trans rfl, (cT HB.out Ag), (cT HB.out An)⟩ (fun hHeld => ?_)
   clear hK K
   refine norm_ (a' := ?_) ?_ ?_
   rotate_left
   ·show Act.put _ (some 19) _ = _
    simp only [Act.put, List.setIfInBounds_toArray, List.set_cons_zero, List.set_cons_succ, i64_w, i32_w]
    rfl
   refine pui 8 20 37 511 HT_ ?_
   refine zp 9 (h := zp 10 (h := zp 11 (h := zp 12 (h := zp 13 (h := zp 14 (h := zp 17 (h := zp 18 (h := zp 19 (h := zp 20 (h := zp 21 (h := zw 15 (h := zp 16 (h := zw 22 (h := zp 23 (h := zp 24 (h := zp 25 (h := zp 27 (h := zp 28 (h := zp 29 (h := zp 30 (h := zp 31 (h := zw 26 (h := zw 32 (h := zp 33 (h := zp 34 (h := zp 35 (h := zp 36 (h := ?_))))))))))))))))))))))))))))
   refine done_ (done_of HT_.out (by kernel_rfl)) ?_
   try go_wp2
   go_roundg k1
   case measure => have := HK1.out; omega
   case rel => exact ⟨(wrap64 (Aa + 1)), zr, H', ⟨by have := HK1.out; omega⟩, ⟨pE HB.out Ai.out⟩⟩
def hard_counts.f (a0 : Int) : Option (Bool) := if a0 ≥ 0 then (some (decide (a0 ≤ 2147483647))) else (some false)
set_option maxRecDepth 100000 in
theorem hard_counts.calls (a0 : Int) (r : Bool) (w : World) (h : hard_counts.f a0 = some r) :
 Calls Try.prog 62 #[.int .i64 a0] w fun e w' => e = .returned (.bool r) ∧ Drawn0 w w' := by
 unfold hard_counts.f at h
 have H := h
 clear h
 by_cases c2 : a0 ≥ 0
 ·rw [if_pos c2] at H
  have c2b0 : decide (0 ≤ a0) = true := decide_eq_true c2
  clear c2
  obtain rfl := Option.some.inj H
  go_enter Try.func62, Try.ntmps62
  go_wp2
  go_ret
  exact ⟨zr, zd⟩
 rw [if_neg c2] at H
 have c2b0 : decide (0 ≤ a0) = false := decide_eq_false c2
 clear c2
 obtain rfl := Option.some.inj H
 go_enter Try.func62, Try.ntmps62
 go_wp2
 go_ret
 exact ⟨zr, zd⟩
def hard_Check.f (a0_0 : Int) (a0_1 : Int) (a0_2 : Int) : Option (Int) := (hard_counts.f a0_0).bind fun t112 => (if t112 = true then ((hard_counts.f a0_1).bind fun t113 => (if t113 = true then ((hard_counts.f a0_2).bind fun t114 => (if t114 = true then (if a0_0 = 0 then (if a0_1 = 0 then (some 0) else (some 1)) else (some 0)) else (some 1))) else (some 1))) else (some 1))
set_option maxRecDepth 100000 in
theorem hard_Check.calls (a0_0 : Int) (a0_1 : Int) (a0_2 : Int) (r : Int) (w : World) (h : hard_Check.f a0_0 a0_1 a0_2 = some r) :
 Calls Try.prog 45 #[.agg #[.int .i64 a0_0, .int .i64 a0_1, .int .i64 a0_2]] w fun e w' => e = .returned (.int .i64 r) ∧ Below w.heap.size w w' := by
 have hu24 := Try.underlying24
 have HB := Am (Below.refl w.heap.size w)
 unfold hard_Check.f at h
 have H := h
 clear h
 obtain ⟨t112, A2, H⟩ := zb H
 by_cases c3 : t112 = true
 rotate_left
 ·replace c3 := Bool.eq_false_iff.mpr c3
  subst c3
  rw [if_neg zF] at H
  obtain rfl := Option.some.inj H
  go_enter Try.func45, Try.ntmps45
  go_wp2_with (first | ((with_reducible refine zD 1 rfl ?_); refine zE 1 #[.int .i64 a0_0, .int .i64 a0_1, .int .i64 a0_2] 24 ?_; intro Ab hg w20 hbox hb; have Aa := Am (hbox); have Ac := zA hg HB; replace HB := zB HB hb; have Ad := Ac; clear hb hbox hg; obtain ⟨_, _, _⟩ := bc3 Aa.out; obtain ⟨_, _, _⟩ := bf3 Aa.out) | ((with_reducible refine zC 62 rfl ?_); refine zL (some 5) Try.func62 #[.int .i64 a0_0] ?_; (with_reducible refine (hard_counts.calls a0_0 false _ A2.out).mono ?_); rintro e w' ⟨rfl, ⟨nd, rfl⟩⟩; refine ⟨_, rfl, ?_⟩))
  go_ret
  exact ⟨pX, pE HB.out Ad.out⟩
 subst c3
 rw [if_pos rfl] at H
 obtain ⟨t113, A4, H⟩ := zb H
 by_cases c5 : t113 = true
 rotate_left
 ·replace c5 := Bool.eq_false_iff.mpr c5
  subst c5
  rw [if_neg zF] at H
  obtain rfl := Option.some.inj H
  go_enter Try.func45, Try.ntmps45
  go_wp2_with (first | ((with_reducible refine zD 1 rfl ?_); refine zE 1 #[.int .i64 a0_0, .int .i64 a0_1, .int .i64 a0_2] 24 ?_; intro Ab hg w18 hbox hb; have Aa := Am (hbox); have Ac := zA hg HB; replace HB := zB HB hb; have Ad := Ac; clear hb hbox hg; obtain ⟨_, _, _⟩ := bc3 Aa.out; obtain ⟨_, _, _⟩ := bf3 Aa.out) | ((with_reducible refine zC 62 rfl ?_); refine zL (some 5) Try.func62 #[.int .i64 a0_0] ?_; (with_reducible refine (hard_counts.calls a0_0 true _ A2.out).mono ?_); rintro e w' ⟨rfl, ⟨nd, rfl⟩⟩; refine ⟨_, rfl, ?_⟩) | (go_at_call 62; (with_reducible refine (hard_counts.calls a0_1 false _ A4.out).mono ?_); rintro e w' ⟨rfl, ⟨nd, rfl⟩⟩))
  go_ret
  exact ⟨pX, pE HB.out Ad.out⟩
 subst c5
 rw [if_pos rfl] at H
 obtain ⟨t114, A6, H⟩ := zb H
 by_cases c7 : t114 = true
 rotate_left
 ·replace c7 := Bool.eq_false_iff.mpr c7
  subst c7
  rw [if_neg zF] at H
  obtain rfl := Option.some.inj H
  go_enter Try.func45, Try.ntmps45
  go_wp2_with (first | ((with_reducible refine zD 1 rfl ?_); refine zE 1 #[.int .i64 a0_0, .int .i64 a0_1, .int .i64 a0_2] 24 ?_; intro Ab hg w16 hbox hb; have Aa := Am (hbox); have Ac := zA hg HB; replace HB := zB HB hb; have Ad := Ac; clear hb hbox hg; obtain ⟨_, _, _⟩ := bc3 Aa.out; obtain ⟨_, _, _⟩ := bf3 Aa.out) | ((with_reducible refine zC 62 rfl ?_); refine zL (some 5) Try.func62 #[.int .i64 a0_0] ?_; (with_reducible refine (hard_counts.calls a0_0 true _ A2.out).mono ?_); rintro e w' ⟨rfl, ⟨nd, rfl⟩⟩; refine ⟨_, rfl, ?_⟩) | (go_at_call 62; (with_reducible refine (hard_counts.calls a0_1 true _ A4.out).mono ?_); rintro e w' ⟨rfl, ⟨nd, rfl⟩⟩) | (go_at_call 62; (with_reducible refine (hard_counts.calls a0_2 false _ A6.out).mono ?_); rintro e w' ⟨rfl, ⟨nd, rfl⟩⟩))
  go_ret
  exact ⟨pX, pE HB.out Ad.out⟩
 subst c7
 rw [if_pos rfl] at H
 by_cases c8 : a0_0 = 0
 rotate_left
 ·rw [if_neg c8] at H
  obtain ⟨c8b0, c8b1⟩ := zk c8
  obtain rfl := Option.some.inj H
  go_enter Try.func45, Try.ntmps45
  go_wp2_with (first | ((with_reducible refine zD 1 rfl ?_); refine zE 1 #[.int .i64 a0_0, .int .i64 a0_1, .int .i64 a0_2] 24 ?_; intro Ab hg w14 hbox hb; have Aa := Am (hbox); have Ac := zA hg HB; replace HB := zB HB hb; have Ad := Ac; clear hb hbox hg; obtain ⟨_, _, _⟩ := bc3 Aa.out; obtain ⟨_, _, _⟩ := bf3 Aa.out) | ((with_reducible refine zC 62 rfl ?_); refine zL (some 5) Try.func62 #[.int .i64 a0_0] ?_; (with_reducible refine (hard_counts.calls a0_0 true _ A2.out).mono ?_); rintro e w' ⟨rfl, ⟨nd, rfl⟩⟩; refine ⟨_, rfl, ?_⟩) | (go_at_call 62; (with_reducible refine (hard_counts.calls a0_1 true _ A4.out).mono ?_); rintro e w' ⟨rfl, ⟨nd, rfl⟩⟩) | (go_at_call 62; (with_reducible refine (hard_counts.calls a0_2 true _ A6.out).mono ?_); rintro e w' ⟨rfl, ⟨nd, rfl⟩⟩))
  go_ret
  exact ⟨pX, pE HB.out Ad.out⟩
 rw [if_pos c8] at H
 obtain ⟨c8b0, c8b1⟩ := zc c8
 clear c8
 by_cases c9 : a0_1 = 0
 rotate_left
 ·rw [if_neg c9] at H
  obtain ⟨c9b0, c9b1⟩ := zk c9
  obtain rfl := Option.some.inj H
  go_enter Try.func45, Try.ntmps45
  go_wp2_with (first | ((with_reducible refine zD 1 rfl ?_); refine zE 1 #[.int .i64 a0_0, .int .i64 a0_1, .int .i64 a0_2] 24 ?_; intro Ab hg w12 hbox hb; have Aa := Am (hbox); have Ac := zA hg HB; replace HB := zB HB hb; have Ad := Ac; clear hb hbox hg; obtain ⟨_, _, _⟩ := bc3 Aa.out; obtain ⟨_, _, _⟩ := bf3 Aa.out) | ((with_reducible refine zC 62 rfl ?_); refine zL (some 5) Try.func62 #[.int .i64 a0_0] ?_; (with_reducible refine (hard_counts.calls a0_0 true _ A2.out).mono ?_); rintro e w' ⟨rfl, ⟨nd, rfl⟩⟩; refine ⟨_, rfl, ?_⟩) | (go_at_call 62; (with_reducible refine (hard_counts.calls a0_1 true _ A4.out).mono ?_); rintro e w' ⟨rfl, ⟨nd, rfl⟩⟩) | (go_at_call 62; (with_reducible refine (hard_counts.calls a0_2 true _ A6.out).mono ?_); rintro e w' ⟨rfl, ⟨nd, rfl⟩⟩))
  go_ret
  exact ⟨pX, pE HB.out Ad.out⟩
 rw [if_pos c9] at H
 obtain ⟨c9b0, c9b1⟩ := zc c9
 clear c9
 obtain rfl := Option.some.inj H
 go_enter Try.func45, Try.ntmps45
 go_wp2_with (first | ((with_reducible refine zD 1 rfl ?_); refine zE 1 #[.int .i64 a0_0, .int .i64 a0_1, .int .i64 a0_2] 24 ?_; intro Ab hg w10 hbox hb; have Aa := Am (hbox); have Ac := zA hg HB; replace HB := zB HB hb; have Ad := Ac; clear hb hbox hg; obtain ⟨_, _, _⟩ := bc3 Aa.out; obtain ⟨_, _, _⟩ := bf3 Aa.out) | ((with_reducible refine zC 62 rfl ?_); refine zL (some 5) Try.func62 #[.int .i64 a0_0] ?_; (with_reducible refine (hard_counts.calls a0_0 true _ A2.out).mono ?_); rintro e w' ⟨rfl, ⟨nd, rfl⟩⟩; refine ⟨_, rfl, ?_⟩) | (go_at_call 62; (with_reducible refine (hard_counts.calls a0_1 true _ A4.out).mono ?_); rintro e w' ⟨rfl, ⟨nd, rfl⟩⟩) | (go_at_call 62; (with_reducible refine (hard_counts.calls a0_2 true _ A6.out).mono ?_); rintro e w' ⟨rfl, ⟨nd, rfl⟩⟩))
 go_ret
 exact ⟨pX, pE HB.out Ad.out⟩
end
section
attribute [local go_sem] max2_int min2_int max_two min_two max_three min_three max_four min_four
set_option maxHeartbeats 8000000
attribute [local go_sem] wrap64_l1 wrap64_l2 wrap64_l3 wrap64_l4 wrap64_l5
attribute [local go_sem high] eqA50
mutual
def raft_Check.j0 : Nat → Bool → Int → Int → List (S54) → Int → Int → Int → Int → Option (Int)
 | 0, _, _, _, _, _, _, _, _ => none
 | k + 1, x39, x116000, x116001, x116002, x116003, x116004, x116005, x116006 => if x39 = true then (some 1) else (if (x116002.length : Int) > 0 then (if 0 < (x116002.length : Int) then (if ((rd_T54 x116002 0).f0) = (wrap64 (x116000 + 1)) then (raft_Check.j1 k (decide (((rd_T54 x116002 0).f1) < x116001)) x116000 x116001 x116002 x116003 x116004 x116005 x116006) else (raft_Check.j1 k true x116000 x116001 x116002 x116003 x116004 x116005 x116006)) else (none)) else (raft_Check.j1 k false x116000 x116001 x116002 x116003 x116004 x116005 x116006))
def raft_Check.j1 : Nat → Bool → Int → Int → List (S54) → Int → Int → Int → Int → Option (Int)
 | 0, _, _, _, _, _, _, _, _ => none
 | k + 1, x64, x116000, x116001, x116002, x116003, x116004, x116005, x116006 => if x64 = true then (some 1) else (if x116006 < x116000 then (some 1) else (if x116006 > x116005 then (some 1) else (if x116005 > (wrap64 (x116000 + (x116002.length : Int))) then (some 1) else (some 0))))
end
def raft_Check.f (k : Nat) (a0_0 : Int) (a0_1 : Int) (l0_2 : List (S54)) (a0_3 : Int) (a0_4 : Int) (a0_5 : Int) (a0_6 : Int) : Option (Int) := if a0_0 = 0 then (if a0_1 = 0 then (if (l0_2.length : Int) > 1000 then (raft_Check.j0 k true a0_0 a0_1 l0_2 a0_3 a0_4 a0_5 a0_6) else ((raft_rows.f k l0_2).bind fun t116 => (if t116 = true then ((hard_Check.f a0_3 a0_4 a0_5).bind fun t117 => (raft_Check.j0 k (t117 != 0) a0_0 a0_1 l0_2 a0_3 a0_4 a0_5 a0_6)) else (raft_Check.j0 k true a0_0 a0_1 l0_2 a0_3 a0_4 a0_5 a0_6)))) else ((raft_counts.f a0_0).bind fun t118 => (if t118 = true then ((raft_counts.f a0_1).bind fun t119 => (if t119 = true then (if (l0_2.length : Int) > 1000 then (raft_Check.j0 k true a0_0 a0_1 l0_2 a0_3 a0_4 a0_5 a0_6) else ((raft_rows.f k l0_2).bind fun t120 => (if t120 = true then ((hard_Check.f a0_3 a0_4 a0_5).bind fun t121 => (raft_Check.j0 k (t121 != 0) a0_0 a0_1 l0_2 a0_3 a0_4 a0_5 a0_6)) else (raft_Check.j0 k true a0_0 a0_1 l0_2 a0_3 a0_4 a0_5 a0_6)))) else (raft_Check.j0 k true a0_0 a0_1 l0_2 a0_3 a0_4 a0_5 a0_6))) else (raft_Check.j0 k true a0_0 a0_1 l0_2 a0_3 a0_4 a0_5 a0_6)))) else ((raft_counts.f a0_0).bind fun t122 => (if t122 = true then ((raft_counts.f a0_1).bind fun t123 => (if t123 = true then (if (l0_2.length : Int) > 1000 then (raft_Check.j0 k true a0_0 a0_1 l0_2 a0_3 a0_4 a0_5 a0_6) else ((raft_rows.f k l0_2).bind fun t124 => (if t124 = true then ((hard_Check.f a0_3 a0_4 a0_5).bind fun t125 => (raft_Check.j0 k (t125 != 0) a0_0 a0_1 l0_2 a0_3 a0_4 a0_5 a0_6)) else (raft_Check.j0 k true a0_0 a0_1 l0_2 a0_3 a0_4 a0_5 a0_6)))) else (raft_Check.j0 k true a0_0 a0_1 l0_2 a0_3 a0_4 a0_5 a0_6))) else (raft_Check.j0 k true a0_0 a0_1 l0_2 a0_3 a0_4 a0_5 a0_6)))
theorem raft_Check.mono_l : ∀ k, (∀ y0 y1 y2 y3 y4 y5 y6 y7, LeO (raft_Check.j0 k y0 y1 y2 y3 y4 y5 y6 y7) (raft_Check.j0 (k + 1) y0 y1 y2 y3 y4 y5 y6 y7)) ∧ (∀ y0 y1 y2 y3 y4 y5 y6 y7, LeO (raft_Check.j1 k y0 y1 y2 y3 y4 y5 y6 y7) (raft_Check.j1 (k + 1) y0 y1 y2 y3 y4 y5 y6 y7))
 | 0 => ⟨fun _ _ _ _ _ _ _ _ r h => by simp [raft_Check.j0] at h, fun _ _ _ _ _ _ _ _ r h => by simp [raft_Check.j1] at h⟩
 | k + 1 => by
  obtain ⟨ih0, ih1⟩ := raft_Check.mono_l k
  refine ⟨?_, ?_⟩
  ·intro y0 y1 y2 y3 y4 y5 y6 y7
   unfold raft_Check.j0
   repeat' (with_reducible first | exact ih0 .. | exact ih1 .. | exact raft_rows.mono .. | exact LeO.refl .. | exact LeO.none .. | refine LeO.ite ?_ ?_ | refine LeO.bind ?_ (fun _ => ?_))
  ·intro y0 y1 y2 y3 y4 y5 y6 y7
   unfold raft_Check.j1
   repeat' (with_reducible first | exact ih0 .. | exact ih1 .. | exact raft_rows.mono .. | exact LeO.refl .. | exact LeO.none .. | refine LeO.ite ?_ ?_ | refine LeO.bind ?_ (fun _ => ?_))
theorem raft_Check.mono : ∀ a0 a1 a2 a3 a4 a5 a6 k, LeO (raft_Check.f k a0 a1 a2 a3 a4 a5 a6) (raft_Check.f (k + 1) a0 a1 a2 a3 a4 a5 a6) := by
 intro a0 a1 a2 a3 a4 a5 a6 k
 obtain ⟨ih0, ih1⟩ := raft_Check.mono_l k
 unfold raft_Check.f
 repeat' (with_reducible first | exact ih0 .. | exact ih1 .. | exact raft_rows.mono .. | exact LeO.refl .. | exact LeO.none .. | refine LeO.ite ?_ ?_ | refine LeO.bind ?_ (fun _ => ?_))
set_option maxRecDepth 100000 in
theorem raft_Check.calls (k : Nat) (a0_0 : Int) (a0_1 : Int) (A0_2 : Option Addr) (c0_2 : Nat) (l0_2 : List (S54)) (a0_3 : Int) (a0_4 : Int) (a0_5 : Int) (a0_6 : Int) (r : Int) (w : World) (hr0_2 : Kd.C k54 w A0_2 l0_2.length l0_2) (hc0_2 : l0_2.length ≤ c0_2) (h : raft_Check.f k a0_0 a0_1 l0_2 a0_3 a0_4 a0_5 a0_6 = some r) :
 Calls Try.prog 24 #[.agg #[.int .i64 a0_0, .int .i64 a0_1, .slice A0_2 l0_2.length c0_2, .int .i64 a0_3, .int .i64 a0_4, .int .i64 a0_5, .int .i64 a0_6]] w fun e w' => e = .returned (.int .i64 r) ∧ Below w.heap.size w w' := by
 have hu26 := Try.underlying26
 have hu24 := Try.underlying24
 have Ae := Am hr0_2
 have Af := Am hc0_2
 clear hr0_2 hc0_2
 have HB := Am (Below.refl w.heap.size w)
 unfold raft_Check.f at h
 have H := h
 clear h
 have HC2 := Am H
 clear H
 go_enter Try.func24, Try.ntmps24
 go_upto_region 1 with (first | ((with_reducible refine zD 1 rfl ?_); (try (refine gate_guard (by rfl) ?_; dsimp only)); refine zE 1 #[.int .i64 a0_0, .int .i64 a0_1, .slice A0_2 l0_2.length c0_2, .int .i64 a0_3, .int .i64 a0_4, .int .i64 a0_5, .int .i64 a0_6] 26 ?_; intro Bq hg w3 hbox hb; have Aa := Am (hbox); have Bt := zA hg HB; replace HB := zB HB hb; have Ab := Bt; clear hb hbox hg))
 repeat (go_quiet (first | ((with_reducible refine zD 1 rfl ?_); (try (refine gate_guard (by rfl) ?_; dsimp only)); refine zE 1 #[.int .i64 a0_0, .int .i64 a0_1, .slice A0_2 l0_2.length c0_2, .int .i64 a0_3, .int .i64 a0_4, .int .i64 a0_5, .int .i64 a0_6] 26 ?_; intro Bq hg w3 hbox hb; have Aa := Am (hbox); have Bt := zA hg HB; replace HB := zB HB hb; have Ab := Bt; clear hb hbox hg)); go_upto_region 1 with (first | ((with_reducible refine zD 1 rfl ?_); (try (refine gate_guard (by rfl) ?_; dsimp only)); refine zE 1 #[.int .i64 a0_0, .int .i64 a0_1, .slice A0_2 l0_2.length c0_2, .int .i64 a0_3, .int .i64 a0_4, .int .i64 a0_5, .int .i64 a0_6] 26 ?_; intro Bq hg w3 hbox hb; have Aa := Am (hbox); have Bt := zA hg HB; replace HB := zB HB hb; have Ab := Bt; clear hb hbox hg)))
 (try simp only [Act.put, List.setIfInBounds_toArray, List.set_cons_zero, List.set_cons_succ])
 go_cut [39] (fun v39 wc => ∃ (kq : Nat) (Bu : Bool), v39 = .bool Bu ∧ Aside0 (raft_Check.j0 kq Bu a0_0 a0_1 l0_2 a0_3 a0_4 a0_5 a0_6 = some r) ∧ Aside0 (kq ≤ k) ∧ Aside0 (wc.heap[Bq]? = some (.cells #[.int .i64 a0_0, .int .i64 a0_1, (.slice A0_2 l0_2.length c0_2), .int .i64 a0_3, .int .i64 a0_4, .int .i64 a0_5, .int .i64 a0_6] 26 (0, 0))) ∧ Aside0 (Below w.heap.size w wc))
 case first =>
  have H := HC2.out
  clear HC2
  by_cases c4 : a0_0 = 0
  rotate_left
  ·rw [if_neg c4] at H
   obtain ⟨c4b0, c4b1⟩ := zk c4
   (first | rw [c4b0] | (simp only [i64_w, i32_w]; rw [c4b0]) | skip)
   obtain ⟨t122, A34, H⟩ := zb H
   by_cases c35 : t122 = true
   rotate_left
   ·replace c35 := Bool.eq_false_iff.mpr c35
    subst c35
    rw [if_neg zF] at H
    have H' := Am H
    clear H
    obtain ⟨F7, F8, F9, Ga, Gb, Gc, Gd⟩ := bc7 Aa.out
    obtain ⟨Ge, Gf, Gg, Gh, Gi, Gj, Gk⟩ := bf7 Aa.out
    go_wp2_with (first | (go_at_call 43; (with_reducible refine (raft_counts.calls a0_0 false _ A34.out).mono ?_); rintro e w' ⟨rfl, ⟨nd, rfl⟩⟩; (try first | exact ⟨rfl, _, World.drewN_drewN _ _ _⟩ | exact ⟨rfl, _, Eq.trans (World.drewN_drewN _ _ _) (congrArg (World.drewN _) (Nat.add_assoc _ _ _))⟩)))
    repeat (go_quiet (first | (go_at_call 43; (with_reducible refine (raft_counts.calls a0_0 false _ A34.out).mono ?_); rintro e w' ⟨rfl, ⟨nd, rfl⟩⟩; (try first | exact ⟨rfl, _, World.drewN_drewN _ _ _⟩ | exact ⟨rfl, _, Eq.trans (World.drewN_drewN _ _ _) (congrArg (World.drewN _) (Nat.add_assoc _ _ _))⟩))); try go_wp2_with (first | (go_at_call 43; (with_reducible refine (raft_counts.calls a0_0 false _ A34.out).mono ?_); rintro e w' ⟨rfl, ⟨nd, rfl⟩⟩; (try first | exact ⟨rfl, _, World.drewN_drewN _ _ _⟩ | exact ⟨rfl, _, Eq.trans (World.drewN_drewN _ _ _) (congrArg (World.drewN _) (Nat.add_assoc _ _ _))⟩))))
    go_meet
    case rel => exact ⟨_, (true), zr, H', ⟨zo⟩, ⟨pK Aa.out⟩, ⟨pE HB.out Ab.out⟩⟩
   subst c35
   rw [if_pos rfl] at H
   obtain ⟨t123, A36, H⟩ := zb H
   by_cases c37 : t123 = true
   rotate_left
   ·replace c37 := Bool.eq_false_iff.mpr c37
    subst c37
    rw [if_neg zF] at H
    have H' := Am H
    clear H
    obtain ⟨Ft, Fu, Fv, Fw, Fx, Fy, Fz⟩ := bc7 Aa.out
    obtain ⟨F0, F1, F2, F3, F4, F5, F6⟩ := bf7 Aa.out
    go_wp2_with (first | (go_at_call 43; (with_reducible refine (raft_counts.calls a0_0 true _ A34.out).mono ?_); rintro e w' ⟨rfl, ⟨nd, rfl⟩⟩; (try first | exact ⟨rfl, _, World.drewN_drewN _ _ _⟩ | exact ⟨rfl, _, Eq.trans (World.drewN_drewN _ _ _) (congrArg (World.drewN _) (Nat.add_assoc _ _ _))⟩)) | (go_at_call 43; (with_reducible refine (raft_counts.calls a0_1 false _ A36.out).mono ?_); rintro e w' ⟨rfl, ⟨nd, rfl⟩⟩; (try first | exact ⟨rfl, _, World.drewN_drewN _ _ _⟩ | exact ⟨rfl, _, Eq.trans (World.drewN_drewN _ _ _) (congrArg (World.drewN _) (Nat.add_assoc _ _ _))⟩)))
    repeat (go_quiet (first | (go_at_call 43; (with_reducible refine (raft_counts.calls a0_0 true _ A34.out).mono ?_); rintro e w' ⟨rfl, ⟨nd, rfl⟩⟩; (try first | exact ⟨rfl, _, World.drewN_drewN _ _ _⟩ | exact ⟨rfl, _, Eq.trans (World.drewN_drewN _ _ _) (congrArg (World.drewN _) (Nat.add_assoc _ _ _))⟩)) | (go_at_call 43; (with_reducible refine (raft_counts.calls a0_1 false _ A36.out).mono ?_); rintro e w' ⟨rfl, ⟨nd, rfl⟩⟩; (try first | exact ⟨rfl, _, World.drewN_drewN _ _ _⟩ | exact ⟨rfl, _, Eq.trans (World.drewN_drewN _ _ _) (congrArg (World.drewN _) (Nat.add_assoc _ _ _))⟩))); try go_wp2_with (first | (go_at_call 43; (with_reducible refine (raft_counts.calls a0_0 true _ A34.out).mono ?_); rintro e w' ⟨rfl, ⟨nd, rfl⟩⟩; (try first | exact ⟨rfl, _, World.drewN_drewN _ _ _⟩ | exact ⟨rfl, _, Eq.trans (World.drewN_drewN _ _ _) (congrArg (World.drewN _) (Nat.add_assoc _ _ _))⟩)) | (go_at_call 43; (with_reducible refine (raft_counts.calls a0_1 false _ A36.out).mono ?_); rintro e w' ⟨rfl, ⟨nd, rfl⟩⟩; (try first | exact ⟨rfl, _, World.drewN_drewN _ _ _⟩ | exact ⟨rfl, _, Eq.trans (World.drewN_drewN _ _ _) (congrArg (World.drewN _) (Nat.add_assoc _ _ _))⟩))))
    go_meet
    case rel => exact ⟨_, (true), zr, H', ⟨zo⟩, ⟨pK Aa.out⟩, ⟨pE HB.out Ab.out⟩⟩
   subst c37
   rw [if_pos rfl] at H
   by_cases c38 : (l0_2.length : Int) > 1000
   ·rw [if_pos c38] at H
    have c38b0 : decide (1000 < (l0_2.length : Int)) = true := decide_eq_true c38
    have c38b1 : decide (1000 < l0_2.length) = true := decide_eq_true (by omega)
    clear c38
    have H' := Am H
    clear H
    obtain ⟨El, Em, En, Eo, Ep, Er, Es⟩ := bc7 Aa.out
    obtain ⟨Et, Eu, Ew, Ex, Ey, Ez, E0⟩ := bf7 Aa.out
    go_wp2_with (first | (go_at_call 43; (with_reducible refine (raft_counts.calls a0_0 true _ A34.out).mono ?_); rintro e w' ⟨rfl, ⟨nd, rfl⟩⟩; (try first | exact ⟨rfl, _, World.drewN_drewN _ _ _⟩ | exact ⟨rfl, _, Eq.trans (World.drewN_drewN _ _ _) (congrArg (World.drewN _) (Nat.add_assoc _ _ _))⟩)) | (go_at_call 43; (with_reducible refine (raft_counts.calls a0_1 true _ A36.out).mono ?_); rintro e w' ⟨rfl, ⟨nd, rfl⟩⟩; (try first | exact ⟨rfl, _, World.drewN_drewN _ _ _⟩ | exact ⟨rfl, _, Eq.trans (World.drewN_drewN _ _ _) (congrArg (World.drewN _) (Nat.add_assoc _ _ _))⟩)))
    repeat (go_quiet (first | (go_at_call 43; (with_reducible refine (raft_counts.calls a0_0 true _ A34.out).mono ?_); rintro e w' ⟨rfl, ⟨nd, rfl⟩⟩; (try first | exact ⟨rfl, _, World.drewN_drewN _ _ _⟩ | exact ⟨rfl, _, Eq.trans (World.drewN_drewN _ _ _) (congrArg (World.drewN _) (Nat.add_assoc _ _ _))⟩)) | (go_at_call 43; (with_reducible refine (raft_counts.calls a0_1 true _ A36.out).mono ?_); rintro e w' ⟨rfl, ⟨nd, rfl⟩⟩; (try first | exact ⟨rfl, _, World.drewN_drewN _ _ _⟩ | exact ⟨rfl, _, Eq.trans (World.drewN_drewN _ _ _) (congrArg (World.drewN _) (Nat.add_assoc _ _ _))⟩))); try go_wp2_with (first | (go_at_call 43; (with_reducible refine (raft_counts.calls a0_0 true _ A34.out).mono ?_); rintro e w' ⟨rfl, ⟨nd, rfl⟩⟩; (try first | exact ⟨rfl, _, World.drewN_drewN _ _ _⟩ | exact ⟨rfl, _, Eq.trans (World.drewN_drewN _ _ _) (congrArg (World.drewN _) (Nat.add_assoc _ _ _))⟩)) | (go_at_call 43; (with_reducible refine (raft_counts.calls a0_1 true _ A36.out).mono ?_); rintro e w' ⟨rfl, ⟨nd, rfl⟩⟩; (try first | exact ⟨rfl, _, World.drewN_drewN _ _ _⟩ | exact ⟨rfl, _, Eq.trans (World.drewN_drewN _ _ _) (congrArg (World.drewN _) (Nat.add_assoc _ _ _))⟩))))
    go_meet
    case rel => exact ⟨_, (true), zr, H', ⟨zo⟩, ⟨pK Aa.out⟩, ⟨pE HB.out Ab.out⟩⟩
   rw [if_neg c38] at H
   have c38b0 : decide (1000 < (l0_2.length : Int)) = false := decide_eq_false c38
   have c38b1 : decide (1000 < l0_2.length) = false := decide_eq_false (by omega)
   clear c38
   obtain ⟨t124, A40, H⟩ := zb H
   by_cases c41 : t124 = true
   rotate_left
   ·replace c41 := Bool.eq_false_iff.mpr c41
    subst c41
    rw [if_neg zF] at H
    have H' := Am H
    clear H
    obtain ⟨Ff, Fg, Fh, Fi, Fj, Fk, Fl⟩ := bc7 Aa.out
    obtain ⟨Fm, Fn, Fo, Fp, Fq, Fr, Fs⟩ := bf7 Aa.out
    go_wp2_with (first | (go_at_call 43; (with_reducible refine (raft_counts.calls a0_0 true _ A34.out).mono ?_); rintro e w' ⟨rfl, ⟨nd, rfl⟩⟩; (try first | exact ⟨rfl, _, World.drewN_drewN _ _ _⟩ | exact ⟨rfl, _, Eq.trans (World.drewN_drewN _ _ _) (congrArg (World.drewN _) (Nat.add_assoc _ _ _))⟩)) | (go_at_call 43; (with_reducible refine (raft_counts.calls a0_1 true _ A36.out).mono ?_); rintro e w' ⟨rfl, ⟨nd, rfl⟩⟩; (try first | exact ⟨rfl, _, World.drewN_drewN _ _ _⟩ | exact ⟨rfl, _, Eq.trans (World.drewN_drewN _ _ _) (congrArg (World.drewN _) (Nat.add_assoc _ _ _))⟩)) | (go_at_call 44; (with_reducible refine (raft_rows.calls k _ _ l0_2 false _ ?Ac ?Ad A40.out).mono ?_); (case Ac => repeat (first | exact (Kd.C_below Ae.out (pE HB.out Ab.out)) | (with_reducible refine Kd.C_alloc ?_ _) | (with_reducible refine Kd.C_drewN ?_ _) | (with_reducible refine Kd.C_drew ?_))); (case Ad => exact Af.out); rintro e w48 ⟨rfl, hb⟩; replace Aa := kBa Aa hb; replace HB := zX1 HB Ab.out hb; (try clear hb)))
    repeat (go_quiet (first | (go_at_call 43; (with_reducible refine (raft_counts.calls a0_0 true _ A34.out).mono ?_); rintro e w' ⟨rfl, ⟨nd, rfl⟩⟩; (try first | exact ⟨rfl, _, World.drewN_drewN _ _ _⟩ | exact ⟨rfl, _, Eq.trans (World.drewN_drewN _ _ _) (congrArg (World.drewN _) (Nat.add_assoc _ _ _))⟩)) | (go_at_call 43; (with_reducible refine (raft_counts.calls a0_1 true _ A36.out).mono ?_); rintro e w' ⟨rfl, ⟨nd, rfl⟩⟩; (try first | exact ⟨rfl, _, World.drewN_drewN _ _ _⟩ | exact ⟨rfl, _, Eq.trans (World.drewN_drewN _ _ _) (congrArg (World.drewN _) (Nat.add_assoc _ _ _))⟩)) | (go_at_call 44; (with_reducible refine (raft_rows.calls k _ _ l0_2 false _ ?Ac ?Ad A40.out).mono ?_); (case Ac => repeat (first | exact (Kd.C_below Ae.out (pE HB.out Ab.out)) | (with_reducible refine Kd.C_alloc ?_ _) | (with_reducible refine Kd.C_drewN ?_ _) | (with_reducible refine Kd.C_drew ?_))); (case Ad => exact Af.out); rintro e w48 ⟨rfl, hb⟩; replace Aa := kBa Aa hb; replace HB := zX1 HB Ab.out hb; (try clear hb))); try go_wp2_with (first | (go_at_call 43; (with_reducible refine (raft_counts.calls a0_0 true _ A34.out).mono ?_); rintro e w' ⟨rfl, ⟨nd, rfl⟩⟩; (try first | exact ⟨rfl, _, World.drewN_drewN _ _ _⟩ | exact ⟨rfl, _, Eq.trans (World.drewN_drewN _ _ _) (congrArg (World.drewN _) (Nat.add_assoc _ _ _))⟩)) | (go_at_call 43; (with_reducible refine (raft_counts.calls a0_1 true _ A36.out).mono ?_); rintro e w' ⟨rfl, ⟨nd, rfl⟩⟩; (try first | exact ⟨rfl, _, World.drewN_drewN _ _ _⟩ | exact ⟨rfl, _, Eq.trans (World.drewN_drewN _ _ _) (congrArg (World.drewN _) (Nat.add_assoc _ _ _))⟩)) | (go_at_call 44; (with_reducible refine (raft_rows.calls k _ _ l0_2 false _ ?Ac ?Ad A40.out).mono ?_); (case Ac => repeat (first | exact (Kd.C_below Ae.out (pE HB.out Ab.out)) | (with_reducible refine Kd.C_alloc ?_ _) | (with_reducible refine Kd.C_drewN ?_ _) | (with_reducible refine Kd.C_drew ?_))); (case Ad => exact Af.out); rintro e w48 ⟨rfl, hb⟩; replace Aa := kBa Aa hb; replace HB := zX1 HB Ab.out hb; (try clear hb))))
    go_meet
    case rel => exact ⟨_, (true), zr, H', ⟨zo⟩, ⟨pK Aa.out⟩, ⟨pE HB.out Ab.out⟩⟩
   subst c41
   rw [if_pos rfl] at H
   obtain ⟨t125, A42, H⟩ := zb H
   have H' := Am H
   clear H
   obtain ⟨E1, E2, E3, E4, E5, E6, E7⟩ := bc7 Aa.out
   obtain ⟨E8, E9, Fa, Fb, Fc, Fd, Fe⟩ := bf7 Aa.out
   go_wp2_with (first | (go_at_call 43; (with_reducible refine (raft_counts.calls a0_0 true _ A34.out).mono ?_); rintro e w' ⟨rfl, ⟨nd, rfl⟩⟩; (try first | exact ⟨rfl, _, World.drewN_drewN _ _ _⟩ | exact ⟨rfl, _, Eq.trans (World.drewN_drewN _ _ _) (congrArg (World.drewN _) (Nat.add_assoc _ _ _))⟩)) | (go_at_call 43; (with_reducible refine (raft_counts.calls a0_1 true _ A36.out).mono ?_); rintro e w' ⟨rfl, ⟨nd, rfl⟩⟩; (try first | exact ⟨rfl, _, World.drewN_drewN _ _ _⟩ | exact ⟨rfl, _, Eq.trans (World.drewN_drewN _ _ _) (congrArg (World.drewN _) (Nat.add_assoc _ _ _))⟩)) | (go_at_call 44; (with_reducible refine (raft_rows.calls k _ _ l0_2 true _ ?Ac ?Ad A40.out).mono ?_); (case Ac => repeat (first | exact (Kd.C_below Ae.out (pE HB.out Ab.out)) | (with_reducible refine Kd.C_alloc ?_ _) | (with_reducible refine Kd.C_drewN ?_ _) | (with_reducible refine Kd.C_drew ?_))); (case Ad => exact Af.out); rintro e w44 ⟨rfl, hb⟩; replace Aa := kBa Aa hb; replace HB := zX1 HB Ab.out hb; (try clear hb); obtain ⟨Bc, Bd, Be, Bf, Bg, Bh, Bi⟩ := bc7 Aa.out; obtain ⟨Bj, Bk, Bl, Bm, Bn, Bo, Bp⟩ := bf7 Aa.out) | (go_at_call 45; (with_reducible refine (hard_Check.calls a0_3 a0_4 a0_5 t125 _ A42.out).mono ?_); rintro e w46 ⟨rfl, hb⟩; replace Aa := kBa Aa hb; replace HB := zX1 HB Ab.out hb; (try clear hb)))
   repeat (go_quiet (first | (go_at_call 43; (with_reducible refine (raft_counts.calls a0_0 true _ A34.out).mono ?_); rintro e w' ⟨rfl, ⟨nd, rfl⟩⟩; (try first | exact ⟨rfl, _, World.drewN_drewN _ _ _⟩ | exact ⟨rfl, _, Eq.trans (World.drewN_drewN _ _ _) (congrArg (World.drewN _) (Nat.add_assoc _ _ _))⟩)) | (go_at_call 43; (with_reducible refine (raft_counts.calls a0_1 true _ A36.out).mono ?_); rintro e w' ⟨rfl, ⟨nd, rfl⟩⟩; (try first | exact ⟨rfl, _, World.drewN_drewN _ _ _⟩ | exact ⟨rfl, _, Eq.trans (World.drewN_drewN _ _ _) (congrArg (World.drewN _) (Nat.add_assoc _ _ _))⟩)) | (go_at_call 44; (with_reducible refine (raft_rows.calls k _ _ l0_2 true _ ?Ac ?Ad A40.out).mono ?_); (case Ac => repeat (first | exact (Kd.C_below Ae.out (pE HB.out Ab.out)) | (with_reducible refine Kd.C_alloc ?_ _) | (with_reducible refine Kd.C_drewN ?_ _) | (with_reducible refine Kd.C_drew ?_))); (case Ad => exact Af.out); rintro e w44 ⟨rfl, hb⟩; replace Aa := kBa Aa hb; replace HB := zX1 HB Ab.out hb; (try clear hb); obtain ⟨Bc, Bd, Be, Bf, Bg, Bh, Bi⟩ := bc7 Aa.out; obtain ⟨Bj, Bk, Bl, Bm, Bn, Bo, Bp⟩ := bf7 Aa.out) | (go_at_call 45; (with_reducible refine (hard_Check.calls a0_3 a0_4 a0_5 t125 _ A42.out).mono ?_); rintro e w46 ⟨rfl, hb⟩; replace Aa := kBa Aa hb; replace HB := zX1 HB Ab.out hb; (try clear hb))); try go_wp2_with (first | (go_at_call 43; (with_reducible refine (raft_counts.calls a0_0 true _ A34.out).mono ?_); rintro e w' ⟨rfl, ⟨nd, rfl⟩⟩; (try first | exact ⟨rfl, _, World.drewN_drewN _ _ _⟩ | exact ⟨rfl, _, Eq.trans (World.drewN_drewN _ _ _) (congrArg (World.drewN _) (Nat.add_assoc _ _ _))⟩)) | (go_at_call 43; (with_reducible refine (raft_counts.calls a0_1 true _ A36.out).mono ?_); rintro e w' ⟨rfl, ⟨nd, rfl⟩⟩; (try first | exact ⟨rfl, _, World.drewN_drewN _ _ _⟩ | exact ⟨rfl, _, Eq.trans (World.drewN_drewN _ _ _) (congrArg (World.drewN _) (Nat.add_assoc _ _ _))⟩)) | (go_at_call 44; (with_reducible refine (raft_rows.calls k _ _ l0_2 true _ ?Ac ?Ad A40.out).mono ?_); (case Ac => repeat (first | exact (Kd.C_below Ae.out (pE HB.out Ab.out)) | (with_reducible refine Kd.C_alloc ?_ _) | (with_reducible refine Kd.C_drewN ?_ _) | (with_reducible refine Kd.C_drew ?_))); (case Ad => exact Af.out); rintro e w44 ⟨rfl, hb⟩; replace Aa := kBa Aa hb; replace HB := zX1 HB Ab.out hb; (try clear hb); obtain ⟨Bc, Bd, Be, Bf, Bg, Bh, Bi⟩ := bc7 Aa.out; obtain ⟨Bj, Bk, Bl, Bm, Bn, Bo, Bp⟩ := bf7 Aa.out) | (go_at_call 45; (with_reducible refine (hard_Check.calls a0_3 a0_4 a0_5 t125 _ A42.out).mono ?_); rintro e w46 ⟨rfl, hb⟩; replace Aa := kBa Aa hb; replace HB := zX1 HB Ab.out hb; (try clear hb))))
   go_meet
   case rel => exact ⟨_, ((t125 != 0)), zr, H', ⟨zo⟩, ⟨pK Aa.out⟩, ⟨pE HB.out Ab.out⟩⟩
  rw [if_pos c4] at H
  obtain ⟨c4b0, c4b1⟩ := zc c4
  clear c4
  (first | rw [c4b0] | (simp only [i64_w, i32_w]; rw [c4b0]) | skip)
  by_cases c5 : a0_1 = 0
  ·rw [if_pos c5] at H
   obtain ⟨c5b0, c5b1⟩ := zc c5
   clear c5
   by_cases c6 : (l0_2.length : Int) > 1000
   ·rw [if_pos c6] at H
    have c6b0 : decide (1000 < (l0_2.length : Int)) = true := decide_eq_true c6
    have c6b1 : decide (1000 < l0_2.length) = true := decide_eq_true (by omega)
    clear c6
    have H' := Am H
    clear H
    obtain ⟨Gx, Gy, Gz, G0, G1, G2, G3⟩ := bc7 Aa.out
    obtain ⟨G4, G5, G6, G7, G8, G9, Ha⟩ := bf7 Aa.out
    go_wp2
    repeat (go_quiet (fail); try go_wp2)
    go_meet
    case rel => exact ⟨_, (true), zr, H', ⟨zo⟩, ⟨pK Aa.out⟩, ⟨pE HB.out Ab.out⟩⟩
   rw [if_neg c6] at H
   have c6b0 : decide (1000 < (l0_2.length : Int)) = false := decide_eq_false c6
   have c6b1 : decide (1000 < l0_2.length) = false := decide_eq_false (by omega)
   clear c6
   obtain ⟨t116, A8, H⟩ := zb H
   by_cases c9 : t116 = true
   rotate_left
   ·replace c9 := Bool.eq_false_iff.mpr c9
    subst c9
    rw [if_neg zF] at H
    have H' := Am H
    clear H
    obtain ⟨B9, Ca, Cb, Cc, Cd, Ce, Cf⟩ := bc7 Aa.out
    obtain ⟨Cg, Ch, Ci, Cj, Ck, Cl, Cm⟩ := bf7 Aa.out
    go_wp2_with (first | (go_at_call 44; (with_reducible refine (raft_rows.calls k _ _ l0_2 false _ ?Ac ?Ad A8.out).mono ?_); (case Ac => exact pC (Kd.C_below Ae.out HB.out)); (case Ad => exact Af.out); rintro e w16 ⟨rfl, hb⟩; replace Aa := kBa Aa hb; replace HB := zX1 HB Ab.out hb; (try clear hb)))
    repeat (go_quiet (first | (go_at_call 44; (with_reducible refine (raft_rows.calls k _ _ l0_2 false _ ?Ac ?Ad A8.out).mono ?_); (case Ac => exact pC (Kd.C_below Ae.out HB.out)); (case Ad => exact Af.out); rintro e w16 ⟨rfl, hb⟩; replace Aa := kBa Aa hb; replace HB := zX1 HB Ab.out hb; (try clear hb))); try go_wp2_with (first | (go_at_call 44; (with_reducible refine (raft_rows.calls k _ _ l0_2 false _ ?Ac ?Ad A8.out).mono ?_); (case Ac => exact pC (Kd.C_below Ae.out HB.out)); (case Ad => exact Af.out); rintro e w16 ⟨rfl, hb⟩; replace Aa := kBa Aa hb; replace HB := zX1 HB Ab.out hb; (try clear hb))))
    go_meet
    case rel => exact ⟨_, (true), zr, H', ⟨zo⟩, ⟨pK Aa.out⟩, ⟨pE HB.out Ab.out⟩⟩
   subst c9
   rw [if_pos rfl] at H
   obtain ⟨t117, A10, H⟩ := zb H
   have H' := Am H
   clear H
   obtain ⟨Bv, Bw, Bx, By, Bz, B0, B1⟩ := bc7 Aa.out
   obtain ⟨B2, B3, B4, B5, B6, B7, B8⟩ := bf7 Aa.out
   go_wp2_with (first | (go_at_call 44; (with_reducible refine (raft_rows.calls k _ _ l0_2 true _ ?Ac ?Ad A8.out).mono ?_); (case Ac => exact pC (Kd.C_below Ae.out HB.out)); (case Ad => exact Af.out); rintro e w12 ⟨rfl, hb⟩; replace Aa := kBa Aa hb; replace HB := zX1 HB Ab.out hb; (try clear hb); obtain ⟨Ai, Aj, Ak, Al, An, Ao, Ap⟩ := bc7 Aa.out; obtain ⟨Aq, Ar, As, At, Au, Av, Aw⟩ := bf7 Aa.out) | (go_at_call 45; (with_reducible refine (hard_Check.calls a0_3 a0_4 a0_5 t117 _ A10.out).mono ?_); rintro e w14 ⟨rfl, hb⟩; replace Aa := kBa Aa hb; replace HB := zX1 HB Ab.out hb; (try clear hb)))
   repeat (go_quiet (first | (go_at_call 44; (with_reducible refine (raft_rows.calls k _ _ l0_2 true _ ?Ac ?Ad A8.out).mono ?_); (case Ac => exact pC (Kd.C_below Ae.out HB.out)); (case Ad => exact Af.out); rintro e w12 ⟨rfl, hb⟩; replace Aa := kBa Aa hb; replace HB := zX1 HB Ab.out hb; (try clear hb); obtain ⟨Ai, Aj, Ak, Al, An, Ao, Ap⟩ := bc7 Aa.out; obtain ⟨Aq, Ar, As, At, Au, Av, Aw⟩ := bf7 Aa.out) | (go_at_call 45; (with_reducible refine (hard_Check.calls a0_3 a0_4 a0_5 t117 _ A10.out).mono ?_); rintro e w14 ⟨rfl, hb⟩; replace Aa := kBa Aa hb; replace HB := zX1 HB Ab.out hb; (try clear hb))); try go_wp2_with (first | (go_at_call 44; (with_reducible refine (raft_rows.calls k _ _ l0_2 true _ ?Ac ?Ad A8.out).mono ?_); (case Ac => exact pC (Kd.C_below Ae.out HB.out)); (case Ad => exact Af.out); rintro e w12 ⟨rfl, hb⟩; replace Aa := kBa Aa hb; replace HB := zX1 HB Ab.out hb; (try clear hb); obtain ⟨Ai, Aj, Ak, Al, An, Ao, Ap⟩ := bc7 Aa.out; obtain ⟨Aq, Ar, As, At, Au, Av, Aw⟩ := bf7 Aa.out) | (go_at_call 45; (with_reducible refine (hard_Check.calls a0_3 a0_4 a0_5 t117 _ A10.out).mono ?_); rintro e w14 ⟨rfl, hb⟩; replace Aa := kBa Aa hb; replace HB := zX1 HB Ab.out hb; (try clear hb))))
   go_meet
   case rel => exact ⟨_, ((t117 != 0)), zr, H', ⟨zo⟩, ⟨pK Aa.out⟩, ⟨pE HB.out Ab.out⟩⟩
  rw [if_neg c5] at H
  obtain ⟨c5b0, c5b1⟩ := zk c5
  obtain ⟨t118, A17, H⟩ := zb H
  by_cases c18 : t118 = true
  rotate_left
  ·replace c18 := Bool.eq_false_iff.mpr c18
   subst c18
   rw [if_neg zF] at H
   have H' := Am H
   clear H
   obtain ⟨D7, D8, D9, Ea, Eb, Ec, Ed⟩ := bc7 Aa.out
   obtain ⟨Ee, Ef, Eg, Eh, Ei, Ej, Ek⟩ := bf7 Aa.out
   go_wp2_with (first | (go_at_call 43; (with_reducible refine (raft_counts.calls a0_0 false _ A17.out).mono ?_); rintro e w' ⟨rfl, ⟨nd, rfl⟩⟩; (try first | exact ⟨rfl, _, World.drewN_drewN _ _ _⟩ | exact ⟨rfl, _, Eq.trans (World.drewN_drewN _ _ _) (congrArg (World.drewN _) (Nat.add_assoc _ _ _))⟩)))
   repeat (go_quiet (first | (go_at_call 43; (with_reducible refine (raft_counts.calls a0_0 false _ A17.out).mono ?_); rintro e w' ⟨rfl, ⟨nd, rfl⟩⟩; (try first | exact ⟨rfl, _, World.drewN_drewN _ _ _⟩ | exact ⟨rfl, _, Eq.trans (World.drewN_drewN _ _ _) (congrArg (World.drewN _) (Nat.add_assoc _ _ _))⟩))); try go_wp2_with (first | (go_at_call 43; (with_reducible refine (raft_counts.calls a0_0 false _ A17.out).mono ?_); rintro e w' ⟨rfl, ⟨nd, rfl⟩⟩; (try first | exact ⟨rfl, _, World.drewN_drewN _ _ _⟩ | exact ⟨rfl, _, Eq.trans (World.drewN_drewN _ _ _) (congrArg (World.drewN _) (Nat.add_assoc _ _ _))⟩))))
   go_meet
   case rel => exact ⟨_, (true), zr, H', ⟨zo⟩, ⟨pK Aa.out⟩, ⟨pE HB.out Ab.out⟩⟩
  subst c18
  rw [if_pos rfl] at H
  obtain ⟨t119, A19, H⟩ := zb H
  by_cases c20 : t119 = true
  rotate_left
  ·replace c20 := Bool.eq_false_iff.mpr c20
   subst c20
   rw [if_neg zF] at H
   have H' := Am H
   clear H
   obtain ⟨Dt, Du, Dv, Dw, Dx, Dy, Dz⟩ := bc7 Aa.out
   obtain ⟨D0, D1, D2, D3, D4, D5, D6⟩ := bf7 Aa.out
   go_wp2_with (first | (go_at_call 43; (with_reducible refine (raft_counts.calls a0_0 true _ A17.out).mono ?_); rintro e w' ⟨rfl, ⟨nd, rfl⟩⟩; (try first | exact ⟨rfl, _, World.drewN_drewN _ _ _⟩ | exact ⟨rfl, _, Eq.trans (World.drewN_drewN _ _ _) (congrArg (World.drewN _) (Nat.add_assoc _ _ _))⟩)) | (go_at_call 43; (with_reducible refine (raft_counts.calls a0_1 false _ A19.out).mono ?_); rintro e w' ⟨rfl, ⟨nd, rfl⟩⟩; (try first | exact ⟨rfl, _, World.drewN_drewN _ _ _⟩ | exact ⟨rfl, _, Eq.trans (World.drewN_drewN _ _ _) (congrArg (World.drewN _) (Nat.add_assoc _ _ _))⟩)))
   repeat (go_quiet (first | (go_at_call 43; (with_reducible refine (raft_counts.calls a0_0 true _ A17.out).mono ?_); rintro e w' ⟨rfl, ⟨nd, rfl⟩⟩; (try first | exact ⟨rfl, _, World.drewN_drewN _ _ _⟩ | exact ⟨rfl, _, Eq.trans (World.drewN_drewN _ _ _) (congrArg (World.drewN _) (Nat.add_assoc _ _ _))⟩)) | (go_at_call 43; (with_reducible refine (raft_counts.calls a0_1 false _ A19.out).mono ?_); rintro e w' ⟨rfl, ⟨nd, rfl⟩⟩; (try first | exact ⟨rfl, _, World.drewN_drewN _ _ _⟩ | exact ⟨rfl, _, Eq.trans (World.drewN_drewN _ _ _) (congrArg (World.drewN _) (Nat.add_assoc _ _ _))⟩))); try go_wp2_with (first | (go_at_call 43; (with_reducible refine (raft_counts.calls a0_0 true _ A17.out).mono ?_); rintro e w' ⟨rfl, ⟨nd, rfl⟩⟩; (try first | exact ⟨rfl, _, World.drewN_drewN _ _ _⟩ | exact ⟨rfl, _, Eq.trans (World.drewN_drewN _ _ _) (congrArg (World.drewN _) (Nat.add_assoc _ _ _))⟩)) | (go_at_call 43; (with_reducible refine (raft_counts.calls a0_1 false _ A19.out).mono ?_); rintro e w' ⟨rfl, ⟨nd, rfl⟩⟩; (try first | exact ⟨rfl, _, World.drewN_drewN _ _ _⟩ | exact ⟨rfl, _, Eq.trans (World.drewN_drewN _ _ _) (congrArg (World.drewN _) (Nat.add_assoc _ _ _))⟩))))
   go_meet
   case rel => exact ⟨_, (true), zr, H', ⟨zo⟩, ⟨pK Aa.out⟩, ⟨pE HB.out Ab.out⟩⟩
  subst c20
  rw [if_pos rfl] at H
  by_cases c21 : (l0_2.length : Int) > 1000
  ·rw [if_pos c21] at H
   have c21b0 : decide (1000 < (l0_2.length : Int)) = true := decide_eq_true c21
   have c21b1 : decide (1000 < l0_2.length) = true := decide_eq_true (by omega)
   clear c21
   have H' := Am H
   clear H
   obtain ⟨Cn, Co, Cp, Cq, Cr, Cs, Ct⟩ := bc7 Aa.out
   obtain ⟨Cu, Cv, Cw, Cx, Cy, Cz, C0⟩ := bf7 Aa.out
   go_wp2_with (first | (go_at_call 43; (with_reducible refine (raft_counts.calls a0_0 true _ A17.out).mono ?_); rintro e w' ⟨rfl, ⟨nd, rfl⟩⟩; (try first | exact ⟨rfl, _, World.drewN_drewN _ _ _⟩ | exact ⟨rfl, _, Eq.trans (World.drewN_drewN _ _ _) (congrArg (World.drewN _) (Nat.add_assoc _ _ _))⟩)) | (go_at_call 43; (with_reducible refine (raft_counts.calls a0_1 true _ A19.out).mono ?_); rintro e w' ⟨rfl, ⟨nd, rfl⟩⟩; (try first | exact ⟨rfl, _, World.drewN_drewN _ _ _⟩ | exact ⟨rfl, _, Eq.trans (World.drewN_drewN _ _ _) (congrArg (World.drewN _) (Nat.add_assoc _ _ _))⟩)))
   repeat (go_quiet (first | (go_at_call 43; (with_reducible refine (raft_counts.calls a0_0 true _ A17.out).mono ?_); rintro e w' ⟨rfl, ⟨nd, rfl⟩⟩; (try first | exact ⟨rfl, _, World.drewN_drewN _ _ _⟩ | exact ⟨rfl, _, Eq.trans (World.drewN_drewN _ _ _) (congrArg (World.drewN _) (Nat.add_assoc _ _ _))⟩)) | (go_at_call 43; (with_reducible refine (raft_counts.calls a0_1 true _ A19.out).mono ?_); rintro e w' ⟨rfl, ⟨nd, rfl⟩⟩; (try first | exact ⟨rfl, _, World.drewN_drewN _ _ _⟩ | exact ⟨rfl, _, Eq.trans (World.drewN_drewN _ _ _) (congrArg (World.drewN _) (Nat.add_assoc _ _ _))⟩))); try go_wp2_with (first | (go_at_call 43; (with_reducible refine (raft_counts.calls a0_0 true _ A17.out).mono ?_); rintro e w' ⟨rfl, ⟨nd, rfl⟩⟩; (try first | exact ⟨rfl, _, World.drewN_drewN _ _ _⟩ | exact ⟨rfl, _, Eq.trans (World.drewN_drewN _ _ _) (congrArg (World.drewN _) (Nat.add_assoc _ _ _))⟩)) | (go_at_call 43; (with_reducible refine (raft_counts.calls a0_1 true _ A19.out).mono ?_); rintro e w' ⟨rfl, ⟨nd, rfl⟩⟩; (try first | exact ⟨rfl, _, World.drewN_drewN _ _ _⟩ | exact ⟨rfl, _, Eq.trans (World.drewN_drewN _ _ _) (congrArg (World.drewN _) (Nat.add_assoc _ _ _))⟩))))
   go_meet
   case rel => exact ⟨_, (true), zr, H', ⟨zo⟩, ⟨pK Aa.out⟩, ⟨pE HB.out Ab.out⟩⟩
  rw [if_neg c21] at H
  have c21b0 : decide (1000 < (l0_2.length : Int)) = false := decide_eq_false c21
  have c21b1 : decide (1000 < l0_2.length) = false := decide_eq_false (by omega)
  clear c21
  obtain ⟨t120, A23, H⟩ := zb H
  by_cases c24 : t120 = true
  rotate_left
  ·replace c24 := Bool.eq_false_iff.mpr c24
   subst c24
   rw [if_neg zF] at H
   have H' := Am H
   clear H
   obtain ⟨Df, Dg, Dh, Di, Dj, Dk, Dl⟩ := bc7 Aa.out
   obtain ⟨Dm, Dn, Do, Dp, Dq, Dr, Ds⟩ := bf7 Aa.out
   go_wp2_with (first | (go_at_call 43; (with_reducible refine (raft_counts.calls a0_0 true _ A17.out).mono ?_); rintro e w' ⟨rfl, ⟨nd, rfl⟩⟩; (try first | exact ⟨rfl, _, World.drewN_drewN _ _ _⟩ | exact ⟨rfl, _, Eq.trans (World.drewN_drewN _ _ _) (congrArg (World.drewN _) (Nat.add_assoc _ _ _))⟩)) | (go_at_call 43; (with_reducible refine (raft_counts.calls a0_1 true _ A19.out).mono ?_); rintro e w' ⟨rfl, ⟨nd, rfl⟩⟩; (try first | exact ⟨rfl, _, World.drewN_drewN _ _ _⟩ | exact ⟨rfl, _, Eq.trans (World.drewN_drewN _ _ _) (congrArg (World.drewN _) (Nat.add_assoc _ _ _))⟩)) | (go_at_call 44; (with_reducible refine (raft_rows.calls k _ _ l0_2 false _ ?Ac ?Ad A23.out).mono ?_); (case Ac => repeat (first | exact (Kd.C_below Ae.out (pE HB.out Ab.out)) | (with_reducible refine Kd.C_alloc ?_ _) | (with_reducible refine Kd.C_drewN ?_ _) | (with_reducible refine Kd.C_drew ?_))); (case Ad => exact Af.out); rintro e w31 ⟨rfl, hb⟩; replace Aa := kBa Aa hb; replace HB := zX1 HB Ab.out hb; (try clear hb)))
   repeat (go_quiet (first | (go_at_call 43; (with_reducible refine (raft_counts.calls a0_0 true _ A17.out).mono ?_); rintro e w' ⟨rfl, ⟨nd, rfl⟩⟩; (try first | exact ⟨rfl, _, World.drewN_drewN _ _ _⟩ | exact ⟨rfl, _, Eq.trans (World.drewN_drewN _ _ _) (congrArg (World.drewN _) (Nat.add_assoc _ _ _))⟩)) | (go_at_call 43; (with_reducible refine (raft_counts.calls a0_1 true _ A19.out).mono ?_); rintro e w' ⟨rfl, ⟨nd, rfl⟩⟩; (try first | exact ⟨rfl, _, World.drewN_drewN _ _ _⟩ | exact ⟨rfl, _, Eq.trans (World.drewN_drewN _ _ _) (congrArg (World.drewN _) (Nat.add_assoc _ _ _))⟩)) | (go_at_call 44; (with_reducible refine (raft_rows.calls k _ _ l0_2 false _ ?Ac ?Ad A23.out).mono ?_); (case Ac => repeat (first | exact (Kd.C_below Ae.out (pE HB.out Ab.out)) | (with_reducible refine Kd.C_alloc ?_ _) | (with_reducible refine Kd.C_drewN ?_ _) | (with_reducible refine Kd.C_drew ?_))); (case Ad => exact Af.out); rintro e w31 ⟨rfl, hb⟩; replace Aa := kBa Aa hb; replace HB := zX1 HB Ab.out hb; (try clear hb))); try go_wp2_with (first | (go_at_call 43; (with_reducible refine (raft_counts.calls a0_0 true _ A17.out).mono ?_); rintro e w' ⟨rfl, ⟨nd, rfl⟩⟩; (try first | exact ⟨rfl, _, World.drewN_drewN _ _ _⟩ | exact ⟨rfl, _, Eq.trans (World.drewN_drewN _ _ _) (congrArg (World.drewN _) (Nat.add_assoc _ _ _))⟩)) | (go_at_call 43; (with_reducible refine (raft_counts.calls a0_1 true _ A19.out).mono ?_); rintro e w' ⟨rfl, ⟨nd, rfl⟩⟩; (try first | exact ⟨rfl, _, World.drewN_drewN _ _ _⟩ | exact ⟨rfl, _, Eq.trans (World.drewN_drewN _ _ _) (congrArg (World.drewN _) (Nat.add_assoc _ _ _))⟩)) | (go_at_call 44; (with_reducible refine (raft_rows.calls k _ _ l0_2 false _ ?Ac ?Ad A23.out).mono ?_); (case Ac => repeat (first | exact (Kd.C_below Ae.out (pE HB.out Ab.out)) | (with_reducible refine Kd.C_alloc ?_ _) | (with_reducible refine Kd.C_drewN ?_ _) | (with_reducible refine Kd.C_drew ?_))); (case Ad => exact Af.out); rintro e w31 ⟨rfl, hb⟩; replace Aa := kBa Aa hb; replace HB := zX1 HB Ab.out hb; (try clear hb))))
   go_meet
   case rel => exact ⟨_, (true), zr, H', ⟨zo⟩, ⟨pK Aa.out⟩, ⟨pE HB.out Ab.out⟩⟩
  subst c24
  rw [if_pos rfl] at H
  obtain ⟨t121, A25, H⟩ := zb H
  have H' := Am H
  clear H
  obtain ⟨C1, C2, C3, C4, C5, C6, C7⟩ := bc7 Aa.out
  obtain ⟨C8, C9, Da, Db, Dc, Dd, De⟩ := bf7 Aa.out
  go_wp2_with (first | (go_at_call 43; (with_reducible refine (raft_counts.calls a0_0 true _ A17.out).mono ?_); rintro e w' ⟨rfl, ⟨nd, rfl⟩⟩; (try first | exact ⟨rfl, _, World.drewN_drewN _ _ _⟩ | exact ⟨rfl, _, Eq.trans (World.drewN_drewN _ _ _) (congrArg (World.drewN _) (Nat.add_assoc _ _ _))⟩)) | (go_at_call 43; (with_reducible refine (raft_counts.calls a0_1 true _ A19.out).mono ?_); rintro e w' ⟨rfl, ⟨nd, rfl⟩⟩; (try first | exact ⟨rfl, _, World.drewN_drewN _ _ _⟩ | exact ⟨rfl, _, Eq.trans (World.drewN_drewN _ _ _) (congrArg (World.drewN _) (Nat.add_assoc _ _ _))⟩)) | (go_at_call 44; (with_reducible refine (raft_rows.calls k _ _ l0_2 true _ ?Ac ?Ad A23.out).mono ?_); (case Ac => repeat (first | exact (Kd.C_below Ae.out (pE HB.out Ab.out)) | (with_reducible refine Kd.C_alloc ?_ _) | (with_reducible refine Kd.C_drewN ?_ _) | (with_reducible refine Kd.C_drew ?_))); (case Ad => exact Af.out); rintro e w27 ⟨rfl, hb⟩; replace Aa := kBa Aa hb; replace HB := zX1 HB Ab.out hb; (try clear hb); obtain ⟨Ax, Ay, Az, A0, A1, A2, A3⟩ := bc7 Aa.out; obtain ⟨A4, A5, A6, A7, A9, Ba, Bb⟩ := bf7 Aa.out) | (go_at_call 45; (with_reducible refine (hard_Check.calls a0_3 a0_4 a0_5 t121 _ A25.out).mono ?_); rintro e w29 ⟨rfl, hb⟩; replace Aa := kBa Aa hb; replace HB := zX1 HB Ab.out hb; (try clear hb)))
  repeat (go_quiet (first | (go_at_call 43; (with_reducible refine (raft_counts.calls a0_0 true _ A17.out).mono ?_); rintro e w' ⟨rfl, ⟨nd, rfl⟩⟩; (try first | exact ⟨rfl, _, World.drewN_drewN _ _ _⟩ | exact ⟨rfl, _, Eq.trans (World.drewN_drewN _ _ _) (congrArg (World.drewN _) (Nat.add_assoc _ _ _))⟩)) | (go_at_call 43; (with_reducible refine (raft_counts.calls a0_1 true _ A19.out).mono ?_); rintro e w' ⟨rfl, ⟨nd, rfl⟩⟩; (try first | exact ⟨rfl, _, World.drewN_drewN _ _ _⟩ | exact ⟨rfl, _, Eq.trans (World.drewN_drewN _ _ _) (congrArg (World.drewN _) (Nat.add_assoc _ _ _))⟩)) | (go_at_call 44; (with_reducible refine (raft_rows.calls k _ _ l0_2 true _ ?Ac ?Ad A23.out).mono ?_); (case Ac => repeat (first | exact (Kd.C_below Ae.out (pE HB.out Ab.out)) | (with_reducible refine Kd.C_alloc ?_ _) | (with_reducible refine Kd.C_drewN ?_ _) | (with_reducible refine Kd.C_drew ?_))); (case Ad => exact Af.out); rintro e w27 ⟨rfl, hb⟩; replace Aa := kBa Aa hb; replace HB := zX1 HB Ab.out hb; (try clear hb); obtain ⟨Ax, Ay, Az, A0, A1, A2, A3⟩ := bc7 Aa.out; obtain ⟨A4, A5, A6, A7, A9, Ba, Bb⟩ := bf7 Aa.out) | (go_at_call 45; (with_reducible refine (hard_Check.calls a0_3 a0_4 a0_5 t121 _ A25.out).mono ?_); rintro e w29 ⟨rfl, hb⟩; replace Aa := kBa Aa hb; replace HB := zX1 HB Ab.out hb; (try clear hb))); try go_wp2_with (first | (go_at_call 43; (with_reducible refine (raft_counts.calls a0_0 true _ A17.out).mono ?_); rintro e w' ⟨rfl, ⟨nd, rfl⟩⟩; (try first | exact ⟨rfl, _, World.drewN_drewN _ _ _⟩ | exact ⟨rfl, _, Eq.trans (World.drewN_drewN _ _ _) (congrArg (World.drewN _) (Nat.add_assoc _ _ _))⟩)) | (go_at_call 43; (with_reducible refine (raft_counts.calls a0_1 true _ A19.out).mono ?_); rintro e w' ⟨rfl, ⟨nd, rfl⟩⟩; (try first | exact ⟨rfl, _, World.drewN_drewN _ _ _⟩ | exact ⟨rfl, _, Eq.trans (World.drewN_drewN _ _ _) (congrArg (World.drewN _) (Nat.add_assoc _ _ _))⟩)) | (go_at_call 44; (with_reducible refine (raft_rows.calls k _ _ l0_2 true _ ?Ac ?Ad A23.out).mono ?_); (case Ac => repeat (first | exact (Kd.C_below Ae.out (pE HB.out Ab.out)) | (with_reducible refine Kd.C_alloc ?_ _) | (with_reducible refine Kd.C_drewN ?_ _) | (with_reducible refine Kd.C_drew ?_))); (case Ad => exact Af.out); rintro e w27 ⟨rfl, hb⟩; replace Aa := kBa Aa hb; replace HB := zX1 HB Ab.out hb; (try clear hb); obtain ⟨Ax, Ay, Az, A0, A1, A2, A3⟩ := bc7 Aa.out; obtain ⟨A4, A5, A6, A7, A9, Ba, Bb⟩ := bf7 Aa.out) | (go_at_call 45; (with_reducible refine (hard_Check.calls a0_3 a0_4 a0_5 t121 _ A25.out).mono ?_); rintro e w29 ⟨rfl, hb⟩; replace Aa := kBa Aa hb; replace HB := zX1 HB Ab.out hb; (try clear hb))))
  go_meet
  case rel => exact ⟨_, ((t121 != 0)), zr, H', ⟨zo⟩, ⟨pK Aa.out⟩, ⟨pE HB.out Ab.out⟩⟩
 case rest =>
  clear HC2
  try clear c1
  try clear c2
  try clear p2
  try clear c3
  try clear c4
  try clear c4b0
  try clear c4b1
  try clear c5
  try clear c5b0
  try clear c5b1
  try clear c6
  try clear c6b0
  try clear c6b1
  try clear c9
  try clear c18
  try clear c20
  try clear c21
  try clear c21b0
  try clear c21b1
  try clear c24
  try clear c35
  try clear c37
  try clear c38
  try clear c38b0
  try clear c38b1
  try clear c41
  try clear Bv Bw Bx By Bz B0 B1
  try clear Ai Aj Ak Al An Ao Ap
  try clear B9 Ca Cb Cc Cd Ce Cf
  try clear Cn Co Cp Cq Cr Cs Ct
  try clear C1 C2 C3 C4 C5 C6 C7
  try clear Ax Ay Az A0 A1 A2 A3
  try clear Df Dg Dh Di Dj Dk Dl
  try clear Dt Du Dv Dw Dx Dy Dz
  try clear D7 D8 D9 Ea Eb Ec Ed
  try clear El Em En Eo Ep Er Es
  try clear E1 E2 E3 E4 E5 E6 E7
  try clear Bc Bd Be Bf Bg Bh Bi
  try clear Ff Fg Fh Fi Fj Fk Fl
  try clear Ft Fu Fv Fw Fx Fy Fz
  try clear F7 F8 F9 Ga Gb Gc Gd
  try clear Gx Gy Gz G0 G1 G2 G3
  try clear B2 B3 B4 B5 B6 B7 B8
  try clear Aq Ar As At Au Av Aw
  try clear Cg Ch Ci Cj Ck Cl Cm
  try clear Cu Cv Cw Cx Cy Cz C0
  try clear C8 C9 Da Db Dc Dd De
  try clear A4 A5 A6 A7 A9 Ba Bb
  try clear Dm Dn Do Dp Dq Dr Ds
  try clear D0 D1 D2 D3 D4 D5 D6
  try clear Ee Ef Eg Eh Ei Ej Ek
  try clear Et Eu Ew Ex Ey Ez E0
  try clear E8 E9 Fa Fb Fc Fd Fe
  try clear Bj Bk Bl Bm Bn Bo Bp
  try clear Fm Fn Fo Fp Fq Fr Fs
  try clear F0 F1 F2 F3 F4 F5 F6
  try clear Ge Gf Gg Gh Gi Gj Gk
  try clear G4 G5 G6 G7 G8 G9 Ha
  obtain ⟨kq, Bu, rfl, HA, HJ1, Aa, HB⟩ := hcut
  cases kq with
  | zero => exact absurd HA.out (by simp [raft_Check.j0])
  | succ kj1 =>
   have H := HA.out
   clear HA
   simp only [raft_Check.j0] at H
   by_cases c51 : Bu = true
   ·subst c51
    rw [if_pos rfl] at H
    obtain rfl := Option.some.inj H
    go_wp2
    repeat (go_quiet (fail); try go_wp2)
    go_ret
    exact ⟨pX, pE HB.out Ab.out⟩
   replace c51 := Bool.eq_false_iff.mpr c51
   subst c51
   rw [if_neg zF] at H
   have HC52 := Am H
   clear H
   go_upto_region 3 with (fail)
   repeat (go_quiet (fail); go_upto_region 3 with (fail))
   go_cut [64] (fun v64 wc => ∃ (kq : Nat) (Br : Bool), v64 = .bool Br ∧ Aside0 (raft_Check.j1 kq Br a0_0 a0_1 l0_2 a0_3 a0_4 a0_5 a0_6 = some r) ∧ Aside0 (kq ≤ kj1) ∧ Aside0 (wc.heap[Bq]? = some (.cells #[.int .i64 a0_0, .int .i64 a0_1, (.slice A0_2 l0_2.length c0_2), .int .i64 a0_3, .int .i64 a0_4, .int .i64 a0_5, .int .i64 a0_6] 26 (0, 0))) ∧ Aside0 (Below w.heap.size w wc))
   case first =>
    have H := HC52.out
    clear HC52
    by_cases c53 : (l0_2.length : Int) > 0
    rotate_left
    ·rw [if_neg c53] at H
     have c53b0 : decide (0 < (l0_2.length : Int)) = false := decide_eq_false c53
     have c53b1 : decide (0 < l0_2.length) = false := decide_eq_false (by omega)
     clear c53
     (first | rw [c53b0] | (simp only [i64_w, i32_w]; rw [c53b0]) | skip)
     have H' := Am H
     clear H
     obtain ⟨Ig, Ih, Ii, Ij, Ik, Il, Im⟩ := bc7 Aa.out
     obtain ⟨In, Io, Ip, Iq, Ir, Is, It⟩ := bf7 Aa.out
     go_wp2
     repeat (go_quiet (fail); try go_wp2)
     go_meet
     case rel => exact ⟨_, (false), zr, H', ⟨by have := HJ1.out; first | omega | exact Nat.le_refl _⟩, ⟨pK Aa.out⟩, ⟨pE HB.out Ab.out⟩⟩
    rw [if_pos c53] at H
    have c53b0 : decide (0 < (l0_2.length : Int)) = true := decide_eq_true c53
    have c53b1 : decide (0 < l0_2.length) = true := decide_eq_true (by omega)
    clear c53
    (first | rw [c53b0] | (simp only [i64_w, i32_w]; rw [c53b0]) | skip)
    obtain ⟨c54, H⟩ := zI H
    have c54b0 := decide_eq_true c54
    have c54b1 : decide (0 < l0_2.length) = true := decide_eq_true (by omega)
    clear c54
    by_cases c55 : ((rd_T54 l0_2 0).f0) = (wrap64 (a0_0 + 1))
    rotate_left
    ·rw [if_neg c55] at H
     obtain ⟨c55b0, c55b1⟩ := zk c55
     have H' := Am H
     clear H
     obtain ⟨H0, H2, H3, H4, H5, H6, H7⟩ := bc7 Aa.out
     obtain ⟨H8, H9, Ia, Ib, Ic, Ie, If⟩ := bf7 Aa.out
     have p126 : 0 ≤ (0 : Int) := (by omega)
     have q126 : 0 < (l0_2.length : Int) := of_decide_eq_true pS
     obtain ⟨Iu, Iv, c126_5, e126, Gl, Gm, Gn, Go, Gp, Bs, Gq, Gr, Gs, Gt, Ag, Ah⟩ := at_T54uz Ae.out p126 q126 HB.out
     cases e126
     have qi126 : (0 < l0_2.length) = True := eq_true (by omega)
     have Hp := Am Ah
     have Hq := Am Ag
     clear Ah Ag
     replace p126 := eq_true p126
     replace q126 := eq_true q126
     go_wp2
     repeat (go_quiet (fail); try go_wp2)
     go_meet
     case rel => exact ⟨_, (true), zr, H', ⟨by have := HJ1.out; first | omega | exact Nat.le_refl _⟩, ⟨pK Aa.out⟩, ⟨pE HB.out Ab.out⟩⟩
    rw [if_pos c55] at H
    obtain ⟨c55b0, c55b1⟩ := zc c55
    clear c55
    have H' := Am H
    clear H
    obtain ⟨Hb, Hc, Hd, He, Hf, Hg, Hh⟩ := bc7 Aa.out
    obtain ⟨Hi, Hj, Hk, Hl, Hm, Hn, Ho⟩ := bf7 Aa.out
    have p126 : 0 ≤ (0 : Int) := (by omega)
    have q126 : 0 < (l0_2.length : Int) := of_decide_eq_true pS
    obtain ⟨Iu, Iv, c126_5, e126, Gl, Gm, Gn, Go, Gp, Bs, Gq, Gr, Gs, Gt, Ag, Ah⟩ := at_T54uz Ae.out p126 q126 HB.out
    cases e126
    have qi126 : (0 < l0_2.length) = True := eq_true (by omega)
    have Hp := Am Ah
    have Hq := Am Ag
    clear Ah Ag
    replace p126 := eq_true p126
    replace q126 := eq_true q126
    have p127 : 0 ≤ (0 : Int) := (by omega)
    have q127 : 0 < (l0_2.length : Int) := of_decide_eq_true pS
    obtain ⟨Iw, A127_5, c127_5, e127, Hr, Hs, Ht, Hu, Hv, Gu, Hw, Hx, Hy, Hz, Gv, Gw⟩ := at_T54uz Ae.out p127 q127 HB.out
    obtain rfl : Iu = Iw := (by injection e127)
    have qi127 : (0 < l0_2.length) = True := eq_true (by omega)
    have HR127_5 := Am Gw
    have HC127_5 := Am Gv
    clear Gw Gv
    replace p127 := eq_true p127
    replace q127 := eq_true q127
    have ea_ := Option.some.inj (Bs.symm.trans Gu)
    injection ea_ with ea_ en_ ec_
    subst ea_
    subst ec_
    clear en_
    go_wp2
    repeat (go_quiet (fail); try go_wp2)
    go_meet
    case rel => exact ⟨_, (decide (((rd_T54 l0_2 0).f1) < a0_1)), zr, H', ⟨by have := HJ1.out; first | omega | exact Nat.le_refl _⟩, ⟨pK Aa.out⟩, ⟨pE HB.out Ab.out⟩⟩
   case rest =>
    clear HC52
    try clear c1
    try clear p1
    try clear q1
    try clear hx1
    try clear qi1
    try clear c2
    try clear p2
    try clear c3
    try clear c4
    try clear c4b0
    try clear c4b1
    try clear c5
    try clear c5b0
    try clear c5b1
    try clear c6
    try clear c6b0
    try clear c6b1
    try clear p6
    try clear c9
    try clear c12
    try clear p12
    try clear q12
    try clear hx12
    try clear qi12
    try clear c18
    try clear c20
    try clear c21
    try clear c21b0
    try clear c21b1
    try clear c24
    try clear c35
    try clear c37
    try clear c38
    try clear c38b0
    try clear c38b1
    try clear c41
    try clear c51
    try clear c53
    try clear c53b0
    try clear c53b1
    try clear c54
    try clear c54b0
    try clear c54b1
    try clear c55
    try clear c55b0
    try clear c55b1
    try clear Bv Bw Bx By Bz B0 B1
    try clear Ai Aj Ak Al An Ao Ap
    try clear B9 Ca Cb Cc Cd Ce Cf
    try clear Cn Co Cp Cq Cr Cs Ct
    try clear C1 C2 C3 C4 C5 C6 C7
    try clear Ax Ay Az A0 A1 A2 A3
    try clear Df Dg Dh Di Dj Dk Dl
    try clear Dt Du Dv Dw Dx Dy Dz
    try clear D7 D8 D9 Ea Eb Ec Ed
    try clear El Em En Eo Ep Er Es
    try clear E1 E2 E3 E4 E5 E6 E7
    try clear Bc Bd Be Bf Bg Bh Bi
    try clear Ff Fg Fh Fi Fj Fk Fl
    try clear Ft Fu Fv Fw Fx Fy Fz
    try clear F7 F8 F9 Ga Gb Gc Gd
    try clear Hb Hc Hd He Hf Hg Hh
    try clear H0 H2 H3 H4 H5 H6 H7
    try clear Ig Ih Ii Ij Ik Il Im
    try clear Gx Gy Gz G0 G1 G2 G3
    try clear B2 B3 B4 B5 B6 B7 B8
    try clear Aq Ar As At Au Av Aw
    try clear Cg Ch Ci Cj Ck Cl Cm
    try clear Cu Cv Cw Cx Cy Cz C0
    try clear C8 C9 Da Db Dc Dd De
    try clear A4 A5 A6 A7 A9 Ba Bb
    try clear Dm Dn Do Dp Dq Dr Ds
    try clear D0 D1 D2 D3 D4 D5 D6
    try clear Ee Ef Eg Eh Ei Ej Ek
    try clear Et Eu Ew Ex Ey Ez E0
    try clear E8 E9 Fa Fb Fc Fd Fe
    try clear Bj Bk Bl Bm Bn Bo Bp
    try clear Fm Fn Fo Fp Fq Fr Fs
    try clear F0 F1 F2 F3 F4 F5 F6
    try clear Ge Gf Gg Gh Gi Gj Gk
    try clear Hi Hj Hk Hl Hm Hn Ho
    try clear H8 H9 Ia Ib Ic Ie If
    try clear In Io Ip Iq Ir Is It
    try clear G4 G5 G6 G7 G8 G9 Ha
    try clear Gl
    try clear Gm
    try clear Gn
    try clear Go
    try clear Gp
    try clear Bs
    try clear Gq
    try clear Gr
    try clear Gs
    try clear Gt
    try clear Hr
    try clear Hs
    try clear Ht
    try clear Hu
    try clear Hv
    try clear Gu
    try clear Hw
    try clear Hx
    try clear Hy
    try clear Hz
    try clear p126
    try clear p127
    try clear p2
    try clear q126
    try clear q127
    obtain ⟨kq, Br, rfl, HA, HJ51, Aa, HB⟩ := hcut
    cases kq with
    | zero => exact absurd HA.out (by simp [raft_Check.j1])
    | succ kj51 =>
     have H := HA.out
     clear HA
     simp only [raft_Check.j1] at H
     by_cases c59 : Br = true
     ·subst c59
      rw [if_pos rfl] at H
      obtain rfl := Option.some.inj H
      go_wp2
      repeat (go_quiet (fail); try go_wp2)
      go_ret
      exact ⟨pX, pE HB.out Ab.out⟩
     replace c59 := Bool.eq_false_iff.mpr c59
     subst c59
     rw [if_neg zF] at H
     by_cases c60 : a0_6 < a0_0
     ·rw [if_pos c60] at H
      have c60b0 := decide_eq_true c60
      clear c60
      obtain rfl := Option.some.inj H
      obtain ⟨_, _, _, _, _, _, _⟩ := bc7 Aa.out
      obtain ⟨_, _, _, _, _, _, _⟩ := bf7 Aa.out
      go_wp2
      repeat (go_quiet (fail); try go_wp2)
      go_ret
      exact ⟨pX, pE HB.out Ab.out⟩
     rw [if_neg c60] at H
     have c60b0 := decide_eq_false c60
     clear c60
     by_cases c62 : a0_6 > a0_5
     ·rw [if_pos c62] at H
      have c62b0 : decide (a0_5 < a0_6) = true := decide_eq_true c62
      clear c62
      obtain rfl := Option.some.inj H
      obtain ⟨_, _, _, _, _, _, _⟩ := bc7 Aa.out
      obtain ⟨_, _, _, _, _, _, _⟩ := bf7 Aa.out
      go_wp2
      repeat (go_quiet (fail); try go_wp2)
      go_ret
      exact ⟨pX, pE HB.out Ab.out⟩
     rw [if_neg c62] at H
     have c62b0 : decide (a0_5 < a0_6) = false := decide_eq_false c62
     clear c62
     by_cases c64 : a0_5 > (wrap64 (a0_0 + (l0_2.length : Int)))
     ·rw [if_pos c64] at H
      have c64b0 : decide ((wrap64 (a0_0 + (l0_2.length : Int))) < a0_5) = true := decide_eq_true c64
      clear c64
      obtain rfl := Option.some.inj H
      obtain ⟨_, _, _, _, _, _, _⟩ := bc7 Aa.out
      obtain ⟨_, _, _, _, _, _, _⟩ := bf7 Aa.out
      go_wp2
      repeat (go_quiet (fail); try go_wp2)
      go_ret
      exact ⟨pX, pE HB.out Ab.out⟩
     rw [if_neg c64] at H
     have c64b0 : decide ((wrap64 (a0_0 + (l0_2.length : Int))) < a0_5) = false := decide_eq_false c64
     clear c64
     obtain rfl := Option.some.inj H
     obtain ⟨_, _, _, _, _, _, _⟩ := bc7 Aa.out
     obtain ⟨_, _, _, _, _, _, _⟩ := bf7 Aa.out
     go_wp2
     repeat (go_quiet (fail); try go_wp2)
     go_ret
     exact ⟨pX, pE HB.out Ab.out⟩
def entry_counts.f (a0 : Int) : Option (Bool) := if a0 ≥ 1 then (some (decide (a0 ≤ 2147483647))) else (some false)
set_option maxRecDepth 100000 in
theorem entry_counts.calls (a0 : Int) (r : Bool) (w : World) (h : entry_counts.f a0 = some r) :
 Calls Try.prog 53 #[.int .i64 a0] w fun e w' => e = .returned (.bool r) ∧ Drawn0 w w' := by
 unfold entry_counts.f at h
 have H := h
 clear h
 by_cases c2 : a0 ≥ 1
 ·rw [if_pos c2] at H
  have c2b0 : decide (1 ≤ a0) = true := decide_eq_true c2
  clear c2
  obtain rfl := Option.some.inj H
  go_enter Try.func53, Try.ntmps53
  go_wp2
  go_ret
  exact ⟨zr, zd⟩
 rw [if_neg c2] at H
 have c2b0 : decide (1 ≤ a0) = false := decide_eq_false c2
 clear c2
 obtain rfl := Option.some.inj H
 go_enter Try.func53, Try.ntmps53
 go_wp2
 go_ret
 exact ⟨zr, zd⟩
def bytes_Equal.f (l0 : List Int) (l1 : List Int) : Option (Bool) := some ((strOfNums l0).toList == (strOfNums l1).toList)
set_option maxRecDepth 100000 in
theorem bytes_Equal.calls (A0 : Option Addr) (c0 : Nat) (l0 : List Int) (A1 : Option Addr) (c1 : Nat) (l1 : List Int) (r : Bool) (w : World) (hr0 : Kd.C (Kd.int .u8) w A0 l0.length l0) (hc0 : l0.length ≤ c0) (hr1 : Kd.C (Kd.int .u8) w A1 l1.length l1) (hc1 : l1.length ≤ c1) (h : bytes_Equal.f l0 l1 = some r) :
 Calls Try.prog 67 #[.slice A0 l0.length c0, .slice A1 l1.length c1] w fun e w' => e = .returned (.bool r) ∧ Drawn0 w w' := by
 have HR0 := Am hr0
 have HC0 := Am hc0
 clear hr0 hc0
 have HR1 := Am hr1
 have HC1 := Am hc1
 clear hr1 hc1
 unfold bytes_Equal.f at h
 have H := h
 clear h
 obtain rfl := Option.some.inj H
 have hcv3 := Kd.C_string (P := Try.prog) (A := A0) (c := c0) Try.underlying47 Try.underlying5 Try.underlying9 HR0.out
 have hcv4 := Kd.C_string (P := Try.prog) (A := A1) (c := c1) Try.underlying47 Try.underlying5 Try.underlying9 HR1.out
 go_enter Try.func67, Try.ntmps67
 go_wp2
 go_ret
 exact ⟨zr, zd⟩
def cell_Same.f (a0_0 : Bool) (l0_1 : List Int) (a0_2 : Int) (a0_3 : Int) (a0_4 : Int) (a0_5 : Int) (a1_0 : Bool) (l1_1 : List Int) (a1_2 : Int) (a1_3 : Int) (a1_4 : Int) (a1_5 : Int) : Option (Bool) := if (a0_0 == a1_0) = true then (if (a0_2 == a1_2 && (a0_3 == a1_3 && (a0_4 == a1_4 && (a0_5 == a1_5)))) = true then ((bytes_Equal.f l0_1 l1_1).bind fun t130 => (some t130)) else (some false)) else (some false)
set_option maxRecDepth 100000 in
theorem cell_Same.calls (a0_0 : Bool) (A0_1 : Option Addr) (c0_1 : Nat) (l0_1 : List Int) (a0_2 : Int) (a0_3 : Int) (a0_4 : Int) (a0_5 : Int) (a1_0 : Bool) (A1_1 : Option Addr) (c1_1 : Nat) (l1_1 : List Int) (a1_2 : Int) (a1_3 : Int) (a1_4 : Int) (a1_5 : Int) (r : Bool) (w : World) (hr0_1 : Kd.C (Kd.int .u8) w A0_1 l0_1.length l0_1) (hc0_1 : l0_1.length ≤ c0_1) (hr1_1 : Kd.C (Kd.int .u8) w A1_1 l1_1.length l1_1) (hc1_1 : l1_1.length ≤ c1_1) (h : cell_Same.f a0_0 l0_1 a0_2 a0_3 a0_4 a0_5 a1_0 l1_1 a1_2 a1_3 a1_4 a1_5 = some r) :
 Calls Try.prog 54 #[.agg #[.bool a0_0, .slice A0_1 l0_1.length c0_1, .int .i64 a0_2, .int .i64 a0_3, .int .i64 a0_4, .int .u32 a0_5], .agg #[.bool a1_0, .slice A1_1 l1_1.length c1_1, .int .i64 a1_2, .int .i64 a1_3, .int .i64 a1_4, .int .u32 a1_5]] w fun e w' => e = .returned (.bool r) ∧ Below w.heap.size w w' := by
 have hu52 := Try.underlying52
 have hu50 := Try.underlying50
 have Ak := Am hr0_1
 have Al := Am hc0_1
 clear hr0_1 hc0_1
 have An := Am hr1_1
 have Ao := Am hc1_1
 clear hr1_1 hc1_1
 have HB := Am (Below.refl w.heap.size w)
 unfold cell_Same.f at h
 have H := h
 clear h
 by_cases c3 : (a0_0 == a1_0) = true
 rotate_left
 ·rw [if_neg c3] at H
  have c3b0 : (a0_0 == a1_0) = false := by simpa using c3
  (try (have c3b1 : decide (a0_0 = a1_0) = false := by simpa using c3))
  (try (have c3b2 : (a0_0 == a1_0) = false := by simpa using c3))
  (try (have c3b3 : ¬ (a0_0 = a1_0) := by simpa using c3))
  clear c3
  obtain rfl := Option.some.inj H
  go_enter Try.func54, Try.ntmps54
  go_wp2_with (first | ((with_reducible refine zD 2 rfl ?_); refine zE 2 #[.bool a0_0, .slice A0_1 l0_1.length c0_1, .int .i64 a0_2, .int .i64 a0_3, .int .i64 a0_4, .int .u32 a0_5] 52 ?_; intro Ad hg w16 hbox hb; have Aa := Am (hbox); have Ah := zA hg HB; replace HB := zB HB hb; have Ae := Ah; clear hb hbox hg) | ((with_reducible refine zD 3 rfl ?_); refine zE 3 #[.bool a1_0, .slice A1_1 l1_1.length c1_1, .int .i64 a1_2, .int .i64 a1_3, .int .i64 a1_4, .int .u32 a1_5] 52 ?_; intro Af hg w17 hbox hb; have Ag := Am (hbox); have Ai := zY1 hg HB Ae.out; replace HB := zX1 HB Ae.out hb; have Aj := Ai; have Ab := Am (zN hg (kL Aa.out)); have Ac := Am (zM hg (kL Aa.out)); replace Aa := kBa Aa hb; clear hb hbox hg; have hnb18 := Ab.out; have hnc18 := Ac.out; obtain ⟨_, _, _, _, _, _⟩ := bc6 Aa.out; obtain ⟨_, _, _, _, _, _⟩ := bf6 Aa.out; obtain ⟨_, _, _, _, _, _⟩ := bc6 Ag.out; obtain ⟨_, _, _, _, _, _⟩ := bf6 Ag.out))
  go_ret
  exact ⟨pX, pE2 HB.out Ae.out Aj.out⟩
 rw [if_pos c3] at H
 have c3b0 : (a0_0 == a1_0) = true := c3
 (try (have c3b1 : decide (a0_0 = a1_0) = true := by simpa using c3))
 (try (have c3b2 : (a0_0 == a1_0) = true := by simpa using c3))
 clear c3
 by_cases c4 : (a0_2 == a1_2 && (a0_3 == a1_3 && (a0_4 == a1_4 && (a0_5 == a1_5)))) = true
 rotate_left
 ·rw [if_neg c4] at H
  have c4b0 : (a0_2 == a1_2 && (a0_3 == a1_3 && (a0_4 == a1_4 && (a0_5 == a1_5)))) = false := by simpa using c4
  (try (have c4b1 : decide (a0_2 = a1_2 && (a0_3 == a1_3 && (a0_4 == a1_4 && (a0_5 == a1_5)))) = false := by simpa using c4))
  (try (have c4b2 : (a0_2 == a1_2 && (a0_3 == a1_3 && (a0_4 == a1_4 && (a0_5 == a1_5)))) = false := by simpa using c4))
  (try (have c4b3 : ¬ (a0_2 = a1_2 && (a0_3 == a1_3 && (a0_4 == a1_4 && (a0_5 == a1_5)))) := by simpa using c4))
  clear c4
  obtain rfl := Option.some.inj H
  go_enter Try.func54, Try.ntmps54
  go_wp2_with (first | ((with_reducible refine zD 2 rfl ?_); refine zE 2 #[.bool a0_0, .slice A0_1 l0_1.length c0_1, .int .i64 a0_2, .int .i64 a0_3, .int .i64 a0_4, .int .u32 a0_5] 52 ?_; intro Ad hg w11 hbox hb; have Aa := Am (hbox); have Ah := zA hg HB; replace HB := zB HB hb; have Ae := Ah; clear hb hbox hg) | ((with_reducible refine zD 3 rfl ?_); refine zE 3 #[.bool a1_0, .slice A1_1 l1_1.length c1_1, .int .i64 a1_2, .int .i64 a1_3, .int .i64 a1_4, .int .u32 a1_5] 52 ?_; intro Af hg w12 hbox hb; have Ag := Am (hbox); have Ai := zY1 hg HB Ae.out; replace HB := zX1 HB Ae.out hb; have Aj := Ai; have Ab := Am (zN hg (kL Aa.out)); have Ac := Am (zM hg (kL Aa.out)); replace Aa := kBa Aa hb; clear hb hbox hg; have hnb13 := Ab.out; have hnc13 := Ac.out; obtain ⟨_, _, _, _, _, _⟩ := bc6 Aa.out; obtain ⟨_, _, _, _, _, _⟩ := bf6 Aa.out; obtain ⟨_, _, _, _, _, _⟩ := bc6 Ag.out; obtain ⟨_, _, _, _, _, _⟩ := bf6 Ag.out))
  go_ret
  exact ⟨pX, pE2 HB.out Ae.out Aj.out⟩
 rw [if_pos c4] at H
 have c4b0 : (a0_2 == a1_2 && (a0_3 == a1_3 && (a0_4 == a1_4 && (a0_5 == a1_5)))) = true := c4
 (try (have c4b1 : decide (a0_2 = a1_2 && (a0_3 == a1_3 && (a0_4 == a1_4 && (a0_5 == a1_5)))) = true := by simpa using c4))
 (try (have c4b2 : (a0_2 == a1_2 && (a0_3 == a1_3 && (a0_4 == a1_4 && (a0_5 == a1_5)))) = true := by simpa using c4))
 clear c4
 obtain ⟨t130, A5, H⟩ := zb H
 obtain rfl := Option.some.inj H
 go_enter Try.func54, Try.ntmps54
 go_wp2_with (first | ((with_reducible refine zD 2 rfl ?_); refine zE 2 #[.bool a0_0, .slice A0_1 l0_1.length c0_1, .int .i64 a0_2, .int .i64 a0_3, .int .i64 a0_4, .int .u32 a0_5] 52 ?_; intro Ad hg w6 hbox hb; have Aa := Am (hbox); have Ah := zA hg HB; replace HB := zB HB hb; have Ae := Ah; clear hb hbox hg) | ((with_reducible refine zD 3 rfl ?_); refine zE 3 #[.bool a1_0, .slice A1_1 l1_1.length c1_1, .int .i64 a1_2, .int .i64 a1_3, .int .i64 a1_4, .int .u32 a1_5] 52 ?_; intro Af hg w7 hbox hb; have Ag := Am (hbox); have Ai := zY1 hg HB Ae.out; replace HB := zX1 HB Ae.out hb; have Aj := Ai; have Ab := Am (zN hg (kL Aa.out)); have Ac := Am (zM hg (kL Aa.out)); replace Aa := kBa Aa hb; clear hb hbox hg; have hnb8 := Ab.out; have hnc8 := Ac.out; obtain ⟨_, _, _, _, _, _⟩ := bc6 Aa.out; obtain ⟨_, _, _, _, _, _⟩ := bf6 Aa.out; obtain ⟨_, _, _, _, _, _⟩ := bc6 Ag.out; obtain ⟨_, _, _, _, _, _⟩ := bf6 Ag.out) | (go_at_call 67; (with_reducible refine (bytes_Equal.calls _ _ l0_1 _ _ l1_1 t130 _ ?Ap ?Aq ?Ar ?As A5.out).mono ?_); (case Ap => exact pC (Kd.C_below Ak.out HB.out)); (case Aq => exact Al.out); (case Ar => exact pC (Kd.C_below An.out HB.out)); (case As => exact Ao.out); rintro e w' ⟨rfl, ⟨nd, rfl⟩⟩))
 go_ret
 exact ⟨pX, pE2 HB.out Ae.out Aj.out⟩
end
end Go.Proofs.Ytmcijphmcobjlaa.PWalMakes
