/- What the law reaches, as plain Lean functions, and that the machine's calls answer just that. -/
import Derived.Test.YtpefjfibhjnijaaPLivePutsx20
namespace Go.Proofs.Ytpefjfibhjnijaa.PLivePuts
open Go.RowKit Go.Proofs.Ytpefjfibhjnijaa.U Go.Proofs.Ytpefjfibhjnijaa.Pure Go.Proofs.YtpefjfibhjnijaaW.PrintWords Go.Proofs.YtpefjfibhjnijaaW.PrintLast Go.Proofs.YtpefjfibhjnijaaW.PrintMore
set_option linter.unusedVariables false
set_option maxHeartbeats 4000000 in
set_option maxRecDepth 100000 in
theorem LivePuts_far (A1 : Option Addr) (c1 : Nat) (a : List S24) (A2 : Option Addr) (c2 : Nat) (b : List S24) (x0 x1 : Int) (w : World) (hc1 : a.length ≤ c1) (hc2 : b.length ≤ c2) (h : 60 < a.length ∨ 60 < b.length) :
  Calls Try.prog 4 #[.slice A1 a.length c1, .slice A2 b.length c2, .agg #[.int .i64 x0, .int .i64 x1]] w fun e w' => e = .returned (.bool true) ∧ Below w.heap.size w w' := by
 have hu44 := Try.underlying44
 have HB0 := Am (show Below w.heap.size w (w.alloc (.cells #[.int .i64 x0, .int .i64 x1] 44)) from (Below.refl _ w).alloc (Nat.le_refl _) _)
 by_cases ha : 60 < a.length
 ·have hcmp1 : decide (60 < (a.length : Int)) = true := decide_eq_true (by omega)
  have hcmp3 : decide (60 < a.length) = true := decide_eq_true ha
  clear ha h hc1 hc2
  go_enter Try.func4, Try.ntmps4
  go_wp2_with (go_at_call 15; refine (live_awake _).mono ?_; rintro e w8 ⟨rfl, hB⟩; have HB8 := Am (HB0.out.trans (hB.mono HB0.out.size)); clear hB)
  go_ret
  exact ⟨rfl, HB8.out⟩
 ·have hb : 60 < b.length := h.resolve_left ha
  have hcmp1 : decide (60 < (a.length : Int)) = false := decide_eq_false (by omega)
  have hcmp3 : decide (60 < a.length) = false := decide_eq_false ha
  have hcmp2 : decide (60 < (b.length : Int)) = true := decide_eq_true (by omega)
  have hcmp4 : decide (60 < b.length) = true := decide_eq_true hb
  clear ha hb h hc1 hc2
  go_enter Try.func4, Try.ntmps4
  go_wp2_with (go_at_call 15; refine (live_awake _).mono ?_; rintro e w8 ⟨rfl, hB⟩; have HB8 := Am (HB0.out.trans (hB.mono HB0.out.size)); clear hB)
  go_ret
  exact ⟨rfl, HB8.out⟩
def garnerlaw28_LivePuts.f (k : Nat) (l0 : List (S24)) (l1 : List (S24)) (a2_0 : Int) (a2_1 : Int) : Option (Bool) := if okK (a2_0, a2_1) then some true else none
theorem garnerlaw28_LivePuts.mono : ∀ a0 a1 a2 a3 k, LeO (garnerlaw28_LivePuts.f k a0 a1 a2 a3) (garnerlaw28_LivePuts.f (k + 1) a0 a1 a2 a3) := fun _ _ _ _ _ => LeO.refl _
theorem garnerlaw28_LivePuts.calls (k : Nat) (A0 : Option Addr) (c0 : Nat) (l0 : List (S24)) (A1 : Option Addr) (c1 : Nat) (l1 : List (S24)) (a2_0 : Int) (a2_1 : Int) (r : Bool) (w : World) (hr0 : Kd.C k24 w A0 l0.length l0) (hc0 : l0.length ≤ c0) (hr1 : Kd.C k24 w A1 l1.length l1) (hc1 : l1.length ≤ c1) (h : garnerlaw28_LivePuts.f k l0 l1 a2_0 a2_1 = some r) :
  Calls Try.prog 4 #[.slice A0 l0.length c0, .slice A1 l1.length c1, .agg #[.int .i64 a2_0, .int .i64 a2_1]] w fun e w' => e = .returned (.bool r) ∧ Below w.heap.size w w' := by
 unfold garnerlaw28_LivePuts.f at h
 by_cases hk : okK (a2_0, a2_1)
 rotate_left
 ·rw [if_neg hk] at h
  cases h
 rw [if_pos hk] at h
 cases h
 by_cases h1 : 60 < l0.length
 ·exact LivePuts_far A0 c0 l0 A1 c1 l1 a2_0 a2_1 w hc0 hc1 (.inl h1)
 by_cases h2 : 60 < l1.length
 ·exact LivePuts_far A0 c0 l0 A1 c1 l1 a2_0 a2_1 w hc0 hc1 (.inr h2)
 cases ha : l0.all okP with
 | true =>
  cases hb : l1.all okP with
  | true => exact LivePuts_yy A0 c0 l0 A1 c1 l1 a2_0 a2_1 w hr0 hc0 hr1 hc1 hk (by omega) (by omega) ha hb
  | false => exact LivePuts_yn A0 c0 l0 A1 c1 l1 a2_0 a2_1 w hr0 hc0 hr1 hc1 hk (by omega) (by omega) ha hb
 | false =>
  cases hb : l1.all okP with
  | true => exact LivePuts_ny A0 c0 l0 A1 c1 l1 a2_0 a2_1 w hr0 hc0 hr1 hc1 hk (by omega) (by omega) ha hb
  | false => exact LivePuts_nn A0 c0 l0 A1 c1 l1 a2_0 a2_1 w hr0 hc0 hr1 hc1 hk (by omega) (by omega) ha hb
end Go.Proofs.Ytpefjfibhjnijaa.PLivePuts
