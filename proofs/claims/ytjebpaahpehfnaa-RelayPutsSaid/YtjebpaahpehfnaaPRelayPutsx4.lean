/- What the law reaches, as plain Lean functions, and that the machine's calls answer just that. -/
import Derived.Test.YtjebpaahpehfnaaPRelayPutsx0
import Derived.Test.YtjebpaahpehfnaaPRelayPutsx2
import Derived.Test.YtjebpaahpehfnaaPRelayPutsx3
namespace Go.Proofs.Ytjebpaahpehfnaa.PRelayPuts
open Go.RowKit Go.Proofs.YtjebpaahpehfnaaW.PrintWords Go.Proofs.YtjebpaahpehfnaaW.PrintLast Go.Proofs.YtjebpaahpehfnaaW.PrintMore
attribute [local go_sem] max2_int min2_int max_two min_two max_three min_three max_four min_four
set_option linter.unusedVariables false
set_option linter.unusedSimpArgs false
attribute [local go_sem] wrap64_l1 wrap64_l2 wrap64_l3 wrap64_l4 wrap64_l5
mutual
def crc_More.l0 : Nat → Int → List Int → Int → Int → Option (Int)
 | 0, _, _, _, _ => none
 | k + 1, x5, x11, x12, x13 => if x13 < x12 then (if 0 ≤ x13 then (if x13 < (x11.length : Int) then (crc_More.l1 k (Go.bits .xor .u32 x5 ((rd x11 x13) % 4294967296)) x11 x12 x13 0) else (none)) else (none)) else (some (Go.bits .xor .u32 4294967295 x5))
def crc_More.l1 : Nat → Int → List Int → Int → Int → Int → Option (Int)
 | 0, _, _, _, _, _ => none
 | k + 1, x5, x11, x12, x13, x21 => if x21 < 8 then (crc_More.l1 k (Go.bits .xor .u32 (x5 / 2) (Go.bits .and .u32 2197175160 ((-(Go.bits .and .u32 x5 1)) % 4294967296))) x11 x12 x13 (wrap64 (x21 + 1))) else (crc_More.l0 k x5 x11 x12 (wrap64 (x13 + 1)))
end
def crc_More.f (k : Nat) (a0 : Int) (l1 : List Int) : Option (Int) := crc_More.l0 k (Go.bits .xor .u32 4294967295 a0) l1 (l1.length : Int) 0
theorem crc_More.mono_l : ∀ k, (∀ y0 y1 y2 y3, LeO (crc_More.l0 k y0 y1 y2 y3) (crc_More.l0 (k + 1) y0 y1 y2 y3)) ∧ (∀ y0 y1 y2 y3 y4, LeO (crc_More.l1 k y0 y1 y2 y3 y4) (crc_More.l1 (k + 1) y0 y1 y2 y3 y4))
 | 0 => ⟨fun _ _ _ _ r h => by simp [crc_More.l0] at h, fun _ _ _ _ _ r h => by simp [crc_More.l1] at h⟩
 | k + 1 => by
  obtain ⟨ih0, ih1⟩ := crc_More.mono_l k
  refine ⟨?_, ?_⟩
  ·intro y0 y1 y2 y3
   unfold crc_More.l0
   repeat' first
   | (with_reducible exact ih0 _ _ _ _)
   | (with_reducible exact ih1 _ _ _ _ _)
   | (with_reducible exact LeO.refl _)
   | (with_reducible exact LeO.none _)
   | (with_reducible refine LeO.ite ?_ ?_)
   | (with_reducible refine LeO.bind ?_ (fun _ => ?_))
   | exact ih0 _ _ _ _
   | exact ih1 _ _ _ _ _
   | exact LeO.none _
   | refine LeO.ite ?_ ?_
   | refine LeO.bind ?_ (fun _ => ?_)
  ·intro y0 y1 y2 y3 y4
   unfold crc_More.l1
   repeat' first
   | (with_reducible exact ih0 _ _ _ _)
   | (with_reducible exact ih1 _ _ _ _ _)
   | (with_reducible exact LeO.refl _)
   | (with_reducible exact LeO.none _)
   | (with_reducible refine LeO.ite ?_ ?_)
   | (with_reducible refine LeO.bind ?_ (fun _ => ?_))
   | exact ih0 _ _ _ _
   | exact ih1 _ _ _ _ _
   | exact LeO.none _
   | refine LeO.ite ?_ ?_
   | refine LeO.bind ?_ (fun _ => ?_)
theorem crc_More.mono : ∀ a0 a1 k, LeO (crc_More.f k a0 a1) (crc_More.f (k + 1) a0 a1) := by
 intro a0 a1 k
 obtain ⟨ih0, ih1⟩ := crc_More.mono_l k
 unfold crc_More.f
 repeat' first
   | (with_reducible exact ih0 _ _ _ _)
   | (with_reducible exact ih1 _ _ _ _ _)
   | (with_reducible exact LeO.refl _)
   | (with_reducible exact LeO.none _)
   | (with_reducible refine LeO.ite ?_ ?_)
   | (with_reducible refine LeO.bind ?_ (fun _ => ?_))
   | exact ih0 _ _ _ _
   | exact ih1 _ _ _ _ _
   | exact LeO.none _
   | refine LeO.ite ?_ ?_
   | refine LeO.bind ?_ (fun _ => ?_)
set_option maxHeartbeats 8000000 in
set_option maxRecDepth 100000 in
theorem crc_More.calls (k : Nat) (a0 : Int) (A1 : Option Addr) (c1 : Nat) (l1 : List Int) (r : Int) (w : World) (hr1 : Kd.C (Kd.int .u8) w A1 l1.length l1) (hc1 : l1.length ≤ c1) (h : crc_More.f k a0 l1 = some r) :
  Calls Try.prog 50 #[.int .u32 a0, .slice A1 l1.length c1] w fun e w' => e = .returned (.int .u32 r) ∧ Drawn0 w w' := by
 have HR1 := Am hr1
 have HC1 := Am hc1
 clear hr1 hc1
 have H : (crc_More.l0 k (Go.bits .xor .u32 4294967295 a0) l1 (l1.length : Int) 0) = some r := h
 clear h
 have H' := Am H
 clear H
 go_enter Try.func50, Try.ntmps50
 go_wp2
 go_loopg [5, 13] k (fun kq v5 v13 w' => ∃ (Ad : Int) (Aa : Int), v5 = .int .u32 Ad ∧ v13 = .int .i64 Aa ∧ Aside0 (crc_More.l0 kq Ad l1 (l1.length : Int) Aa = some r) ∧ Aside0 (kq ≤ k) ∧ Drawn0 w w')
 case atStart => exact ⟨(Go.bits .xor .u32 4294967295 a0), (0), (by first | rfl | (simp; done) | (simp [*]; done)), (by first | rfl | (simp; done) | (simp [*]; done)), H', ⟨Nat.le_refl _⟩, by repeat (first | exact Drawn0.refl _ | apply Drawn0.step)⟩
 case round =>
  clear H'
  try clear c1
  try clear p2
  obtain ⟨Ad, Aa, rfl, rfl, HA, HK1, ⟨m1, rfl⟩⟩ := hrel
  cases gk with
  | zero => exact absurd HA.out (by simp [crc_More.l0])
  | succ k1 =>
   have H := HA.out
   clear HA
   simp only [crc_More.l0] at H
   by_cases c3 : Aa < (l1.length : Int)
   rotate_left
   ·rw [if_neg c3] at H
    have c3b0 : decide (Aa < (l1.length : Int)) = false := decide_eq_false c3
    clear c3
    obtain rfl := Option.some.inj H
    go_wp2
    go_ret
    exact ⟨by first | rfl | (simp; done) | (simp [*]; done), by repeat (first | exact Drawn0.refl _ | apply Drawn0.step)⟩
   rw [if_pos c3] at H
   have c3b0 : decide (Aa < (l1.length : Int)) = true := decide_eq_true c3
   clear c3
   by_cases c4 : 0 ≤ Aa
   rotate_left
   ·rw [if_neg c4] at H
    exact absurd H (by simp)
   rw [if_pos c4] at H
   have c4b0 : decide (0 ≤ Aa) = true := decide_eq_true c4
   clear c4
   by_cases c5 : Aa < (l1.length : Int)
   rotate_left
   ·rw [if_neg c5] at H
    exact absurd H (by simp)
   rw [if_pos c5] at H
   have c5b0 : decide (Aa < (l1.length : Int)) = true := decide_eq_true c5
   clear c5
   have H' := Am H
   clear H
   have p113 : 0 ≤ (Aa : Int) := of_decide_eq_true pS
   have q113 : Aa < (l1.length : Int) := of_decide_eq_true pS
   obtain ⟨ad113, e113, Ae⟩ := Kd.at_int HR1.out Aa p113 q113
   cases e113
   replace p113 := eq_true p113
   replace q113 := eq_true q113
   go_wp2
   go_loopg [5, 21] k1 (fun kq v5 v21 w' => ∃ (Ac : Int) (Ab : Int), v5 = .int .u32 Ac ∧ v21 = .int .i64 Ab ∧ Aside0 (crc_More.l1 kq Ac l1 (l1.length : Int) Aa Ab = some r) ∧ Aside0 (kq ≤ k1) ∧ Drawn0 w w')
   case atStart => exact ⟨(Go.bits .xor .u32 Ad ((rd l1 Aa) % 4294967296)), (0), (by first | rfl | (simp; done) | (simp [*]; done)), (by first | rfl | (simp; done) | (simp [*]; done)), H', ⟨Nat.le_refl _⟩, by repeat (first | exact Drawn0.refl _ | apply Drawn0.step)⟩
   case round =>
    clear H'
    try clear c1
    try clear p1
    try clear q1
    try clear hx1
    try clear p2
    try clear c3
    try clear c3b0
    try clear c4
    try clear c4b0
    try clear c5
    try clear c5b0
    try clear Ae
    try clear p113
    try clear p2
    try clear q113
    obtain ⟨Ac, Ab, rfl, rfl, HA, HK2, ⟨m2, rfl⟩⟩ := hrel
    cases gk with
    | zero => exact absurd HA.out (by simp [crc_More.l1])
    | succ k2 =>
     have H := HA.out
     clear HA
     simp only [crc_More.l1] at H
     by_cases c6 : Ab < 8
     ·rw [if_pos c6] at H
      have c6b0 : decide (Ab < 8) = true := decide_eq_true c6
      clear c6
      have H' := Am H
      clear H
      go_wp2
      go_roundg k2
      case measure => have := HK1.out; have := HK2.out; omega
      case rel => exact ⟨(Go.bits .xor .u32 (Ac / 2) (Go.bits .and .u32 2197175160 ((-(Go.bits .and .u32 Ac 1)) % 4294967296))), (wrap64 (Ab + 1)), (by first | rfl | (simp; done) | (simp [*]; done)), (by first | rfl | (simp; done) | (simp [*]; done)), H', ⟨by have := HK1.out; have := HK2.out; omega⟩, by repeat (first | exact Drawn0.refl _ | apply Drawn0.step)⟩
     rw [if_neg c6] at H
     have c6b0 : decide (Ab < 8) = false := decide_eq_false c6
     clear c6
     have H' := Am H
     clear H
     go_wp2
     go_roundg k2
     case measure => have := HK1.out; have := HK2.out; omega
     case rel => exact ⟨(Ac), (wrap64 (Aa + 1)), (by first | rfl | (simp; done) | (simp [*]; done)), (by first | rfl | (simp; done) | (simp [*]; done)), H', ⟨by have := HK1.out; have := HK2.out; omega⟩, by repeat (first | exact Drawn0.refl _ | apply Drawn0.step)⟩
def crc_Of.f (k : Nat) (l0 : List Int) : Option (Int) := (crc_More.f k 0 l0).bind fun t114 => (some t114)
theorem crc_Of.mono : ∀ a0 k, LeO (crc_Of.f k a0) (crc_Of.f (k + 1) a0) := by
 intro a0 k
 unfold crc_Of.f
 repeat' first
   | (with_reducible exact crc_More.mono _ _ _)
   | (with_reducible exact LeO.refl _)
   | (with_reducible exact LeO.none _)
   | (with_reducible refine LeO.ite ?_ ?_)
   | (with_reducible refine LeO.bind ?_ (fun _ => ?_))
   | exact crc_More.mono _ _ _
   | exact LeO.none _
   | refine LeO.ite ?_ ?_
   | refine LeO.bind ?_ (fun _ => ?_)
set_option maxHeartbeats 8000000 in
set_option maxRecDepth 100000 in
theorem crc_Of.calls (k : Nat) (A0 : Option Addr) (c0 : Nat) (l0 : List Int) (r : Int) (w : World) (hr0 : Kd.C (Kd.int .u8) w A0 l0.length l0) (hc0 : l0.length ≤ c0) (h : crc_Of.f k l0 = some r) :
  Calls Try.prog 51 #[.slice A0 l0.length c0] w fun e w' => e = .returned (.int .u32 r) ∧ Drawn0 w w' := by
 have HR0 := Am hr0
 have HC0 := Am hc0
 clear hr0 hc0
 have H : ((crc_More.f k 0 l0).bind fun t114 => (some t114)) = some r := h
 clear h
 replace H := Option.bind_eq_some_iff.mp H
 obtain ⟨t114, A20, H⟩ := H
 replace H : (some t114) = some r := H
 have A2 := Am A20
 clear A20
 obtain rfl := Option.some.inj H
 go_enter Try.func51, Try.ntmps51
 go_wp2_with (first | ((with_reducible refine gate_callee (f := 50) rfl ?_); refine goesL_ (some 4) rfl rfl Try.func50 (by kernel_rfl) rfl #[.int .u32 0, .slice A0 l0.length c0] rfl pL ?_; (with_reducible refine (crc_More.calls k 0 _ _ l0 t114 _ ?side1 ?side2 A2.out).mono ?_); (case side1 => repeat (first | exact HR0.out | (with_reducible refine Kd.C_alloc ?_ _) | (with_reducible refine Kd.C_drewN ?_ _) | (with_reducible refine Kd.C_drew ?_))); (case side2 => exact HC0.out); rintro e w' ⟨rfl, ⟨nd, rfl⟩⟩; refine ⟨_, rfl, ?_⟩))
 go_ret
 exact ⟨by first | rfl | (simp; done) | (simp [*]; done), by repeat (first | exact Drawn0.refl _ | apply Drawn0.step)⟩
def frame_sum.f (k : Nat) (a0 : Int) (l1 : List Int) : Option (Int) := (crc_Of.f k (([a0] : List Int))).bind fun t118 => ((crc_More.f k t118 l1).bind fun t119 => (some t119))
theorem frame_sum.mono : ∀ a0 a1 k, LeO (frame_sum.f k a0 a1) (frame_sum.f (k + 1) a0 a1) := by
 intro a0 a1 k
 unfold frame_sum.f
 repeat' first
   | (with_reducible exact crc_More.mono _ _ _)
   | (with_reducible exact crc_Of.mono _ _)
   | (with_reducible exact LeO.refl _)
   | (with_reducible exact LeO.none _)
   | (with_reducible refine LeO.ite ?_ ?_)
   | (with_reducible refine LeO.bind ?_ (fun _ => ?_))
   | exact crc_More.mono _ _ _
   | exact crc_Of.mono _ _
   | exact LeO.none _
   | refine LeO.ite ?_ ?_
   | refine LeO.bind ?_ (fun _ => ?_)
set_option maxHeartbeats 8000000 in
set_option maxRecDepth 100000 in
theorem frame_sum.calls (k : Nat) (a0 : Int) (A1 : Option Addr) (c1 : Nat) (l1 : List Int) (r : Int) (w : World) (hr1 : Kd.C (Kd.int .u8) w A1 l1.length l1) (hc1 : l1.length ≤ c1) (h : frame_sum.f k a0 l1 = some r) :
  Calls Try.prog 39 #[.int .u8 a0, .slice A1 l1.length c1] w fun e w' => e = .returned (.int .u32 r) ∧ Below w.heap.size w w' := by
 have HR1 := Am hr1
 have HC1 := Am hc1
 clear hr1 hc1
 have HB := Am (Below.refl w.heap.size w)
 have H : ((crc_Of.f k (([a0] : List Int))).bind fun t118 => ((crc_More.f k t118 l1).bind fun t119 => (some t119))) = some r := h
 clear h
 obtain ⟨y115, hy115⟩ : ∃ y_ : List Int, y_ = (([a0] : List Int)) := ⟨_, rfl⟩
 replace H : ((crc_Of.f k y115).bind fun t118 => ((crc_More.f k t118 l1).bind fun t119 => (some t119))) = some r := by first | (rw [hy115]; with_reducible exact H) | (have H2_ := (Option.bind_some _ _).symm.trans H; rw [hy115]; with_reducible exact H2_) | (have H2_ := (Option.bind_some _ _).symm.trans H; with_reducible exact H2_) | with_reducible exact H | (rw [hy115]; exact H) | exact H
 have Ny115 := Am hy115
 clear hy115
 replace H := Option.bind_eq_some_iff.mp H
 obtain ⟨t118, A30, H⟩ := H
 replace H : ((crc_More.f k t118 l1).bind fun t119 => (some t119)) = some r := H
 have A3 := Am A30
 clear A30
 replace H := Option.bind_eq_some_iff.mp H
 obtain ⟨t119, A40, H⟩ := H
 replace H : (some t119) = some r := H
 have A4 := Am A40
 clear A40
 obtain rfl := Option.some.inj H
 go_enter Try.func39, Try.ntmps39
 go_wp2_with (first | ((with_reducible refine gate_dst (N := 6) rfl ?_); refine Kd.R_lit (Kd.int .u8) _ 5 ?hg (N := 6) ?hd (xs := ([a0] : List Int)) (inner := [.int .u8 a0]) (ok := fun _ => True) (okp := fun _ => True) ?hr ?hp (fun _ hk => hk) trivial (Below.refl _ _) (Nat.le_refl _) (by simp) ?_; (case hd => rfl); (case hg => rfl); (case hr => first | (go_simp; done) | (go_simp; rfl)); (case hp => exact (Reps.one (show Kd.M (Kd.int .u8) _ _ _ a0 [.int .u8 a0] from rfl) (Reps.none _ _))); intro v116 w5 ho6 hb hg_ hnew_; clear hg_ hnew_; (first | rw [← Ny115.out] at ho6 | (simp only [Int.reduceToNat] at ho6; rw [← Ny115.out] at ho6)); have Aa := Am (Kd.R_lower ho6 (below_size (pB HB.out))); replace HB := Am (below_step (pB HB.out) hb); clear hb ho6; obtain ⟨Ad, Ae, Af⟩ := Kd.R_slice Aa.out; subst Af) | ((with_reducible refine gate_callee (f := 51) rfl ?_); refine goesL_ (some 7) rfl rfl Try.func51 (by kernel_rfl) rfl #[.slice Ad y115.length Ae] rfl pL ?_; (with_reducible refine (crc_Of.calls k _ _ y115 t118 _ ?Ab ?Ac A3.out).mono ?_); (case Ab => exact pC (Kd.R_reads' Aa.out).2.2); (case Ac => exact (Kd.R_reads' Aa.out).2.1); rintro e w' ⟨rfl, ⟨nd, rfl⟩⟩; refine ⟨_, rfl, ?_⟩) | ((with_reducible refine gate_callee (f := 50) rfl ?_); refine goesL_ (some 9) rfl rfl Try.func50 (by kernel_rfl) rfl #[.int .u32 t118, .slice A1 l1.length c1] rfl pL ?_; (with_reducible refine (crc_More.calls k t118 _ _ l1 t119 _ ?Ab ?Ac A4.out).mono ?_); (case Ab => repeat (first | exact (Kd.C_below HR1.out (pB HB.out)) | (with_reducible refine Kd.C_alloc ?_ _) | (with_reducible refine Kd.C_drewN ?_ _) | (with_reducible refine Kd.C_drew ?_))); (case Ac => exact HC1.out); rintro e w' ⟨rfl, ⟨nd, rfl⟩⟩; refine ⟨_, rfl, ?_⟩))
 go_ret
 exact ⟨pX, pB HB.out⟩
def slices_Clone_byte_byte.f (l0 : List Int) : Option (List Int) := if l0.length < 140737488355328 then some l0 else none
set_option maxHeartbeats 4000000 in
set_option maxRecDepth 100000 in
theorem slices_Clone_byte_byte.calls (A0 : Option Addr) (c0 : Nat) (l0 : List Int) (r : List Int) (w : World) (hr0 : Kd.C (Kd.int .u8) w A0 l0.length l0) (hc0 : l0.length ≤ c0) (h : slices_Clone_byte_byte.f l0 = some r) :
  Calls Try.prog 40 #[.slice A0 l0.length c0] w fun e w' => ∃ v0_ : Value, e = .returned (v0_) ∧ Kd.R (Kd.int .u8) 5 w' w.heap.size (fun _ => True) v0_ r ∧ Below w.heap.size w w' := by
 unfold slices_Clone_byte_byte.f at h
 by_cases hl : l0.length < 140737488355328
 ·rw [if_pos hl] at h
  obtain rfl := Option.some.inj h
  have HR0 := Aside0.mk hr0
  have HC0 := Aside0.mk hc0
  have LM := Aside0.mk hl
  clear hr0 hc0 hl h
  have HB := Aside0.mk (Below.refl w.heap.size w)
  have heq := fun (W : World) (a : Option Addr) (n c : Nat) => Lib.run_eql_slice_nil (P := Try.prog) W 22 5 a n c 0 0 Try.underlying22
  cases A0 with
  | none =>
   have e0 : l0 = [] := by
    cases l0 with
    | nil => rfl
    | cons x y =>
     obtain ⟨ad, had, _⟩ := HR0.out.2.2 (by simp)
     cases had
   subst e0
   go_enter Try.func40, Try.ntmps40
   go_wp2
   go_ret
   exact ⟨_, rfl, Kd.R_nil _ _ _ _ _, HB.out⟩
  | some ad =>
   go_enter Try.func40, Try.ntmps40
   go_wp2_with (first | ((with_reducible refine gate_dst (N := 5) rfl ?_); refine Kd.R_lit (Kd.int .u8) _ 5 ?hg (N := 5) ?hd (xs := ([] : List Int)) (inner := []) (ok := fun _ => True) (okp := fun _ => True) ?hr ?hp (fun _ hk => hk) trivial (Below.refl _ _) (Nat.le_refl _) (by simp) ?_; (case hd => rfl); (case hg => rfl); (case hr => first | (go_simp; done) | (go_simp; rfl)); (case hp => exact (Reps.none _ _)); intro v182 w12 ho13 hb hg_ hnew_; clear hg_ hnew_; have n0_ := Aside0.mk (Kd.R_lower ho13 (below_size (by repeat (first | (with_reducible first | exact HB.out | apply below_alloc | apply pw_below_drewN | apply below_drew1) | exact HB.out)))); have n1_ := Aside0.mk (below_step (by repeat (first | (with_reducible first | exact HB.out | apply below_alloc | apply pw_below_drewN | apply below_drew1) | exact HB.out)) hb); clear HB; have HO183 := n0_; have HB := n1_; clear n0_ n1_; clear hb ho13) | ((with_reducible refine gate_builtin (b := .append) (xs := #[.tmp 5, .tmp 6]) rfl ?_); at_builtin; refine Kd.R_append_rows (Kd.int .u8) (w0 := w) w.heap.size rfl (.tmp 5) (.tmp 6) 22 5 (.int .u8 0) 1 rfl Try.underlying22 info5 rfl (by decide) (by omega) v182 [] l0 _ _ _ (fun _ => True) (fun _ => False) rfl rfl ?aO ?aR (fun _ _ h => h) (fun _ h => h.elim) ?aF ?aB ?aS ?aL ?_; (case aR => repeat (first | exact (Kd.C_below HR0.out HB.out) | (with_reducible refine Kd.C_alloc ?_ _) | (with_reducible refine Kd.C_drewN ?_ _) | (with_reducible refine Kd.C_drew ?_))); (case aB => exact (by repeat (first | (with_reducible first | exact HB.out | apply below_alloc | apply pw_below_drewN | apply below_drew1) | exact HB.out))); (case aF => exact (fun _ _ => trivial)); (case aO => exact (by (with_reducible repeat (first | apply Kd.R_alloc | apply Kd.R_drewN | apply Kd.R_drew)); exact HO183.out)); (case aS => exact (below_size (by repeat (first | (with_reducible first | exact HB.out | apply below_alloc | apply pw_below_drewN | apply below_drew1) | exact HB.out)))); (case aL => have := LM.out; simp only [List.length_nil]; omega); intro v185 w14 ho hb hg hat; have n0_ := Aside0.mk (hb); have n1_ := Aside0.mk (ho); clear HB; clear HO183; have HB := n0_; have HO186 := n1_; clear n0_ n1_; clear ho hb hg hat))
   go_ret
   exact ⟨_, rfl, HO186.out, HB.out⟩
 ·rw [if_neg hl] at h
  cases h
def frame_First.j0 : Nat → List Int → Int → Int → Bool → Option (Int × List Int × Int × Int)
 | 0, _, _, _, _ => none
 | k + 1, x0, x5, x6, x19 => if x19 = true then (some (0, ([] : List Int), 0, 2)) else (if x6 = (x0.length : Int) then (some (0, ([] : List Int), 0, 5)) else (if 0 ≤ x6 then (if x6 < (x0.length : Int) then (if (rd x0 x6) < 1 then (some (0, ([] : List Int), 0, 2)) else (if (rd x0 x6) > 250 then (some (0, ([] : List Int), 0, 2)) else ((frame_Size.f k (wrap64 (x5))).bind fun t127 => (if (x0.length : Int) < t127 then (some (0, ([] : List Int), 0, 5)) else (if 0 ≤ (wrap64 (x6 + 1)) then (if (wrap64 (x6 + 1)) ≤ (wrap64 ((wrap64 (x6 + 1)) + (wrap64 (x5)))) then (if (wrap64 ((wrap64 (x6 + 1)) + (wrap64 (x5)))) ≤ (x0.length : Int) then (if 0 ≤ (wrap64 ((wrap64 (x6 + 1)) + (wrap64 (x5)))) then ((frame_sumOf.f (x0.drop ((wrap64 ((wrap64 (x6 + 1)) + (wrap64 (x5)))) : Int).toNat)).bind fun t130 => ((frame_sum.f k (rd x0 x6) ((x0.take ((wrap64 ((wrap64 (x6 + 1)) + (wrap64 (x5)))) : Int).toNat).drop ((wrap64 (x6 + 1)) : Int).toNat)).bind fun t132 => (if t130 = t132 then ((slices_Clone_byte_byte.f ((x0.take ((wrap64 ((wrap64 (x6 + 1)) + (wrap64 (x5)))) : Int).toNat).drop ((wrap64 (x6 + 1)) : Int).toNat)).bind fun t134 => ((frame_Size.f k (wrap64 (x5))).bind fun t137 => (some (wrap64 (rd x0 x6), t134, t137, 0)))) else (some (0, ([] : List Int), 0, 2))))) else (none)) else (none)) else (none)) else (none)))))) else (none)) else (none)))
def frame_First.f (k : Nat) (l0 : List Int) : Option (Int × List Int × Int × Int) := (frame_within.f l0).bind fun t121 => (if t121 = true then (some (0, ([] : List Int), 0, 5)) else ((varint_Get.f k l0).bind fun bt122 => (if bt122.2.2 = 0 then (frame_First.j0 k l0 bt122.1 bt122.2.1 (decide (bt122.1 > 1048576))) else (frame_First.j0 k l0 bt122.1 bt122.2.1 true))))
theorem frame_First.mono_l : ∀ k, (∀ y0 y1 y2 y3, LeO (frame_First.j0 k y0 y1 y2 y3) (frame_First.j0 (k + 1) y0 y1 y2 y3))
 | 0 => fun _ _ _ _ r h => by simp [frame_First.j0] at h
 | k + 1 => by
  have ih0 := frame_First.mono_l k
  ·intro y0 y1 y2 y3
   unfold frame_First.j0
   repeat' first
   | (with_reducible exact ih0 _ _ _ _)
   | (with_reducible exact frame_Size.mono _ _)
   | (with_reducible exact frame_sum.mono _ _ _)
   | (with_reducible exact varint_Get.mono _ _)
   | (with_reducible exact LeO.refl _)
   | (with_reducible exact LeO.none _)
   | (with_reducible refine LeO.ite ?_ ?_)
   | (with_reducible refine LeO.bind ?_ (fun _ => ?_))
   | exact ih0 _ _ _ _
   | exact frame_Size.mono _ _
   | exact frame_sum.mono _ _ _
   | exact varint_Get.mono _ _
   | exact LeO.none _
   | refine LeO.ite ?_ ?_
   | refine LeO.bind ?_ (fun _ => ?_)
theorem frame_First.mono : ∀ a0 k, LeO (frame_First.f k a0) (frame_First.f (k + 1) a0) := by
 intro a0 k
 have ih0 := frame_First.mono_l k
 unfold frame_First.f
 repeat' first
   | (with_reducible exact ih0 _ _ _ _)
   | (with_reducible exact frame_Size.mono _ _)
   | (with_reducible exact frame_sum.mono _ _ _)
   | (with_reducible exact varint_Get.mono _ _)
   | (with_reducible exact LeO.refl _)
   | (with_reducible exact LeO.none _)
   | (with_reducible refine LeO.ite ?_ ?_)
   | (with_reducible refine LeO.bind ?_ (fun _ => ?_))
   | exact ih0 _ _ _ _
   | exact frame_Size.mono _ _
   | exact frame_sum.mono _ _ _
   | exact varint_Get.mono _ _
   | exact LeO.none _
   | refine LeO.ite ?_ ?_
   | refine LeO.bind ?_ (fun _ => ?_)
def frame_First.T14 : Bool × List (List Nat × List Nat) := (true, [([], []), ([], []), ([1], [1]), ([], []), ([2, 3], [2, 3]), ([0, 4], [0, 4]), ([5], [5]), ([], []), ([], []), ([7, 8], [7, 8]), ([9], [9]), ([], []), ([10, 11, 6], [10, 11]), ([6, 12], [6, 12])])
def frame_First.B14 : List Nat := [0, 0, 2, 0, 14, 31, 63, 0, 0, 384, 896, 0, 4095, 8191]
theorem frame_First.tab14 : rtab .any (opsOf Try.f16 14) = frame_First.T14 := by kernel_rfl
theorem frame_First.bits14 : waitsOk frame_First.T14.2 frame_First.B14 = true := by kernel_rfl
def frame_First.T16 : Bool × List (List Nat × List Nat) := (true, [([], []), ([], []), ([0, 1], [0, 1]), ([2], [2]), ([3], [3]), ([], []), ([5], [5]), ([4, 6], [4, 6]), ([], []), ([8, 6], [8]), ([7, 9, 0, 1, 2, 3, 4, 5, 6, 7], [7]), ([9, 10, 0, 1, 2, 3, 4, 5, 6, 7, 8, 9, 10], [9]), ([11, 0, 1, 2, 3, 4, 5, 6, 7, 8, 9, 10, 11], [])])
def frame_First.B16 : List Nat := [0, 0, 3, 7, 15, 0, 32, 127, 0, 352, 1023, 2047, 4095]
theorem frame_First.tab16 : rtab .any (opsOf Try.f16 16) = frame_First.T16 := by kernel_rfl
theorem frame_First.bits16 : waitsOk frame_First.T16.2 frame_First.B16 = true := by kernel_rfl
set_option maxHeartbeats 8000000 in
set_option maxRecDepth 100000 in
theorem frame_First.calls (k : Nat) (A0 : Option Addr) (c0 : Nat) (l0 : List Int) (r1 : Int) (r2 : List Int) (r3 : Int) (r4 : Int) (w : World) (hr0 : Kd.C (Kd.int .u8) w A0 l0.length l0) (hc0 : l0.length ≤ c0) (h : frame_First.f k l0 = some (r1, r2, r3, r4)) :
  Calls Try.prog 16 #[.slice A0 l0.length c0] w fun e w' => ∃ v1_ : Value, e = .returned (.tuple #[.agg #[.int .i64 r1, v1_], .int .i64 r3, .int .i64 r4]) ∧ Kd.R (Kd.int .u8) 5 w' w.heap.size (fun _ => True) v1_ r2 ∧ Below w.heap.size w w' := by
 have hu50 := Try.underlying50
 have HR0 := Am hr0
 have HC0 := Am hc0
 clear hr0 hc0
 have HB := Am (Below.refl w.heap.size w)
 have H : ((frame_within.f l0).bind fun t121 => (if t121 = true then (some (0, ([] : List Int), 0, 5)) else ((varint_Get.f k l0).bind fun bt122 => (if bt122.2.2 = 0 then (frame_First.j0 k l0 bt122.1 bt122.2.1 (decide (bt122.1 > 1048576))) else (frame_First.j0 k l0 bt122.1 bt122.2.1 true))))) = some (r1, r2, r3, r4) := h
 clear h
 replace H := Option.bind_eq_some_iff.mp H
 obtain ⟨t121, A20, H⟩ := H
 replace H : (if t121 = true then (some (0, ([] : List Int), 0, 5)) else ((varint_Get.f k l0).bind fun bt122 => (if bt122.2.2 = 0 then (frame_First.j0 k l0 bt122.1 bt122.2.1 (decide (bt122.1 > 1048576))) else (frame_First.j0 k l0 bt122.1 bt122.2.1 true)))) = some (r1, r2, r3, r4) := H
 have A2 := Am A20
 clear A20
 by_cases c3 : t121 = true
 ·subst c3
  have H1 : (some (0, ([] : List Int), 0, 5)) = some (r1, r2, r3, r4) := by rw [if_pos rfl] at H; exact H
  clear H
  have H := H1
  clear H1
  simp only [Option.some.injEq, Prod.mk.injEq] at H
  obtain ⟨rfl, rfl, rfl, rfl⟩ := H
  go_enter Try.func16, Try.ntmps16
  go_wp2_with (first | ((with_reducible refine gate_dst (N := 2) rfl ?_); refine box_event ?hg (N := 2) ?hd (cs := #[.int .i64 0, .slice none 0 0]) (t := 50) ?hr ?_; (case hd => rfl); (case hg => rfl); (case hr => first | (go_simp; done) | (go_simp; rfl)); intro Af hg w4 hbox hb; have Aa := Am (hbox); have Ao := Am ((by rw [hg]; exact (below_size (pB HB.out)) : w.heap.size ≤ Af)); replace HB := Am (below_step (pB HB.out) hb); have Ac := Ao; clear hb hbox hg) | ((with_reducible refine gate_callee (f := 35) rfl ?_); refine goesL_ (some 11) rfl rfl Try.func35 (by kernel_rfl) rfl #[.slice A0 l0.length c0] rfl pL ?_; (with_reducible refine (frame_within.calls _ _ l0 true _ ?Ah ?Ai A2.out).mono ?_); (case Ah => exact pC (Kd.C_below HR0.out HB.out)); (case Ai => exact HC0.out); rintro e w' ⟨rfl, ⟨nd, rfl⟩⟩; refine ⟨_, rfl, ?_⟩; (try (rw [drewN_self w4]; generalize hq_ : World.drewN w4 _ = w4; replace Aa : Aside0 (w4.heap[Af]? = some (.cells #[.int .i64 0, .slice none 0 0] 50 (0, 0))) := ⟨by rw [← hq_]; exact (pK Aa.out)⟩; replace HB : Aside0 (Below w.heap.size w w4) := ⟨by rw [← hq_]; exact (pE HB.out Ac.out)⟩; clear hq_)); obtain ⟨Aw, Ax⟩ := bc2 Aa.out; obtain ⟨Ay, Az⟩ := bf2 Aa.out))
  refine bodyPost_ret (results_ctt rfl _ _ Af 50 #[.int .i64 0, .slice none 0 0] (0, 0) _ rfl (kX0 Aa.out) Try.underlying50 rfl (by kernel_rfl)) rfl ?_
  exact ⟨_, pX, by first | exact Kd.R_nil _ _ _ _ _ | exact Kd.N_nil _ _ _ _ _ | exact Kd.V_nil _ _ _ _ _ | exact Kd.Q_nil _ _ _ _ _ | exact Kd.S_nil _ _ _ _ _, pE HB.out Ac.out⟩
 replace c3 := Bool.eq_false_iff.mpr c3
 subst c3
 have H1 : ((varint_Get.f k l0).bind fun bt122 => (if bt122.2.2 = 0 then (frame_First.j0 k l0 bt122.1 bt122.2.1 (decide (bt122.1 > 1048576))) else (frame_First.j0 k l0 bt122.1 bt122.2.1 true))) = some (r1, r2, r3, r4) := by rw [if_neg (show ¬ (false = true) by decide)] at H; exact H
 clear H
 have H := H1
 clear H1
 replace H := Option.bind_eq_some_iff.mp H
 obtain ⟨⟨t122, t123, t124⟩, A60, H⟩ := H
 replace H : (if t124 = 0 then (frame_First.j0 k l0 t122 t123 (decide (t122 > 1048576))) else (frame_First.j0 k l0 t122 t123 true)) = some (r1, r2, r3, r4) := H
 have A6 := Am A60
 clear A60
 have HC7 := Am H
 clear H
 go_enter Try.func16, Try.ntmps16
 go_upto_region 4 with (first | ((with_reducible refine gate_dst (N := 2) rfl ?_); refine box_event ?hg (N := 2) ?hd (cs := #[.int .i64 0, .slice none 0 0]) (t := 50) ?hr ?_; (case hd => rfl); (case hg => rfl); (case hr => first | (go_simp; done) | (go_simp; rfl)); intro Af hg w8 hbox hb; have Aa := Am (hbox); have Ao := Am ((by rw [hg]; exact (below_size (pB HB.out)) : w.heap.size ≤ Af)); replace HB := Am (below_step (pB HB.out) hb); have Ac := Ao; clear hb hbox hg) | ((with_reducible refine gate_callee (f := 35) rfl ?_); refine goesL_ (some 11) rfl rfl Try.func35 (by kernel_rfl) rfl #[.slice A0 l0.length c0] rfl pL ?_; (with_reducible refine (frame_within.calls _ _ l0 false _ ?Ah ?Ai A2.out).mono ?_); (case Ah => exact pC (Kd.C_below HR0.out HB.out)); (case Ai => exact HC0.out); rintro e w' ⟨rfl, ⟨nd, rfl⟩⟩; refine ⟨_, rfl, ?_⟩) | ((with_reducible refine gate_callee (f := 36) rfl ?_); refine goesL_ (some 15) rfl rfl Try.func36 (by kernel_rfl) rfl #[.slice A0 l0.length c0] rfl pL ?_; (with_reducible refine (varint_Get.calls k _ _ l0 t122 t123 t124 _ ?Ah ?Ai A6.out).mono ?_); (case Ah => repeat (first | exact (Kd.C_below HR0.out (pE HB.out Ac.out)) | (with_reducible refine Kd.C_alloc ?_ _) | (with_reducible refine Kd.C_drewN ?_ _) | (with_reducible refine Kd.C_drew ?_))); (case Ai => exact HC0.out); rintro e w' ⟨rfl, ⟨nd, rfl⟩⟩; refine ⟨_, rfl, ?_⟩))
 (try simp only [Act.put, List.setIfInBounds_toArray, List.set_cons_zero, List.set_cons_succ])
 go_cut [19] (fun v19 wc => ∃ (kq : Nat) (Ap : Bool), v19 = .bool Ap ∧ Aside0 (frame_First.j0 kq l0 t122 t123 Ap = some (r1, r2, r3, r4)) ∧ Aside0 (kq ≤ k) ∧ Aside0 (wc.heap[Af]? = some (.cells #[.int .i64 0, (.slice none 0 0)] 50 (0, 0))) ∧ Aside0 (Below w.heap.size w wc))
 case first =>
  have H := HC7.out
  clear HC7
  by_cases c9 : t124 = 0
  rotate_left
  ·rw [if_neg c9] at H
   have c9b0 : (t124 == 0) = false := beq_eq_false_iff_ne.mpr c9
   have c9b1 : (t124 != 0) = true := bne_iff_ne.mpr c9
   (first | rw [c9b0] | (simp only [i64_w, i32_w]; rw [c9b0]) | skip)
   have H' := Am H
   clear H
   go_wp2
   go_meet
   case rel => exact ⟨_, (true), (by first | rfl | (simp; done) | (simp [*]; done)), H', ⟨by first | omega | exact Nat.le_refl _⟩, ⟨pK Aa.out⟩, ⟨pE HB.out Ac.out⟩⟩
  rw [if_pos c9] at H
  have c9b0 : (t124 == 0) = true := beq_iff_eq.mpr c9
  have c9b1 : (t124 != 0) = false := bne_eq_false_iff_eq.mpr c9
  clear c9
  (first | rw [c9b0] | (simp only [i64_w, i32_w]; rw [c9b0]) | skip)
  have H' := Am H
  clear H
  go_wp2
  go_meet
  case rel => exact ⟨_, (decide (t122 > 1048576)), (by first | rfl | (simp; done) | (simp [*]; done)), H', ⟨by first | omega | exact Nat.le_refl _⟩, ⟨pK Aa.out⟩, ⟨pE HB.out Ac.out⟩⟩
 case rest =>
  clear HC7
  try clear c1
  try clear p2
  try clear c3
  try clear c9
  try clear c9b0
  try clear c9b1
  try clear Aw Ax
  try clear Ay Az
  obtain ⟨kq, Ap, rfl, HA, HJ6, Aa, HB⟩ := hcut
  cases kq with
  | zero => exact absurd HA.out (by simp [frame_First.j0])
  | succ kj6 =>
   have H := HA.out
   clear HA
   simp only [frame_First.j0] at H
   by_cases c10 : Ap = true
   ·subst c10
    have H1 : (some (0, ([] : List Int), 0, 2)) = some (r1, r2, r3, r4) := by rw [if_pos rfl] at H; exact H
    clear H
    have H := H1
    clear H1
    simp only [Option.some.injEq, Prod.mk.injEq] at H
    obtain ⟨rfl, rfl, rfl, rfl⟩ := H
    obtain ⟨_, _⟩ := bc2 Aa.out
    obtain ⟨_, _⟩ := bf2 Aa.out
    go_wp2
    refine bodyPost_ret (results_ctt rfl _ _ Af 50 #[.int .i64 0, .slice none 0 0] (0, 0) _ rfl (kX0 Aa.out) Try.underlying50 rfl (by kernel_rfl)) rfl ?_
    exact ⟨_, pX, by first | exact Kd.R_nil _ _ _ _ _ | exact Kd.N_nil _ _ _ _ _ | exact Kd.V_nil _ _ _ _ _ | exact Kd.Q_nil _ _ _ _ _ | exact Kd.S_nil _ _ _ _ _, pE HB.out Ac.out⟩
   replace c10 := Bool.eq_false_iff.mpr c10
   subst c10
   have H1 : (if t123 = (l0.length : Int) then (some (0, ([] : List Int), 0, 5)) else (if 0 ≤ t123 then (if t123 < (l0.length : Int) then (if (rd l0 t123) < 1 then (some (0, ([] : List Int), 0, 2)) else (if (rd l0 t123) > 250 then (some (0, ([] : List Int), 0, 2)) else ((frame_Size.f kj6 (wrap64 (t122))).bind fun t127 => (if (l0.length : Int) < t127 then (some (0, ([] : List Int), 0, 5)) else (if 0 ≤ (wrap64 (t123 + 1)) then (if (wrap64 (t123 + 1)) ≤ (wrap64 ((wrap64 (t123 + 1)) + (wrap64 (t122)))) then (if (wrap64 ((wrap64 (t123 + 1)) + (wrap64 (t122)))) ≤ (l0.length : Int) then (if 0 ≤ (wrap64 ((wrap64 (t123 + 1)) + (wrap64 (t122)))) then ((frame_sumOf.f (l0.drop ((wrap64 ((wrap64 (t123 + 1)) + (wrap64 (t122)))) : Int).toNat)).bind fun t130 => ((frame_sum.f kj6 (rd l0 t123) ((l0.take ((wrap64 ((wrap64 (t123 + 1)) + (wrap64 (t122)))) : Int).toNat).drop ((wrap64 (t123 + 1)) : Int).toNat)).bind fun t132 => (if t130 = t132 then ((slices_Clone_byte_byte.f ((l0.take ((wrap64 ((wrap64 (t123 + 1)) + (wrap64 (t122)))) : Int).toNat).drop ((wrap64 (t123 + 1)) : Int).toNat)).bind fun t134 => ((frame_Size.f kj6 (wrap64 (t122))).bind fun t137 => (some (wrap64 (rd l0 t123), t134, t137, 0)))) else (some (0, ([] : List Int), 0, 2))))) else (none)) else (none)) else (none)) else (none)))))) else (none)) else (none))) = some (r1, r2, r3, r4) := by rw [if_neg (show ¬ (false = true) by decide)] at H; exact H
   clear H
   have H := H1
   clear H1
   by_cases c12 : t123 = (l0.length : Int)
   ·rw [if_pos c12] at H
    have c12b0 : (t123 == (l0.length : Int)) = true := beq_iff_eq.mpr c12
    have c12b1 : (t123 != (l0.length : Int)) = false := bne_eq_false_iff_eq.mpr c12
    clear c12
    simp only [Option.some.injEq, Prod.mk.injEq] at H
    obtain ⟨rfl, rfl, rfl, rfl⟩ := H
    obtain ⟨_, _⟩ := bc2 Aa.out
    obtain ⟨_, _⟩ := bf2 Aa.out
    go_wp2
    refine bodyPost_ret (results_ctt rfl _ _ Af 50 #[.int .i64 0, .slice none 0 0] (0, 0) _ rfl (kX0 Aa.out) Try.underlying50 rfl (by kernel_rfl)) rfl ?_
    exact ⟨_, pX, by first | exact Kd.R_nil _ _ _ _ _ | exact Kd.N_nil _ _ _ _ _ | exact Kd.V_nil _ _ _ _ _ | exact Kd.Q_nil _ _ _ _ _ | exact Kd.S_nil _ _ _ _ _, pE HB.out Ac.out⟩
   rw [if_neg c12] at H
   have c12b0 : (t123 == (l0.length : Int)) = false := beq_eq_false_iff_ne.mpr c12
   have c12b1 : (t123 != (l0.length : Int)) = true := bne_iff_ne.mpr c12
   by_cases c14 : 0 ≤ t123
   rotate_left
   ·rw [if_neg c14] at H
    exact absurd H (by simp)
   rw [if_pos c14] at H
   have c14b0 : decide (0 ≤ t123) = true := decide_eq_true c14
   clear c14
   by_cases c15 : t123 < (l0.length : Int)
   rotate_left
   ·rw [if_neg c15] at H
    exact absurd H (by simp)
   rw [if_pos c15] at H
   have c15b0 : decide (t123 < (l0.length : Int)) = true := decide_eq_true c15
   clear c15
   by_cases c16 : (rd l0 t123) < 1
   ·rw [if_pos c16] at H
    have c16b0 : decide ((rd l0 t123) < 1) = true := decide_eq_true c16
    clear c16
    simp only [Option.some.injEq, Prod.mk.injEq] at H
    obtain ⟨rfl, rfl, rfl, rfl⟩ := H
    have p125 : 0 ≤ (t123 : Int) := of_decide_eq_true pS
    have q125 : t123 < (l0.length : Int) := of_decide_eq_true pS
    obtain ⟨Ae, e125, Ab⟩ := Kd.at_int HR0.out t123 p125 q125
    cases e125
    replace Ab := cU HB.out Ab
    replace p125 := eq_true p125
    replace q125 := eq_true q125
    obtain ⟨_, _⟩ := bc2 Aa.out
    obtain ⟨_, _⟩ := bf2 Aa.out
    go_wp2
    refine bodyPost_ret (results_ctt rfl _ _ Af 50 #[.int .i64 0, .slice none 0 0] (0, 0) _ rfl (kX0 Aa.out) Try.underlying50 rfl (by kernel_rfl)) rfl ?_
    exact ⟨_, pX, by first | exact Kd.R_nil _ _ _ _ _ | exact Kd.N_nil _ _ _ _ _ | exact Kd.V_nil _ _ _ _ _ | exact Kd.Q_nil _ _ _ _ _ | exact Kd.S_nil _ _ _ _ _, pE HB.out Ac.out⟩
   rw [if_neg c16] at H
   have c16b0 : decide ((rd l0 t123) < 1) = false := decide_eq_false c16
   clear c16
   by_cases c18 : (rd l0 t123) > 250
   ·rw [if_pos c18] at H
    have c18b0 : decide (250 < (rd l0 t123)) = true := decide_eq_true c18
    clear c18
    simp only [Option.some.injEq, Prod.mk.injEq] at H
    obtain ⟨rfl, rfl, rfl, rfl⟩ := H
    have p125 : 0 ≤ (t123 : Int) := of_decide_eq_true pS
    have q125 : t123 < (l0.length : Int) := of_decide_eq_true pS
    obtain ⟨Ae, e125, Ab⟩ := Kd.at_int HR0.out t123 p125 q125
    cases e125
    replace Ab := cU HB.out Ab
    replace p125 := eq_true p125
    replace q125 := eq_true q125
    have p126 : 0 ≤ (t123 : Int) := of_decide_eq_true pS
    have q126 : t123 < (l0.length : Int) := of_decide_eq_true pS
    obtain ⟨An, e126, Ad⟩ := Kd.at_int HR0.out t123 p126 q126
    obtain rfl : Ae = An := (by injection e126)
    replace Ad := cU HB.out Ad
    replace p126 := eq_true p126
    replace q126 := eq_true q126
    obtain ⟨_, _⟩ := bc2 Aa.out
    obtain ⟨_, _⟩ := bf2 Aa.out
    go_wp2
    refine bodyPost_ret (results_ctt rfl _ _ Af 50 #[.int .i64 0, .slice none 0 0] (0, 0) _ rfl (kX0 Aa.out) Try.underlying50 rfl (by kernel_rfl)) rfl ?_
    exact ⟨_, pX, by first | exact Kd.R_nil _ _ _ _ _ | exact Kd.N_nil _ _ _ _ _ | exact Kd.V_nil _ _ _ _ _ | exact Kd.Q_nil _ _ _ _ _ | exact Kd.S_nil _ _ _ _ _, pE HB.out Ac.out⟩
   rw [if_neg c18] at H
   have c18b0 : decide (250 < (rd l0 t123)) = false := decide_eq_false c18
   clear c18
   replace H := Option.bind_eq_some_iff.mp H
   obtain ⟨t127, A200, H⟩ := H
   replace H : (if (l0.length : Int) < t127 then (some (0, ([] : List Int), 0, 5)) else (if 0 ≤ (wrap64 (t123 + 1)) then (if (wrap64 (t123 + 1)) ≤ (wrap64 ((wrap64 (t123 + 1)) + (wrap64 (t122)))) then (if (wrap64 ((wrap64 (t123 + 1)) + (wrap64 (t122)))) ≤ (l0.length : Int) then (if 0 ≤ (wrap64 ((wrap64 (t123 + 1)) + (wrap64 (t122)))) then ((frame_sumOf.f (l0.drop ((wrap64 ((wrap64 (t123 + 1)) + (wrap64 (t122)))) : Int).toNat)).bind fun t130 => ((frame_sum.f kj6 (rd l0 t123) ((l0.take ((wrap64 ((wrap64 (t123 + 1)) + (wrap64 (t122)))) : Int).toNat).drop ((wrap64 (t123 + 1)) : Int).toNat)).bind fun t132 => (if t130 = t132 then ((slices_Clone_byte_byte.f ((l0.take ((wrap64 ((wrap64 (t123 + 1)) + (wrap64 (t122)))) : Int).toNat).drop ((wrap64 (t123 + 1)) : Int).toNat)).bind fun t134 => ((frame_Size.f kj6 (wrap64 (t122))).bind fun t137 => (some (wrap64 (rd l0 t123), t134, t137, 0)))) else (some (0, ([] : List Int), 0, 2))))) else (none)) else (none)) else (none)) else (none))) = some (r1, r2, r3, r4) := H
   have A20 := Am A200
   clear A200
   by_cases c21 : (l0.length : Int) < t127
   ·rw [if_pos c21] at H
    have c21b0 : decide ((l0.length : Int) < t127) = true := decide_eq_true c21
    clear c21
    simp only [Option.some.injEq, Prod.mk.injEq] at H
    obtain ⟨rfl, rfl, rfl, rfl⟩ := H
    have p125 : 0 ≤ (t123 : Int) := of_decide_eq_true pS
    have q125 : t123 < (l0.length : Int) := of_decide_eq_true pS
    obtain ⟨Ae, e125, Ab⟩ := Kd.at_int HR0.out t123 p125 q125
    cases e125
    replace Ab := cU HB.out Ab
    replace p125 := eq_true p125
    replace q125 := eq_true q125
    have p126 : 0 ≤ (t123 : Int) := of_decide_eq_true pS
    have q126 : t123 < (l0.length : Int) := of_decide_eq_true pS
    obtain ⟨An, e126, Ad⟩ := Kd.at_int HR0.out t123 p126 q126
    obtain rfl : Ae = An := (by injection e126)
    replace Ad := cU HB.out Ad
    replace p126 := eq_true p126
    replace q126 := eq_true q126
    go_wp2_with (first | ((with_reducible refine gate_callee (f := 37) rfl ?_); refine goesL_ (some 52) rfl rfl Try.func37 (by kernel_rfl) rfl #[.int .i64 (wrap64 (t122))] rfl pL ?_; (with_reducible refine (frame_Size.calls kj6 (wrap64 (t122)) t127 _ A20.out).mono ?_); rintro e w22 ⟨rfl, hb⟩; refine ⟨_, rfl, ?_⟩; replace Aa := kBa Aa hb; replace HB := Am (below_step (pE HB.out Ac.out) hb); (try clear hb); (try clear hb2); (try clear hk); (try clear hi); obtain ⟨_, _⟩ := bc2 Aa.out; obtain ⟨_, _⟩ := bf2 Aa.out))
    refine bodyPost_ret (results_ctt rfl _ _ Af 50 #[.int .i64 0, .slice none 0 0] (0, 0) _ rfl (kX0 Aa.out) Try.underlying50 rfl (by kernel_rfl)) rfl ?_
    exact ⟨_, pX, by first | exact Kd.R_nil _ _ _ _ _ | exact Kd.N_nil _ _ _ _ _ | exact Kd.V_nil _ _ _ _ _ | exact Kd.Q_nil _ _ _ _ _ | exact Kd.S_nil _ _ _ _ _, pE HB.out Ac.out⟩
   rw [if_neg c21] at H
   have c21b0 : decide ((l0.length : Int) < t127) = false := decide_eq_false c21
   clear c21
   obtain ⟨ji24, hji24⟩ : ∃ j_ : Int, (wrap64 (t123 + 1)) = j_ := ⟨_, rfl⟩
   replace H : (if 0 ≤ (ji24) then (if (ji24) ≤ (wrap64 ((ji24) + (wrap64 (t122)))) then (if (wrap64 ((ji24) + (wrap64 (t122)))) ≤ (l0.length : Int) then (if 0 ≤ (wrap64 ((ji24) + (wrap64 (t122)))) then ((frame_sumOf.f (l0.drop ((wrap64 ((ji24) + (wrap64 (t122)))) : Int).toNat)).bind fun t130 => ((frame_sum.f kj6 (rd l0 t123) ((l0.take ((wrap64 ((ji24) + (wrap64 (t122)))) : Int).toNat).drop ((ji24) : Int).toNat)).bind fun t132 => (if t130 = t132 then ((slices_Clone_byte_byte.f ((l0.take ((wrap64 ((ji24) + (wrap64 (t122)))) : Int).toNat).drop ((ji24) : Int).toNat)).bind fun t134 => ((frame_Size.f kj6 (wrap64 (t122))).bind fun t137 => (some (wrap64 (rd l0 t123), t134, t137, 0)))) else (some (0, ([] : List Int), 0, 2))))) else (none)) else (none)) else (none)) else (none)) = some (r1, r2, r3, r4) := by first | (rw [hji24] at H; exact H) | (simp only [hji24] at H ⊢; exact H)
   (try rw [hji24] at A20)
   have hji24w : (IntKind.i64.wrap (t123 + 1)) = ji24 := (i64_w _).trans hji24
   by_cases c25 : 0 ≤ (ji24)
   rotate_left
   ·rw [if_neg c25] at H
    exact absurd H (by simp)
   rw [if_pos c25] at H
   have c25b0 := eq_true c25
   have c25b1 : decide (0 ≤ (ji24)) = true := decide_eq_true c25
   clear c25
   by_cases c26 : (ji24) ≤ (wrap64 ((ji24) + (wrap64 (t122))))
   rotate_left
   ·rw [if_neg c26] at H
    exact absurd H (by simp)
   rw [if_pos c26] at H
   have c26b0 := eq_true c26
   have c26b1 : decide ((ji24) ≤ (wrap64 ((ji24) + (wrap64 (t122))))) = true := decide_eq_true c26
   by_cases c27 : (wrap64 ((ji24) + (wrap64 (t122)))) ≤ (l0.length : Int)
   rotate_left
   ·rw [if_neg c27] at H
    exact absurd H (by simp)
   rw [if_pos c27] at H
   have c27b0 := eq_true c27
   have c27b1 : decide ((wrap64 ((ji24) + (wrap64 (t122)))) ≤ (l0.length : Int)) = true := decide_eq_true c27
   obtain ⟨ji28, hji28⟩ : ∃ j_ : Int, (wrap64 ((ji24) + (wrap64 (t122)))) = j_ := ⟨_, rfl⟩
   replace H : (if 0 ≤ (ji28) then ((frame_sumOf.f (l0.drop ((ji28) : Int).toNat)).bind fun t130 => ((frame_sum.f kj6 (rd l0 t123) ((l0.take ((ji28) : Int).toNat).drop ((ji24) : Int).toNat)).bind fun t132 => (if t130 = t132 then ((slices_Clone_byte_byte.f ((l0.take ((ji28) : Int).toNat).drop ((ji24) : Int).toNat)).bind fun t134 => ((frame_Size.f kj6 (wrap64 (t122))).bind fun t137 => (some (wrap64 (rd l0 t123), t134, t137, 0)))) else (some (0, ([] : List Int), 0, 2))))) else (none)) = some (r1, r2, r3, r4) := by first | (rw [hji28] at H; exact H) | (simp only [hji28] at H ⊢; exact H)
   (try rw [hji28] at c26b0)
   (try rw [hji28] at c26b1)
   (try rw [hji28] at c26)
   (try rw [hji28] at c27b0)
   (try rw [hji28] at c27b1)
   (try rw [hji28] at c27)
   (try rw [hji28] at A20)
   have hji28w : (IntKind.i64.wrap ((ji24) + (wrap64 (t122)))) = ji28 := (i64_w _).trans hji28
   by_cases c29 : 0 ≤ (ji28)
   rotate_left
   ·rw [if_neg c29] at H
    exact absurd H (by simp)
   rw [if_pos c29] at H
   have c29b0 := eq_true c29
   have c29b1 : decide (0 ≤ (ji28)) = true := decide_eq_true c29
   clear c29
   have c30b0 := eq_true (of_decide_eq_true pS : (ji28) ≤ (l0.length : Int))
   replace H := Option.bind_eq_some_iff.mp H
   obtain ⟨t130, A310, H⟩ := H
   replace H : ((frame_sum.f kj6 (rd l0 t123) ((l0.take ((ji28) : Int).toNat).drop ((ji24) : Int).toNat)).bind fun t132 => (if t130 = t132 then ((slices_Clone_byte_byte.f ((l0.take ((ji28) : Int).toNat).drop ((ji24) : Int).toNat)).bind fun t134 => ((frame_Size.f kj6 (wrap64 (t122))).bind fun t137 => (some (wrap64 (rd l0 t123), t134, t137, 0)))) else (some (0, ([] : List Int), 0, 2)))) = some (r1, r2, r3, r4) := H
   have A31 := Am A310
   clear A310
   replace H := Option.bind_eq_some_iff.mp H
   obtain ⟨t132, A320, H⟩ := H
   replace H : (if t130 = t132 then ((slices_Clone_byte_byte.f ((l0.take ((ji28) : Int).toNat).drop ((ji24) : Int).toNat)).bind fun t134 => ((frame_Size.f kj6 (wrap64 (t122))).bind fun t137 => (some (wrap64 (rd l0 t123), t134, t137, 0)))) else (some (0, ([] : List Int), 0, 2))) = some (r1, r2, r3, r4) := H
   have A32 := Am A320
   clear A320
   by_cases c33 : t130 = t132
   rotate_left
   ·rw [if_neg c33] at H
    have c33b0 : (t130 == t132) = false := beq_eq_false_iff_ne.mpr c33
    have c33b1 : (t130 != t132) = true := bne_iff_ne.mpr c33
    simp only [Option.some.injEq, Prod.mk.injEq] at H
    obtain ⟨rfl, rfl, rfl, rfl⟩ := H
    have p125 : 0 ≤ (t123 : Int) := of_decide_eq_true pS
    have q125 : t123 < (l0.length : Int) := of_decide_eq_true pS
    obtain ⟨Ae, e125, Ab⟩ := Kd.at_int HR0.out t123 p125 q125
    cases e125
    replace Ab := cU HB.out Ab
    replace p125 := eq_true p125
    replace q125 := eq_true q125
    have p126 : 0 ≤ (t123 : Int) := of_decide_eq_true pS
    have q126 : t123 < (l0.length : Int) := of_decide_eq_true pS
    obtain ⟨An, e126, Ad⟩ := Kd.at_int HR0.out t123 p126 q126
    obtain rfl : Ae = An := (by injection e126)
    replace Ad := cU HB.out Ad
    replace p126 := eq_true p126
    replace q126 := eq_true q126
    try go_wp2_with (first | ((with_reducible refine gate_callee (f := 37) rfl ?_); refine goesL_ (some 52) rfl rfl Try.func37 (by kernel_rfl) rfl #[.int .i64 (wrap64 (t122))] rfl pL ?_; (with_reducible refine (frame_Size.calls kj6 (wrap64 (t122)) t127 _ A20.out).mono ?_); rintro e w47 ⟨rfl, hb⟩; refine ⟨_, rfl, ?_⟩; replace Aa := kBa Aa hb; replace HB := Am (below_step (pE HB.out Ac.out) hb); (try clear hb); (try clear hb2); (try clear hk); (try clear hi); obtain ⟨i048, hi048, _, Au, _⟩ := info_parts info5; obtain ⟨A48, hcut48, hA48, A5⟩ := print_mid_of (P := Try.prog) (Value.int .u8) 0 22 5 .i64 .i64 Try.underlying22 hi048 Au (some Ae) c0 l0 (ji24) (ji28) (of_decide_eq_true pS) (by first | omega | exact of_decide_eq_true pS) (of_decide_eq_true pS) HC0.out; have HR128 := Am (Kd.C_of_reads (h1 := fun _ => rfl) (hA48 _ (Kd.reads_of_C HR0.out))); have HC128 := Am A5; clear hA48 A5 hi048 Au))
    replace Aa := kDa Aa
    replace HB := bDa HB
    obtain ⟨i050, hi050, _, Av, _⟩ := info_parts info5
    obtain ⟨A50, hcut50, hA50, A7⟩ := print_drop_of (P := Try.prog) (Value.int .u8) 0 22 5 .i64 Try.underlying22 hi050 Av (some Ae) c0 l0 (ji28) (of_decide_eq_true pS) (of_decide_eq_true pS) HC0.out
    have HR129 := Am (Kd.C_of_reads (h1 := fun _ => rfl) (hA50 _ (Kd.reads_of_C HR0.out)))
    have HC129 := Am A7
    clear hA50 A7 hi050 Av
    have p131 : 0 ≤ (t123 : Int) := of_decide_eq_true pS
    have q131 : t123 < (l0.length : Int) := of_decide_eq_true pS
    obtain ⟨Ar, e131, Ag⟩ := Kd.at_int HR0.out t123 p131 q131
    have Aj := Ag
    obtain rfl : Ae = Ar := (by injection e131)
    replace Ag := cU HB.out Ag
    replace p131 := eq_true p131
    replace q131 := eq_true q131
    refine start_ (n := 14) (S := fun w' => w'.cell? (Ae.add (t123).toNat) = some (.int .u8 (rd l0 t123))) (ds := []) #[false, false, false, false, false, false, false, false, false, false, false, false, false, false] (by kernel_rfl) rfl rfl ((cT HB.out Aj)) (fun hHeld => ?_); refine with_tabW frame_First.tab14 frame_First.bits14 (fun HT_ HW_ => ?_)
    generalize w47.drew = w49 at Aa HB HR129 Ag hHeld ⊢
    refine pui 0 63 14 1 HT_ ?_
    refine pui 1 64 14 3 HT_ ?_
    refine pui 2 65 14 7 HT_ ?_
    refine pui 3 66 14 15 HT_ ?_
    refine pui 4 67 14 31 HT_ ?_
    refine pui 5 68 14 63 HT_ ?_
    refine pui 7 70 14 191 HT_ ?_
    refine pui 8 71 14 447 HT_ ?_
    refine pui 9 72 14 959 HT_ ?_
    refine pui 11 74 14 3007 HT_ ?_
    refine take_ (i := 10) (N := some 73) (v := ?_) (a' := ?_) (bw 14 4031) rfl rfl (take_ofW HT_.out HW_.out (by kernel_rfl)) (fun _ _ _ h => h) (Or.inl ⟨by rfl, ?_⟩) hHeld ?_ ?_
    rotate_left
    ·intro w' s0
     go_simp
     with_reducible rfl
    rotate_left
    ·simp only [Act.put, List.setIfInBounds_toArray, List.set_cons_zero, List.set_cons_succ, i64_w, i32_w]
     rfl
    refine onei 6 69 14 4095 HT_ (fun K hK => ?_)
    refine goes_ Try.func38 (by kernel_rfl) rfl #[.slice A50 (l0.drop ((ji28) : Int).toNat).length (c0 - (ji28).toNat)] (by rfl) rfl rfl (by (try simp only [List.map_toArray, List.map_cons, List.map_nil]); first | done | (rw [show (l0.drop ((ji28) : Int).toNat).length = (l0.length - (ji28).toNat) from List.length_drop] <;> rfl) | (simp only [hji28]; rfl) | rfl | (simp only [List.length_drop, List.length_take]; rfl)) ?_
    with_reducible refine (frame_sumOf.calls _ _ (l0.drop ((ji28) : Int).toNat) t130 _ ?Ah ?Ai A31.out).mono ?_
    (case Ah => exact pC (Kd.C_below HR129.out HB.out))
    (case Ai => exact HC129.out)
    rintro e w' ⟨rfl, ⟨nd, rfl⟩⟩
    refine ⟨_, rfl, ?_⟩
    refine hK.out _ _ ((cT HB.out Aj)) (fun hHeld => ?_)
    clear hK K
    refine norm_ (a' := ?_) ?_ ?_
    rotate_left
    ·show Act.put _ (some 69) _ = _
     simp only [Act.put, List.setIfInBounds_toArray, List.set_cons_zero, List.set_cons_succ, i64_w, i32_w]
     rfl
    refine onei 12 75 14 8191 HT_ (fun K hK => ?_)
    refine goes_ Try.func39 (by kernel_rfl) rfl #[.int .u8 (rd l0 t123), .slice A48 ((l0.take ((ji28) : Int).toNat).drop ((ji24) : Int).toNat).length (c0 - (ji24).toNat)] (by rfl) rfl rfl (by (try simp only [List.map_toArray, List.map_cons, List.map_nil]); first | done | (rw [show ((l0.take ((ji28) : Int).toNat).drop ((ji24) : Int).toNat).length = ((ji28).toNat - (ji24).toNat) from (by rw [List.length_drop, List.length_take]; have h_ : ((ji28) : Int) ≤ (l0.length : Int) := of_decide_eq_true pS; omega)] <;> rfl) | (simp only [hji24, hji28]; rfl) | rfl | (simp only [List.length_drop, List.length_take]; rfl)) ?_
    with_reducible refine (frame_sum.calls kj6 (rd l0 t123) _ _ ((l0.take ((ji28) : Int).toNat).drop ((ji24) : Int).toNat) t132 _ ?Ah ?Ai A32.out).mono ?_
    (case Ah => repeat (first | exact (Kd.C_below HR128.out (pE HB.out Ac.out)) | (with_reducible refine Kd.C_alloc ?_ _) | (with_reducible refine Kd.C_drewN ?_ _) | (with_reducible refine Kd.C_drew ?_)))
    (case Ai => exact HC128.out)
    rintro e w51 ⟨rfl, hb⟩
    refine ⟨_, rfl, ?_⟩
    replace Aa := kBa Aa hb
    replace HB := Am (below_step (pE HB.out Ac.out) hb)
    (try clear hb)
    (try clear hb2)
    (try clear hk)
    (try clear hi)
    refine hK.out _ _ ((cT HB.out Aj)) (fun hHeld => ?_)
    clear hK K
    refine norm_ (a' := ?_) ?_ ?_
    rotate_left
    ·show Act.put _ (some 75) _ = _
     simp only [Act.put, List.setIfInBounds_toArray, List.set_cons_zero, List.set_cons_succ, i64_w, i32_w]
     rfl
    refine pui 13 76 14 16383 HT_ ?_
    refine done_ (done_of HT_.out (by kernel_rfl)) ?_
    obtain ⟨_, _⟩ := bc2 Aa.out
    obtain ⟨_, _⟩ := bf2 Aa.out
    try go_wp2
    refine bodyPost_ret (results_ctt rfl _ _ Af 50 #[.int .i64 0, .slice none 0 0] (0, 0) _ rfl (kX0 Aa.out) Try.underlying50 rfl (by kernel_rfl)) rfl ?_
    exact ⟨_, by first | rfl | (simp [errW_none, errW_some] <;> rfl) | (simp only [← hji24, ← hji28]; first | rfl | (simp [errW_none, errW_some] <;> rfl)) | (simp [*, errW_none, errW_some] <;> rfl), by first | exact Kd.R_nil _ _ _ _ _ | exact Kd.N_nil _ _ _ _ _ | exact Kd.V_nil _ _ _ _ _ | exact Kd.Q_nil _ _ _ _ _ | exact Kd.S_nil _ _ _ _ _, pE HB.out Ac.out⟩
   rw [if_pos c33] at H
   have c33b0 : (t130 == t132) = true := beq_iff_eq.mpr c33
   have c33b1 : (t130 != t132) = false := bne_eq_false_iff_eq.mpr c33
   clear c33
   replace H := Option.bind_eq_some_iff.mp H
   obtain ⟨t134, A340, H⟩ := H
   replace H : ((frame_Size.f kj6 (wrap64 (t122))).bind fun t137 => (some (wrap64 (rd l0 t123), t134, t137, 0))) = some (r1, r2, r3, r4) := H
   have A34 := Am A340
   clear A340
   replace H := Option.bind_eq_some_iff.mp H
   obtain ⟨t137, A350, H⟩ := H
   replace H : (some (wrap64 (rd l0 t123), t134, t137, 0)) = some (r1, r2, r3, r4) := H
   have A35 := Am A350
   clear A350
   simp only [Option.some.injEq, Prod.mk.injEq] at H
   obtain ⟨rfl, rfl, rfl, rfl⟩ := H
   have p125 : 0 ≤ (t123 : Int) := of_decide_eq_true pS
   have q125 : t123 < (l0.length : Int) := of_decide_eq_true pS
   obtain ⟨Ae, e125, Ab⟩ := Kd.at_int HR0.out t123 p125 q125
   cases e125
   replace Ab := cU HB.out Ab
   replace p125 := eq_true p125
   replace q125 := eq_true q125
   have p126 : 0 ≤ (t123 : Int) := of_decide_eq_true pS
   have q126 : t123 < (l0.length : Int) := of_decide_eq_true pS
   obtain ⟨An, e126, Ad⟩ := Kd.at_int HR0.out t123 p126 q126
   obtain rfl : Ae = An := (by injection e126)
   replace Ad := cU HB.out Ad
   replace p126 := eq_true p126
   replace q126 := eq_true q126
   try go_wp2_with (first | ((with_reducible refine gate_callee (f := 37) rfl ?_); refine goesL_ (some 52) rfl rfl Try.func37 (by kernel_rfl) rfl #[.int .i64 (wrap64 (t122))] rfl pL ?_; (with_reducible refine (frame_Size.calls kj6 (wrap64 (t122)) t127 _ A20.out).mono ?_); rintro e w36 ⟨rfl, hb⟩; refine ⟨_, rfl, ?_⟩; replace Aa := kBa Aa hb; replace HB := Am (below_step (pE HB.out Ac.out) hb); (try clear hb); (try clear hb2); (try clear hk); (try clear hi); obtain ⟨i037, hi037, _, As, _⟩ := info_parts info5; obtain ⟨A37, hcut37, hA37, A1⟩ := print_mid_of (P := Try.prog) (Value.int .u8) 0 22 5 .i64 .i64 Try.underlying22 hi037 As (some Ae) c0 l0 (ji24) (ji28) (of_decide_eq_true pS) (by first | omega | exact of_decide_eq_true pS) (of_decide_eq_true pS) HC0.out; have HR128 := Am (Kd.C_of_reads (h1 := fun _ => rfl) (hA37 _ (Kd.reads_of_C HR0.out))); have HC128 := Am A1; clear hA37 A1 hi037 As))
   replace Aa := kDa Aa
   replace HB := bDa HB
   obtain ⟨i039, hi039, _, At, _⟩ := info_parts info5
   obtain ⟨A39, hcut39, hA39, A3⟩ := print_drop_of (P := Try.prog) (Value.int .u8) 0 22 5 .i64 Try.underlying22 hi039 At (some Ae) c0 l0 (ji28) (of_decide_eq_true pS) (of_decide_eq_true pS) HC0.out
   have HR129 := Am (Kd.C_of_reads (h1 := fun _ => rfl) (hA39 _ (Kd.reads_of_C HR0.out)))
   have HC129 := Am A3
   clear hA39 A3 hi039 At
   have p131 : 0 ≤ (t123 : Int) := of_decide_eq_true pS
   have q131 : t123 < (l0.length : Int) := of_decide_eq_true pS
   obtain ⟨Ar, e131, Ag⟩ := Kd.at_int HR0.out t123 p131 q131
   have Aj := Ag
   obtain rfl : Ae = Ar := (by injection e131)
   replace Ag := cU HB.out Ag
   replace p131 := eq_true p131
   replace q131 := eq_true q131
   refine start_ (n := 14) (S := fun w' => w'.cell? (Ae.add (t123).toNat) = some (.int .u8 (rd l0 t123))) (ds := []) #[false, false, false, false, false, false, false, false, false, false, false, false, false, false] (by kernel_rfl) rfl rfl ((cT HB.out Aj)) (fun hHeld => ?_); refine with_tabW frame_First.tab14 frame_First.bits14 (fun HT_ HW_ => ?_)
   generalize w36.drew = w38 at Aa HB HR129 Ag hHeld ⊢
   refine pui 0 63 14 1 HT_ ?_
   refine pui 1 64 14 3 HT_ ?_
   refine pui 2 65 14 7 HT_ ?_
   refine pui 3 66 14 15 HT_ ?_
   refine pui 4 67 14 31 HT_ ?_
   refine pui 5 68 14 63 HT_ ?_
   refine pui 7 70 14 191 HT_ ?_
   refine pui 8 71 14 447 HT_ ?_
   refine pui 9 72 14 959 HT_ ?_
   refine pui 11 74 14 3007 HT_ ?_
   refine take_ (i := 10) (N := some 73) (v := ?_) (a' := ?_) (bw 14 4031) rfl rfl (take_ofW HT_.out HW_.out (by kernel_rfl)) (fun _ _ _ h => h) (Or.inl ⟨by rfl, ?_⟩) hHeld ?_ ?_
   rotate_left
   ·intro w' s0
    go_simp
    with_reducible rfl
   rotate_left
   ·simp only [Act.put, List.setIfInBounds_toArray, List.set_cons_zero, List.set_cons_succ, i64_w, i32_w]
    rfl
   refine onei 6 69 14 4095 HT_ (fun K hK => ?_)
   refine goes_ Try.func38 (by kernel_rfl) rfl #[.slice A39 (l0.drop ((ji28) : Int).toNat).length (c0 - (ji28).toNat)] (by rfl) rfl rfl (by (try simp only [List.map_toArray, List.map_cons, List.map_nil]); first | done | (rw [show (l0.drop ((ji28) : Int).toNat).length = (l0.length - (ji28).toNat) from List.length_drop] <;> rfl) | (simp only [hji28]; rfl) | rfl | (simp only [List.length_drop, List.length_take]; rfl)) ?_
   with_reducible refine (frame_sumOf.calls _ _ (l0.drop ((ji28) : Int).toNat) t130 _ ?Ah ?Ai A31.out).mono ?_
   (case Ah => exact pC (Kd.C_below HR129.out HB.out))
   (case Ai => exact HC129.out)
   rintro e w' ⟨rfl, ⟨nd, rfl⟩⟩
   refine ⟨_, rfl, ?_⟩
   refine hK.out _ _ ((cT HB.out Aj)) (fun hHeld => ?_)
   clear hK K
   refine norm_ (a' := ?_) ?_ ?_
   rotate_left
   ·show Act.put _ (some 69) _ = _
    simp only [Act.put, List.setIfInBounds_toArray, List.set_cons_zero, List.set_cons_succ, i64_w, i32_w]
    rfl
   refine onei 12 75 14 8191 HT_ (fun K hK => ?_)
   refine goes_ Try.func39 (by kernel_rfl) rfl #[.int .u8 (rd l0 t123), .slice A37 ((l0.take ((ji28) : Int).toNat).drop ((ji24) : Int).toNat).length (c0 - (ji24).toNat)] (by rfl) rfl rfl (by (try simp only [List.map_toArray, List.map_cons, List.map_nil]); first | done | (rw [show ((l0.take ((ji28) : Int).toNat).drop ((ji24) : Int).toNat).length = ((ji28).toNat - (ji24).toNat) from (by rw [List.length_drop, List.length_take]; have h_ : ((ji28) : Int) ≤ (l0.length : Int) := of_decide_eq_true pS; omega)] <;> rfl) | (simp only [hji24, hji28]; rfl) | rfl | (simp only [List.length_drop, List.length_take]; rfl)) ?_
   with_reducible refine (frame_sum.calls kj6 (rd l0 t123) _ _ ((l0.take ((ji28) : Int).toNat).drop ((ji24) : Int).toNat) t132 _ ?Ah ?Ai A32.out).mono ?_
   (case Ah => repeat (first | exact (Kd.C_below HR128.out (pE HB.out Ac.out)) | (with_reducible refine Kd.C_alloc ?_ _) | (with_reducible refine Kd.C_drewN ?_ _) | (with_reducible refine Kd.C_drew ?_)))
   (case Ai => exact HC128.out)
   rintro e w40 ⟨rfl, hb⟩
   refine ⟨_, rfl, ?_⟩
   replace Aa := kBa Aa hb
   replace HB := Am (below_step (pE HB.out Ac.out) hb)
   (try clear hb)
   (try clear hb2)
   (try clear hk)
   (try clear hi)
   refine hK.out _ _ ((cT HB.out Aj)) (fun hHeld => ?_)
   clear hK K
   refine norm_ (a' := ?_) ?_ ?_
   rotate_left
   ·show Act.put _ (some 75) _ = _
    simp only [Act.put, List.setIfInBounds_toArray, List.set_cons_zero, List.set_cons_succ, i64_w, i32_w]
    rfl
   refine pui 13 76 14 16383 HT_ ?_
   refine done_ (done_of HT_.out (by kernel_rfl)) ?_
   try go_wp2
   replace Aa := kDa Aa
   replace HB := bDa HB
   have p133 : 0 ≤ (t123 : Int) := of_decide_eq_true pS
   have q133 : t123 < (l0.length : Int) := of_decide_eq_true pS
   obtain ⟨A8, e133, Ak⟩ := Kd.at_int HR0.out t123 p133 q133
   have Al := Ak
   obtain rfl : Ae = A8 := (by injection e133)
   replace Ak := cU HB.out Ak
   replace p133 := eq_true p133
   replace q133 := eq_true q133
   refine start_ (n := 13) (S := fun w' => w'.cell? (Ae.add (t123).toNat) = some (.int .u8 (rd l0 t123))) (ds := []) #[false, false, false, false, false, false, false, false, false, false, false, false, false] (by kernel_rfl) rfl rfl ((cT HB.out Al)) (fun hHeld => ?_); refine with_tabW frame_First.tab16 frame_First.bits16 (fun HT_ HW_ => ?_)
   generalize w40.drew = w41 at Aa HB Ak hHeld ⊢
   refine pui 0 78 13 1 HT_ ?_
   refine pui 1 79 13 3 HT_ ?_
   refine pui 2 80 13 7 HT_ ?_
   refine pui 5 83 13 39 HT_ ?_
   refine pui 8 86 13 295 HT_ ?_
   refine take_ (i := 3) (N := some 81) (v := ?_) (a' := ?_) (bw 13 303) rfl rfl (take_ofW HT_.out HW_.out (by kernel_rfl)) (fun _ _ _ h => h) (Or.inl ⟨by rfl, ?_⟩) hHeld ?_ ?_
   rotate_left
   ·intro w' s0
    go_simp
    with_reducible rfl
   rotate_left
   ·simp only [Act.put, List.setIfInBounds_toArray, List.set_cons_zero, List.set_cons_succ, i64_w, i32_w]
    rfl
   refine pui 4 82 13 319 HT_ ?_
   refine onei 6 84 13 383 HT_ (fun K hK => ?_)
   refine goes_ Try.func40 (by kernel_rfl) rfl #[.slice A37 ((l0.take ((ji28) : Int).toNat).drop ((ji24) : Int).toNat).length (c0 - (ji24).toNat)] (by rfl) rfl rfl (by (try simp only [List.map_toArray, List.map_cons, List.map_nil]); first | done | (rw [show ((l0.take ((ji28) : Int).toNat).drop ((ji24) : Int).toNat).length = ((ji28).toNat - (ji24).toNat) from (by rw [List.length_drop, List.length_take]; have h_ : ((ji28) : Int) ≤ (l0.length : Int) := of_decide_eq_true pS; omega)] <;> rfl) | (simp only [hji24, hji28]; rfl) | rfl | (simp only [List.length_drop, List.length_take]; rfl)) ?_
   with_reducible refine (slices_Clone_byte_byte.calls _ _ ((l0.take ((ji28) : Int).toNat).drop ((ji24) : Int).toNat) t134 _ ?Ah ?Ai A34.out).mono ?_
   (case Ah => exact pC (Kd.C_below HR128.out HB.out))
   (case Ai => exact HC128.out)
   rintro e w42 ⟨v135, rfl, ho0, hb⟩
   refine ⟨_, rfl, ?_⟩
   have Aq := Am (Kd.R_lower ho0 (below_size (pE HB.out Ac.out)))
   replace Aa := kBa Aa hb
   replace HB := Am (below_step (pE HB.out Ac.out) hb)
   (try clear hb)
   (try clear hb2)
   (try clear hk)
   (try clear hi)
   (try clear ho0)
   obtain ⟨A9, Ba, A4⟩ := Kd.R_slice Aq.out
   (first | subst A4 | (injection A4 with f1_ f2_ f3_; have f4_ := f1_.symm; have f5_ := f3_.symm; clear f1_ f2_ f3_; subst f4_; subst f5_))
   refine hK.out _ _ ((cT HB.out Al)) (fun hHeld => ?_)
   clear hK K
   refine norm_ (a' := ?_) ?_ ?_
   rotate_left
   ·show Act.put _ (some 84) _ = _
    simp only [Act.put, List.setIfInBounds_toArray, List.set_cons_zero, List.set_cons_succ, i64_w, i32_w]
    rfl
   refine pui 7 85 13 511 HT_ ?_
   refine onei 9 87 13 1023 HT_ (fun K hK => ?_)
   refine goes_ Try.func37 (by kernel_rfl) rfl #[.int .i64 (wrap64 (t122))] (by rfl) rfl rfl pL ?_
   with_reducible refine (frame_Size.calls kj6 (wrap64 (t122)) t137 _ A35.out).mono ?_
   rintro e w44 ⟨rfl, hb⟩
   refine ⟨_, rfl, ?_⟩
   replace Aq := bRa Aq hb
   replace Aa := kBa Aa hb
   replace HB := Am (below_step (pE HB.out Ac.out) hb)
   (try clear hb)
   (try clear hb2)
   (try clear hk)
   (try clear hi)
   refine hK.out _ _ ((cT HB.out Al)) (fun hHeld => ?_)
   clear hK K
   refine norm_ (a' := ?_) ?_ ?_
   rotate_left
   ·show Act.put _ (some 87) _ = _
    simp only [Act.put, List.setIfInBounds_toArray, List.set_cons_zero, List.set_cons_succ, i64_w, i32_w]
    rfl
   refine one_ (i := 10) (N := none) (bw 13 2047) rfl rfl (one_of HT_.out (by kernel_rfl)) (by decide) (fun K hK => ?_)
   have hs45 : w44.cell? ⟨Af, 0, none⟩ = some (.int .i64 0) := (blk_cell Aa.out 0).trans rfl
   have hfs45 := blk_frozen Aa.out 0
   have hs46 : w44.cell? ⟨Af, 1, none⟩ = some (.slice none 0 0) := (blk_cell Aa.out 1).trans rfl
   have hfs46 := blk_frozen Aa.out 1
   refine skip_ (w1 := ?_) (by rfl) rfl ?_ ?_
   rotate_left
   ·go_simp
    rfl
   refine hK.out _ _ ((cX1 hHeld (bA Al Ao.out))) (fun hHeld => ?_)
   clear hK K
   refine pui 11 3 13 4095 HT_ ?_
   refine pui 12 4 13 8191 HT_ ?_
   refine done_ (done_of HT_.out (by kernel_rfl)) ?_
   try go_wp2
   refine bodyPost_ret (results_ctt rfl _ _ Af 50 #[.int .i64 (wrap64 (rd l0 t123)), .slice A9 t134.length Ba] (0, 0) _ rfl (kX0 Aa.out) Try.underlying50 rfl (by kernel_rfl)) rfl ?_
   exact ⟨_, by first | rfl | (simp [errW_none, errW_some] <;> rfl) | (simp only [← hji24, ← hji28]; first | rfl | (simp [errW_none, errW_some] <;> rfl)) | (simp [*, errW_none, errW_some] <;> rfl), by (with_reducible repeat (first | apply Kd.R_alloc | apply Kd.R_drewN | apply Kd.R_drew)); exact Kd.R_mono (Rf2 (g := Af) (Kd.R_types Aq.out Aa.out (by decide)) (fun _ hk => hk.2)) (fun _ hk => trivial), pE HB.out Ac.out⟩
end Go.Proofs.Ytjebpaahpehfnaa.PRelayPuts
