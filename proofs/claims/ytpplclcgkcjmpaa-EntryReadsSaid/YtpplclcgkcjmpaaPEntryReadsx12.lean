/- What the law reaches, as plain Lean functions, and that the machine's calls answer just that. -/
import Derived.Test.YtpplclcgkcjmpaaPEntryReadsx0
import Derived.Test.YtpplclcgkcjmpaaPEntryReadsx4
import Derived.Test.YtpplclcgkcjmpaaPEntryReadsx8
import Derived.Test.YtpplclcgkcjmpaaPEntryReadsx9
import Derived.Test.YtpplclcgkcjmpaaPEntryReadsx10
import Derived.Test.YtpplclcgkcjmpaaPEntryReadsx11
namespace Go.Proofs.Ytpplclcgkcjmpaa.PEntryReads
open Go.RowKit Go.Proofs.YtpplclcgkcjmpaaW.PrintWords Go.Proofs.YtpplclcgkcjmpaaW.PrintLast Go.Proofs.YtpplclcgkcjmpaaW.PrintMore
attribute [local go_sem] max2_int min2_int max_two min_two max_three min_three max_four min_four
set_option linter.unusedVariables false
set_option linter.unusedSimpArgs false
attribute [local go_sem] wrap64_l1 wrap64_l2 wrap64_l3 wrap64_l4 wrap64_l5
mutual
def garnerlaw06_EntryReads.j0 : Nat → List (S42) → List Int → Int → Bool → Option (Bool)
 | 0, _, _, _, _ => none
 | k + 1, x0, x1, x2, x27 => if x27 = true then ((garnerlaw06_awake.f k).bind fun t311 => (some t311)) else ((entry_Put.f k x0).bind fun bt312 => ((entry_Get.f k bt312.1).bind fun bt316 => (if bt312.2 = 0 then (if bt316.2 = 0 then ((entry_Same.f k bt316.1 x0).bind fun t320 => (if t320 = true then ((garnerref06_Same.f k bt316.1 x0).bind fun t321 => (if t321 = true then (garnerlaw06_EntryReads.j1 k x1 x2 bt312.1 ((bt312.1.length : Int) == 0)) else (garnerlaw06_EntryReads.j1 k x1 x2 bt312.1 true))) else (garnerlaw06_EntryReads.j1 k x1 x2 bt312.1 true))) else (garnerlaw06_EntryReads.j1 k x1 x2 bt312.1 true)) else (garnerlaw06_EntryReads.j1 k x1 x2 bt312.1 true))))
def garnerlaw06_EntryReads.j1 : Nat → List Int → Int → List Int → Bool → Option (Bool)
 | 0, _, _, _, _ => none
 | k + 1, x1, x2, x7, x61 => if x61 = true then (some false) else ((some (([] : List Int) : List Int)).bind fun y322 => (if y322.length + x7.length < 140737488355328 then ((some (y322 ++ x7 : List Int)).bind fun y325 => (if y325.length + x1.length < 140737488355328 then ((entry_Get.f k (y325 ++ x1)).bind fun bt331 => (if (x7.length : Int) = 0 then (none) else (if 0 ≤ (Int.tmod (wrap64 (x2)) (x7.length : Int)) then (if (Int.tmod (wrap64 (x2)) (x7.length : Int)) ≤ (x7.length : Int) then ((entry_Get.f k (x7.take ((Int.tmod (wrap64 (x2)) (x7.length : Int)) : Int).toNat)).bind fun bt339 => (if ((bt331.2 == 0) == ((x1.length : Int) == 0)) = true then (if bt339.2 = 2 then ((garnerlaw06_awake.f k).bind fun t343 => (some t343)) else (some false)) else (some false))) else (none)) else (none)))) else (none))) else (none)))
end
def garnerlaw06_EntryReads.f (k : Nat) (l0 : List (S42)) (l1 : List Int) (a2 : Int) : Option (Bool) := (garnerlaw06_Light.f k l0).bind fun t309 => (if t309 = true then ((garnerref06_Batch.f k l0).bind fun t310 => (if t310 = true then (garnerlaw06_EntryReads.j0 k l0 l1 a2 (decide ((l1.length : Int) > 1000))) else (garnerlaw06_EntryReads.j0 k l0 l1 a2 true))) else (garnerlaw06_EntryReads.j0 k l0 l1 a2 true))
theorem garnerlaw06_EntryReads.mono_l : ∀ k, (∀ y0 y1 y2 y3, LeO (garnerlaw06_EntryReads.j0 k y0 y1 y2 y3) (garnerlaw06_EntryReads.j0 (k + 1) y0 y1 y2 y3)) ∧ (∀ y0 y1 y2 y3, LeO (garnerlaw06_EntryReads.j1 k y0 y1 y2 y3) (garnerlaw06_EntryReads.j1 (k + 1) y0 y1 y2 y3))
 | 0 => ⟨fun _ _ _ _ r h => by simp [garnerlaw06_EntryReads.j0] at h, fun _ _ _ _ r h => by simp [garnerlaw06_EntryReads.j1] at h⟩
 | k + 1 => by
  obtain ⟨ih0, ih1⟩ := garnerlaw06_EntryReads.mono_l k
  refine ⟨?_, ?_⟩
  ·intro y0 y1 y2 y3
   unfold garnerlaw06_EntryReads.j0
   repeat' first
   | (with_reducible exact ih0 _ _ _ _)
   | (with_reducible exact ih1 _ _ _ _)
   | (with_reducible exact entry_Get.mono _ _)
   | (with_reducible exact entry_Put.mono _ _)
   | (with_reducible exact entry_Same.mono _ _ _)
   | (with_reducible exact garnerlaw06_Light.mono _ _)
   | (with_reducible exact garnerlaw06_awake.mono _)
   | (with_reducible exact garnerref06_Batch.mono _ _)
   | (with_reducible exact garnerref06_Same.mono _ _ _)
   | (with_reducible exact LeO.refl _)
   | (with_reducible exact LeO.none _)
   | (with_reducible refine LeO.ite ?_ ?_)
   | (with_reducible refine LeO.bind ?_ (fun _ => ?_))
   | exact ih0 _ _ _ _
   | exact ih1 _ _ _ _
   | exact entry_Get.mono _ _
   | exact entry_Put.mono _ _
   | exact entry_Same.mono _ _ _
   | exact garnerlaw06_Light.mono _ _
   | exact garnerlaw06_awake.mono _
   | exact garnerref06_Batch.mono _ _
   | exact garnerref06_Same.mono _ _ _
   | exact LeO.none _
   | refine LeO.ite ?_ ?_
   | refine LeO.bind ?_ (fun _ => ?_)
  ·intro y0 y1 y2 y3
   unfold garnerlaw06_EntryReads.j1
   repeat' first
   | (with_reducible exact ih0 _ _ _ _)
   | (with_reducible exact ih1 _ _ _ _)
   | (with_reducible exact entry_Get.mono _ _)
   | (with_reducible exact entry_Put.mono _ _)
   | (with_reducible exact entry_Same.mono _ _ _)
   | (with_reducible exact garnerlaw06_Light.mono _ _)
   | (with_reducible exact garnerlaw06_awake.mono _)
   | (with_reducible exact garnerref06_Batch.mono _ _)
   | (with_reducible exact garnerref06_Same.mono _ _ _)
   | (with_reducible exact LeO.refl _)
   | (with_reducible exact LeO.none _)
   | (with_reducible refine LeO.ite ?_ ?_)
   | (with_reducible refine LeO.bind ?_ (fun _ => ?_))
   | exact ih0 _ _ _ _
   | exact ih1 _ _ _ _
   | exact entry_Get.mono _ _
   | exact entry_Put.mono _ _
   | exact entry_Same.mono _ _ _
   | exact garnerlaw06_Light.mono _ _
   | exact garnerlaw06_awake.mono _
   | exact garnerref06_Batch.mono _ _
   | exact garnerref06_Same.mono _ _ _
   | exact LeO.none _
   | refine LeO.ite ?_ ?_
   | refine LeO.bind ?_ (fun _ => ?_)
theorem garnerlaw06_EntryReads.mono : ∀ a0 a1 a2 k, LeO (garnerlaw06_EntryReads.f k a0 a1 a2) (garnerlaw06_EntryReads.f (k + 1) a0 a1 a2) := by
 intro a0 a1 a2 k
 obtain ⟨ih0, ih1⟩ := garnerlaw06_EntryReads.mono_l k
 unfold garnerlaw06_EntryReads.f
 repeat' first
   | (with_reducible exact ih0 _ _ _ _)
   | (with_reducible exact ih1 _ _ _ _)
   | (with_reducible exact entry_Get.mono _ _)
   | (with_reducible exact entry_Put.mono _ _)
   | (with_reducible exact entry_Same.mono _ _ _)
   | (with_reducible exact garnerlaw06_Light.mono _ _)
   | (with_reducible exact garnerlaw06_awake.mono _)
   | (with_reducible exact garnerref06_Batch.mono _ _)
   | (with_reducible exact garnerref06_Same.mono _ _ _)
   | (with_reducible exact LeO.refl _)
   | (with_reducible exact LeO.none _)
   | (with_reducible refine LeO.ite ?_ ?_)
   | (with_reducible refine LeO.bind ?_ (fun _ => ?_))
   | exact ih0 _ _ _ _
   | exact ih1 _ _ _ _
   | exact entry_Get.mono _ _
   | exact entry_Put.mono _ _
   | exact entry_Same.mono _ _ _
   | exact garnerlaw06_Light.mono _ _
   | exact garnerlaw06_awake.mono _
   | exact garnerref06_Batch.mono _ _
   | exact garnerref06_Same.mono _ _ _
   | exact LeO.none _
   | refine LeO.ite ?_ ?_
   | refine LeO.bind ?_ (fun _ => ?_)
set_option maxHeartbeats 8000000 in
set_option maxRecDepth 100000 in
theorem garnerlaw06_EntryReads.calls (k : Nat) (A0 : Option Addr) (c0 : Nat) (l0 : List (S42)) (A1 : Option Addr) (c1 : Nat) (l1 : List Int) (a2 : Int) (r : Bool) (w : World) (hr0 : Kd.C k42 w A0 l0.length l0) (hc0 : l0.length ≤ c0) (hr1 : Kd.C (Kd.int .u8) w A1 l1.length l1) (hc1 : l1.length ≤ c1) (h : garnerlaw06_EntryReads.f k l0 l1 a2 = some r) :
  Calls Try.prog 4 #[.slice A0 l0.length c0, .slice A1 l1.length c1, .int .u16 a2] w fun e w' => e = .returned (.bool r) ∧ Below w.heap.size w w' := by
 have HR0 := Am hr0
 have HC0 := Am hc0
 clear hr0 hc0
 have HR1 := Am hr1
 have HC1 := Am hc1
 clear hr1 hc1
 have HB := Am (Below.refl w.heap.size w)
 have H : ((garnerlaw06_Light.f k l0).bind fun t309 => (if t309 = true then ((garnerref06_Batch.f k l0).bind fun t310 => (if t310 = true then (garnerlaw06_EntryReads.j0 k l0 l1 a2 (decide ((l1.length : Int) > 1000))) else (garnerlaw06_EntryReads.j0 k l0 l1 a2 true))) else (garnerlaw06_EntryReads.j0 k l0 l1 a2 true))) = some r := h
 clear h
 have HC4 := Am H
 clear H
 go_enter Try.func4, Try.ntmps4
 go_upto_region 1 with (fail)
 go_cut [27] (fun v27 wc => ∃ (kq : Nat) (Ap : Bool), v27 = .bool Ap ∧ Aside0 (garnerlaw06_EntryReads.j0 kq l0 l1 a2 Ap = some r) ∧ Aside0 (kq ≤ k) ∧ Aside0 (Below w.heap.size w wc))
 case first =>
  have H := HC4.out
  clear HC4
  replace H := Option.bind_eq_some_iff.mp H
  obtain ⟨t309, A50, H⟩ := H
  replace H : (if t309 = true then ((garnerref06_Batch.f k l0).bind fun t310 => (if t310 = true then (garnerlaw06_EntryReads.j0 k l0 l1 a2 (decide ((l1.length : Int) > 1000))) else (garnerlaw06_EntryReads.j0 k l0 l1 a2 true))) else (garnerlaw06_EntryReads.j0 k l0 l1 a2 true)) = some r := H
  have A5 := Am A50
  clear A50
  by_cases c6 : t309 = true
  rotate_left
  ·replace c6 := Bool.eq_false_iff.mpr c6
   subst c6
   have H1 : (garnerlaw06_EntryReads.j0 k l0 l1 a2 true) = some r := by rw [if_neg (show ¬ (false = true) by decide)] at H; exact H
   clear H
   have H := H1
   clear H1
   have H' := Am H
   clear H
   go_wp2_with (first | ((with_reducible refine gate_callee (f := 9) rfl ?_); refine goesL_ (some 16) rfl rfl Try.func9 (by kernel_rfl) rfl #[.slice A0 l0.length c0] rfl pL ?_; (with_reducible refine (garnerlaw06_Light.calls k _ _ l0 false _ ?Ab ?Ac A5.out).mono ?_); (case Ab => exact pC (Kd.C_below HR0.out HB.out)); (case Ac => exact HC0.out); rintro e w' ⟨rfl, ⟨nd, rfl⟩⟩; refine ⟨_, rfl, ?_⟩))
   go_meet
   case rel => exact ⟨_, (true), (by first | rfl | (simp; done) | (simp [*]; done)), H', ⟨by first | omega | exact Nat.le_refl _⟩, ⟨pB HB.out⟩⟩
  subst c6
  have H1 : ((garnerref06_Batch.f k l0).bind fun t310 => (if t310 = true then (garnerlaw06_EntryReads.j0 k l0 l1 a2 (decide ((l1.length : Int) > 1000))) else (garnerlaw06_EntryReads.j0 k l0 l1 a2 true))) = some r := by rw [if_pos rfl] at H; exact H
  clear H
  have H := H1
  clear H1
  replace H := Option.bind_eq_some_iff.mp H
  obtain ⟨t310, A70, H⟩ := H
  replace H : (if t310 = true then (garnerlaw06_EntryReads.j0 k l0 l1 a2 (decide ((l1.length : Int) > 1000))) else (garnerlaw06_EntryReads.j0 k l0 l1 a2 true)) = some r := H
  have A7 := Am A70
  clear A70
  by_cases c8 : t310 = true
  ·subst c8
   have H1 : (garnerlaw06_EntryReads.j0 k l0 l1 a2 (decide ((l1.length : Int) > 1000))) = some r := by rw [if_pos rfl] at H; exact H
   clear H
   have H := H1
   clear H1
   have H' := Am H
   clear H
   go_wp2_with (first | ((with_reducible refine gate_callee (f := 9) rfl ?_); refine goesL_ (some 16) rfl rfl Try.func9 (by kernel_rfl) rfl #[.slice A0 l0.length c0] rfl pL ?_; (with_reducible refine (garnerlaw06_Light.calls k _ _ l0 true _ ?Ab ?Ac A5.out).mono ?_); (case Ab => exact pC (Kd.C_below HR0.out HB.out)); (case Ac => exact HC0.out); rintro e w' ⟨rfl, ⟨nd, rfl⟩⟩; refine ⟨_, rfl, ?_⟩) | (go_at_call 10; (with_reducible refine (garnerref06_Batch.calls k _ _ l0 true _ ?Ab ?Ac A7.out).mono ?_); (case Ab => repeat (first | exact (Kd.C_below HR0.out (pB HB.out)) | (with_reducible refine Kd.C_alloc ?_ _) | (with_reducible refine Kd.C_drewN ?_ _) | (with_reducible refine Kd.C_drew ?_))); (case Ac => exact HC0.out); rintro e w9 ⟨rfl, hb⟩; replace HB := Am (below_step (pB HB.out) hb); (try clear hb); (try clear hb2); (try clear hk); (try clear hi)))
   go_meet
   case rel => exact ⟨_, (decide ((l1.length : Int) > 1000)), (by first | rfl | (simp; done) | (simp [*]; done)), H', ⟨by first | omega | exact Nat.le_refl _⟩, ⟨pB HB.out⟩⟩
  replace c8 := Bool.eq_false_iff.mpr c8
  subst c8
  have H1 : (garnerlaw06_EntryReads.j0 k l0 l1 a2 true) = some r := by rw [if_neg (show ¬ (false = true) by decide)] at H; exact H
  clear H
  have H := H1
  clear H1
  have H' := Am H
  clear H
  go_wp2_with (first | ((with_reducible refine gate_callee (f := 9) rfl ?_); refine goesL_ (some 16) rfl rfl Try.func9 (by kernel_rfl) rfl #[.slice A0 l0.length c0] rfl pL ?_; (with_reducible refine (garnerlaw06_Light.calls k _ _ l0 true _ ?Ab ?Ac A5.out).mono ?_); (case Ab => exact pC (Kd.C_below HR0.out HB.out)); (case Ac => exact HC0.out); rintro e w' ⟨rfl, ⟨nd, rfl⟩⟩; refine ⟨_, rfl, ?_⟩) | (go_at_call 10; (with_reducible refine (garnerref06_Batch.calls k _ _ l0 false _ ?Ab ?Ac A7.out).mono ?_); (case Ab => repeat (first | exact (Kd.C_below HR0.out (pB HB.out)) | (with_reducible refine Kd.C_alloc ?_ _) | (with_reducible refine Kd.C_drewN ?_ _) | (with_reducible refine Kd.C_drew ?_))); (case Ac => exact HC0.out); rintro e w10 ⟨rfl, hb⟩; replace HB := Am (below_step (pB HB.out) hb); (try clear hb); (try clear hb2); (try clear hk); (try clear hi)))
  go_meet
  case rel => exact ⟨_, (true), (by first | rfl | (simp; done) | (simp [*]; done)), H', ⟨by first | omega | exact Nat.le_refl _⟩, ⟨pB HB.out⟩⟩
 case rest =>
  clear HC4
  try clear c1
  try clear p2
  try clear c4
  try clear c6
  try clear c8
  try clear c9
  obtain ⟨kq, Ap, rfl, HA, HJ3, HB⟩ := hcut
  cases kq with
  | zero => exact absurd HA.out (by simp [garnerlaw06_EntryReads.j0])
  | succ kj3 =>
   have H := HA.out
   clear HA
   simp only [garnerlaw06_EntryReads.j0] at H
   by_cases c11 : Ap = true
   ·subst c11
    have H1 : ((garnerlaw06_awake.f kj3).bind fun t311 => (some t311)) = some r := by rw [if_pos rfl] at H; exact H
    clear H
    have H := H1
    clear H1
    replace H := Option.bind_eq_some_iff.mp H
    obtain ⟨t311, A120, H⟩ := H
    replace H : (some t311) = some r := H
    have A12 := Am A120
    clear A120
    obtain rfl := Option.some.inj H
    go_wp2_with (first | ((with_reducible refine gate_callee (f := 5) rfl ?_); refine goesL_ (some 28) rfl rfl Try.func5 (by kernel_rfl) rfl #[] rfl pL ?_; (with_reducible refine (garnerlaw06_awake.calls kj3  t311 _ A12.out).mono ?_); rintro e w13 ⟨rfl, hb⟩; refine ⟨_, rfl, ?_⟩; replace HB := Am (below_step (pB HB.out) hb); (try clear hb); (try clear hb2); (try clear hk); (try clear hi)))
    go_ret
    exact ⟨pX, pB HB.out⟩
   replace c11 := Bool.eq_false_iff.mpr c11
   subst c11
   have H1 : ((entry_Put.f kj3 l0).bind fun bt312 => ((entry_Get.f kj3 bt312.1).bind fun bt316 => (if bt312.2 = 0 then (if bt316.2 = 0 then ((entry_Same.f kj3 bt316.1 l0).bind fun t320 => (if t320 = true then ((garnerref06_Same.f kj3 bt316.1 l0).bind fun t321 => (if t321 = true then (garnerlaw06_EntryReads.j1 kj3 l1 a2 bt312.1 ((bt312.1.length : Int) == 0)) else (garnerlaw06_EntryReads.j1 kj3 l1 a2 bt312.1 true))) else (garnerlaw06_EntryReads.j1 kj3 l1 a2 bt312.1 true))) else (garnerlaw06_EntryReads.j1 kj3 l1 a2 bt312.1 true)) else (garnerlaw06_EntryReads.j1 kj3 l1 a2 bt312.1 true)))) = some r := by rw [if_neg (show ¬ (false = true) by decide)] at H; exact H
   clear H
   have H := H1
   clear H1
   replace H := Option.bind_eq_some_iff.mp H
   obtain ⟨⟨t312, t313⟩, A140, H⟩ := H
   replace H : ((entry_Get.f kj3 t312).bind fun bt316 => (if t313 = 0 then (if bt316.2 = 0 then ((entry_Same.f kj3 bt316.1 l0).bind fun t320 => (if t320 = true then ((garnerref06_Same.f kj3 bt316.1 l0).bind fun t321 => (if t321 = true then (garnerlaw06_EntryReads.j1 kj3 l1 a2 t312 ((t312.length : Int) == 0)) else (garnerlaw06_EntryReads.j1 kj3 l1 a2 t312 true))) else (garnerlaw06_EntryReads.j1 kj3 l1 a2 t312 true))) else (garnerlaw06_EntryReads.j1 kj3 l1 a2 t312 true)) else (garnerlaw06_EntryReads.j1 kj3 l1 a2 t312 true))) = some r := H
   have A14 := Am A140
   clear A140
   replace H := Option.bind_eq_some_iff.mp H
   obtain ⟨⟨t316, t317⟩, A150, H⟩ := H
   replace H : (if t313 = 0 then (if t317 = 0 then ((entry_Same.f kj3 t316 l0).bind fun t320 => (if t320 = true then ((garnerref06_Same.f kj3 t316 l0).bind fun t321 => (if t321 = true then (garnerlaw06_EntryReads.j1 kj3 l1 a2 t312 ((t312.length : Int) == 0)) else (garnerlaw06_EntryReads.j1 kj3 l1 a2 t312 true))) else (garnerlaw06_EntryReads.j1 kj3 l1 a2 t312 true))) else (garnerlaw06_EntryReads.j1 kj3 l1 a2 t312 true)) else (garnerlaw06_EntryReads.j1 kj3 l1 a2 t312 true)) = some r := H
   have A15 := Am A150
   clear A150
   have HC16 := Am H
   clear H
   go_upto_region 5 with (first | ((with_reducible refine gate_callee (f := 11) rfl ?_); refine goesL_ (some 31) rfl rfl Try.func11 (by kernel_rfl) rfl #[.slice A0 l0.length c0] rfl pL ?_; (with_reducible refine (entry_Put.calls kj3 _ _ l0 t312 t313 _ ?Ab ?Ac A14.out).mono ?_); (case Ab => exact pC (Kd.C_below HR0.out HB.out)); (case Ac => exact HC0.out); rintro e w17 ⟨v314, rfl, ho0, hb⟩; refine ⟨_, rfl, ?_⟩; have Af := Am (Kd.R_lower ho0 (below_size (pB HB.out))); replace HB := Am (below_step (pB HB.out) hb); (try clear hb); (try clear hb2); (try clear hk); (try clear hi); (try clear ho0); obtain ⟨Ai, Ag, Ba⟩ := Kd.R_slice Af.out; subst Ba) | ((with_reducible refine gate_callee (f := 6) rfl ?_); refine goesL_ (some 36) rfl rfl Try.func6 (by kernel_rfl) rfl #[.slice Ai t312.length Ag] rfl pL ?_; (with_reducible refine (entry_Get.calls kj3 _ _ t312 t316 t317 _ ?Ab ?Ac A15.out).mono ?_); (case Ab => exact pC (Kd.R_reads' Af.out).2.2); (case Ac => exact (Kd.R_reads' Af.out).2.1); rintro e w19 ⟨v318, rfl, ho0, hb⟩; refine ⟨_, rfl, ?_⟩; have Ae := Am (Kd.S_lower (Kd.S_new' ho0 (Kd.R_lt (pR Af.out))) (below_size (pB HB.out))); replace Af := bRa Af hb; replace HB := Am (below_step (pB HB.out) hb); (try clear hb); (try clear hb2); (try clear hk); (try clear hi); (try clear ho0)))
   (try simp only [Act.put, List.setIfInBounds_toArray, List.set_cons_zero, List.set_cons_succ])
   go_cut [61] (fun v61 wc => ∃ (kq : Nat) (Ao : Bool), v61 = .bool Ao ∧ Aside0 (garnerlaw06_EntryReads.j1 kq l1 a2 t312 Ao = some r) ∧ Aside0 (kq ≤ kj3) ∧ Aside0 (Kd.R (Kd.int .u8) 5 wc w.heap.size (fun _ => True) (.slice Ai t312.length Ag) t312) ∧ Aside0 (Below w.heap.size w wc))
   case first =>
    have H := HC16.out
    clear HC16
    by_cases c20 : t313 = 0
    rotate_left
    ·rw [if_neg c20] at H
     have c20b0 : (t313 == 0) = false := beq_eq_false_iff_ne.mpr c20
     have c20b1 : (t313 != 0) = true := bne_iff_ne.mpr c20
     (first | rw [c20b0] | (simp only [i64_w, i32_w]; rw [c20b0]) | skip)
     have H' := Am H
     clear H
     go_wp2
     go_meet
     case rel => exact ⟨_, (true), (by first | rfl | (simp; done) | (simp [*]; done)), H', ⟨by have := HJ3.out; first | omega | exact Nat.le_refl _⟩, ⟨by (with_reducible repeat (first | apply Kd.R_alloc | apply Kd.R_drewN | apply Kd.R_drew)); exact Af.out⟩, ⟨pB HB.out⟩⟩
    rw [if_pos c20] at H
    have c20b0 : (t313 == 0) = true := beq_iff_eq.mpr c20
    have c20b1 : (t313 != 0) = false := bne_eq_false_iff_eq.mpr c20
    clear c20
    (first | rw [c20b0] | (simp only [i64_w, i32_w]; rw [c20b0]) | skip)
    by_cases c21 : t317 = 0
    rotate_left
    ·rw [if_neg c21] at H
     have c21b0 : (t317 == 0) = false := beq_eq_false_iff_ne.mpr c21
     have c21b1 : (t317 != 0) = true := bne_iff_ne.mpr c21
     have H' := Am H
     clear H
     go_wp2
     go_meet
     case rel => exact ⟨_, (true), (by first | rfl | (simp; done) | (simp [*]; done)), H', ⟨by have := HJ3.out; first | omega | exact Nat.le_refl _⟩, ⟨by (with_reducible repeat (first | apply Kd.R_alloc | apply Kd.R_drewN | apply Kd.R_drew)); exact Af.out⟩, ⟨pB HB.out⟩⟩
    rw [if_pos c21] at H
    have c21b0 : (t317 == 0) = true := beq_iff_eq.mpr c21
    have c21b1 : (t317 != 0) = false := bne_eq_false_iff_eq.mpr c21
    clear c21
    replace H := Option.bind_eq_some_iff.mp H
    obtain ⟨t320, A220, H⟩ := H
    replace H : (if t320 = true then ((garnerref06_Same.f kj3 t316 l0).bind fun t321 => (if t321 = true then (garnerlaw06_EntryReads.j1 kj3 l1 a2 t312 ((t312.length : Int) == 0)) else (garnerlaw06_EntryReads.j1 kj3 l1 a2 t312 true))) else (garnerlaw06_EntryReads.j1 kj3 l1 a2 t312 true)) = some r := H
    have A22 := Am A220
    clear A220
    by_cases c23 : t320 = true
    rotate_left
    ·replace c23 := Bool.eq_false_iff.mpr c23
     subst c23
     have H1 : (garnerlaw06_EntryReads.j1 kj3 l1 a2 t312 true) = some r := by rw [if_neg (show ¬ (false = true) by decide)] at H; exact H
     clear H
     have H := H1
     clear H1
     have H' := Am H
     clear H
     obtain ⟨Ao32, co32, Bd⟩ := Kd.S_slice Ae.out
     subst Bd
     go_wp2_with (first | (go_at_call 12; (with_reducible refine (entry_Same.calls kj3 _ _ t316 _ _ l0 false _ ?Ab ?Ac ?Aj ?Ak A22.out).mono ?_); (case Ab => repeat (first | exact (Kd.S_reads' Ae.out).2.2 | (with_reducible refine Kd.C_alloc ?_ _) | (with_reducible refine Kd.C_drewN ?_ _) | (with_reducible refine Kd.C_drew ?_))); (case Ac => exact (Kd.S_reads' Ae.out).2.1); (case Aj => exact pC (Kd.C_below HR0.out HB.out)); (case Ak => exact HC0.out); rintro e w33 ⟨rfl, hb⟩; replace Af := bRa Af hb; replace Ae := Am (Kd.S_below (by (with_reducible repeat (first | apply Kd.S_alloc | apply Kd.S_drewN | apply Kd.S_drew)); exact Ae.out) hb); replace HB := Am (below_step (pB HB.out) hb); (try clear hb); (try clear hb2); (try clear hk); (try clear hi)))
     go_meet
     case rel => exact ⟨_, (true), (by first | rfl | (simp; done) | (simp [*]; done)), H', ⟨by have := HJ3.out; first | omega | exact Nat.le_refl _⟩, ⟨by (with_reducible repeat (first | apply Kd.R_alloc | apply Kd.R_drewN | apply Kd.R_drew)); exact Af.out⟩, ⟨pB HB.out⟩⟩
    subst c23
    have H1 : ((garnerref06_Same.f kj3 t316 l0).bind fun t321 => (if t321 = true then (garnerlaw06_EntryReads.j1 kj3 l1 a2 t312 ((t312.length : Int) == 0)) else (garnerlaw06_EntryReads.j1 kj3 l1 a2 t312 true))) = some r := by rw [if_pos rfl] at H; exact H
    clear H
    have H := H1
    clear H1
    replace H := Option.bind_eq_some_iff.mp H
    obtain ⟨t321, A240, H⟩ := H
    replace H : (if t321 = true then (garnerlaw06_EntryReads.j1 kj3 l1 a2 t312 ((t312.length : Int) == 0)) else (garnerlaw06_EntryReads.j1 kj3 l1 a2 t312 true)) = some r := H
    have A24 := Am A240
    clear A240
    by_cases c25 : t321 = true
    ·subst c25
     have H1 : (garnerlaw06_EntryReads.j1 kj3 l1 a2 t312 ((t312.length : Int) == 0)) = some r := by rw [if_pos rfl] at H; exact H
     clear H
     have H := H1
     clear H1
     have H' := Am H
     clear H
     obtain ⟨Ao26, co26, Bb⟩ := Kd.S_slice Ae.out
     subst Bb
     go_wp2_with (first | (go_at_call 12; (with_reducible refine (entry_Same.calls kj3 _ _ t316 _ _ l0 true _ ?Ab ?Ac ?Aj ?Ak A22.out).mono ?_); (case Ab => repeat (first | exact (Kd.S_reads' Ae.out).2.2 | (with_reducible refine Kd.C_alloc ?_ _) | (with_reducible refine Kd.C_drewN ?_ _) | (with_reducible refine Kd.C_drew ?_))); (case Ac => exact (Kd.S_reads' Ae.out).2.1); (case Aj => exact pC (Kd.C_below HR0.out HB.out)); (case Ak => exact HC0.out); rintro e w27 ⟨rfl, hb⟩; replace Af := bRa Af hb; replace Ae := Am (Kd.S_below (by (with_reducible repeat (first | apply Kd.S_alloc | apply Kd.S_drewN | apply Kd.S_drew)); exact Ae.out) hb); replace HB := Am (below_step (pB HB.out) hb); (try clear hb); (try clear hb2); (try clear hk); (try clear hi)) | (go_at_call 8; (with_reducible refine (garnerref06_Same.calls kj3 _ _ t316 _ _ l0 true _ ?Ab ?Ac ?Aj ?Ak A24.out).mono ?_); (case Ab => repeat (first | exact (Kd.S_reads' Ae.out).2.2 | (with_reducible refine Kd.C_alloc ?_ _) | (with_reducible refine Kd.C_drewN ?_ _) | (with_reducible refine Kd.C_drew ?_))); (case Ac => exact (Kd.S_reads' Ae.out).2.1); (case Aj => exact pC (Kd.C_below HR0.out HB.out)); (case Ak => exact HC0.out); rintro e w28 ⟨rfl, hb⟩; replace Af := bRa Af hb; replace Ae := Am (Kd.S_below (by (with_reducible repeat (first | apply Kd.S_alloc | apply Kd.S_drewN | apply Kd.S_drew)); exact Ae.out) hb); replace HB := Am (below_step (pB HB.out) hb); (try clear hb); (try clear hb2); (try clear hk); (try clear hi)))
     go_meet
     case rel => exact ⟨_, (((t312.length : Int) == 0)), (by first | rfl | (simp; done) | (simp [*]; done)), H', ⟨by have := HJ3.out; first | omega | exact Nat.le_refl _⟩, ⟨by (with_reducible repeat (first | apply Kd.R_alloc | apply Kd.R_drewN | apply Kd.R_drew)); exact Af.out⟩, ⟨pB HB.out⟩⟩
    replace c25 := Bool.eq_false_iff.mpr c25
    subst c25
    have H1 : (garnerlaw06_EntryReads.j1 kj3 l1 a2 t312 true) = some r := by rw [if_neg (show ¬ (false = true) by decide)] at H; exact H
    clear H
    have H := H1
    clear H1
    have H' := Am H
    clear H
    obtain ⟨Ao29, co29, Bc⟩ := Kd.S_slice Ae.out
    subst Bc
    go_wp2_with (first | (go_at_call 12; (with_reducible refine (entry_Same.calls kj3 _ _ t316 _ _ l0 true _ ?Ab ?Ac ?Aj ?Ak A22.out).mono ?_); (case Ab => repeat (first | exact (Kd.S_reads' Ae.out).2.2 | (with_reducible refine Kd.C_alloc ?_ _) | (with_reducible refine Kd.C_drewN ?_ _) | (with_reducible refine Kd.C_drew ?_))); (case Ac => exact (Kd.S_reads' Ae.out).2.1); (case Aj => exact pC (Kd.C_below HR0.out HB.out)); (case Ak => exact HC0.out); rintro e w30 ⟨rfl, hb⟩; replace Af := bRa Af hb; replace Ae := Am (Kd.S_below (by (with_reducible repeat (first | apply Kd.S_alloc | apply Kd.S_drewN | apply Kd.S_drew)); exact Ae.out) hb); replace HB := Am (below_step (pB HB.out) hb); (try clear hb); (try clear hb2); (try clear hk); (try clear hi)) | (go_at_call 8; (with_reducible refine (garnerref06_Same.calls kj3 _ _ t316 _ _ l0 false _ ?Ab ?Ac ?Aj ?Ak A24.out).mono ?_); (case Ab => repeat (first | exact (Kd.S_reads' Ae.out).2.2 | (with_reducible refine Kd.C_alloc ?_ _) | (with_reducible refine Kd.C_drewN ?_ _) | (with_reducible refine Kd.C_drew ?_))); (case Ac => exact (Kd.S_reads' Ae.out).2.1); (case Aj => exact pC (Kd.C_below HR0.out HB.out)); (case Ak => exact HC0.out); rintro e w31 ⟨rfl, hb⟩; replace Af := bRa Af hb; replace Ae := Am (Kd.S_below (by (with_reducible repeat (first | apply Kd.S_alloc | apply Kd.S_drewN | apply Kd.S_drew)); exact Ae.out) hb); replace HB := Am (below_step (pB HB.out) hb); (try clear hb); (try clear hb2); (try clear hk); (try clear hi)))
    go_meet
    case rel => exact ⟨_, (true), (by first | rfl | (simp; done) | (simp [*]; done)), H', ⟨by have := HJ3.out; first | omega | exact Nat.le_refl _⟩, ⟨by (with_reducible repeat (first | apply Kd.R_alloc | apply Kd.R_drewN | apply Kd.R_drew)); exact Af.out⟩, ⟨pB HB.out⟩⟩
   case rest =>
    clear HC16
    try clear c1
    try clear c2
    try clear p2
    try clear c4
    try clear c5
    try clear c6
    try clear c8
    try clear c9
    try clear c11
    try clear c20
    try clear c20b0
    try clear c20b1
    try clear c21
    try clear c21b0
    try clear c21b1
    try clear c23
    try clear c25
    try clear p2
    obtain ⟨kq, Ao, rfl, HA, HJ15, Aa, HB⟩ := hcut
    cases kq with
    | zero => exact absurd HA.out (by simp [garnerlaw06_EntryReads.j1])
    | succ kj15 =>
     have H := HA.out
     clear HA
     simp only [garnerlaw06_EntryReads.j1] at H
     by_cases c34 : Ao = true
     ·subst c34
      have H1 : (some false) = some r := by rw [if_pos rfl] at H; exact H
      clear H
      have H := H1
      clear H1
      obtain rfl := Option.some.inj H
      go_wp2
      go_ret
      exact ⟨pX, pB HB.out⟩
     replace c34 := Bool.eq_false_iff.mpr c34
     subst c34
     have H1 : ((some (([] : List Int) : List Int)).bind fun y322 => (if y322.length + t312.length < 140737488355328 then ((some (y322 ++ t312 : List Int)).bind fun y325 => (if y325.length + l1.length < 140737488355328 then ((entry_Get.f kj15 (y325 ++ l1)).bind fun bt331 => (if (t312.length : Int) = 0 then (none) else (if 0 ≤ (Int.tmod (wrap64 (a2)) (t312.length : Int)) then (if (Int.tmod (wrap64 (a2)) (t312.length : Int)) ≤ (t312.length : Int) then ((entry_Get.f kj15 (t312.take ((Int.tmod (wrap64 (a2)) (t312.length : Int)) : Int).toNat)).bind fun bt339 => (if ((bt331.2 == 0) == ((l1.length : Int) == 0)) = true then (if bt339.2 = 2 then ((garnerlaw06_awake.f kj15).bind fun t343 => (some t343)) else (some false)) else (some false))) else (none)) else (none)))) else (none))) else (none))) = some r := by rw [if_neg (show ¬ (false = true) by decide)] at H; exact H
     clear H
     have H := H1
     clear H1
     obtain ⟨y322, hy322⟩ : ∃ y_ : List Int, y_ = (([] : List Int)) := ⟨_, rfl⟩
     replace H : (if y322.length + t312.length < 140737488355328 then ((some (y322 ++ t312 : List Int)).bind fun y325 => (if y325.length + l1.length < 140737488355328 then ((entry_Get.f kj15 (y325 ++ l1)).bind fun bt331 => (if (t312.length : Int) = 0 then (none) else (if 0 ≤ (Int.tmod (wrap64 (a2)) (t312.length : Int)) then (if (Int.tmod (wrap64 (a2)) (t312.length : Int)) ≤ (t312.length : Int) then ((entry_Get.f kj15 (t312.take ((Int.tmod (wrap64 (a2)) (t312.length : Int)) : Int).toNat)).bind fun bt339 => (if ((bt331.2 == 0) == ((l1.length : Int) == 0)) = true then (if bt339.2 = 2 then ((garnerlaw06_awake.f kj15).bind fun t343 => (some t343)) else (some false)) else (some false))) else (none)) else (none)))) else (none))) else (none)) = some r := by first | (rw [hy322]; with_reducible exact H) | (have H2_ := (Option.bind_some _ _).symm.trans H; rw [hy322]; with_reducible exact H2_) | (have H2_ := (Option.bind_some _ _).symm.trans H; with_reducible exact H2_) | with_reducible exact H | (rw [hy322]; exact H) | exact H
     have Ny322 := Am hy322
     clear hy322
     by_cases c35 : y322.length + t312.length < 140737488355328
     rotate_left
     ·rw [if_neg c35] at H
      exact absurd H (by simp)
     rw [if_pos c35] at H
     have LMc35 := Am c35
     clear c35
     obtain ⟨y325, hy325⟩ : ∃ y_ : List Int, y_ = (y322 ++ t312) := ⟨_, rfl⟩
     replace H : (if y325.length + l1.length < 140737488355328 then ((entry_Get.f kj15 (y325 ++ l1)).bind fun bt331 => (if (t312.length : Int) = 0 then (none) else (if 0 ≤ (Int.tmod (wrap64 (a2)) (t312.length : Int)) then (if (Int.tmod (wrap64 (a2)) (t312.length : Int)) ≤ (t312.length : Int) then ((entry_Get.f kj15 (t312.take ((Int.tmod (wrap64 (a2)) (t312.length : Int)) : Int).toNat)).bind fun bt339 => (if ((bt331.2 == 0) == ((l1.length : Int) == 0)) = true then (if bt339.2 = 2 then ((garnerlaw06_awake.f kj15).bind fun t343 => (some t343)) else (some false)) else (some false))) else (none)) else (none)))) else (none)) = some r := by first | (rw [hy325]; with_reducible exact H) | (have H2_ := (Option.bind_some _ _).symm.trans H; rw [hy325]; with_reducible exact H2_) | (have H2_ := (Option.bind_some _ _).symm.trans H; with_reducible exact H2_) | with_reducible exact H | (rw [hy325]; exact H) | exact H
     have Ny325 := Am hy325
     clear hy325
     by_cases c36 : y325.length + l1.length < 140737488355328
     rotate_left
     ·rw [if_neg c36] at H
      exact absurd H (by simp)
     rw [if_pos c36] at H
     have LMc36 := Am c36
     clear c36
     obtain ⟨y328, hy328⟩ : ∃ y_ : List Int, y_ = (y325 ++ l1) := ⟨_, rfl⟩
     replace H : ((entry_Get.f kj15 y328).bind fun bt331 => (if (t312.length : Int) = 0 then (none) else (if 0 ≤ (Int.tmod (wrap64 (a2)) (t312.length : Int)) then (if (Int.tmod (wrap64 (a2)) (t312.length : Int)) ≤ (t312.length : Int) then ((entry_Get.f kj15 (t312.take ((Int.tmod (wrap64 (a2)) (t312.length : Int)) : Int).toNat)).bind fun bt339 => (if ((bt331.2 == 0) == ((l1.length : Int) == 0)) = true then (if bt339.2 = 2 then ((garnerlaw06_awake.f kj15).bind fun t343 => (some t343)) else (some false)) else (some false))) else (none)) else (none)))) = some r := by first | (rw [hy328]; with_reducible exact H) | (have H2_ := (Option.bind_some _ _).symm.trans H; rw [hy328]; with_reducible exact H2_) | (have H2_ := (Option.bind_some _ _).symm.trans H; with_reducible exact H2_) | with_reducible exact H | (rw [hy328]; exact H) | exact H
     have Ny328 := Am hy328
     clear hy328
     replace H := Option.bind_eq_some_iff.mp H
     obtain ⟨⟨t331, t332⟩, A370, H⟩ := H
     replace H : (if (t312.length : Int) = 0 then (none) else (if 0 ≤ (Int.tmod (wrap64 (a2)) (t312.length : Int)) then (if (Int.tmod (wrap64 (a2)) (t312.length : Int)) ≤ (t312.length : Int) then ((entry_Get.f kj15 (t312.take ((Int.tmod (wrap64 (a2)) (t312.length : Int)) : Int).toNat)).bind fun bt339 => (if ((t332 == 0) == ((l1.length : Int) == 0)) = true then (if bt339.2 = 2 then ((garnerlaw06_awake.f kj15).bind fun t343 => (some t343)) else (some false)) else (some false))) else (none)) else (none))) = some r := H
     have A37 := Am A370
     clear A370
     by_cases c38 : (t312.length : Int) = 0
     ·rw [if_pos c38] at H
      exact absurd H (by simp)
     rw [if_neg c38] at H
     have c38b0 : ((t312.length : Int) == 0) = false := beq_eq_false_iff_ne.mpr c38
     have c38b1 : ((t312.length : Int) != 0) = true := bne_iff_ne.mpr c38
     have c38b2 : ¬ (t312 = []) := fun h_ => c38 (by rw [h_]; rfl)
     obtain ⟨ji39, hji39⟩ : ∃ j_ : Int, (Int.tmod (wrap64 (a2)) (t312.length : Int)) = j_ := ⟨_, rfl⟩
     replace H : (if 0 ≤ (ji39) then (if (ji39) ≤ (t312.length : Int) then ((entry_Get.f kj15 (t312.take ((ji39) : Int).toNat)).bind fun bt339 => (if ((t332 == 0) == ((l1.length : Int) == 0)) = true then (if bt339.2 = 2 then ((garnerlaw06_awake.f kj15).bind fun t343 => (some t343)) else (some false)) else (some false))) else (none)) else (none)) = some r := by first | (rw [hji39] at H; exact H) | (simp only [hji39] at H ⊢; exact H)
     (try rw [hji39] at A37)
     by_cases c40 : 0 ≤ (ji39)
     rotate_left
     ·rw [if_neg c40] at H
      exact absurd H (by simp)
     rw [if_pos c40] at H
     have c40b0 := eq_true c40
     have c40b1 : decide (0 ≤ (ji39)) = true := decide_eq_true c40
     clear c40
     by_cases c41 : (ji39) ≤ (t312.length : Int)
     rotate_left
     ·rw [if_neg c41] at H
      exact absurd H (by simp)
     rw [if_pos c41] at H
     have c41b0 := eq_true c41
     have c41b1 : decide ((ji39) ≤ (t312.length : Int)) = true := decide_eq_true c41
     clear c41
     obtain ⟨y335, hy335⟩ : ∃ y_ : List Int, y_ = (t312.take ((ji39) : Int).toNat) := ⟨_, rfl⟩
     replace H : ((entry_Get.f kj15 y335).bind fun bt339 => (if ((t332 == 0) == ((l1.length : Int) == 0)) = true then (if bt339.2 = 2 then ((garnerlaw06_awake.f kj15).bind fun t343 => (some t343)) else (some false)) else (some false))) = some r := by first | (rw [hy335]; with_reducible exact H) | (have H2_ := (Option.bind_some _ _).symm.trans H; rw [hy335]; with_reducible exact H2_) | (have H2_ := (Option.bind_some _ _).symm.trans H; with_reducible exact H2_) | with_reducible exact H | (rw [hy335]; exact H) | exact H
     have Ny335 := Am hy335
     clear hy335
     replace H := Option.bind_eq_some_iff.mp H
     obtain ⟨⟨t339, t340⟩, A420, H⟩ := H
     replace H : (if ((t332 == 0) == ((l1.length : Int) == 0)) = true then (if t340 = 2 then ((garnerlaw06_awake.f kj15).bind fun t343 => (some t343)) else (some false)) else (some false)) = some r := H
     have A42 := Am A420
     clear A420
     by_cases c43 : ((t332 == 0) == ((l1.length : Int) == 0)) = true
     rotate_left
     ·rw [if_neg c43] at H
      have c43b0 : ((t332 == 0) == ((l1.length : Int) == 0)) = false := by simpa using c43
      (try (have c43b1 : decide ((t332 == 0) = ((l1.length : Int) == 0)) = false := by simpa using c43))
      (try (have c43b2 : ((t332 == 0) == ((l1.length : Int) == 0)) = false := by simpa using c43))
      (try (have c43b3 : ¬ ((t332 == 0) = ((l1.length : Int) == 0)) := by simpa using c43))
      clear c43
      obtain rfl := Option.some.inj H
      go_wp2_with (first | ((with_reducible refine gate_dst (N := 63) rfl ?_); (try (refine gate_guard (by rfl) ?_; dsimp only)); refine Kd.R_lit (Kd.int .u8) _ 5 ?hg (N := 63) ?hd (xs := ([] : List Int)) (inner := []) (ok := fun _ => True) (okp := fun _ => True) ?hr ?hp (fun _ hk => hk) trivial (Below.refl _ _) (Nat.le_refl _) (by simp) ?_; (case hd => rfl); (case hg => rfl); (case hr => first | (go_simp; done) | (go_simp; rfl)); (case hp => exact (Reps.none _ _)); intro v323 w63 ho64 hb hg_ hnew_; clear hg_ hnew_; (first | rw [← Ny322.out] at ho64 | (simp only [Int.reduceToNat] at ho64; rw [← Ny322.out] at ho64)); have Al := Am (Kd.R_lower (Kd.R_new' ho64 (Kd.R_lt (pR Aa.out))) (below_size (pB HB.out))); replace Aa := Am (Kd.R_elder' (pR Aa.out) (Kd.R_base ho64) hb); replace HB := Am (below_step (pB HB.out) hb); clear hb ho64) | ((with_reducible refine gate_builtin (b := .append) (xs := #[.tmp 63, .tmp 64]) rfl ?_); (try (refine gate_guard (by rfl) ?_; dsimp only)); at_builtin; refine Kd.R_append_rows (Kd.int .u8) (w0 := w) w.heap.size rfl (.tmp 63) (.tmp 64) 22 5 (.int .u8 0) 1 rfl Try.underlying22 info5 rfl (by decide) (by omega) v323 y322 t312 _ _ _ (fun k_ => some k_ ≠ (.slice Ai t312.length Ag : Value).ownBlock) (fun _ => False) rfl rfl ?aO ?aR (fun _ _ h => h) (fun _ h => h.elim) ?aF ?aB ?aS ?aL ?_; (case aR => exact pC (Kd.R_reads' Aa.out).2.2); (case aB => exact (pB HB.out)); (case aF => exact (fun k_ hk => Kd.fresh' (Kd.R_lt (pR Aa.out)) k_ hk)); (case aO => exact (by (with_reducible repeat (first | apply Kd.R_alloc | apply Kd.R_drewN | apply Kd.R_drew)); exact Kd.R_mono Al.out (fun _ hk => hk.2))); (case aS => exact (below_size (pB HB.out))); (case aL => have := LMc35.out; omega); intro v326 w65 ho hb hg hat; rw [← Ny325.out] at ho; replace Aa := Am (Kd.R_after (ok := (fun _ => True)) (pR Aa.out) hg hat); replace HB := Am (hb); have An := Am (ho); clear Al ho hb hg hat) | ((with_reducible refine gate_builtin (b := .append) (xs := #[.tmp 65, .tmp 66]) rfl ?_); (try (refine gate_guard (by rfl) ?_; dsimp only)); at_builtin; refine Kd.R_append_rows (Kd.int .u8) (w0 := w) w.heap.size rfl (.tmp 65) (.tmp 66) 22 5 (.int .u8 0) 1 rfl Try.underlying22 info5 rfl (by decide) (by omega) v326 y325 l1 _ _ _ (fun k_ => some k_ ≠ (.slice Ai t312.length Ag : Value).ownBlock) (fun _ => False) rfl rfl ?aO ?aR (fun _ _ h => h) (fun _ h => h.elim) ?aF ?aB ?aS ?aL ?_; (case aR => exact pC (Kd.C_below HR1.out HB.out)); (case aB => exact (pB HB.out)); (case aF => exact (fun k_ hk => Kd.fresh' (Kd.R_lt (pR Aa.out)) k_ hk)); (case aO => exact (pR An.out)); (case aS => exact (below_size (pB HB.out))); (case aL => have := LMc36.out; omega); intro v329 w66 ho hb hg hat; rw [← Ny328.out] at ho; replace Aa := Am (Kd.R_after (ok := (fun _ => True)) (pR Aa.out) hg hat); replace HB := Am (hb); have Ad := Am (ho); clear An ho hb hg hat; obtain ⟨Bk, Bl, Bm⟩ := Kd.R_slice Ad.out; subst Bm) | ((with_reducible refine gate_callee (f := 6) rfl ?_); refine goesL_ (some 68) rfl rfl Try.func6 (by kernel_rfl) rfl #[.slice Bk y328.length Bl] rfl pL ?_; (with_reducible refine (entry_Get.calls kj15 _ _ y328 t331 t332 _ ?Ab ?Ac A37.out).mono ?_); (case Ab => exact pC (Kd.R_reads' Ad.out).2.2); (case Ac => exact (Kd.R_reads' Ad.out).2.1); rintro e w68 ⟨v333, rfl, ho0, hb⟩; refine ⟨_, rfl, ?_⟩; have Ah := Am (Kd.S_lower (Kd.S_new' (Kd.S_new' ho0 (Kd.R_lt (pR Aa.out))) (Kd.R_lt (pR Ad.out))) (below_size (pB HB.out))); replace Aa := bRa Aa hb; replace Ad := bRa Ad hb; replace HB := Am (below_step (pB HB.out) hb); (try clear hb); (try clear hb2); (try clear hk); (try clear hi); (try clear ho0); have q69 : ((ji39) : Int) ≤ ((t312.length : Int) : Int) := of_decide_eq_true pS; obtain ⟨i069, hi069, _, A9, _⟩ := info_parts info5; have At : t312.length ≤ Ag := (Kd.R_reads' Aa.out).2.1; have A4 : Kd.C (Kd.int .u8) _ Ai t312.length t312 := (Kd.R_reads' Aa.out).2.2; have Az := cut_to (P := Try.prog) 22 5 .i64 Try.underlying22 hi069 Ai t312.length Ag (ji39) (of_decide_eq_true pS) q69 At; have Aw := Kd.C_take (m := ((ji39) : Int).toNat) A4 (by omega); have hy69 : y335.length = ((ji39) : Int).toNat := (by rw [Ny335.out, List.length_take]; omega); rw [← Ny335.out] at Aw; rw [← hy69] at Az; have HR338 := Am Aw; have HC338 := Am (show y335.length ≤ Ag from by omega); clear Aw A4 At hi069 A9; have KY69 := Am hy69; clear hy69; have KL69 := Am (show ((ji39) : Int).toNat ≤ t312.length from by omega); replace q69 := eq_true q69) | ((with_reducible refine gate_callee (f := 6) rfl ?_); refine goesL_ (some 79) rfl rfl Try.func6 (by kernel_rfl) rfl #[.slice Ai y335.length Ag] rfl pL ?_; (with_reducible refine (entry_Get.calls kj15 _ _ y335 t339 t340 _ ?Ab ?Ac A42.out).mono ?_); (case Ab => repeat (first | exact (by repeat (first | (with_reducible exact HR338.out) | (with_reducible refine Kd.C_alloc ?_ _) | (with_reducible refine Kd.C_drewN ?_ _) | (with_reducible refine Kd.C_drew ?_) | exact HR338.out)) | (with_reducible refine Kd.C_alloc ?_ _) | (with_reducible refine Kd.C_drewN ?_ _) | (with_reducible refine Kd.C_drew ?_))); (case Ac => exact HC338.out); rintro e w70 ⟨v341, rfl, ho0, hb⟩; refine ⟨_, rfl, ?_⟩; have Aq := Am (Kd.S_lower (Kd.S_new' (Kd.S_new' (Kd.S_new' ho0 (Kd.R_lt (pR Aa.out))) (Kd.R_lt (pR Ad.out))) (Kd.S_lt (by (with_reducible repeat (first | apply Kd.S_alloc | apply Kd.S_drewN | apply Kd.S_drew)); exact Ah.out))) (below_size (pB HB.out))); replace Aa := bRa Aa hb; replace Ad := bRa Ad hb; replace Ah := Am (Kd.S_elder' (by (with_reducible repeat (first | apply Kd.S_alloc | apply Kd.S_drewN | apply Kd.S_drew)); exact Ah.out) (Kd.S_base ho0) hb); replace HR338 := Am (Kd.C_below (by repeat (first | (with_reducible exact HR338.out) | (with_reducible refine Kd.C_alloc ?_ _) | (with_reducible refine Kd.C_drewN ?_ _) | (with_reducible refine Kd.C_drew ?_) | exact HR338.out)) hb); replace HB := Am (below_step (pB HB.out) hb); (try clear hb); (try clear hb2); (try clear hk); (try clear hi); (try clear ho0)))
      go_ret
      exact ⟨by first | rfl | (simp [errW_none, errW_some] <;> rfl) | (simp only [← hji39]; first | rfl | (simp [errW_none, errW_some] <;> rfl)) | (simp [*, errW_none, errW_some] <;> rfl), pB HB.out⟩
     rw [if_pos c43] at H
     have c43b0 : ((t332 == 0) == ((l1.length : Int) == 0)) = true := c43
     (try (have c43b1 : decide ((t332 == 0) = ((l1.length : Int) == 0)) = true := by simpa using c43))
     (try (have c43b2 : ((t332 == 0) == ((l1.length : Int) == 0)) = true := by simpa using c43))
     clear c43
     by_cases c44 : t340 = 2
     rotate_left
     ·rw [if_neg c44] at H
      have c44b0 : (t340 == 2) = false := beq_eq_false_iff_ne.mpr c44
      have c44b1 : (t340 != 2) = true := bne_iff_ne.mpr c44
      obtain rfl := Option.some.inj H
      go_wp2_with (first | ((with_reducible refine gate_dst (N := 63) rfl ?_); (try (refine gate_guard (by rfl) ?_; dsimp only)); refine Kd.R_lit (Kd.int .u8) _ 5 ?hg (N := 63) ?hd (xs := ([] : List Int)) (inner := []) (ok := fun _ => True) (okp := fun _ => True) ?hr ?hp (fun _ hk => hk) trivial (Below.refl _ _) (Nat.le_refl _) (by simp) ?_; (case hd => rfl); (case hg => rfl); (case hr => first | (go_simp; done) | (go_simp; rfl)); (case hp => exact (Reps.none _ _)); intro v323 w55 ho56 hb hg_ hnew_; clear hg_ hnew_; (first | rw [← Ny322.out] at ho56 | (simp only [Int.reduceToNat] at ho56; rw [← Ny322.out] at ho56)); have Al := Am (Kd.R_lower (Kd.R_new' ho56 (Kd.R_lt (pR Aa.out))) (below_size (pB HB.out))); replace Aa := Am (Kd.R_elder' (pR Aa.out) (Kd.R_base ho56) hb); replace HB := Am (below_step (pB HB.out) hb); clear hb ho56) | ((with_reducible refine gate_builtin (b := .append) (xs := #[.tmp 63, .tmp 64]) rfl ?_); (try (refine gate_guard (by rfl) ?_; dsimp only)); at_builtin; refine Kd.R_append_rows (Kd.int .u8) (w0 := w) w.heap.size rfl (.tmp 63) (.tmp 64) 22 5 (.int .u8 0) 1 rfl Try.underlying22 info5 rfl (by decide) (by omega) v323 y322 t312 _ _ _ (fun k_ => some k_ ≠ (.slice Ai t312.length Ag : Value).ownBlock) (fun _ => False) rfl rfl ?aO ?aR (fun _ _ h => h) (fun _ h => h.elim) ?aF ?aB ?aS ?aL ?_; (case aR => exact pC (Kd.R_reads' Aa.out).2.2); (case aB => exact (pB HB.out)); (case aF => exact (fun k_ hk => Kd.fresh' (Kd.R_lt (pR Aa.out)) k_ hk)); (case aO => exact (by (with_reducible repeat (first | apply Kd.R_alloc | apply Kd.R_drewN | apply Kd.R_drew)); exact Kd.R_mono Al.out (fun _ hk => hk.2))); (case aS => exact (below_size (pB HB.out))); (case aL => have := LMc35.out; omega); intro v326 w57 ho hb hg hat; rw [← Ny325.out] at ho; replace Aa := Am (Kd.R_after (ok := (fun _ => True)) (pR Aa.out) hg hat); replace HB := Am (hb); have An := Am (ho); clear Al ho hb hg hat) | ((with_reducible refine gate_builtin (b := .append) (xs := #[.tmp 65, .tmp 66]) rfl ?_); (try (refine gate_guard (by rfl) ?_; dsimp only)); at_builtin; refine Kd.R_append_rows (Kd.int .u8) (w0 := w) w.heap.size rfl (.tmp 65) (.tmp 66) 22 5 (.int .u8 0) 1 rfl Try.underlying22 info5 rfl (by decide) (by omega) v326 y325 l1 _ _ _ (fun k_ => some k_ ≠ (.slice Ai t312.length Ag : Value).ownBlock) (fun _ => False) rfl rfl ?aO ?aR (fun _ _ h => h) (fun _ h => h.elim) ?aF ?aB ?aS ?aL ?_; (case aR => exact pC (Kd.C_below HR1.out HB.out)); (case aB => exact (pB HB.out)); (case aF => exact (fun k_ hk => Kd.fresh' (Kd.R_lt (pR Aa.out)) k_ hk)); (case aO => exact (pR An.out)); (case aS => exact (below_size (pB HB.out))); (case aL => have := LMc36.out; omega); intro v329 w58 ho hb hg hat; rw [← Ny328.out] at ho; replace Aa := Am (Kd.R_after (ok := (fun _ => True)) (pR Aa.out) hg hat); replace HB := Am (hb); have Ad := Am (ho); clear An ho hb hg hat; obtain ⟨Bh, Bi, Bj⟩ := Kd.R_slice Ad.out; subst Bj) | ((with_reducible refine gate_callee (f := 6) rfl ?_); refine goesL_ (some 68) rfl rfl Try.func6 (by kernel_rfl) rfl #[.slice Bh y328.length Bi] rfl pL ?_; (with_reducible refine (entry_Get.calls kj15 _ _ y328 t331 t332 _ ?Ab ?Ac A37.out).mono ?_); (case Ab => exact pC (Kd.R_reads' Ad.out).2.2); (case Ac => exact (Kd.R_reads' Ad.out).2.1); rintro e w60 ⟨v333, rfl, ho0, hb⟩; refine ⟨_, rfl, ?_⟩; have Ah := Am (Kd.S_lower (Kd.S_new' (Kd.S_new' ho0 (Kd.R_lt (pR Aa.out))) (Kd.R_lt (pR Ad.out))) (below_size (pB HB.out))); replace Aa := bRa Aa hb; replace Ad := bRa Ad hb; replace HB := Am (below_step (pB HB.out) hb); (try clear hb); (try clear hb2); (try clear hk); (try clear hi); (try clear ho0); have q61 : ((ji39) : Int) ≤ ((t312.length : Int) : Int) := of_decide_eq_true pS; obtain ⟨i061, hi061, _, A8, _⟩ := info_parts info5; have As : t312.length ≤ Ag := (Kd.R_reads' Aa.out).2.1; have A3 : Kd.C (Kd.int .u8) _ Ai t312.length t312 := (Kd.R_reads' Aa.out).2.2; have Ay := cut_to (P := Try.prog) 22 5 .i64 Try.underlying22 hi061 Ai t312.length Ag (ji39) (of_decide_eq_true pS) q61 As; have Av := Kd.C_take (m := ((ji39) : Int).toNat) A3 (by omega); have hy61 : y335.length = ((ji39) : Int).toNat := (by rw [Ny335.out, List.length_take]; omega); rw [← Ny335.out] at Av; rw [← hy61] at Ay; have HR338 := Am Av; have HC338 := Am (show y335.length ≤ Ag from by omega); clear Av A3 As hi061 A8; have KY61 := Am hy61; clear hy61; have KL61 := Am (show ((ji39) : Int).toNat ≤ t312.length from by omega); replace q61 := eq_true q61) | ((with_reducible refine gate_callee (f := 6) rfl ?_); refine goesL_ (some 79) rfl rfl Try.func6 (by kernel_rfl) rfl #[.slice Ai y335.length Ag] rfl pL ?_; (with_reducible refine (entry_Get.calls kj15 _ _ y335 t339 t340 _ ?Ab ?Ac A42.out).mono ?_); (case Ab => repeat (first | exact (by repeat (first | (with_reducible exact HR338.out) | (with_reducible refine Kd.C_alloc ?_ _) | (with_reducible refine Kd.C_drewN ?_ _) | (with_reducible refine Kd.C_drew ?_) | exact HR338.out)) | (with_reducible refine Kd.C_alloc ?_ _) | (with_reducible refine Kd.C_drewN ?_ _) | (with_reducible refine Kd.C_drew ?_))); (case Ac => exact HC338.out); rintro e w62 ⟨v341, rfl, ho0, hb⟩; refine ⟨_, rfl, ?_⟩; have Aq := Am (Kd.S_lower (Kd.S_new' (Kd.S_new' (Kd.S_new' ho0 (Kd.R_lt (pR Aa.out))) (Kd.R_lt (pR Ad.out))) (Kd.S_lt (by (with_reducible repeat (first | apply Kd.S_alloc | apply Kd.S_drewN | apply Kd.S_drew)); exact Ah.out))) (below_size (pB HB.out))); replace Aa := bRa Aa hb; replace Ad := bRa Ad hb; replace Ah := Am (Kd.S_elder' (by (with_reducible repeat (first | apply Kd.S_alloc | apply Kd.S_drewN | apply Kd.S_drew)); exact Ah.out) (Kd.S_base ho0) hb); replace HR338 := Am (Kd.C_below (by repeat (first | (with_reducible exact HR338.out) | (with_reducible refine Kd.C_alloc ?_ _) | (with_reducible refine Kd.C_drewN ?_ _) | (with_reducible refine Kd.C_drew ?_) | exact HR338.out)) hb); replace HB := Am (below_step (pB HB.out) hb); (try clear hb); (try clear hb2); (try clear hk); (try clear hi); (try clear ho0)))
      go_ret
      exact ⟨by first | rfl | (simp [errW_none, errW_some] <;> rfl) | (simp only [← hji39]; first | rfl | (simp [errW_none, errW_some] <;> rfl)) | (simp [*, errW_none, errW_some] <;> rfl), pB HB.out⟩
     rw [if_pos c44] at H
     have c44b0 : (t340 == 2) = true := beq_iff_eq.mpr c44
     have c44b1 : (t340 != 2) = false := bne_eq_false_iff_eq.mpr c44
     clear c44
     replace H := Option.bind_eq_some_iff.mp H
     obtain ⟨t343, A450, H⟩ := H
     replace H : (some t343) = some r := H
     have A45 := Am A450
     clear A450
     obtain rfl := Option.some.inj H
     go_wp2_with (first | ((with_reducible refine gate_dst (N := 63) rfl ?_); (try (refine gate_guard (by rfl) ?_; dsimp only)); refine Kd.R_lit (Kd.int .u8) _ 5 ?hg (N := 63) ?hd (xs := ([] : List Int)) (inner := []) (ok := fun _ => True) (okp := fun _ => True) ?hr ?hp (fun _ hk => hk) trivial (Below.refl _ _) (Nat.le_refl _) (by simp) ?_; (case hd => rfl); (case hg => rfl); (case hr => first | (go_simp; done) | (go_simp; rfl)); (case hp => exact (Reps.none _ _)); intro v323 w46 ho47 hb hg_ hnew_; clear hg_ hnew_; (first | rw [← Ny322.out] at ho47 | (simp only [Int.reduceToNat] at ho47; rw [← Ny322.out] at ho47)); have Al := Am (Kd.R_lower (Kd.R_new' ho47 (Kd.R_lt (pR Aa.out))) (below_size (pB HB.out))); replace Aa := Am (Kd.R_elder' (pR Aa.out) (Kd.R_base ho47) hb); replace HB := Am (below_step (pB HB.out) hb); clear hb ho47) | ((with_reducible refine gate_builtin (b := .append) (xs := #[.tmp 63, .tmp 64]) rfl ?_); (try (refine gate_guard (by rfl) ?_; dsimp only)); at_builtin; refine Kd.R_append_rows (Kd.int .u8) (w0 := w) w.heap.size rfl (.tmp 63) (.tmp 64) 22 5 (.int .u8 0) 1 rfl Try.underlying22 info5 rfl (by decide) (by omega) v323 y322 t312 _ _ _ (fun k_ => some k_ ≠ (.slice Ai t312.length Ag : Value).ownBlock) (fun _ => False) rfl rfl ?aO ?aR (fun _ _ h => h) (fun _ h => h.elim) ?aF ?aB ?aS ?aL ?_; (case aR => exact pC (Kd.R_reads' Aa.out).2.2); (case aB => exact (pB HB.out)); (case aF => exact (fun k_ hk => Kd.fresh' (Kd.R_lt (pR Aa.out)) k_ hk)); (case aO => exact (by (with_reducible repeat (first | apply Kd.R_alloc | apply Kd.R_drewN | apply Kd.R_drew)); exact Kd.R_mono Al.out (fun _ hk => hk.2))); (case aS => exact (below_size (pB HB.out))); (case aL => have := LMc35.out; omega); intro v326 w48 ho hb hg hat; rw [← Ny325.out] at ho; replace Aa := Am (Kd.R_after (ok := (fun _ => True)) (pR Aa.out) hg hat); replace HB := Am (hb); have An := Am (ho); clear Al ho hb hg hat) | ((with_reducible refine gate_builtin (b := .append) (xs := #[.tmp 65, .tmp 66]) rfl ?_); (try (refine gate_guard (by rfl) ?_; dsimp only)); at_builtin; refine Kd.R_append_rows (Kd.int .u8) (w0 := w) w.heap.size rfl (.tmp 65) (.tmp 66) 22 5 (.int .u8 0) 1 rfl Try.underlying22 info5 rfl (by decide) (by omega) v326 y325 l1 _ _ _ (fun k_ => some k_ ≠ (.slice Ai t312.length Ag : Value).ownBlock) (fun _ => False) rfl rfl ?aO ?aR (fun _ _ h => h) (fun _ h => h.elim) ?aF ?aB ?aS ?aL ?_; (case aR => exact pC (Kd.C_below HR1.out HB.out)); (case aB => exact (pB HB.out)); (case aF => exact (fun k_ hk => Kd.fresh' (Kd.R_lt (pR Aa.out)) k_ hk)); (case aO => exact (pR An.out)); (case aS => exact (below_size (pB HB.out))); (case aL => have := LMc36.out; omega); intro v329 w49 ho hb hg hat; rw [← Ny328.out] at ho; replace Aa := Am (Kd.R_after (ok := (fun _ => True)) (pR Aa.out) hg hat); replace HB := Am (hb); have Ad := Am (ho); clear An ho hb hg hat; obtain ⟨Be, Bf, Bg⟩ := Kd.R_slice Ad.out; subst Bg) | ((with_reducible refine gate_callee (f := 6) rfl ?_); refine goesL_ (some 68) rfl rfl Try.func6 (by kernel_rfl) rfl #[.slice Be y328.length Bf] rfl pL ?_; (with_reducible refine (entry_Get.calls kj15 _ _ y328 t331 t332 _ ?Ab ?Ac A37.out).mono ?_); (case Ab => exact pC (Kd.R_reads' Ad.out).2.2); (case Ac => exact (Kd.R_reads' Ad.out).2.1); rintro e w51 ⟨v333, rfl, ho0, hb⟩; refine ⟨_, rfl, ?_⟩; have Ah := Am (Kd.S_lower (Kd.S_new' (Kd.S_new' ho0 (Kd.R_lt (pR Aa.out))) (Kd.R_lt (pR Ad.out))) (below_size (pB HB.out))); replace Aa := bRa Aa hb; replace Ad := bRa Ad hb; replace HB := Am (below_step (pB HB.out) hb); (try clear hb); (try clear hb2); (try clear hk); (try clear hi); (try clear ho0); have q52 : ((ji39) : Int) ≤ ((t312.length : Int) : Int) := of_decide_eq_true pS; obtain ⟨i052, hi052, _, A6, _⟩ := info_parts info5; have Ar : t312.length ≤ Ag := (Kd.R_reads' Aa.out).2.1; have A2 : Kd.C (Kd.int .u8) _ Ai t312.length t312 := (Kd.R_reads' Aa.out).2.2; have Ax := cut_to (P := Try.prog) 22 5 .i64 Try.underlying22 hi052 Ai t312.length Ag (ji39) (of_decide_eq_true pS) q52 Ar; have Au := Kd.C_take (m := ((ji39) : Int).toNat) A2 (by omega); have hy52 : y335.length = ((ji39) : Int).toNat := (by rw [Ny335.out, List.length_take]; omega); rw [← Ny335.out] at Au; rw [← hy52] at Ax; have HR338 := Am Au; have HC338 := Am (show y335.length ≤ Ag from by omega); clear Au A2 Ar hi052 A6; have KY52 := Am hy52; clear hy52; have KL52 := Am (show ((ji39) : Int).toNat ≤ t312.length from by omega); replace q52 := eq_true q52) | ((with_reducible refine gate_callee (f := 6) rfl ?_); refine goesL_ (some 79) rfl rfl Try.func6 (by kernel_rfl) rfl #[.slice Ai y335.length Ag] rfl pL ?_; (with_reducible refine (entry_Get.calls kj15 _ _ y335 t339 t340 _ ?Ab ?Ac A42.out).mono ?_); (case Ab => repeat (first | exact (by repeat (first | (with_reducible exact HR338.out) | (with_reducible refine Kd.C_alloc ?_ _) | (with_reducible refine Kd.C_drewN ?_ _) | (with_reducible refine Kd.C_drew ?_) | exact HR338.out)) | (with_reducible refine Kd.C_alloc ?_ _) | (with_reducible refine Kd.C_drewN ?_ _) | (with_reducible refine Kd.C_drew ?_))); (case Ac => exact HC338.out); rintro e w53 ⟨v341, rfl, ho0, hb⟩; refine ⟨_, rfl, ?_⟩; have Aq := Am (Kd.S_lower (Kd.S_new' (Kd.S_new' (Kd.S_new' ho0 (Kd.R_lt (pR Aa.out))) (Kd.R_lt (pR Ad.out))) (Kd.S_lt (by (with_reducible repeat (first | apply Kd.S_alloc | apply Kd.S_drewN | apply Kd.S_drew)); exact Ah.out))) (below_size (pB HB.out))); replace Aa := bRa Aa hb; replace Ad := bRa Ad hb; replace Ah := Am (Kd.S_elder' (by (with_reducible repeat (first | apply Kd.S_alloc | apply Kd.S_drewN | apply Kd.S_drew)); exact Ah.out) (Kd.S_base ho0) hb); replace HR338 := Am (Kd.C_below (by repeat (first | (with_reducible exact HR338.out) | (with_reducible refine Kd.C_alloc ?_ _) | (with_reducible refine Kd.C_drewN ?_ _) | (with_reducible refine Kd.C_drew ?_) | exact HR338.out)) hb); replace HB := Am (below_step (pB HB.out) hb); (try clear hb); (try clear hb2); (try clear hk); (try clear hi); (try clear ho0)) | (go_at_call 5; (with_reducible refine (garnerlaw06_awake.calls kj15  t343 _ A45.out).mono ?_); rintro e w54 ⟨rfl, hb⟩; replace Aa := bRa Aa hb; replace Ad := bRa Ad hb; replace Ah := Am (Kd.S_below (by (with_reducible repeat (first | apply Kd.S_alloc | apply Kd.S_drewN | apply Kd.S_drew)); exact Ah.out) hb); replace Aq := Am (Kd.S_below (by (with_reducible repeat (first | apply Kd.S_alloc | apply Kd.S_drewN | apply Kd.S_drew)); exact Aq.out) hb); replace HR338 := Am (Kd.C_below (by repeat (first | (with_reducible exact HR338.out) | (with_reducible refine Kd.C_alloc ?_ _) | (with_reducible refine Kd.C_drewN ?_ _) | (with_reducible refine Kd.C_drew ?_) | exact HR338.out)) hb); replace HB := Am (below_step (pB HB.out) hb); (try clear hb); (try clear hb2); (try clear hk); (try clear hi)))
     go_ret
     exact ⟨by first | rfl | (simp [errW_none, errW_some] <;> rfl) | (simp only [← hji39]; first | rfl | (simp [errW_none, errW_some] <;> rfl)) | (simp [*, errW_none, errW_some] <;> rfl), pB HB.out⟩
end Go.Proofs.Ytpplclcgkcjmpaa.PEntryReads
