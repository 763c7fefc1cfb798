/- What the law reaches, as plain Lean functions, and that the machine's calls answer just that. -/
import Derived.Test.YtjebpaahpehfnaaPRelayGetsx0
import Derived.Test.YtjebpaahpehfnaaPRelayGetsx9
import Derived.Test.YtjebpaahpehfnaaPRelayGetsx10
namespace Go.Proofs.Ytjebpaahpehfnaa.PRelayGets
open Go.RowKit Go.Proofs.YtjebpaahpehfnaaW.PrintWords Go.Proofs.YtjebpaahpehfnaaW.PrintLast Go.Proofs.YtjebpaahpehfnaaW.PrintMore
attribute [local go_sem] max2_int min2_int max_two min_two max_three min_three max_four min_four
set_option linter.unusedVariables false
set_option linter.unusedSimpArgs false
attribute [local go_sem] wrap64_l1 wrap64_l2 wrap64_l3 wrap64_l4 wrap64_l5
mutual
def garnerref03_First.j1 : Nat → List Int → Int → Option (Int × List Int × Int × Int)
 | 0, _, _ => none
 | k + 1, x0, x5 => if x5 = (x0.length : Int) then (garnerref03_First.j2 k x0 (decide (x5 < 3))) else (garnerref03_First.j2 k x0 false)
def garnerref03_First.j2 : Nat → List Int → Bool → Option (Int × List Int × Int × Int)
 | 0, _, _ => none
 | k + 1, x0, x34 => if x34 = true then (some (0, ([] : List Int), 0, 5)) else ((garnerref02_Get.f k x0).bind fun bt285 => (if bt285.2 = 0 then (garnerref03_First.j3 k x0 bt285.1 bt285.2 true) else (garnerref03_First.j3 k x0 bt285.1 bt285.2 (decide (bt285.1 > 1048576)))))
def garnerref03_First.j3 : Nat → List Int → Int → Int → Bool → Option (Int × List Int × Int × Int)
 | 0, _, _, _, _ => none
 | k + 1, x0, x6, x7, x46 => if x46 = true then (some (0, ([] : List Int), 0, 2)) else (if x7 = (x0.length : Int) then (some (0, ([] : List Int), 0, 5)) else (if 0 ≤ x7 then (if x7 < (x0.length : Int) then (if (wrap64 (rd x0 x7)) < 1 then (garnerref03_First.j4 k x0 x6 x7 true (wrap64 (rd x0 x7))) else (garnerref03_First.j4 k x0 x6 x7 (decide ((wrap64 (rd x0 x7)) > 250)) (wrap64 (rd x0 x7)))) else (none)) else (none)))
def garnerref03_First.j4 : Nat → List Int → Int → Int → Bool → Int → Option (Int × List Int × Int × Int)
 | 0, _, _, _, _, _ => none
 | k + 1, x0, x6, x7, x66, x289000 => if x66 = true then (some (0, ([] : List Int), 0, 2)) else (if (x0.length : Int) < (wrap64 ((wrap64 ((wrap64 (x7 + 1)) + (wrap64 (x6)))) + 4)) then (some (0, ([] : List Int), 0, 5)) else ((some (([] : List Int) : List Int)).bind fun y289 => (if 0 ≤ (wrap64 (x7 + 1)) then (if (wrap64 (x7 + 1)) ≤ (wrap64 ((wrap64 (x7 + 1)) + (wrap64 (x6)))) then (if (wrap64 ((wrap64 (x7 + 1)) + (wrap64 (x6)))) ≤ (x0.length : Int) then (if y289.length + ((x0.take ((wrap64 ((wrap64 (x7 + 1)) + (wrap64 (x6)))) : Int).toNat).drop ((wrap64 (x7 + 1)) : Int).toNat).length < 140737488355328 then ((some (y289 ++ ((x0.take ((wrap64 ((wrap64 (x7 + 1)) + (wrap64 (x6)))) : Int).toNat).drop ((wrap64 (x7 + 1)) : Int).toNat) : List Int)).bind fun y293 => ((garnerref03_Put.f k x289000 y293).bind fun t296 => (if 0 ≤ (wrap64 ((wrap64 ((wrap64 (x7 + 1)) + (wrap64 (x6)))) + 4)) then (if (wrap64 ((wrap64 ((wrap64 (x7 + 1)) + (wrap64 (x6)))) + 4)) ≤ (x0.length : Int) then ((garnerref02_Bytes.f k t296 (x0.take ((wrap64 ((wrap64 ((wrap64 (x7 + 1)) + (wrap64 (x6)))) + 4)) : Int).toNat)).bind fun t300 => (if t300 = true then (some (x289000, y293, wrap64 ((wrap64 ((wrap64 (x7 + 1)) + (wrap64 (x6)))) + 4), 0)) else (some (0, ([] : List Int), 0, 2)))) else (none)) else (none)))) else (none)) else (none)) else (none)) else (none))))
def garnerref03_First.l0 : Nat → List Int → Int → Option (Int × List Int × Int × Int)
 | 0, _, _ => none
 | k + 1, x0, x5 => if x5 < (x0.length : Int) then (if x5 < 3 then (if 0 ≤ x5 then (if (rd x0 x5) > 127 then (garnerref03_First.l0 k x0 (wrap64 (x5 + 1))) else (garnerref03_First.j1 k x0 x5)) else (none)) else (garnerref03_First.j1 k x0 x5)) else (garnerref03_First.j1 k x0 x5)
end
def garnerref03_First.f (k : Nat) (l0 : List Int) : Option (Int × List Int × Int × Int) := garnerref03_First.l0 k l0 0
theorem garnerref03_First.mono_l : ∀ k, (∀ y0 y1, LeO (garnerref03_First.j1 k y0 y1) (garnerref03_First.j1 (k + 1) y0 y1)) ∧ (∀ y0 y1, LeO (garnerref03_First.j2 k y0 y1) (garnerref03_First.j2 (k + 1) y0 y1)) ∧ (∀ y0 y1 y2 y3, LeO (garnerref03_First.j3 k y0 y1 y2 y3) (garnerref03_First.j3 (k + 1) y0 y1 y2 y3)) ∧ (∀ y0 y1 y2 y3 y4, LeO (garnerref03_First.j4 k y0 y1 y2 y3 y4) (garnerref03_First.j4 (k + 1) y0 y1 y2 y3 y4)) ∧ (∀ y0 y1, LeO (garnerref03_First.l0 k y0 y1) (garnerref03_First.l0 (k + 1) y0 y1))
 | 0 => ⟨fun _ _ r h => by simp [garnerref03_First.j1] at h, fun _ _ r h => by simp [garnerref03_First.j2] at h, fun _ _ _ _ r h => by simp [garnerref03_First.j3] at h, fun _ _ _ _ _ r h => by simp [garnerref03_First.j4] at h, fun _ _ r h => by simp [garnerref03_First.l0] at h⟩
 | k + 1 => by
  obtain ⟨ih0, ih1, ih2, ih3, ih4⟩ := garnerref03_First.mono_l k
  refine ⟨?_, ?_, ?_, ?_, ?_⟩
  ·intro y0 y1
   unfold garnerref03_First.j1
   repeat' first
   | (with_reducible exact ih0 _ _)
   | (with_reducible exact ih1 _ _)
   | (with_reducible exact ih2 _ _ _ _)
   | (with_reducible exact ih3 _ _ _ _ _)
   | (with_reducible exact ih4 _ _)
   | (with_reducible exact garnerref02_Bytes.mono _ _ _)
   | (with_reducible exact garnerref02_Get.mono _ _)
   | (with_reducible exact garnerref03_Put.mono _ _ _)
   | (with_reducible exact LeO.refl _)
   | (with_reducible exact LeO.none _)
   | (with_reducible refine LeO.ite ?_ ?_)
   | (with_reducible refine LeO.bind ?_ (fun _ => ?_))
   | exact ih0 _ _
   | exact ih1 _ _
   | exact ih2 _ _ _ _
   | exact ih3 _ _ _ _ _
   | exact ih4 _ _
   | exact garnerref02_Bytes.mono _ _ _
   | exact garnerref02_Get.mono _ _
   | exact garnerref03_Put.mono _ _ _
   | exact LeO.none _
   | refine LeO.ite ?_ ?_
   | refine LeO.bind ?_ (fun _ => ?_)
  ·intro y0 y1
   unfold garnerref03_First.j2
   repeat' first
   | (with_reducible exact ih0 _ _)
   | (with_reducible exact ih1 _ _)
   | (with_reducible exact ih2 _ _ _ _)
   | (with_reducible exact ih3 _ _ _ _ _)
   | (with_reducible exact ih4 _ _)
   | (with_reducible exact garnerref02_Bytes.mono _ _ _)
   | (with_reducible exact garnerref02_Get.mono _ _)
   | (with_reducible exact garnerref03_Put.mono _ _ _)
   | (with_reducible exact LeO.refl _)
   | (with_reducible exact LeO.none _)
   | (with_reducible refine LeO.ite ?_ ?_)
   | (with_reducible refine LeO.bind ?_ (fun _ => ?_))
   | exact ih0 _ _
   | exact ih1 _ _
   | exact ih2 _ _ _ _
   | exact ih3 _ _ _ _ _
   | exact ih4 _ _
   | exact garnerref02_Bytes.mono _ _ _
   | exact garnerref02_Get.mono _ _
   | exact garnerref03_Put.mono _ _ _
   | exact LeO.none _
   | refine LeO.ite ?_ ?_
   | refine LeO.bind ?_ (fun _ => ?_)
  ·intro y0 y1 y2 y3
   unfold garnerref03_First.j3
   repeat' first
   | (with_reducible exact ih0 _ _)
   | (with_reducible exact ih1 _ _)
   | (with_reducible exact ih2 _ _ _ _)
   | (with_reducible exact ih3 _ _ _ _ _)
   | (with_reducible exact ih4 _ _)
   | (with_reducible exact garnerref02_Bytes.mono _ _ _)
   | (with_reducible exact garnerref02_Get.mono _ _)
   | (with_reducible exact garnerref03_Put.mono _ _ _)
   | (with_reducible exact LeO.refl _)
   | (with_reducible exact LeO.none _)
   | (with_reducible refine LeO.ite ?_ ?_)
   | (with_reducible refine LeO.bind ?_ (fun _ => ?_))
   | exact ih0 _ _
   | exact ih1 _ _
   | exact ih2 _ _ _ _
   | exact ih3 _ _ _ _ _
   | exact ih4 _ _
   | exact garnerref02_Bytes.mono _ _ _
   | exact garnerref02_Get.mono _ _
   | exact garnerref03_Put.mono _ _ _
   | exact LeO.none _
   | refine LeO.ite ?_ ?_
   | refine LeO.bind ?_ (fun _ => ?_)
  ·intro y0 y1 y2 y3 y4
   unfold garnerref03_First.j4
   repeat' first
   | (with_reducible exact ih0 _ _)
   | (with_reducible exact ih1 _ _)
   | (with_reducible exact ih2 _ _ _ _)
   | (with_reducible exact ih3 _ _ _ _ _)
   | (with_reducible exact ih4 _ _)
   | (with_reducible exact garnerref02_Bytes.mono _ _ _)
   | (with_reducible exact garnerref02_Get.mono _ _)
   | (with_reducible exact garnerref03_Put.mono _ _ _)
   | (with_reducible exact LeO.refl _)
   | (with_reducible exact LeO.none _)
   | (with_reducible refine LeO.ite ?_ ?_)
   | (with_reducible refine LeO.bind ?_ (fun _ => ?_))
   | exact ih0 _ _
   | exact ih1 _ _
   | exact ih2 _ _ _ _
   | exact ih3 _ _ _ _ _
   | exact ih4 _ _
   | exact garnerref02_Bytes.mono _ _ _
   | exact garnerref02_Get.mono _ _
   | exact garnerref03_Put.mono _ _ _
   | exact LeO.none _
   | refine LeO.ite ?_ ?_
   | refine LeO.bind ?_ (fun _ => ?_)
  ·intro y0 y1
   unfold garnerref03_First.l0
   repeat' first
   | (with_reducible exact ih0 _ _)
   | (with_reducible exact ih1 _ _)
   | (with_reducible exact ih2 _ _ _ _)
   | (with_reducible exact ih3 _ _ _ _ _)
   | (with_reducible exact ih4 _ _)
   | (with_reducible exact garnerref02_Bytes.mono _ _ _)
   | (with_reducible exact garnerref02_Get.mono _ _)
   | (with_reducible exact garnerref03_Put.mono _ _ _)
   | (with_reducible exact LeO.refl _)
   | (with_reducible exact LeO.none _)
   | (with_reducible refine LeO.ite ?_ ?_)
   | (with_reducible refine LeO.bind ?_ (fun _ => ?_))
   | exact ih0 _ _
   | exact ih1 _ _
   | exact ih2 _ _ _ _
   | exact ih3 _ _ _ _ _
   | exact ih4 _ _
   | exact garnerref02_Bytes.mono _ _ _
   | exact garnerref02_Get.mono _ _
   | exact garnerref03_Put.mono _ _ _
   | exact LeO.none _
   | refine LeO.ite ?_ ?_
   | refine LeO.bind ?_ (fun _ => ?_)
theorem garnerref03_First.mono : ∀ a0 k, LeO (garnerref03_First.f k a0) (garnerref03_First.f (k + 1) a0) := by
 intro a0 k
 obtain ⟨ih0, ih1, ih2, ih3, ih4⟩ := garnerref03_First.mono_l k
 unfold garnerref03_First.f
 repeat' first
   | (with_reducible exact ih0 _ _)
   | (with_reducible exact ih1 _ _)
   | (with_reducible exact ih2 _ _ _ _)
   | (with_reducible exact ih3 _ _ _ _ _)
   | (with_reducible exact ih4 _ _)
   | (with_reducible exact garnerref02_Bytes.mono _ _ _)
   | (with_reducible exact garnerref02_Get.mono _ _)
   | (with_reducible exact garnerref03_Put.mono _ _ _)
   | (with_reducible exact LeO.refl _)
   | (with_reducible exact LeO.none _)
   | (with_reducible refine LeO.ite ?_ ?_)
   | (with_reducible refine LeO.bind ?_ (fun _ => ?_))
   | exact ih0 _ _
   | exact ih1 _ _
   | exact ih2 _ _ _ _
   | exact ih3 _ _ _ _ _
   | exact ih4 _ _
   | exact garnerref02_Bytes.mono _ _ _
   | exact garnerref02_Get.mono _ _
   | exact garnerref03_Put.mono _ _ _
   | exact LeO.none _
   | refine LeO.ite ?_ ?_
   | refine LeO.bind ?_ (fun _ => ?_)
def garnerref03_First.T18 : Bool × List (List Nat × List Nat) := (true, [([], []), ([0], [0]), ([], []), ([], []), ([3], [3]), ([2, 4], [2, 4]), ([1, 5, 1], [1, 5]), ([6], [6])])
def garnerref03_First.B18 : List Nat := [0, 1, 0, 0, 8, 28, 63, 127]
theorem garnerref03_First.tab18 : rtab .any (opsOf Try.f20 18) = garnerref03_First.T18 := by kernel_rfl
theorem garnerref03_First.bits18 : waitsOk garnerref03_First.T18.2 garnerref03_First.B18 = true := by kernel_rfl
set_option maxHeartbeats 8000000 in
set_option maxRecDepth 100000 in
theorem garnerref03_First.calls (k : Nat) (A0 : Option Addr) (c0 : Nat) (l0 : List Int) (r1 : Int) (r2 : List Int) (r3 : Int) (r4 : Int) (w : World) (hr0 : Kd.C (Kd.int .u8) w A0 l0.length l0) (hc0 : l0.length ≤ c0) (h : garnerref03_First.f k l0 = some (r1, r2, r3, r4)) :
  Calls Try.prog 20 #[.slice A0 l0.length c0] w fun e w' => ∃ v1_ : Value, e = .returned (.tuple #[.agg #[.int .i64 r1, v1_], .int .i64 r3, .int .i64 r4]) ∧ Kd.R (Kd.int .u8) 5 w' w.heap.size (fun _ => True) v1_ r2 ∧ Below w.heap.size w w' := by
 have hu50 := Try.underlying50
 have HR0 := Am hr0
 have HC0 := Am hc0
 clear hr0 hc0
 have HB := Am (Below.refl w.heap.size w)
 have H : (garnerref03_First.l0 k l0 0) = some (r1, r2, r3, r4) := h
 clear h
 have HC2 := Am H
 clear H
 go_enter Try.func20, Try.ntmps20
 go_upto_block 0 with (first | ((with_reducible refine gate_dst (N := 2) rfl ?_); refine box_event ?hg (N := 2) ?hd (cs := #[.int .i64 0, .slice none 0 0]) (t := 50) ?hr ?_; (case hd => rfl); (case hg => rfl); (case hr => first | (go_simp; done) | (go_simp; rfl)); intro Ah hg w3 hbox hb; have Aa := Am (hbox); have B0 := Am ((by rw [hg]; exact (below_size (pB HB.out)) : w.heap.size ≤ Ah)); replace HB := Am (below_step (pB HB.out) hb); have Ac := B0; clear hb hbox hg))
 (try simp only [Act.put, List.setIfInBounds_toArray, List.set_cons_zero, List.set_cons_succ])
 go_cut [5] (fun v5 wc => ∃ (kq : Nat) (Ag : Int), v5 = .int .i64 Ag ∧ Aside0 (garnerref03_First.j1 kq l0 Ag = some (r1, r2, r3, r4)) ∧ Aside0 (kq ≤ k) ∧ Aside0 (wc.heap[Ah]? = some (.cells #[.int .i64 0, (.slice none 0 0)] 50 (0, 0))) ∧ Aside0 (Below w.heap.size w wc))
 case first =>
  have H := HC2.out
  clear HC2
  have H' := Am H
  clear H
  go_wp2
  go_loopg [5] k (fun kq v5 w' => ∃ (Ag : Int), v5 = .int .i64 Ag ∧ Aside0 (garnerref03_First.l0 kq l0 Ag = some (r1, r2, r3, r4)) ∧ Aside0 (kq ≤ k) ∧ Aside0 (w'.heap[Ah]? = some (.cells #[.int .i64 0, (.slice none 0 0)] 50 (0, 0))) ∧ Aside0 (Below w.heap.size w w'))
  case atStart => exact ⟨(0), (by first | rfl | (simp; done) | (simp [*]; done)), H', ⟨Nat.le_refl _⟩, ⟨pK Aa.out⟩, ⟨pE HB.out Ac.out⟩⟩
  case round =>
   clear H'
   try clear c2
   try clear p2
   obtain ⟨Ag, rfl, HA, HK1, Aa, HB⟩ := hrel
   cases gk with
   | zero => exact absurd HA.out (by simp [garnerref03_First.l0])
   | succ k1 =>
    have H := HA.out
    clear HA
    simp only [garnerref03_First.l0] at H
    by_cases c4 : Ag < (l0.length : Int)
    rotate_left
    ·rw [if_neg c4] at H
     have c4b0 : decide (Ag < (l0.length : Int)) = false := decide_eq_false c4
     clear c4
     (first | rw [c4b0] | (simp only [i64_w, i32_w]; rw [c4b0]) | skip)
     have H' := Am H
     clear H
     go_wp2
     go_meet
     case rel => exact ⟨_, (Ag), (by first | rfl | (simp; done) | (simp [*]; done)), H', ⟨by have := HK1.out; first | omega | exact Nat.le_refl _⟩, ⟨pK Aa.out⟩, ⟨pE HB.out Ac.out⟩⟩
    rw [if_pos c4] at H
    have c4b0 : decide (Ag < (l0.length : Int)) = true := decide_eq_true c4
    clear c4
    (first | rw [c4b0] | (simp only [i64_w, i32_w]; rw [c4b0]) | skip)
    by_cases c5 : Ag < 3
    rotate_left
    ·rw [if_neg c5] at H
     have c5b0 : decide (Ag < 3) = false := decide_eq_false c5
     clear c5
     have H' := Am H
     clear H
     go_wp2
     go_meet
     case rel => exact ⟨_, (Ag), (by first | rfl | (simp; done) | (simp [*]; done)), H', ⟨by have := HK1.out; first | omega | exact Nat.le_refl _⟩, ⟨pK Aa.out⟩, ⟨pE HB.out Ac.out⟩⟩
    rw [if_pos c5] at H
    have c5b0 : decide (Ag < 3) = true := decide_eq_true c5
    clear c5
    by_cases c6 : 0 ≤ Ag
    rotate_left
    ·rw [if_neg c6] at H
     exact absurd H (by simp)
    rw [if_pos c6] at H
    have c6b0 : decide (0 ≤ Ag) = true := decide_eq_true c6
    clear c6
    by_cases c7 : (rd l0 Ag) > 127
    rotate_left
    ·rw [if_neg c7] at H
     have c7b0 : decide (127 < (rd l0 Ag)) = false := decide_eq_false c7
     clear c7
     have H' := Am H
     clear H
     have p284 : 0 ≤ (Ag : Int) := of_decide_eq_true pS
     have q284 : Ag < (l0.length : Int) := of_decide_eq_true pS
     obtain ⟨B1, e284, Ak⟩ := Kd.at_int HR0.out Ag p284 q284
     cases e284
     replace Ak := cU HB.out Ak
     replace p284 := eq_true p284
     replace q284 := eq_true q284
     go_wp2
     go_meet
     case rel => exact ⟨_, (Ag), (by first | rfl | (simp; done) | (simp [*]; done)), H', ⟨by have := HK1.out; first | omega | exact Nat.le_refl _⟩, ⟨pK Aa.out⟩, ⟨pE HB.out Ac.out⟩⟩
    rw [if_pos c7] at H
    have c7b0 : decide (127 < (rd l0 Ag)) = true := decide_eq_true c7
    clear c7
    have H' := Am H
    clear H
    have p284 : 0 ≤ (Ag : Int) := of_decide_eq_true pS
    have q284 : Ag < (l0.length : Int) := of_decide_eq_true pS
    obtain ⟨B1, e284, Ak⟩ := Kd.at_int HR0.out Ag p284 q284
    cases e284
    replace Ak := cU HB.out Ak
    replace p284 := eq_true p284
    replace q284 := eq_true q284
    go_wp2
    go_roundg k1
    case measure => have := HK1.out; omega
    case rel => exact ⟨(wrap64 (Ag + 1)), (by first | rfl | (simp; done) | (simp [*]; done)), H', ⟨by have := HK1.out; omega⟩, ⟨pK Aa.out⟩, ⟨pE HB.out Ac.out⟩⟩
 case rest =>
  clear HC2
  try clear c2
  try clear p2
  try clear q2
  try clear hx2
  try clear c4
  try clear c4b0
  try clear c5
  try clear c5b0
  try clear c6
  try clear c6b0
  try clear p6
  try clear c7
  try clear c7b0
  try clear Ak
  try clear p2
  try clear p284
  try clear q284
  obtain ⟨kq, Ag, rfl, HA, HJ1, Aa, HB⟩ := hcut
  cases kq with
  | zero => exact absurd HA.out (by simp [garnerref03_First.j1])
  | succ kj1 =>
   have H := HA.out
   clear HA
   simp only [garnerref03_First.j1] at H
   have HC8 := Am H
   clear H
   go_upto_region 4 with (fail)
   go_cut [34] (fun v34 wc => ∃ (kq : Nat) (Ay : Bool), v34 = .bool Ay ∧ Aside0 (garnerref03_First.j2 kq l0 Ay = some (r1, r2, r3, r4)) ∧ Aside0 (kq ≤ kj1) ∧ Aside0 (wc.heap[Ah]? = some (.cells #[.int .i64 0, (.slice none 0 0)] 50 (0, 0))) ∧ Aside0 (Below w.heap.size w wc))
   case first =>
    have H := HC8.out
    clear HC8
    by_cases c9 : Ag = (l0.length : Int)
    rotate_left
    ·rw [if_neg c9] at H
     have c9b0 : (Ag == (l0.length : Int)) = false := beq_eq_false_iff_ne.mpr c9
     have c9b1 : (Ag != (l0.length : Int)) = true := bne_iff_ne.mpr c9
     (first | rw [c9b0] | (simp only [i64_w, i32_w]; rw [c9b0]) | skip)
     have H' := Am H
     clear H
     go_wp2
     go_meet
     case rel => exact ⟨_, (false), (by first | rfl | (simp; done) | (simp [*]; done)), H', ⟨by have := HJ1.out; first | omega | exact Nat.le_refl _⟩, ⟨pK Aa.out⟩, ⟨pE HB.out Ac.out⟩⟩
    rw [if_pos c9] at H
    have c9b0 : (Ag == (l0.length : Int)) = true := beq_iff_eq.mpr c9
    have c9b1 : (Ag != (l0.length : Int)) = false := bne_eq_false_iff_eq.mpr c9
    clear c9
    (first | rw [c9b0] | (simp only [i64_w, i32_w]; rw [c9b0]) | skip)
    have H' := Am H
    clear H
    go_wp2
    go_meet
    case rel => exact ⟨_, (decide (Ag < 3)), (by first | rfl | (simp; done) | (simp [*]; done)), H', ⟨by have := HJ1.out; first | omega | exact Nat.le_refl _⟩, ⟨pK Aa.out⟩, ⟨pE HB.out Ac.out⟩⟩
   case rest =>
    clear HC8
    try clear c2
    try clear p2
    try clear q2
    try clear hx2
    try clear c4
    try clear c4b0
    try clear c5
    try clear c5b0
    try clear c6
    try clear c6b0
    try clear p6
    try clear c7
    try clear c7b0
    try clear c9
    try clear c9b0
    try clear c9b1
    try clear Ak
    try clear p2
    try clear p284
    try clear p6
    try clear q2
    try clear q284
    obtain ⟨kq, Ay, rfl, HA, HJ7, Aa, HB⟩ := hcut
    cases kq with
    | zero => exact absurd HA.out (by simp [garnerref03_First.j2])
    | succ kj7 =>
     have H := HA.out
     clear HA
     simp only [garnerref03_First.j2] at H
     by_cases c10 : Ay = true
     ·subst c10
      have H1 : (some (0, ([] : List Int), 0, 5)) = some (r1, r2, r3, r4) := by rw [if_pos rfl] at H; exact H
      clear H
      have H := H1
      clear H1
      simp only [Option.some.injEq, Prod.mk.injEq] at H
      obtain ⟨rfl, rfl, rfl, rfl⟩ := H
      obtain ⟨Az, A1⟩ := bc2 Aa.out
      obtain ⟨A2, A3⟩ := bf2 Aa.out
      go_wp2
      refine bodyPost_ret (results_ctt rfl _ _ Ah 50 #[.int .i64 0, .slice none 0 0] (0, 0) _ rfl (kX0 Aa.out) Try.underlying50 rfl (by kernel_rfl)) rfl ?_
      exact ⟨_, pX, by first | exact Kd.R_nil _ _ _ _ _ | exact Kd.N_nil _ _ _ _ _ | exact Kd.V_nil _ _ _ _ _ | exact Kd.Q_nil _ _ _ _ _ | exact Kd.S_nil _ _ _ _ _, pE HB.out Ac.out⟩
     replace c10 := Bool.eq_false_iff.mpr c10
     subst c10
     have H1 : ((garnerref02_Get.f kj7 l0).bind fun bt285 => (if bt285.2 = 0 then (garnerref03_First.j3 kj7 l0 bt285.1 bt285.2 true) else (garnerref03_First.j3 kj7 l0 bt285.1 bt285.2 (decide (bt285.1 > 1048576))))) = some (r1, r2, r3, r4) := by rw [if_neg (show ¬ (false = true) by decide)] at H; exact H
     clear H
     have H := H1
     clear H1
     replace H := Option.bind_eq_some_iff.mp H
     obtain ⟨⟨t285, t286⟩, A120, H⟩ := H
     replace H : (if t286 = 0 then (garnerref03_First.j3 kj7 l0 t285 t286 true) else (garnerref03_First.j3 kj7 l0 t285 t286 (decide (t285 > 1048576)))) = some (r1, r2, r3, r4) := H
     have A12 := Am A120
     clear A120
     have HC13 := Am H
     clear H
     go_upto_region 7 with (first | ((with_reducible refine gate_callee (f := 22) rfl ?_); refine goesL_ (some 38) rfl rfl Try.func22 (by kernel_rfl) rfl #[.slice A0 l0.length c0] rfl pL ?_; (with_reducible refine (garnerref02_Get.calls kj7 _ _ l0 t285 t286 _ ?Al ?An A12.out).mono ?_); (case Al => exact pC (Kd.C_below HR0.out HB.out)); (case An => exact HC0.out); rintro e w14 ⟨rfl, hb⟩; refine ⟨_, rfl, ?_⟩; replace Aa := kBa Aa hb; replace HB := Am (below_step (pE HB.out Ac.out) hb); (try clear hb); (try clear hb2); (try clear hk); (try clear hi)))
     (try simp only [Act.put, List.setIfInBounds_toArray, List.set_cons_zero, List.set_cons_succ])
     go_cut [46] (fun v46 wc => ∃ (kq : Nat) (Av : Bool), v46 = .bool Av ∧ Aside0 (garnerref03_First.j3 kq l0 t285 t286 Av = some (r1, r2, r3, r4)) ∧ Aside0 (kq ≤ kj7) ∧ Aside0 (wc.heap[Ah]? = some (.cells #[.int .i64 0, (.slice none 0 0)] 50 (0, 0))) ∧ Aside0 (Below w.heap.size w wc))
     case first =>
      have H := HC13.out
      clear HC13
      by_cases c15 : t286 = 0
      rotate_left
      ·rw [if_neg c15] at H
       have c15b0 : (t286 == 0) = false := beq_eq_false_iff_ne.mpr c15
       have c15b1 : (t286 != 0) = true := bne_iff_ne.mpr c15
       (first | rw [c15b0] | (simp only [i64_w, i32_w]; rw [c15b0]) | skip)
       have H' := Am H
       clear H
       go_wp2
       go_meet
       case rel => exact ⟨_, (decide (t285 > 1048576)), (by first | rfl | (simp; done) | (simp [*]; done)), H', ⟨by have := HJ1.out; have := HJ7.out; first | omega | exact Nat.le_refl _⟩, ⟨pK Aa.out⟩, ⟨pE HB.out Ac.out⟩⟩
      rw [if_pos c15] at H
      have c15b0 : (t286 == 0) = true := beq_iff_eq.mpr c15
      have c15b1 : (t286 != 0) = false := bne_eq_false_iff_eq.mpr c15
      clear c15
      (first | rw [c15b0] | (simp only [i64_w, i32_w]; rw [c15b0]) | skip)
      have H' := Am H
      clear H
      go_wp2
      go_meet
      case rel => exact ⟨_, (true), (by first | rfl | (simp; done) | (simp [*]; done)), H', ⟨by have := HJ1.out; have := HJ7.out; first | omega | exact Nat.le_refl _⟩, ⟨pK Aa.out⟩, ⟨pE HB.out Ac.out⟩⟩
     case rest =>
      clear HC13
      try clear c1
      try clear c2
      try clear p2
      try clear q2
      try clear hx2
      try clear c4
      try clear c4b0
      try clear c5
      try clear c5b0
      try clear c6
      try clear c6b0
      try clear p6
      try clear c7
      try clear c7b0
      try clear c9
      try clear c9b0
      try clear c9b1
      try clear c10
      try clear c15
      try clear c15b0
      try clear c15b1
      try clear Az A1
      try clear A2 A3
      try clear Ak
      try clear p2
      try clear p284
      try clear p6
      try clear q2
      try clear q284
      obtain ⟨kq, Av, rfl, HA, HJ12, Aa, HB⟩ := hcut
      cases kq with
      | zero => exact absurd HA.out (by simp [garnerref03_First.j3])
      | succ kj12 =>
       have H := HA.out
       clear HA
       simp only [garnerref03_First.j3] at H
       by_cases c16 : Av = true
       ·subst c16
        have H1 : (some (0, ([] : List Int), 0, 2)) = some (r1, r2, r3, r4) := by rw [if_pos rfl] at H; exact H
        clear H
        have H := H1
        clear H1
        simp only [Option.some.injEq, Prod.mk.injEq] at H
        obtain ⟨rfl, rfl, rfl, rfl⟩ := H
        obtain ⟨A6, A7⟩ := bc2 Aa.out
        obtain ⟨A8, A9⟩ := bf2 Aa.out
        go_wp2
        refine bodyPost_ret (results_ctt rfl _ _ Ah 50 #[.int .i64 0, .slice none 0 0] (0, 0) _ rfl (kX0 Aa.out) Try.underlying50 rfl (by kernel_rfl)) rfl ?_
        exact ⟨_, pX, by first | exact Kd.R_nil _ _ _ _ _ | exact Kd.N_nil _ _ _ _ _ | exact Kd.V_nil _ _ _ _ _ | exact Kd.Q_nil _ _ _ _ _ | exact Kd.S_nil _ _ _ _ _, pE HB.out Ac.out⟩
       replace c16 := Bool.eq_false_iff.mpr c16
       subst c16
       have H1 : (if t286 = (l0.length : Int) then (some (0, ([] : List Int), 0, 5)) else (if 0 ≤ t286 then (if t286 < (l0.length : Int) then (if (wrap64 (rd l0 t286)) < 1 then (garnerref03_First.j4 kj12 l0 t285 t286 true (wrap64 (rd l0 t286))) else (garnerref03_First.j4 kj12 l0 t285 t286 (decide ((wrap64 (rd l0 t286)) > 250)) (wrap64 (rd l0 t286)))) else (none)) else (none))) = some (r1, r2, r3, r4) := by rw [if_neg (show ¬ (false = true) by decide)] at H; exact H
       clear H
       have H := H1
       clear H1
       by_cases c18 : t286 = (l0.length : Int)
       ·rw [if_pos c18] at H
        have c18b0 : (t286 == (l0.length : Int)) = true := beq_iff_eq.mpr c18
        have c18b1 : (t286 != (l0.length : Int)) = false := bne_eq_false_iff_eq.mpr c18
        clear c18
        simp only [Option.some.injEq, Prod.mk.injEq] at H
        obtain ⟨rfl, rfl, rfl, rfl⟩ := H
        obtain ⟨Ba, Bb⟩ := bc2 Aa.out
        obtain ⟨Bc, Bd⟩ := bf2 Aa.out
        go_wp2
        refine bodyPost_ret (results_ctt rfl _ _ Ah 50 #[.int .i64 0, .slice none 0 0] (0, 0) _ rfl (kX0 Aa.out) Try.underlying50 rfl (by kernel_rfl)) rfl ?_
        exact ⟨_, pX, by first | exact Kd.R_nil _ _ _ _ _ | exact Kd.N_nil _ _ _ _ _ | exact Kd.V_nil _ _ _ _ _ | exact Kd.Q_nil _ _ _ _ _ | exact Kd.S_nil _ _ _ _ _, pE HB.out Ac.out⟩
       rw [if_neg c18] at H
       have c18b0 : (t286 == (l0.length : Int)) = false := beq_eq_false_iff_ne.mpr c18
       have c18b1 : (t286 != (l0.length : Int)) = true := bne_iff_ne.mpr c18
       by_cases c20 : 0 ≤ t286
       rotate_left
       ·rw [if_neg c20] at H
        exact absurd H (by simp)
       rw [if_pos c20] at H
       have c20b0 : decide (0 ≤ t286) = true := decide_eq_true c20
       clear c20
       by_cases c21 : t286 < (l0.length : Int)
       rotate_left
       ·rw [if_neg c21] at H
        exact absurd H (by simp)
       rw [if_pos c21] at H
       have c21b0 : decide (t286 < (l0.length : Int)) = true := decide_eq_true c21
       clear c21
       have HC22 := Am H
       clear H
       have p287 : 0 ≤ (t286 : Int) := of_decide_eq_true pS
       have q287 : t286 < (l0.length : Int) := of_decide_eq_true pS
       obtain ⟨Au, e287, Ax⟩ := Kd.at_int HR0.out t286 p287 q287
       cases e287
       replace Ax := cU HB.out Ax
       replace p287 := eq_true p287
       replace q287 := eq_true q287
       go_upto_region 12 with (first | ((with_reducible refine gate_dst (N := 8) rfl ?_); refine box_event ?hg (N := 8) ?hd (cs := #[.int .i64 0, .slice none 0 0]) (t := 50) ?hr ?_; (case hd => rfl); (case hg => rfl); (case hr => first | (go_simp; done) | (go_simp; rfl)); intro Af hg w23 hbox hb; have Ab := Am (hbox); have B2 := Am ((by rw [hg]; exact (below_size (pE HB.out Ac.out)) : w.heap.size ≤ Af)); replace HB := Am (below_step (pE HB.out Ac.out) hb); have Ai := B2; have Ad := Am ((by rw [hg]; exact Nat.ne_of_lt (kL Aa.out) : Ah ≠ Af)); have Aj := Am ((by rw [hg]; exact Nat.ne_of_gt (kL Aa.out) : Af ≠ Ah)); replace Aa := kBa Aa hb; clear hb hbox hg; have hnb24 := Aj.out; have hnc24 := Ad.out; obtain ⟨Be, Bf⟩ := bc2 Ab.out; obtain ⟨Bg, Bh⟩ := bf2 Ab.out))
       (try simp only [Act.put, List.setIfInBounds_toArray, List.set_cons_zero, List.set_cons_succ])
       go_cut [66] (fun v66 wc => ∃ (kq : Nat) (Aw : Bool), v66 = .bool Aw ∧ Aside0 (garnerref03_First.j4 kq l0 t285 t286 Aw (wrap64 (rd l0 t286)) = some (r1, r2, r3, r4)) ∧ Aside0 (kq ≤ kj12) ∧ Aside0 (wc.heap[Ah]? = some (.cells #[.int .i64 0, (.slice none 0 0)] 50 (0, 0))) ∧ Aside0 (wc.heap[Af]? = some (.cells #[.int .i64 (wrap64 (rd l0 t286)), (.slice none 0 0)] 50 (0, 0))) ∧ Aside0 (Below w.heap.size w wc))
       case first =>
        have H := HC22.out
        clear HC22
        by_cases c26 : (wrap64 (rd l0 t286)) < 1
        ·rw [if_pos c26] at H
         have c26b0 : decide ((wrap64 (rd l0 t286)) < 1) = true := decide_eq_true c26
         clear c26
         (first | rw [c26b0] | (simp only [i64_w, i32_w]; rw [c26b0]) | skip)
         have H' := Am H
         clear H
         have hnb27 := Aj.out
         have hnc27 := Ad.out
         obtain ⟨Bi, Bj⟩ := bc2 Ab.out
         obtain ⟨Bk, Bl⟩ := bf2 Ab.out
         go_wp2
         go_meet
         case rel => exact ⟨_, (true), (by first | rfl | (simp; done) | (simp [*]; done)), H', ⟨by have := HJ1.out; have := HJ7.out; have := HJ12.out; first | omega | exact Nat.le_refl _⟩, ⟨kX1 Aa.out Ad.out⟩, ⟨kX0 Ab.out⟩, ⟨pE2 HB.out Ac.out Ai.out⟩⟩
        rw [if_neg c26] at H
        have c26b0 : decide ((wrap64 (rd l0 t286)) < 1) = false := decide_eq_false c26
        clear c26
        (first | rw [c26b0] | (simp only [i64_w, i32_w]; rw [c26b0]) | skip)
        have H' := Am H
        clear H
        have hnb29 := Aj.out
        have hnc29 := Ad.out
        obtain ⟨Bm, Bn⟩ := bc2 Ab.out
        obtain ⟨Bo, Bp⟩ := bf2 Ab.out
        go_wp2
        go_meet
        case rel => exact ⟨_, (decide ((wrap64 (rd l0 t286)) > 250)), (by first | rfl | (simp; done) | (simp [*]; done)), H', ⟨by have := HJ1.out; have := HJ7.out; have := HJ12.out; first | omega | exact Nat.le_refl _⟩, ⟨kX1 Aa.out Ad.out⟩, ⟨kX0 Ab.out⟩, ⟨pE2 HB.out Ac.out Ai.out⟩⟩
       case rest =>
        clear HC22
        try clear c1
        try clear c2
        try clear p2
        try clear q2
        try clear hx2
        try clear c4
        try clear c4b0
        try clear c5
        try clear c5b0
        try clear c6
        try clear c6b0
        try clear p6
        try clear c7
        try clear c7b0
        try clear c9
        try clear c9b0
        try clear c9b1
        try clear c10
        try clear c15
        try clear c15b0
        try clear c15b1
        try clear c16
        try clear c18
        try clear c18b0
        try clear c18b1
        try clear c20
        try clear c20b0
        try clear c21
        try clear c21b0
        try clear c22
        try clear c24
        try clear c26
        try clear c26b0
        try clear c27
        try clear p28
        try clear q28
        try clear hx28
        try clear c29
        try clear Az A1
        try clear A6 A7
        try clear Ba Bb
        try clear Be Bf
        try clear Bi Bj
        try clear Bm Bn
        try clear A2 A3
        try clear A8 A9
        try clear Bc Bd
        try clear Bg Bh
        try clear Bk Bl
        try clear Bo Bp
        try clear Ak
        try clear Ax
        try clear p2
        try clear p284
        try clear p287
        try clear p6
        try clear q2
        try clear q284
        try clear q287
        obtain ⟨kq, Aw, rfl, HA, HJ21, Aa, Ab, HB⟩ := hcut
        cases kq with
        | zero => exact absurd HA.out (by simp [garnerref03_First.j4])
        | succ kj21 =>
         have H := HA.out
         clear HA
         simp only [garnerref03_First.j4] at H
         by_cases c31 : Aw = true
         ·subst c31
          have H1 : (some (0, ([] : List Int), 0, 2)) = some (r1, r2, r3, r4) := by rw [if_pos rfl] at H; exact H
          clear H
          have H := H1
          clear H1
          simp only [Option.some.injEq, Prod.mk.injEq] at H
          obtain ⟨rfl, rfl, rfl, rfl⟩ := H
          have hnb32 := Ad.out
          have hnc32 := Aj.out
          obtain ⟨_, _⟩ := bc2 Aa.out
          obtain ⟨_, _⟩ := bf2 Aa.out
          go_wp2
          refine bodyPost_ret (results_ctt rfl _ _ Ah 50 #[.int .i64 0, .slice none 0 0] (0, 0) _ rfl (kX0 Aa.out) Try.underlying50 rfl (by kernel_rfl)) rfl ?_
          exact ⟨_, pX, by first | exact Kd.R_nil _ _ _ _ _ | exact Kd.N_nil _ _ _ _ _ | exact Kd.V_nil _ _ _ _ _ | exact Kd.Q_nil _ _ _ _ _ | exact Kd.S_nil _ _ _ _ _, pE2 HB.out Ac.out Ai.out⟩
         replace c31 := Bool.eq_false_iff.mpr c31
         subst c31
         have H1 : (if (l0.length : Int) < (wrap64 ((wrap64 ((wrap64 (t286 + 1)) + (wrap64 (t285)))) + 4)) then (some (0, ([] : List Int), 0, 5)) else ((some (([] : List Int) : List Int)).bind fun y289 => (if 0 ≤ (wrap64 (t286 + 1)) then (if (wrap64 (t286 + 1)) ≤ (wrap64 ((wrap64 (t286 + 1)) + (wrap64 (t285)))) then (if (wrap64 ((wrap64 (t286 + 1)) + (wrap64 (t285)))) ≤ (l0.length : Int) then (if y289.length + ((l0.take ((wrap64 ((wrap64 (t286 + 1)) + (wrap64 (t285)))) : Int).toNat).drop ((wrap64 (t286 + 1)) : Int).toNat).length < 140737488355328 then ((some (y289 ++ ((l0.take ((wrap64 ((wrap64 (t286 + 1)) + (wrap64 (t285)))) : Int).toNat).drop ((wrap64 (t286 + 1)) : Int).toNat) : List Int)).bind fun y293 => ((garnerref03_Put.f kj21 (wrap64 (rd l0 t286)) y293).bind fun t296 => (if 0 ≤ (wrap64 ((wrap64 ((wrap64 (t286 + 1)) + (wrap64 (t285)))) + 4)) then (if (wrap64 ((wrap64 ((wrap64 (t286 + 1)) + (wrap64 (t285)))) + 4)) ≤ (l0.length : Int) then ((garnerref02_Bytes.f kj21 t296 (l0.take ((wrap64 ((wrap64 ((wrap64 (t286 + 1)) + (wrap64 (t285)))) + 4)) : Int).toNat)).bind fun t300 => (if t300 = true then (some ((wrap64 (rd l0 t286)), y293, wrap64 ((wrap64 ((wrap64 (t286 + 1)) + (wrap64 (t285)))) + 4), 0)) else (some (0, ([] : List Int), 0, 2)))) else (none)) else (none)))) else (none)) else (none)) else (none)) else (none)))) = some (r1, r2, r3, r4) := by rw [if_neg (show ¬ (false = true) by decide)] at H; exact H
         clear H
         have H := H1
         clear H1
         by_cases c34 : (l0.length : Int) < (wrap64 ((wrap64 ((wrap64 (t286 + 1)) + (wrap64 (t285)))) + 4))
         ·rw [if_pos c34] at H
          have c34b0 : decide ((l0.length : Int) < (wrap64 ((wrap64 ((wrap64 (t286 + 1)) + (wrap64 (t285)))) + 4))) = true := decide_eq_true c34
          clear c34
          simp only [Option.some.injEq, Prod.mk.injEq] at H
          obtain ⟨rfl, rfl, rfl, rfl⟩ := H
          have hnb35 := Ad.out
          have hnc35 := Aj.out
          obtain ⟨_, _⟩ := bc2 Aa.out
          obtain ⟨_, _⟩ := bf2 Aa.out
          go_wp2
          refine bodyPost_ret (results_ctt rfl _ _ Ah 50 #[.int .i64 0, .slice none 0 0] (0, 0) _ rfl (kX0 Aa.out) Try.underlying50 rfl (by kernel_rfl)) rfl ?_
          exact ⟨_, pX, by first | exact Kd.R_nil _ _ _ _ _ | exact Kd.N_nil _ _ _ _ _ | exact Kd.V_nil _ _ _ _ _ | exact Kd.Q_nil _ _ _ _ _ | exact Kd.S_nil _ _ _ _ _, pE2 HB.out Ac.out Ai.out⟩
         rw [if_neg c34] at H
         have c34b0 : decide ((l0.length : Int) < (wrap64 ((wrap64 ((wrap64 (t286 + 1)) + (wrap64 (t285)))) + 4))) = false := decide_eq_false c34
         clear c34
         obtain ⟨y289, hy289⟩ : ∃ y_ : List Int, y_ = (([] : List Int)) := ⟨_, rfl⟩
         replace H : (if 0 ≤ (wrap64 (t286 + 1)) then (if (wrap64 (t286 + 1)) ≤ (wrap64 ((wrap64 (t286 + 1)) + (wrap64 (t285)))) then (if (wrap64 ((wrap64 (t286 + 1)) + (wrap64 (t285)))) ≤ (l0.length : Int) then (if y289.length + ((l0.take ((wrap64 ((wrap64 (t286 + 1)) + (wrap64 (t285)))) : Int).toNat).drop ((wrap64 (t286 + 1)) : Int).toNat).length < 140737488355328 then ((some (y289 ++ ((l0.take ((wrap64 ((wrap64 (t286 + 1)) + (wrap64 (t285)))) : Int).toNat).drop ((wrap64 (t286 + 1)) : Int).toNat) : List Int)).bind fun y293 => ((garnerref03_Put.f kj21 (wrap64 (rd l0 t286)) y293).bind fun t296 => (if 0 ≤ (wrap64 ((wrap64 ((wrap64 (t286 + 1)) + (wrap64 (t285)))) + 4)) then (if (wrap64 ((wrap64 ((wrap64 (t286 + 1)) + (wrap64 (t285)))) + 4)) ≤ (l0.length : Int) then ((garnerref02_Bytes.f kj21 t296 (l0.take ((wrap64 ((wrap64 ((wrap64 (t286 + 1)) + (wrap64 (t285)))) + 4)) : Int).toNat)).bind fun t300 => (if t300 = true then (some ((wrap64 (rd l0 t286)), y293, wrap64 ((wrap64 ((wrap64 (t286 + 1)) + (wrap64 (t285)))) + 4), 0)) else (some (0, ([] : List Int), 0, 2)))) else (none)) else (none)))) else (none)) else (none)) else (none)) else (none)) = some (r1, r2, r3, r4) := by first | (rw [hy289]; with_reducible exact H) | (have H2_ := (Option.bind_some _ _).symm.trans H; rw [hy289]; with_reducible exact H2_) | (have H2_ := (Option.bind_some _ _).symm.trans H; with_reducible exact H2_) | with_reducible exact H | (rw [hy289]; exact H) | exact H
         have Ny289 := Am hy289
         clear hy289
         obtain ⟨ji37, hji37⟩ : ∃ j_ : Int, (wrap64 (t286 + 1)) = j_ := ⟨_, rfl⟩
         replace H : (if 0 ≤ (ji37) then (if (ji37) ≤ (wrap64 ((ji37) + (wrap64 (t285)))) then (if (wrap64 ((ji37) + (wrap64 (t285)))) ≤ (l0.length : Int) then (if y289.length + ((l0.take ((wrap64 ((ji37) + (wrap64 (t285)))) : Int).toNat).drop ((ji37) : Int).toNat).length < 140737488355328 then ((some (y289 ++ ((l0.take ((wrap64 ((ji37) + (wrap64 (t285)))) : Int).toNat).drop ((ji37) : Int).toNat) : List Int)).bind fun y293 => ((garnerref03_Put.f kj21 (wrap64 (rd l0 t286)) y293).bind fun t296 => (if 0 ≤ (wrap64 ((wrap64 ((ji37) + (wrap64 (t285)))) + 4)) then (if (wrap64 ((wrap64 ((ji37) + (wrap64 (t285)))) + 4)) ≤ (l0.length : Int) then ((garnerref02_Bytes.f kj21 t296 (l0.take ((wrap64 ((wrap64 ((ji37) + (wrap64 (t285)))) + 4)) : Int).toNat)).bind fun t300 => (if t300 = true then (some ((wrap64 (rd l0 t286)), y293, wrap64 ((wrap64 ((ji37) + (wrap64 (t285)))) + 4), 0)) else (some (0, ([] : List Int), 0, 2)))) else (none)) else (none)))) else (none)) else (none)) else (none)) else (none)) = some (r1, r2, r3, r4) := by first | (rw [hji37] at H; exact H) | (simp only [hji37] at H ⊢; exact H)
         (try rw [hji37] at c34b0)
         have hji37w : (IntKind.i64.wrap (t286 + 1)) = ji37 := (i64_w _).trans hji37
         by_cases c38 : 0 ≤ (ji37)
         rotate_left
         ·rw [if_neg c38] at H
          exact absurd H (by simp)
         rw [if_pos c38] at H
         have c38b0 := eq_true c38
         have c38b1 : decide (0 ≤ (ji37)) = true := decide_eq_true c38
         clear c38
         by_cases c39 : (ji37) ≤ (wrap64 ((ji37) + (wrap64 (t285))))
         rotate_left
         ·rw [if_neg c39] at H
          exact absurd H (by simp)
         rw [if_pos c39] at H
         have c39b0 := eq_true c39
         have c39b1 : decide ((ji37) ≤ (wrap64 ((ji37) + (wrap64 (t285))))) = true := decide_eq_true c39
         by_cases c40 : (wrap64 ((ji37) + (wrap64 (t285)))) ≤ (l0.length : Int)
         rotate_left
         ·rw [if_neg c40] at H
          exact absurd H (by simp)
         rw [if_pos c40] at H
         have c40b0 := eq_true c40
         have c40b1 : decide ((wrap64 ((ji37) + (wrap64 (t285)))) ≤ (l0.length : Int)) = true := decide_eq_true c40
         by_cases c41 : y289.length + ((l0.take ((wrap64 ((ji37) + (wrap64 (t285)))) : Int).toNat).drop ((ji37) : Int).toNat).length < 140737488355328
         rotate_left
         ·rw [if_neg c41] at H
          exact absurd H (by simp)
         rw [if_pos c41] at H
         have LMc41 := Am c41
         clear c41
         obtain ⟨y293, hy293⟩ : ∃ y_ : List Int, y_ = (y289 ++ ((l0.take ((wrap64 ((ji37) + (wrap64 (t285)))) : Int).toNat).drop ((ji37) : Int).toNat)) := ⟨_, rfl⟩
         replace H : ((garnerref03_Put.f kj21 (wrap64 (rd l0 t286)) y293).bind fun t296 => (if 0 ≤ (wrap64 ((wrap64 ((ji37) + (wrap64 (t285)))) + 4)) then (if (wrap64 ((wrap64 ((ji37) + (wrap64 (t285)))) + 4)) ≤ (l0.length : Int) then ((garnerref02_Bytes.f kj21 t296 (l0.take ((wrap64 ((wrap64 ((ji37) + (wrap64 (t285)))) + 4)) : Int).toNat)).bind fun t300 => (if t300 = true then (some ((wrap64 (rd l0 t286)), y293, wrap64 ((wrap64 ((ji37) + (wrap64 (t285)))) + 4), 0)) else (some (0, ([] : List Int), 0, 2)))) else (none)) else (none))) = some (r1, r2, r3, r4) := by first | (rw [hy293]; with_reducible exact H) | (have H2_ := (Option.bind_some _ _).symm.trans H; rw [hy293]; with_reducible exact H2_) | (have H2_ := (Option.bind_some _ _).symm.trans H; with_reducible exact H2_) | with_reducible exact H | (rw [hy293]; exact H) | exact H
         have Ny293 := Am hy293
         clear hy293
         replace H := Option.bind_eq_some_iff.mp H
         obtain ⟨t296, A420, H⟩ := H
         replace H : (if 0 ≤ (wrap64 ((wrap64 ((ji37) + (wrap64 (t285)))) + 4)) then (if (wrap64 ((wrap64 ((ji37) + (wrap64 (t285)))) + 4)) ≤ (l0.length : Int) then ((garnerref02_Bytes.f kj21 t296 (l0.take ((wrap64 ((wrap64 ((ji37) + (wrap64 (t285)))) + 4)) : Int).toNat)).bind fun t300 => (if t300 = true then (some ((wrap64 (rd l0 t286)), y293, wrap64 ((wrap64 ((ji37) + (wrap64 (t285)))) + 4), 0)) else (some (0, ([] : List Int), 0, 2)))) else (none)) else (none)) = some (r1, r2, r3, r4) := H
         have A42 := Am A420
         clear A420
         obtain ⟨ji43, hji43⟩ : ∃ j_ : Int, (wrap64 ((wrap64 ((ji37) + (wrap64 (t285)))) + 4)) = j_ := ⟨_, rfl⟩
         replace H : (if 0 ≤ (ji43) then (if (ji43) ≤ (l0.length : Int) then ((garnerref02_Bytes.f kj21 t296 (l0.take ((ji43) : Int).toNat)).bind fun t300 => (if t300 = true then (some ((wrap64 (rd l0 t286)), y293, ji43, 0)) else (some (0, ([] : List Int), 0, 2)))) else (none)) else (none)) = some (r1, r2, r3, r4) := by first | (rw [hji43] at H; exact H) | (simp only [hji43] at H ⊢; exact H)
         (try rw [hji43] at c34b0)
         (try rw [hji43] at c39b0)
         (try rw [hji43] at c39b1)
         (try rw [hji43] at c39)
         (try rw [hji43] at c40b0)
         (try rw [hji43] at c40b1)
         (try rw [hji43] at c40)
         (try rw [hji43] at A42)
         have hji43w : (IntKind.i64.wrap ((wrap64 ((ji37) + (wrap64 (t285)))) + 4)) = ji43 := (i64_w _).trans hji43
         by_cases c44 : 0 ≤ (ji43)
         rotate_left
         ·rw [if_neg c44] at H
          exact absurd H (by simp)
         rw [if_pos c44] at H
         have c44b0 := eq_true c44
         have c44b1 : decide (0 ≤ (ji43)) = true := decide_eq_true c44
         clear c44
         by_cases c45 : (ji43) ≤ (l0.length : Int)
         rotate_left
         ·rw [if_neg c45] at H
          exact absurd H (by simp)
         rw [if_pos c45] at H
         have c45b0 := eq_true c45
         have c45b1 : decide ((ji43) ≤ (l0.length : Int)) = true := decide_eq_true c45
         clear c45
         replace H := Option.bind_eq_some_iff.mp H
         obtain ⟨t300, A460, H⟩ := H
         replace H : (if t300 = true then (some ((wrap64 (rd l0 t286)), y293, ji43, 0)) else (some (0, ([] : List Int), 0, 2))) = some (r1, r2, r3, r4) := H
         have A46 := Am A460
         clear A460
         by_cases c47 : t300 = true
         rotate_left
         ·replace c47 := Bool.eq_false_iff.mpr c47
          subst c47
          have H1 : (some (0, ([] : List Int), 0, 2)) = some (r1, r2, r3, r4) := by rw [if_neg (show ¬ (false = true) by decide)] at H; exact H
          clear H
          have H := H1
          clear H1
          simp only [Option.some.injEq, Prod.mk.injEq] at H
          obtain ⟨rfl, rfl, rfl, rfl⟩ := H
          try go_wp2_with (first | ((with_reducible refine gate_dst (N := 79) rfl ?_); refine Kd.R_lit (Kd.int .u8) _ 5 ?hg (N := 79) ?hd (xs := ([] : List Int)) (inner := []) (ok := fun _ => True) (okp := fun _ => True) ?hr ?hp (fun _ hk => hk) trivial (Below.refl _ _) (Nat.le_refl _) (by simp) ?_; (case hd => rfl); (case hg => rfl); (case hr => first | (go_simp; done) | (go_simp; rfl)); (case hp => exact (Reps.none _ _)); intro v290 w62 ho63 hb hg_ hnew_; clear hg_ hnew_; (first | rw [← Ny289.out] at ho63 | (simp only [Int.reduceToNat] at ho63; rw [← Ny289.out] at ho63)); have Ao := Am (Kd.R_lower ho63 (below_size (pE2 HB.out Ac.out Ai.out))); replace Aa := kBa Aa hb; replace Ab := kBa Ab hb; replace HB := Am (below_step (pE2 HB.out Ac.out Ai.out) hb); clear hb ho63; obtain ⟨i064, hi064, _, Bs, _⟩ := info_parts info5; obtain ⟨A64, hcut64, hA64, Bx⟩ := print_mid_of (P := Try.prog) (Value.int .u8) 0 22 5 .i64 .i64 Try.underlying22 hi064 Bs (some Au) c0 l0 (ji37) (wrap64 ((ji37) + (wrap64 (t285)))) (of_decide_eq_true pS) (by first | omega | exact of_decide_eq_true pS) (of_decide_eq_true pS) HC0.out; have HR292 := Am (Kd.C_of_reads (h1 := fun _ => rfl) (hA64 _ (Kd.reads_of_C HR0.out))); have HC292 := Am Bx; clear hA64 Bx hi064 Bs) | ((with_reducible refine gate_builtin (b := .append) (xs := #[.tmp 79, .tmp 84]) rfl ?_); at_builtin; refine Kd.R_append_rows (Kd.int .u8) (w0 := w) w.heap.size rfl (.tmp 79) (.tmp 84) 22 5 (.int .u8 0) 1 rfl Try.underlying22 info5 rfl (by decide) (by omega) v290 y289 ((l0.take ((wrap64 ((ji37) + (wrap64 (t285)))) : Int).toNat).drop ((ji37) : Int).toNat) _ _ _ (fun _ => True) (fun _ => False) rfl rfl ?aO ?aR (fun _ _ h => h) (fun _ h => h.elim) ?aF ?aB ?aS ?aL ?_; (case aR => first | (rw [← show ((l0.take ((wrap64 ((ji37) + (wrap64 (t285)))) : Int).toNat).drop ((ji37) : Int).toNat).length = ((wrap64 ((ji37) + (wrap64 (t285)))).toNat - (ji37).toNat) from (by rw [List.length_drop, List.length_take]; have h_ : ((wrap64 ((ji37) + (wrap64 (t285)))) : Int) ≤ (l0.length : Int) := of_decide_eq_true pS; omega)]; exact pC (Kd.C_below HR292.out HB.out)) | (exact pC (Kd.C_below HR292.out HB.out))); (case aB => exact (pE2 HB.out Ac.out Ai.out)); (case aF => exact (fun _ _ => trivial)); (case aO => exact (pR Ao.out)); (case aS => exact (below_size (pE2 HB.out Ac.out Ai.out))); (case aL => have := LMc41.out; have hlx_ := (show ((l0.take ((wrap64 ((ji37) + (wrap64 (t285)))) : Int).toNat).drop ((ji37) : Int).toNat).length = ((wrap64 ((ji37) + (wrap64 (t285)))).toNat - (ji37).toNat) from (by rw [List.length_drop, List.length_take]; have h_ : ((wrap64 ((ji37) + (wrap64 (t285)))) : Int) ≤ (l0.length : Int) := of_decide_eq_true pS; omega)); omega); intro v294 w65 ho hb hg hat; rw [← Ny293.out] at ho; replace Aa := Am (blk_grown (g := Ah) (o := .cells #[.int .i64 0, .slice none 0 0] 50 (0, 0)) (pK Aa.out) hg (Kd.R_ne Ao.out Aa.out (by decide))); replace Ab := Am (blk_grown (g := Af) (o := .cells #[.int .i64 (wrap64 (rd l0 t286)), .slice none 0 0] 50 (0, 0)) (pK Ab.out) hg (Kd.R_ne Ao.out Ab.out (by decide))); replace HB := Am (hb); have Ae := Am (ho); clear Ao ho hb hg hat; obtain ⟨As, At, B6⟩ := Kd.R_slice Ae.out; subst B6; have hnb67 := Aj.out; have hnc67 := Ad.out; obtain ⟨_, _⟩ := bc2 Ab.out; obtain ⟨_, _⟩ := bf2 Ab.out))
          have n0_ : Aside0 (Kd.R (Kd.int .u8) 5 (w65.setCell ⟨Af, 1, none⟩ (.slice As y293.length At)) w.heap.size (fun _ => True) (.slice As y293.length At) y293) := ⟨by (with_reducible repeat (first | apply Kd.R_alloc | apply Kd.R_drewN | apply Kd.R_drew)); exact Kd.R_mono (Kd.R_far (p := ⟨Af, 1, none⟩) (Kd.R_types Ae.out Ab.out (by decide)) (fun _ hk => hk.2) (.slice As y293.length At)) (fun _ hk => trivial)⟩
          have n1_ : Aside0 ((w65.setCell ⟨Af, 1, none⟩ (.slice As y293.length At)).heap[Ah]? = some (.cells #[.int .i64 0, .slice none 0 0] 50 (0, 0))) := ⟨kX1 Aa.out Ad.out⟩
          have n2_ : Aside0 ((w65.setCell ⟨Af, 1, none⟩ (.slice As y293.length At)).heap[Af]? = some (.cells #[.int .i64 (wrap64 (rd l0 t286)), .slice As y293.length At] 50 (0, 0))) := ⟨by (with_reducible repeat (first | refine blk_drewN ?_ _ | refine blk_drew ?_ | refine blk_alloc ?_ _)); refine blk_put (cs := #[.int .i64 (wrap64 (rd l0 t286)), .slice none 0 0]) ?_ 1 _ rfl; (with_reducible repeat (first | refine blk_drewN ?_ _ | refine blk_drew ?_ | refine blk_alloc ?_ _)); exact Ab.out⟩
          have n3_ : Aside0 (Below w.heap.size w (w65.setCell ⟨Af, 1, none⟩ (.slice As y293.length At))) := ⟨pE2 HB.out Ac.out Ai.out⟩
          (try clear Ae)
          (try clear Aa)
          (try clear Ab)
          (try clear HB)
          generalize (w65.setCell ⟨Af, 1, none⟩ (.slice As y293.length At)) = w69 at n0_ n1_ n2_ n3_ ⊢
          have Ae := n0_
          have Aa := n1_
          have Ab := n2_
          have HB := n3_
          clear n0_ n1_ n2_ n3_
          replace Ae := dRa Ae
          replace Aa := kDa Aa
          replace Ab := kDa Ab
          replace HB := bDa HB
          obtain ⟨i071, hi071, _, Bt, _⟩ := info_parts info5
          obtain ⟨hcut71, hA71, By⟩ := print_take_of (P := Try.prog) (Value.int .u8) 0 22 5 .i64 Try.underlying22 hi071 Bt (some Au) c0 l0 (ji43) (of_decide_eq_true pS) (of_decide_eq_true pS) HC0.out
          have HR299 := Am (Kd.C_of_reads (h1 := fun _ => rfl) (hA71 _ (Kd.reads_of_C HR0.out)))
          have HC299 := Am By
          clear hA71 By hi071 Bt
          refine start_ (n := 8) (S := fun w' => cG w' Af 0 (.int .i64 (wrap64 (rd l0 t286))) ∧ cG w' Af 1 (.slice As y293.length At)) (ds := []) #[false, false, false, false, false, false, false, false] (by kernel_rfl) rfl rfl ⟨(blk_cell Ab.out 0).trans rfl, (blk_cell Ab.out 1).trans rfl⟩ (fun hHeld => ?_); refine with_tabW garnerref03_First.tab18 garnerref03_First.bits18 (fun HT_ HW_ => ?_)
          generalize w69.drew = w70 at Ae Aa Ab HB HR299 hHeld ⊢
          refine pui 2 89 8 4 HT_ ?_
          refine pui 3 90 8 12 HT_ ?_
          refine pui 4 91 8 28 HT_ ?_
          refine pui 5 92 8 60 HT_ ?_
          refine tki 0 87 8 61 HT_ HW_ hHeld ?_
          refine onei 1 88 8 63 HT_ (fun K hK => ?_)
          refine goes_ Try.func32 (by kernel_rfl) rfl #[.agg #[.int .i64 (wrap64 (rd l0 t286)), .slice As y293.length At]] (by rfl) rfl rfl pL ?_
          with_reducible refine (garnerref03_Put.calls kj21 (wrap64 (rd l0 t286)) _ _ y293 t296 _ ?Al ?An A42.out).mono ?_
          (case Al => exact pC (Kd.R_reads' Ae.out).2.2)
          (case An => exact (Kd.R_reads' Ae.out).2.1)
          rintro e w72 ⟨v297, rfl, ho0, hb⟩
          refine ⟨_, rfl, ?_⟩
          have Ar := Am (Kd.R_lower (Kd.R_new' ho0 (Kd.R_lt (pR Ae.out))) (below_size (pE2 HB.out Ac.out Ai.out)))
          replace Ae := Am (Kd.R_elder' (pR Ae.out) (Kd.R_base ho0) hb)
          replace Aa := kBa Aa hb
          replace Ab := kBa Ab hb
          replace HB := Am (below_step (pE2 HB.out Ac.out Ai.out) hb)
          (try clear hb)
          (try clear hb2)
          (try clear hk)
          (try clear hi)
          (try clear ho0)
          obtain ⟨B7, B8, Bz⟩ := Kd.R_slice Ar.out
          (first | subst Bz | (injection Bz with f1_ f2_ f3_; have f4_ := f1_.symm; have f5_ := f3_.symm; clear f1_ f2_ f3_; subst f4_; subst f5_))
          refine hK.out _ _ ⟨(blk_cell Ab.out 0).trans rfl, (blk_cell Ab.out 1).trans rfl⟩ (fun hHeld => ?_)
          clear hK K
          refine norm_ (a' := ?_) ?_ ?_
          rotate_left
          ·show Act.put _ (some 88) _ = _
           simp only [Act.put, List.setIfInBounds_toArray, List.set_cons_zero, List.set_cons_succ, i64_w, i32_w]
           rfl
          refine onei 6 93 8 127 HT_ (fun K hK => ?_)
          refine goes_ Try.func11 (by kernel_rfl) rfl #[.slice B7 t296.length B8, .slice (some Au) (l0.take ((ji43) : Int).toNat).length c0] (by rfl) rfl rfl (by (try simp only [List.map_toArray, List.map_cons, List.map_nil]); first | done | (rw [show (l0.take ((ji43) : Int).toNat).length = (ji43).toNat from (by rw [List.length_take]; have h_ : ((ji43) : Int) ≤ (l0.length : Int) := of_decide_eq_true pS; omega)] <;> rfl) | (simp only [hji43]; rfl) | rfl | (simp only [List.length_drop, List.length_take]; rfl)) ?_
          with_reducible refine (garnerref02_Bytes.calls kj21 _ _ t296 _ _ (l0.take ((ji43) : Int).toNat) false _ ?Al ?An ?A4 ?A5 A46.out).mono ?_
          (case Al => exact pC (Kd.R_reads' Ar.out).2.2)
          (case An => exact (Kd.R_reads' Ar.out).2.1)
          (case A4 => exact pC (Kd.C_below HR299.out HB.out))
          (case A5 => exact HC299.out)
          rintro e w' ⟨rfl, ⟨nd, rfl⟩⟩
          refine ⟨_, rfl, ?_⟩
          refine hK.out _ _ ⟨(blk_cell Ab.out 0).trans rfl, (blk_cell Ab.out 1).trans rfl⟩ (fun hHeld => ?_)
          clear hK K
          refine norm_ (a' := ?_) ?_ ?_
          rotate_left
          ·show Act.put _ (some 93) _ = _
           simp only [Act.put, List.setIfInBounds_toArray, List.set_cons_zero, List.set_cons_succ, i64_w, i32_w]
           rfl
          refine pui 7 94 8 255 HT_ ?_
          refine done_ (done_of HT_.out (by kernel_rfl)) ?_
          obtain ⟨_, _⟩ := bc2 Aa.out
          obtain ⟨_, _⟩ := bf2 Aa.out
          try go_wp2
          refine bodyPost_ret (results_ctt rfl _ _ Ah 50 #[.int .i64 0, .slice none 0 0] (0, 0) _ rfl (kX0 Aa.out) Try.underlying50 rfl (by kernel_rfl)) rfl ?_
          exact ⟨_, by first | rfl | (simp [errW_none, errW_some] <;> rfl) | (simp only [← hji37, ← hji43]; first | rfl | (simp [errW_none, errW_some] <;> rfl)) | (simp [*, errW_none, errW_some] <;> rfl), by first | exact Kd.R_nil _ _ _ _ _ | exact Kd.N_nil _ _ _ _ _ | exact Kd.V_nil _ _ _ _ _ | exact Kd.Q_nil _ _ _ _ _ | exact Kd.S_nil _ _ _ _ _, pE2 HB.out Ac.out Ai.out⟩
         subst c47
         have H1 : (some ((wrap64 (rd l0 t286)), y293, ji43, 0)) = some (r1, r2, r3, r4) := by rw [if_pos rfl] at H; exact H
         clear H
         have H := H1
         clear H1
         simp only [Option.some.injEq, Prod.mk.injEq] at H
         obtain ⟨rfl, rfl, rfl, rfl⟩ := H
         try go_wp2_with (first | ((with_reducible refine gate_dst (N := 79) rfl ?_); refine Kd.R_lit (Kd.int .u8) _ 5 ?hg (N := 79) ?hd (xs := ([] : List Int)) (inner := []) (ok := fun _ => True) (okp := fun _ => True) ?hr ?hp (fun _ hk => hk) trivial (Below.refl _ _) (Nat.le_refl _) (by simp) ?_; (case hd => rfl); (case hg => rfl); (case hr => first | (go_simp; done) | (go_simp; rfl)); (case hp => exact (Reps.none _ _)); intro v290 w48 ho49 hb hg_ hnew_; clear hg_ hnew_; (first | rw [← Ny289.out] at ho49 | (simp only [Int.reduceToNat] at ho49; rw [← Ny289.out] at ho49)); have Ao := Am (Kd.R_lower ho49 (below_size (pE2 HB.out Ac.out Ai.out))); replace Aa := kBa Aa hb; replace Ab := kBa Ab hb; replace HB := Am (below_step (pE2 HB.out Ac.out Ai.out) hb); clear hb ho49; obtain ⟨i050, hi050, _, Bq, _⟩ := info_parts info5; obtain ⟨A50, hcut50, hA50, Bu⟩ := print_mid_of (P := Try.prog) (Value.int .u8) 0 22 5 .i64 .i64 Try.underlying22 hi050 Bq (some Au) c0 l0 (ji37) (wrap64 ((ji37) + (wrap64 (t285)))) (of_decide_eq_true pS) (by first | omega | exact of_decide_eq_true pS) (of_decide_eq_true pS) HC0.out; have HR292 := Am (Kd.C_of_reads (h1 := fun _ => rfl) (hA50 _ (Kd.reads_of_C HR0.out))); have HC292 := Am Bu; clear hA50 Bu hi050 Bq) | ((with_reducible refine gate_builtin (b := .append) (xs := #[.tmp 79, .tmp 84]) rfl ?_); at_builtin; refine Kd.R_append_rows (Kd.int .u8) (w0 := w) w.heap.size rfl (.tmp 79) (.tmp 84) 22 5 (.int .u8 0) 1 rfl Try.underlying22 info5 rfl (by decide) (by omega) v290 y289 ((l0.take ((wrap64 ((ji37) + (wrap64 (t285)))) : Int).toNat).drop ((ji37) : Int).toNat) _ _ _ (fun _ => True) (fun _ => False) rfl rfl ?aO ?aR (fun _ _ h => h) (fun _ h => h.elim) ?aF ?aB ?aS ?aL ?_; (case aR => first | (rw [← show ((l0.take ((wrap64 ((ji37) + (wrap64 (t285)))) : Int).toNat).drop ((ji37) : Int).toNat).length = ((wrap64 ((ji37) + (wrap64 (t285)))).toNat - (ji37).toNat) from (by rw [List.length_drop, List.length_take]; have h_ : ((wrap64 ((ji37) + (wrap64 (t285)))) : Int) ≤ (l0.length : Int) := of_decide_eq_true pS; omega)]; exact pC (Kd.C_below HR292.out HB.out)) | (exact pC (Kd.C_below HR292.out HB.out))); (case aB => exact (pE2 HB.out Ac.out Ai.out)); (case aF => exact (fun _ _ => trivial)); (case aO => exact (pR Ao.out)); (case aS => exact (below_size (pE2 HB.out Ac.out Ai.out))); (case aL => have := LMc41.out; have hlx_ := (show ((l0.take ((wrap64 ((ji37) + (wrap64 (t285)))) : Int).toNat).drop ((ji37) : Int).toNat).length = ((wrap64 ((ji37) + (wrap64 (t285)))).toNat - (ji37).toNat) from (by rw [List.length_drop, List.length_take]; have h_ : ((wrap64 ((ji37) + (wrap64 (t285)))) : Int) ≤ (l0.length : Int) := of_decide_eq_true pS; omega)); omega); intro v294 w51 ho hb hg hat; rw [← Ny293.out] at ho; replace Aa := Am (blk_grown (g := Ah) (o := .cells #[.int .i64 0, .slice none 0 0] 50 (0, 0)) (pK Aa.out) hg (Kd.R_ne Ao.out Aa.out (by decide))); replace Ab := Am (blk_grown (g := Af) (o := .cells #[.int .i64 (wrap64 (rd l0 t286)), .slice none 0 0] 50 (0, 0)) (pK Ab.out) hg (Kd.R_ne Ao.out Ab.out (by decide))); replace HB := Am (hb); have Ae := Am (ho); clear Ao ho hb hg hat; obtain ⟨Ap, Aq, B3⟩ := Kd.R_slice Ae.out; subst B3; have hnb53 := Aj.out; have hnc53 := Ad.out; obtain ⟨_, _⟩ := bc2 Ab.out; obtain ⟨_, _⟩ := bf2 Ab.out))
         have n0_ : Aside0 (Kd.R (Kd.int .u8) 5 (w51.setCell ⟨Af, 1, none⟩ (.slice Ap y293.length Aq)) w.heap.size (fun _ => True) (.slice Ap y293.length Aq) y293) := ⟨by (with_reducible repeat (first | apply Kd.R_alloc | apply Kd.R_drewN | apply Kd.R_drew)); exact Kd.R_mono (Kd.R_far (p := ⟨Af, 1, none⟩) (Kd.R_types Ae.out Ab.out (by decide)) (fun _ hk => hk.2) (.slice Ap y293.length Aq)) (fun _ hk => trivial)⟩
         have n1_ : Aside0 ((w51.setCell ⟨Af, 1, none⟩ (.slice Ap y293.length Aq)).heap[Ah]? = some (.cells #[.int .i64 0, .slice none 0 0] 50 (0, 0))) := ⟨kX1 Aa.out Ad.out⟩
         have n2_ : Aside0 ((w51.setCell ⟨Af, 1, none⟩ (.slice Ap y293.length Aq)).heap[Af]? = some (.cells #[.int .i64 (wrap64 (rd l0 t286)), .slice Ap y293.length Aq] 50 (0, 0))) := ⟨by (with_reducible repeat (first | refine blk_drewN ?_ _ | refine blk_drew ?_ | refine blk_alloc ?_ _)); refine blk_put (cs := #[.int .i64 (wrap64 (rd l0 t286)), .slice none 0 0]) ?_ 1 _ rfl; (with_reducible repeat (first | refine blk_drewN ?_ _ | refine blk_drew ?_ | refine blk_alloc ?_ _)); exact Ab.out⟩
         have n3_ : Aside0 (Below w.heap.size w (w51.setCell ⟨Af, 1, none⟩ (.slice Ap y293.length Aq))) := ⟨pE2 HB.out Ac.out Ai.out⟩
         (try clear Ae)
         (try clear Aa)
         (try clear Ab)
         (try clear HB)
         generalize (w51.setCell ⟨Af, 1, none⟩ (.slice Ap y293.length Aq)) = w55 at n0_ n1_ n2_ n3_ ⊢
         have Ae := n0_
         have Aa := n1_
         have Ab := n2_
         have HB := n3_
         clear n0_ n1_ n2_ n3_
         replace Ae := dRa Ae
         replace Aa := kDa Aa
         replace Ab := kDa Ab
         replace HB := bDa HB
         obtain ⟨i057, hi057, _, Br, _⟩ := info_parts info5
         obtain ⟨hcut57, hA57, Bv⟩ := print_take_of (P := Try.prog) (Value.int .u8) 0 22 5 .i64 Try.underlying22 hi057 Br (some Au) c0 l0 (ji43) (of_decide_eq_true pS) (of_decide_eq_true pS) HC0.out
         have HR299 := Am (Kd.C_of_reads (h1 := fun _ => rfl) (hA57 _ (Kd.reads_of_C HR0.out)))
         have HC299 := Am Bv
         clear hA57 Bv hi057 Br
         refine start_ (n := 8) (S := fun w' => cG w' Af 0 (.int .i64 (wrap64 (rd l0 t286))) ∧ cG w' Af 1 (.slice Ap y293.length Aq)) (ds := []) #[false, false, false, false, false, false, false, false] (by kernel_rfl) rfl rfl ⟨(blk_cell Ab.out 0).trans rfl, (blk_cell Ab.out 1).trans rfl⟩ (fun hHeld => ?_); refine with_tabW garnerref03_First.tab18 garnerref03_First.bits18 (fun HT_ HW_ => ?_)
         generalize w55.drew = w56 at Ae Aa Ab HB HR299 hHeld ⊢
         refine pui 2 89 8 4 HT_ ?_
         refine pui 3 90 8 12 HT_ ?_
         refine pui 4 91 8 28 HT_ ?_
         refine pui 5 92 8 60 HT_ ?_
         refine tki 0 87 8 61 HT_ HW_ hHeld ?_
         refine onei 1 88 8 63 HT_ (fun K hK => ?_)
         refine goes_ Try.func32 (by kernel_rfl) rfl #[.agg #[.int .i64 (wrap64 (rd l0 t286)), .slice Ap y293.length Aq]] (by rfl) rfl rfl pL ?_
         with_reducible refine (garnerref03_Put.calls kj21 (wrap64 (rd l0 t286)) _ _ y293 t296 _ ?Al ?An A42.out).mono ?_
         (case Al => exact pC (Kd.R_reads' Ae.out).2.2)
         (case An => exact (Kd.R_reads' Ae.out).2.1)
         rintro e w58 ⟨v297, rfl, ho0, hb⟩
         refine ⟨_, rfl, ?_⟩
         have Ar := Am (Kd.R_lower (Kd.R_new' ho0 (Kd.R_lt (pR Ae.out))) (below_size (pE2 HB.out Ac.out Ai.out)))
         replace Ae := Am (Kd.R_elder' (pR Ae.out) (Kd.R_base ho0) hb)
         replace Aa := kBa Aa hb
         replace Ab := kBa Ab hb
         replace HB := Am (below_step (pE2 HB.out Ac.out Ai.out) hb)
         (try clear hb)
         (try clear hb2)
         (try clear hk)
         (try clear hi)
         (try clear ho0)
         obtain ⟨B4, B5, Bw⟩ := Kd.R_slice Ar.out
         (first | subst Bw | (injection Bw with f1_ f2_ f3_; have f4_ := f1_.symm; have f5_ := f3_.symm; clear f1_ f2_ f3_; subst f4_; subst f5_))
         refine hK.out _ _ ⟨(blk_cell Ab.out 0).trans rfl, (blk_cell Ab.out 1).trans rfl⟩ (fun hHeld => ?_)
         clear hK K
         refine norm_ (a' := ?_) ?_ ?_
         rotate_left
         ·show Act.put _ (some 88) _ = _
          simp only [Act.put, List.setIfInBounds_toArray, List.set_cons_zero, List.set_cons_succ, i64_w, i32_w]
          rfl
         refine onei 6 93 8 127 HT_ (fun K hK => ?_)
         refine goes_ Try.func11 (by kernel_rfl) rfl #[.slice B4 t296.length B5, .slice (some Au) (l0.take ((ji43) : Int).toNat).length c0] (by rfl) rfl rfl (by (try simp only [List.map_toArray, List.map_cons, List.map_nil]); first | done | (rw [show (l0.take ((ji43) : Int).toNat).length = (ji43).toNat from (by rw [List.length_take]; have h_ : ((ji43) : Int) ≤ (l0.length : Int) := of_decide_eq_true pS; omega)] <;> rfl) | (simp only [hji43]; rfl) | rfl | (simp only [List.length_drop, List.length_take]; rfl)) ?_
         with_reducible refine (garnerref02_Bytes.calls kj21 _ _ t296 _ _ (l0.take ((ji43) : Int).toNat) true _ ?Al ?An ?A4 ?A5 A46.out).mono ?_
         (case Al => exact pC (Kd.R_reads' Ar.out).2.2)
         (case An => exact (Kd.R_reads' Ar.out).2.1)
         (case A4 => exact pC (Kd.C_below HR299.out HB.out))
         (case A5 => exact HC299.out)
         rintro e w' ⟨rfl, ⟨nd, rfl⟩⟩
         refine ⟨_, rfl, ?_⟩
         refine hK.out _ _ ⟨(blk_cell Ab.out 0).trans rfl, (blk_cell Ab.out 1).trans rfl⟩ (fun hHeld => ?_)
         clear hK K
         refine norm_ (a' := ?_) ?_ ?_
         rotate_left
         ·show Act.put _ (some 93) _ = _
          simp only [Act.put, List.setIfInBounds_toArray, List.set_cons_zero, List.set_cons_succ, i64_w, i32_w]
          rfl
         refine pui 7 94 8 255 HT_ ?_
         refine done_ (done_of HT_.out (by kernel_rfl)) ?_
         obtain ⟨_, _⟩ := bc2 Ab.out
         obtain ⟨_, _⟩ := bf2 Ab.out
         obtain ⟨_, _⟩ := bc2 Aa.out
         obtain ⟨_, _⟩ := bf2 Aa.out
         try go_wp2
         refine bodyPost_ret (results_ctt rfl _ _ Ah 50 #[.int .i64 (wrap64 (rd l0 t286)), .slice Ap y293.length Aq] (0, 0) _ rfl (kX0 Aa.out) Try.underlying50 rfl (by kernel_rfl)) rfl ?_
         exact ⟨_, by first | rfl | (simp [errW_none, errW_some] <;> rfl) | (simp only [← hji37, ← hji43]; first | rfl | (simp [errW_none, errW_some] <;> rfl)) | (simp [*, errW_none, errW_some] <;> rfl), by (with_reducible repeat (first | apply Kd.R_alloc | apply Kd.R_drewN | apply Kd.R_drew)); exact Kd.R_mono (Rf2 (g := Ah) (Kd.R_types Ae.out Aa.out (by decide)) (fun _ hk => hk.2)) (fun _ hk => trivial), pE2 HB.out Ac.out Ai.out⟩
end Go.Proofs.Ytjebpaahpehfnaa.PRelayGets
