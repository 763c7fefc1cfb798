/- What the law reaches, as plain Lean functions, and that the machine's calls answer just that. -/
import Derived.Test.YtlcajceefhgalaaPNameAllx0
import Derived.Test.YtlcajceefhgalaaPNameAllx3
namespace Go.Proofs.Ytlcajceefhgalaa.PNameAll
open Go.RowKit Go.Proofs.YtlcajceefhgalaaW.PrintWords Go.Proofs.YtlcajceefhgalaaW.PrintLast Go.Proofs.YtlcajceefhgalaaW.PrintMore
attribute [local go_sem] max2_int min2_int max_two min_two max_three min_three max_four min_four
set_option linter.unusedVariables false
set_option linter.unusedSimpArgs false
attribute [local go_sem] wrap64_l1 wrap64_l2 wrap64_l3 wrap64_l4 wrap64_l5
def garnerref07_number.l0 : Nat → ByteArray → Int → Int → Option (Int)
 | 0, _, _, _ => none
 | k + 1, x0, x3, x4 => if x4 < (x0.size : Int) then (if 0 ≤ x4 then (if (bt x0 x4) < 48 then (some (-1)) else (if (bt x0 x4) > 57 then (some (-1)) else (garnerref07_number.l0 k x0 (wrap64 ((wrap64 (10 * x3)) + (((bt x0 x4) - 48) % 256))) (wrap64 (x4 + 1))))) else (none)) else (some x3)
def garnerref07_number.f (k : Nat) (a0 : ByteArray) : Option (Int) := garnerref07_number.l0 k a0 0 0
theorem garnerref07_number.mono_l : ∀ k, (∀ y0 y1 y2, LeO (garnerref07_number.l0 k y0 y1 y2) (garnerref07_number.l0 (k + 1) y0 y1 y2))
 | 0 => fun _ _ _ r h => by simp [garnerref07_number.l0] at h
 | k + 1 => by
  have ih0 := garnerref07_number.mono_l k
  ·intro y0 y1 y2
   unfold garnerref07_number.l0
   repeat' first
   | (with_reducible exact ih0 _ _ _)
   | (with_reducible exact LeO.refl _)
   | (with_reducible exact LeO.none _)
   | (with_reducible refine LeO.ite ?_ ?_)
   | (with_reducible refine LeO.bind ?_ (fun _ => ?_))
   | exact ih0 _ _ _
   | exact LeO.none _
   | refine LeO.ite ?_ ?_
   | refine LeO.bind ?_ (fun _ => ?_)
theorem garnerref07_number.mono : ∀ a0 k, LeO (garnerref07_number.f k a0) (garnerref07_number.f (k + 1) a0) := by
 intro a0 k
 have ih0 := garnerref07_number.mono_l k
 unfold garnerref07_number.f
 repeat' first
   | (with_reducible exact ih0 _ _ _)
   | (with_reducible exact LeO.refl _)
   | (with_reducible exact LeO.none _)
   | (with_reducible refine LeO.ite ?_ ?_)
   | (with_reducible refine LeO.bind ?_ (fun _ => ?_))
   | exact ih0 _ _ _
   | exact LeO.none _
   | refine LeO.ite ?_ ?_
   | refine LeO.bind ?_ (fun _ => ?_)
set_option maxHeartbeats 8000000 in
set_option maxRecDepth 100000 in
theorem garnerref07_number.calls (k : Nat) (a0 : ByteArray) (r : Int) (w : World) (h : garnerref07_number.f k a0 = some r) :
  Calls Try.prog 16 #[.string a0] w fun e w' => e = .returned (.int .i64 r) ∧ Drawn0 w w' := by
 have H : (garnerref07_number.l0 k a0 0 0) = some r := h
 clear h
 have H' := Am H
 clear H
 go_enter Try.func16, Try.ntmps16
 go_wp2
 go_loopg [3, 4] k (fun kq v3 v4 w' => ∃ (Ab : Int) (Aa : Int), v3 = .int .i64 Ab ∧ v4 = .int .i64 Aa ∧ Aside0 (garnerref07_number.l0 kq a0 Ab Aa = some r) ∧ Aside0 (kq ≤ k) ∧ Drawn0 w w')
 case atStart => exact ⟨(0), (0), (by first | rfl | (simp; done) | (simp [*]; done)), (by first | rfl | (simp; done) | (simp [*]; done)), H', ⟨Nat.le_refl _⟩, by repeat (first | exact Drawn0.refl _ | apply Drawn0.step)⟩
 case round =>
  clear H'
  try clear c1
  obtain ⟨Ab, Aa, rfl, rfl, HA, HK1, ⟨m1, rfl⟩⟩ := hrel
  cases gk with
  | zero => exact absurd HA.out (by simp [garnerref07_number.l0])
  | succ k1 =>
   have H := HA.out
   clear HA
   simp only [garnerref07_number.l0] at H
   by_cases c2 : Aa < (a0.size : Int)
   rotate_left
   ·rw [if_neg c2] at H
    have c2b0 : decide (Aa < (a0.size : Int)) = false := decide_eq_false c2
    clear c2
    obtain rfl := Option.some.inj H
    go_wp2
    go_ret
    exact ⟨by first | rfl | (simp; done) | (simp [*]; done), by repeat (first | exact Drawn0.refl _ | apply Drawn0.step)⟩
   rw [if_pos c2] at H
   have c2b0 : decide (Aa < (a0.size : Int)) = true := decide_eq_true c2
   clear c2
   by_cases c3 : 0 ≤ Aa
   rotate_left
   ·rw [if_neg c3] at H
    exact absurd H (by simp)
   rw [if_pos c3] at H
   have c3b0 : decide (0 ≤ Aa) = true := decide_eq_true c3
   clear c3
   by_cases c5 : (bt a0 Aa) < 48
   ·rw [if_pos c5] at H
    have c5b0 : decide ((bt a0 Aa) < 48) = true := decide_eq_true c5
    clear c5
    obtain rfl := Option.some.inj H
    have p4 : 0 ≤ (Aa : Int) := of_decide_eq_true pS
    have q4 : Aa < (a0.size : Int) := of_decide_eq_true pS
    have hx4 := bt_at a0 Aa
    replace p4 := eq_true p4
    replace q4 := eq_true q4
    go_wp2
    go_ret
    exact ⟨by first | rfl | (simp; done) | (simp [*]; done), by repeat (first | exact Drawn0.refl _ | apply Drawn0.step)⟩
   rw [if_neg c5] at H
   have c5b0 : decide ((bt a0 Aa) < 48) = false := decide_eq_false c5
   clear c5
   by_cases c7 : (bt a0 Aa) > 57
   ·rw [if_pos c7] at H
    have c7b0 : decide (57 < (bt a0 Aa)) = true := decide_eq_true c7
    clear c7
    obtain rfl := Option.some.inj H
    have p4 : 0 ≤ (Aa : Int) := of_decide_eq_true pS
    have q4 : Aa < (a0.size : Int) := of_decide_eq_true pS
    have hx4 := bt_at a0 Aa
    replace p4 := eq_true p4
    replace q4 := eq_true q4
    have p6 : 0 ≤ (Aa : Int) := of_decide_eq_true pS
    have q6 : Aa < (a0.size : Int) := of_decide_eq_true pS
    have hx6 := bt_at a0 Aa
    replace p6 := eq_true p6
    replace q6 := eq_true q6
    go_wp2
    go_ret
    exact ⟨by first | rfl | (simp; done) | (simp [*]; done), by repeat (first | exact Drawn0.refl _ | apply Drawn0.step)⟩
   rw [if_neg c7] at H
   have c7b0 : decide (57 < (bt a0 Aa)) = false := decide_eq_false c7
   clear c7
   have H' := Am H
   clear H
   have p4 : 0 ≤ (Aa : Int) := of_decide_eq_true pS
   have q4 : Aa < (a0.size : Int) := of_decide_eq_true pS
   have hx4 := bt_at a0 Aa
   replace p4 := eq_true p4
   replace q4 := eq_true q4
   have p6 : 0 ≤ (Aa : Int) := of_decide_eq_true pS
   have q6 : Aa < (a0.size : Int) := of_decide_eq_true pS
   have hx6 := bt_at a0 Aa
   replace p6 := eq_true p6
   replace q6 := eq_true q6
   have p8 : 0 ≤ (Aa : Int) := of_decide_eq_true pS
   have q8 : Aa < (a0.size : Int) := of_decide_eq_true pS
   have hx8 := bt_at a0 Aa
   replace p8 := eq_true p8
   replace q8 := eq_true q8
   go_wp2
   go_roundg k1
   case measure => have := HK1.out; omega
   case rel => exact ⟨(wrap64 ((wrap64 (10 * Ab)) + (((bt a0 Aa) - 48) % 256))), (wrap64 (Aa + 1)), (by first | rfl | (simp; done) | (simp [*]; done)), (by first | rfl | (simp; done) | (simp [*]; done)), H', ⟨by have := HK1.out; omega⟩, by repeat (first | exact Drawn0.refl _ | apply Drawn0.step)⟩
mutual
def garnerref07_Parse.l0 : Nat → ByteArray → Int → Option (Int × Int)
 | 0, _, _ => none
 | k + 1, x0, x3 => if x3 ≤ 2 then ((garnerref07_Of.f k x3 0).bind fun t123 => (if t123.toList = x0.toList then (some (x3, 0)) else (garnerref07_Parse.l0 k x0 (wrap64 (x3 + 1))))) else (garnerref07_Parse.l1 k x0 3)
def garnerref07_Parse.l1 : Nat → ByteArray → Int → Option (Int × Int)
 | 0, _, _ => none
 | k + 1, x0, x4 => if x4 ≤ 7 then (garnerref07_Parse.j2 k x0 x4 ((x0.size : Int) == 11)) else (garnerref07_Parse.j2 k x0 x4 false)
def garnerref07_Parse.j2 : Nat → ByteArray → Int → Bool → Option (Int × Int)
 | 0, _, _, _ => none
 | k + 1, x0, x4, x23 => if x23 = true then (if 1 ≤ (x0.size : Int) then ((garnerref07_number.f k (x0.extract 1 x0.size)).bind fun t124 => (if t124 ≥ 1 then ((garnerref07_Of.f k x4 t124).bind fun t126 => (if t126.toList = x0.toList then (some (x4, t124)) else (garnerref07_Parse.l1 k x0 (wrap64 (x4 + 1))))) else (garnerref07_Parse.l1 k x0 (wrap64 (x4 + 1))))) else (none)) else (some (0, 0))
end
def garnerref07_Parse.f (k : Nat) (a0 : ByteArray) : Option (Int × Int) := garnerref07_Parse.l0 k a0 1
theorem garnerref07_Parse.mono_l : ∀ k, (∀ y0 y1, LeO (garnerref07_Parse.l0 k y0 y1) (garnerref07_Parse.l0 (k + 1) y0 y1)) ∧ (∀ y0 y1, LeO (garnerref07_Parse.l1 k y0 y1) (garnerref07_Parse.l1 (k + 1) y0 y1)) ∧ (∀ y0 y1 y2, LeO (garnerref07_Parse.j2 k y0 y1 y2) (garnerref07_Parse.j2 (k + 1) y0 y1 y2))
 | 0 => ⟨fun _ _ r h => by simp [garnerref07_Parse.l0] at h, fun _ _ r h => by simp [garnerref07_Parse.l1] at h, fun _ _ _ r h => by simp [garnerref07_Parse.j2] at h⟩
 | k + 1 => by
  obtain ⟨ih0, ih1, ih2⟩ := garnerref07_Parse.mono_l k
  refine ⟨?_, ?_, ?_⟩
  ·intro y0 y1
   unfold garnerref07_Parse.l0
   repeat' first
   | (with_reducible exact ih0 _ _)
   | (with_reducible exact ih1 _ _)
   | (with_reducible exact ih2 _ _ _)
   | (with_reducible exact garnerref07_Of.mono _ _ _)
   | (with_reducible exact garnerref07_number.mono _ _)
   | (with_reducible exact LeO.refl _)
   | (with_reducible exact LeO.none _)
   | (with_reducible refine LeO.ite ?_ ?_)
   | (with_reducible refine LeO.bind ?_ (fun _ => ?_))
   | exact ih0 _ _
   | exact ih1 _ _
   | exact ih2 _ _ _
   | exact garnerref07_Of.mono _ _ _
   | exact garnerref07_number.mono _ _
   | exact LeO.none _
   | refine LeO.ite ?_ ?_
   | refine LeO.bind ?_ (fun _ => ?_)
  ·intro y0 y1
   unfold garnerref07_Parse.l1
   repeat' first
   | (with_reducible exact ih0 _ _)
   | (with_reducible exact ih1 _ _)
   | (with_reducible exact ih2 _ _ _)
   | (with_reducible exact garnerref07_Of.mono _ _ _)
   | (with_reducible exact garnerref07_number.mono _ _)
   | (with_reducible exact LeO.refl _)
   | (with_reducible exact LeO.none _)
   | (with_reducible refine LeO.ite ?_ ?_)
   | (with_reducible refine LeO.bind ?_ (fun _ => ?_))
   | exact ih0 _ _
   | exact ih1 _ _
   | exact ih2 _ _ _
   | exact garnerref07_Of.mono _ _ _
   | exact garnerref07_number.mono _ _
   | exact LeO.none _
   | refine LeO.ite ?_ ?_
   | refine LeO.bind ?_ (fun _ => ?_)
  ·intro y0 y1 y2
   unfold garnerref07_Parse.j2
   repeat' first
   | (with_reducible exact ih0 _ _)
   | (with_reducible exact ih1 _ _)
   | (with_reducible exact ih2 _ _ _)
   | (with_reducible exact garnerref07_Of.mono _ _ _)
   | (with_reducible exact garnerref07_number.mono _ _)
   | (with_reducible exact LeO.refl _)
   | (with_reducible exact LeO.none _)
   | (with_reducible refine LeO.ite ?_ ?_)
   | (with_reducible refine LeO.bind ?_ (fun _ => ?_))
   | exact ih0 _ _
   | exact ih1 _ _
   | exact ih2 _ _ _
   | exact garnerref07_Of.mono _ _ _
   | exact garnerref07_number.mono _ _
   | exact LeO.none _
   | refine LeO.ite ?_ ?_
   | refine LeO.bind ?_ (fun _ => ?_)
theorem garnerref07_Parse.mono : ∀ a0 k, LeO (garnerref07_Parse.f k a0) (garnerref07_Parse.f (k + 1) a0) := by
 intro a0 k
 obtain ⟨ih0, ih1, ih2⟩ := garnerref07_Parse.mono_l k
 unfold garnerref07_Parse.f
 repeat' first
   | (with_reducible exact ih0 _ _)
   | (with_reducible exact ih1 _ _)
   | (with_reducible exact ih2 _ _ _)
   | (with_reducible exact garnerref07_Of.mono _ _ _)
   | (with_reducible exact garnerref07_number.mono _ _)
   | (with_reducible exact LeO.refl _)
   | (with_reducible exact LeO.none _)
   | (with_reducible refine LeO.ite ?_ ?_)
   | (with_reducible refine LeO.bind ?_ (fun _ => ?_))
   | exact ih0 _ _
   | exact ih1 _ _
   | exact ih2 _ _ _
   | exact garnerref07_Of.mono _ _ _
   | exact garnerref07_number.mono _ _
   | exact LeO.none _
   | refine LeO.ite ?_ ?_
   | refine LeO.bind ?_ (fun _ => ?_)
set_option maxHeartbeats 8000000 in
set_option maxRecDepth 100000 in
theorem garnerref07_Parse.calls (k : Nat) (a0 : ByteArray) (r1 : Int) (r2 : Int) (w : World) (h : garnerref07_Parse.f k a0 = some (r1, r2)) :
  Calls Try.prog 11 #[.string a0] w fun e w' => e = .returned (.agg #[.int .i64 r1, .int .i64 r2]) ∧ Below w.heap.size w w' := by
 have hu32 := Try.underlying32
 have HB := Am (Below.refl w.heap.size w)
 have H : (garnerref07_Parse.l0 k a0 1) = some (r1, r2) := h
 clear h
 have H' := Am H
 clear H
 go_enter Try.func11, Try.ntmps11
 go_wp2_with (first | ((with_reducible refine gate_dst (N := 2) rfl ?_); (try (refine gate_guard (by rfl) ?_; dsimp only)); refine box_event ?hg (N := 2) ?hd (cs := #[.int .i64 0, .int .i64 0]) (t := 32) ?hr ?_; (case hd => rfl); (case hg => rfl); (case hr => first | (go_simp; done) | (go_simp; rfl)); intro Af hg w2 hbox hb; have Aa := Am (hbox); have Av := Am ((by rw [hg]; exact (below_size (pB HB.out)) : w.heap.size ≤ Af)); replace HB := Am (below_step (pB HB.out) hb); have Ab := Av; clear hb hbox hg))
 go_loopg [3] k (fun kq v3 w' => ∃ (An : Int) (Ak : Int) (Al : Int), v3 = .int .i64 An ∧ Aside0 (garnerref07_Parse.l0 kq a0 An = some (r1, r2)) ∧ Aside0 (kq ≤ k) ∧ Aside0 (w'.heap[Af]? = some (.cells #[.int .i64 Ak, .int .i64 Al] 32 (0, 0))) ∧ Aside0 (Below w.heap.size w w'))
 case atStart => exact ⟨(1), (0), (0), (by first | rfl | (simp; done) | (simp [*]; done)), H', ⟨Nat.le_refl _⟩, ⟨pK Aa.out⟩, ⟨pE HB.out Ab.out⟩⟩
 case round =>
  clear H'
  try clear c1
  try clear p2
  obtain ⟨An, Ak, Al, rfl, HA, HK1, Aa, HB⟩ := hrel
  cases gk with
  | zero => exact absurd HA.out (by simp [garnerref07_Parse.l0])
  | succ k1 =>
   have H := HA.out
   clear HA
   simp only [garnerref07_Parse.l0] at H
   by_cases c3 : An ≤ 2
   ·rw [if_pos c3] at H
    have c3b0 : decide (An ≤ 2) = true := decide_eq_true c3
    clear c3
    replace H := Option.bind_eq_some_iff.mp H
    obtain ⟨t123, A40, H⟩ := H
    replace H : (if t123.toList = a0.toList then (some (An, 0)) else (garnerref07_Parse.l0 k1 a0 (wrap64 (An + 1)))) = some (r1, r2) := H
    have A4 := Am A40
    clear A40
    by_cases c5 : t123.toList = a0.toList
    ·rw [if_pos c5] at H
     have c5b0 : (t123.toList == a0.toList) = true := beq_iff_eq.mpr c5
     have c5b1 : (t123.toList != a0.toList) = false := bne_eq_false_iff_eq.mpr c5
     clear c5
     simp only [Option.some.injEq, Prod.mk.injEq] at H
     obtain ⟨rfl, rfl⟩ := H
     go_wp2_with (first | ((with_reducible refine gate_callee (f := 15) rfl ?_); refine goesL_ (some 12) rfl rfl Try.func15 (by kernel_rfl) rfl #[.agg #[.int .i64 An, .int .i64 0]] rfl pL ?_; (with_reducible refine (garnerref07_Of.calls k1 An 0 t123 _ A4.out).mono ?_); rintro e w6 ⟨rfl, hb⟩; refine ⟨_, rfl, ?_⟩; replace Aa := kBa Aa hb; replace HB := Am (below_step (pE HB.out Ab.out) hb); (try clear hb); (try clear hb2); (try clear hk); (try clear hi); obtain ⟨Ar, As⟩ := bc2 Aa.out; obtain ⟨At, Au⟩ := bf2 Aa.out))
     refine bodyPost_ret (results_cell_row rfl _ _ Af 32 #[.int .i64 An, .int .i64 0] (0, 0) _ rfl (kX0 Aa.out) Try.underlying32 rfl (by kernel_rfl)) rfl ?_
     exact ⟨pX, pE HB.out Ab.out⟩
    rw [if_neg c5] at H
    have c5b0 : (t123.toList == a0.toList) = false := beq_eq_false_iff_ne.mpr c5
    have c5b1 : (t123.toList != a0.toList) = true := bne_iff_ne.mpr c5
    have H' := Am H
    clear H
    go_wp2_with (first | ((with_reducible refine gate_callee (f := 15) rfl ?_); refine goesL_ (some 12) rfl rfl Try.func15 (by kernel_rfl) rfl #[.agg #[.int .i64 An, .int .i64 0]] rfl pL ?_; (with_reducible refine (garnerref07_Of.calls k1 An 0 t123 _ A4.out).mono ?_); rintro e w8 ⟨rfl, hb⟩; refine ⟨_, rfl, ?_⟩; replace Aa := kBa Aa hb; replace HB := Am (below_step (pE HB.out Ab.out) hb); (try clear hb); (try clear hb2); (try clear hk); (try clear hi)))
    go_roundg k1
    case measure => have := HK1.out; omega
    case rel => exact ⟨(wrap64 (An + 1)), (Ak), (Al), (by first | rfl | (simp; done) | (simp [*]; done)), H', ⟨by have := HK1.out; omega⟩, ⟨pK Aa.out⟩, ⟨pE HB.out Ab.out⟩⟩
   rw [if_neg c3] at H
   have c3b0 : decide (An ≤ 2) = false := decide_eq_false c3
   clear c3
   have H' := Am H
   clear H
   go_wp2
   go_loopg [4] k1 (fun kq v4 w' => ∃ (Ag : Int) (Ac : Int) (Ad : Int), v4 = .int .i64 Ag ∧ Aside0 (garnerref07_Parse.l1 kq a0 Ag = some (r1, r2)) ∧ Aside0 (kq ≤ k1) ∧ Aside0 (w'.heap[Af]? = some (.cells #[.int .i64 Ac, .int .i64 Ad] 32 (0, 0))) ∧ Aside0 (Below w.heap.size w w'))
   case atStart => exact ⟨(3), (Ak), (Al), (by first | rfl | (simp; done) | (simp [*]; done)), H', ⟨Nat.le_refl _⟩, ⟨pK Aa.out⟩, ⟨pE HB.out Ab.out⟩⟩
   case round =>
    clear H'
    try clear c1
    try clear p2
    try clear c3
    try clear c3b0
    try clear c5
    try clear c5b0
    try clear c5b1
    try clear p6
    try clear Ar As
    try clear At Au
    try clear p2
    obtain ⟨Ag, Ac, Ad, rfl, HA, HK2, Aa, HB⟩ := hrel
    cases gk with
    | zero => exact absurd HA.out (by simp [garnerref07_Parse.l1])
    | succ k2 =>
     have H := HA.out
     clear HA
     simp only [garnerref07_Parse.l1] at H
     have HC9 := Am H
     clear H
     go_upto_region 7 with (fail)
     go_cut [23] (fun v23 wc => ∃ (kq : Nat) (Aq : Bool), v23 = .bool Aq ∧ Aside0 (garnerref07_Parse.j2 kq a0 Ag Aq = some (r1, r2)) ∧ Aside0 (kq ≤ k2) ∧ Aside0 (wc.heap[Af]? = some (.cells #[.int .i64 Ac, .int .i64 Ad] 32 (0, 0))) ∧ Aside0 (Below w.heap.size w wc))
     case first =>
      have H := HC9.out
      clear HC9
      by_cases c10 : Ag ≤ 7
      ·rw [if_pos c10] at H
       have c10b0 : decide (Ag ≤ 7) = true := decide_eq_true c10
       clear c10
       (first | rw [c10b0] | (simp only [i64_w, i32_w]; rw [c10b0]) | skip)
       have H' := Am H
       clear H
       go_wp2
       go_meet
       case rel => exact ⟨_, (((a0.size : Int) == 11)), (by first | rfl | (simp; done) | (simp [*]; done)), H', ⟨by have := HK1.out; have := HK2.out; first | omega | exact Nat.le_refl _⟩, ⟨pK Aa.out⟩, ⟨pE HB.out Ab.out⟩⟩
      rw [if_neg c10] at H
      have c10b0 : decide (Ag ≤ 7) = false := decide_eq_false c10
      clear c10
      (first | rw [c10b0] | (simp only [i64_w, i32_w]; rw [c10b0]) | skip)
      have H' := Am H
      clear H
      go_wp2
      go_meet
      case rel => exact ⟨_, (false), (by first | rfl | (simp; done) | (simp [*]; done)), H', ⟨by have := HK1.out; have := HK2.out; first | omega | exact Nat.le_refl _⟩, ⟨pK Aa.out⟩, ⟨pE HB.out Ab.out⟩⟩
     case rest =>
      clear HC9
      try clear c1
      try clear p2
      try clear c3
      try clear c3b0
      try clear c5
      try clear c5b0
      try clear c5b1
      try clear p6
      try clear c10
      try clear c10b0
      try clear Ar As
      try clear At Au
      try clear p2
      try clear p6
      obtain ⟨kq, Aq, rfl, HA, HJ8, Aa, HB⟩ := hcut
      cases kq with
      | zero => exact absurd HA.out (by simp [garnerref07_Parse.j2])
      | succ kj8 =>
       have H := HA.out
       clear HA
       simp only [garnerref07_Parse.j2] at H
       by_cases c11 : Aq = true
       rotate_left
       ·replace c11 := Bool.eq_false_iff.mpr c11
        subst c11
        have H1 : (some (0, 0)) = some (r1, r2) := by rw [if_neg (show ¬ (false = true) by decide)] at H; exact H
        clear H
        have H := H1
        clear H1
        simp only [Option.some.injEq, Prod.mk.injEq] at H
        obtain ⟨rfl, rfl⟩ := H
        obtain ⟨_, _⟩ := bc2 Aa.out
        obtain ⟨_, _⟩ := bf2 Aa.out
        go_wp2
        refine bodyPost_ret (results_cell_row rfl _ _ Af 32 #[.int .i64 0, .int .i64 0] (0, 0) _ rfl (kX0 Aa.out) Try.underlying32 rfl (by kernel_rfl)) rfl ?_
        exact ⟨pX, pE HB.out Ab.out⟩
       subst c11
       have H1 : (if 1 ≤ (a0.size : Int) then ((garnerref07_number.f kj8 (a0.extract 1 a0.size)).bind fun t124 => (if t124 ≥ 1 then ((garnerref07_Of.f kj8 Ag t124).bind fun t126 => (if t126.toList = a0.toList then (some (Ag, t124)) else (garnerref07_Parse.l1 kj8 a0 (wrap64 (Ag + 1))))) else (garnerref07_Parse.l1 kj8 a0 (wrap64 (Ag + 1))))) else (none)) = some (r1, r2) := by rw [if_pos rfl] at H; exact H
       clear H
       have H := H1
       clear H1
       by_cases c12 : 1 ≤ (a0.size : Int)
       rotate_left
       ·rw [if_neg c12] at H
        exact absurd H (by simp)
       rw [if_pos c12] at H
       have c12b0 := eq_true c12
       have c12b1 : decide (1 ≤ (a0.size : Int)) = true := decide_eq_true c12
       clear c12
       replace H := Option.bind_eq_some_iff.mp H
       obtain ⟨t124, A130, H⟩ := H
       replace H : (if t124 ≥ 1 then ((garnerref07_Of.f kj8 Ag t124).bind fun t126 => (if t126.toList = a0.toList then (some (Ag, t124)) else (garnerref07_Parse.l1 kj8 a0 (wrap64 (Ag + 1))))) else (garnerref07_Parse.l1 kj8 a0 (wrap64 (Ag + 1)))) = some (r1, r2) := H
       have A13 := Am A130
       clear A130
       by_cases c14 : t124 ≥ 1
       rotate_left
       ·rw [if_neg c14] at H
        have c14b0 : decide (1 ≤ t124) = false := decide_eq_false c14
        clear c14
        have H' := Am H
        clear H
        go_wp2_with (first | ((with_reducible refine gate_callee (f := 16) rfl ?_); refine goesL_ (some 29) rfl rfl Try.func16 (by kernel_rfl) rfl #[.string (a0.extract 1 a0.size)] rfl pL ?_; (with_reducible refine (garnerref07_number.calls kj8 (a0.extract 1 a0.size) t124 _ A13.out).mono ?_); rintro e w' ⟨rfl, ⟨nd, rfl⟩⟩; refine ⟨_, rfl, ?_⟩; (try (rw [drewN_self wc]; generalize hq_ : World.drewN wc _ = wc; replace Aa : Aside0 (wc.heap[Af]? = some (.cells #[.int .i64 Ac, .int .i64 Ad] 32 (0, 0))) := ⟨by rw [← hq_]; exact (pK Aa.out)⟩; replace HB : Aside0 (Below w.heap.size w wc) := ⟨by rw [← hq_]; exact (pE HB.out Ab.out)⟩; clear hq_))) | ((with_reducible refine gate_dst (N := 5) rfl ?_); (try (refine gate_guard (by rfl) ?_; dsimp only)); refine box_event ?hg (N := 5) ?hd (cs := #[.int .i64 0, .int .i64 0]) (t := 32) ?hr ?_; (case hd => rfl); (case hg => rfl); (case hr => first | (go_simp; done) | (go_simp; rfl)); intro Ai hg w27 hbox hb; have Ah := Am (hbox); have Ap := Am ((by rw [hg]; exact (below_size (pE HB.out Ab.out)) : w.heap.size ≤ Ai)); replace HB := Am (below_step (pE HB.out Ab.out) hb); have Ao := Ap; have Ae := Am ((by rw [hg]; exact Nat.ne_of_lt (kL Aa.out) : Af ≠ Ai)); have Aj := Am ((by rw [hg]; exact Nat.ne_of_gt (kL Aa.out) : Ai ≠ Af)); replace Aa := kBa Aa hb; clear hb hbox hg; have hnb28 := Aj.out; have hnc28 := Ae.out; obtain ⟨_, _⟩ := bc2 Ah.out; obtain ⟨_, _⟩ := bf2 Ah.out))
        go_roundg kj8
        case measure => have := HK1.out; have := HK2.out; have := HJ8.out; omega
        case rel => exact ⟨(wrap64 (Ag + 1)), (Ac), (Ad), (by first | rfl | (simp; done) | (simp [*]; done)), H', ⟨by have := HK1.out; have := HK2.out; have := HJ8.out; omega⟩, ⟨kX1 Aa.out Ae.out⟩, ⟨pE2 HB.out Ab.out Ao.out⟩⟩
       rw [if_pos c14] at H
       have c14b0 : decide (1 ≤ t124) = true := decide_eq_true c14
       clear c14
       replace H := Option.bind_eq_some_iff.mp H
       obtain ⟨t126, A150, H⟩ := H
       replace H : (if t126.toList = a0.toList then (some (Ag, t124)) else (garnerref07_Parse.l1 kj8 a0 (wrap64 (Ag + 1)))) = some (r1, r2) := H
       have A15 := Am A150
       clear A150
       by_cases c16 : t126.toList = a0.toList
       ·rw [if_pos c16] at H
        have c16b0 : (t126.toList == a0.toList) = true := beq_iff_eq.mpr c16
        have c16b1 : (t126.toList != a0.toList) = false := bne_eq_false_iff_eq.mpr c16
        clear c16
        simp only [Option.some.injEq, Prod.mk.injEq] at H
        obtain ⟨rfl, rfl⟩ := H
        go_wp2_with (first | ((with_reducible refine gate_callee (f := 16) rfl ?_); refine goesL_ (some 29) rfl rfl Try.func16 (by kernel_rfl) rfl #[.string (a0.extract 1 a0.size)] rfl pL ?_; (with_reducible refine (garnerref07_number.calls kj8 (a0.extract 1 a0.size) t124 _ A13.out).mono ?_); rintro e w' ⟨rfl, ⟨nd, rfl⟩⟩; refine ⟨_, rfl, ?_⟩; (try (rw [drewN_self wc]; generalize hq_ : World.drewN wc _ = wc; replace Aa : Aside0 (wc.heap[Af]? = some (.cells #[.int .i64 Ac, .int .i64 Ad] 32 (0, 0))) := ⟨by rw [← hq_]; exact (pK Aa.out)⟩; replace HB : Aside0 (Below w.heap.size w wc) := ⟨by rw [← hq_]; exact (pE HB.out Ab.out)⟩; clear hq_))) | ((with_reducible refine gate_dst (N := 5) rfl ?_); (try (refine gate_guard (by rfl) ?_; dsimp only)); refine box_event ?hg (N := 5) ?hd (cs := #[.int .i64 0, .int .i64 0]) (t := 32) ?hr ?_; (case hd => rfl); (case hg => rfl); (case hr => first | (go_simp; done) | (go_simp; rfl)); intro Ai hg w17 hbox hb; have Ah := Am (hbox); have Ap := Am ((by rw [hg]; exact (below_size (pE HB.out Ab.out)) : w.heap.size ≤ Ai)); replace HB := Am (below_step (pE HB.out Ab.out) hb); have Ao := Ap; have Ae := Am ((by rw [hg]; exact Nat.ne_of_lt (kL Aa.out) : Af ≠ Ai)); have Aj := Am ((by rw [hg]; exact Nat.ne_of_gt (kL Aa.out) : Ai ≠ Af)); replace Aa := kBa Aa hb; clear hb hbox hg; have hnb18 := Aj.out; have hnc18 := Ae.out; obtain ⟨_, _⟩ := bc2 Ah.out; obtain ⟨_, _⟩ := bf2 Ah.out) | (go_at_call 15; (with_reducible refine (garnerref07_Of.calls kj8 Ag t124 t126 _ A15.out).mono ?_); rintro e w20 ⟨rfl, hb⟩; replace Aa := Am (blk_below (g := Af) (kX1 Aa.out Ae.out) hb); replace Ah := Am (blk_below (g := Ai) (kX0 Ah.out) hb); replace HB := Am (below_step (pE2 HB.out Ab.out Ao.out) hb); (try clear hb); (try clear hb2); (try clear hk); (try clear hi); obtain ⟨_, _⟩ := bc2 Ah.out; obtain ⟨_, _⟩ := bf2 Ah.out; obtain ⟨_, _⟩ := bc2 Aa.out; obtain ⟨_, _⟩ := bf2 Aa.out))
        refine bodyPost_ret (results_cell_row rfl _ _ Af 32 #[.int .i64 Ag, .int .i64 t124] (0, 0) _ rfl (kX0 Aa.out) Try.underlying32 rfl (by kernel_rfl)) rfl ?_
        exact ⟨pX, pE2 HB.out Ab.out Ao.out⟩
       rw [if_neg c16] at H
       have c16b0 : (t126.toList == a0.toList) = false := beq_eq_false_iff_ne.mpr c16
       have c16b1 : (t126.toList != a0.toList) = true := bne_iff_ne.mpr c16
       have H' := Am H
       clear H
       go_wp2_with (first | ((with_reducible refine gate_callee (f := 16) rfl ?_); refine goesL_ (some 29) rfl rfl Try.func16 (by kernel_rfl) rfl #[.string (a0.extract 1 a0.size)] rfl pL ?_; (with_reducible refine (garnerref07_number.calls kj8 (a0.extract 1 a0.size) t124 _ A13.out).mono ?_); rintro e w' ⟨rfl, ⟨nd, rfl⟩⟩; refine ⟨_, rfl, ?_⟩; (try (rw [drewN_self wc]; generalize hq_ : World.drewN wc _ = wc; replace Aa : Aside0 (wc.heap[Af]? = some (.cells #[.int .i64 Ac, .int .i64 Ad] 32 (0, 0))) := ⟨by rw [← hq_]; exact (pK Aa.out)⟩; replace HB : Aside0 (Below w.heap.size w wc) := ⟨by rw [← hq_]; exact (pE HB.out Ab.out)⟩; clear hq_))) | ((with_reducible refine gate_dst (N := 5) rfl ?_); (try (refine gate_guard (by rfl) ?_; dsimp only)); refine box_event ?hg (N := 5) ?hd (cs := #[.int .i64 0, .int .i64 0]) (t := 32) ?hr ?_; (case hd => rfl); (case hg => rfl); (case hr => first | (go_simp; done) | (go_simp; rfl)); intro Ai hg w23 hbox hb; have Ah := Am (hbox); have Ap := Am ((by rw [hg]; exact (below_size (pE HB.out Ab.out)) : w.heap.size ≤ Ai)); replace HB := Am (below_step (pE HB.out Ab.out) hb); have Ao := Ap; have Ae := Am ((by rw [hg]; exact Nat.ne_of_lt (kL Aa.out) : Af ≠ Ai)); have Aj := Am ((by rw [hg]; exact Nat.ne_of_gt (kL Aa.out) : Ai ≠ Af)); replace Aa := kBa Aa hb; clear hb hbox hg; have hnb24 := Aj.out; have hnc24 := Ae.out; obtain ⟨_, _⟩ := bc2 Ah.out; obtain ⟨_, _⟩ := bf2 Ah.out) | (go_at_call 15; (with_reducible refine (garnerref07_Of.calls kj8 Ag t124 t126 _ A15.out).mono ?_); rintro e w26 ⟨rfl, hb⟩; replace Aa := Am (blk_below (g := Af) (kX1 Aa.out Ae.out) hb); replace Ah := Am (blk_below (g := Ai) (kX0 Ah.out) hb); replace HB := Am (below_step (pE2 HB.out Ab.out Ao.out) hb); (try clear hb); (try clear hb2); (try clear hk); (try clear hi)))
       go_roundg kj8
       case measure => have := HK1.out; have := HK2.out; have := HJ8.out; omega
       case rel => exact ⟨(wrap64 (Ag + 1)), (Ac), (Ad), (by first | rfl | (simp; done) | (simp [*]; done)), H', ⟨by have := HK1.out; have := HK2.out; have := HJ8.out; omega⟩, ⟨pK Aa.out⟩, ⟨pE2 HB.out Ab.out Ao.out⟩⟩
section
variable {P : Program} {ops : Array Oper} {o : Oper} {a : Act} {Q : Exit → Act → World → Prop} {rest : List Oper} {α : Type}
/-- A row of the call's own, cut to its beginning with no room behind: an element appended makes a new row. -/
theorem garnerref07_All.app_cut (d : Kd α) {w0 W : World} (base : Nat) (hgd : o.guard = none) (s x : Operand) (t e : TypeId) (z : Value) (bytes : Nat)
  (ho : o.op = .call { callee := .builtin .append, args := #[s, x], argTypes := #[t, t] })
  (ht : P.underlying t = some (.slice e)) (hinfo : (P.info? e).map (fun i => (i.zero, i.size, i.bytes)) = some (some z, d.sz, bytes)) (hz : z.cells.size = d.sz) (hs0 : 0 < d.sz) (hb0 : 0 < bytes)
  (A : Option Addr) (n c k : Nat) (xs : List α) (p : α) (cs : List Value) (ok okp : Nat → Prop) (hk : k ≤ xs.length) (hs : a.eval s = .slice A k k) (hx : a.eval x = .slice (some ⟨W.heap.size, 0, none⟩) 1 1) (hp : d.M W base okp p cs) (hflat : ∀ w1 okq (y : α) (ys : List Value) w2 ok2, d.M w1 base okq y ys → d.M w2 base ok2 y ys)
  (HO : d.R e W base ok (.slice A n c) xs) (HB : Below base w0 W) (hbase : base ≤ W.heap.size) (hl : (xs.length + 1) * bytes ≤ 140737488355328)
  (h : ∀ v1 w1, d.R e w1 base (fun k => W.heap.size ≤ k) v1 (xs.take k ++ [p]) → Below base w0 w1 → W.grownBy w1 none → wpList P ops Q rest (a.put o.dst v1) w1) :
  wpList P ops Q (o :: rest) a (W.alloc (.cells cs.toArray e)) := by
 obtain ⟨i0, hi, hzz⟩ := Option.map_eq_some_iff.1 hinfo
 simp only [Prod.mk.injEq] at hzz
 obtain ⟨hz0, hz1, hz2⟩ := hzz
 have hn := (Kd.R_reads' HO).1
 subst hn
 cases A with
 | none =>
  have hxs : xs = [] := by
   cases xs with
   | nil => rfl
   | cons y ys =>
    obtain ⟨ad, had, _⟩ := (Kd.R_reads' HO).2.2.2.2 (by simp)
    cases had
  subst hxs
  have hk0 : k = 0 := by simpa using hk
  subst hk0
  refine Kd.R_append d base hgd s x t e z bytes ho ht hinfo hz hs0 hb0 (.slice none 0 0) [] p cs (fun k => W.heap.size ≤ k) (fun _ => False) hs hx (hflat _ _ _ _ _ _ hp) (fun _ h => h.elim) (fun _ h => h) (Kd.R_nil _ _ _ _ _) HB hbase (by simpa using hl) ?_
  intro v1 w1 h1 h2 h3 h4
  exact h v1 w1 h1 h2 h3
 | some ad =>
  obtain ⟨h0, inner, hown, hr⟩ := Kd.R_take HO hk
  have hlen : inner.length = k * d.sz := by rw [hown.1, List.length_take, Nat.min_eq_left hk]
  obtain ⟨g, rfl⟩ : ∃ g, ad = ⟨g, 0, none⟩ := Kd.R_head HO
  have hcells : ∀ j u, inner[j]? = some u → (W.alloc (.cells cs.toArray e)).cell? ((⟨g, 0, none⟩ : Addr).add j) = some u := fun j u hj => by
   have h1 := (hown.alloc (.cells cs.toArray e)).cells (g := g) rfl j u hj
   exact h1
  have hcl := d.K_len (d.K_of_M hp)
  have h63 : k + 1 ≤ 140737488355328 := by
   have := Nat.le_mul_of_pos_right (xs.length + 1) hb0
   omega
  have hbk : (k + 1) * bytes ≤ 140737488355328 := Nat.le_trans (Nat.mul_le_mul_right bytes (by omega)) hl
  obtain ⟨v1, w1, hrun, hown1, hg1⟩ := run_append_arg_grows (P := P) (w := W.alloc (.cells cs.toArray e)) t o.type e i0 z d.sz bytes ht hi hz0 hz1 hz2 hz hs0 ⟨g, 0, none⟩ k k inner hlen hcells ⟨W.heap.size, 0, none⟩ 1 1 cs (by rw [hcl]; simp) (by simpa using World.news_of_block (cs := cs.toArray) (t := e) (fr := (0, 0)) (heap_alloc_new W (.cells cs.toArray e))) (by omega) (by simp only [maxLen]; omega) hbk
  refine wpList_plain hgd fun K hK => ?_
  unfold Oper.wp execOp
  simp only [ho, resolve, invoke, builtin, Sem.run_bind, Sem.run_pure, Result.andThen_ok, List.map_toArray, List.map_cons, List.map_nil, hs, hx, hrun]
  refine hK _ _ (h v1 w1 ?_ ((HB.alloc hbase _).grown hg1 (by simp; omega) (fun k hk => by cases hk)) (World.grownBy.trans (World.grownBy_alloc W _ _) hg1))
  refine ⟨fun k_ hk_ => ?_, inner ++ cs, ?_, ?_⟩
  ·exact Nat.le_trans (Nat.le_succ _) (by have := own_base hown1 k_ hk_; simpa using this)
  ·have hl1 : (xs.take k ++ [p]).length = k + 1 := by rw [List.length_append, List.length_take, Nat.min_eq_left hk]; rfl
   rw [hl1]
   exact own_weaken hown1 (by simp; omega)
  ·exact (hr.imp_ (fun y ys hy => hflat _ _ _ _ _ _ hy)).snoc (hflat _ _ _ _ _ _ hp) hcl
theorem garnerref07_All.app_cut_step {Kc : Act → World → Prop} {E : Prop} (d : Kd α) {w0 W : World} (base : Nat) (hgd : o.guard = none) (s x : Operand) (t e : TypeId) (z : Value) (bytes : Nat)
  (ho : o.op = .call { callee := .builtin .append, args := #[s, x], argTypes := #[t, t] })
  (ht : P.underlying t = some (.slice e)) (hinfo : (P.info? e).map (fun i => (i.zero, i.size, i.bytes)) = some (some z, d.sz, bytes)) (hz : z.cells.size = d.sz) (hs0 : 0 < d.sz) (hb0 : 0 < bytes)
  (A : Option Addr) (n c k : Nat) (xs : List α) (p : α) (cs : List Value) (ok okp : Nat → Prop) (hk : k ≤ xs.length) (hs : a.eval s = .slice A k k) (hx : a.eval x = .slice (some ⟨W.heap.size, 0, none⟩) 1 1) (hp : d.M W base okp p cs) (hflat : ∀ w1 okq (y : α) (ys : List Value) w2 ok2, d.M w1 base okq y ys → d.M w2 base ok2 y ys)
  (HO : d.R e W base ok (.slice A n c) xs) (HB : Below base w0 W) (hbase : base ≤ W.heap.size) (hl : (xs.length + 1) * bytes ≤ 140737488355328)
  (h : ∀ v1 w1, d.R e w1 base (fun k => W.heap.size ≤ k) v1 (xs.take k ++ [p]) → Below base w0 w1 → W.grownBy w1 none → Kc (a.put o.dst v1) w1) :
  if Region.wanted o (yielded ops a.tmps) = true then Oper.wp P o a (W.alloc (.cells cs.toArray e)) Kc Q else E := by
 have hw : Region.wanted o (yielded ops a.tmps) = true := by simp [Region.wanted, hgd]
 rw [if_pos hw]
 obtain ⟨i0, hi, hzz⟩ := Option.map_eq_some_iff.1 hinfo
 simp only [Prod.mk.injEq] at hzz
 obtain ⟨hz0, hz1, hz2⟩ := hzz
 have hn := (Kd.R_reads' HO).1
 subst hn
 cases A with
 | none =>
  have hxs : xs = [] := by
   cases xs with
   | nil => rfl
   | cons y ys =>
    obtain ⟨ad, had, _⟩ := (Kd.R_reads' HO).2.2.2.2 (by simp)
    cases had
  subst hxs
  have hk0 : k = 0 := by simpa using hk
  subst hk0
  have := Kd.R_append_step (Kc := Kc) (Q := Q) (P := P) (ops := ops) (a := a) d (w0 := w0) (W := W) base hw s x t e z bytes ho ht hinfo hz hs0 hb0 (.slice none 0 0) [] p cs (fun k => W.heap.size ≤ k) (fun _ => False) hs hx (hflat _ _ _ _ _ _ hp) (fun _ h => h.elim) (fun _ h => h) (Kd.R_nil _ _ _ _ _) HB hbase (by simpa using hl) (fun v1 w1 h1 h2 h3 h4 => h v1 w1 h1 h2 h3)
  rwa [if_pos hw] at this
 | some ad =>
  obtain ⟨h0, inner, hown, hr⟩ := Kd.R_take HO hk
  have hlen : inner.length = k * d.sz := by rw [hown.1, List.length_take, Nat.min_eq_left hk]
  obtain ⟨g, rfl⟩ : ∃ g, ad = ⟨g, 0, none⟩ := Kd.R_head HO
  have hcells : ∀ j u, inner[j]? = some u → (W.alloc (.cells cs.toArray e)).cell? ((⟨g, 0, none⟩ : Addr).add j) = some u := fun j u hj => by
   have h1 := (hown.alloc (.cells cs.toArray e)).cells (g := g) rfl j u hj
   exact h1
  have hcl := d.K_len (d.K_of_M hp)
  have h63 : k + 1 ≤ 140737488355328 := by
   have := Nat.le_mul_of_pos_right (xs.length + 1) hb0
   omega
  have hbk : (k + 1) * bytes ≤ 140737488355328 := Nat.le_trans (Nat.mul_le_mul_right bytes (by omega)) hl
  obtain ⟨v1, w1, hrun, hown1, hg1⟩ := run_append_arg_grows (P := P) (w := W.alloc (.cells cs.toArray e)) t o.type e i0 z d.sz bytes ht hi hz0 hz1 hz2 hz hs0 ⟨g, 0, none⟩ k k inner hlen hcells ⟨W.heap.size, 0, none⟩ 1 1 cs (by rw [hcl]; simp) (by simpa using World.news_of_block (cs := cs.toArray) (t := e) (fr := (0, 0)) (heap_alloc_new W (.cells cs.toArray e))) (by omega) (by simp only [maxLen]; omega) hbk
  unfold Oper.wp execOp
  simp only [ho, resolve, invoke, builtin, Sem.run_bind, Sem.run_pure, Result.andThen_ok, List.map_toArray, List.map_cons, List.map_nil, hs, hx, hrun]
  refine (h v1 w1 ?_ ((HB.alloc hbase _).grown hg1 (by simp; omega) (fun k hk => by cases hk)) (World.grownBy.trans (World.grownBy_alloc W _ _) hg1))
  refine ⟨fun k_ hk_ => ?_, inner ++ cs, ?_, ?_⟩
  ·exact Nat.le_trans (Nat.le_succ _) (by have := own_base hown1 k_ hk_; simpa using this)
  ·have hl1 : (xs.take k ++ [p]).length = k + 1 := by rw [List.length_append, List.length_take, Nat.min_eq_left hk]; rfl
   rw [hl1]
   exact own_weaken hown1 (by simp; omega)
  ·exact (hr.imp_ (fun y ys hy => hflat _ _ _ _ _ _ hy)).snoc (hflat _ _ _ _ _ _ hp) hcl
end
def garnerref07_All.l0 : Nat → List ByteArray → Int → List Int → Int → Option (List Int)
 | 0, _, _, _, _ => none
 | k + 1, l, kind, acc, i => if i < (l.length : Int) then (garnerref07_Parse.f k (rdOf ByteArray.empty l i)).bind fun (kd, num) => if kd = 0 then garnerref07_All.l0 k l kind acc (wrap64 (i + 1)) else if kd = kind then (if acc.length < 8796093022207 then garnerref07_All.l0 k l kind (name_All.insZ acc num) (wrap64 (i + 1)) else none) else garnerref07_All.l0 k l kind acc (wrap64 (i + 1)) else some acc
def garnerref07_All.f (k : Nat) (l : List ByteArray) (kind : Int) : Option (List Int) := garnerref07_All.l0 k l kind [] 0
theorem garnerref07_All.mono_l : ∀ (k : Nat) (l : List ByteArray) (c : Int) (acc : List Int) (i : Int), LeO (garnerref07_All.l0 k l c acc i) (garnerref07_All.l0 (k + 1) l c acc i)
 | 0 => fun _ _ _ _ r h => by simp [garnerref07_All.l0] at h
 | k + 1 => fun l c acc i => by
  rw [garnerref07_All.l0, garnerref07_All.l0]
  exact LeO.ite (LeO.bind (garnerref07_Parse.mono _ _) (fun ⟨_, _⟩ => LeO.ite (garnerref07_All.mono_l k _ _ _ _) (LeO.ite (LeO.ite (garnerref07_All.mono_l k _ _ _ _) (LeO.refl _)) (garnerref07_All.mono_l k _ _ _ _)))) (LeO.refl _)
theorem garnerref07_All.mono : ∀ a0 a1 k, LeO (garnerref07_All.f k a0 a1) (garnerref07_All.f (k + 1) a0 a1) := fun a0 a1 k => garnerref07_All.mono_l k _ _ _ _
set_option maxHeartbeats 4000000 in
set_option maxRecDepth 100000 in
theorem garnerref07_All.calls (k : Nat) (A0 : Option Addr) (c0 : Nat) (l0 : List ByteArray) (a1 : Int) (r : List Int) (w : World) (hr0 : Kd.C Kd.string w A0 l0.length l0) (hc0 : l0.length ≤ c0) (h : garnerref07_All.f k l0 a1 = some r) :
  Calls Try.prog 7 #[.slice A0 l0.length c0, .int .i64 a1] w fun e w' => ∃ v0_ : Value, e = .returned v0_ ∧ Kd.R (Kd.int .i64) 3 w' w.heap.size (fun _ => True) v0_ r ∧ Below w.heap.size w w' := by
 have HR0 := Aside0.mk hr0
 have HC0 := Aside0.mk hc0
 have HH : Aside0 (garnerref07_All.l0 k l0 a1 [] 0 = some r) := ⟨h⟩
 clear hr0 hc0 h
 go_enter Try.func7, Try.ntmps7
 go_wp2_with ((with_reducible refine gate_dst (N := 10) rfl ?_); go_loud (refine Kd.R_lit (Kd.int .i64) _ 3 ?hg (N := 10) ?hd (xs := ([] : List Int)) (inner := []) (ok := fun _ => True) (okp := fun _ => True) ?hr ?hp (fun _ hk => hk) trivial (Below.refl _ _) (Nat.le_refl _) (by simp) ?_; (case hd => rfl); (case hg => rfl); (case hr => first | (go_simp; done) | (go_simp; rfl)); (case hp => exact (Reps.none _ _)); intro v1 w1 ho1 hb1 hg_ hnew_; have R1 := Aside0.mk ho1; have B1 := Aside0.mk hb1; clear ho1 hb1 hg_ hnew_))
 go_loopg [5, 6] k (fun kq v5 v6 w' => ∃ (acc : List Int) (i : Int), v6 = .int .i64 i ∧ Aside0 (0 ≤ i) ∧ Aside0 (garnerref07_All.l0 kq l0 a1 acc i = some r) ∧ Aside0 (kq ≤ k) ∧ Aside0 (Kd.R (Kd.int .i64) 3 w' w.heap.size (fun _ => True) v5 acc) ∧ Aside0 (Below w.heap.size w w'))
 case atStart => exact ⟨[], 0, rfl, ⟨by omega⟩, HH, ⟨Nat.le_refl _⟩, R1, B1⟩
 case round =>
  clear HH R1 B1
  obtain ⟨acc, i, rfl, HI, HA, HK, HR, HB⟩ := hrel
  cases gk with
  | zero => exact absurd HA.out (by simp [garnerref07_All.l0])
  | succ k2 =>
   have H := HA.out
   clear HA
   simp only [garnerref07_All.l0] at H
   have hlm := Kd.C_max HR0.out
   by_cases c1 : i < (l0.length : Int)
   ·rw [if_pos c1] at H
    have c1b : decide (i < (l0.length : Int)) = true := decide_eq_true c1
    obtain ⟨ad, e0, hcell⟩ := Kd.at_string (Kd.C_below HR0.out HB.out) i HI.out c1
    subst e0
    have p1 := eq_true HI.out
    have q1 := eq_true c1
    have HW := Aside0.mk (show wrap64 (i + 1) = i + 1 by have := HI.out; unfold wrap64; omega)
    have HI2 := Aside0.mk (show (0 : Int) ≤ wrap64 (i + 1) by rw [HW.out]; have := HI.out; omega)
    replace c1 := Aside0.mk c1
    clear hlm
    replace H := Option.bind_eq_some_iff.mp H
    obtain ⟨⟨kd, num⟩, hp, H⟩ := H
    simp only at H
    have HP := Aside0.mk hp
    clear hp
    by_cases c2 : kd = 0
    ·rw [if_pos c2] at H
     have c2b : (kd == 0) = true := beq_iff_eq.mpr c2
     have H' := Aside0.mk H
     clear c2 H
     go_wp2_with (first | (go_at_call 11; go_loud (refine (garnerref07_Parse.calls k2 (rdOf ByteArray.empty l0 i) kd num _ HP.out).mono ?_; rintro e w3 ⟨rfl, hb⟩; have R3 := Aside0.mk (Kd.R_below HR.out hb); have B3 := Aside0.mk (below_step HB.out hb); clear hb)) | ((with_reducible refine gate_dst (N := 7) rfl ?_); go_loud (refine box_event ?hg (N := 7) ?hd (cs := #[.int .i64 0, .int .i64 0]) (t := 32) ?hr ?_; (case hd => rfl); (case hg => rfl); (case hr => first | (go_simp; done) | (go_simp; rfl)); intro Bx hgx w4 hbox hb1; have x1 : w.heap.size ≤ Bx := (by have := B3.out.size; omega); have X1 := Aside0.mk x1; have RX := Aside0.mk (Kd.R_below (Kd.R_elderB R3.out Bx (Nat.le_of_eq hgx.symm)) hb1); have BX := Aside0.mk (below_step B3.out hb1); obtain ⟨_, _⟩ := bc2 hbox; obtain ⟨_, _⟩ := bf2 hbox; have HBX := Aside0.mk hbox; clear hgx hbox hb1 x1)) | ((with_reducible refine gate_store (t := 32) (p := 7) rfl ?_); go_loud (refine store_event (t := 32) (p := 7) (v := ?vo_) (w1 := (w4.setCell ⟨Bx, 0, none⟩ (.int .i64 kd)).setCell ⟨Bx, 1, none⟩ (.int .i64 num)) ?hg ?ho ?hn ?hr ?_; (case ho => rfl); (case hg => rfl); (case hn => rfl); (case hr => first | (go_simp; done) | (go_simp; rfl)); intro w6 hw; have R6 : Aside0 (Kd.R (Kd.int .i64) 3 w6 w.heap.size (fun k => k ≠ Bx) u5 acc) := ⟨(by rw [hw]; exact Kd.R_mono (Kd.R_far (p := ⟨Bx, 1, none⟩) (Kd.R_far (p := ⟨Bx, 0, none⟩) RX.out (fun _ hk => hk.2) _) (fun _ hk => hk.2) _) (fun _ hk => hk.2))⟩; have B6 : Aside0 (Below w.heap.size w w6) := ⟨(by rw [hw]; exact (BX.out.setCell X1.out _).setCell X1.out _)⟩; have hb6 : w6.heap[Bx]? = some (.cells #[.int .i64 kd, .int .i64 num] 32 (0, 0)) := (by rw [hw]; exact blk_set (blk_set HBX.out 0 _) 1 _); have HX6 := Aside0.mk hb6; obtain ⟨_, _⟩ := bc2 hb6; clear hw hb6)))
     go_roundg k2
     case measure => have := HK.out; omega
     case rel => exact ⟨acc, wrap64 (i + 1), rfl, HI2, H', ⟨by have := HK.out; omega⟩, ⟨Kd.R_mono R6.out (fun _ _ => trivial)⟩, B6⟩
    ·rw [if_neg c2] at H
     have c2b : (kd == 0) = false := beq_eq_false_iff_ne.mpr c2
     clear c2
     by_cases c3 : kd = a1
     ·rw [if_pos c3] at H
      have c3b : (kd != a1) = false := by simp [c3]
      clear c3
      by_cases c4 : acc.length < 8796093022207
      ·rw [if_pos c4] at H
       have LM := Aside0.mk c4
       have H' := Aside0.mk H
       clear c4 H
       obtain ⟨Av, cv, hu5⟩ := Kd.R_slice HR.out
       subst hu5
       go_upto_block 2 with (first | (go_at_call 11; go_loud (refine (garnerref07_Parse.calls k2 (rdOf ByteArray.empty l0 i) kd num _ HP.out).mono ?_; rintro e w3 ⟨rfl, hb⟩; have R3 := Aside0.mk (Kd.R_below HR.out hb); have B3 := Aside0.mk (below_step HB.out hb); clear hb)) | ((with_reducible refine gate_dst (N := 7) rfl ?_); go_loud (refine box_event ?hg (N := 7) ?hd (cs := #[.int .i64 0, .int .i64 0]) (t := 32) ?hr ?_; (case hd => rfl); (case hg => rfl); (case hr => first | (go_simp; done) | (go_simp; rfl)); intro Bx hgx w4 hbox hb1; have x1 : w.heap.size ≤ Bx := (by have := B3.out.size; omega); have X1 := Aside0.mk x1; have RX := Aside0.mk (Kd.R_below (Kd.R_elderB R3.out Bx (Nat.le_of_eq hgx.symm)) hb1); have BX := Aside0.mk (below_step B3.out hb1); obtain ⟨_, _⟩ := bc2 hbox; obtain ⟨_, _⟩ := bf2 hbox; have HBX := Aside0.mk hbox; clear hgx hbox hb1 x1)) | ((with_reducible refine gate_store (t := 32) (p := 7) rfl ?_); go_loud (refine store_event (t := 32) (p := 7) (v := ?vo_) (w1 := (w4.setCell ⟨Bx, 0, none⟩ (.int .i64 kd)).setCell ⟨Bx, 1, none⟩ (.int .i64 num)) ?hg ?ho ?hn ?hr ?_; (case ho => rfl); (case hg => rfl); (case hn => rfl); (case hr => first | (go_simp; done) | (go_simp; rfl)); intro w6 hw; have R6 : Aside0 (Kd.R (Kd.int .i64) 3 w6 w.heap.size (fun k => k ≠ Bx) (.slice Av acc.length cv) acc) := ⟨(by rw [hw]; exact Kd.R_mono (Kd.R_far (p := ⟨Bx, 1, none⟩) (Kd.R_far (p := ⟨Bx, 0, none⟩) RX.out (fun _ hk => hk.2) _) (fun _ hk => hk.2) _) (fun _ hk => hk.2))⟩; have B6 : Aside0 (Below w.heap.size w w6) := ⟨(by rw [hw]; exact (BX.out.setCell X1.out _).setCell X1.out _)⟩; have hb6 : w6.heap[Bx]? = some (.cells #[.int .i64 kd, .int .i64 num] 32 (0, 0)) := (by rw [hw]; exact blk_set (blk_set HBX.out 0 _) 1 _); have HX6 := Aside0.mk hb6; obtain ⟨_, _⟩ := bc2 hb6; clear hw hb6)))
       go_cut [8] (fun v8 wx => ∃ p : Nat, v8 = .int .i64 (p : Int) ∧ Aside0 (p ≤ acc.length) ∧ Aside0 (p = name_All.posZ num acc acc.length) ∧ Aside0 (∃ n, wx = w6.drewN n))
       case first =>
        go_wp2_with fail
        go_loopg [8] acc.length (fun kq v8 w' => ∃ j : Nat, v8 = .int .i64 (j : Int) ∧ Aside0 (j ≤ acc.length) ∧ Aside0 (name_All.posZ num acc j = name_All.posZ num acc acc.length) ∧ Aside0 (kq = j) ∧ Aside0 (∃ n, w' = w6.drewN n))
        case atStart => exact ⟨acc.length, rfl, ⟨Nat.le_refl _⟩, ⟨rfl⟩, ⟨rfl⟩, ⟨0, rfl⟩⟩
        case round =>
         obtain ⟨j, rfl, HJ, HPZ, HKQ, HDR⟩ := hrel
         obtain ⟨nd, rfl⟩ := HDR.out
         have R7 := Aside0.mk (Kd.R_drewN R6.out nd)
         have hx7 : (w6.drewN nd).heap[Bx]? = some (.cells #[.int .i64 kd, .int .i64 num] 32 (0, 0)) := HX6.out
         have HX7 := Aside0.mk hx7
         clear HDR
         obtain ⟨_, _⟩ := bc2 hx7
         generalize hw7 : w6.drewN nd = w7 at *
         have HW7 := Aside0.mk hw7
         clear hw7 hx7
         by_cases hj0 : j = 0
         ·subst hj0
          go_upto_region 8 with fail
          go_big_quiet (fail)
          go_wp2_with fail
          go_meet
          case rel => exact ⟨0, rfl, ⟨Nat.zero_le _⟩, ⟨HPZ.out⟩, ⟨by rw [← HW7.out, World.drewN_drewN]; exact ⟨_, rfl⟩⟩⟩
         ·obtain ⟨m, rfl⟩ : ∃ m, j = m + 1 := ⟨j - 1, by omega⟩
          have hjl := HJ.out
          obtain ⟨av, e1, hac⟩ := Kd.at_int (Kd.R_reads' R7.out).2.2 (m : Int) (by omega) (by omega)
          have hlm := (Kd.C_max (Kd.R_reads' R7.out).2.2)
          have hw1 : wrap64 (m : Int) = (m : Int) := by unfold wrap64; omega
          rw [Int.toNat_natCast] at hac
          subst e1
          have g1 : decide ((0 : Int) < ((m + 1 : Nat) : Int)) = true := decide_eq_true (by omega)
          have g2 : (0 ≤ (m : Int)) = True := eq_true (by omega)
          have g5 : (m < acc.length) = True := eq_true (by omega)
          have g3 : ((m : Int) < (acc.length : Int)) = True := eq_true (by omega)
          clear hj0 hjl hlm
          by_cases hgt : rd acc (m : Int) > num
          ·have g4 : decide (num < rd acc (m : Int)) = true := decide_eq_true hgt
           have HG := Aside0.mk hgt
           clear hgt
           go_upto_region 8 with fail
           go_big_quiet (fail)
           go_wp2_with fail
           have HKQ' := HKQ.out
           go_roundg m
           case measure => omega
           case rel => exact ⟨m, by rw [hw1], ⟨by have := HJ.out; omega⟩, ⟨by rw [← HPZ.out, name_All.posZ, if_pos HG.out]⟩, ⟨rfl⟩, ⟨by rw [← HW7.out, World.drewN_drewN]; exact ⟨_, rfl⟩⟩⟩
          ·have g4 : decide (num < rd acc (m : Int)) = false := decide_eq_false hgt
           have HG := Aside0.mk hgt
           clear hgt
           go_upto_region 8 with fail
           go_big_quiet (fail)
           go_wp2_with fail
           go_meet
           case rel => exact ⟨m + 1, rfl, HJ, ⟨by rw [← HPZ.out, name_All.posZ, if_neg (show ¬ rd acc (m : Int) > num by have := HG.out; omega)]⟩, ⟨by rw [← HW7.out, World.drewN_drewN]; exact ⟨_, rfl⟩⟩⟩
       case rest =>
        obtain ⟨p, rfl, HP1, HP2, HDR⟩ := hcut
        obtain ⟨nd, rfl⟩ := HDR.out
        have R7 := Aside0.mk (Kd.R_drewN R6.out nd)
        have B7 := Aside0.mk (pw_below_drewN B6.out nd)
        have hx7 : (w6.drewN nd).heap[Bx]? = some (.cells #[.int .i64 kd, .int .i64 num] 32 (0, 0)) := HX6.out
        have HX7 := Aside0.mk hx7
        clear HDR hx7
        generalize hw7 : w6.drewN nd = w7 at *
        clear hw7
        have hpl := HP1.out
        have hcl := (Kd.R_reads' R7.out).2.1
        obtain ⟨i0, hi0, _, Ar, _⟩ := info_parts info3
        obtain ⟨A9, hcut9, hA9, hc9⟩ := print_drop_of (P := Try.prog) (Value.int .i64) 0 25 3 .i64 Try.underlying25 hi0 Ar Av cv acc (p : Int) (by omega) (by omega) hcl
        rw [Int.toNat_natCast] at hcut9 hA9 hc9
        have HA9 := Aside0.mk hA9
        have HC9 := Aside0.mk hc9
        clear hA9 hc9 hi0 Ar hpl hcl
        go_upto_region 11 with (first | ((with_reducible refine gate_dst (N := 47) rfl ?_); go_loud (refine Kd.R_lit (Kd.int .i64) _ 3 ?hg (N := 47) ?hd (xs := ([] : List Int)) (inner := []) (ok := fun _ => True) (okp := fun _ => True) ?hr ?hp (fun _ hk => hk) trivial (Below.refl _ _) (Nat.le_refl _) (by simp) ?_; (case hd => rfl); (case hg => rfl); (case hr => first | (go_simp; done) | (go_simp; rfl)); (case hp => exact (Reps.none _ _)); intro v8 w8 ho8 hb8 hg_ hnew_; have L8 := Aside0.mk ho8; have W8 := Aside0.mk hb8; clear ho8 hb8 hg_ hnew_)) | ((with_reducible refine gate_builtin (b := .append) (xs := #[.tmp 47, .tmp 50]) rfl ?_); at_builtin; go_loud (have C8 := Kd.C_below (Kd.R_reads' R7.out).2.2 W8.out; have HR9 : Kd.C (Kd.int .i64) w8 A9 (acc.length - p) (acc.drop p) := (by have h_ := Kd.C_of_reads (h1 := fun _ => rfl) (HA9.out _ (Kd.reads_of_C C8)); rwa [List.length_drop] at h_); refine Kd.R_append_rows (Kd.int .i64) (w0 := w) w.heap.size rfl (.tmp 47) (.tmp 50) 25 3 (.int .i64 0) 8 rfl Try.underlying25 info3 rfl (by decide) (by omega) v8 [] (acc.drop p) A9 (acc.length - p) (cv - p) (fun k => w7.heap.size ≤ k) (fun _ => False) rfl rfl ?aO HR9 (fun _ _ h => h) (fun _ h => h.elim) ?aF ?aB ?aS ?aL ?_; (case aB => exact B7.out.trans (W8.out.mono B7.out.size)); (case aF => have h_ := W8.out.size; exact fun k hk => Nat.le_trans h_ hk); (case aO => exact Kd.R_lower (Kd.R_mono (Kd.R_bound L8.out) (fun _ hk => hk.2.1)) B7.out.size); (case aS => exact Nat.le_trans B7.out.size W8.out.size); (case aL => have := LM.out; simp only [List.length_nil]; omega); intro v9 w9 ho hb hg hat; have hlt8 := Kd.R_base L8.out; have R9 : Aside0 (Kd.R (Kd.int .i64) 3 w9 w.heap.size (fun k => k ≠ Bx ∧ k < w7.heap.size) (.slice Av acc.length cv) acc) := ⟨Kd.R_grown (Kd.R_below (Kd.R_mono (Kd.R_bound R7.out) (fun k hk => (⟨hk.1, hk.2.2.1⟩ : k ≠ Bx ∧ k < w7.heap.size))) W8.out) hg (fun k hk e_ => (by have h_ := hlt8 k e_.symm; omega))⟩; have X9 : Aside0 (w9.heap[Bx]? = some (.cells #[.int .i64 kd, .int .i64 num] 32 (0, 0))) := ⟨blk_grown (blk_below HX7.out W8.out) hg (fun e_ => (by have h_ := hlt8 Bx e_.symm; have := blk_lt HX7.out; omega))⟩; have L9 : Aside0 (Kd.R (Kd.int .i64) 3 w9 w.heap.size (fun k => w7.heap.size ≤ k) v9 (acc.drop p)) := ⟨ho⟩; have B9 := Aside0.mk hb; clear ho hb hg hat hlt8 C8 HR9)))
        have hx9 := X9.out
        obtain ⟨_, _⟩ := bc2 hx9
        obtain ⟨A9', c9', hv9⟩ := Kd.R_slice L9.out
        subst hv9
        have f1 : (p ≤ cv) = True := eq_true (by have := (Kd.R_reads' R7.out).2.1; have := HP1.out; omega)
        have f2 : ((p : Int) ≤ (cv : Int)) = True := eq_true (by have := (Kd.R_reads' R7.out).2.1; have := HP1.out; omega)
        clear hx9 hcut9
        go_region_law (first | (rw [show (w9.alloc (Obj.cells #[Value.int .i64 num] 3 (0, 0))).drew = (w9.drew).alloc (Obj.cells [Value.int .i64 num].toArray 3 (0, 0)) from rfl]; refine garnerref07_All.app_cut_step (Kd.int .i64) (w0 := w) (W := w9.drew) w.heap.size ?hgd (.tmp 55) (.tmp 58) 25 3 (.int .i64 0) 8 ?hop Try.underlying25 info3 rfl (by decide) (by omega) Av acc.length cv p acc num [.int .i64 num] (fun k => k ≠ Bx ∧ k < w7.heap.size) (fun _ => False) HP1.out ?hs ?hx ?hp (fun _ _ _ _ _ _ h => h) ?aO ?aB ?aS ?aL ?_; (case hgd => rfl); (case hop => rfl); (case hs => rfl); (case hx => rfl); (case hp => rfl); (case aO => (with_reducible repeat (first | apply Kd.R_drewN | apply Kd.R_drew)); exact R9.out); (case aB => exact B9.out.drew); (case aS => exact B9.out.size); (case aL => have := LM.out; omega); intro v10 w10 ho hb hg; have R10 := Aside0.mk ho; have L10 := Aside0.mk (Kd.R_grown (w := w9) (w1 := w10) L9.out (row := none) ⟨hg.os, hg.tape, hg.output, hg.size, hg.block⟩ (fun _ _ => by simp)); have B10 := Aside0.mk hb; clear ho hb hg) | (refine Kd.R_append_rows_step (Kd.int .i64) (w0 := w) w.heap.size ?hgd (.tmp 59) (.tmp 60) 25 3 (.int .i64 0) 8 ?hop Try.underlying25 info3 rfl (by decide) (by omega) v10 (acc.take p ++ [num]) (acc.drop p) A9' (acc.length - p) c9' (fun _ => True) (fun _ => False) ?hs ?hx ?aO ?aR (fun _ _ h => h) (fun _ h => h.elim) (fun _ _ => trivial) ?aB ?aS ?aL ?_; (case hgd => simp [Region.wanted]); (case hop => rfl); (case hs => rfl); (case hx => rfl); (case aO => exact Kd.R_mono R10.out (fun _ _ => trivial)); (case aR => have h_ := (Kd.R_reads' L10.out).2.2; rw [List.length_drop] at h_; exact h_); (case aB => exact B10.out); (case aS => exact B10.out.size); (case aL => have := LM.out; simp only [List.length_append, List.length_take, List.length_drop, List.length_cons, List.length_nil]; omega); intro v11 w11 ho hb hg hat; have R11 := Aside0.mk ho; have B11 := Aside0.mk hb; clear ho hb hg hat))
        go_wp2_with fail
        go_roundg k2
        case measure => have := HK.out; omega
        case rel => exact ⟨name_All.insZ acc num, wrap64 (i + 1), rfl, HI2, H', ⟨by have := HK.out; omega⟩, ⟨by have h_ := R11.out; rw [List.append_assoc, HP2.out] at h_; exact h_⟩, B11⟩
      ·rw [if_neg c4] at H
       exact absurd H (by simp)
     ·rw [if_neg c3] at H
      have c3b : (kd != a1) = true := bne_iff_ne.mpr c3
      have H' := Aside0.mk H
      clear c3 H
      go_wp2_with (first | (go_at_call 11; go_loud (refine (garnerref07_Parse.calls k2 (rdOf ByteArray.empty l0 i) kd num _ HP.out).mono ?_; rintro e w3 ⟨rfl, hb⟩; have R3 := Aside0.mk (Kd.R_below HR.out hb); have B3 := Aside0.mk (below_step HB.out hb); clear hb)) | ((with_reducible refine gate_dst (N := 7) rfl ?_); go_loud (refine box_event ?hg (N := 7) ?hd (cs := #[.int .i64 0, .int .i64 0]) (t := 32) ?hr ?_; (case hd => rfl); (case hg => rfl); (case hr => first | (go_simp; done) | (go_simp; rfl)); intro Bx hgx w4 hbox hb1; have x1 : w.heap.size ≤ Bx := (by have := B3.out.size; omega); have X1 := Aside0.mk x1; have RX := Aside0.mk (Kd.R_below (Kd.R_elderB R3.out Bx (Nat.le_of_eq hgx.symm)) hb1); have BX := Aside0.mk (below_step B3.out hb1); obtain ⟨_, _⟩ := bc2 hbox; obtain ⟨_, _⟩ := bf2 hbox; have HBX := Aside0.mk hbox; clear hgx hbox hb1 x1)) | ((with_reducible refine gate_store (t := 32) (p := 7) rfl ?_); go_loud (refine store_event (t := 32) (p := 7) (v := ?vo_) (w1 := (w4.setCell ⟨Bx, 0, none⟩ (.int .i64 kd)).setCell ⟨Bx, 1, none⟩ (.int .i64 num)) ?hg ?ho ?hn ?hr ?_; (case ho => rfl); (case hg => rfl); (case hn => rfl); (case hr => first | (go_simp; done) | (go_simp; rfl)); intro w6 hw; have R6 : Aside0 (Kd.R (Kd.int .i64) 3 w6 w.heap.size (fun k => k ≠ Bx) u5 acc) := ⟨(by rw [hw]; exact Kd.R_mono (Kd.R_far (p := ⟨Bx, 1, none⟩) (Kd.R_far (p := ⟨Bx, 0, none⟩) RX.out (fun _ hk => hk.2) _) (fun _ hk => hk.2) _) (fun _ hk => hk.2))⟩; have B6 : Aside0 (Below w.heap.size w w6) := ⟨(by rw [hw]; exact (BX.out.setCell X1.out _).setCell X1.out _)⟩; have hb6 : w6.heap[Bx]? = some (.cells #[.int .i64 kd, .int .i64 num] 32 (0, 0)) := (by rw [hw]; exact blk_set (blk_set HBX.out 0 _) 1 _); have HX6 := Aside0.mk hb6; obtain ⟨_, _⟩ := bc2 hb6; clear hw hb6)))
      go_roundg k2
      case measure => have := HK.out; omega
      case rel => exact ⟨acc, wrap64 (i + 1), rfl, HI2, H', ⟨by have := HK.out; omega⟩, ⟨Kd.R_mono R6.out (fun _ _ => trivial)⟩, B6⟩
   ·rw [if_neg c1] at H
    have c1b : decide (i < (l0.length : Int)) = false := decide_eq_false c1
    have HE := Aside0.mk (Option.some.inj H)
    clear c1 H hlm
    go_wp2_with fail
    go_ret
    rw [← HE.out]
    exact ⟨_, rfl, HR.out, HB.out⟩
end Go.Proofs.Ytlcajceefhgalaa.PNameAll
