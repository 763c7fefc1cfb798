/- What the law reaches, as plain Lean functions, and that the machine's calls answer just that. -/
import Derived.Test.YtdanmjfkocjgjaaPWalPutsx0
import Derived.Test.YtdanmjfkocjgjaaPWalPutsx5
import Derived.Test.YtdanmjfkocjgjaaPWalPutsx15
namespace Go.Proofs.Ytdanmjfkocjgjaa.PWalPuts
open Go.RowKit Go.Proofs.YtdanmjfkocjgjaaW.PrintWords Go.Proofs.YtdanmjfkocjgjaaW.PrintLast Go.Proofs.YtdanmjfkocjgjaaW.PrintMore
set_option linter.unusedVariables false
set_option maxHeartbeats 8000000
set_option linter.unusedSimpArgs false
section
attribute [local go_sem] max2_int min2_int max_two min_two max_three min_three max_four min_four
attribute [local go_sem] wrap64_l1 wrap64_l2 wrap64_l3 wrap64_l4 wrap64_l5
mutual
def varint_Put.l0 : Nat → List Int → List Int → Int → Int → Option (List Int)
 | 0, _, _, _, _ => none
 | k + 1, x3, x6, x7, x8 => if x8 < x7 then (if 0 ≤ x8 then (if x8 < (x6.length : Int) then (varint_Put.l1 k x3 (rd x6 x8) x6 x7 x8) else (none)) else (none)) else (some x3)
def varint_Put.l1 : Nat → List Int → Int → List Int → Int → Int → Option (List Int)
 | 0, _, _, _, _, _ => none
 | k + 1, x3, x5, x6, x7, x8 => if x5 ≥ 128 then (if x3.length < 140737488355328 then (varint_Put.l1 k (x3 ++ [Go.bits .or .u8 ((x5) % 256) 128]) (x5 / 128) x6 x7 x8) else (none)) else (if x3.length < 140737488355328 then (varint_Put.l0 k (x3 ++ [(x5) % 256]) x6 x7 (wrap64 (x8 + 1))) else (none))
end
def varint_Put.f (k : Nat) (l0 : List Int) : Option (List Int) := varint_Put.l0 k ([] : List Int) l0 (l0.length : Int) 0
theorem varint_Put.mono_l : ∀ k, (∀ y0 y1 y2 y3, LeO (varint_Put.l0 k y0 y1 y2 y3) (varint_Put.l0 (k + 1) y0 y1 y2 y3)) ∧ (∀ y0 y1 y2 y3 y4, LeO (varint_Put.l1 k y0 y1 y2 y3 y4) (varint_Put.l1 (k + 1) y0 y1 y2 y3 y4))
 | 0 => ⟨fun _ _ _ _ r h => by simp [varint_Put.l0] at h, fun _ _ _ _ _ r h => by simp [varint_Put.l1] at h⟩
 | k + 1 => by
  obtain ⟨ih0, ih1⟩ := varint_Put.mono_l k
  refine ⟨?_, ?_⟩
  ·intro y0 y1 y2 y3
   unfold varint_Put.l0
   repeat' (with_reducible first | exact ih0 .. | exact ih1 .. | exact LeO.refl .. | exact LeO.none .. | refine LeO.ite ?_ ?_ | refine LeO.bind ?_ (fun _ => ?_))
  ·intro y0 y1 y2 y3 y4
   unfold varint_Put.l1
   repeat' (with_reducible first | exact ih0 .. | exact ih1 .. | exact LeO.refl .. | exact LeO.none .. | refine LeO.ite ?_ ?_ | refine LeO.bind ?_ (fun _ => ?_))
theorem varint_Put.mono : ∀ a0 k, LeO (varint_Put.f k a0) (varint_Put.f (k + 1) a0) := by
 intro a0 k
 obtain ⟨ih0, ih1⟩ := varint_Put.mono_l k
 unfold varint_Put.f
 repeat' (with_reducible first | exact ih0 .. | exact ih1 .. | exact LeO.refl .. | exact LeO.none .. | refine LeO.ite ?_ ?_ | refine LeO.bind ?_ (fun _ => ?_))
set_option maxRecDepth 100000 in
theorem varint_Put.calls (k : Nat) (A0 : Option Addr) (c0 : Nat) (l0 : List Int) (r : List Int) (w : World) (hr0 : Kd.C (Kd.int .u64) w A0 l0.length l0) (hc0 : l0.length ≤ c0) (h : varint_Put.f k l0 = some r) :
 Calls Try.prog 28 #[.slice A0 l0.length c0] w fun e w' => ∃ v0_ : Value, e = .returned (v0_) ∧ Kd.R (Kd.int .u8) 5 w' w.heap.size (fun _ => True) v0_ r ∧ Below w.heap.size w w' := by
 have HR0 := Am hr0
 have HC0 := Am hc0
 clear hr0 hc0
 have HB := Am (Below.refl w.heap.size w)
 unfold varint_Put.f at h
 have H := h
 clear h
 have H' := Am H
 clear H
 go_enter Try.func28, Try.ntmps28
 go_wp2
 go_loopg [3, 8] k (fun kq v3 v8 w' => ∃ (Af : List Int) (Aa : Int), v8 = .int .i64 Aa ∧ Aside0 (varint_Put.l0 kq Af l0 (l0.length : Int) Aa = some r) ∧ Aside0 (kq ≤ k) ∧ Aside0 (Kd.R (Kd.int .u8) 5 w' w.heap.size (fun _ => True) v3 Af) ∧ Aside0 (Below w.heap.size w w'))
 case atStart => exact ⟨(([] : List Int)), (0), zr, H', ⟨Nat.le_refl _⟩, ⟨zn⟩, ⟨pB HB.out⟩⟩
 case round =>
  clear H'
  obtain ⟨Af, Aa, rfl, HA, HK1, Ae, HB⟩ := hrel
  cases gk with
  | zero => exact absurd HA.out (by simp [varint_Put.l0])
  | succ k1 =>
   have H := HA.out
   clear HA
   simp only [varint_Put.l0] at H
   by_cases c2 : Aa < (l0.length : Int)
   rotate_left
   ·rw [if_neg c2] at H
    have c2b0 := decide_eq_false c2
    clear c2
    obtain rfl := Option.some.inj H
    go_wp2
    go_ret
    exact ⟨_, pX, by (with_reducible repeat (first | apply Kd.R_alloc | apply Kd.R_drewN | apply Kd.R_drew)); exact Ae.out, pB HB.out⟩
   rw [if_pos c2] at H
   have c2b0 := decide_eq_true c2
   clear c2
   obtain ⟨c3, H⟩ := zI H
   have c3b0 := decide_eq_true c3
   clear c3
   obtain ⟨c4, H⟩ := zI H
   have c4b0 := decide_eq_true c4
   clear c4
   have H' := Am H
   clear H
   have p415 : 0 ≤ (Aa : Int) := of_decide_eq_true pS
   have q415 : Aa < (l0.length : Int) := of_decide_eq_true pS
   obtain ⟨ad415, e415, Ad⟩ := Kd.at_int HR0.out Aa p415 q415
   cases e415
   replace Ad := cU HB.out Ad
   replace p415 := eq_true p415
   replace q415 := eq_true q415
   go_wp2
   go_loopg [3, 5] k1 (fun kq v3 v5 w' => ∃ (Ac : List Int) (Ab : Int), v5 = .int .u64 Ab ∧ Aside0 (varint_Put.l1 kq Ac Ab l0 (l0.length : Int) Aa = some r) ∧ Aside0 (kq ≤ k1) ∧ Aside0 (Kd.R (Kd.int .u8) 5 w' w.heap.size (fun _ => True) v3 Ac) ∧ Aside0 (Below w.heap.size w w'))
   case atStart => exact ⟨(Af), (rd l0 Aa), zr, H', ⟨Nat.le_refl _⟩, ⟨by (with_reducible repeat (first | apply Kd.R_alloc | apply Kd.R_drewN | apply Kd.R_drew)); exact Ae.out⟩, ⟨pB HB.out⟩⟩
   case round =>
    clear H'
    try clear c2
    try clear c2b0
    try clear p2
    try clear c3
    try clear c3b0
    try clear c4
    try clear c4b0
    try clear p4
    try clear q4
    try clear hx4
    try clear Ad
    try clear p415
    try clear q415
    obtain ⟨Ac, Ab, rfl, HA, HK2, Ae, HB⟩ := hrel
    cases gk with
    | zero => exact absurd HA.out (by simp [varint_Put.l1])
    | succ k2 =>
     have H := HA.out
     clear HA
     simp only [varint_Put.l1] at H
     by_cases c5 : Ab ≥ 128
     ·rw [if_pos c5] at H
      have c5b0 : decide (128 ≤ Ab) = true := decide_eq_true c5
      clear c5
      obtain ⟨c6, H⟩ := zI H
      have LMc6 := Am c6
      clear c6
      obtain ⟨y416, hy416⟩ : ∃ y_ : List Int, y_ = (Ac ++ [Go.bits .or .u8 ((Ab) % 256) 128]) := ⟨_, rfl⟩
      replace H : (varint_Put.l1 k2 y416 (Ab / 128) l0 (l0.length : Int) Aa) = some r := zy hy416 H
      have Ny416 := Am hy416
      clear hy416
      have H' := Am H
      clear H
      go_wp2_with (first | ((with_reducible refine gate_builtin (b := .append) (xs := #[.tmp 14, .tmp 18]) rfl ?_); at_builtin; refine Kd.R_append (Kd.int .u8) (w0 := w) w.heap.size rfl (.tmp 14) (.tmp 18) 22 5 (.int .u8 0) 1 rfl Try.underlying22 info5 rfl (by decide) (by omega) u3 Ac (Go.bits .or .u8 ((Ab) % 256) 128) [.int .u8 (Go.bits .or .u8 ((Ab) % 256) 128)] (fun _ => True) (fun _ => False) rfl rfl ?aP (fun _ hk => hk.elim) ?aF ?aO ?aB ?aS ?aL ?_; (case aP => exact rfl); (case aB => exact (pB HB.out)); (case aF => exact (fun _ _ => trivial)); (case aO => exact (pR Ae.out)); (case aS => exact (below_size (pB HB.out))); (case aL => have := LMc6.out; omega); intro v417 w7 ho hb hg hat; rw [← Ny416.out] at ho; replace HB := Am (hb); have Ag := Am (ho); clear Ae ho hb hg hat))
      go_roundg k2
      case measure => have := HK1.out; have := HK2.out; omega
      case rel => exact ⟨(y416), (Ab / 128), zr, H', ⟨by have := HK1.out; have := HK2.out; omega⟩, ⟨by (with_reducible repeat (first | apply Kd.R_alloc | apply Kd.R_drewN | apply Kd.R_drew)); exact Ag.out⟩, ⟨pB HB.out⟩⟩
     rw [if_neg c5] at H
     have c5b0 : decide (128 ≤ Ab) = false := decide_eq_false c5
     clear c5
     obtain ⟨c8, H⟩ := zI H
     have LMc8 := Am c8
     clear c8
     obtain ⟨y419, hy419⟩ : ∃ y_ : List Int, y_ = (Ac ++ [(Ab) % 256]) := ⟨_, rfl⟩
     replace H : (varint_Put.l0 k2 y419 l0 (l0.length : Int) (wrap64 (Aa + 1))) = some r := zy hy419 H
     have Ny419 := Am hy419
     clear hy419
     have H' := Am H
     clear H
     go_wp2_with (first | ((with_reducible refine gate_builtin (b := .append) (xs := #[.tmp 22, .tmp 25]) rfl ?_); at_builtin; refine Kd.R_append (Kd.int .u8) (w0 := w) w.heap.size rfl (.tmp 22) (.tmp 25) 22 5 (.int .u8 0) 1 rfl Try.underlying22 info5 rfl (by decide) (by omega) u3 Ac ((Ab) % 256) [.int .u8 ((Ab) % 256)] (fun _ => True) (fun _ => False) rfl rfl ?aP (fun _ hk => hk.elim) ?aF ?aO ?aB ?aS ?aL ?_; (case aP => exact rfl); (case aB => exact (pB HB.out)); (case aF => exact (fun _ _ => trivial)); (case aO => exact (pR Ae.out)); (case aS => exact (below_size (pB HB.out))); (case aL => have := LMc8.out; omega); intro v420 w9 ho hb hg hat; rw [← Ny419.out] at ho; replace HB := Am (hb); have Ah := Am (ho); clear Ae ho hb hg hat))
     go_roundg k2
     case measure => have := HK1.out; have := HK2.out; omega
     case rel => exact ⟨(y419), (wrap64 (Aa + 1)), zr, H', ⟨by have := HK1.out; have := HK2.out; omega⟩, ⟨by (with_reducible repeat (first | apply Kd.R_alloc | apply Kd.R_drewN | apply Kd.R_drew)); exact Ah.out⟩, ⟨pB HB.out⟩⟩
def point_Put.f (k : Nat) (a0_0 : Int) (a0_1 : Int) (a0_2 : Int) (a0_3 : Int) : Option (List Int × Int) := (point_Check.f a0_0 a0_1 a0_2 a0_3).bind fun t423 => (if t423 = 0 then ((varint_Put.f k (([IntKind.u64.wrap (a0_0), IntKind.u64.wrap (a0_1), IntKind.u64.wrap (a0_2)] : List Int))).bind fun t427 => ((some (([(a0_3) % 256, (a0_3 / 256) % 256, (a0_3 / 65536) % 256, (a0_3 / 16777216) % 256] : List Int) : List Int)).bind fun y430 => (if t427.length + y430.length < 140737488355328 then (some ((t427 ++ y430), 0)) else (none)))) else (some (([] : List Int), t423)))
theorem point_Put.mono : ∀ a0 a1 a2 a3 k, LeO (point_Put.f k a0 a1 a2 a3) (point_Put.f (k + 1) a0 a1 a2 a3) := by
 intro a0 a1 a2 a3 k
 unfold point_Put.f
 repeat' (with_reducible first | exact varint_Put.mono .. | exact LeO.refl .. | exact LeO.none .. | refine LeO.ite ?_ ?_ | refine LeO.bind ?_ (fun _ => ?_))
set_option maxRecDepth 100000 in
theorem point_Put.calls (k : Nat) (a0_0 : Int) (a0_1 : Int) (a0_2 : Int) (a0_3 : Int) (r1 : List Int) (r2 : Int) (w : World) (h : point_Put.f k a0_0 a0_1 a0_2 a0_3 = some (r1, r2)) :
 Calls Try.prog 70 #[.agg #[.int .i64 a0_0, .int .i64 a0_1, .int .i64 a0_2, .int .u32 a0_3]] w fun e w' => ∃ v0_ : Value, e = .returned (.tuple #[v0_, .int .i64 r2]) ∧ Kd.R (Kd.int .u8) 5 w' w.heap.size (fun _ => True) v0_ r1 ∧ Below w.heap.size w w' := by
 have hu48 := Try.underlying48
 have HB := Am (Below.refl w.heap.size w)
 unfold point_Put.f at h
 have H := h
 clear h
 obtain ⟨t423, A2, H⟩ := zb H
 by_cases c3 : t423 = 0
 rotate_left
 ·rw [if_neg c3] at H
  obtain ⟨c3b0, c3b1⟩ := zk c3
  simp only [Option.some.injEq, Prod.mk.injEq] at H
  obtain ⟨rfl, rfl⟩ := H
  go_enter Try.func70, Try.ntmps70
  go_wp2_with (first | ((with_reducible refine zD 1 rfl ?_); refine zE 1 #[.int .i64 a0_0, .int .i64 a0_1, .int .i64 a0_2, .int .u32 a0_3] 48 ?_; intro Af hg w19 hbox hb; have Aa := Am (hbox); have Ag := zA hg HB; replace HB := zB HB hb; have Ab := Ag; clear hb hbox hg; obtain ⟨_, _, _, _⟩ := bc4 Aa.out; obtain ⟨_, _, _, _⟩ := bf4 Aa.out) | ((with_reducible refine zC 80 rfl ?_); refine zL (some 7) Try.func80 #[.agg #[.int .i64 a0_0, .int .i64 a0_1, .int .i64 a0_2, .int .u32 a0_3]] ?_; (with_reducible refine (point_Check.calls a0_0 a0_1 a0_2 a0_3 t423 _ A2.out).mono ?_); rintro e w21 ⟨rfl, hb⟩; refine ⟨_, rfl, ?_⟩; replace Aa := kBa Aa hb; replace HB := zX1 HB Ab.out hb; (try clear hb)))
  go_ret2
  exact ⟨_, pX, zn, pE HB.out Ab.out⟩
 rw [if_pos c3] at H
 obtain ⟨c3b0, c3b1⟩ := zc c3
 clear c3
 obtain ⟨y424, hy424⟩ : ∃ y_ : List Int, y_ = (([IntKind.u64.wrap (a0_0), IntKind.u64.wrap (a0_1), IntKind.u64.wrap (a0_2)] : List Int)) := ⟨_, rfl⟩
 replace H : ((varint_Put.f k y424).bind fun t427 => ((some (([(a0_3) % 256, (a0_3 / 256) % 256, (a0_3 / 65536) % 256, (a0_3 / 16777216) % 256] : List Int) : List Int)).bind fun y430 => (if t427.length + y430.length < 140737488355328 then (some ((t427 ++ y430), 0)) else (none)))) = some (r1, r2) := zy hy424 H
 have Ny424 := Am hy424
 clear hy424
 obtain ⟨t427, A4, H⟩ := zb H
 obtain ⟨y430, hy430⟩ : ∃ y_ : List Int, y_ = (([(a0_3) % 256, (a0_3 / 256) % 256, (a0_3 / 65536) % 256, (a0_3 / 16777216) % 256] : List Int)) := ⟨_, rfl⟩
 replace H : (if t427.length + y430.length < 140737488355328 then (some ((t427 ++ y430), 0)) else (none)) = some (r1, r2) := zy hy430 H
 have Ny430 := Am hy430
 clear hy430
 obtain ⟨c5, H⟩ := zI H
 have LMc5 := Am c5
 clear c5
 obtain ⟨y433, hy433⟩ : ∃ y_ : List Int, y_ = (t427 ++ y430) := ⟨_, rfl⟩
 replace H : (some (y433, 0)) = some (r1, r2) := zy hy433 H
 have Ny433 := Am hy433
 clear hy433
 simp only [Option.some.injEq, Prod.mk.injEq] at H
 obtain ⟨rfl, rfl⟩ := H
 go_enter Try.func70, Try.ntmps70
 go_wp2_with (first | ((with_reducible refine zD 1 rfl ?_); refine zE 1 #[.int .i64 a0_0, .int .i64 a0_1, .int .i64 a0_2, .int .u32 a0_3] 48 ?_; intro Af hg w6 hbox hb; have Aa := Am (hbox); have Ag := zA hg HB; replace HB := zB HB hb; have Ab := Ag; clear hb hbox hg; obtain ⟨_, _, _, _⟩ := bc4 Aa.out; obtain ⟨_, _, _, _⟩ := bf4 Aa.out) | ((with_reducible refine zC 80 rfl ?_); refine zL (some 7) Try.func80 #[.agg #[.int .i64 a0_0, .int .i64 a0_1, .int .i64 a0_2, .int .u32 a0_3]] ?_; (with_reducible refine (point_Check.calls a0_0 a0_1 a0_2 a0_3 t423 _ A2.out).mono ?_); rintro e w8 ⟨rfl, hb⟩; refine ⟨_, rfl, ?_⟩; replace Aa := kBa Aa hb; replace HB := zX1 HB Ab.out hb; (try clear hb); obtain ⟨_, _, _, _⟩ := bc4 Aa.out; obtain ⟨_, _, _, _⟩ := bf4 Aa.out) | ((with_reducible refine zD 20 rfl ?_); refine Kd.R_lit (Kd.int .u64) _ 61 ?hg (N := 20) ?hd (xs := ([IntKind.u64.wrap (a0_0), IntKind.u64.wrap (a0_1), IntKind.u64.wrap (a0_2)] : List Int)) (inner := [.int .u64 (IntKind.u64.wrap (a0_0)), .int .u64 (IntKind.u64.wrap (a0_1)), .int .u64 (IntKind.u64.wrap (a0_2))]) (ok := fun _ => True) (okp := fun _ => True) ?hr ?hp (fun _ hk => hk) trivial (Below.refl _ _) (Nat.le_refl _) (by simp) ?_; (case hd => rfl); (case hg => rfl); (case hr => first | (go_simp; done) | (go_simp; rfl)); (case hp => exact (Reps.one (show Kd.M (Kd.int .u64) _ _ _ (IntKind.u64.wrap (a0_0)) [.int .u64 (IntKind.u64.wrap (a0_0))] from rfl) (Reps.one (show Kd.M (Kd.int .u64) _ _ _ (IntKind.u64.wrap (a0_1)) [.int .u64 (IntKind.u64.wrap (a0_1))] from rfl) (Reps.one (show Kd.M (Kd.int .u64) _ _ _ (IntKind.u64.wrap (a0_2)) [.int .u64 (IntKind.u64.wrap (a0_2))] from rfl) (Reps.none _ _))))); intro v425 w10 ho11 hb hg_ hnew_; clear hg_ hnew_; (first | rw [← Ny424.out] at ho11 | (simp only [Int.reduceToNat] at ho11; rw [← Ny424.out] at ho11)); have Ac := Am (Kd.R_lower ho11 (below_size (pE HB.out Ab.out))); replace Aa := kBa Aa hb; replace HB := zX1 HB Ab.out hb; clear hb ho11; obtain ⟨Ak, Al, An⟩ := Kd.R_slice Ac.out; subst An) | ((with_reducible refine zC 28 rfl ?_); refine zL (some 21) Try.func28 #[.slice Ak y424.length Al] ?_; (with_reducible refine (varint_Put.calls k _ _ y424 t427 _ ?Ah ?Ai A4.out).mono ?_); (case Ah => exact pC (Kd.R_reads' Ac.out).2.2); (case Ai => exact (Kd.R_reads' Ac.out).2.1); rintro e w13 ⟨v428, rfl, ho0, hb⟩; refine ⟨_, rfl, ?_⟩; replace Ac := bRa Ac hb; have Ad := Am (Kd.R_lower ho0 (below_size (pE HB.out Ab.out))); replace Aa := kBa Aa hb; replace HB := zX1 HB Ab.out hb; (try clear hb); (try clear ho0); obtain ⟨_, _, _, _⟩ := bc4 Aa.out; obtain ⟨_, _, _, _⟩ := bf4 Aa.out) | ((with_reducible refine zD 38 rfl ?_); refine Kd.R_lit (Kd.int .u8) _ 5 ?hg (N := 38) ?hd (xs := ([(a0_3) % 256, (a0_3 / 256) % 256, (a0_3 / 65536) % 256, (a0_3 / 16777216) % 256] : List Int)) (inner := [.int .u8 ((a0_3) % 256), .int .u8 ((a0_3 / 256) % 256), .int .u8 ((a0_3 / 65536) % 256), .int .u8 ((a0_3 / 16777216) % 256)]) (ok := fun _ => True) (okp := fun _ => True) ?hr ?hp (fun _ hk => hk) trivial (Below.refl _ _) (Nat.le_refl _) (by simp) ?_; (case hd => rfl); (case hg => rfl); (case hr => first | (go_simp; done) | (go_simp; rfl)); (case hp => exact (Reps.one (show Kd.M (Kd.int .u8) _ _ _ ((a0_3) % 256) [.int .u8 ((a0_3) % 256)] from rfl) (Reps.one (show Kd.M (Kd.int .u8) _ _ _ ((a0_3 / 256) % 256) [.int .u8 ((a0_3 / 256) % 256)] from rfl) (Reps.one (show Kd.M (Kd.int .u8) _ _ _ ((a0_3 / 65536) % 256) [.int .u8 ((a0_3 / 65536) % 256)] from rfl) (Reps.one (show Kd.M (Kd.int .u8) _ _ _ ((a0_3 / 16777216) % 256) [.int .u8 ((a0_3 / 16777216) % 256)] from rfl) (Reps.none _ _)))))); intro v431 w15 ho16 hb hg_ hnew_; clear hg_ hnew_; (first | rw [← Ny430.out] at ho16 | (simp only [Int.reduceToNat] at ho16; rw [← Ny430.out] at ho16)); replace Ac := bRa Ac hb; have Ae := Am (Kd.R_lower (Kd.R_new' ho16 (Kd.R_lt (pR Ad.out))) (below_size (pE HB.out Ab.out))); replace Ad := Am (Kd.R_elder' (pR Ad.out) (Kd.R_base ho16) hb); replace Aa := kBa Aa hb; replace HB := zX1 HB Ab.out hb; clear hb ho16; obtain ⟨Ao, Ap, Aq⟩ := Kd.R_slice Ae.out; subst Aq) | ((with_reducible refine gate_builtin (b := .append) (xs := #[.tmp 22, .tmp 38]) rfl ?_); at_builtin; refine Kd.R_append_rows (Kd.int .u8) (w0 := w) w.heap.size rfl (.tmp 22) (.tmp 38) 22 5 (.int .u8 0) 1 rfl Try.underlying22 info5 rfl (by decide) (by omega) v428 t427 y430 _ _ _ (fun k_ => some k_ ≠ (.slice Ao y430.length Ap : Value).ownBlock) (fun _ => False) rfl rfl ?aO ?aR (fun _ _ h => h) (fun _ h => h.elim) ?aF ?aB ?aS ?aL ?_; (case aR => exact pC (Kd.R_reads' Ae.out).2.2); (case aB => exact (pE HB.out Ab.out)); (case aF => exact (fun k_ hk => Kd.fresh' (Kd.R_lt (pR Ae.out)) k_ hk)); (case aO => exact (by (with_reducible repeat (first | apply Kd.R_alloc | apply Kd.R_drewN | apply Kd.R_drew)); exact Kd.R_mono Ad.out (fun _ hk => hk.2))); (case aS => exact (below_size (pE HB.out Ab.out))); (case aL => have := LMc5.out; omega); intro v434 w17 ho hb hg hat; rw [← Ny433.out] at ho; replace Aa := Am (blk_grown (g := Af) (o := .cells #[.int .i64 a0_0, .int .i64 a0_1, .int .i64 a0_2, .int .u32 a0_3] 48 (0, 0)) (pK Aa.out) hg (Kd.R_ne Ad.out Aa.out (by decide))); replace Ac := Am (Kd.R_over' (pR Ac.out) (Kd.R_typed (pR Ad.out)) (by decide) hg); replace Ae := Am (Kd.R_after (ok := (fun _ => True)) (pR Ae.out) hg hat); replace HB := Am (hb); have Aj := Am (ho); clear Ad ho hb hg hat))
 go_ret2
 exact ⟨_, pX, by (with_reducible repeat (first | apply Kd.R_alloc | apply Kd.R_drewN | apply Kd.R_drew)); exact Kd.R_mono Aj.out (fun _ hk => trivial), pE HB.out Ab.out⟩
def cell_Put.f (k : Nat) (a0_0 : Bool) (l0_1 : List Int) (a0_2 : Int) (a0_3 : Int) (a0_4 : Int) (a0_5 : Int) : Option (List Int × Int) := (cell_Check.f a0_0 l0_1 a0_2 a0_3 a0_4 a0_5).bind fun t437 => (if t437 = 0 then (if a0_0 = true then ((point_Put.f k a0_2 a0_3 a0_4 a0_5).bind fun bt438 => ((some (([1] : List Int) : List Int)).bind fun y442 => (if y442.length + bt438.1.length < 140737488355328 then (some ((y442 ++ bt438.1), bt438.2)) else (none)))) else ((some (([0] : List Int) : List Int)).bind fun y448 => ((varint_Put.f k (([IntKind.u64.wrap ((l0_1.length : Int))] : List Int))).bind fun t454 => (if y448.length + t454.length < 140737488355328 then ((some (y448 ++ t454 : List Int)).bind fun y457 => (if y457.length + l0_1.length < 140737488355328 then (some ((y457 ++ l0_1), 0)) else (none))) else (none))))) else (some (([] : List Int), t437)))
theorem cell_Put.mono : ∀ a0 a1 a2 a3 a4 a5 k, LeO (cell_Put.f k a0 a1 a2 a3 a4 a5) (cell_Put.f (k + 1) a0 a1 a2 a3 a4 a5) := by
 intro a0 a1 a2 a3 a4 a5 k
 unfold cell_Put.f
 repeat' (with_reducible first | exact point_Put.mono .. | exact varint_Put.mono .. | exact LeO.refl .. | exact LeO.none .. | refine LeO.ite ?_ ?_ | refine LeO.bind ?_ (fun _ => ?_))
set_option maxRecDepth 100000 in
theorem cell_Put.calls (k : Nat) (a0_0 : Bool) (A0_1 : Option Addr) (c0_1 : Nat) (l0_1 : List Int) (a0_2 : Int) (a0_3 : Int) (a0_4 : Int) (a0_5 : Int) (r1 : List Int) (r2 : Int) (w : World) (hr0_1 : Kd.C (Kd.int .u8) w A0_1 l0_1.length l0_1) (hc0_1 : l0_1.length ≤ c0_1) (h : cell_Put.f k a0_0 l0_1 a0_2 a0_3 a0_4 a0_5 = some (r1, r2)) :
 Calls Try.prog 53 #[.agg #[.bool a0_0, .slice A0_1 l0_1.length c0_1, .int .i64 a0_2, .int .i64 a0_3, .int .i64 a0_4, .int .u32 a0_5]] w fun e w' => ∃ v0_ : Value, e = .returned (.tuple #[v0_, .int .i64 r2]) ∧ Kd.R (Kd.int .u8) 5 w' w.heap.size (fun _ => True) v0_ r1 ∧ Below w.heap.size w w' := by
 have hu50 := Try.underlying50
 have hu48 := Try.underlying48
 have Ak := Am hr0_1
 have An := Am hc0_1
 clear hr0_1 hc0_1
 have HB := Am (Below.refl w.heap.size w)
 unfold cell_Put.f at h
 have H := h
 clear h
 obtain ⟨t437, A2, H⟩ := zb H
 by_cases c3 : t437 = 0
 rotate_left
 ·rw [if_neg c3] at H
  obtain ⟨c3b0, c3b1⟩ := zk c3
  simp only [Option.some.injEq, Prod.mk.injEq] at H
  obtain ⟨rfl, rfl⟩ := H
  go_enter Try.func53, Try.ntmps53
  go_wp2_with (first | ((with_reducible refine zD 1 rfl ?_); refine zE 1 #[.bool a0_0, .slice A0_1 l0_1.length c0_1, .int .i64 a0_2, .int .i64 a0_3, .int .i64 a0_4, .int .u32 a0_5] 50 ?_; intro Ae hg w34 hbox hb; have Aa := Am (hbox); have Aj := zA hg HB; replace HB := zB HB hb; have Ab := Aj; clear hb hbox hg; obtain ⟨_, _, _, _, _, _⟩ := bc6 Aa.out; obtain ⟨_, _, _, _, _, _⟩ := bf6 Aa.out) | ((with_reducible refine zC 69 rfl ?_); refine zL (some 9) Try.func69 #[.agg #[.bool a0_0, .slice A0_1 l0_1.length c0_1, .int .i64 a0_2, .int .i64 a0_3, .int .i64 a0_4, .int .u32 a0_5]] ?_; (with_reducible refine (cell_Check.calls a0_0 _ _ l0_1 a0_2 a0_3 a0_4 a0_5 t437 _ ?Ah ?Ai A2.out).mono ?_); (case Ah => exact pC (Kd.C_below Ak.out HB.out)); (case Ai => exact An.out); rintro e w36 ⟨rfl, hb⟩; refine ⟨_, rfl, ?_⟩; replace Aa := kBa Aa hb; replace HB := zX1 HB Ab.out hb; (try clear hb)))
  go_ret2
  exact ⟨_, pX, zn, pE HB.out Ab.out⟩
 rw [if_pos c3] at H
 obtain ⟨c3b0, c3b1⟩ := zc c3
 clear c3
 by_cases c4 : a0_0 = true
 ·subst c4
  rw [if_pos rfl] at H
  obtain ⟨⟨t438, t441⟩, A5, H⟩ := zb H
  dsimp only at H
  obtain ⟨y442, hy442⟩ : ∃ y_ : List Int, y_ = (([1] : List Int)) := ⟨_, rfl⟩
  replace H : (if y442.length + t438.length < 140737488355328 then (some ((y442 ++ t438), t441)) else (none)) = some (r1, r2) := zy hy442 H
  have Ny442 := Am hy442
  clear hy442
  obtain ⟨c6, H⟩ := zI H
  have LMc6 := Am c6
  clear c6
  obtain ⟨y445, hy445⟩ : ∃ y_ : List Int, y_ = (y442 ++ t438) := ⟨_, rfl⟩
  replace H : (some (y445, t441)) = some (r1, r2) := zy hy445 H
  have Ny445 := Am hy445
  clear hy445
  simp only [Option.some.injEq, Prod.mk.injEq] at H
  obtain ⟨rfl, rfl⟩ := H
  go_enter Try.func53, Try.ntmps53
  go_wp2_with (first | ((with_reducible refine zD 1 rfl ?_); refine zE 1 #[.bool true, .slice A0_1 l0_1.length c0_1, .int .i64 a0_2, .int .i64 a0_3, .int .i64 a0_4, .int .u32 a0_5] 50 ?_; intro Ae hg w7 hbox hb; have Aa := Am (hbox); have Aj := zA hg HB; replace HB := zB HB hb; have Ab := Aj; clear hb hbox hg; obtain ⟨_, _, _, _, _, _⟩ := bc6 Aa.out; obtain ⟨_, _, _, _, _, _⟩ := bf6 Aa.out) | ((with_reducible refine zC 69 rfl ?_); refine zL (some 9) Try.func69 #[.agg #[.bool true, .slice A0_1 l0_1.length c0_1, .int .i64 a0_2, .int .i64 a0_3, .int .i64 a0_4, .int .u32 a0_5]] ?_; (with_reducible refine (cell_Check.calls true _ _ l0_1 a0_2 a0_3 a0_4 a0_5 t437 _ ?Ah ?Ai A2.out).mono ?_); (case Ah => exact pC (Kd.C_below Ak.out HB.out)); (case Ai => exact An.out); rintro e w9 ⟨rfl, hb⟩; refine ⟨_, rfl, ?_⟩; replace Aa := kBa Aa hb; replace HB := zX1 HB Ab.out hb; (try clear hb); obtain ⟨_, _, _, _, _, _⟩ := bc6 Aa.out; obtain ⟨_, _, _, _, _, _⟩ := bf6 Aa.out) | ((with_reducible refine zC 70 rfl ?_); refine zL (some 18) Try.func70 #[.agg #[.int .i64 a0_2, .int .i64 a0_3, .int .i64 a0_4, .int .u32 a0_5]] ?_; (with_reducible refine (point_Put.calls k a0_2 a0_3 a0_4 a0_5 t438 t441 _ A5.out).mono ?_); rintro e w11 ⟨v439, rfl, ho0, hb⟩; refine ⟨_, rfl, ?_⟩; have Af := Am (Kd.R_lower ho0 (below_size (pE HB.out Ab.out))); replace Aa := kBa Aa hb; replace HB := zX1 HB Ab.out hb; (try clear hb); (try clear ho0)) | ((with_reducible refine zD 21 rfl ?_); refine Kd.R_lit (Kd.int .u8) _ 5 ?hg (N := 21) ?hd (xs := ([1] : List Int)) (inner := [.int .u8 1]) (ok := fun _ => True) (okp := fun _ => True) ?hr ?hp (fun _ hk => hk) trivial (Below.refl _ _) (Nat.le_refl _) (by simp) ?_; (case hd => rfl); (case hg => rfl); (case hr => first | (go_simp; done) | (go_simp; rfl)); (case hp => exact (Reps.one (show Kd.M (Kd.int .u8) _ _ _ 1 [.int .u8 1] from rfl) (Reps.none _ _))); intro v443 w12 ho13 hb hg_ hnew_; clear hg_ hnew_; (first | rw [← Ny442.out] at ho13 | (simp only [Int.reduceToNat] at ho13; rw [← Ny442.out] at ho13)); have Ao := Am (Kd.R_lower (Kd.R_new' ho13 (Kd.R_lt (pR Af.out))) (below_size (pE HB.out Ab.out))); replace Af := Am (Kd.R_elder' (pR Af.out) (Kd.R_base ho13) hb); replace Aa := kBa Aa hb; replace HB := zX1 HB Ab.out hb; clear hb ho13; obtain ⟨At, Au, Av⟩ := Kd.R_slice Af.out; subst Av) | ((with_reducible refine gate_builtin (b := .append) (xs := #[.tmp 21, .tmp 22]) rfl ?_); at_builtin; refine Kd.R_append_rows (Kd.int .u8) (w0 := w) w.heap.size rfl (.tmp 21) (.tmp 22) 22 5 (.int .u8 0) 1 rfl Try.underlying22 info5 rfl (by decide) (by omega) v443 y442 t438 _ _ _ (fun k_ => some k_ ≠ (.slice At t438.length Au : Value).ownBlock) (fun _ => False) rfl rfl ?aO ?aR (fun _ _ h => h) (fun _ h => h.elim) ?aF ?aB ?aS ?aL ?_; (case aR => exact pC (Kd.R_reads' Af.out).2.2); (case aB => exact (pE HB.out Ab.out)); (case aF => exact (fun k_ hk => Kd.fresh' (Kd.R_lt (pR Af.out)) k_ hk)); (case aO => exact (by (with_reducible repeat (first | apply Kd.R_alloc | apply Kd.R_drewN | apply Kd.R_drew)); exact Kd.R_mono Ao.out (fun _ hk => hk.2))); (case aS => exact (below_size (pE HB.out Ab.out))); (case aL => have := LMc6.out; omega); intro v446 w14 ho hb hg hat; rw [← Ny445.out] at ho; replace Aa := Am (blk_grown (g := Ae) (o := .cells #[.bool true, .slice A0_1 l0_1.length c0_1, .int .i64 a0_2, .int .i64 a0_3, .int .i64 a0_4, .int .u32 a0_5] 50 (0, 0)) (pK Aa.out) hg (Kd.R_ne Ao.out Aa.out (by decide))); replace Af := Am (Kd.R_after (ok := (fun _ => True)) (pR Af.out) hg hat); replace HB := Am (hb); have Ar := Am (ho); clear Ao ho hb hg hat))
  go_ret2
  exact ⟨_, pX, by (with_reducible repeat (first | apply Kd.R_alloc | apply Kd.R_drewN | apply Kd.R_drew)); exact Kd.R_mono Ar.out (fun _ hk => trivial), pE HB.out Ab.out⟩
 replace c4 := Bool.eq_false_iff.mpr c4
 subst c4
 rw [if_neg zF] at H
 obtain ⟨y448, hy448⟩ : ∃ y_ : List Int, y_ = (([0] : List Int)) := ⟨_, rfl⟩
 replace H : ((varint_Put.f k (([IntKind.u64.wrap ((l0_1.length : Int))] : List Int))).bind fun t454 => (if y448.length + t454.length < 140737488355328 then ((some (y448 ++ t454 : List Int)).bind fun y457 => (if y457.length + l0_1.length < 140737488355328 then (some ((y457 ++ l0_1), 0)) else (none))) else (none))) = some (r1, r2) := zy hy448 H
 have Ny448 := Am hy448
 clear hy448
 obtain ⟨y451, hy451⟩ : ∃ y_ : List Int, y_ = (([IntKind.u64.wrap ((l0_1.length : Int))] : List Int)) := ⟨_, rfl⟩
 replace H : ((varint_Put.f k y451).bind fun t454 => (if y448.length + t454.length < 140737488355328 then ((some (y448 ++ t454 : List Int)).bind fun y457 => (if y457.length + l0_1.length < 140737488355328 then (some ((y457 ++ l0_1), 0)) else (none))) else (none))) = some (r1, r2) := zy hy451 H
 have Ny451 := Am hy451
 clear hy451
 obtain ⟨t454, A16, H⟩ := zb H
 obtain ⟨c17, H⟩ := zI H
 have LMc17 := Am c17
 clear c17
 obtain ⟨y457, hy457⟩ : ∃ y_ : List Int, y_ = (y448 ++ t454) := ⟨_, rfl⟩
 replace H : (if y457.length + l0_1.length < 140737488355328 then (some ((y457 ++ l0_1), 0)) else (none)) = some (r1, r2) := zy hy457 H
 have Ny457 := Am hy457
 clear hy457
 obtain ⟨c18, H⟩ := zI H
 have LMc18 := Am c18
 clear c18
 obtain ⟨y460, hy460⟩ : ∃ y_ : List Int, y_ = (y457 ++ l0_1) := ⟨_, rfl⟩
 replace H : (some (y460, 0)) = some (r1, r2) := zy hy460 H
 have Ny460 := Am hy460
 clear hy460
 simp only [Option.some.injEq, Prod.mk.injEq] at H
 obtain ⟨rfl, rfl⟩ := H
 go_enter Try.func53, Try.ntmps53
 go_wp2_with (first | ((with_reducible refine zD 1 rfl ?_); refine zE 1 #[.bool false, .slice A0_1 l0_1.length c0_1, .int .i64 a0_2, .int .i64 a0_3, .int .i64 a0_4, .int .u32 a0_5] 50 ?_; intro Ae hg w19 hbox hb; have Aa := Am (hbox); have Aj := zA hg HB; replace HB := zB HB hb; have Ab := Aj; clear hb hbox hg; obtain ⟨_, _, _, _, _, _⟩ := bc6 Aa.out; obtain ⟨_, _, _, _, _, _⟩ := bf6 Aa.out) | ((with_reducible refine zC 69 rfl ?_); refine zL (some 9) Try.func69 #[.agg #[.bool false, .slice A0_1 l0_1.length c0_1, .int .i64 a0_2, .int .i64 a0_3, .int .i64 a0_4, .int .u32 a0_5]] ?_; (with_reducible refine (cell_Check.calls false _ _ l0_1 a0_2 a0_3 a0_4 a0_5 t437 _ ?Ah ?Ai A2.out).mono ?_); (case Ah => exact pC (Kd.C_below Ak.out HB.out)); (case Ai => exact An.out); rintro e w21 ⟨rfl, hb⟩; refine ⟨_, rfl, ?_⟩; replace Aa := kBa Aa hb; replace HB := zX1 HB Ab.out hb; (try clear hb); obtain ⟨_, _, _, _, _, _⟩ := bc6 Aa.out; obtain ⟨_, _, _, _, _, _⟩ := bf6 Aa.out) | ((with_reducible refine zD 25 rfl ?_); refine Kd.R_lit (Kd.int .u8) _ 5 ?hg (N := 25) ?hd (xs := ([0] : List Int)) (inner := [.int .u8 0]) (ok := fun _ => True) (okp := fun _ => True) ?hr ?hp (fun _ hk => hk) trivial (Below.refl _ _) (Nat.le_refl _) (by simp) ?_; (case hd => rfl); (case hg => rfl); (case hr => first | (go_simp; done) | (go_simp; rfl)); (case hp => exact (Reps.one (show Kd.M (Kd.int .u8) _ _ _ 0 [.int .u8 0] from rfl) (Reps.none _ _))); intro v449 w23 ho24 hb hg_ hnew_; clear hg_ hnew_; (first | rw [← Ny448.out] at ho24 | (simp only [Int.reduceToNat] at ho24; rw [← Ny448.out] at ho24)); have Ac := Am (Kd.R_lower ho24 (below_size (pE HB.out Ab.out))); replace Aa := kBa Aa hb; replace HB := zX1 HB Ab.out hb; clear hb ho24; obtain ⟨_, _, _, _, _, _⟩ := bc6 Aa.out; obtain ⟨_, _, _, _, _, _⟩ := bf6 Aa.out) | ((with_reducible refine zD 30 rfl ?_); refine Kd.R_lit (Kd.int .u64) _ 61 ?hg (N := 30) ?hd (xs := ([IntKind.u64.wrap ((l0_1.length : Int))] : List Int)) (inner := [.int .u64 (IntKind.u64.wrap ((l0_1.length : Int)))]) (ok := fun _ => True) (okp := fun _ => True) ?hr ?hp (fun _ hk => hk) trivial (Below.refl _ _) (Nat.le_refl _) (by simp) ?_; (case hd => rfl); (case hg => rfl); (case hr => first | (go_simp; done) | (go_simp; rfl)); (case hp => exact (Reps.one (show Kd.M (Kd.int .u64) _ _ _ (IntKind.u64.wrap ((l0_1.length : Int))) [.int .u64 (IntKind.u64.wrap ((l0_1.length : Int)))] from rfl) (Reps.none _ _))); intro v452 w26 ho27 hb hg_ hnew_; clear hg_ hnew_; (first | rw [← Ny451.out] at ho27 | (simp only [Int.reduceToNat] at ho27; rw [← Ny451.out] at ho27)); replace Ac := bRa Ac hb; have Ad := Am (Kd.R_lower ho27 (below_size (pE HB.out Ab.out))); replace Aa := kBa Aa hb; replace HB := zX1 HB Ab.out hb; clear hb ho27; obtain ⟨Aw, Ax, Ay⟩ := Kd.R_slice Ad.out; subst Ay) | ((with_reducible refine zC 28 rfl ?_); refine zL (some 31) Try.func28 #[.slice Aw y451.length Ax] ?_; (with_reducible refine (varint_Put.calls k _ _ y451 t454 _ ?Ah ?Ai A16.out).mono ?_); (case Ah => exact pC (Kd.R_reads' Ad.out).2.2); (case Ai => exact (Kd.R_reads' Ad.out).2.1); rintro e w29 ⟨v455, rfl, ho0, hb⟩; refine ⟨_, rfl, ?_⟩; replace Ad := bRa Ad hb; have Ag := Am (Kd.R_lower (Kd.R_new' ho0 (Kd.R_lt (pR Ac.out))) (below_size (pE HB.out Ab.out))); replace Ac := Am (Kd.R_elder' (pR Ac.out) (Kd.R_base ho0) hb); replace Aa := kBa Aa hb; replace HB := zX1 HB Ab.out hb; (try clear hb); (try clear ho0); obtain ⟨Ap, Aq, Az⟩ := Kd.R_slice Ag.out; subst Az) | ((with_reducible refine gate_builtin (b := .append) (xs := #[.tmp 25, .tmp 31]) rfl ?_); at_builtin; refine Kd.R_append_rows (Kd.int .u8) (w0 := w) w.heap.size rfl (.tmp 25) (.tmp 31) 22 5 (.int .u8 0) 1 rfl Try.underlying22 info5 rfl (by decide) (by omega) v449 y448 t454 _ _ _ (fun k_ => some k_ ≠ (.slice Ap t454.length Aq : Value).ownBlock) (fun _ => False) rfl rfl ?aO ?aR (fun _ _ h => h) (fun _ h => h.elim) ?aF ?aB ?aS ?aL ?_; (case aR => exact pC (Kd.R_reads' Ag.out).2.2); (case aB => exact (pE HB.out Ab.out)); (case aF => exact (fun k_ hk => Kd.fresh' (Kd.R_lt (pR Ag.out)) k_ hk)); (case aO => exact (by (with_reducible repeat (first | apply Kd.R_alloc | apply Kd.R_drewN | apply Kd.R_drew)); exact Kd.R_mono Ac.out (fun _ hk => hk.2))); (case aS => exact (below_size (pE HB.out Ab.out))); (case aL => have := LMc17.out; omega); intro v458 w30 ho hb hg hat; rw [← Ny457.out] at ho; replace Aa := Am (blk_grown (g := Ae) (o := .cells #[.bool false, .slice A0_1 l0_1.length c0_1, .int .i64 a0_2, .int .i64 a0_3, .int .i64 a0_4, .int .u32 a0_5] 50 (0, 0)) (pK Aa.out) hg (Kd.R_ne Ac.out Aa.out (by decide))); replace Ad := Am (Kd.R_over' (pR Ad.out) (Kd.R_typed (pR Ac.out)) (by decide) hg); replace Ag := Am (Kd.R_after (ok := (fun _ => True)) (pR Ag.out) hg hat); replace HB := Am (hb); have Al := Am (ho); clear Ac ho hb hg hat; obtain ⟨_, _, _, _, _, _⟩ := bc6 Aa.out; obtain ⟨_, _, _, _, _, _⟩ := bf6 Aa.out) | ((with_reducible refine gate_builtin (b := .append) (xs := #[.tmp 33, .tmp 35]) rfl ?_); at_builtin; refine Kd.R_append_rows (Kd.int .u8) (w0 := w) w.heap.size rfl (.tmp 33) (.tmp 35) 22 5 (.int .u8 0) 1 rfl Try.underlying22 info5 rfl (by decide) (by omega) v458 y457 l0_1 _ _ _ (fun k_ => some k_ ≠ (.slice Ap t454.length Aq : Value).ownBlock) (fun _ => False) rfl rfl ?aO ?aR (fun _ _ h => h) (fun _ h => h.elim) ?aF ?aB ?aS ?aL ?_; (case aR => exact pC (Kd.C_below Ak.out HB.out)); (case aB => exact (pE HB.out Ab.out)); (case aF => exact (fun k_ hk => Kd.fresh' (Kd.R_lt (pR Ag.out)) k_ hk)); (case aO => exact (pR Al.out)); (case aS => exact (below_size (pE HB.out Ab.out))); (case aL => have := LMc18.out; omega); intro v461 w33 ho hb hg hat; rw [← Ny460.out] at ho; replace Aa := Am (blk_grown (g := Ae) (o := .cells #[.bool false, .slice A0_1 l0_1.length c0_1, .int .i64 a0_2, .int .i64 a0_3, .int .i64 a0_4, .int .u32 a0_5] 50 (0, 0)) (pK Aa.out) hg (Kd.R_ne Al.out Aa.out (by decide))); replace Ad := Am (Kd.R_over' (pR Ad.out) (Kd.R_typed (pR Al.out)) (by decide) hg); replace Ag := Am (Kd.R_after (ok := (fun _ => True)) (pR Ag.out) hg hat); replace HB := Am (hb); have As := Am (ho); clear Al ho hb hg hat))
 go_ret2
 exact ⟨_, pX, by (with_reducible repeat (first | apply Kd.R_alloc | apply Kd.R_drewN | apply Kd.R_drew)); exact Kd.R_mono As.out (fun _ hk => trivial), pE HB.out Ab.out⟩
def entry_Put.l0 : Nat → List Int → List (S52) → Int → Int → Option (List Int × Int)
 | 0, _, _, _, _ => none
 | k + 1, x5, x25, x26, x27 => if x27 < x26 then (if 0 ≤ x27 then (if x27 < (x25.length : Int) then ((varint_Put.f k (([IntKind.u64.wrap ((rd_T52 x25 x27).f1)] : List Int))).bind fun t476 => (if x5.length + t476.length < 140737488355328 then ((some (x5 ++ t476 : List Int)).bind fun y479 => (if y479.length < 140737488355328 then ((some (y479 ++ [((rd_T52 x25 x27).f2) % 256] : List Int)).bind fun y482 => ((varint_Put.f k (([IntKind.u64.wrap ((((rd_T52 x25 x27).f3).size : Int))] : List Int))).bind fun t488 => (if y482.length + t488.length < 140737488355328 then ((some (y482 ++ t488 : List Int)).bind fun y491 => (if y491.length + ((rd_T52 x25 x27).f3).size < 140737488355328 then ((some (y491 ++ bytesOf ((rd_T52 x25 x27).f3) : List Int)).bind fun y494 => (if ((rd_T52 x25 x27).f2) = 2 then (entry_Put.l0 k y494 x25 x26 (wrap64 (x27 + 1))) else ((cell_Put.f k ((rd_T52 x25 x27).f4.f0) ((rd_T52 x25 x27).f4.f1) ((rd_T52 x25 x27).f4.f2.f0) ((rd_T52 x25 x27).f4.f2.f1) ((rd_T52 x25 x27).f4.f2.f2) ((rd_T52 x25 x27).f4.f2.f3)).bind fun bt497 => (if y494.length + bt497.1.length < 140737488355328 then (entry_Put.l0 k (y494 ++ bt497.1) x25 x26 (wrap64 (x27 + 1))) else (none))))) else (none))) else (none)))) else (none))) else (none))) else (none)) else (none)) else (some (x5, 0))
def entry_Put.f (k : Nat) (l0 : List (S52)) : Option (List Int × Int) := (entry_Batch.f k l0).bind fun t463 => (if t463 = 0 then (if 0 < (l0.length : Int) then ((varint_Put.f k (([IntKind.u64.wrap ((l0.length : Int)), IntKind.u64.wrap ((rd_T52 l0 0).f0)] : List Int))).bind fun t468 => (entry_Put.l0 k t468 l0 (l0.length : Int) 0)) else (none)) else (some (([] : List Int), t463)))
theorem entry_Put.mono_l : ∀ k, (∀ y0 y1 y2 y3, LeO (entry_Put.l0 k y0 y1 y2 y3) (entry_Put.l0 (k + 1) y0 y1 y2 y3))
 | 0 => fun _ _ _ _ r h => by simp [entry_Put.l0] at h
 | k + 1 => by
  have ih0 := entry_Put.mono_l k
  ·intro y0 y1 y2 y3
   unfold entry_Put.l0
   repeat' (with_reducible first | exact ih0 .. | exact cell_Put.mono .. | exact entry_Batch.mono .. | exact varint_Put.mono .. | exact LeO.refl .. | exact LeO.none .. | refine LeO.ite ?_ ?_ | refine LeO.bind ?_ (fun _ => ?_))
theorem entry_Put.mono : ∀ a0 k, LeO (entry_Put.f k a0) (entry_Put.f (k + 1) a0) := by
 intro a0 k
 have ih0 := entry_Put.mono_l k
 unfold entry_Put.f
 repeat' (with_reducible first | exact ih0 .. | exact cell_Put.mono .. | exact entry_Batch.mono .. | exact varint_Put.mono .. | exact LeO.refl .. | exact LeO.none .. | refine LeO.ite ?_ ?_ | refine LeO.bind ?_ (fun _ => ?_))
set_option maxRecDepth 100000 in
theorem entry_Put.calls (k : Nat) (A0 : Option Addr) (c0 : Nat) (l0 : List (S52)) (r1 : List Int) (r2 : Int) (w : World) (hr0 : Kd.C k52 w A0 l0.length l0) (hc0 : l0.length ≤ c0) (h : entry_Put.f k l0 = some (r1, r2)) :
 Calls Try.prog 26 #[.slice A0 l0.length c0] w fun e w' => ∃ v0_ : Value, e = .returned (.tuple #[v0_, .int .i64 r2]) ∧ Kd.R (Kd.int .u8) 5 w' w.heap.size (fun _ => True) v0_ r1 ∧ Below w.heap.size w w' := by
 have hu52 := Try.underlying52
 have hu50 := Try.underlying50
 have HR0 := Am hr0
 have HC0 := Am hc0
 clear hr0 hc0
 have HB := Am (Below.refl w.heap.size w)
 unfold entry_Put.f at h
 have H := h
 clear h
 obtain ⟨t463, A2, H⟩ := zb H
 by_cases c3 : t463 = 0
 rotate_left
 ·rw [if_neg c3] at H
  obtain ⟨c3b0, c3b1⟩ := zk c3
  simp only [Option.some.injEq, Prod.mk.injEq] at H
  obtain ⟨rfl, rfl⟩ := H
  go_enter Try.func26, Try.ntmps26
  go_wp2_with (first | ((with_reducible refine zC 31 rfl ?_); refine zL (some 11) Try.func31 #[.slice A0 l0.length c0] ?_; (with_reducible refine (entry_Batch.calls k _ _ l0 t463 _ ?Ak ?Al A2.out).mono ?_); (case Ak => repeat (first | exact HR0.out | (with_reducible refine Kd.C_alloc ?_ _) | (with_reducible refine Kd.C_drewN ?_ _) | (with_reducible refine Kd.C_drew ?_))); (case Al => exact HC0.out); rintro e w66 ⟨rfl, hb⟩; refine ⟨_, rfl, ?_⟩; replace HB := zB HB hb; (try clear hb)))
  go_ret2
  exact ⟨_, pX, zn, pB HB.out⟩
 rw [if_pos c3] at H
 obtain ⟨c3b0, c3b1⟩ := zc c3
 clear c3
 obtain ⟨c4, H⟩ := zI H
 have c4b0 := decide_eq_true c4
 have c4b1 : decide (0 < l0.length) = true := decide_eq_true (by omega)
 clear c4
 obtain ⟨y465, hy465⟩ : ∃ y_ : List Int, y_ = (([IntKind.u64.wrap ((l0.length : Int)), IntKind.u64.wrap ((rd_T52 l0 0).f0)] : List Int)) := ⟨_, rfl⟩
 replace H : ((varint_Put.f k y465).bind fun t468 => (entry_Put.l0 k t468 l0 (l0.length : Int) 0)) = some (r1, r2) := zy hy465 H
 have Ny465 := Am hy465
 clear hy465
 obtain ⟨t468, A5, H⟩ := zb H
 have H' := Am H
 clear H
 go_enter Try.func26, Try.ntmps26
 go_wp2_with (first | ((with_reducible refine zC 31 rfl ?_); refine zL (some 11) Try.func31 #[.slice A0 l0.length c0] ?_; (with_reducible refine (entry_Batch.calls k _ _ l0 t463 _ ?Ak ?Al A2.out).mono ?_); (case Ak => repeat (first | exact HR0.out | (with_reducible refine Kd.C_alloc ?_ _) | (with_reducible refine Kd.C_drewN ?_ _) | (with_reducible refine Kd.C_drew ?_))); (case Al => exact HC0.out); rintro e w6 ⟨rfl, hb⟩; refine ⟨_, rfl, ?_⟩; replace HB := zB HB hb; (try clear hb); have p464 : 0 ≤ (0 : Int) := (by omega); have q464 : 0 < (l0.length : Int) := of_decide_eq_true pS; obtain ⟨Bx, A464_5, c464_5, e464, Ap, Aq, Ar, As, At, Au, Av, Aw, Ax, Ay, Bd, Be⟩ := at_T52 HR0.out 0 p464 q464; cases e464; have qi464 : (0 < l0.length) = True := eq_true (by omega); (try rw [tz] at Ap); (try rw [show 0 * 10 = 0 from rfl] at Ap); (try rw [Addr.add_zero'] at Ap); (try rw [tz] at Aq); (try rw [show 0 * 10 = 0 from rfl] at Aq); (try rw [Addr.add_zero'] at Aq); (try rw [tz] at Ar); (try rw [show 0 * 10 = 0 from rfl] at Ar); (try rw [Addr.add_zero'] at Ar); (try rw [tz] at As); (try rw [show 0 * 10 = 0 from rfl] at As); (try rw [Addr.add_zero'] at As); (try rw [tz] at At); (try rw [show 0 * 10 = 0 from rfl] at At); (try rw [Addr.add_zero'] at At); (try rw [tz] at Au); (try rw [show 0 * 10 = 0 from rfl] at Au); (try rw [Addr.add_zero'] at Au); (try rw [tz] at Av); (try rw [show 0 * 10 = 0 from rfl] at Av); (try rw [Addr.add_zero'] at Av); (try rw [tz] at Aw); (try rw [show 0 * 10 = 0 from rfl] at Aw); (try rw [Addr.add_zero'] at Aw); (try rw [tz] at Ax); (try rw [show 0 * 10 = 0 from rfl] at Ax); (try rw [Addr.add_zero'] at Ax); (try rw [tz] at Ay); (try rw [show 0 * 10 = 0 from rfl] at Ay); (try rw [Addr.add_zero'] at Ay); replace Ap := cU HB.out Ap; replace Aq := cU HB.out Aq; replace Ar := cU HB.out Ar; replace As := cU HB.out As; replace At := cU HB.out At; replace Au := cU HB.out Au; replace Av := cU HB.out Av; replace Aw := cU HB.out Aw; replace Ax := cU HB.out Ax; replace Ay := cU HB.out Ay; have HR464_5 := Am Be; have HC464_5 := Am Bd; clear Be Bd; replace p464 := eq_true p464; replace q464 := eq_true q464) | ((with_reducible refine zD 23 rfl ?_); refine Kd.R_lit (Kd.int .u64) _ 61 ?hg (N := 23) ?hd (xs := ([IntKind.u64.wrap ((l0.length : Int)), IntKind.u64.wrap ((rd_T52 l0 0).f0)] : List Int)) (inner := [.int .u64 (IntKind.u64.wrap ((l0.length : Int))), .int .u64 (IntKind.u64.wrap ((rd_T52 l0 0).f0))]) (ok := fun _ => True) (okp := fun _ => True) ?hr ?hp (fun _ hk => hk) trivial (Below.refl _ _) (Nat.le_refl _) (by simp) ?_; (case hd => rfl); (case hg => rfl); (case hr => first | (go_simp; done) | (go_simp; rfl)); (case hp => exact (Reps.one (show Kd.M (Kd.int .u64) _ _ _ (IntKind.u64.wrap ((l0.length : Int))) [.int .u64 (IntKind.u64.wrap ((l0.length : Int)))] from rfl) (Reps.one (show Kd.M (Kd.int .u64) _ _ _ (IntKind.u64.wrap ((rd_T52 l0 0).f0)) [.int .u64 (IntKind.u64.wrap ((rd_T52 l0 0).f0))] from rfl) (Reps.none _ _)))); intro v466 w7 ho8 hb hg_ hnew_; clear hg_ hnew_; (first | rw [← Ny465.out] at ho8 | (simp only [Int.reduceToNat] at ho8; rw [← Ny465.out] at ho8)); have A9 := Am (Kd.R_lower ho8 (below_size (pB HB.out))); replace HB := zB HB hb; clear hb ho8; obtain ⟨Cj, Ck, Cl⟩ := Kd.R_slice A9.out; subst Cl) | ((with_reducible refine zC 28 rfl ?_); refine zL (some 24) Try.func28 #[.slice Cj y465.length Ck] ?_; (with_reducible refine (varint_Put.calls k _ _ y465 t468 _ ?Ak ?Al A5.out).mono ?_); (case Ak => exact pC (Kd.R_reads' A9.out).2.2); (case Al => exact (Kd.R_reads' A9.out).2.1); rintro e w10 ⟨v469, rfl, ho0, hb⟩; refine ⟨_, rfl, ?_⟩; replace A9 := bRa A9 hb; have B0 := Am (Kd.R_lower ho0 (below_size (pB HB.out))); replace HB := zB HB hb; (try clear hb); (try clear ho0)))
 go_loopg [5, 27] k (fun kq v5 v27 w' => ∃ (A6 : List Int) (Aa : Int), v27 = .int .i64 Aa ∧ Aside0 (entry_Put.l0 kq A6 l0 (l0.length : Int) Aa = some (r1, r2)) ∧ Aside0 (kq ≤ k) ∧ Aside0 (Kd.R (Kd.int .u8) 5 w' w.heap.size (fun _ => True) v5 A6) ∧ Aside0 (Below w.heap.size w w'))
 case atStart => exact ⟨(t468), (0), zr, H', ⟨Nat.le_refl _⟩, ⟨by (with_reducible repeat (first | apply Kd.R_alloc | apply Kd.R_drewN | apply Kd.R_drew)); exact B0.out⟩, ⟨pB HB.out⟩⟩
 case round =>
  clear H'
  try clear c2
  try clear p2
  try clear c3
  try clear c3b0
  try clear c3b1
  try clear c4
  try clear c4b0
  try clear c4b1
  try clear p4
  try clear q4
  try clear hx4
  try clear qi4
  try clear Ap
  try clear Aq
  try clear Ar
  try clear As
  try clear At
  try clear Au
  try clear Av
  try clear Aw
  try clear Ax
  try clear Ay
  try clear p464
  try clear q464
  obtain ⟨A6, Aa, rfl, HA, HK1, Aj, HB⟩ := hrel
  cases gk with
  | zero => exact absurd HA.out (by simp [entry_Put.l0])
  | succ k1 =>
   have H := HA.out
   clear HA
   simp only [entry_Put.l0] at H
   by_cases c11 : Aa < (l0.length : Int)
   rotate_left
   ·rw [if_neg c11] at H
    have c11b0 := decide_eq_false c11
    clear c11
    simp only [Option.some.injEq, Prod.mk.injEq] at H
    obtain ⟨rfl, rfl⟩ := H
    go_wp2
    go_ret2
    exact ⟨_, pX, by (with_reducible repeat (first | apply Kd.R_alloc | apply Kd.R_drewN | apply Kd.R_drew)); exact Aj.out, pB HB.out⟩
   rw [if_pos c11] at H
   have c11b0 := decide_eq_true c11
   clear c11
   obtain ⟨c12, H⟩ := zI H
   have c12b0 := decide_eq_true c12
   clear c12
   obtain ⟨c13, H⟩ := zI H
   have c13b0 := decide_eq_true c13
   clear c13
   obtain ⟨y473, hy473⟩ : ∃ y_ : List Int, y_ = (([IntKind.u64.wrap ((rd_T52 l0 Aa).f1)] : List Int)) := ⟨_, rfl⟩
   replace H : ((varint_Put.f k1 y473).bind fun t476 => (if A6.length + t476.length < 140737488355328 then ((some (A6 ++ t476 : List Int)).bind fun y479 => (if y479.length < 140737488355328 then ((some (y479 ++ [((rd_T52 l0 Aa).f2) % 256] : List Int)).bind fun y482 => ((varint_Put.f k1 (([IntKind.u64.wrap ((((rd_T52 l0 Aa).f3).size : Int))] : List Int))).bind fun t488 => (if y482.length + t488.length < 140737488355328 then ((some (y482 ++ t488 : List Int)).bind fun y491 => (if y491.length + ((rd_T52 l0 Aa).f3).size < 140737488355328 then ((some (y491 ++ bytesOf ((rd_T52 l0 Aa).f3) : List Int)).bind fun y494 => (if ((rd_T52 l0 Aa).f2) = 2 then (entry_Put.l0 k1 y494 l0 (l0.length : Int) (wrap64 (Aa + 1))) else ((cell_Put.f k1 ((rd_T52 l0 Aa).f4.f0) ((rd_T52 l0 Aa).f4.f1) ((rd_T52 l0 Aa).f4.f2.f0) ((rd_T52 l0 Aa).f4.f2.f1) ((rd_T52 l0 Aa).f4.f2.f2) ((rd_T52 l0 Aa).f4.f2.f3)).bind fun bt497 => (if y494.length + bt497.1.length < 140737488355328 then (entry_Put.l0 k1 (y494 ++ bt497.1) l0 (l0.length : Int) (wrap64 (Aa + 1))) else (none))))) else (none))) else (none)))) else (none))) else (none))) = some (r1, r2) := zy hy473 H
   have Ny473 := Am hy473
   clear hy473
   obtain ⟨t476, A14, H⟩ := zb H
   obtain ⟨c15, H⟩ := zI H
   have LMc15 := Am c15
   clear c15
   obtain ⟨y479, hy479⟩ : ∃ y_ : List Int, y_ = (A6 ++ t476) := ⟨_, rfl⟩
   replace H : (if y479.length < 140737488355328 then ((some (y479 ++ [((rd_T52 l0 Aa).f2) % 256] : List Int)).bind fun y482 => ((varint_Put.f k1 (([IntKind.u64.wrap ((((rd_T52 l0 Aa).f3).size : Int))] : List Int))).bind fun t488 => (if y482.length + t488.length < 140737488355328 then ((some (y482 ++ t488 : List Int)).bind fun y491 => (if y491.length + ((rd_T52 l0 Aa).f3).size < 140737488355328 then ((some (y491 ++ bytesOf ((rd_T52 l0 Aa).f3) : List Int)).bind fun y494 => (if ((rd_T52 l0 Aa).f2) = 2 then (entry_Put.l0 k1 y494 l0 (l0.length : Int) (wrap64 (Aa + 1))) else ((cell_Put.f k1 ((rd_T52 l0 Aa).f4.f0) ((rd_T52 l0 Aa).f4.f1) ((rd_T52 l0 Aa).f4.f2.f0) ((rd_T52 l0 Aa).f4.f2.f1) ((rd_T52 l0 Aa).f4.f2.f2) ((rd_T52 l0 Aa).f4.f2.f3)).bind fun bt497 => (if y494.length + bt497.1.length < 140737488355328 then (entry_Put.l0 k1 (y494 ++ bt497.1) l0 (l0.length : Int) (wrap64 (Aa + 1))) else (none))))) else (none))) else (none)))) else (none)) = some (r1, r2) := zy hy479 H
   have Ny479 := Am hy479
   clear hy479
   obtain ⟨c16, H⟩ := zI H
   have LMc16 := Am c16
   clear c16
   obtain ⟨y482, hy482⟩ : ∃ y_ : List Int, y_ = (y479 ++ [((rd_T52 l0 Aa).f2) % 256]) := ⟨_, rfl⟩
   replace H : ((varint_Put.f k1 (([IntKind.u64.wrap ((((rd_T52 l0 Aa).f3).size : Int))] : List Int))).bind fun t488 => (if y482.length + t488.length < 140737488355328 then ((some (y482 ++ t488 : List Int)).bind fun y491 => (if y491.length + ((rd_T52 l0 Aa).f3).size < 140737488355328 then ((some (y491 ++ bytesOf ((rd_T52 l0 Aa).f3) : List Int)).bind fun y494 => (if ((rd_T52 l0 Aa).f2) = 2 then (entry_Put.l0 k1 y494 l0 (l0.length : Int) (wrap64 (Aa + 1))) else ((cell_Put.f k1 ((rd_T52 l0 Aa).f4.f0) ((rd_T52 l0 Aa).f4.f1) ((rd_T52 l0 Aa).f4.f2.f0) ((rd_T52 l0 Aa).f4.f2.f1) ((rd_T52 l0 Aa).f4.f2.f2) ((rd_T52 l0 Aa).f4.f2.f3)).bind fun bt497 => (if y494.length + bt497.1.length < 140737488355328 then (entry_Put.l0 k1 (y494 ++ bt497.1) l0 (l0.length : Int) (wrap64 (Aa + 1))) else (none))))) else (none))) else (none))) = some (r1, r2) := zy hy482 H
   have Ny482 := Am hy482
   clear hy482
   obtain ⟨y485, hy485⟩ : ∃ y_ : List Int, y_ = (([IntKind.u64.wrap ((((rd_T52 l0 Aa).f3).size : Int))] : List Int)) := ⟨_, rfl⟩
   replace H : ((varint_Put.f k1 y485).bind fun t488 => (if y482.length + t488.length < 140737488355328 then ((some (y482 ++ t488 : List Int)).bind fun y491 => (if y491.length + ((rd_T52 l0 Aa).f3).size < 140737488355328 then ((some (y491 ++ bytesOf ((rd_T52 l0 Aa).f3) : List Int)).bind fun y494 => (if ((rd_T52 l0 Aa).f2) = 2 then (entry_Put.l0 k1 y494 l0 (l0.length : Int) (wrap64 (Aa + 1))) else ((cell_Put.f k1 ((rd_T52 l0 Aa).f4.f0) ((rd_T52 l0 Aa).f4.f1) ((rd_T52 l0 Aa).f4.f2.f0) ((rd_T52 l0 Aa).f4.f2.f1) ((rd_T52 l0 Aa).f4.f2.f2) ((rd_T52 l0 Aa).f4.f2.f3)).bind fun bt497 => (if y494.length + bt497.1.length < 140737488355328 then (entry_Put.l0 k1 (y494 ++ bt497.1) l0 (l0.length : Int) (wrap64 (Aa + 1))) else (none))))) else (none))) else (none))) = some (r1, r2) := zy hy485 H
   have Ny485 := Am hy485
   clear hy485
   obtain ⟨t488, A17, H⟩ := zb H
   obtain ⟨c18, H⟩ := zI H
   have LMc18 := Am c18
   clear c18
   obtain ⟨y491, hy491⟩ : ∃ y_ : List Int, y_ = (y482 ++ t488) := ⟨_, rfl⟩
   replace H : (if y491.length + ((rd_T52 l0 Aa).f3).size < 140737488355328 then ((some (y491 ++ bytesOf ((rd_T52 l0 Aa).f3) : List Int)).bind fun y494 => (if ((rd_T52 l0 Aa).f2) = 2 then (entry_Put.l0 k1 y494 l0 (l0.length : Int) (wrap64 (Aa + 1))) else ((cell_Put.f k1 ((rd_T52 l0 Aa).f4.f0) ((rd_T52 l0 Aa).f4.f1) ((rd_T52 l0 Aa).f4.f2.f0) ((rd_T52 l0 Aa).f4.f2.f1) ((rd_T52 l0 Aa).f4.f2.f2) ((rd_T52 l0 Aa).f4.f2.f3)).bind fun bt497 => (if y494.length + bt497.1.length < 140737488355328 then (entry_Put.l0 k1 (y494 ++ bt497.1) l0 (l0.length : Int) (wrap64 (Aa + 1))) else (none))))) else (none)) = some (r1, r2) := zy hy491 H
   have Ny491 := Am hy491
   clear hy491
   obtain ⟨c19, H⟩ := zI H
   have LMc19 := Am c19
   clear c19
   obtain ⟨y494, hy494⟩ : ∃ y_ : List Int, y_ = (y491 ++ bytesOf ((rd_T52 l0 Aa).f3)) := ⟨_, rfl⟩
   replace H : (if ((rd_T52 l0 Aa).f2) = 2 then (entry_Put.l0 k1 y494 l0 (l0.length : Int) (wrap64 (Aa + 1))) else ((cell_Put.f k1 ((rd_T52 l0 Aa).f4.f0) ((rd_T52 l0 Aa).f4.f1) ((rd_T52 l0 Aa).f4.f2.f0) ((rd_T52 l0 Aa).f4.f2.f1) ((rd_T52 l0 Aa).f4.f2.f2) ((rd_T52 l0 Aa).f4.f2.f3)).bind fun bt497 => (if y494.length + bt497.1.length < 140737488355328 then (entry_Put.l0 k1 (y494 ++ bt497.1) l0 (l0.length : Int) (wrap64 (Aa + 1))) else (none)))) = some (r1, r2) := zy hy494 H
   have Ny494 := Am hy494
   clear hy494
   by_cases c20 : ((rd_T52 l0 Aa).f2) = 2
   ·rw [if_pos c20] at H
    obtain ⟨c20b0, c20b1⟩ := zc c20
    clear c20
    have H' := Am H
    clear H
    have p471 : 0 ≤ (Aa : Int) := of_decide_eq_true pS
    have q471 : Aa < (l0.length : Int) := of_decide_eq_true pS
    obtain ⟨Bj, An, c471_5, e471, Bn, Bo, Bp, Bq, Br, Bs, Bt, Bu, Bv, Bw, A3, A4⟩ := at_T52u HR0.out Aa p471 q471 HB.out
    obtain rfl : Bx = Bj := (by injection e471)
    have Bf := Am A4
    have Bg := Am A3
    clear A4 A3
    replace p471 := eq_true p471
    replace q471 := eq_true q471
    go_wp2_with (first | ((with_reducible refine zD 7 rfl ?_); refine zE 7 #[.int .i64 0, .int .i64 0, .int .i64 0, .string (⟨#[]⟩ : ByteArray), .bool false, .slice none 0 0, .int .i64 0, .int .i64 0, .int .i64 0, .int .u32 0] 52 ?_; intro Ai hg w21 hbox hb; replace Aj := bRa Aj hb; have Ab := Am (hbox); have Bk := zA hg HB; replace HB := zB HB hb; have Ae := Bk; clear hb hbox hg; obtain ⟨_, _, _, _, _, _, _, _, _, _⟩ := bc10 Ab.out; obtain ⟨_, _, _, _, _, _, _, _, _, _⟩ := bf10 Ab.out) | ((with_reducible refine zD 35 rfl ?_); refine Kd.R_lit (Kd.int .u64) _ 61 ?hg (N := 35) ?hd (xs := ([IntKind.u64.wrap ((rd_T52 l0 Aa).f1)] : List Int)) (inner := [.int .u64 (IntKind.u64.wrap ((rd_T52 l0 Aa).f1))]) (ok := fun _ => True) (okp := fun _ => True) ?hr ?hp (fun _ hk => hk) trivial (Below.refl _ _) (Nat.le_refl _) (by simp) ?_; (case hd => rfl); (case hg => rfl); (case hr => first | (go_simp; done) | (go_simp; rfl)); (case hp => exact (Reps.one (show Kd.M (Kd.int .u64) _ _ _ (IntKind.u64.wrap ((rd_T52 l0 Aa).f1)) [.int .u64 (IntKind.u64.wrap ((rd_T52 l0 Aa).f1))] from rfl) (Reps.none _ _))); intro v474 w23 ho24 hb hg_ hnew_; clear hg_ hnew_; (first | rw [← Ny473.out] at ho24 | (simp only [Int.reduceToNat] at ho24; rw [← Ny473.out] at ho24)); replace Aj := Am (Kd.R_below (by (with_reducible repeat (first | apply Kd.R_alloc | apply Kd.R_drewN | apply Kd.R_drew)); exact (Kd.R_mono (Rf10 (g := Ai) (Kd.R_types Aj.out Ab.out (by decide)) (fun _ hk => hk.2)) (fun _ h_ => h_.1))) hb); have Ad := Am (Kd.R_lower ho24 (below_size (pE HB.out Ae.out))); replace Ab := Am (blk_below (g := Ai) (kX0 Ab.out) hb); replace HB := zX1 HB Ae.out hb; clear hb ho24; obtain ⟨B2, B3, B4⟩ := Kd.R_slice Ad.out; subst B4) | ((with_reducible refine zC 28 rfl ?_); refine zL (some 36) Try.func28 #[.slice B2 y473.length B3] ?_; (with_reducible refine (varint_Put.calls k1 _ _ y473 t476 _ ?Ak ?Al A14.out).mono ?_); (case Ak => exact pC (Kd.R_reads' Ad.out).2.2); (case Al => exact (Kd.R_reads' Ad.out).2.1); rintro e w26 ⟨v477, rfl, ho0, hb⟩; refine ⟨_, rfl, ?_⟩; replace Ad := bRa Ad hb; have Ac := Am (Kd.R_lower (Kd.R_new' ho0 (Kd.R_lt (pR Aj.out))) (below_size (pE HB.out Ae.out))); replace Aj := Am (Kd.R_elder' (pR Aj.out) (Kd.R_base ho0) hb); replace Ab := kBa Ab hb; replace HB := zX1 HB Ae.out hb; (try clear hb); (try clear ho0); obtain ⟨Bh, Bi, B5⟩ := Kd.R_slice Ac.out; subst B5) | ((with_reducible refine gate_builtin (b := .append) (xs := #[.tmp 31, .tmp 36]) rfl ?_); at_builtin; refine Kd.R_append_rows (Kd.int .u8) (w0 := w) w.heap.size rfl (.tmp 31) (.tmp 36) 22 5 (.int .u8 0) 1 rfl Try.underlying22 info5 rfl (by decide) (by omega) u5 A6 t476 _ _ _ (fun k_ => some k_ ≠ (.slice Bh t476.length Bi : Value).ownBlock) (fun _ => False) rfl rfl ?aO ?aR (fun _ _ h => h) (fun _ h => h.elim) ?aF ?aB ?aS ?aL ?_; (case aR => exact pC (Kd.R_reads' Ac.out).2.2); (case aB => exact (pE HB.out Ae.out)); (case aF => exact (fun k_ hk => Kd.fresh' (Kd.R_lt (pR Ac.out)) k_ hk)); (case aO => exact (by (with_reducible repeat (first | apply Kd.R_alloc | apply Kd.R_drewN | apply Kd.R_drew)); exact Kd.R_mono Aj.out (fun _ hk => hk.2))); (case aS => exact (below_size (pE HB.out Ae.out))); (case aL => have := LMc15.out; omega); intro v480 w27 ho hb hg hat; rw [← Ny479.out] at ho; replace Ab := Am (blk_grown (g := Ai) (o := .cells #[.int .i64 ((rd_T52 l0 Aa).f0), .int .i64 ((rd_T52 l0 Aa).f1), .int .i64 ((rd_T52 l0 Aa).f2), .string ((rd_T52 l0 Aa).f3), .bool ((rd_T52 l0 Aa).f4.f0), .slice An ((rd_T52 l0 Aa).f4.f1).length c471_5, .int .i64 ((rd_T52 l0 Aa).f4.f2.f0), .int .i64 ((rd_T52 l0 Aa).f4.f2.f1), .int .i64 ((rd_T52 l0 Aa).f4.f2.f2), .int .u32 ((rd_T52 l0 Aa).f4.f2.f3)] 52 (0, 0)) (pK Ab.out) hg (Kd.R_ne Aj.out Ab.out (by decide))); replace Ad := Am (Kd.R_over' (pR Ad.out) (Kd.R_typed (pR Aj.out)) (by decide) hg); replace Ac := Am (Kd.R_after (ok := (fun _ => True)) (pR Ac.out) hg hat); replace HB := Am (hb); have A1 := Am (ho); clear Aj ho hb hg hat; obtain ⟨_, _, _, _, _, _, _, _, _, _⟩ := bc10 Ab.out; obtain ⟨_, _, _, _, _, _, _, _, _, _⟩ := bf10 Ab.out) | ((with_reducible refine gate_builtin (b := .append) (xs := #[.tmp 38, .tmp 42]) rfl ?_); at_builtin; refine Kd.R_append (Kd.int .u8) (w0 := w) w.heap.size rfl (.tmp 38) (.tmp 42) 22 5 (.int .u8 0) 1 rfl Try.underlying22 info5 rfl (by decide) (by omega) v480 y479 (((rd_T52 l0 Aa).f2) % 256) [.int .u8 (((rd_T52 l0 Aa).f2) % 256)] (fun k_ => some k_ ≠ (.slice Bh t476.length Bi : Value).ownBlock) (fun _ => False) rfl rfl ?aP (fun _ hk => hk.elim) ?aF ?aO ?aB ?aS ?aL ?_; (case aP => exact rfl); (case aB => exact (pE HB.out Ae.out)); (case aF => exact (fun k_ hk => Kd.fresh' (Kd.R_lt (pR Ac.out)) k_ hk)); (case aO => exact (pR A1.out)); (case aS => exact (below_size (pE HB.out Ae.out))); (case aL => have := LMc16.out; omega); intro v483 w30 ho hb hg hat; rw [← Ny482.out] at ho; replace Ab := Am (blk_grown (g := Ai) (o := .cells #[.int .i64 ((rd_T52 l0 Aa).f0), .int .i64 ((rd_T52 l0 Aa).f1), .int .i64 ((rd_T52 l0 Aa).f2), .string ((rd_T52 l0 Aa).f3), .bool ((rd_T52 l0 Aa).f4.f0), .slice An ((rd_T52 l0 Aa).f4.f1).length c471_5, .int .i64 ((rd_T52 l0 Aa).f4.f2.f0), .int .i64 ((rd_T52 l0 Aa).f4.f2.f1), .int .i64 ((rd_T52 l0 Aa).f4.f2.f2), .int .u32 ((rd_T52 l0 Aa).f4.f2.f3)] 52 (0, 0)) (pK Ab.out) hg (Kd.R_ne A1.out Ab.out (by decide))); replace Ad := Am (Kd.R_over' (pR Ad.out) (Kd.R_typed (pR A1.out)) (by decide) hg); replace Ac := Am (Kd.R_after (ok := (fun _ => True)) (pR Ac.out) hg hat); replace HB := Am (hb); have Ah := Am (ho); clear A1 ho hb hg hat; obtain ⟨_, _, _, _, _, _, _, _, _, _⟩ := bc10 Ab.out; obtain ⟨_, _, _, _, _, _, _, _, _, _⟩ := bf10 Ab.out) | ((with_reducible refine zD 49 rfl ?_); refine Kd.R_lit (Kd.int .u64) _ 61 ?hg (N := 49) ?hd (xs := ([IntKind.u64.wrap ((((rd_T52 l0 Aa).f3).size : Int))] : List Int)) (inner := [.int .u64 (IntKind.u64.wrap ((((rd_T52 l0 Aa).f3).size : Int)))]) (ok := fun _ => True) (okp := fun _ => True) ?hr ?hp (fun _ hk => hk) trivial (Below.refl _ _) (Nat.le_refl _) (by simp) ?_; (case hd => rfl); (case hg => rfl); (case hr => first | (go_simp; done) | (go_simp; rfl)); (case hp => exact (Reps.one (show Kd.M (Kd.int .u64) _ _ _ (IntKind.u64.wrap ((((rd_T52 l0 Aa).f3).size : Int))) [.int .u64 (IntKind.u64.wrap ((((rd_T52 l0 Aa).f3).size : Int)))] from rfl) (Reps.none _ _))); intro v486 w32 ho33 hb hg_ hnew_; clear hg_ hnew_; (first | rw [← Ny485.out] at ho33 | (simp only [Int.reduceToNat] at ho33; rw [← Ny485.out] at ho33)); replace Ac := bRa Ac hb; replace Ah := bRa Ah hb; have Af := Am (Kd.R_lower (Kd.R_new' ho33 (Kd.R_lt (pR Ad.out))) (below_size (pE HB.out Ae.out))); replace Ad := Am (Kd.R_elder' (pR Ad.out) (Kd.R_base ho33) hb); replace Ab := kBa Ab hb; replace HB := zX1 HB Ae.out hb; clear hb ho33; obtain ⟨B6, B7, B8⟩ := Kd.R_slice Af.out; subst B8) | ((with_reducible refine zC 28 rfl ?_); refine zL (some 50) Try.func28 #[.slice B6 y485.length B7] ?_; (with_reducible refine (varint_Put.calls k1 _ _ y485 t488 _ ?Ak ?Al A17.out).mono ?_); (case Ak => exact pC (Kd.R_reads' Af.out).2.2); (case Al => exact (Kd.R_reads' Af.out).2.1); rintro e w35 ⟨v489, rfl, ho0, hb⟩; refine ⟨_, rfl, ?_⟩; replace Ad := bRa Ad hb; replace Af := bRa Af hb; have Ag := Am (Kd.R_lower (Kd.R_new' (Kd.R_new' ho0 (Kd.R_lt (pR Ac.out))) (Kd.R_lt (pR Ah.out))) (below_size (pE HB.out Ae.out))); replace Ac := Am (Kd.R_elder' (pR Ac.out) (Kd.R_base ho0) hb); replace Ah := Am (Kd.R_elder' (pR Ah.out) (Kd.R_base ho0) hb); replace Ab := kBa Ab hb; replace HB := zX1 HB Ae.out hb; (try clear hb); (try clear ho0); obtain ⟨Bl, Bm, B9⟩ := Kd.R_slice Ag.out; subst B9) | ((with_reducible refine gate_builtin (b := .append) (xs := #[.tmp 44, .tmp 50]) rfl ?_); at_builtin; refine Kd.R_append_rows (Kd.int .u8) (w0 := w) w.heap.size rfl (.tmp 44) (.tmp 50) 22 5 (.int .u8 0) 1 rfl Try.underlying22 info5 rfl (by decide) (by omega) v483 y482 t488 _ _ _ (fun k_ => some k_ ≠ (.slice Bh t476.length Bi : Value).ownBlock ∧ some k_ ≠ (.slice Bl t488.length Bm : Value).ownBlock) (fun _ => False) rfl rfl ?aO ?aR (fun _ _ h => h) (fun _ h => h.elim) ?aF ?aB ?aS ?aL ?_; (case aR => exact pC (Kd.R_reads' Ag.out).2.2); (case aB => exact (pE HB.out Ae.out)); (case aF => exact (fun k_ hk => ⟨Kd.fresh' (Kd.R_lt (pR Ac.out)) k_ hk, Kd.fresh' (Kd.R_lt (pR Ag.out)) k_ hk⟩)); (case aO => exact (pR Ah.out)); (case aS => exact (below_size (pE HB.out Ae.out))); (case aL => have := LMc18.out; omega); intro v492 w36 ho hb hg hat; rw [← Ny491.out] at ho; replace Ab := Am (blk_grown (g := Ai) (o := .cells #[.int .i64 ((rd_T52 l0 Aa).f0), .int .i64 ((rd_T52 l0 Aa).f1), .int .i64 ((rd_T52 l0 Aa).f2), .string ((rd_T52 l0 Aa).f3), .bool ((rd_T52 l0 Aa).f4.f0), .slice An ((rd_T52 l0 Aa).f4.f1).length c471_5, .int .i64 ((rd_T52 l0 Aa).f4.f2.f0), .int .i64 ((rd_T52 l0 Aa).f4.f2.f1), .int .i64 ((rd_T52 l0 Aa).f4.f2.f2), .int .u32 ((rd_T52 l0 Aa).f4.f2.f3)] 52 (0, 0)) (pK Ab.out) hg (Kd.R_ne Ah.out Ab.out (by decide))); replace Ad := Am (Kd.R_over' (pR Ad.out) (Kd.R_typed (pR Ah.out)) (by decide) hg); replace Ac := Am (Kd.R_after (ok := (fun k_ => some k_ ≠ (.slice Bl t488.length Bm : Value).ownBlock)) (by (with_reducible repeat (first | apply Kd.R_alloc | apply Kd.R_drewN | apply Kd.R_drew)); exact Kd.R_mono Ac.out (fun _ hk => ⟨hk.2, hk.1.2⟩)) hg hat); replace Af := Am (Kd.R_over' (pR Af.out) (Kd.R_typed (pR Ah.out)) (by decide) hg); replace Ag := Am (Kd.R_after (ok := (fun k_ => some k_ ≠ (.slice Bh t476.length Bi : Value).ownBlock)) (by (with_reducible repeat (first | apply Kd.R_alloc | apply Kd.R_drewN | apply Kd.R_drew)); exact Kd.R_mono Ag.out (fun _ hk => ⟨hk.1.2, hk.2⟩)) hg hat); replace HB := Am (hb); have Ao := Am (ho); clear Ah ho hb hg hat; obtain ⟨_, _, _, _, _, _, _, _, _, _⟩ := bc10 Ab.out; obtain ⟨_, _, _, _, _, _, _, _, _, _⟩ := bf10 Ab.out) | (at_builtin; refine R_append_str (w0 := w) w.heap.size rfl (.tmp 52) _ 22 9 5 rfl Try.underlying22 Try.underlying9 info5 v492 y491 ((rd_T52 l0 Aa).f3) (fun k_ => some k_ ≠ (.slice Bh t476.length Bi : Value).ownBlock ∧ some k_ ≠ (.slice Bl t488.length Bm : Value).ownBlock) rfl rfl ?aO ?aF ?aB ?aS ?aL ?_; (case aB => exact (pE HB.out Ae.out)); (case aF => exact (fun k_ hk => ⟨Kd.fresh' (Kd.R_lt (pR Ac.out)) k_ hk, Kd.fresh' (Kd.R_lt (pR Ag.out)) k_ hk⟩)); (case aO => exact (pR Ao.out)); (case aS => exact (below_size (pE HB.out Ae.out))); (case aL => have := LMc19.out; omega); intro v495 w39 ho hb hg hat; rw [← Ny494.out] at ho; replace Ab := Am (blk_grown (g := Ai) (o := .cells #[.int .i64 ((rd_T52 l0 Aa).f0), .int .i64 ((rd_T52 l0 Aa).f1), .int .i64 ((rd_T52 l0 Aa).f2), .string ((rd_T52 l0 Aa).f3), .bool ((rd_T52 l0 Aa).f4.f0), .slice An ((rd_T52 l0 Aa).f4.f1).length c471_5, .int .i64 ((rd_T52 l0 Aa).f4.f2.f0), .int .i64 ((rd_T52 l0 Aa).f4.f2.f1), .int .i64 ((rd_T52 l0 Aa).f4.f2.f2), .int .u32 ((rd_T52 l0 Aa).f4.f2.f3)] 52 (0, 0)) (pK Ab.out) hg (Kd.R_ne Ao.out Ab.out (by decide))); replace Ad := Am (Kd.R_over' (pR Ad.out) (Kd.R_typed (pR Ao.out)) (by decide) hg); replace Ac := Am (Kd.R_after (ok := (fun k_ => some k_ ≠ (.slice Bl t488.length Bm : Value).ownBlock)) (pR Ac.out) hg hat); replace Af := Am (Kd.R_over' (pR Af.out) (Kd.R_typed (pR Ao.out)) (by decide) hg); replace Ag := Am (Kd.R_after (ok := (fun k_ => some k_ ≠ (.slice Bh t476.length Bi : Value).ownBlock)) (pR Ag.out) hg hat); replace HB := Am (hb); have Az := Am (ho); clear Ao ho hb hg hat; obtain ⟨_, _, _, _, _, _, _, _, _, _⟩ := bc10 Ab.out; obtain ⟨_, _, _, _, _, _, _, _, _, _⟩ := bf10 Ab.out))
    go_roundg k1
    case measure => have := HK1.out; omega
    case rel => exact ⟨(y494), (wrap64 (Aa + 1)), zr, H', ⟨by have := HK1.out; omega⟩, ⟨by (with_reducible repeat (first | apply Kd.R_alloc | apply Kd.R_drewN | apply Kd.R_drew)); exact Kd.R_mono Az.out (fun _ hk => trivial)⟩, ⟨pE HB.out Ae.out⟩⟩
   rw [if_neg c20] at H
   obtain ⟨c20b0, c20b1⟩ := zk c20
   obtain ⟨⟨t497, t500⟩, A41, H⟩ := zb H
   dsimp only at H
   obtain ⟨c42, H⟩ := zI H
   have LMc42 := Am c42
   clear c42
   obtain ⟨y501, hy501⟩ : ∃ y_ : List Int, y_ = (y494 ++ t497) := ⟨_, rfl⟩
   replace H : (entry_Put.l0 k1 y501 l0 (l0.length : Int) (wrap64 (Aa + 1))) = some (r1, r2) := zy hy501 H
   have Ny501 := Am hy501
   clear hy501
   have H' := Am H
   clear H
   have p471 : 0 ≤ (Aa : Int) := of_decide_eq_true pS
   have q471 : Aa < (l0.length : Int) := of_decide_eq_true pS
   obtain ⟨Bj, An, c471_5, e471, Bn, Bo, Bp, Bq, Br, Bs, Bt, Bu, Bv, Bw, A3, A4⟩ := at_T52u HR0.out Aa p471 q471 HB.out
   obtain rfl : Bx = Bj := (by injection e471)
   have Bf := Am A4
   have Bg := Am A3
   clear A4 A3
   replace p471 := eq_true p471
   replace q471 := eq_true q471
   go_wp2_with (first | ((with_reducible refine zD 7 rfl ?_); refine zE 7 #[.int .i64 0, .int .i64 0, .int .i64 0, .string (⟨#[]⟩ : ByteArray), .bool false, .slice none 0 0, .int .i64 0, .int .i64 0, .int .i64 0, .int .u32 0] 52 ?_; intro Ai hg w43 hbox hb; replace Aj := bRa Aj hb; have Ab := Am (hbox); have Bk := zA hg HB; replace HB := zB HB hb; have Ae := Bk; clear hb hbox hg; obtain ⟨_, _, _, _, _, _, _, _, _, _⟩ := bc10 Ab.out; obtain ⟨_, _, _, _, _, _, _, _, _, _⟩ := bf10 Ab.out) | ((with_reducible refine zD 35 rfl ?_); refine Kd.R_lit (Kd.int .u64) _ 61 ?hg (N := 35) ?hd (xs := ([IntKind.u64.wrap ((rd_T52 l0 Aa).f1)] : List Int)) (inner := [.int .u64 (IntKind.u64.wrap ((rd_T52 l0 Aa).f1))]) (ok := fun _ => True) (okp := fun _ => True) ?hr ?hp (fun _ hk => hk) trivial (Below.refl _ _) (Nat.le_refl _) (by simp) ?_; (case hd => rfl); (case hg => rfl); (case hr => first | (go_simp; done) | (go_simp; rfl)); (case hp => exact (Reps.one (show Kd.M (Kd.int .u64) _ _ _ (IntKind.u64.wrap ((rd_T52 l0 Aa).f1)) [.int .u64 (IntKind.u64.wrap ((rd_T52 l0 Aa).f1))] from rfl) (Reps.none _ _))); intro v474 w45 ho46 hb hg_ hnew_; clear hg_ hnew_; (first | rw [← Ny473.out] at ho46 | (simp only [Int.reduceToNat] at ho46; rw [← Ny473.out] at ho46)); replace Aj := Am (Kd.R_below (by (with_reducible repeat (first | apply Kd.R_alloc | apply Kd.R_drewN | apply Kd.R_drew)); exact (Kd.R_mono (Rf10 (g := Ai) (Kd.R_types Aj.out Ab.out (by decide)) (fun _ hk => hk.2)) (fun _ h_ => h_.1))) hb); have Ad := Am (Kd.R_lower ho46 (below_size (pE HB.out Ae.out))); replace Ab := Am (blk_below (g := Ai) (kX0 Ab.out) hb); replace HB := zX1 HB Ae.out hb; clear hb ho46; obtain ⟨Ca, Cb, Cc⟩ := Kd.R_slice Ad.out; subst Cc) | ((with_reducible refine zC 28 rfl ?_); refine zL (some 36) Try.func28 #[.slice Ca y473.length Cb] ?_; (with_reducible refine (varint_Put.calls k1 _ _ y473 t476 _ ?Ak ?Al A14.out).mono ?_); (case Ak => exact pC (Kd.R_reads' Ad.out).2.2); (case Al => exact (Kd.R_reads' Ad.out).2.1); rintro e w48 ⟨v477, rfl, ho0, hb⟩; refine ⟨_, rfl, ?_⟩; replace Ad := bRa Ad hb; have Ac := Am (Kd.R_lower (Kd.R_new' ho0 (Kd.R_lt (pR Aj.out))) (below_size (pE HB.out Ae.out))); replace Aj := Am (Kd.R_elder' (pR Aj.out) (Kd.R_base ho0) hb); replace Ab := kBa Ab hb; replace HB := zX1 HB Ae.out hb; (try clear hb); (try clear ho0); obtain ⟨A7, A8, Cd⟩ := Kd.R_slice Ac.out; subst Cd) | ((with_reducible refine gate_builtin (b := .append) (xs := #[.tmp 31, .tmp 36]) rfl ?_); at_builtin; refine Kd.R_append_rows (Kd.int .u8) (w0 := w) w.heap.size rfl (.tmp 31) (.tmp 36) 22 5 (.int .u8 0) 1 rfl Try.underlying22 info5 rfl (by decide) (by omega) u5 A6 t476 _ _ _ (fun k_ => some k_ ≠ (.slice A7 t476.length A8 : Value).ownBlock) (fun _ => False) rfl rfl ?aO ?aR (fun _ _ h => h) (fun _ h => h.elim) ?aF ?aB ?aS ?aL ?_; (case aR => exact pC (Kd.R_reads' Ac.out).2.2); (case aB => exact (pE HB.out Ae.out)); (case aF => exact (fun k_ hk => Kd.fresh' (Kd.R_lt (pR Ac.out)) k_ hk)); (case aO => exact (by (with_reducible repeat (first | apply Kd.R_alloc | apply Kd.R_drewN | apply Kd.R_drew)); exact Kd.R_mono Aj.out (fun _ hk => hk.2))); (case aS => exact (below_size (pE HB.out Ae.out))); (case aL => have := LMc15.out; omega); intro v480 w49 ho hb hg hat; rw [← Ny479.out] at ho; replace Ab := Am (blk_grown (g := Ai) (o := .cells #[.int .i64 ((rd_T52 l0 Aa).f0), .int .i64 ((rd_T52 l0 Aa).f1), .int .i64 ((rd_T52 l0 Aa).f2), .string ((rd_T52 l0 Aa).f3), .bool ((rd_T52 l0 Aa).f4.f0), .slice An ((rd_T52 l0 Aa).f4.f1).length c471_5, .int .i64 ((rd_T52 l0 Aa).f4.f2.f0), .int .i64 ((rd_T52 l0 Aa).f4.f2.f1), .int .i64 ((rd_T52 l0 Aa).f4.f2.f2), .int .u32 ((rd_T52 l0 Aa).f4.f2.f3)] 52 (0, 0)) (pK Ab.out) hg (Kd.R_ne Aj.out Ab.out (by decide))); replace Ad := Am (Kd.R_over' (pR Ad.out) (Kd.R_typed (pR Aj.out)) (by decide) hg); replace Ac := Am (Kd.R_after (ok := (fun _ => True)) (pR Ac.out) hg hat); replace HB := Am (hb); have A1 := Am (ho); clear Aj ho hb hg hat; obtain ⟨_, _, _, _, _, _, _, _, _, _⟩ := bc10 Ab.out; obtain ⟨_, _, _, _, _, _, _, _, _, _⟩ := bf10 Ab.out) | ((with_reducible refine gate_builtin (b := .append) (xs := #[.tmp 38, .tmp 42]) rfl ?_); at_builtin; refine Kd.R_append (Kd.int .u8) (w0 := w) w.heap.size rfl (.tmp 38) (.tmp 42) 22 5 (.int .u8 0) 1 rfl Try.underlying22 info5 rfl (by decide) (by omega) v480 y479 (((rd_T52 l0 Aa).f2) % 256) [.int .u8 (((rd_T52 l0 Aa).f2) % 256)] (fun k_ => some k_ ≠ (.slice A7 t476.length A8 : Value).ownBlock) (fun _ => False) rfl rfl ?aP (fun _ hk => hk.elim) ?aF ?aO ?aB ?aS ?aL ?_; (case aP => exact rfl); (case aB => exact (pE HB.out Ae.out)); (case aF => exact (fun k_ hk => Kd.fresh' (Kd.R_lt (pR Ac.out)) k_ hk)); (case aO => exact (pR A1.out)); (case aS => exact (below_size (pE HB.out Ae.out))); (case aL => have := LMc16.out; omega); intro v483 w52 ho hb hg hat; rw [← Ny482.out] at ho; replace Ab := Am (blk_grown (g := Ai) (o := .cells #[.int .i64 ((rd_T52 l0 Aa).f0), .int .i64 ((rd_T52 l0 Aa).f1), .int .i64 ((rd_T52 l0 Aa).f2), .string ((rd_T52 l0 Aa).f3), .bool ((rd_T52 l0 Aa).f4.f0), .slice An ((rd_T52 l0 Aa).f4.f1).length c471_5, .int .i64 ((rd_T52 l0 Aa).f4.f2.f0), .int .i64 ((rd_T52 l0 Aa).f4.f2.f1), .int .i64 ((rd_T52 l0 Aa).f4.f2.f2), .int .u32 ((rd_T52 l0 Aa).f4.f2.f3)] 52 (0, 0)) (pK Ab.out) hg (Kd.R_ne A1.out Ab.out (by decide))); replace Ad := Am (Kd.R_over' (pR Ad.out) (Kd.R_typed (pR A1.out)) (by decide) hg); replace Ac := Am (Kd.R_after (ok := (fun _ => True)) (pR Ac.out) hg hat); replace HB := Am (hb); have Ah := Am (ho); clear A1 ho hb hg hat; obtain ⟨_, _, _, _, _, _, _, _, _, _⟩ := bc10 Ab.out; obtain ⟨_, _, _, _, _, _, _, _, _, _⟩ := bf10 Ab.out) | ((with_reducible refine zD 49 rfl ?_); refine Kd.R_lit (Kd.int .u64) _ 61 ?hg (N := 49) ?hd (xs := ([IntKind.u64.wrap ((((rd_T52 l0 Aa).f3).size : Int))] : List Int)) (inner := [.int .u64 (IntKind.u64.wrap ((((rd_T52 l0 Aa).f3).size : Int)))]) (ok := fun _ => True) (okp := fun _ => True) ?hr ?hp (fun _ hk => hk) trivial (Below.refl _ _) (Nat.le_refl _) (by simp) ?_; (case hd => rfl); (case hg => rfl); (case hr => first | (go_simp; done) | (go_simp; rfl)); (case hp => exact (Reps.one (show Kd.M (Kd.int .u64) _ _ _ (IntKind.u64.wrap ((((rd_T52 l0 Aa).f3).size : Int))) [.int .u64 (IntKind.u64.wrap ((((rd_T52 l0 Aa).f3).size : Int)))] from rfl) (Reps.none _ _))); intro v486 w54 ho55 hb hg_ hnew_; clear hg_ hnew_; (first | rw [← Ny485.out] at ho55 | (simp only [Int.reduceToNat] at ho55; rw [← Ny485.out] at ho55)); replace Ac := bRa Ac hb; replace Ah := bRa Ah hb; have Af := Am (Kd.R_lower (Kd.R_new' ho55 (Kd.R_lt (pR Ad.out))) (below_size (pE HB.out Ae.out))); replace Ad := Am (Kd.R_elder' (pR Ad.out) (Kd.R_base ho55) hb); replace Ab := kBa Ab hb; replace HB := zX1 HB Ae.out hb; clear hb ho55; obtain ⟨Ce, Cf, Cg⟩ := Kd.R_slice Af.out; subst Cg) | ((with_reducible refine zC 28 rfl ?_); refine zL (some 50) Try.func28 #[.slice Ce y485.length Cf] ?_; (with_reducible refine (varint_Put.calls k1 _ _ y485 t488 _ ?Ak ?Al A17.out).mono ?_); (case Ak => exact pC (Kd.R_reads' Af.out).2.2); (case Al => exact (Kd.R_reads' Af.out).2.1); rintro e w57 ⟨v489, rfl, ho0, hb⟩; refine ⟨_, rfl, ?_⟩; replace Ad := bRa Ad hb; replace Af := bRa Af hb; have Ag := Am (Kd.R_lower (Kd.R_new' (Kd.R_new' ho0 (Kd.R_lt (pR Ac.out))) (Kd.R_lt (pR Ah.out))) (below_size (pE HB.out Ae.out))); replace Ac := Am (Kd.R_elder' (pR Ac.out) (Kd.R_base ho0) hb); replace Ah := Am (Kd.R_elder' (pR Ah.out) (Kd.R_base ho0) hb); replace Ab := kBa Ab hb; replace HB := zX1 HB Ae.out hb; (try clear hb); (try clear ho0); obtain ⟨Bb, Bc, Ch⟩ := Kd.R_slice Ag.out; subst Ch) | ((with_reducible refine gate_builtin (b := .append) (xs := #[.tmp 44, .tmp 50]) rfl ?_); at_builtin; refine Kd.R_append_rows (Kd.int .u8) (w0 := w) w.heap.size rfl (.tmp 44) (.tmp 50) 22 5 (.int .u8 0) 1 rfl Try.underlying22 info5 rfl (by decide) (by omega) v483 y482 t488 _ _ _ (fun k_ => some k_ ≠ (.slice A7 t476.length A8 : Value).ownBlock ∧ some k_ ≠ (.slice Bb t488.length Bc : Value).ownBlock) (fun _ => False) rfl rfl ?aO ?aR (fun _ _ h => h) (fun _ h => h.elim) ?aF ?aB ?aS ?aL ?_; (case aR => exact pC (Kd.R_reads' Ag.out).2.2); (case aB => exact (pE HB.out Ae.out)); (case aF => exact (fun k_ hk => ⟨Kd.fresh' (Kd.R_lt (pR Ac.out)) k_ hk, Kd.fresh' (Kd.R_lt (pR Ag.out)) k_ hk⟩)); (case aO => exact (pR Ah.out)); (case aS => exact (below_size (pE HB.out Ae.out))); (case aL => have := LMc18.out; omega); intro v492 w58 ho hb hg hat; rw [← Ny491.out] at ho; replace Ab := Am (blk_grown (g := Ai) (o := .cells #[.int .i64 ((rd_T52 l0 Aa).f0), .int .i64 ((rd_T52 l0 Aa).f1), .int .i64 ((rd_T52 l0 Aa).f2), .string ((rd_T52 l0 Aa).f3), .bool ((rd_T52 l0 Aa).f4.f0), .slice An ((rd_T52 l0 Aa).f4.f1).length c471_5, .int .i64 ((rd_T52 l0 Aa).f4.f2.f0), .int .i64 ((rd_T52 l0 Aa).f4.f2.f1), .int .i64 ((rd_T52 l0 Aa).f4.f2.f2), .int .u32 ((rd_T52 l0 Aa).f4.f2.f3)] 52 (0, 0)) (pK Ab.out) hg (Kd.R_ne Ah.out Ab.out (by decide))); replace Ad := Am (Kd.R_over' (pR Ad.out) (Kd.R_typed (pR Ah.out)) (by decide) hg); replace Ac := Am (Kd.R_after (ok := (fun k_ => some k_ ≠ (.slice Bb t488.length Bc : Value).ownBlock)) (by (with_reducible repeat (first | apply Kd.R_alloc | apply Kd.R_drewN | apply Kd.R_drew)); exact Kd.R_mono Ac.out (fun _ hk => ⟨hk.2, hk.1.2⟩)) hg hat); replace Af := Am (Kd.R_over' (pR Af.out) (Kd.R_typed (pR Ah.out)) (by decide) hg); replace Ag := Am (Kd.R_after (ok := (fun k_ => some k_ ≠ (.slice A7 t476.length A8 : Value).ownBlock)) (by (with_reducible repeat (first | apply Kd.R_alloc | apply Kd.R_drewN | apply Kd.R_drew)); exact Kd.R_mono Ag.out (fun _ hk => ⟨hk.1.2, hk.2⟩)) hg hat); replace HB := Am (hb); have Ao := Am (ho); clear Ah ho hb hg hat; obtain ⟨_, _, _, _, _, _, _, _, _, _⟩ := bc10 Ab.out; obtain ⟨_, _, _, _, _, _, _, _, _, _⟩ := bf10 Ab.out) | (at_builtin; refine R_append_str (w0 := w) w.heap.size rfl (.tmp 52) _ 22 9 5 rfl Try.underlying22 Try.underlying9 info5 v492 y491 ((rd_T52 l0 Aa).f3) (fun k_ => some k_ ≠ (.slice A7 t476.length A8 : Value).ownBlock ∧ some k_ ≠ (.slice Bb t488.length Bc : Value).ownBlock) rfl rfl ?aO ?aF ?aB ?aS ?aL ?_; (case aB => exact (pE HB.out Ae.out)); (case aF => exact (fun k_ hk => ⟨Kd.fresh' (Kd.R_lt (pR Ac.out)) k_ hk, Kd.fresh' (Kd.R_lt (pR Ag.out)) k_ hk⟩)); (case aO => exact (pR Ao.out)); (case aS => exact (below_size (pE HB.out Ae.out))); (case aL => have := LMc19.out; omega); intro v495 w61 ho hb hg hat; rw [← Ny494.out] at ho; replace Ab := Am (blk_grown (g := Ai) (o := .cells #[.int .i64 ((rd_T52 l0 Aa).f0), .int .i64 ((rd_T52 l0 Aa).f1), .int .i64 ((rd_T52 l0 Aa).f2), .string ((rd_T52 l0 Aa).f3), .bool ((rd_T52 l0 Aa).f4.f0), .slice An ((rd_T52 l0 Aa).f4.f1).length c471_5, .int .i64 ((rd_T52 l0 Aa).f4.f2.f0), .int .i64 ((rd_T52 l0 Aa).f4.f2.f1), .int .i64 ((rd_T52 l0 Aa).f4.f2.f2), .int .u32 ((rd_T52 l0 Aa).f4.f2.f3)] 52 (0, 0)) (pK Ab.out) hg (Kd.R_ne Ao.out Ab.out (by decide))); replace Ad := Am (Kd.R_over' (pR Ad.out) (Kd.R_typed (pR Ao.out)) (by decide) hg); replace Ac := Am (Kd.R_after (ok := (fun k_ => some k_ ≠ (.slice Bb t488.length Bc : Value).ownBlock)) (pR Ac.out) hg hat); replace Af := Am (Kd.R_over' (pR Af.out) (Kd.R_typed (pR Ao.out)) (by decide) hg); replace Ag := Am (Kd.R_after (ok := (fun k_ => some k_ ≠ (.slice A7 t476.length A8 : Value).ownBlock)) (pR Ag.out) hg hat); replace HB := Am (hb); have Az := Am (ho); clear Ao ho hb hg hat; obtain ⟨_, _, _, _, _, _, _, _, _, _⟩ := bc10 Ab.out; obtain ⟨_, _, _, _, _, _, _, _, _, _⟩ := bf10 Ab.out) | ((with_reducible refine zC 53 rfl ?_); refine zL (some 62) Try.func53 #[.agg #[.bool ((rd_T52 l0 Aa).f4.f0), .slice An ((rd_T52 l0 Aa).f4.f1).length c471_5, .int .i64 ((rd_T52 l0 Aa).f4.f2.f0), .int .i64 ((rd_T52 l0 Aa).f4.f2.f1), .int .i64 ((rd_T52 l0 Aa).f4.f2.f2), .int .u32 ((rd_T52 l0 Aa).f4.f2.f3)]] ?_; (with_reducible refine (cell_Put.calls k1 ((rd_T52 l0 Aa).f4.f0) _ _ ((rd_T52 l0 Aa).f4.f1) ((rd_T52 l0 Aa).f4.f2.f0) ((rd_T52 l0 Aa).f4.f2.f1) ((rd_T52 l0 Aa).f4.f2.f2) ((rd_T52 l0 Aa).f4.f2.f3) t497 t500 _ ?Ak ?Al A41.out).mono ?_); (case Ak => exact pC (Kd.C_below Bf.out HB.out)); (case Al => exact Bg.out); rintro e w63 ⟨v498, rfl, ho0, hb⟩; refine ⟨_, rfl, ?_⟩; replace Ad := bRa Ad hb; replace Af := bRa Af hb; have Ba := Am (Kd.R_lower (Kd.R_new' (Kd.R_new' (Kd.R_new' ho0 (Kd.R_lt (pR Ac.out))) (Kd.R_lt (pR Ag.out))) (Kd.R_lt (pR Az.out))) (below_size (pE HB.out Ae.out))); replace Ac := Am (Kd.R_elder' (pR Ac.out) (Kd.R_base ho0) hb); replace Ag := Am (Kd.R_elder' (pR Ag.out) (Kd.R_base ho0) hb); replace Az := Am (Kd.R_elder' (pR Az.out) (Kd.R_base ho0) hb); replace Ab := kBa Ab hb; replace HB := zX1 HB Ae.out hb; (try clear hb); (try clear ho0); obtain ⟨By, Bz, Ci⟩ := Kd.R_slice Ba.out; subst Ci) | ((with_reducible refine gate_builtin (b := .append) (xs := #[.tmp 65, .tmp 66]) rfl ?_); at_builtin; refine Kd.R_append_rows (Kd.int .u8) (w0 := w) w.heap.size rfl (.tmp 65) (.tmp 66) 22 5 (.int .u8 0) 1 rfl Try.underlying22 info5 rfl (by decide) (by omega) v495 y494 t497 _ _ _ (fun k_ => some k_ ≠ (.slice A7 t476.length A8 : Value).ownBlock ∧ some k_ ≠ (.slice Bb t488.length Bc : Value).ownBlock ∧ some k_ ≠ (.slice By t497.length Bz : Value).ownBlock) (fun _ => False) rfl rfl ?aO ?aR (fun _ _ h => h) (fun _ h => h.elim) ?aF ?aB ?aS ?aL ?_; (case aR => exact pC (Kd.R_reads' Ba.out).2.2); (case aB => exact (pE HB.out Ae.out)); (case aF => exact (fun k_ hk => ⟨Kd.fresh' (Kd.R_lt (pR Ac.out)) k_ hk, Kd.fresh' (Kd.R_lt (pR Ag.out)) k_ hk, Kd.fresh' (Kd.R_lt (pR Ba.out)) k_ hk⟩)); (case aO => exact (by (with_reducible repeat (first | apply Kd.R_alloc | apply Kd.R_drewN | apply Kd.R_drew)); exact Kd.R_mono Az.out (fun _ hk => ⟨hk.1.1, ⟨hk.1.2, hk.2⟩⟩))); (case aS => exact (below_size (pE HB.out Ae.out))); (case aL => have := LMc42.out; omega); intro v502 w64 ho hb hg hat; rw [← Ny501.out] at ho; replace Ab := Am (blk_grown (g := Ai) (o := .cells #[.int .i64 ((rd_T52 l0 Aa).f0), .int .i64 ((rd_T52 l0 Aa).f1), .int .i64 ((rd_T52 l0 Aa).f2), .string ((rd_T52 l0 Aa).f3), .bool ((rd_T52 l0 Aa).f4.f0), .slice An ((rd_T52 l0 Aa).f4.f1).length c471_5, .int .i64 ((rd_T52 l0 Aa).f4.f2.f0), .int .i64 ((rd_T52 l0 Aa).f4.f2.f1), .int .i64 ((rd_T52 l0 Aa).f4.f2.f2), .int .u32 ((rd_T52 l0 Aa).f4.f2.f3)] 52 (0, 0)) (pK Ab.out) hg (Kd.R_ne Az.out Ab.out (by decide))); replace Ad := Am (Kd.R_over' (pR Ad.out) (Kd.R_typed (pR Az.out)) (by decide) hg); replace Ac := Am (Kd.R_after (ok := (fun k_ => some k_ ≠ (.slice Bb t488.length Bc : Value).ownBlock ∧ some k_ ≠ (.slice By t497.length Bz : Value).ownBlock)) (by (with_reducible repeat (first | apply Kd.R_alloc | apply Kd.R_drewN | apply Kd.R_drew)); exact Kd.R_mono Ac.out (fun _ hk => ⟨⟨hk.1.1, hk.2⟩, hk.1.2⟩)) hg hat); replace Af := Am (Kd.R_over' (pR Af.out) (Kd.R_typed (pR Az.out)) (by decide) hg); replace Ag := Am (Kd.R_after (ok := (fun k_ => some k_ ≠ (.slice A7 t476.length A8 : Value).ownBlock ∧ some k_ ≠ (.slice By t497.length Bz : Value).ownBlock)) (by (with_reducible repeat (first | apply Kd.R_alloc | apply Kd.R_drewN | apply Kd.R_drew)); exact Kd.R_mono Ag.out (fun _ hk => ⟨⟨hk.1.1, hk.2⟩, hk.1.2⟩)) hg hat); replace Ba := Am (Kd.R_after (ok := (fun k_ => some k_ ≠ (.slice A7 t476.length A8 : Value).ownBlock ∧ some k_ ≠ (.slice Bb t488.length Bc : Value).ownBlock)) (by (with_reducible repeat (first | apply Kd.R_alloc | apply Kd.R_drewN | apply Kd.R_drew)); exact Kd.R_mono Ba.out (fun _ hk => ⟨⟨hk.1.1.2, hk.1.2⟩, hk.2⟩)) hg hat); replace HB := Am (hb); have B1 := Am (ho); clear Az ho hb hg hat))
   go_roundg k1
   case measure => have := HK1.out; omega
   case rel => exact ⟨(y501), (wrap64 (Aa + 1)), zr, H', ⟨by have := HK1.out; omega⟩, ⟨by (with_reducible repeat (first | apply Kd.R_alloc | apply Kd.R_drewN | apply Kd.R_drew)); exact Kd.R_mono B1.out (fun _ hk => trivial)⟩, ⟨pE HB.out Ae.out⟩⟩
def hard_Put.f (k : Nat) (a0_0 : Int) (a0_1 : Int) (a0_2 : Int) : Option (List Int × Int) := (hard_Check.f a0_0 a0_1 a0_2).bind fun t505 => (if t505 = 0 then ((varint_Put.f k (([IntKind.u64.wrap (a0_0), IntKind.u64.wrap (a0_1), IntKind.u64.wrap (a0_2)] : List Int))).bind fun t509 => (some (t509, 0))) else (some (([] : List Int), t505)))
theorem hard_Put.mono : ∀ a0 a1 a2 k, LeO (hard_Put.f k a0 a1 a2) (hard_Put.f (k + 1) a0 a1 a2) := by
 intro a0 a1 a2 k
 unfold hard_Put.f
 repeat' (with_reducible first | exact varint_Put.mono .. | exact LeO.refl .. | exact LeO.none .. | refine LeO.ite ?_ ?_ | refine LeO.bind ?_ (fun _ => ?_))
set_option maxRecDepth 100000 in
theorem hard_Put.calls (k : Nat) (a0_0 : Int) (a0_1 : Int) (a0_2 : Int) (r1 : List Int) (r2 : Int) (w : World) (h : hard_Put.f k a0_0 a0_1 a0_2 = some (r1, r2)) :
 Calls Try.prog 27 #[.agg #[.int .i64 a0_0, .int .i64 a0_1, .int .i64 a0_2]] w fun e w' => ∃ v0_ : Value, e = .returned (.tuple #[v0_, .int .i64 r2]) ∧ Kd.R (Kd.int .u8) 5 w' w.heap.size (fun _ => True) v0_ r1 ∧ Below w.heap.size w w' := by
 have hu28 := Try.underlying28
 have HB := Am (Below.refl w.heap.size w)
 unfold hard_Put.f at h
 have H := h
 clear h
 obtain ⟨t505, A2, H⟩ := zb H
 by_cases c3 : t505 = 0
 rotate_left
 ·rw [if_neg c3] at H
  obtain ⟨c3b0, c3b1⟩ := zk c3
  simp only [Option.some.injEq, Prod.mk.injEq] at H
  obtain ⟨rfl, rfl⟩ := H
  go_enter Try.func27, Try.ntmps27
  go_wp2_with (first | ((with_reducible refine zD 1 rfl ?_); refine zE 1 #[.int .i64 a0_0, .int .i64 a0_1, .int .i64 a0_2] 28 ?_; intro Ad hg w13 hbox hb; have Aa := Am (hbox); have Ae := zA hg HB; replace HB := zB HB hb; have Ab := Ae; clear hb hbox hg; obtain ⟨_, _, _⟩ := bc3 Aa.out; obtain ⟨_, _, _⟩ := bf3 Aa.out) | ((with_reducible refine zC 32 rfl ?_); refine zL (some 6) Try.func32 #[.agg #[.int .i64 a0_0, .int .i64 a0_1, .int .i64 a0_2]] ?_; (with_reducible refine (hard_Check.calls a0_0 a0_1 a0_2 t505 _ A2.out).mono ?_); rintro e w15 ⟨rfl, hb⟩; refine ⟨_, rfl, ?_⟩; replace Aa := kBa Aa hb; replace HB := zX1 HB Ab.out hb; (try clear hb)))
  go_ret2
  exact ⟨_, pX, zn, pE HB.out Ab.out⟩
 rw [if_pos c3] at H
 obtain ⟨c3b0, c3b1⟩ := zc c3
 clear c3
 obtain ⟨y506, hy506⟩ : ∃ y_ : List Int, y_ = (([IntKind.u64.wrap (a0_0), IntKind.u64.wrap (a0_1), IntKind.u64.wrap (a0_2)] : List Int)) := ⟨_, rfl⟩
 replace H : ((varint_Put.f k y506).bind fun t509 => (some (t509, 0))) = some (r1, r2) := zy hy506 H
 have Ny506 := Am hy506
 clear hy506
 obtain ⟨t509, A4, H⟩ := zb H
 simp only [Option.some.injEq, Prod.mk.injEq] at H
 obtain ⟨rfl, rfl⟩ := H
 go_enter Try.func27, Try.ntmps27
 go_wp2_with (first | ((with_reducible refine zD 1 rfl ?_); refine zE 1 #[.int .i64 a0_0, .int .i64 a0_1, .int .i64 a0_2] 28 ?_; intro Ad hg w5 hbox hb; have Aa := Am (hbox); have Ae := zA hg HB; replace HB := zB HB hb; have Ab := Ae; clear hb hbox hg; obtain ⟨_, _, _⟩ := bc3 Aa.out; obtain ⟨_, _, _⟩ := bf3 Aa.out) | ((with_reducible refine zC 32 rfl ?_); refine zL (some 6) Try.func32 #[.agg #[.int .i64 a0_0, .int .i64 a0_1, .int .i64 a0_2]] ?_; (with_reducible refine (hard_Check.calls a0_0 a0_1 a0_2 t505 _ A2.out).mono ?_); rintro e w7 ⟨rfl, hb⟩; refine ⟨_, rfl, ?_⟩; replace Aa := kBa Aa hb; replace HB := zX1 HB Ab.out hb; (try clear hb); obtain ⟨_, _, _⟩ := bc3 Aa.out; obtain ⟨_, _, _⟩ := bf3 Aa.out) | ((with_reducible refine zD 19 rfl ?_); refine Kd.R_lit (Kd.int .u64) _ 61 ?hg (N := 19) ?hd (xs := ([IntKind.u64.wrap (a0_0), IntKind.u64.wrap (a0_1), IntKind.u64.wrap (a0_2)] : List Int)) (inner := [.int .u64 (IntKind.u64.wrap (a0_0)), .int .u64 (IntKind.u64.wrap (a0_1)), .int .u64 (IntKind.u64.wrap (a0_2))]) (ok := fun _ => True) (okp := fun _ => True) ?hr ?hp (fun _ hk => hk) trivial (Below.refl _ _) (Nat.le_refl _) (by simp) ?_; (case hd => rfl); (case hg => rfl); (case hr => first | (go_simp; done) | (go_simp; rfl)); (case hp => exact (Reps.one (show Kd.M (Kd.int .u64) _ _ _ (IntKind.u64.wrap (a0_0)) [.int .u64 (IntKind.u64.wrap (a0_0))] from rfl) (Reps.one (show Kd.M (Kd.int .u64) _ _ _ (IntKind.u64.wrap (a0_1)) [.int .u64 (IntKind.u64.wrap (a0_1))] from rfl) (Reps.one (show Kd.M (Kd.int .u64) _ _ _ (IntKind.u64.wrap (a0_2)) [.int .u64 (IntKind.u64.wrap (a0_2))] from rfl) (Reps.none _ _))))); intro v507 w9 ho10 hb hg_ hnew_; clear hg_ hnew_; (first | rw [← Ny506.out] at ho10 | (simp only [Int.reduceToNat] at ho10; rw [← Ny506.out] at ho10)); have Ac := Am (Kd.R_lower ho10 (below_size (pE HB.out Ab.out))); replace Aa := kBa Aa hb; replace HB := zX1 HB Ab.out hb; clear hb ho10; obtain ⟨Ai, Aj, Ak⟩ := Kd.R_slice Ac.out; subst Ak) | ((with_reducible refine zC 28 rfl ?_); refine zL (some 20) Try.func28 #[.slice Ai y506.length Aj] ?_; (with_reducible refine (varint_Put.calls k _ _ y506 t509 _ ?Af ?Ag A4.out).mono ?_); (case Af => exact pC (Kd.R_reads' Ac.out).2.2); (case Ag => exact (Kd.R_reads' Ac.out).2.1); rintro e w12 ⟨v510, rfl, ho0, hb⟩; refine ⟨_, rfl, ?_⟩; replace Ac := bRa Ac hb; have Ah := Am (Kd.R_lower ho0 (below_size (pE HB.out Ab.out))); replace Aa := kBa Aa hb; replace HB := zX1 HB Ab.out hb; (try clear hb); (try clear ho0)))
 go_ret2
 exact ⟨_, pX, by (with_reducible repeat (first | apply Kd.R_alloc | apply Kd.R_drewN | apply Kd.R_drew)); exact Ah.out, pE HB.out Ab.out⟩
def wal_Put.f (k : Nat) (a0_0 : Int) (l0_1 : List (S52)) (a0_2 : Int) (a0_3 : Int) (a0_4 : Int) (a0_5 : Int) : Option (Int × List Int × Int) := (wal_Check.f k a0_0 l0_1 a0_2 a0_3 a0_4 a0_5).bind fun t514 => (if t514 = 0 then (if a0_0 = 1 then ((entry_Put.f k l0_1).bind fun bt516 => (some (wrap64 (10 + a0_0), bt516.1, 0))) else (if a0_0 = 2 then ((hard_Put.f k a0_2 a0_3 a0_4).bind fun bt520 => (some (wrap64 (10 + a0_0), bt520.1, 0))) else ((varint_Put.f k (([IntKind.u64.wrap (a0_5)] : List Int))).bind fun t527 => (some (wrap64 (10 + a0_0), t527, 0))))) else (some (0, ([] : List Int), t514)))
theorem wal_Put.mono : ∀ a0 a1 a2 a3 a4 a5 k, LeO (wal_Put.f k a0 a1 a2 a3 a4 a5) (wal_Put.f (k + 1) a0 a1 a2 a3 a4 a5) := by
 intro a0 a1 a2 a3 a4 a5 k
 unfold wal_Put.f
 repeat' (with_reducible first | exact entry_Put.mono .. | exact hard_Put.mono .. | exact varint_Put.mono .. | exact wal_Check.mono .. | exact LeO.refl .. | exact LeO.none .. | refine LeO.ite ?_ ?_ | refine LeO.bind ?_ (fun _ => ?_))
set_option maxRecDepth 100000 in
theorem wal_Put.calls (k : Nat) (a0_0 : Int) (A0_1 : Option Addr) (c0_1 : Nat) (l0_1 : List (S52)) (a0_2 : Int) (a0_3 : Int) (a0_4 : Int) (a0_5 : Int) (r1 : Int) (r2 : List Int) (r3 : Int) (w : World) (hr0_1 : Kd.C k52 w A0_1 l0_1.length l0_1) (hc0_1 : l0_1.length ≤ c0_1) (h : wal_Put.f k a0_0 l0_1 a0_2 a0_3 a0_4 a0_5 = some (r1, r2, r3)) :
 Calls Try.prog 11 #[.agg #[.int .i64 a0_0, .slice A0_1 l0_1.length c0_1, .int .i64 a0_2, .int .i64 a0_3, .int .i64 a0_4, .int .i64 a0_5]] w fun e w' => ∃ v1_ : Value, e = .returned (.tuple #[.agg #[.int .i64 r1, v1_], .int .i64 r3]) ∧ Kd.R (Kd.int .u8) 5 w' w.heap.size (fun _ => True) v1_ r2 ∧ Below w.heap.size w w' := by
 have hu30 := Try.underlying30
 have hu24 := Try.underlying24
 have hu28 := Try.underlying28
 have Au := Am hr0_1
 have Av := Am hc0_1
 clear hr0_1 hc0_1
 have HB := Am (Below.refl w.heap.size w)
 unfold wal_Put.f at h
 have H := h
 clear h
 obtain ⟨t514, A2, H⟩ := zb H
 by_cases c3 : t514 = 0
 rotate_left
 ·rw [if_neg c3] at H
  obtain ⟨c3b0, c3b1⟩ := zk c3
  simp only [Option.some.injEq, Prod.mk.injEq] at H
  obtain ⟨rfl, rfl, rfl⟩ := H
  go_enter Try.func11, Try.ntmps11
  go_wp2_with (first | ((with_reducible refine zD 1 rfl ?_); refine zE 1 #[.int .i64 a0_0, .slice A0_1 l0_1.length c0_1, .int .i64 a0_2, .int .i64 a0_3, .int .i64 a0_4, .int .i64 a0_5] 30 ?_; intro Ah hg w57 hbox hb; have Aa := Am (hbox); have As := zA hg HB; replace HB := zB HB hb; have Ac := As; clear hb hbox hg) | ((with_reducible refine zD 2 rfl ?_); refine zE 2 #[.int .i64 0, .slice none 0 0] 24 ?_; intro Ad hg w58 hbox hb; have Ab := Am (hbox); have At := zY1 hg HB Ac.out; replace HB := zX1 HB Ac.out hb; have Af := At; have Ak := Am (zN hg (kL Aa.out)); have Al := Am (zM hg (kL Aa.out)); replace Aa := kBa Aa hb; clear hb hbox hg; have hnb59 := Ak.out; have hnc59 := Al.out; obtain ⟨_, _, _, _, _, _⟩ := bc6 Aa.out; obtain ⟨_, _, _, _, _, _⟩ := bf6 Aa.out) | ((with_reducible refine zC 13 rfl ?_); refine zL (some 7) Try.func13 #[.agg #[.int .i64 a0_0, .slice A0_1 l0_1.length c0_1, .int .i64 a0_2, .int .i64 a0_3, .int .i64 a0_4, .int .i64 a0_5]] ?_; (with_reducible refine (wal_Check.calls k a0_0 _ _ l0_1 a0_2 a0_3 a0_4 a0_5 t514 _ ?Aq ?Ar A2.out).mono ?_); (case Aq => exact pC (Kd.C_below Au.out HB.out)); (case Ar => exact Av.out); rintro e w61 ⟨rfl, hb⟩; refine ⟨_, rfl, ?_⟩; replace Aa := kBa Aa hb; replace Ab := kBa Ab hb; replace HB := zX2 HB Ac.out Af.out hb; (try clear hb); obtain ⟨_, _⟩ := bc2 Ab.out; obtain ⟨_, _⟩ := bf2 Ab.out))
  refine bodyPost_ret (results_ct rfl _ _ Ad 24 #[.int .i64 0, .slice none 0 0] (0, 0) _ rfl (kX0 Ab.out) Try.underlying24 rfl (by kernel_rfl)) rfl ?_
  exact ⟨_, pX, zn, pE2 HB.out Ac.out Af.out⟩
 rw [if_pos c3] at H
 obtain ⟨c3b0, c3b1⟩ := zc c3
 clear c3
 by_cases c4 : a0_0 = 1
 ·rw [if_pos c4] at H
  obtain ⟨c4b0, c4b1⟩ := zc c4
  clear c4
  obtain ⟨⟨t516, t517⟩, A5, H⟩ := zb H
  dsimp only at H
  simp only [Option.some.injEq, Prod.mk.injEq] at H
  obtain ⟨rfl, rfl, rfl⟩ := H
  go_enter Try.func11, Try.ntmps11
  go_wp2_with (first | ((with_reducible refine zD 1 rfl ?_); refine zE 1 #[.int .i64 a0_0, .slice A0_1 l0_1.length c0_1, .int .i64 a0_2, .int .i64 a0_3, .int .i64 a0_4, .int .i64 a0_5] 30 ?_; intro Ah hg w6 hbox hb; have Aa := Am (hbox); have As := zA hg HB; replace HB := zB HB hb; have Ac := As; clear hb hbox hg) | ((with_reducible refine zD 2 rfl ?_); refine zE 2 #[.int .i64 0, .slice none 0 0] 24 ?_; intro Ad hg w7 hbox hb; have Ab := Am (hbox); have At := zY1 hg HB Ac.out; replace HB := zX1 HB Ac.out hb; have Af := At; have Ak := Am (zN hg (kL Aa.out)); have Al := Am (zM hg (kL Aa.out)); replace Aa := kBa Aa hb; clear hb hbox hg; have hnb8 := Ak.out; have hnc8 := Al.out; obtain ⟨_, _, _, _, _, _⟩ := bc6 Aa.out; obtain ⟨_, _, _, _, _, _⟩ := bf6 Aa.out) | ((with_reducible refine zC 13 rfl ?_); refine zL (some 7) Try.func13 #[.agg #[.int .i64 a0_0, .slice A0_1 l0_1.length c0_1, .int .i64 a0_2, .int .i64 a0_3, .int .i64 a0_4, .int .i64 a0_5]] ?_; (with_reducible refine (wal_Check.calls k a0_0 _ _ l0_1 a0_2 a0_3 a0_4 a0_5 t514 _ ?Aq ?Ar A2.out).mono ?_); (case Aq => exact pC (Kd.C_below Au.out HB.out)); (case Ar => exact Av.out); rintro e w10 ⟨rfl, hb⟩; refine ⟨_, rfl, ?_⟩; replace Aa := kBa Aa hb; replace Ab := kBa Ab hb; replace HB := zX2 HB Ac.out Af.out hb; (try clear hb); obtain ⟨_, _, _, _, _, _⟩ := bc6 Aa.out; obtain ⟨_, _, _, _, _, _⟩ := bf6 Aa.out) | ((with_reducible refine zD 5 rfl ?_); refine zE 5 #[.int .i64 0, .slice none 0 0] 24 ?_; intro Ai hg w12 hbox hb; have Ag := Am (hbox); have Aw := zY2 hg HB Ac.out Af.out; replace HB := zX2 HB Ac.out Af.out hb; have An := Aw; have Aj := Am (zN hg (kL Aa.out)); have Ao := Am (zM hg (kL Aa.out)); replace Aa := kBa Aa hb; have Ae := Am (zN hg (kL Ab.out)); have Ap := Am (zM hg (kL Ab.out)); replace Ab := kBa Ab hb; clear hb hbox hg; have hnb13 := Ao.out; have hnc13 := Aj.out; have hnb14 := Ap.out; have hnc14 := Ae.out; obtain ⟨_, _⟩ := bc2 Ag.out; obtain ⟨_, _⟩ := bf2 Ag.out; obtain ⟨_, _, _, _, _, _⟩ := bc6 Aa.out; obtain ⟨_, _, _, _, _, _⟩ := bf6 Aa.out) | ((with_reducible refine zC 26 rfl ?_); refine zL (some 29) Try.func26 #[.slice A0_1 l0_1.length c0_1] ?_; (with_reducible refine (entry_Put.calls k _ _ l0_1 t516 t517 _ ?Aq ?Ar A5.out).mono ?_); (case Aq => exact Kd.C_below Au.out (pE3 HB.out Ac.out Af.out An.out)); (case Ar => exact Av.out); rintro e w17 ⟨v518, rfl, ho0, hb⟩; refine ⟨_, rfl, ?_⟩; have Ay := Am (Kd.R_lower ho0 (below_size (pE3 HB.out Ac.out Af.out An.out))); replace Aa := Am (blk_below (g := Ah) (kX1 Aa.out Aj.out) hb); replace Ab := Am (blk_below (g := Ad) (kX1 Ab.out Ae.out) hb); replace Ag := Am (blk_below (g := Ai) (kX0 Ag.out) hb); replace HB := zX3 HB Ac.out Af.out An.out hb; (try clear hb); (try clear ho0); obtain ⟨A1, A3, A9⟩ := Kd.R_slice Ay.out; subst A9; obtain ⟨_, _⟩ := bc2 Ag.out; obtain ⟨_, _⟩ := bf2 Ag.out; obtain ⟨_, _⟩ := bc2 Ab.out; obtain ⟨_, _⟩ := bf2 Ab.out))
  refine bodyPost_ret (results_ct rfl _ _ Ad 24 #[.int .i64 (wrap64 (10 + a0_0)), .slice A1 t516.length A3] (0, 0) _ rfl (kX1 Ab.out Ae.out) Try.underlying24 rfl (by kernel_rfl)) rfl ?_
  exact ⟨_, pX, by (with_reducible repeat (first | apply Kd.R_alloc | apply Kd.R_drewN | apply Kd.R_drew)); exact Kd.R_mono (Rf2 (g := Ad) (Kd.R_far (p := ⟨Ai, 1, none⟩) (Kd.R_types (Kd.R_types Ay.out Ag.out (by decide)) Ab.out (by decide)) (fun _ hk => hk.1.2) (.slice A1 t516.length A3)) (fun _ hk => hk.2)) (fun _ hk => trivial), pE3 HB.out Ac.out Af.out An.out⟩
 rw [if_neg c4] at H
 obtain ⟨c4b0, c4b1⟩ := zk c4
 by_cases c21 : a0_0 = 2
 ·rw [if_pos c21] at H
  obtain ⟨c21b0, c21b1⟩ := zc c21
  clear c21
  obtain ⟨⟨t520, t523⟩, A22, H⟩ := zb H
  dsimp only at H
  simp only [Option.some.injEq, Prod.mk.injEq] at H
  obtain ⟨rfl, rfl, rfl⟩ := H
  go_enter Try.func11, Try.ntmps11
  go_wp2_with (first | ((with_reducible refine zD 1 rfl ?_); refine zE 1 #[.int .i64 a0_0, .slice A0_1 l0_1.length c0_1, .int .i64 a0_2, .int .i64 a0_3, .int .i64 a0_4, .int .i64 a0_5] 30 ?_; intro Ah hg w23 hbox hb; have Aa := Am (hbox); have As := zA hg HB; replace HB := zB HB hb; have Ac := As; clear hb hbox hg) | ((with_reducible refine zD 2 rfl ?_); refine zE 2 #[.int .i64 0, .slice none 0 0] 24 ?_; intro Ad hg w24 hbox hb; have Ab := Am (hbox); have At := zY1 hg HB Ac.out; replace HB := zX1 HB Ac.out hb; have Af := At; have Ak := Am (zN hg (kL Aa.out)); have Al := Am (zM hg (kL Aa.out)); replace Aa := kBa Aa hb; clear hb hbox hg; have hnb25 := Ak.out; have hnc25 := Al.out; obtain ⟨_, _, _, _, _, _⟩ := bc6 Aa.out; obtain ⟨_, _, _, _, _, _⟩ := bf6 Aa.out) | ((with_reducible refine zC 13 rfl ?_); refine zL (some 7) Try.func13 #[.agg #[.int .i64 a0_0, .slice A0_1 l0_1.length c0_1, .int .i64 a0_2, .int .i64 a0_3, .int .i64 a0_4, .int .i64 a0_5]] ?_; (with_reducible refine (wal_Check.calls k a0_0 _ _ l0_1 a0_2 a0_3 a0_4 a0_5 t514 _ ?Aq ?Ar A2.out).mono ?_); (case Aq => exact pC (Kd.C_below Au.out HB.out)); (case Ar => exact Av.out); rintro e w27 ⟨rfl, hb⟩; refine ⟨_, rfl, ?_⟩; replace Aa := kBa Aa hb; replace Ab := kBa Ab hb; replace HB := zX2 HB Ac.out Af.out hb; (try clear hb); obtain ⟨_, _, _, _, _, _⟩ := bc6 Aa.out; obtain ⟨_, _, _, _, _, _⟩ := bf6 Aa.out) | ((with_reducible refine zD 5 rfl ?_); refine zE 5 #[.int .i64 0, .slice none 0 0] 24 ?_; intro Ai hg w29 hbox hb; have Ag := Am (hbox); have Aw := zY2 hg HB Ac.out Af.out; replace HB := zX2 HB Ac.out Af.out hb; have An := Aw; have Aj := Am (zN hg (kL Aa.out)); have Ao := Am (zM hg (kL Aa.out)); replace Aa := kBa Aa hb; have Ae := Am (zN hg (kL Ab.out)); have Ap := Am (zM hg (kL Ab.out)); replace Ab := kBa Ab hb; clear hb hbox hg; have hnb30 := Ao.out; have hnc30 := Aj.out; have hnb31 := Ap.out; have hnc31 := Ae.out; obtain ⟨_, _⟩ := bc2 Ag.out; obtain ⟨_, _⟩ := bf2 Ag.out; obtain ⟨_, _, _, _, _, _⟩ := bc6 Aa.out; obtain ⟨_, _, _, _, _, _⟩ := bf6 Aa.out) | ((with_reducible refine zC 27 rfl ?_); refine zL (some 38) Try.func27 #[.agg #[.int .i64 a0_2, .int .i64 a0_3, .int .i64 a0_4]] ?_; (with_reducible refine (hard_Put.calls k a0_2 a0_3 a0_4 t520 t523 _ A22.out).mono ?_); rintro e w34 ⟨v521, rfl, ho0, hb⟩; refine ⟨_, rfl, ?_⟩; have Az := Am (Kd.R_lower ho0 (below_size (pE3 HB.out Ac.out Af.out An.out))); replace Aa := Am (blk_below (g := Ah) (kX1 Aa.out Aj.out) hb); replace Ab := Am (blk_below (g := Ad) (kX1 Ab.out Ae.out) hb); replace Ag := Am (blk_below (g := Ai) (kX0 Ag.out) hb); replace HB := zX3 HB Ac.out Af.out An.out hb; (try clear hb); (try clear ho0); obtain ⟨A4, A6, Ba⟩ := Kd.R_slice Az.out; subst Ba; obtain ⟨_, _⟩ := bc2 Ag.out; obtain ⟨_, _⟩ := bf2 Ag.out; obtain ⟨_, _⟩ := bc2 Ab.out; obtain ⟨_, _⟩ := bf2 Ab.out))
  refine bodyPost_ret (results_ct rfl _ _ Ad 24 #[.int .i64 (wrap64 (10 + a0_0)), .slice A4 t520.length A6] (0, 0) _ rfl (kX1 Ab.out Ae.out) Try.underlying24 rfl (by kernel_rfl)) rfl ?_
  exact ⟨_, pX, by (with_reducible repeat (first | apply Kd.R_alloc | apply Kd.R_drewN | apply Kd.R_drew)); exact Kd.R_mono (Rf2 (g := Ad) (Kd.R_far (p := ⟨Ai, 1, none⟩) (Kd.R_types (Kd.R_types Az.out Ag.out (by decide)) Ab.out (by decide)) (fun _ hk => hk.1.2) (.slice A4 t520.length A6)) (fun _ hk => hk.2)) (fun _ hk => trivial), pE3 HB.out Ac.out Af.out An.out⟩
 rw [if_neg c21] at H
 obtain ⟨c21b0, c21b1⟩ := zk c21
 obtain ⟨y524, hy524⟩ : ∃ y_ : List Int, y_ = (([IntKind.u64.wrap (a0_5)] : List Int)) := ⟨_, rfl⟩
 replace H : ((varint_Put.f k y524).bind fun t527 => (some (wrap64 (10 + a0_0), t527, 0))) = some (r1, r2, r3) := zy hy524 H
 have Ny524 := Am hy524
 clear hy524
 obtain ⟨t527, A38, H⟩ := zb H
 simp only [Option.some.injEq, Prod.mk.injEq] at H
 obtain ⟨rfl, rfl, rfl⟩ := H
 go_enter Try.func11, Try.ntmps11
 go_wp2_with (first | ((with_reducible refine zD 1 rfl ?_); refine zE 1 #[.int .i64 a0_0, .slice A0_1 l0_1.length c0_1, .int .i64 a0_2, .int .i64 a0_3, .int .i64 a0_4, .int .i64 a0_5] 30 ?_; intro Ah hg w39 hbox hb; have Aa := Am (hbox); have As := zA hg HB; replace HB := zB HB hb; have Ac := As; clear hb hbox hg) | ((with_reducible refine zD 2 rfl ?_); refine zE 2 #[.int .i64 0, .slice none 0 0] 24 ?_; intro Ad hg w40 hbox hb; have Ab := Am (hbox); have At := zY1 hg HB Ac.out; replace HB := zX1 HB Ac.out hb; have Af := At; have Ak := Am (zN hg (kL Aa.out)); have Al := Am (zM hg (kL Aa.out)); replace Aa := kBa Aa hb; clear hb hbox hg; have hnb41 := Ak.out; have hnc41 := Al.out; obtain ⟨_, _, _, _, _, _⟩ := bc6 Aa.out; obtain ⟨_, _, _, _, _, _⟩ := bf6 Aa.out) | ((with_reducible refine zC 13 rfl ?_); refine zL (some 7) Try.func13 #[.agg #[.int .i64 a0_0, .slice A0_1 l0_1.length c0_1, .int .i64 a0_2, .int .i64 a0_3, .int .i64 a0_4, .int .i64 a0_5]] ?_; (with_reducible refine (wal_Check.calls k a0_0 _ _ l0_1 a0_2 a0_3 a0_4 a0_5 t514 _ ?Aq ?Ar A2.out).mono ?_); (case Aq => exact pC (Kd.C_below Au.out HB.out)); (case Ar => exact Av.out); rintro e w43 ⟨rfl, hb⟩; refine ⟨_, rfl, ?_⟩; replace Aa := kBa Aa hb; replace Ab := kBa Ab hb; replace HB := zX2 HB Ac.out Af.out hb; (try clear hb); obtain ⟨_, _, _, _, _, _⟩ := bc6 Aa.out; obtain ⟨_, _, _, _, _, _⟩ := bf6 Aa.out) | ((with_reducible refine zD 5 rfl ?_); refine zE 5 #[.int .i64 0, .slice none 0 0] 24 ?_; intro Ai hg w45 hbox hb; have Ag := Am (hbox); have Aw := zY2 hg HB Ac.out Af.out; replace HB := zX2 HB Ac.out Af.out hb; have An := Aw; have Aj := Am (zN hg (kL Aa.out)); have Ao := Am (zM hg (kL Aa.out)); replace Aa := kBa Aa hb; have Ae := Am (zN hg (kL Ab.out)); have Ap := Am (zM hg (kL Ab.out)); replace Ab := kBa Ab hb; clear hb hbox hg; have hnb46 := Ao.out; have hnc46 := Aj.out; have hnb47 := Ap.out; have hnc47 := Ae.out; obtain ⟨_, _⟩ := bc2 Ag.out; obtain ⟨_, _⟩ := bf2 Ag.out; obtain ⟨_, _, _, _, _, _⟩ := bc6 Aa.out; obtain ⟨_, _, _, _, _, _⟩ := bf6 Aa.out) | ((with_reducible refine zD 21 rfl ?_); refine Kd.R_lit (Kd.int .u64) _ 61 ?hg (N := 21) ?hd (xs := ([IntKind.u64.wrap (a0_5)] : List Int)) (inner := [.int .u64 (IntKind.u64.wrap (a0_5))]) (ok := fun _ => True) (okp := fun _ => True) ?hr ?hp (fun _ hk => hk) trivial (Below.refl _ _) (Nat.le_refl _) (by simp) ?_; (case hd => rfl); (case hg => rfl); (case hr => first | (go_simp; done) | (go_simp; rfl)); (case hp => exact (Reps.one (show Kd.M (Kd.int .u64) _ _ _ (IntKind.u64.wrap (a0_5)) [.int .u64 (IntKind.u64.wrap (a0_5))] from rfl) (Reps.none _ _))); intro v525 w50 ho51 hb hg_ hnew_; clear hg_ hnew_; (first | rw [← Ny524.out] at ho51 | (simp only [Int.reduceToNat] at ho51; rw [← Ny524.out] at ho51)); have Ax := Am (Kd.R_lower ho51 (below_size (pE3 HB.out Ac.out Af.out An.out))); replace Aa := Am (blk_below (g := Ah) (kX1 Aa.out Aj.out) hb); replace Ab := Am (blk_below (g := Ad) (kX1 Ab.out Ae.out) hb); replace Ag := Am (blk_below (g := Ai) (kX0 Ag.out) hb); replace HB := zX3 HB Ac.out Af.out An.out hb; clear hb ho51; obtain ⟨Bb, Bc, Bd⟩ := Kd.R_slice Ax.out; subst Bd) | ((with_reducible refine zC 28 rfl ?_); refine zL (some 22) Try.func28 #[.slice Bb y524.length Bc] ?_; (with_reducible refine (varint_Put.calls k _ _ y524 t527 _ ?Aq ?Ar A38.out).mono ?_); (case Aq => exact pC (Kd.R_reads' Ax.out).2.2); (case Ar => exact (Kd.R_reads' Ax.out).2.1); rintro e w53 ⟨v528, rfl, ho0, hb⟩; refine ⟨_, rfl, ?_⟩; replace Ax := bRa Ax hb; have A0 := Am (Kd.R_lower ho0 (below_size (pE3 HB.out Ac.out Af.out An.out))); replace Aa := kBa Aa hb; replace Ab := kBa Ab hb; replace Ag := kBa Ag hb; replace HB := zX3 HB Ac.out Af.out An.out hb; (try clear hb); (try clear ho0); obtain ⟨A7, A8, Be⟩ := Kd.R_slice A0.out; subst Be; obtain ⟨_, _⟩ := bc2 Ag.out; obtain ⟨_, _⟩ := bf2 Ag.out; obtain ⟨_, _⟩ := bc2 Ab.out; obtain ⟨_, _⟩ := bf2 Ab.out))
 refine bodyPost_ret (results_ct rfl _ _ Ad 24 #[.int .i64 (wrap64 (10 + a0_0)), .slice A7 t527.length A8] (0, 0) _ rfl (kX1 Ab.out Ae.out) Try.underlying24 rfl (by kernel_rfl)) rfl ?_
 exact ⟨_, pX, by (with_reducible repeat (first | apply Kd.R_alloc | apply Kd.R_drewN | apply Kd.R_drew)); exact Kd.R_mono (Rf2 (g := Ad) (Kd.R_far (p := ⟨Ai, 1, none⟩) (Kd.R_types (Kd.R_types A0.out Ag.out (by decide)) Ab.out (by decide)) (fun _ hk => hk.1.2) (.slice A7 t527.length A8)) (fun _ hk => hk.2)) (fun _ hk => trivial), pE3 HB.out Ac.out Af.out An.out⟩
end
section
attribute [local go_sem] max2_int min2_int max_two min_two max_three min_three max_four min_four
attribute [local go_sem] wrap64_l1 wrap64_l2 wrap64_l3 wrap64_l4 wrap64_l5
attribute [local go_sem high] eqA48
def garnerref04_May.f (a0_0 : Int) (a0_1 : Int) (a0_2 : Int) (a0_3 : Int) : Option (Bool) := if a0_0 ≥ 1 then (if a0_0 ≤ 2147483647 then (if a0_1 ≥ 0 then (if a0_1 ≤ 2147483647 then (if a0_2 ≥ 0 then (some (decide (a0_2 ≤ 4096))) else (some false)) else (some false)) else (some false)) else (some false)) else (some false)
set_option maxRecDepth 100000 in
theorem garnerref04_May.calls (a0_0 : Int) (a0_1 : Int) (a0_2 : Int) (a0_3 : Int) (r : Bool) (w : World) (h : garnerref04_May.f a0_0 a0_1 a0_2 a0_3 = some r) :
 Calls Try.prog 81 #[.agg #[.int .i64 a0_0, .int .i64 a0_1, .int .i64 a0_2, .int .u32 a0_3]] w fun e w' => e = .returned (.bool r) ∧ Below w.heap.size w w' := by
 have hu48 := Try.underlying48
 have HB := Am (Below.refl w.heap.size w)
 unfold garnerref04_May.f at h
 have H := h
 clear h
 by_cases c2 : a0_0 ≥ 1
 rotate_left
 ·rw [if_neg c2] at H
  have c2b0 : decide (1 ≤ a0_0) = false := decide_eq_false c2
  clear c2
  obtain rfl := Option.some.inj H
  go_enter Try.func81, Try.ntmps81
  go_wp2_with (first | ((with_reducible refine zD 1 rfl ?_); refine zE 1 #[.int .i64 a0_0, .int .i64 a0_1, .int .i64 a0_2, .int .u32 a0_3] 48 ?_; intro Ab hg w17 hbox hb; have Aa := Am (hbox); have Ac := zA hg HB; replace HB := zB HB hb; have Ad := Ac; clear hb hbox hg; obtain ⟨_, _, _, _⟩ := bc4 Aa.out; obtain ⟨_, _, _, _⟩ := bf4 Aa.out))
  go_ret
  exact ⟨pX, pE HB.out Ad.out⟩
 rw [if_pos c2] at H
 have c2b0 : decide (1 ≤ a0_0) = true := decide_eq_true c2
 clear c2
 by_cases c3 : a0_0 ≤ 2147483647
 rotate_left
 ·rw [if_neg c3] at H
  have c3b0 := decide_eq_false c3
  clear c3
  obtain rfl := Option.some.inj H
  go_enter Try.func81, Try.ntmps81
  go_wp2_with (first | ((with_reducible refine zD 1 rfl ?_); refine zE 1 #[.int .i64 a0_0, .int .i64 a0_1, .int .i64 a0_2, .int .u32 a0_3] 48 ?_; intro Ab hg w15 hbox hb; have Aa := Am (hbox); have Ac := zA hg HB; replace HB := zB HB hb; have Ad := Ac; clear hb hbox hg; obtain ⟨_, _, _, _⟩ := bc4 Aa.out; obtain ⟨_, _, _, _⟩ := bf4 Aa.out))
  go_ret
  exact ⟨pX, pE HB.out Ad.out⟩
 rw [if_pos c3] at H
 have c3b0 := decide_eq_true c3
 clear c3
 by_cases c4 : a0_1 ≥ 0
 rotate_left
 ·rw [if_neg c4] at H
  have c4b0 : decide (0 ≤ a0_1) = false := decide_eq_false c4
  clear c4
  obtain rfl := Option.some.inj H
  go_enter Try.func81, Try.ntmps81
  go_wp2_with (first | ((with_reducible refine zD 1 rfl ?_); refine zE 1 #[.int .i64 a0_0, .int .i64 a0_1, .int .i64 a0_2, .int .u32 a0_3] 48 ?_; intro Ab hg w13 hbox hb; have Aa := Am (hbox); have Ac := zA hg HB; replace HB := zB HB hb; have Ad := Ac; clear hb hbox hg; obtain ⟨_, _, _, _⟩ := bc4 Aa.out; obtain ⟨_, _, _, _⟩ := bf4 Aa.out))
  go_ret
  exact ⟨pX, pE HB.out Ad.out⟩
 rw [if_pos c4] at H
 have c4b0 : decide (0 ≤ a0_1) = true := decide_eq_true c4
 clear c4
 by_cases c5 : a0_1 ≤ 2147483647
 rotate_left
 ·rw [if_neg c5] at H
  have c5b0 := decide_eq_false c5
  clear c5
  obtain rfl := Option.some.inj H
  go_enter Try.func81, Try.ntmps81
  go_wp2_with (first | ((with_reducible refine zD 1 rfl ?_); refine zE 1 #[.int .i64 a0_0, .int .i64 a0_1, .int .i64 a0_2, .int .u32 a0_3] 48 ?_; intro Ab hg w11 hbox hb; have Aa := Am (hbox); have Ac := zA hg HB; replace HB := zB HB hb; have Ad := Ac; clear hb hbox hg; obtain ⟨_, _, _, _⟩ := bc4 Aa.out; obtain ⟨_, _, _, _⟩ := bf4 Aa.out))
  go_ret
  exact ⟨pX, pE HB.out Ad.out⟩
 rw [if_pos c5] at H
 have c5b0 := decide_eq_true c5
 clear c5
 by_cases c6 : a0_2 ≥ 0
 ·rw [if_pos c6] at H
  have c6b0 : decide (0 ≤ a0_2) = true := decide_eq_true c6
  clear c6
  obtain rfl := Option.some.inj H
  go_enter Try.func81, Try.ntmps81
  go_wp2_with (first | ((with_reducible refine zD 1 rfl ?_); refine zE 1 #[.int .i64 a0_0, .int .i64 a0_1, .int .i64 a0_2, .int .u32 a0_3] 48 ?_; intro Ab hg w7 hbox hb; have Aa := Am (hbox); have Ac := zA hg HB; replace HB := zB HB hb; have Ad := Ac; clear hb hbox hg; obtain ⟨_, _, _, _⟩ := bc4 Aa.out; obtain ⟨_, _, _, _⟩ := bf4 Aa.out))
  go_ret
  exact ⟨pX, pE HB.out Ad.out⟩
 rw [if_neg c6] at H
 have c6b0 : decide (0 ≤ a0_2) = false := decide_eq_false c6
 clear c6
 obtain rfl := Option.some.inj H
 go_enter Try.func81, Try.ntmps81
 go_wp2_with (first | ((with_reducible refine zD 1 rfl ?_); refine zE 1 #[.int .i64 a0_0, .int .i64 a0_1, .int .i64 a0_2, .int .u32 a0_3] 48 ?_; intro Ab hg w9 hbox hb; have Aa := Am (hbox); have Ac := zA hg HB; replace HB := zB HB hb; have Ad := Ac; clear hb hbox hg; obtain ⟨_, _, _, _⟩ := bc4 Aa.out; obtain ⟨_, _, _, _⟩ := bf4 Aa.out))
 go_ret
 exact ⟨pX, pE HB.out Ad.out⟩
def garnerref05_May.f (a0_0 : Bool) (l0_1 : List Int) (a0_2 : Int) (a0_3 : Int) (a0_4 : Int) (a0_5 : Int) : Option (Bool) := if a0_0 = true then (if (l0_1.length : Int) = 0 then ((garnerref04_May.f a0_2 a0_3 a0_4 a0_5).bind fun t532 => (some t532)) else (some false)) else (if (l0_1.length : Int) ≤ 32 then (some (a0_2 == 0 && (a0_3 == 0 && (a0_4 == 0 && (a0_5 == 0))))) else (some false))
set_option maxRecDepth 100000 in
theorem garnerref05_May.calls (a0_0 : Bool) (A0_1 : Option Addr) (c0_1 : Nat) (l0_1 : List Int) (a0_2 : Int) (a0_3 : Int) (a0_4 : Int) (a0_5 : Int) (r : Bool) (w : World) (hr0_1 : Kd.C (Kd.int .u8) w A0_1 l0_1.length l0_1) (hc0_1 : l0_1.length ≤ c0_1) (h : garnerref05_May.f a0_0 l0_1 a0_2 a0_3 a0_4 a0_5 = some r) :
 Calls Try.prog 71 #[.agg #[.bool a0_0, .slice A0_1 l0_1.length c0_1, .int .i64 a0_2, .int .i64 a0_3, .int .i64 a0_4, .int .u32 a0_5]] w fun e w' => e = .returned (.bool r) ∧ Below w.heap.size w w' := by
 have hu50 := Try.underlying50
 have hu48 := Try.underlying48
 have HR0_1 := Am hr0_1
 have HC0_1 := Am hc0_1
 clear hr0_1 hc0_1
 have HB := Am (Below.refl w.heap.size w)
 unfold garnerref05_May.f at h
 have H := h
 clear h
 by_cases c2 : a0_0 = true
 rotate_left
 ·replace c2 := Bool.eq_false_iff.mpr c2
  subst c2
  rw [if_neg zF] at H
  by_cases c10 : (l0_1.length : Int) ≤ 32
  ·rw [if_pos c10] at H
   have c10b0 := decide_eq_true c10
   have c10b1 : decide (l0_1.length ≤ 32) = true := decide_eq_true (by omega)
   clear c10
   obtain rfl := Option.some.inj H
   go_enter Try.func71, Try.ntmps71
   go_wp2_with (first | ((with_reducible refine zD 1 rfl ?_); refine zE 1 #[.bool false, .slice A0_1 l0_1.length c0_1, .int .i64 a0_2, .int .i64 a0_3, .int .i64 a0_4, .int .u32 a0_5] 50 ?_; intro Ac hg w11 hbox hb; have Aa := Am (hbox); have Ad := zA hg HB; replace HB := zB HB hb; have Ab := Ad; clear hb hbox hg; obtain ⟨_, _, _, _, _, _⟩ := bc6 Aa.out; obtain ⟨_, _, _, _, _, _⟩ := bf6 Aa.out))
   go_ret
   exact ⟨pX, pE HB.out Ab.out⟩
  rw [if_neg c10] at H
  have c10b0 := decide_eq_false c10
  have c10b1 : decide (l0_1.length ≤ 32) = false := decide_eq_false (by omega)
  clear c10
  obtain rfl := Option.some.inj H
  go_enter Try.func71, Try.ntmps71
  go_wp2_with (first | ((with_reducible refine zD 1 rfl ?_); refine zE 1 #[.bool false, .slice A0_1 l0_1.length c0_1, .int .i64 a0_2, .int .i64 a0_3, .int .i64 a0_4, .int .u32 a0_5] 50 ?_; intro Ac hg w13 hbox hb; have Aa := Am (hbox); have Ad := zA hg HB; replace HB := zB HB hb; have Ab := Ad; clear hb hbox hg; obtain ⟨_, _, _, _, _, _⟩ := bc6 Aa.out; obtain ⟨_, _, _, _, _, _⟩ := bf6 Aa.out))
  go_ret
  exact ⟨pX, pE HB.out Ab.out⟩
 subst c2
 rw [if_pos rfl] at H
 by_cases c3 : (l0_1.length : Int) = 0
 rotate_left
 ·rw [if_neg c3] at H
  obtain ⟨c3b0, c3b1⟩ := zk c3
  have c3b2 : ¬ (l0_1 = []) := fun h_ => c3 (by rw [h_]; rfl)
  obtain rfl := Option.some.inj H
  go_enter Try.func71, Try.ntmps71
  go_wp2_with (first | ((with_reducible refine zD 1 rfl ?_); refine zE 1 #[.bool true, .slice A0_1 l0_1.length c0_1, .int .i64 a0_2, .int .i64 a0_3, .int .i64 a0_4, .int .u32 a0_5] 50 ?_; intro Ac hg w8 hbox hb; have Aa := Am (hbox); have Ad := zA hg HB; replace HB := zB HB hb; have Ab := Ad; clear hb hbox hg; obtain ⟨_, _, _, _, _, _⟩ := bc6 Aa.out; obtain ⟨_, _, _, _, _, _⟩ := bf6 Aa.out))
  go_ret
  exact ⟨pX, pE HB.out Ab.out⟩
 rw [if_pos c3] at H
 obtain ⟨c3b0, c3b1⟩ := zc c3
 clear c3
 obtain ⟨t532, A4, H⟩ := zb H
 obtain rfl := Option.some.inj H
 go_enter Try.func71, Try.ntmps71
 go_wp2_with (first | ((with_reducible refine zD 1 rfl ?_); refine zE 1 #[.bool true, .slice A0_1 l0_1.length c0_1, .int .i64 a0_2, .int .i64 a0_3, .int .i64 a0_4, .int .u32 a0_5] 50 ?_; intro Ac hg w5 hbox hb; have Aa := Am (hbox); have Ad := zA hg HB; replace HB := zB HB hb; have Ab := Ad; clear hb hbox hg; obtain ⟨_, _, _, _, _, _⟩ := bc6 Aa.out; obtain ⟨_, _, _, _, _, _⟩ := bf6 Aa.out) | (go_at_call 81; (with_reducible refine (garnerref04_May.calls a0_2 a0_3 a0_4 a0_5 t532 _ A4.out).mono ?_); rintro e w7 ⟨rfl, hb⟩; replace Aa := kBa Aa hb; replace HB := zX1 HB Ab.out hb; (try clear hb)))
 go_ret
 exact ⟨pX, pE HB.out Ab.out⟩
def garnerref06_May.j0 : Nat → Bool → Int → Int → Int → ByteArray → Bool → List Int → Int → Int → Int → Int → Option (Bool)
 | 0, _, _, _, _, _, _, _, _, _, _, _ => none
 | k + 1, x32, x534000, x534001, x534002, x534003, x534004, x534005, x534006, x534007, x534008, x534009 => if x32 = true then (some false) else (if x534002 = 0 then (some (x534003.toList == ([] : List UInt8))) else (if x534002 = 2 then (if x534003.toList = ([] : List UInt8) then (some false) else ((garnerref05_Same.f k x534004 x534005 x534006 x534007 x534008 x534009 false ([] : List Int) 0 0 0 0).bind fun t535 => (some t535))) else (if x534002 = 1 then (some (x534003.toList != ([] : List UInt8))) else (some false))))
def garnerref06_May.f (k : Nat) (a0_0 : Int) (a0_1 : Int) (a0_2 : Int) (a0_3 : ByteArray) (a0_4 : Bool) (l0_5 : List Int) (a0_6 : Int) (a0_7 : Int) (a0_8 : Int) (a0_9 : Int) : Option (Bool) := if a0_0 < 1 then (garnerref06_May.j0 k true a0_0 a0_1 a0_2 a0_3 a0_4 l0_5 a0_6 a0_7 a0_8 a0_9) else (if a0_0 > 2147483647 then (garnerref06_May.j0 k true a0_0 a0_1 a0_2 a0_3 a0_4 l0_5 a0_6 a0_7 a0_8 a0_9) else (if a0_1 < 1 then (garnerref06_May.j0 k true a0_0 a0_1 a0_2 a0_3 a0_4 l0_5 a0_6 a0_7 a0_8 a0_9) else (if a0_1 > 2147483647 then (garnerref06_May.j0 k true a0_0 a0_1 a0_2 a0_3 a0_4 l0_5 a0_6 a0_7 a0_8 a0_9) else ((garnerref05_May.f a0_4 l0_5 a0_6 a0_7 a0_8 a0_9).bind fun t534 => (if t534 = true then (garnerref06_May.j0 k (decide ((a0_3.size : Int) > 64)) a0_0 a0_1 a0_2 a0_3 a0_4 l0_5 a0_6 a0_7 a0_8 a0_9) else (garnerref06_May.j0 k true a0_0 a0_1 a0_2 a0_3 a0_4 l0_5 a0_6 a0_7 a0_8 a0_9))))))
theorem garnerref06_May.mono_l : ∀ k, (∀ y0 y1 y2 y3 y4 y5 y6 y7 y8 y9 y10, LeO (garnerref06_May.j0 k y0 y1 y2 y3 y4 y5 y6 y7 y8 y9 y10) (garnerref06_May.j0 (k + 1) y0 y1 y2 y3 y4 y5 y6 y7 y8 y9 y10))
 | 0 => fun _ _ _ _ _ _ _ _ _ _ _ r h => by simp [garnerref06_May.j0] at h
 | k + 1 => by
  have ih0 := garnerref06_May.mono_l k
  ·intro y0 y1 y2 y3 y4 y5 y6 y7 y8 y9 y10
   unfold garnerref06_May.j0
   repeat' (with_reducible first | exact ih0 .. | exact garnerref05_Same.mono .. | exact LeO.refl .. | exact LeO.none .. | refine LeO.ite ?_ ?_ | refine LeO.bind ?_ (fun _ => ?_))
theorem garnerref06_May.mono : ∀ a0 a1 a2 a3 a4 a5 a6 a7 a8 a9 k, LeO (garnerref06_May.f k a0 a1 a2 a3 a4 a5 a6 a7 a8 a9) (garnerref06_May.f (k + 1) a0 a1 a2 a3 a4 a5 a6 a7 a8 a9) := by
 intro a0 a1 a2 a3 a4 a5 a6 a7 a8 a9 k
 have ih0 := garnerref06_May.mono_l k
 unfold garnerref06_May.f
 repeat' (with_reducible first | exact ih0 .. | exact garnerref05_Same.mono .. | exact LeO.refl .. | exact LeO.none .. | refine LeO.ite ?_ ?_ | refine LeO.bind ?_ (fun _ => ?_))
set_option maxRecDepth 100000 in
theorem garnerref06_May.calls (k : Nat) (a0_0 : Int) (a0_1 : Int) (a0_2 : Int) (a0_3 : ByteArray) (a0_4 : Bool) (A0_5 : Option Addr) (c0_5 : Nat) (l0_5 : List Int) (a0_6 : Int) (a0_7 : Int) (a0_8 : Int) (a0_9 : Int) (r : Bool) (w : World) (hr0_5 : Kd.C (Kd.int .u8) w A0_5 l0_5.length l0_5) (hc0_5 : l0_5.length ≤ c0_5) (h : garnerref06_May.f k a0_0 a0_1 a0_2 a0_3 a0_4 l0_5 a0_6 a0_7 a0_8 a0_9 = some r) :
 Calls Try.prog 54 #[.agg #[.int .i64 a0_0, .int .i64 a0_1, .int .i64 a0_2, .string a0_3, .bool a0_4, .slice A0_5 l0_5.length c0_5, .int .i64 a0_6, .int .i64 a0_7, .int .i64 a0_8, .int .u32 a0_9]] w fun e w' => e = .returned (.bool r) ∧ Below w.heap.size w w' := by
 have hu52 := Try.underlying52
 have hu50 := Try.underlying50
 have Af := Am hr0_5
 have Ag := Am hc0_5
 clear hr0_5 hc0_5
 have HB := Am (Below.refl w.heap.size w)
 unfold garnerref06_May.f at h
 have H := h
 clear h
 have HC2 := Am H
 clear H
 go_enter Try.func54, Try.ntmps54
 go_upto_region 1 with (first | ((with_reducible refine zD 1 rfl ?_); (try (refine gate_guard (by rfl) ?_; dsimp only)); refine zE 1 #[.int .i64 a0_0, .int .i64 a0_1, .int .i64 a0_2, .string a0_3, .bool a0_4, .slice A0_5 l0_5.length c0_5, .int .i64 a0_6, .int .i64 a0_7, .int .i64 a0_8, .int .u32 a0_9] 52 ?_; intro Cq hg w3 hbox hb; have Aa := Am (hbox); have Ef := zA hg HB; replace HB := zB HB hb; have Ab := Ef; clear hb hbox hg))
 (try simp only [Act.put, List.setIfInBounds_toArray, List.set_cons_zero, List.set_cons_succ])
 go_cut [32] (fun v32 wc => ∃ (kq : Nat) (Ae : Bool), v32 = .bool Ae ∧ Aside0 (garnerref06_May.j0 kq Ae a0_0 a0_1 a0_2 a0_3 a0_4 l0_5 a0_6 a0_7 a0_8 a0_9 = some r) ∧ Aside0 (kq ≤ k) ∧ Aside0 (wc.heap[Cq]? = some (.cells #[.int .i64 a0_0, .int .i64 a0_1, .int .i64 a0_2, .string a0_3, .bool a0_4, (.slice A0_5 l0_5.length c0_5), .int .i64 a0_6, .int .i64 a0_7, .int .i64 a0_8, .int .u32 a0_9] 52 (0, 0))) ∧ Aside0 (Below w.heap.size w wc))
 case first =>
  have H := HC2.out
  clear HC2
  by_cases c4 : a0_0 < 1
  ·rw [if_pos c4] at H
   have c4b0 := decide_eq_true c4
   clear c4
   (first | rw [c4b0] | (simp only [i64_w, i32_w]; rw [c4b0]) | skip)
   have H' := Am H
   clear H
   obtain ⟨Cr, Cs, Ct, Cu, Cv, Cw, Cx, Cy, Cz, C0⟩ := bc10 Aa.out
   obtain ⟨C1, C2, C3, C4, C5, C6, C7, C8, C9, Da⟩ := bf10 Aa.out
   go_wp2
   go_meet
   case rel => exact ⟨_, (true), zr, H', ⟨zo⟩, ⟨pK Aa.out⟩, ⟨pE HB.out Ab.out⟩⟩
  rw [if_neg c4] at H
  have c4b0 := decide_eq_false c4
  clear c4
  (first | rw [c4b0] | (simp only [i64_w, i32_w]; rw [c4b0]) | skip)
  by_cases c6 : a0_0 > 2147483647
  ·rw [if_pos c6] at H
   have c6b0 : decide (2147483647 < a0_0) = true := decide_eq_true c6
   clear c6
   have H' := Am H
   clear H
   obtain ⟨Db, Dc, Dd, De, Df, Dg, Dh, Di, Dj, Dk⟩ := bc10 Aa.out
   obtain ⟨Dl, Dm, Dn, Do, Dp, Dq, Dr, Ds, Dt, Du⟩ := bf10 Aa.out
   go_wp2
   go_meet
   case rel => exact ⟨_, (true), zr, H', ⟨zo⟩, ⟨pK Aa.out⟩, ⟨pE HB.out Ab.out⟩⟩
  rw [if_neg c6] at H
  have c6b0 : decide (2147483647 < a0_0) = false := decide_eq_false c6
  clear c6
  by_cases c8 : a0_1 < 1
  ·rw [if_pos c8] at H
   have c8b0 := decide_eq_true c8
   clear c8
   have H' := Am H
   clear H
   obtain ⟨Dv, Dw, Dx, Dy, Dz, D0, D1, D2, D3, D4⟩ := bc10 Aa.out
   obtain ⟨D5, D6, D7, D8, D9, Ea, Eb, Ec, Ed, Ee⟩ := bf10 Aa.out
   go_wp2
   go_meet
   case rel => exact ⟨_, (true), zr, H', ⟨zo⟩, ⟨pK Aa.out⟩, ⟨pE HB.out Ab.out⟩⟩
  rw [if_neg c8] at H
  have c8b0 := decide_eq_false c8
  clear c8
  by_cases c10 : a0_1 > 2147483647
  ·rw [if_pos c10] at H
   have c10b0 : decide (2147483647 < a0_1) = true := decide_eq_true c10
   clear c10
   have H' := Am H
   clear H
   obtain ⟨Ah, Ai, Aj, Ak, Al, An, Ao, Ap, Aq, Ar⟩ := bc10 Aa.out
   obtain ⟨As, At, Au, Av, Aw, Ax, Ay, Az, A0, A1⟩ := bf10 Aa.out
   go_wp2
   go_meet
   case rel => exact ⟨_, (true), zr, H', ⟨zo⟩, ⟨pK Aa.out⟩, ⟨pE HB.out Ab.out⟩⟩
  rw [if_neg c10] at H
  have c10b0 : decide (2147483647 < a0_1) = false := decide_eq_false c10
  clear c10
  obtain ⟨t534, A12, H⟩ := zb H
  by_cases c13 : t534 = true
  ·subst c13
   rw [if_pos rfl] at H
   have H' := Am H
   clear H
   obtain ⟨A2, A3, A4, A5, A6, A7, A8, A9, Ba, Bb⟩ := bc10 Aa.out
   obtain ⟨Bc, Bd, Be, Bf, Bg, Bh, Bi, Bj, Bk, Bl⟩ := bf10 Aa.out
   go_wp2_with (first | (go_at_call 71; (with_reducible refine (garnerref05_May.calls a0_4 _ _ l0_5 a0_6 a0_7 a0_8 a0_9 true _ ?Ac ?Ad A12.out).mono ?_); (case Ac => exact pC (Kd.C_below Af.out HB.out)); (case Ad => exact Ag.out); rintro e w15 ⟨rfl, hb⟩; replace Aa := kBa Aa hb; replace HB := zX1 HB Ab.out hb; (try clear hb); obtain ⟨Bm, Bn, Bo, Bp, Bq, Br, Bs, Bt, Bu, Bv⟩ := bc10 Aa.out; obtain ⟨Bw, Bx, By, Bz, B0, B1, B2, B3, B4, B5⟩ := bf10 Aa.out))
   go_meet
   case rel => exact ⟨_, (decide ((a0_3.size : Int) > 64)), zr, H', ⟨zo⟩, ⟨pK Aa.out⟩, ⟨pE HB.out Ab.out⟩⟩
  replace c13 := Bool.eq_false_iff.mpr c13
  subst c13
  rw [if_neg zF] at H
  have H' := Am H
  clear H
  obtain ⟨B6, B7, B8, B9, Ca, Cb, Cc, Cd, Ce, Cf⟩ := bc10 Aa.out
  obtain ⟨Cg, Ch, Ci, Cj, Ck, Cl, Cm, Cn, Co, Cp⟩ := bf10 Aa.out
  go_wp2_with (first | (go_at_call 71; (with_reducible refine (garnerref05_May.calls a0_4 _ _ l0_5 a0_6 a0_7 a0_8 a0_9 false _ ?Ac ?Ad A12.out).mono ?_); (case Ac => exact pC (Kd.C_below Af.out HB.out)); (case Ad => exact Ag.out); rintro e w18 ⟨rfl, hb⟩; replace Aa := kBa Aa hb; replace HB := zX1 HB Ab.out hb; (try clear hb)))
  go_meet
  case rel => exact ⟨_, (true), zr, H', ⟨zo⟩, ⟨pK Aa.out⟩, ⟨pE HB.out Ab.out⟩⟩
 case rest =>
  clear HC2
  try clear c1
  try clear p2
  try clear c4
  try clear c4b0
  try clear c5
  try clear c6
  try clear c6b0
  try clear c8
  try clear c8b0
  try clear c10
  try clear c10b0
  try clear c13
  try clear Ah Ai Aj Ak Al An Ao Ap Aq Ar
  try clear A2 A3 A4 A5 A6 A7 A8 A9 Ba Bb
  try clear Bm Bn Bo Bp Bq Br Bs Bt Bu Bv
  try clear B6 B7 B8 B9 Ca Cb Cc Cd Ce Cf
  try clear Cr Cs Ct Cu Cv Cw Cx Cy Cz C0
  try clear Db Dc Dd De Df Dg Dh Di Dj Dk
  try clear Dv Dw Dx Dy Dz D0 D1 D2 D3 D4
  try clear As At Au Av Aw Ax Ay Az A0 A1
  try clear Bc Bd Be Bf Bg Bh Bi Bj Bk Bl
  try clear Bw Bx By Bz B0 B1 B2 B3 B4 B5
  try clear Cg Ch Ci Cj Ck Cl Cm Cn Co Cp
  try clear C1 C2 C3 C4 C5 C6 C7 C8 C9 Da
  try clear Dl Dm Dn Do Dp Dq Dr Ds Dt Du
  try clear D5 D6 D7 D8 D9 Ea Eb Ec Ed Ee
  obtain ⟨kq, Ae, rfl, HA, HJ1, Aa, HB⟩ := hcut
  cases kq with
  | zero => exact absurd HA.out (by simp [garnerref06_May.j0])
  | succ kj1 =>
   have H := HA.out
   clear HA
   simp only [garnerref06_May.j0] at H
   by_cases c19 : Ae = true
   ·subst c19
    rw [if_pos rfl] at H
    obtain rfl := Option.some.inj H
    go_wp2
    go_ret
    exact ⟨pX, pE HB.out Ab.out⟩
   replace c19 := Bool.eq_false_iff.mpr c19
   subst c19
   rw [if_neg zF] at H
   by_cases c20 : a0_2 = 0
   ·rw [if_pos c20] at H
    obtain ⟨c20b0, c20b1⟩ := zc c20
    clear c20
    obtain rfl := Option.some.inj H
    obtain ⟨_, _, _, _, _, _, _, _, _, _⟩ := bc10 Aa.out
    obtain ⟨_, _, _, _, _, _, _, _, _, _⟩ := bf10 Aa.out
    go_wp2
    go_ret
    exact ⟨pX, pE HB.out Ab.out⟩
   rw [if_neg c20] at H
   obtain ⟨c20b0, c20b1⟩ := zk c20
   by_cases c22 : a0_2 = 2
   rotate_left
   ·rw [if_neg c22] at H
    obtain ⟨c22b0, c22b1⟩ := zk c22
    by_cases c28 : a0_2 = 1
    ·rw [if_pos c28] at H
     obtain ⟨c28b0, c28b1⟩ := zc c28
     clear c28
     obtain rfl := Option.some.inj H
     obtain ⟨_, _, _, _, _, _, _, _, _, _⟩ := bc10 Aa.out
     obtain ⟨_, _, _, _, _, _, _, _, _, _⟩ := bf10 Aa.out
     go_wp2
     go_ret
     exact ⟨pX, pE HB.out Ab.out⟩
    rw [if_neg c28] at H
    obtain ⟨c28b0, c28b1⟩ := zk c28
    obtain rfl := Option.some.inj H
    obtain ⟨_, _, _, _, _, _, _, _, _, _⟩ := bc10 Aa.out
    obtain ⟨_, _, _, _, _, _, _, _, _, _⟩ := bf10 Aa.out
    go_wp2
    go_ret
    exact ⟨pX, pE HB.out Ab.out⟩
   rw [if_pos c22] at H
   obtain ⟨c22b0, c22b1⟩ := zc c22
   clear c22
   by_cases c23 : a0_3.toList = ([] : List UInt8)
   ·rw [if_pos c23] at H
    obtain ⟨c23b0, c23b1⟩ := zc c23
    clear c23
    obtain rfl := Option.some.inj H
    obtain ⟨_, _, _, _, _, _, _, _, _, _⟩ := bc10 Aa.out
    obtain ⟨_, _, _, _, _, _, _, _, _, _⟩ := bf10 Aa.out
    go_wp2
    go_ret
    exact ⟨pX, pE HB.out Ab.out⟩
   rw [if_neg c23] at H
   obtain ⟨c23b0, c23b1⟩ := zk c23
   obtain ⟨t535, A25, H⟩ := zb H
   obtain rfl := Option.some.inj H
   obtain ⟨_, _, _, _, _, _, _, _, _, _⟩ := bc10 Aa.out
   obtain ⟨_, _, _, _, _, _, _, _, _, _⟩ := bf10 Aa.out
   go_wp2_with (first | (go_at_call 49; (refine (garnerref05_Same.calls kj1 a0_4 _ _ l0_5 a0_6 a0_7 a0_8 a0_9 false _ _ ([] : List Int) 0 0 0 0 t535 _ ?Ac ?Ad ?Eg ?Eh A25.out).mono ?_); (case Ac => exact pC (Kd.C_below Af.out HB.out)); (case Ad => exact Ag.out); (case Eg => exact Kd.C_nil _ _); (case Eh => exact Nat.le_refl _); rintro e w27 ⟨rfl, hb⟩; replace Aa := kBa Aa hb; replace HB := zX1 HB Ab.out hb; (try clear hb)))
   go_ret
   exact ⟨pX, pE HB.out Ab.out⟩
end
end Go.Proofs.Ytdanmjfkocjgjaa.PWalPuts
