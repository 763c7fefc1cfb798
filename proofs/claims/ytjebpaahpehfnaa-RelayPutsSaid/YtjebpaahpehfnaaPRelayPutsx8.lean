/- What the law reaches, as plain Lean functions, and that the machine's calls answer just that. -/
import Derived.Test.YtjebpaahpehfnaaPRelayPutsx0
import Derived.Test.YtjebpaahpehfnaaPRelayPutsx2
import Derived.Test.YtjebpaahpehfnaaPRelayPutsx4
namespace Go.Proofs.Ytjebpaahpehfnaa.PRelayPuts
open Go.RowKit Go.Proofs.YtjebpaahpehfnaaW.PrintWords Go.Proofs.YtjebpaahpehfnaaW.PrintLast Go.Proofs.YtjebpaahpehfnaaW.PrintMore
attribute [local go_sem] max2_int min2_int max_two min_two max_three min_three max_four min_four
set_option linter.unusedVariables false
set_option linter.unusedSimpArgs false
attribute [local go_sem] wrap64_l1 wrap64_l2 wrap64_l3 wrap64_l4 wrap64_l5
mutual
def varint_Put.l0 : Nat → List Int → List Int → Int → Int → Option (List Int)
 | 0, _, _, _, _ => none
 | k + 1, x3, x6, x7, x8 => if x8 < x7 then (if 0 ≤ x8 then (if x8 < (x6.length : Int) then (varint_Put.l1 k x3 (rd x6 x8) x6 x7 x8) else (none)) else (none)) else (some x3)
def varint_Put.l1 : Nat → List Int → Int → List Int → Int → Int → Option (List Int)
 | 0, _, _, _, _, _ => none
 | k + 1, x3, x5, x6, x7, x8 => if x5 ≥ 128 then (if x3.length < 140737488355328 then (varint_Put.l1 k (x3 ++ [Go.bits .or .u8 ((x5) % 256) 128]) (x5 / 128) x6 x7 x8) else (none)) else (if x3.length < 140737488355328 then (varint_Put.l0 k (x3 ++ [(x5) % 256]) x6 x7 (wrap64 (x8 + 1))) else (none))
end
def varint_Put.f (k : Nat) (l0 : List Int) : Option (List Int) := varint_Put.l0 k ([] : List Int) l0 (l0.length : Int) 0
theorem varint_Put.mono_l : ∀ k, (∀ y0 y1 y2 y3, LeO (varint_Put.l0 k y0 y1 y2 y3) (varint_Put.l0 (k + 1) y0 y1 y2 y3)) ∧ (∀ y0 y1 y2 y3 y4, LeO (varint_Put.l1 k y0 y1 y2 y3 y4) (varint_Put.l1 (k + 1) y0 y1 y2 y3 y4))
 | 0 => ⟨fun _ _ _ _ r h => by simp [varint_Put.l0] at h, fun _ _ _ _ _ r h => by simp [varint_Put.l1] at h⟩
 | k + 1 => by
  obtain ⟨ih0, ih1⟩ := varint_Put.mono_l k
  refine ⟨?_, ?_⟩
  ·intro y0 y1 y2 y3
   unfold varint_Put.l0
   repeat' first
   | (with_reducible exact ih0 _ _ _ _)
   | (with_reducible exact ih1 _ _ _ _ _)
   | (with_reducible exact LeO.refl _)
   | (with_reducible exact LeO.none _)
   | (with_reducible refine LeO.ite ?_ ?_)
   | (with_reducible refine LeO.bind ?_ (fun _ => ?_))
   | exact ih0 _ _ _ _
   | exact ih1 _ _ _ _ _
   | exact LeO.none _
   | refine LeO.ite ?_ ?_
   | refine LeO.bind ?_ (fun _ => ?_)
  ·intro y0 y1 y2 y3 y4
   unfold varint_Put.l1
   repeat' first
   | (with_reducible exact ih0 _ _ _ _)
   | (with_reducible exact ih1 _ _ _ _ _)
   | (with_reducible exact LeO.refl _)
   | (with_reducible exact LeO.none _)
   | (with_reducible refine LeO.ite ?_ ?_)
   | (with_reducible refine LeO.bind ?_ (fun _ => ?_))
   | exact ih0 _ _ _ _
   | exact ih1 _ _ _ _ _
   | exact LeO.none _
   | refine LeO.ite ?_ ?_
   | refine LeO.bind ?_ (fun _ => ?_)
theorem varint_Put.mono : ∀ a0 k, LeO (varint_Put.f k a0) (varint_Put.f (k + 1) a0) := by
 intro a0 k
 obtain ⟨ih0, ih1⟩ := varint_Put.mono_l k
 unfold varint_Put.f
 repeat' first
   | (with_reducible exact ih0 _ _ _ _)
   | (with_reducible exact ih1 _ _ _ _ _)
   | (with_reducible exact LeO.refl _)
   | (with_reducible exact LeO.none _)
   | (with_reducible refine LeO.ite ?_ ?_)
   | (with_reducible refine LeO.bind ?_ (fun _ => ?_))
   | exact ih0 _ _ _ _
   | exact ih1 _ _ _ _ _
   | exact LeO.none _
   | refine LeO.ite ?_ ?_
   | refine LeO.bind ?_ (fun _ => ?_)
set_option maxHeartbeats 8000000 in
set_option maxRecDepth 100000 in
theorem varint_Put.calls (k : Nat) (A0 : Option Addr) (c0 : Nat) (l0 : List Int) (r : List Int) (w : World) (hr0 : Kd.C (Kd.int .u64) w A0 l0.length l0) (hc0 : l0.length ≤ c0) (h : varint_Put.f k l0 = some r) :
  Calls Try.prog 24 #[.slice A0 l0.length c0] w fun e w' => ∃ v0_ : Value, e = .returned (v0_) ∧ Kd.R (Kd.int .u8) 5 w' w.heap.size (fun _ => True) v0_ r ∧ Below w.heap.size w w' := by
 have HR0 := Am hr0
 have HC0 := Am hc0
 clear hr0 hc0
 have HB := Am (Below.refl w.heap.size w)
 have H : (varint_Put.l0 k ([] : List Int) l0 (l0.length : Int) 0) = some r := h
 clear h
 have H' := Am H
 clear H
 go_enter Try.func24, Try.ntmps24
 go_wp2
 go_loopg [3, 8] k (fun kq v3 v8 w' => ∃ (Af : List Int) (Aa : Int), v8 = .int .i64 Aa ∧ Aside0 (varint_Put.l0 kq Af l0 (l0.length : Int) Aa = some r) ∧ Aside0 (kq ≤ k) ∧ Aside0 (Kd.R (Kd.int .u8) 5 w' w.heap.size (fun _ => True) v3 Af) ∧ Aside0 (Below w.heap.size w w'))
 case atStart => exact ⟨(([] : List Int)), (0), (by first | rfl | (simp; done) | (simp [*]; done)), H', ⟨Nat.le_refl _⟩, ⟨by first | exact Kd.R_nil _ _ _ _ _ | exact Kd.N_nil _ _ _ _ _ | exact Kd.V_nil _ _ _ _ _ | exact Kd.Q_nil _ _ _ _ _ | exact Kd.S_nil _ _ _ _ _⟩, ⟨pB HB.out⟩⟩
 case round =>
  clear H'
  obtain ⟨Af, Aa, rfl, HA, HK1, Ae, HB⟩ := hrel
  cases gk with
  | zero => exact absurd HA.out (by simp [varint_Put.l0])
  | succ k1 =>
   have H := HA.out
   clear HA
   simp only [varint_Put.l0] at H
   by_cases c2 : Aa < (l0.length : Int)
   rotate_left
   ·rw [if_neg c2] at H
    have c2b0 : decide (Aa < (l0.length : Int)) = false := decide_eq_false c2
    clear c2
    obtain rfl := Option.some.inj H
    go_wp2
    go_ret
    exact ⟨_, pX, by (with_reducible repeat (first | apply Kd.R_alloc | apply Kd.R_drewN | apply Kd.R_drew)); exact Ae.out, pB HB.out⟩
   rw [if_pos c2] at H
   have c2b0 : decide (Aa < (l0.length : Int)) = true := decide_eq_true c2
   clear c2
   by_cases c3 : 0 ≤ Aa
   rotate_left
   ·rw [if_neg c3] at H
    exact absurd H (by simp)
   rw [if_pos c3] at H
   have c3b0 : decide (0 ≤ Aa) = true := decide_eq_true c3
   clear c3
   by_cases c4 : Aa < (l0.length : Int)
   rotate_left
   ·rw [if_neg c4] at H
    exact absurd H (by simp)
   rw [if_pos c4] at H
   have c4b0 : decide (Aa < (l0.length : Int)) = true := decide_eq_true c4
   clear c4
   have H' := Am H
   clear H
   have p224 : 0 ≤ (Aa : Int) := of_decide_eq_true pS
   have q224 : Aa < (l0.length : Int) := of_decide_eq_true pS
   obtain ⟨ad224, e224, Ad⟩ := Kd.at_int HR0.out Aa p224 q224
   cases e224
   replace Ad := cU HB.out Ad
   replace p224 := eq_true p224
   replace q224 := eq_true q224
   go_wp2
   go_loopg [3, 5] k1 (fun kq v3 v5 w' => ∃ (Ac : List Int) (Ab : Int), v5 = .int .u64 Ab ∧ Aside0 (varint_Put.l1 kq Ac Ab l0 (l0.length : Int) Aa = some r) ∧ Aside0 (kq ≤ k1) ∧ Aside0 (Kd.R (Kd.int .u8) 5 w' w.heap.size (fun _ => True) v3 Ac) ∧ Aside0 (Below w.heap.size w w'))
   case atStart => exact ⟨(Af), (rd l0 Aa), (by first | rfl | (simp; done) | (simp [*]; done)), H', ⟨Nat.le_refl _⟩, ⟨by (with_reducible repeat (first | apply Kd.R_alloc | apply Kd.R_drewN | apply Kd.R_drew)); exact Ae.out⟩, ⟨pB HB.out⟩⟩
   case round =>
    clear H'
    try clear c2
    try clear c2b0
    try clear p2
    try clear q2
    try clear hx2
    try clear c3
    try clear c3b0
    try clear c4
    try clear c4b0
    try clear Ad
    try clear p224
    try clear q224
    obtain ⟨Ac, Ab, rfl, HA, HK2, Ae, HB⟩ := hrel
    cases gk with
    | zero => exact absurd HA.out (by simp [varint_Put.l1])
    | succ k2 =>
     have H := HA.out
     clear HA
     simp only [varint_Put.l1] at H
     by_cases c5 : Ab ≥ 128
     ·rw [if_pos c5] at H
      have c5b0 : decide (128 ≤ Ab) = true := decide_eq_true c5
      clear c5
      by_cases c6 : Ac.length < 140737488355328
      rotate_left
      ·rw [if_neg c6] at H
       exact absurd H (by simp)
      rw [if_pos c6] at H
      have LMc6 := Am c6
      clear c6
      obtain ⟨y225, hy225⟩ : ∃ y_ : List Int, y_ = (Ac ++ [Go.bits .or .u8 ((Ab) % 256) 128]) := ⟨_, rfl⟩
      replace H : (varint_Put.l1 k2 y225 (Ab / 128) l0 (l0.length : Int) Aa) = some r := by first | (rw [hy225]; with_reducible exact H) | (have H2_ := (Option.bind_some _ _).symm.trans H; rw [hy225]; with_reducible exact H2_) | (have H2_ := (Option.bind_some _ _).symm.trans H; with_reducible exact H2_) | with_reducible exact H | (rw [hy225]; exact H) | exact H
      have Ny225 := Am hy225
      clear hy225
      have H' := Am H
      clear H
      go_wp2_with (first | ((with_reducible refine gate_builtin (b := .append) (xs := #[.tmp 14, .tmp 18]) rfl ?_); at_builtin; refine Kd.R_append (Kd.int .u8) (w0 := w) w.heap.size rfl (.tmp 14) (.tmp 18) 22 5 (.int .u8 0) 1 rfl Try.underlying22 info5 rfl (by decide) (by omega) u3 Ac (Go.bits .or .u8 ((Ab) % 256) 128) [.int .u8 (Go.bits .or .u8 ((Ab) % 256) 128)] (fun _ => True) (fun _ => False) rfl rfl ?aP (fun _ hk => hk.elim) ?aF ?aO ?aB ?aS ?aL ?_; (case aP => exact rfl); (case aB => exact (pB HB.out)); (case aF => exact (fun _ _ => trivial)); (case aO => exact (pR Ae.out)); (case aS => exact (below_size (pB HB.out))); (case aL => have := LMc6.out; omega); intro v226 w7 ho hb hg hat; rw [← Ny225.out] at ho; replace HB := Am (hb); have Ag := Am (ho); clear Ae ho hb hg hat))
      go_roundg k2
      case measure => have := HK1.out; have := HK2.out; omega
      case rel => exact ⟨(y225), (Ab / 128), (by first | rfl | (simp; done) | (simp [*]; done)), H', ⟨by have := HK1.out; have := HK2.out; omega⟩, ⟨by (with_reducible repeat (first | apply Kd.R_alloc | apply Kd.R_drewN | apply Kd.R_drew)); exact Ag.out⟩, ⟨pB HB.out⟩⟩
     rw [if_neg c5] at H
     have c5b0 : decide (128 ≤ Ab) = false := decide_eq_false c5
     clear c5
     by_cases c8 : Ac.length < 140737488355328
     rotate_left
     ·rw [if_neg c8] at H
      exact absurd H (by simp)
     rw [if_pos c8] at H
     have LMc8 := Am c8
     clear c8
     obtain ⟨y228, hy228⟩ : ∃ y_ : List Int, y_ = (Ac ++ [(Ab) % 256]) := ⟨_, rfl⟩
     replace H : (varint_Put.l0 k2 y228 l0 (l0.length : Int) (wrap64 (Aa + 1))) = some r := by first | (rw [hy228]; with_reducible exact H) | (have H2_ := (Option.bind_some _ _).symm.trans H; rw [hy228]; with_reducible exact H2_) | (have H2_ := (Option.bind_some _ _).symm.trans H; with_reducible exact H2_) | with_reducible exact H | (rw [hy228]; exact H) | exact H
     have Ny228 := Am hy228
     clear hy228
     have H' := Am H
     clear H
     go_wp2_with (first | ((with_reducible refine gate_builtin (b := .append) (xs := #[.tmp 22, .tmp 25]) rfl ?_); at_builtin; refine Kd.R_append (Kd.int .u8) (w0 := w) w.heap.size rfl (.tmp 22) (.tmp 25) 22 5 (.int .u8 0) 1 rfl Try.underlying22 info5 rfl (by decide) (by omega) u3 Ac ((Ab) % 256) [.int .u8 ((Ab) % 256)] (fun _ => True) (fun _ => False) rfl rfl ?aP (fun _ hk => hk.elim) ?aF ?aO ?aB ?aS ?aL ?_; (case aP => exact rfl); (case aB => exact (pB HB.out)); (case aF => exact (fun _ _ => trivial)); (case aO => exact (pR Ae.out)); (case aS => exact (below_size (pB HB.out))); (case aL => have := LMc8.out; omega); intro v229 w9 ho hb hg hat; rw [← Ny228.out] at ho; replace HB := Am (hb); have Ah := Am (ho); clear Ae ho hb hg hat))
     go_roundg k2
     case measure => have := HK1.out; have := HK2.out; omega
     case rel => exact ⟨(y228), (wrap64 (Aa + 1)), (by first | rfl | (simp; done) | (simp [*]; done)), H', ⟨by have := HK1.out; have := HK2.out; omega⟩, ⟨by (with_reducible repeat (first | apply Kd.R_alloc | apply Kd.R_drewN | apply Kd.R_drew)); exact Ah.out⟩, ⟨pB HB.out⟩⟩
def point_Put.f (k : Nat) (a0_0 : Int) (a0_1 : Int) (a0_2 : Int) (a0_3 : Int) : Option (List Int × Int) := (point_Check.f a0_0 a0_1 a0_2 a0_3).bind fun t232 => (if t232 = 0 then ((varint_Put.f k (([IntKind.u64.wrap (a0_0), IntKind.u64.wrap (a0_1), IntKind.u64.wrap (a0_2)] : List Int))).bind fun t236 => ((some (([(a0_3) % 256, (a0_3 / 256) % 256, (a0_3 / 65536) % 256, (a0_3 / 16777216) % 256] : List Int) : List Int)).bind fun y239 => (if t236.length + y239.length < 140737488355328 then (some ((t236 ++ y239), 0)) else (none)))) else (some (([] : List Int), t232)))
theorem point_Put.mono : ∀ a0 a1 a2 a3 k, LeO (point_Put.f k a0 a1 a2 a3) (point_Put.f (k + 1) a0 a1 a2 a3) := by
 intro a0 a1 a2 a3 k
 unfold point_Put.f
 repeat' first
   | (with_reducible exact varint_Put.mono _ _)
   | (with_reducible exact LeO.refl _)
   | (with_reducible exact LeO.none _)
   | (with_reducible refine LeO.ite ?_ ?_)
   | (with_reducible refine LeO.bind ?_ (fun _ => ?_))
   | exact varint_Put.mono _ _
   | exact LeO.none _
   | refine LeO.ite ?_ ?_
   | refine LeO.bind ?_ (fun _ => ?_)
set_option maxHeartbeats 8000000 in
set_option maxRecDepth 100000 in
theorem point_Put.calls (k : Nat) (a0_0 : Int) (a0_1 : Int) (a0_2 : Int) (a0_3 : Int) (r1 : List Int) (r2 : Int) (w : World) (h : point_Put.f k a0_0 a0_1 a0_2 a0_3 = some (r1, r2)) :
  Calls Try.prog 25 #[.agg #[.int .i64 a0_0, .int .i64 a0_1, .int .i64 a0_2, .int .u32 a0_3]] w fun e w' => ∃ v0_ : Value, e = .returned (.tuple #[v0_, .int .i64 r2]) ∧ Kd.R (Kd.int .u8) 5 w' w.heap.size (fun _ => True) v0_ r1 ∧ Below w.heap.size w w' := by
 have hu44 := Try.underlying44
 have HB := Am (Below.refl w.heap.size w)
 have H : ((point_Check.f a0_0 a0_1 a0_2 a0_3).bind fun t232 => (if t232 = 0 then ((varint_Put.f k (([IntKind.u64.wrap (a0_0), IntKind.u64.wrap (a0_1), IntKind.u64.wrap (a0_2)] : List Int))).bind fun t236 => ((some (([(a0_3) % 256, (a0_3 / 256) % 256, (a0_3 / 65536) % 256, (a0_3 / 16777216) % 256] : List Int) : List Int)).bind fun y239 => (if t236.length + y239.length < 140737488355328 then (some ((t236 ++ y239), 0)) else (none)))) else (some (([] : List Int), t232)))) = some (r1, r2) := h
 clear h
 replace H := Option.bind_eq_some_iff.mp H
 obtain ⟨t232, A20, H⟩ := H
 replace H : (if t232 = 0 then ((varint_Put.f k (([IntKind.u64.wrap (a0_0), IntKind.u64.wrap (a0_1), IntKind.u64.wrap (a0_2)] : List Int))).bind fun t236 => ((some (([(a0_3) % 256, (a0_3 / 256) % 256, (a0_3 / 65536) % 256, (a0_3 / 16777216) % 256] : List Int) : List Int)).bind fun y239 => (if t236.length + y239.length < 140737488355328 then (some ((t236 ++ y239), 0)) else (none)))) else (some (([] : List Int), t232))) = some (r1, r2) := H
 have A2 := Am A20
 clear A20
 by_cases c3 : t232 = 0
 rotate_left
 ·rw [if_neg c3] at H
  have c3b0 : (t232 == 0) = false := beq_eq_false_iff_ne.mpr c3
  have c3b1 : (t232 != 0) = true := bne_iff_ne.mpr c3
  simp only [Option.some.injEq, Prod.mk.injEq] at H
  obtain ⟨rfl, rfl⟩ := H
  go_enter Try.func25, Try.ntmps25
  go_wp2_with (first | ((with_reducible refine gate_dst (N := 1) rfl ?_); refine box_event ?hg (N := 1) ?hd (cs := #[.int .i64 a0_0, .int .i64 a0_1, .int .i64 a0_2, .int .u32 a0_3]) (t := 44) ?hr ?_; (case hd => rfl); (case hg => rfl); (case hr => first | (go_simp; done) | (go_simp; rfl)); intro Af hg w19 hbox hb; have Aa := Am (hbox); have Ag := Am ((by rw [hg]; exact (below_size (pB HB.out)) : w.heap.size ≤ Af)); replace HB := Am (below_step (pB HB.out) hb); have Ab := Ag; clear hb hbox hg; obtain ⟨_, _, _, _⟩ := bc4 Aa.out; obtain ⟨_, _, _, _⟩ := bf4 Aa.out) | ((with_reducible refine gate_callee (f := 34) rfl ?_); refine goesL_ (some 7) rfl rfl Try.func34 (by kernel_rfl) rfl #[.agg #[.int .i64 a0_0, .int .i64 a0_1, .int .i64 a0_2, .int .u32 a0_3]] rfl pL ?_; (with_reducible refine (point_Check.calls a0_0 a0_1 a0_2 a0_3 t232 _ A2.out).mono ?_); rintro e w21 ⟨rfl, hb⟩; refine ⟨_, rfl, ?_⟩; replace Aa := kBa Aa hb; replace HB := Am (below_step (pE HB.out Ab.out) hb); (try clear hb); (try clear hb2); (try clear hk); (try clear hi)))
  go_ret2
  exact ⟨_, pX, by first | exact Kd.R_nil _ _ _ _ _ | exact Kd.N_nil _ _ _ _ _ | exact Kd.V_nil _ _ _ _ _ | exact Kd.Q_nil _ _ _ _ _ | exact Kd.S_nil _ _ _ _ _, pE HB.out Ab.out⟩
 rw [if_pos c3] at H
 have c3b0 : (t232 == 0) = true := beq_iff_eq.mpr c3
 have c3b1 : (t232 != 0) = false := bne_eq_false_iff_eq.mpr c3
 clear c3
 obtain ⟨y233, hy233⟩ : ∃ y_ : List Int, y_ = (([IntKind.u64.wrap (a0_0), IntKind.u64.wrap (a0_1), IntKind.u64.wrap (a0_2)] : List Int)) := ⟨_, rfl⟩
 replace H : ((varint_Put.f k y233).bind fun t236 => ((some (([(a0_3) % 256, (a0_3 / 256) % 256, (a0_3 / 65536) % 256, (a0_3 / 16777216) % 256] : List Int) : List Int)).bind fun y239 => (if t236.length + y239.length < 140737488355328 then (some ((t236 ++ y239), 0)) else (none)))) = some (r1, r2) := by first | (rw [hy233]; with_reducible exact H) | (have H2_ := (Option.bind_some _ _).symm.trans H; rw [hy233]; with_reducible exact H2_) | (have H2_ := (Option.bind_some _ _).symm.trans H; with_reducible exact H2_) | with_reducible exact H | (rw [hy233]; exact H) | exact H
 have Ny233 := Am hy233
 clear hy233
 replace H := Option.bind_eq_some_iff.mp H
 obtain ⟨t236, A40, H⟩ := H
 replace H : ((some (([(a0_3) % 256, (a0_3 / 256) % 256, (a0_3 / 65536) % 256, (a0_3 / 16777216) % 256] : List Int) : List Int)).bind fun y239 => (if t236.length + y239.length < 140737488355328 then (some ((t236 ++ y239), 0)) else (none))) = some (r1, r2) := H
 have A4 := Am A40
 clear A40
 obtain ⟨y239, hy239⟩ : ∃ y_ : List Int, y_ = (([(a0_3) % 256, (a0_3 / 256) % 256, (a0_3 / 65536) % 256, (a0_3 / 16777216) % 256] : List Int)) := ⟨_, rfl⟩
 replace H : (if t236.length + y239.length < 140737488355328 then (some ((t236 ++ y239), 0)) else (none)) = some (r1, r2) := by first | (rw [hy239]; with_reducible exact H) | (have H2_ := (Option.bind_some _ _).symm.trans H; rw [hy239]; with_reducible exact H2_) | (have H2_ := (Option.bind_some _ _).symm.trans H; with_reducible exact H2_) | with_reducible exact H | (rw [hy239]; exact H) | exact H
 have Ny239 := Am hy239
 clear hy239
 by_cases c5 : t236.length + y239.length < 140737488355328
 rotate_left
 ·rw [if_neg c5] at H
  exact absurd H (by simp)
 rw [if_pos c5] at H
 have LMc5 := Am c5
 clear c5
 obtain ⟨y242, hy242⟩ : ∃ y_ : List Int, y_ = (t236 ++ y239) := ⟨_, rfl⟩
 replace H : (some (y242, 0)) = some (r1, r2) := by first | (rw [hy242]; with_reducible exact H) | (have H2_ := (Option.bind_some _ _).symm.trans H; rw [hy242]; with_reducible exact H2_) | (have H2_ := (Option.bind_some _ _).symm.trans H; with_reducible exact H2_) | with_reducible exact H | (rw [hy242]; exact H) | exact H
 have Ny242 := Am hy242
 clear hy242
 simp only [Option.some.injEq, Prod.mk.injEq] at H
 obtain ⟨rfl, rfl⟩ := H
 go_enter Try.func25, Try.ntmps25
 go_wp2_with (first | ((with_reducible refine gate_dst (N := 1) rfl ?_); refine box_event ?hg (N := 1) ?hd (cs := #[.int .i64 a0_0, .int .i64 a0_1, .int .i64 a0_2, .int .u32 a0_3]) (t := 44) ?hr ?_; (case hd => rfl); (case hg => rfl); (case hr => first | (go_simp; done) | (go_simp; rfl)); intro Af hg w6 hbox hb; have Aa := Am (hbox); have Ag := Am ((by rw [hg]; exact (below_size (pB HB.out)) : w.heap.size ≤ Af)); replace HB := Am (below_step (pB HB.out) hb); have Ab := Ag; clear hb hbox hg; obtain ⟨_, _, _, _⟩ := bc4 Aa.out; obtain ⟨_, _, _, _⟩ := bf4 Aa.out) | ((with_reducible refine gate_callee (f := 34) rfl ?_); refine goesL_ (some 7) rfl rfl Try.func34 (by kernel_rfl) rfl #[.agg #[.int .i64 a0_0, .int .i64 a0_1, .int .i64 a0_2, .int .u32 a0_3]] rfl pL ?_; (with_reducible refine (point_Check.calls a0_0 a0_1 a0_2 a0_3 t232 _ A2.out).mono ?_); rintro e w8 ⟨rfl, hb⟩; refine ⟨_, rfl, ?_⟩; replace Aa := kBa Aa hb; replace HB := Am (below_step (pE HB.out Ab.out) hb); (try clear hb); (try clear hb2); (try clear hk); (try clear hi); obtain ⟨_, _, _, _⟩ := bc4 Aa.out; obtain ⟨_, _, _, _⟩ := bf4 Aa.out) | ((with_reducible refine gate_dst (N := 20) rfl ?_); refine Kd.R_lit (Kd.int .u64) _ 56 ?hg (N := 20) ?hd (xs := ([IntKind.u64.wrap (a0_0), IntKind.u64.wrap (a0_1), IntKind.u64.wrap (a0_2)] : List Int)) (inner := [.int .u64 (IntKind.u64.wrap (a0_0)), .int .u64 (IntKind.u64.wrap (a0_1)), .int .u64 (IntKind.u64.wrap (a0_2))]) (ok := fun _ => True) (okp := fun _ => True) ?hr ?hp (fun _ hk => hk) trivial (Below.refl _ _) (Nat.le_refl _) (by simp) ?_; (case hd => rfl); (case hg => rfl); (case hr => first | (go_simp; done) | (go_simp; rfl)); (case hp => exact (Reps.one (show Kd.M (Kd.int .u64) _ _ _ (IntKind.u64.wrap (a0_0)) [.int .u64 (IntKind.u64.wrap (a0_0))] from rfl) (Reps.one (show Kd.M (Kd.int .u64) _ _ _ (IntKind.u64.wrap (a0_1)) [.int .u64 (IntKind.u64.wrap (a0_1))] from rfl) (Reps.one (show Kd.M (Kd.int .u64) _ _ _ (IntKind.u64.wrap (a0_2)) [.int .u64 (IntKind.u64.wrap (a0_2))] from rfl) (Reps.none _ _))))); intro v234 w10 ho11 hb hg_ hnew_; clear hg_ hnew_; (first | rw [← Ny233.out] at ho11 | (simp only [Int.reduceToNat] at ho11; rw [← Ny233.out] at ho11)); have Ac := Am (Kd.R_lower ho11 (below_size (pE HB.out Ab.out))); replace Aa := kBa Aa hb; replace HB := Am (below_step (pE HB.out Ab.out) hb); clear hb ho11; obtain ⟨Ak, Al, An⟩ := Kd.R_slice Ac.out; subst An) | ((with_reducible refine gate_callee (f := 24) rfl ?_); refine goesL_ (some 21) rfl rfl Try.func24 (by kernel_rfl) rfl #[.slice Ak y233.length Al] rfl pL ?_; (with_reducible refine (varint_Put.calls k _ _ y233 t236 _ ?Ah ?Ai A4.out).mono ?_); (case Ah => exact pC (Kd.R_reads' Ac.out).2.2); (case Ai => exact (Kd.R_reads' Ac.out).2.1); rintro e w13 ⟨v237, rfl, ho0, hb⟩; refine ⟨_, rfl, ?_⟩; replace Ac := bRa Ac hb; have Ad := Am (Kd.R_lower ho0 (below_size (pE HB.out Ab.out))); replace Aa := kBa Aa hb; replace HB := Am (below_step (pE HB.out Ab.out) hb); (try clear hb); (try clear hb2); (try clear hk); (try clear hi); (try clear ho0); obtain ⟨_, _, _, _⟩ := bc4 Aa.out; obtain ⟨_, _, _, _⟩ := bf4 Aa.out) | ((with_reducible refine gate_dst (N := 38) rfl ?_); refine Kd.R_lit (Kd.int .u8) _ 5 ?hg (N := 38) ?hd (xs := ([(a0_3) % 256, (a0_3 / 256) % 256, (a0_3 / 65536) % 256, (a0_3 / 16777216) % 256] : List Int)) (inner := [.int .u8 ((a0_3) % 256), .int .u8 ((a0_3 / 256) % 256), .int .u8 ((a0_3 / 65536) % 256), .int .u8 ((a0_3 / 16777216) % 256)]) (ok := fun _ => True) (okp := fun _ => True) ?hr ?hp (fun _ hk => hk) trivial (Below.refl _ _) (Nat.le_refl _) (by simp) ?_; (case hd => rfl); (case hg => rfl); (case hr => first | (go_simp; done) | (go_simp; rfl)); (case hp => exact (Reps.one (show Kd.M (Kd.int .u8) _ _ _ ((a0_3) % 256) [.int .u8 ((a0_3) % 256)] from rfl) (Reps.one (show Kd.M (Kd.int .u8) _ _ _ ((a0_3 / 256) % 256) [.int .u8 ((a0_3 / 256) % 256)] from rfl) (Reps.one (show Kd.M (Kd.int .u8) _ _ _ ((a0_3 / 65536) % 256) [.int .u8 ((a0_3 / 65536) % 256)] from rfl) (Reps.one (show Kd.M (Kd.int .u8) _ _ _ ((a0_3 / 16777216) % 256) [.int .u8 ((a0_3 / 16777216) % 256)] from rfl) (Reps.none _ _)))))); intro v240 w15 ho16 hb hg_ hnew_; clear hg_ hnew_; (first | rw [← Ny239.out] at ho16 | (simp only [Int.reduceToNat] at ho16; rw [← Ny239.out] at ho16)); replace Ac := bRa Ac hb; have Ae := Am (Kd.R_lower (Kd.R_new' ho16 (Kd.R_lt (pR Ad.out))) (below_size (pE HB.out Ab.out))); replace Ad := Am (Kd.R_elder' (pR Ad.out) (Kd.R_base ho16) hb); replace Aa := kBa Aa hb; replace HB := Am (below_step (pE HB.out Ab.out) hb); clear hb ho16; obtain ⟨Ao, Ap, Aq⟩ := Kd.R_slice Ae.out; subst Aq) | ((with_reducible refine gate_builtin (b := .append) (xs := #[.tmp 22, .tmp 38]) rfl ?_); at_builtin; refine Kd.R_append_rows (Kd.int .u8) (w0 := w) w.heap.size rfl (.tmp 22) (.tmp 38) 22 5 (.int .u8 0) 1 rfl Try.underlying22 info5 rfl (by decide) (by omega) v237 t236 y239 _ _ _ (fun k_ => some k_ ≠ (.slice Ao y239.length Ap : Value).ownBlock) (fun _ => False) rfl rfl ?aO ?aR (fun _ _ h => h) (fun _ h => h.elim) ?aF ?aB ?aS ?aL ?_; (case aR => exact pC (Kd.R_reads' Ae.out).2.2); (case aB => exact (pE HB.out Ab.out)); (case aF => exact (fun k_ hk => Kd.fresh' (Kd.R_lt (pR Ae.out)) k_ hk)); (case aO => exact (by (with_reducible repeat (first | apply Kd.R_alloc | apply Kd.R_drewN | apply Kd.R_drew)); exact Kd.R_mono Ad.out (fun _ hk => hk.2))); (case aS => exact (below_size (pE HB.out Ab.out))); (case aL => have := LMc5.out; omega); intro v243 w17 ho hb hg hat; rw [← Ny242.out] at ho; replace Aa := Am (blk_grown (g := Af) (o := .cells #[.int .i64 a0_0, .int .i64 a0_1, .int .i64 a0_2, .int .u32 a0_3] 44 (0, 0)) (pK Aa.out) hg (Kd.R_ne Ad.out Aa.out (by decide))); replace Ac := Am (Kd.R_over' (pR Ac.out) (Kd.R_typed (pR Ad.out)) (by decide) hg); replace Ae := Am (Kd.R_after (ok := (fun _ => True)) (pR Ae.out) hg hat); replace HB := Am (hb); have Aj := Am (ho); clear Ad ho hb hg hat))
 go_ret2
 exact ⟨_, pX, by (with_reducible repeat (first | apply Kd.R_alloc | apply Kd.R_drewN | apply Kd.R_drew)); exact Kd.R_mono Aj.out (fun _ hk => trivial), pE HB.out Ab.out⟩
def frame_may.f (a0_0 : Int) (l0_1 : List Int) : Option (Bool) := if a0_0 ≥ 1 then (if a0_0 ≤ 250 then (some (decide ((l0_1.length : Int) ≤ 1048576))) else (some false)) else (some false)
set_option maxHeartbeats 8000000 in
set_option maxRecDepth 100000 in
theorem frame_may.calls (a0_0 : Int) (A0_1 : Option Addr) (c0_1 : Nat) (l0_1 : List Int) (r : Bool) (w : World) (hr0_1 : Kd.C (Kd.int .u8) w A0_1 l0_1.length l0_1) (hc0_1 : l0_1.length ≤ c0_1) (h : frame_may.f a0_0 l0_1 = some r) :
  Calls Try.prog 43 #[.agg #[.int .i64 a0_0, .slice A0_1 l0_1.length c0_1]] w fun e w' => e = .returned (.bool r) ∧ Below w.heap.size w w' := by
 have hu50 := Try.underlying50
 have HR0_1 := Am hr0_1
 have HC0_1 := Am hc0_1
 clear hr0_1 hc0_1
 have HB := Am (Below.refl w.heap.size w)
 have H : (if a0_0 ≥ 1 then (if a0_0 ≤ 250 then (some (decide ((l0_1.length : Int) ≤ 1048576))) else (some false)) else (some false)) = some r := h
 clear h
 by_cases c2 : a0_0 ≥ 1
 rotate_left
 ·rw [if_neg c2] at H
  have c2b0 : decide (1 ≤ a0_0) = false := decide_eq_false c2
  clear c2
  obtain rfl := Option.some.inj H
  go_enter Try.func43, Try.ntmps43
  go_wp2_with (first | ((with_reducible refine gate_dst (N := 1) rfl ?_); (try (refine gate_guard (by rfl) ?_; dsimp only)); refine box_event ?hg (N := 1) ?hd (cs := #[.int .i64 a0_0, .slice A0_1 l0_1.length c0_1]) (t := 50) ?hr ?_; (case hd => rfl); (case hg => rfl); (case hr => first | (go_simp; done) | (go_simp; rfl)); intro Ab hg w8 hbox hb; have Aa := Am (hbox); have Ac := Am ((by rw [hg]; exact (below_size (pB HB.out)) : w.heap.size ≤ Ab)); replace HB := Am (below_step (pB HB.out) hb); have Ad := Ac; clear hb hbox hg; obtain ⟨_, _⟩ := bc2 Aa.out; obtain ⟨_, _⟩ := bf2 Aa.out))
  go_ret
  exact ⟨pX, pE HB.out Ad.out⟩
 rw [if_pos c2] at H
 have c2b0 : decide (1 ≤ a0_0) = true := decide_eq_true c2
 clear c2
 by_cases c3 : a0_0 ≤ 250
 ·rw [if_pos c3] at H
  have c3b0 : decide (a0_0 ≤ 250) = true := decide_eq_true c3
  clear c3
  obtain rfl := Option.some.inj H
  go_enter Try.func43, Try.ntmps43
  go_wp2_with (first | ((with_reducible refine gate_dst (N := 1) rfl ?_); (try (refine gate_guard (by rfl) ?_; dsimp only)); refine box_event ?hg (N := 1) ?hd (cs := #[.int .i64 a0_0, .slice A0_1 l0_1.length c0_1]) (t := 50) ?hr ?_; (case hd => rfl); (case hg => rfl); (case hr => first | (go_simp; done) | (go_simp; rfl)); intro Ab hg w4 hbox hb; have Aa := Am (hbox); have Ac := Am ((by rw [hg]; exact (below_size (pB HB.out)) : w.heap.size ≤ Ab)); replace HB := Am (below_step (pB HB.out) hb); have Ad := Ac; clear hb hbox hg; obtain ⟨_, _⟩ := bc2 Aa.out; obtain ⟨_, _⟩ := bf2 Aa.out))
  go_ret
  exact ⟨pX, pE HB.out Ad.out⟩
 rw [if_neg c3] at H
 have c3b0 : decide (a0_0 ≤ 250) = false := decide_eq_false c3
 clear c3
 obtain rfl := Option.some.inj H
 go_enter Try.func43, Try.ntmps43
 go_wp2_with (first | ((with_reducible refine gate_dst (N := 1) rfl ?_); (try (refine gate_guard (by rfl) ?_; dsimp only)); refine box_event ?hg (N := 1) ?hd (cs := #[.int .i64 a0_0, .slice A0_1 l0_1.length c0_1]) (t := 50) ?hr ?_; (case hd => rfl); (case hg => rfl); (case hr => first | (go_simp; done) | (go_simp; rfl)); intro Ab hg w6 hbox hb; have Aa := Am (hbox); have Ac := Am ((by rw [hg]; exact (below_size (pB HB.out)) : w.heap.size ≤ Ab)); replace HB := Am (below_step (pB HB.out) hb); have Ad := Ac; clear hb hbox hg; obtain ⟨_, _⟩ := bc2 Aa.out; obtain ⟨_, _⟩ := bf2 Aa.out))
 go_ret
 exact ⟨pX, pE HB.out Ad.out⟩
def frame_tail.f (l0 : List Int) (a1 : Int) : Option (List Int) := (some (([(a1) % 256, (a1 / 256) % 256, (a1 / 65536) % 256, (a1 / 16777216) % 256] : List Int) : List Int)).bind fun y246 => (if l0.length + y246.length < 140737488355328 then (some (l0 ++ y246)) else (none))
set_option maxHeartbeats 8000000 in
set_option maxRecDepth 100000 in
theorem frame_tail.calls (P0_ : Nat → Prop) (u9000_ : Value) (l0 : List Int) (a1 : Int) (r : List Int) (w0 w : World) (hB : Below w0.heap.size w0 w) (ho0 : Kd.R (Kd.int .u8) 5 w w0.heap.size P0_ u9000_ l0) (h : frame_tail.f l0 a1 = some r) :
  Calls Try.prog 44 #[u9000_, .int .u32 a1] w fun e w' => ∃ v0_ : Value, e = .returned (v0_) ∧ Kd.R (Kd.int .u8) 5 w' w0.heap.size (fun k_ => (P0_ k_ ∨ w.heap.size ≤ k_)) v0_ r ∧ Below w0.heap.size w0 w' ∧ Kept w w' (fun k_ => P0_ k_) := by
 have Ab := Am (show Kd.R (Kd.int .u8) 5 w w0.heap.size (fun k_ => (P0_ k_ ∨ w.heap.size ≤ k_)) u9000_ l0 from Kd.R_mono ho0 (fun k_ hk => (.inl hk)))
 have HK := Am (Kept.refl w (fun k_ => P0_ k_))
 have HW0 := Am hB.size
 have HB := Am hB
 clear hB
 have H : ((some (([(a1) % 256, (a1 / 256) % 256, (a1 / 65536) % 256, (a1 / 16777216) % 256] : List Int) : List Int)).bind fun y246 => (if l0.length + y246.length < 140737488355328 then (some (l0 ++ y246)) else (none))) = some r := h
 clear h
 obtain ⟨y246, hy246⟩ : ∃ y_ : List Int, y_ = (([(a1) % 256, (a1 / 256) % 256, (a1 / 65536) % 256, (a1 / 16777216) % 256] : List Int)) := ⟨_, rfl⟩
 replace H : (if l0.length + y246.length < 140737488355328 then (some (l0 ++ y246)) else (none)) = some r := by first | (rw [hy246]; with_reducible exact H) | (have H2_ := (Option.bind_some _ _).symm.trans H; rw [hy246]; with_reducible exact H2_) | (have H2_ := (Option.bind_some _ _).symm.trans H; with_reducible exact H2_) | with_reducible exact H | (rw [hy246]; exact H) | exact H
 have Ny246 := Am hy246
 clear hy246
 by_cases c3 : l0.length + y246.length < 140737488355328
 rotate_left
 ·rw [if_neg c3] at H
  exact absurd H (by simp)
 rw [if_pos c3] at H
 have LMc3 := Am c3
 clear c3
 obtain ⟨y249, hy249⟩ : ∃ y_ : List Int, y_ = (l0 ++ y246) := ⟨_, rfl⟩
 replace H : (some y249) = some r := by first | (rw [hy249]; with_reducible exact H) | (have H2_ := (Option.bind_some _ _).symm.trans H; rw [hy249]; with_reducible exact H2_) | (have H2_ := (Option.bind_some _ _).symm.trans H; with_reducible exact H2_) | with_reducible exact H | (rw [hy249]; exact H) | exact H
 have Ny249 := Am hy249
 clear hy249
 obtain rfl := Option.some.inj H
 go_enter Try.func44, Try.ntmps44
 go_wp2_with (first | ((with_reducible refine gate_dst (N := 17) rfl ?_); refine Kd.R_lit (Kd.int .u8) _ 5 ?hg (N := 17) ?hd (xs := ([(a1) % 256, (a1 / 256) % 256, (a1 / 65536) % 256, (a1 / 16777216) % 256] : List Int)) (inner := [.int .u8 ((a1) % 256), .int .u8 ((a1 / 256) % 256), .int .u8 ((a1 / 65536) % 256), .int .u8 ((a1 / 16777216) % 256)]) (ok := fun _ => True) (okp := fun _ => True) ?hr ?hp (fun _ hk => hk) trivial (Below.refl _ _) (Nat.le_refl _) (by simp) ?_; (case hd => rfl); (case hg => rfl); (case hr => first | (go_simp; done) | (go_simp; rfl)); (case hp => exact (Reps.one (show Kd.M (Kd.int .u8) _ _ _ ((a1) % 256) [.int .u8 ((a1) % 256)] from rfl) (Reps.one (show Kd.M (Kd.int .u8) _ _ _ ((a1 / 256) % 256) [.int .u8 ((a1 / 256) % 256)] from rfl) (Reps.one (show Kd.M (Kd.int .u8) _ _ _ ((a1 / 65536) % 256) [.int .u8 ((a1 / 65536) % 256)] from rfl) (Reps.one (show Kd.M (Kd.int .u8) _ _ _ ((a1 / 16777216) % 256) [.int .u8 ((a1 / 16777216) % 256)] from rfl) (Reps.none _ _)))))); intro v247 w4 ho5 hb hg_ hnew_; clear hg_ hnew_; (first | rw [← Ny246.out] at ho5 | (simp only [Int.reduceToNat] at ho5; rw [← Ny246.out] at ho5)); have Aa := Am (Kd.R_lower (Kd.R_new' (Kd.R_newM (M := fun k_ => (P0_ k_ ∨ w.heap.size ≤ k_)) ho5 (by first | exact HK.out.1 | exact (show Kept w _ (fun k_ => P0_ k_) from by repeat (first | (with_reducible first | exact HK.out | apply Kept.alloc | apply Kept.drewN | apply Kept.drew) | exact HK.out)).1) (fun k_ h_ => .inr h_)) (Kd.R_lt (pR Ab.out))) (below_size (pB HB.out))); replace Ab := Am (Kd.R_elder' (pR Ab.out) (Kd.R_base ho5) hb); replace HK := Am (Kept.below (S := (fun k_ => P0_ k_)) (by repeat (first | (with_reducible first | exact HK.out | apply Kept.alloc | apply Kept.drewN | apply Kept.drew) | exact HK.out)) hb); replace HB := Am (below_step (pB HB.out) hb); clear hb ho5; obtain ⟨Ad, Ae, Af⟩ := Kd.R_slice Aa.out; subst Af) | ((with_reducible refine gate_builtin (b := .append) (xs := #[.tmp 5, .tmp 17]) rfl ?_); at_builtin; refine Kd.R_append_rows (Kd.int .u8) (w0 := w0) w0.heap.size rfl (.tmp 5) (.tmp 17) 22 5 (.int .u8 0) 1 rfl Try.underlying22 info5 rfl (by decide) (by omega) u9000_ l0 y246 _ _ _ (fun k_ => (P0_ k_ ∨ w.heap.size ≤ k_) ∧ some k_ ≠ (.slice Ad y246.length Ae : Value).ownBlock) (fun _ => False) rfl rfl ?aO ?aR (fun _ _ h => h) (fun _ h => h.elim) ?aF ?aB ?aS ?aL ?_; (case aR => exact pC (Kd.R_reads' Aa.out).2.2); (case aB => exact (pB HB.out)); (case aF => exact (fun k_ hk => ⟨(.inr (Nat.le_trans (by first | exact HK.out.1 | exact (show Kept w _ (fun k_ => P0_ k_) from by repeat (first | (with_reducible first | exact HK.out | apply Kept.alloc | apply Kept.drewN | apply Kept.drew) | exact HK.out)).1) hk)), Kd.fresh' (Kd.R_lt (pR Aa.out)) k_ hk⟩)); (case aO => exact (pR Ab.out)); (case aS => exact (below_size (pB HB.out))); (case aL => have := LMc3.out; omega); intro v250 w6 ho hb hg hat; rw [← Ny249.out] at ho; replace Aa := Am (Kd.R_after (ok := (fun k_ => (P0_ k_ ∨ w.heap.size ≤ k_))) (by (with_reducible repeat (first | apply Kd.R_alloc | apply Kd.R_drewN | apply Kd.R_drew)); exact Kd.R_mono Aa.out (fun _ hk => ⟨hk.1.1, hk.2⟩)) hg hat); replace HB := Am (hb); replace HK := Am (Kept.of_grown (S := (fun k_ => P0_ k_)) hg (by repeat (first | (with_reducible first | exact HK.out | apply Kept.alloc | apply Kept.drewN | apply Kept.drew) | exact HK.out)) (fun k_ e_ => (Ab.out.1 k_ e_).1)); have Ac := Am (ho); clear Ab ho hb hg hat))
 go_ret
 exact ⟨_, pX, by (with_reducible repeat (first | apply Kd.R_alloc | apply Kd.R_drewN | apply Kd.R_drew)); exact Kd.R_mono Ac.out (fun _ hk => hk.1), pB HB.out, by repeat (first | (with_reducible first | exact HK.out | apply Kept.alloc | apply Kept.drewN | apply Kept.drew) | exact HK.out)⟩
def frame_Put.l0 : Nat → List Int → List (S50) → Int → Int → Option (List Int × Int)
 | 0, _, _, _, _ => none
 | k + 1, x4, x7, x8, x9 => if x9 < x8 then (if 0 ≤ x9 then (if x9 < (x7.length : Int) then ((frame_may.f ((rd_T50 x7 x9).f0) ((rd_T50 x7 x9).f1)).bind fun t254 => (if t254 = true then ((varint_Put.f k (([IntKind.u64.wrap ((((rd_T50 x7 x9).f1).length : Int))] : List Int))).bind fun t258 => (if x4.length + t258.length < 140737488355328 then ((some (x4 ++ t258 : List Int)).bind fun y261 => (if y261.length < 140737488355328 then ((some (y261 ++ [((rd_T50 x7 x9).f0) % 256] : List Int)).bind fun y264 => (if y264.length + ((rd_T50 x7 x9).f1).length < 140737488355328 then ((frame_sum.f k (((rd_T50 x7 x9).f0) % 256) ((rd_T50 x7 x9).f1)).bind fun t270 => ((frame_tail.f (y264 ++ ((rd_T50 x7 x9).f1)) t270).bind fun t271 => (frame_Put.l0 k t271 x7 x8 (wrap64 (x9 + 1))))) else (none))) else (none))) else (none))) else (some (([] : List Int), 1)))) else (none)) else (none)) else (some (x4, 0))
def frame_Put.f (k : Nat) (l0 : List (S50)) : Option (List Int × Int) := frame_Put.l0 k ([] : List Int) l0 (l0.length : Int) 0
theorem frame_Put.mono_l : ∀ k, (∀ y0 y1 y2 y3, LeO (frame_Put.l0 k y0 y1 y2 y3) (frame_Put.l0 (k + 1) y0 y1 y2 y3))
 | 0 => fun _ _ _ _ r h => by simp [frame_Put.l0] at h
 | k + 1 => by
  have ih0 := frame_Put.mono_l k
  ·intro y0 y1 y2 y3
   unfold frame_Put.l0
   repeat' first
   | (with_reducible exact ih0 _ _ _ _)
   | (with_reducible exact frame_sum.mono _ _ _)
   | (with_reducible exact varint_Put.mono _ _)
   | (with_reducible exact LeO.refl _)
   | (with_reducible exact LeO.none _)
   | (with_reducible refine LeO.ite ?_ ?_)
   | (with_reducible refine LeO.bind ?_ (fun _ => ?_))
   | exact ih0 _ _ _ _
   | exact frame_sum.mono _ _ _
   | exact varint_Put.mono _ _
   | exact LeO.none _
   | refine LeO.ite ?_ ?_
   | refine LeO.bind ?_ (fun _ => ?_)
theorem frame_Put.mono : ∀ a0 k, LeO (frame_Put.f k a0) (frame_Put.f (k + 1) a0) := by
 intro a0 k
 have ih0 := frame_Put.mono_l k
 unfold frame_Put.f
 repeat' first
   | (with_reducible exact ih0 _ _ _ _)
   | (with_reducible exact frame_sum.mono _ _ _)
   | (with_reducible exact varint_Put.mono _ _)
   | (with_reducible exact LeO.refl _)
   | (with_reducible exact LeO.none _)
   | (with_reducible refine LeO.ite ?_ ?_)
   | (with_reducible refine LeO.bind ?_ (fun _ => ?_))
   | exact ih0 _ _ _ _
   | exact frame_sum.mono _ _ _
   | exact varint_Put.mono _ _
   | exact LeO.none _
   | refine LeO.ite ?_ ?_
   | refine LeO.bind ?_ (fun _ => ?_)
set_option maxHeartbeats 8000000 in
set_option maxRecDepth 100000 in
theorem frame_Put.calls (k : Nat) (A0 : Option Addr) (c0 : Nat) (l0 : List (S50)) (r1 : List Int) (r2 : Int) (w : World) (hr0 : Kd.C k50 w A0 l0.length l0) (hc0 : l0.length ≤ c0) (h : frame_Put.f k l0 = some (r1, r2)) :
  Calls Try.prog 26 #[.slice A0 l0.length c0] w fun e w' => ∃ v0_ : Value, e = .returned (.tuple #[v0_, .int .i64 r2]) ∧ Kd.R (Kd.int .u8) 5 w' w.heap.size (fun _ => True) v0_ r1 ∧ Below w.heap.size w w' := by
 have hu50 := Try.underlying50
 have HR0 := Am hr0
 have HC0 := Am hc0
 clear hr0 hc0
 have HB := Am (Below.refl w.heap.size w)
 have H : (frame_Put.l0 k ([] : List Int) l0 (l0.length : Int) 0) = some (r1, r2) := h
 clear h
 have H' := Am H
 clear H
 go_enter Try.func26, Try.ntmps26
 go_wp2
 go_loopg [4, 9] k (fun kq v4 v9 w' => ∃ (Ai : List Int) (Aa : Int), v9 = .int .i64 Aa ∧ Aside0 (frame_Put.l0 kq Ai l0 (l0.length : Int) Aa = some (r1, r2)) ∧ Aside0 (kq ≤ k) ∧ Aside0 (Kd.R (Kd.int .u8) 5 w' w.heap.size (fun _ => True) v4 Ai) ∧ Aside0 (Below w.heap.size w w'))
 case atStart => exact ⟨(([] : List Int)), (0), (by first | rfl | (simp; done) | (simp [*]; done)), H', ⟨Nat.le_refl _⟩, ⟨by first | exact Kd.R_nil _ _ _ _ _ | exact Kd.N_nil _ _ _ _ _ | exact Kd.V_nil _ _ _ _ _ | exact Kd.Q_nil _ _ _ _ _ | exact Kd.S_nil _ _ _ _ _⟩, ⟨pB HB.out⟩⟩
 case round =>
  clear H'
  obtain ⟨Ai, Aa, rfl, HA, HK1, Af, HB⟩ := hrel
  cases gk with
  | zero => exact absurd HA.out (by simp [frame_Put.l0])
  | succ k1 =>
   have H := HA.out
   clear HA
   simp only [frame_Put.l0] at H
   by_cases c2 : Aa < (l0.length : Int)
   rotate_left
   ·rw [if_neg c2] at H
    have c2b0 : decide (Aa < (l0.length : Int)) = false := decide_eq_false c2
    clear c2
    simp only [Option.some.injEq, Prod.mk.injEq] at H
    obtain ⟨rfl, rfl⟩ := H
    go_wp2
    go_ret2
    exact ⟨_, pX, by (with_reducible repeat (first | apply Kd.R_alloc | apply Kd.R_drewN | apply Kd.R_drew)); exact Af.out, pB HB.out⟩
   rw [if_pos c2] at H
   have c2b0 : decide (Aa < (l0.length : Int)) = true := decide_eq_true c2
   clear c2
   by_cases c3 : 0 ≤ Aa
   rotate_left
   ·rw [if_neg c3] at H
    exact absurd H (by simp)
   rw [if_pos c3] at H
   have c3b0 : decide (0 ≤ Aa) = true := decide_eq_true c3
   clear c3
   by_cases c4 : Aa < (l0.length : Int)
   rotate_left
   ·rw [if_neg c4] at H
    exact absurd H (by simp)
   rw [if_pos c4] at H
   have c4b0 : decide (Aa < (l0.length : Int)) = true := decide_eq_true c4
   clear c4
   replace H := Option.bind_eq_some_iff.mp H
   obtain ⟨t254, A50, H⟩ := H
   replace H : (if t254 = true then ((varint_Put.f k1 (([IntKind.u64.wrap ((((rd_T50 l0 Aa).f1).length : Int))] : List Int))).bind fun t258 => (if Ai.length + t258.length < 140737488355328 then ((some (Ai ++ t258 : List Int)).bind fun y261 => (if y261.length < 140737488355328 then ((some (y261 ++ [((rd_T50 l0 Aa).f0) % 256] : List Int)).bind fun y264 => (if y264.length + ((rd_T50 l0 Aa).f1).length < 140737488355328 then ((frame_sum.f k1 (((rd_T50 l0 Aa).f0) % 256) ((rd_T50 l0 Aa).f1)).bind fun t270 => ((frame_tail.f (y264 ++ ((rd_T50 l0 Aa).f1)) t270).bind fun t271 => (frame_Put.l0 k1 t271 l0 (l0.length : Int) (wrap64 (Aa + 1))))) else (none))) else (none))) else (none))) else (some (([] : List Int), 1))) = some (r1, r2) := H
   have A5 := Am A50
   clear A50
   by_cases c6 : t254 = true
   rotate_left
   ·replace c6 := Bool.eq_false_iff.mpr c6
    subst c6
    have H1 : (some (([] : List Int), 1)) = some (r1, r2) := by rw [if_neg (show ¬ (false = true) by decide)] at H; exact H
    clear H
    have H := H1
    clear H1
    simp only [Option.some.injEq, Prod.mk.injEq] at H
    obtain ⟨rfl, rfl⟩ := H
    have p252 : 0 ≤ (Aa : Int) := of_decide_eq_true pS
    have q252 : Aa < (l0.length : Int) := of_decide_eq_true pS
    obtain ⟨A1, Ah, c252_1, e252, Aw, Ax, Al, An⟩ := at_T50u HR0.out Aa p252 q252 HB.out
    cases e252
    have Ao := Am An
    have Ap := Am Al
    clear An Al
    replace p252 := eq_true p252
    replace q252 := eq_true q252
    go_wp2_with (first | ((with_reducible refine gate_dst (N := 6) rfl ?_); refine box_event ?hg (N := 6) ?hd (cs := #[.int .i64 0, .slice none 0 0]) (t := 50) ?hr ?_; (case hd => rfl); (case hg => rfl); (case hr => first | (go_simp; done) | (go_simp; rfl)); intro Ag hg w31 hbox hb; replace Af := bRa Af hb; have Ab := Am (hbox); have At := Am ((by rw [hg]; exact (below_size (pB HB.out)) : w.heap.size ≤ Ag)); replace HB := Am (below_step (pB HB.out) hb); have Ac := At; clear hb hbox hg; obtain ⟨_, _⟩ := bc2 Ab.out; obtain ⟨_, _⟩ := bf2 Ab.out) | ((with_reducible refine gate_callee (f := 43) rfl ?_); refine goesL_ (some 14) rfl rfl Try.func43 (by kernel_rfl) rfl #[.agg #[.int .i64 ((rd_T50 l0 Aa).f0), .slice Ah ((rd_T50 l0 Aa).f1).length c252_1]] rfl pL ?_; (with_reducible refine (frame_may.calls ((rd_T50 l0 Aa).f0) _ _ ((rd_T50 l0 Aa).f1) false _ ?Aj ?Ak A5.out).mono ?_); (case Aj => exact Kd.C_below Ao.out (pE HB.out Ac.out)); (case Ak => exact Ap.out); rintro e w33 ⟨rfl, hb⟩; refine ⟨_, rfl, ?_⟩; replace Af := Am (Kd.R_below (by (with_reducible repeat (first | apply Kd.R_alloc | apply Kd.R_drewN | apply Kd.R_drew)); exact (Kd.R_mono (Rf2 (g := Ag) (Kd.R_types Af.out Ab.out (by decide)) (fun _ hk => hk.2)) (fun _ h_ => h_.1))) hb); replace Ab := Am (blk_below (g := Ag) (kX0 Ab.out) hb); replace HB := Am (below_step (pE HB.out Ac.out) hb); (try clear hb); (try clear hb2); (try clear hk); (try clear hi)))
    go_ret2
    exact ⟨_, pX, by first | exact Kd.R_nil _ _ _ _ _ | exact Kd.N_nil _ _ _ _ _ | exact Kd.V_nil _ _ _ _ _ | exact Kd.Q_nil _ _ _ _ _ | exact Kd.S_nil _ _ _ _ _, pE HB.out Ac.out⟩
   subst c6
   have H1 : ((varint_Put.f k1 (([IntKind.u64.wrap ((((rd_T50 l0 Aa).f1).length : Int))] : List Int))).bind fun t258 => (if Ai.length + t258.length < 140737488355328 then ((some (Ai ++ t258 : List Int)).bind fun y261 => (if y261.length < 140737488355328 then ((some (y261 ++ [((rd_T50 l0 Aa).f0) % 256] : List Int)).bind fun y264 => (if y264.length + ((rd_T50 l0 Aa).f1).length < 140737488355328 then ((frame_sum.f k1 (((rd_T50 l0 Aa).f0) % 256) ((rd_T50 l0 Aa).f1)).bind fun t270 => ((frame_tail.f (y264 ++ ((rd_T50 l0 Aa).f1)) t270).bind fun t271 => (frame_Put.l0 k1 t271 l0 (l0.length : Int) (wrap64 (Aa + 1))))) else (none))) else (none))) else (none))) = some (r1, r2) := by rw [if_pos rfl] at H; exact H
   clear H
   have H := H1
   clear H1
   obtain ⟨y255, hy255⟩ : ∃ y_ : List Int, y_ = (([IntKind.u64.wrap ((((rd_T50 l0 Aa).f1).length : Int))] : List Int)) := ⟨_, rfl⟩
   replace H : ((varint_Put.f k1 y255).bind fun t258 => (if Ai.length + t258.length < 140737488355328 then ((some (Ai ++ t258 : List Int)).bind fun y261 => (if y261.length < 140737488355328 then ((some (y261 ++ [((rd_T50 l0 Aa).f0) % 256] : List Int)).bind fun y264 => (if y264.length + ((rd_T50 l0 Aa).f1).length < 140737488355328 then ((frame_sum.f k1 (((rd_T50 l0 Aa).f0) % 256) ((rd_T50 l0 Aa).f1)).bind fun t270 => ((frame_tail.f (y264 ++ ((rd_T50 l0 Aa).f1)) t270).bind fun t271 => (frame_Put.l0 k1 t271 l0 (l0.length : Int) (wrap64 (Aa + 1))))) else (none))) else (none))) else (none))) = some (r1, r2) := by first | (rw [hy255]; with_reducible exact H) | (have H2_ := (Option.bind_some _ _).symm.trans H; rw [hy255]; with_reducible exact H2_) | (have H2_ := (Option.bind_some _ _).symm.trans H; with_reducible exact H2_) | with_reducible exact H | (rw [hy255]; exact H) | exact H
   have Ny255 := Am hy255
   clear hy255
   replace H := Option.bind_eq_some_iff.mp H
   obtain ⟨t258, A70, H⟩ := H
   replace H : (if Ai.length + t258.length < 140737488355328 then ((some (Ai ++ t258 : List Int)).bind fun y261 => (if y261.length < 140737488355328 then ((some (y261 ++ [((rd_T50 l0 Aa).f0) % 256] : List Int)).bind fun y264 => (if y264.length + ((rd_T50 l0 Aa).f1).length < 140737488355328 then ((frame_sum.f k1 (((rd_T50 l0 Aa).f0) % 256) ((rd_T50 l0 Aa).f1)).bind fun t270 => ((frame_tail.f (y264 ++ ((rd_T50 l0 Aa).f1)) t270).bind fun t271 => (frame_Put.l0 k1 t271 l0 (l0.length : Int) (wrap64 (Aa + 1))))) else (none))) else (none))) else (none)) = some (r1, r2) := H
   have A7 := Am A70
   clear A70
   by_cases c8 : Ai.length + t258.length < 140737488355328
   rotate_left
   ·rw [if_neg c8] at H
    exact absurd H (by simp)
   rw [if_pos c8] at H
   have LMc8 := Am c8
   clear c8
   obtain ⟨y261, hy261⟩ : ∃ y_ : List Int, y_ = (Ai ++ t258) := ⟨_, rfl⟩
   replace H : (if y261.length < 140737488355328 then ((some (y261 ++ [((rd_T50 l0 Aa).f0) % 256] : List Int)).bind fun y264 => (if y264.length + ((rd_T50 l0 Aa).f1).length < 140737488355328 then ((frame_sum.f k1 (((rd_T50 l0 Aa).f0) % 256) ((rd_T50 l0 Aa).f1)).bind fun t270 => ((frame_tail.f (y264 ++ ((rd_T50 l0 Aa).f1)) t270).bind fun t271 => (frame_Put.l0 k1 t271 l0 (l0.length : Int) (wrap64 (Aa + 1))))) else (none))) else (none)) = some (r1, r2) := by first | (rw [hy261]; with_reducible exact H) | (have H2_ := (Option.bind_some _ _).symm.trans H; rw [hy261]; with_reducible exact H2_) | (have H2_ := (Option.bind_some _ _).symm.trans H; with_reducible exact H2_) | with_reducible exact H | (rw [hy261]; exact H) | exact H
   have Ny261 := Am hy261
   clear hy261
   by_cases c9 : y261.length < 140737488355328
   rotate_left
   ·rw [if_neg c9] at H
    exact absurd H (by simp)
   rw [if_pos c9] at H
   have LMc9 := Am c9
   clear c9
   obtain ⟨y264, hy264⟩ : ∃ y_ : List Int, y_ = (y261 ++ [((rd_T50 l0 Aa).f0) % 256]) := ⟨_, rfl⟩
   replace H : (if y264.length + ((rd_T50 l0 Aa).f1).length < 140737488355328 then ((frame_sum.f k1 (((rd_T50 l0 Aa).f0) % 256) ((rd_T50 l0 Aa).f1)).bind fun t270 => ((frame_tail.f (y264 ++ ((rd_T50 l0 Aa).f1)) t270).bind fun t271 => (frame_Put.l0 k1 t271 l0 (l0.length : Int) (wrap64 (Aa + 1))))) else (none)) = some (r1, r2) := by first | (rw [hy264]; with_reducible exact H) | (have H2_ := (Option.bind_some _ _).symm.trans H; rw [hy264]; with_reducible exact H2_) | (have H2_ := (Option.bind_some _ _).symm.trans H; with_reducible exact H2_) | with_reducible exact H | (rw [hy264]; exact H) | exact H
   have Ny264 := Am hy264
   clear hy264
   by_cases c10 : y264.length + ((rd_T50 l0 Aa).f1).length < 140737488355328
   rotate_left
   ·rw [if_neg c10] at H
    exact absurd H (by simp)
   rw [if_pos c10] at H
   have LMc10 := Am c10
   clear c10
   obtain ⟨y267, hy267⟩ : ∃ y_ : List Int, y_ = (y264 ++ ((rd_T50 l0 Aa).f1)) := ⟨_, rfl⟩
   replace H : ((frame_sum.f k1 (((rd_T50 l0 Aa).f0) % 256) ((rd_T50 l0 Aa).f1)).bind fun t270 => ((frame_tail.f y267 t270).bind fun t271 => (frame_Put.l0 k1 t271 l0 (l0.length : Int) (wrap64 (Aa + 1))))) = some (r1, r2) := by first | (rw [hy267]; with_reducible exact H) | (have H2_ := (Option.bind_some _ _).symm.trans H; rw [hy267]; with_reducible exact H2_) | (have H2_ := (Option.bind_some _ _).symm.trans H; with_reducible exact H2_) | with_reducible exact H | (rw [hy267]; exact H) | exact H
   have Ny267 := Am hy267
   clear hy267
   replace H := Option.bind_eq_some_iff.mp H
   obtain ⟨t270, A110, H⟩ := H
   replace H : ((frame_tail.f y267 t270).bind fun t271 => (frame_Put.l0 k1 t271 l0 (l0.length : Int) (wrap64 (Aa + 1)))) = some (r1, r2) := H
   have A11 := Am A110
   clear A110
   replace H := Option.bind_eq_some_iff.mp H
   obtain ⟨t271, A120, H⟩ := H
   replace H : (frame_Put.l0 k1 t271 l0 (l0.length : Int) (wrap64 (Aa + 1))) = some (r1, r2) := H
   have A12 := Am A120
   clear A120
   have H' := Am H
   clear H
   have p252 : 0 ≤ (Aa : Int) := of_decide_eq_true pS
   have q252 : Aa < (l0.length : Int) := of_decide_eq_true pS
   obtain ⟨A1, Ah, c252_1, e252, Aw, Ax, Al, An⟩ := at_T50u HR0.out Aa p252 q252 HB.out
   cases e252
   have Ao := Am An
   have Ap := Am Al
   clear An Al
   replace p252 := eq_true p252
   replace q252 := eq_true q252
   go_wp2_with (first | ((with_reducible refine gate_dst (N := 6) rfl ?_); refine box_event ?hg (N := 6) ?hd (cs := #[.int .i64 0, .slice none 0 0]) (t := 50) ?hr ?_; (case hd => rfl); (case hg => rfl); (case hr => first | (go_simp; done) | (go_simp; rfl)); intro Ag hg w13 hbox hb; replace Af := bRa Af hb; have Ab := Am (hbox); have At := Am ((by rw [hg]; exact (below_size (pB HB.out)) : w.heap.size ≤ Ag)); replace HB := Am (below_step (pB HB.out) hb); have Ac := At; clear hb hbox hg; obtain ⟨_, _⟩ := bc2 Ab.out; obtain ⟨_, _⟩ := bf2 Ab.out) | ((with_reducible refine gate_callee (f := 43) rfl ?_); refine goesL_ (some 14) rfl rfl Try.func43 (by kernel_rfl) rfl #[.agg #[.int .i64 ((rd_T50 l0 Aa).f0), .slice Ah ((rd_T50 l0 Aa).f1).length c252_1]] rfl pL ?_; (with_reducible refine (frame_may.calls ((rd_T50 l0 Aa).f0) _ _ ((rd_T50 l0 Aa).f1) true _ ?Aj ?Ak A5.out).mono ?_); (case Aj => exact Kd.C_below Ao.out (pE HB.out Ac.out)); (case Ak => exact Ap.out); rintro e w15 ⟨rfl, hb⟩; refine ⟨_, rfl, ?_⟩; replace Af := Am (Kd.R_below (by (with_reducible repeat (first | apply Kd.R_alloc | apply Kd.R_drewN | apply Kd.R_drew)); exact (Kd.R_mono (Rf2 (g := Ag) (Kd.R_types Af.out Ab.out (by decide)) (fun _ hk => hk.2)) (fun _ h_ => h_.1))) hb); replace Ab := Am (blk_below (g := Ag) (kX0 Ab.out) hb); replace HB := Am (below_step (pE HB.out Ac.out) hb); (try clear hb); (try clear hb2); (try clear hk); (try clear hi); obtain ⟨_, _⟩ := bc2 Ab.out; obtain ⟨_, _⟩ := bf2 Ab.out) | ((with_reducible refine gate_dst (N := 21) rfl ?_); refine Kd.R_lit (Kd.int .u64) _ 56 ?hg (N := 21) ?hd (xs := ([IntKind.u64.wrap ((((rd_T50 l0 Aa).f1).length : Int))] : List Int)) (inner := [.int .u64 (IntKind.u64.wrap ((((rd_T50 l0 Aa).f1).length : Int)))]) (ok := fun _ => True) (okp := fun _ => True) ?hr ?hp (fun _ hk => hk) trivial (Below.refl _ _) (Nat.le_refl _) (by simp) ?_; (case hd => rfl); (case hg => rfl); (case hr => first | (go_simp; done) | (go_simp; rfl)); (case hp => exact (Reps.one (show Kd.M (Kd.int .u64) _ _ _ (IntKind.u64.wrap ((((rd_T50 l0 Aa).f1).length : Int))) [.int .u64 (IntKind.u64.wrap ((((rd_T50 l0 Aa).f1).length : Int)))] from rfl) (Reps.none _ _))); intro v256 w17 ho18 hb hg_ hnew_; clear hg_ hnew_; (first | rw [← Ny255.out] at ho18 | (simp only [Int.reduceToNat] at ho18; rw [← Ny255.out] at ho18)); replace Af := bRa Af hb; have Ae := Am (Kd.R_lower ho18 (below_size (pE HB.out Ac.out))); replace Ab := kBa Ab hb; replace HB := Am (below_step (pE HB.out Ac.out) hb); clear hb ho18; obtain ⟨A3, A4, A6⟩ := Kd.R_slice Ae.out; subst A6) | ((with_reducible refine gate_callee (f := 24) rfl ?_); refine goesL_ (some 22) rfl rfl Try.func24 (by kernel_rfl) rfl #[.slice A3 y255.length A4] rfl pL ?_; (with_reducible refine (varint_Put.calls k1 _ _ y255 t258 _ ?Aj ?Ak A7.out).mono ?_); (case Aj => exact pC (Kd.R_reads' Ae.out).2.2); (case Ak => exact (Kd.R_reads' Ae.out).2.1); rintro e w20 ⟨v259, rfl, ho0, hb⟩; refine ⟨_, rfl, ?_⟩; replace Ae := bRa Ae hb; have Ad := Am (Kd.R_lower (Kd.R_new' ho0 (Kd.R_lt (pR Af.out))) (below_size (pE HB.out Ac.out))); replace Af := Am (Kd.R_elder' (pR Af.out) (Kd.R_base ho0) hb); replace Ab := kBa Ab hb; replace HB := Am (below_step (pE HB.out Ac.out) hb); (try clear hb); (try clear hb2); (try clear hk); (try clear hi); (try clear ho0); obtain ⟨Au, Av, A8⟩ := Kd.R_slice Ad.out; subst A8) | ((with_reducible refine gate_builtin (b := .append) (xs := #[.tmp 16, .tmp 22]) rfl ?_); at_builtin; refine Kd.R_append_rows (Kd.int .u8) (w0 := w) w.heap.size rfl (.tmp 16) (.tmp 22) 22 5 (.int .u8 0) 1 rfl Try.underlying22 info5 rfl (by decide) (by omega) u4 Ai t258 _ _ _ (fun k_ => some k_ ≠ (.slice Au t258.length Av : Value).ownBlock) (fun _ => False) rfl rfl ?aO ?aR (fun _ _ h => h) (fun _ h => h.elim) ?aF ?aB ?aS ?aL ?_; (case aR => exact pC (Kd.R_reads' Ad.out).2.2); (case aB => exact (pE HB.out Ac.out)); (case aF => exact (fun k_ hk => Kd.fresh' (Kd.R_lt (pR Ad.out)) k_ hk)); (case aO => exact (by (with_reducible repeat (first | apply Kd.R_alloc | apply Kd.R_drewN | apply Kd.R_drew)); exact Kd.R_mono Af.out (fun _ hk => hk.2))); (case aS => exact (below_size (pE HB.out Ac.out))); (case aL => have := LMc8.out; omega); intro v262 w21 ho hb hg hat; rw [← Ny261.out] at ho; replace Ab := Am (blk_grown (g := Ag) (o := .cells #[.int .i64 ((rd_T50 l0 Aa).f0), .slice Ah ((rd_T50 l0 Aa).f1).length c252_1] 50 (0, 0)) (pK Ab.out) hg (Kd.R_ne Af.out Ab.out (by decide))); replace Ae := Am (Kd.R_over' (pR Ae.out) (Kd.R_typed (pR Af.out)) (by decide) hg); replace Ad := Am (Kd.R_after (ok := (fun _ => True)) (pR Ad.out) hg hat); replace HB := Am (hb); have Ar := Am (ho); clear Af ho hb hg hat; obtain ⟨_, _⟩ := bc2 Ab.out; obtain ⟨_, _⟩ := bf2 Ab.out) | ((with_reducible refine gate_builtin (b := .append) (xs := #[.tmp 24, .tmp 28]) rfl ?_); at_builtin; refine Kd.R_append (Kd.int .u8) (w0 := w) w.heap.size rfl (.tmp 24) (.tmp 28) 22 5 (.int .u8 0) 1 rfl Try.underlying22 info5 rfl (by decide) (by omega) v262 y261 (((rd_T50 l0 Aa).f0) % 256) [.int .u8 (((rd_T50 l0 Aa).f0) % 256)] (fun k_ => some k_ ≠ (.slice Au t258.length Av : Value).ownBlock) (fun _ => False) rfl rfl ?aP (fun _ hk => hk.elim) ?aF ?aO ?aB ?aS ?aL ?_; (case aP => exact rfl); (case aB => exact (pE HB.out Ac.out)); (case aF => exact (fun k_ hk => Kd.fresh' (Kd.R_lt (pR Ad.out)) k_ hk)); (case aO => exact (pR Ar.out)); (case aS => exact (below_size (pE HB.out Ac.out))); (case aL => have := LMc9.out; omega); intro v265 w24 ho hb hg hat; rw [← Ny264.out] at ho; replace Ab := Am (blk_grown (g := Ag) (o := .cells #[.int .i64 ((rd_T50 l0 Aa).f0), .slice Ah ((rd_T50 l0 Aa).f1).length c252_1] 50 (0, 0)) (pK Ab.out) hg (Kd.R_ne Ar.out Ab.out (by decide))); replace Ae := Am (Kd.R_over' (pR Ae.out) (Kd.R_typed (pR Ar.out)) (by decide) hg); replace Ad := Am (Kd.R_after (ok := (fun _ => True)) (pR Ad.out) hg hat); replace HB := Am (hb); have As := Am (ho); clear Ar ho hb hg hat; obtain ⟨_, _⟩ := bc2 Ab.out; obtain ⟨_, _⟩ := bf2 Ab.out) | ((with_reducible refine gate_builtin (b := .append) (xs := #[.tmp 30, .tmp 32]) rfl ?_); at_builtin; refine Kd.R_append_rows (Kd.int .u8) (w0 := w) w.heap.size rfl (.tmp 30) (.tmp 32) 22 5 (.int .u8 0) 1 rfl Try.underlying22 info5 rfl (by decide) (by omega) v265 y264 ((rd_T50 l0 Aa).f1) _ _ _ (fun k_ => some k_ ≠ (.slice Au t258.length Av : Value).ownBlock) (fun _ => False) rfl rfl ?aO ?aR (fun _ _ h => h) (fun _ h => h.elim) ?aF ?aB ?aS ?aL ?_; (case aR => exact pC (Kd.C_below Ao.out HB.out)); (case aB => exact (pE HB.out Ac.out)); (case aF => exact (fun k_ hk => Kd.fresh' (Kd.R_lt (pR Ad.out)) k_ hk)); (case aO => exact (pR As.out)); (case aS => exact (below_size (pE HB.out Ac.out))); (case aL => have := LMc10.out; omega); intro v268 w26 ho hb hg hat; rw [← Ny267.out] at ho; replace Ab := Am (blk_grown (g := Ag) (o := .cells #[.int .i64 ((rd_T50 l0 Aa).f0), .slice Ah ((rd_T50 l0 Aa).f1).length c252_1] 50 (0, 0)) (pK Ab.out) hg (Kd.R_ne As.out Ab.out (by decide))); replace Ae := Am (Kd.R_over' (pR Ae.out) (Kd.R_typed (pR As.out)) (by decide) hg); replace Ad := Am (Kd.R_after (ok := (fun _ => True)) (pR Ad.out) hg hat); replace HB := Am (hb); have Aq := Am (ho); clear As ho hb hg hat; obtain ⟨_, _⟩ := bc2 Ab.out; obtain ⟨_, _⟩ := bf2 Ab.out) | ((with_reducible refine gate_callee (f := 39) rfl ?_); refine goesL_ (some 40) rfl rfl Try.func39 (by kernel_rfl) rfl #[.int .u8 (((rd_T50 l0 Aa).f0) % 256), .slice Ah ((rd_T50 l0 Aa).f1).length c252_1] rfl pL ?_; (with_reducible refine (frame_sum.calls k1 (((rd_T50 l0 Aa).f0) % 256) _ _ ((rd_T50 l0 Aa).f1) t270 _ ?Aj ?Ak A11.out).mono ?_); (case Aj => exact pC (Kd.C_below Ao.out HB.out)); (case Ak => exact Ap.out); rintro e w28 ⟨rfl, hb⟩; refine ⟨_, rfl, ?_⟩; replace Ae := bRa Ae hb; replace Ad := bRa Ad hb; replace Aq := bRa Aq hb; replace Ab := kBa Ab hb; replace HB := Am (below_step (pE HB.out Ac.out) hb); (try clear hb); (try clear hb2); (try clear hk); (try clear hi); obtain ⟨Ay, Az, A9⟩ := Kd.R_slice Aq.out; subst A9) | ((with_reducible refine gate_callee (f := 44) rfl ?_); refine goesL_ (some 41) rfl rfl Try.func44 (by kernel_rfl) rfl #[.slice Ay y267.length Az, .int .u32 t270] rfl pL ?_; (with_reducible refine (frame_tail.calls (fun k_ => some k_ = (.slice Ay y267.length Az : Value).ownBlock) (.slice Ay y267.length Az) y267 t270 t271 w _ ?Aj ?Ak A12.out).mono ?_); (case Aj => repeat (first | (with_reducible first | exact HB.out | apply below_alloc | apply pw_below_drewN | apply below_drew1 | refine below_set ?_ Ac.out) | exact HB.out)); (case Ak => exact Kd.R_tight rfl Aq.out); rintro e w30 ⟨v272, rfl, ho0, hb, hkp⟩; refine ⟨_, rfl, ?_⟩; replace Ab := Am (blk_kept (pK Ab.out) hkp (fun hs_ => (fun e_ => (Kd.R_ne Aq.out Ab.out (by decide)) e_) hs_)); replace Ae := Am (Kd.R_mono (ok' := fun k_ => True) (Kd.R_keptB ((Kd.R_apart' Ae.out (Kd.R_typed Aq.out) (by decide))) hkp (fun k_ hk_ hs_ => (hk_.2) hs_)) (fun k_ hk_ => trivial)); have A2 := Am (Kd.R_mono (ok' := fun k_ => some k_ ≠ (.slice Au t258.length Av : Value).ownBlock) ho0 (fun k_ hk_ => Or.elim hk_ (fun hs_ => fun e_ => (((Ad.out).1 k_ e_.symm).2) hs_) (fun hn_ => (Kd.fresh' (Kd.R_lt (pR Ad.out)) k_ hn_)))); replace Ad := Am (Kd.R_mono (ok' := fun k_ => some k_ ≠ (v272 : Value).ownBlock) (Kd.R_keptB (Ad.out) hkp (fun k_ hk_ hs_ => (hk_.2) hs_)) (fun k_ hk_ => fun e_ => Or.elim (ho0.1 k_ e_.symm) (fun hs_ => hk_.2.1 hs_) (fun hn_ => Nat.not_le.2 hk_.2.2 hn_))); replace HB := Am (hb); clear Aq; (try clear hb); (try clear hkp); (try clear ho0)))
   go_roundg k1
   case measure => have := HK1.out; omega
   case rel => exact ⟨(t271), (wrap64 (Aa + 1)), (by first | rfl | (simp; done) | (simp [*]; done)), H', ⟨by have := HK1.out; omega⟩, ⟨by (with_reducible repeat (first | apply Kd.R_alloc | apply Kd.R_drewN | apply Kd.R_drew)); exact Kd.R_mono A2.out (fun _ hk => trivial)⟩, ⟨pE HB.out Ac.out⟩⟩
def relay_Put.l0 : Nat → List Int → List (S46) → Int → Int → Option (List Int × Int)
 | 0, _, _, _, _ => none
 | k + 1, x6, x22, x23, x24 => if x24 < x23 then (if 0 ≤ x24 then (if x24 < (x22.length : Int) then ((point_Put.f k ((rd_T46 x22 x24).f1.f0) ((rd_T46 x22 x24).f1.f1) ((rd_T46 x22 x24).f1.f2) ((rd_T46 x22 x24).f1.f3)).bind fun bt283 => ((varint_Put.f k (([IntKind.u64.wrap ((rd_T46 x22 x24).f0)] : List Int))).bind fun t290 => (if x6.length + t290.length < 140737488355328 then ((some (x6 ++ t290 : List Int)).bind fun y293 => (if y293.length + bt283.1.length < 140737488355328 then (relay_Put.l0 k (y293 ++ bt283.1) x22 x23 (wrap64 (x24 + 1))) else (none))) else (none)))) else (none)) else (none)) else ((frame_Put.f k (([(⟨4, x6⟩ : S50)] : List (S50)))).bind fun bt302 => (some (bt302.1, bt302.2)))
def relay_Put.f (k : Nat) (a0 : Int) (l1 : List (S46)) : Option (List Int × Int) := (relay_may.f k a0 l1).bind fun t274 => (if t274 = true then ((varint_Put.f k (([IntKind.u64.wrap (a0), IntKind.u64.wrap ((l1.length : Int))] : List Int))).bind fun t278 => (relay_Put.l0 k t278 l1 (l1.length : Int) 0)) else (some (([] : List Int), 1)))
theorem relay_Put.mono_l : ∀ k, (∀ y0 y1 y2 y3, LeO (relay_Put.l0 k y0 y1 y2 y3) (relay_Put.l0 (k + 1) y0 y1 y2 y3))
 | 0 => fun _ _ _ _ r h => by simp [relay_Put.l0] at h
 | k + 1 => by
  have ih0 := relay_Put.mono_l k
  ·intro y0 y1 y2 y3
   unfold relay_Put.l0
   repeat' first
   | (with_reducible exact ih0 _ _ _ _)
   | (with_reducible exact frame_Put.mono _ _)
   | (with_reducible exact point_Put.mono _ _ _ _ _)
   | (with_reducible exact relay_may.mono _ _ _)
   | (with_reducible exact varint_Put.mono _ _)
   | (with_reducible exact LeO.refl _)
   | (with_reducible exact LeO.none _)
   | (with_reducible refine LeO.ite ?_ ?_)
   | (with_reducible refine LeO.bind ?_ (fun _ => ?_))
   | exact ih0 _ _ _ _
   | exact frame_Put.mono _ _
   | exact point_Put.mono _ _ _ _ _
   | exact relay_may.mono _ _ _
   | exact varint_Put.mono _ _
   | exact LeO.none _
   | refine LeO.ite ?_ ?_
   | refine LeO.bind ?_ (fun _ => ?_)
theorem relay_Put.mono : ∀ a0 a1 k, LeO (relay_Put.f k a0 a1) (relay_Put.f (k + 1) a0 a1) := by
 intro a0 a1 k
 have ih0 := relay_Put.mono_l k
 unfold relay_Put.f
 repeat' first
   | (with_reducible exact ih0 _ _ _ _)
   | (with_reducible exact frame_Put.mono _ _)
   | (with_reducible exact point_Put.mono _ _ _ _ _)
   | (with_reducible exact relay_may.mono _ _ _)
   | (with_reducible exact varint_Put.mono _ _)
   | (with_reducible exact LeO.refl _)
   | (with_reducible exact LeO.none _)
   | (with_reducible refine LeO.ite ?_ ?_)
   | (with_reducible refine LeO.bind ?_ (fun _ => ?_))
   | exact ih0 _ _ _ _
   | exact frame_Put.mono _ _
   | exact point_Put.mono _ _ _ _ _
   | exact relay_may.mono _ _ _
   | exact varint_Put.mono _ _
   | exact LeO.none _
   | refine LeO.ite ?_ ?_
   | refine LeO.bind ?_ (fun _ => ?_)
set_option maxHeartbeats 8000000 in
set_option maxRecDepth 100000 in
theorem relay_Put.calls (k : Nat) (a0 : Int) (A1 : Option Addr) (c1 : Nat) (l1 : List (S46)) (r1 : List Int) (r2 : Int) (w : World) (hr1 : Kd.C k46 w A1 l1.length l1) (hc1 : l1.length ≤ c1) (h : relay_Put.f k a0 l1 = some (r1, r2)) :
  Calls Try.prog 9 #[.int .i64 a0, .slice A1 l1.length c1] w fun e w' => ∃ v0_ : Value, e = .returned (.tuple #[v0_, .int .i64 r2]) ∧ Kd.R (Kd.int .u8) 5 w' w.heap.size (fun _ => True) v0_ r1 ∧ Below w.heap.size w w' := by
 have hu46 := Try.underlying46
 have hu44 := Try.underlying44
 have hu50 := Try.underlying50
 have HR1 := Am hr1
 have HC1 := Am hc1
 clear hr1 hc1
 have HB := Am (Below.refl w.heap.size w)
 have H : ((relay_may.f k a0 l1).bind fun t274 => (if t274 = true then ((varint_Put.f k (([IntKind.u64.wrap (a0), IntKind.u64.wrap ((l1.length : Int))] : List Int))).bind fun t278 => (relay_Put.l0 k t278 l1 (l1.length : Int) 0)) else (some (([] : List Int), 1)))) = some (r1, r2) := h
 clear h
 replace H := Option.bind_eq_some_iff.mp H
 obtain ⟨t274, A30, H⟩ := H
 replace H : (if t274 = true then ((varint_Put.f k (([IntKind.u64.wrap (a0), IntKind.u64.wrap ((l1.length : Int))] : List Int))).bind fun t278 => (relay_Put.l0 k t278 l1 (l1.length : Int) 0)) else (some (([] : List Int), 1))) = some (r1, r2) := H
 have A3 := Am A30
 clear A30
 by_cases c4 : t274 = true
 rotate_left
 ·replace c4 := Bool.eq_false_iff.mpr c4
  subst c4
  have H1 : (some (([] : List Int), 1)) = some (r1, r2) := by rw [if_neg (show ¬ (false = true) by decide)] at H; exact H
  clear H
  have H := H1
  clear H1
  simp only [Option.some.injEq, Prod.mk.injEq] at H
  obtain ⟨rfl, rfl⟩ := H
  go_enter Try.func9, Try.ntmps9
  go_wp2_with (first | ((with_reducible refine gate_callee (f := 19) rfl ?_); refine goesL_ (some 13) rfl rfl Try.func19 (by kernel_rfl) rfl #[.int .i64 a0, .slice A1 l1.length c1] rfl pL ?_; (with_reducible refine (relay_may.calls k a0 _ _ l1 false _ ?Ag ?Ah A3.out).mono ?_); (case Ag => repeat (first | exact HR1.out | (with_reducible refine Kd.C_alloc ?_ _) | (with_reducible refine Kd.C_drewN ?_ _) | (with_reducible refine Kd.C_drew ?_))); (case Ah => exact HC1.out); rintro e w36 ⟨rfl, hb⟩; refine ⟨_, rfl, ?_⟩; replace HB := Am (below_step (pB HB.out) hb); (try clear hb); (try clear hb2); (try clear hk); (try clear hi)))
  go_ret2
  exact ⟨_, pX, by first | exact Kd.R_nil _ _ _ _ _ | exact Kd.N_nil _ _ _ _ _ | exact Kd.V_nil _ _ _ _ _ | exact Kd.Q_nil _ _ _ _ _ | exact Kd.S_nil _ _ _ _ _, pB HB.out⟩
 subst c4
 have H1 : ((varint_Put.f k (([IntKind.u64.wrap (a0), IntKind.u64.wrap ((l1.length : Int))] : List Int))).bind fun t278 => (relay_Put.l0 k t278 l1 (l1.length : Int) 0)) = some (r1, r2) := by rw [if_pos rfl] at H; exact H
 clear H
 have H := H1
 clear H1
 obtain ⟨y275, hy275⟩ : ∃ y_ : List Int, y_ = (([IntKind.u64.wrap (a0), IntKind.u64.wrap ((l1.length : Int))] : List Int)) := ⟨_, rfl⟩
 replace H : ((varint_Put.f k y275).bind fun t278 => (relay_Put.l0 k t278 l1 (l1.length : Int) 0)) = some (r1, r2) := by first | (rw [hy275]; with_reducible exact H) | (have H2_ := (Option.bind_some _ _).symm.trans H; rw [hy275]; with_reducible exact H2_) | (have H2_ := (Option.bind_some _ _).symm.trans H; with_reducible exact H2_) | with_reducible exact H | (rw [hy275]; exact H) | exact H
 have Ny275 := Am hy275
 clear hy275
 replace H := Option.bind_eq_some_iff.mp H
 obtain ⟨t278, A50, H⟩ := H
 replace H : (relay_Put.l0 k t278 l1 (l1.length : Int) 0) = some (r1, r2) := H
 have A5 := Am A50
 clear A50
 have H' := Am H
 clear H
 go_enter Try.func9, Try.ntmps9
 go_wp2_with (first | ((with_reducible refine gate_callee (f := 19) rfl ?_); refine goesL_ (some 13) rfl rfl Try.func19 (by kernel_rfl) rfl #[.int .i64 a0, .slice A1 l1.length c1] rfl pL ?_; (with_reducible refine (relay_may.calls k a0 _ _ l1 true _ ?Ag ?Ah A3.out).mono ?_); (case Ag => repeat (first | exact HR1.out | (with_reducible refine Kd.C_alloc ?_ _) | (with_reducible refine Kd.C_drewN ?_ _) | (with_reducible refine Kd.C_drew ?_))); (case Ah => exact HC1.out); rintro e w6 ⟨rfl, hb⟩; refine ⟨_, rfl, ?_⟩; replace HB := Am (below_step (pB HB.out) hb); (try clear hb); (try clear hb2); (try clear hk); (try clear hi)) | ((with_reducible refine gate_dst (N := 20) rfl ?_); refine Kd.R_lit (Kd.int .u64) _ 56 ?hg (N := 20) ?hd (xs := ([IntKind.u64.wrap (a0), IntKind.u64.wrap ((l1.length : Int))] : List Int)) (inner := [.int .u64 (IntKind.u64.wrap (a0)), .int .u64 (IntKind.u64.wrap ((l1.length : Int)))]) (ok := fun _ => True) (okp := fun _ => True) ?hr ?hp (fun _ hk => hk) trivial (Below.refl _ _) (Nat.le_refl _) (by simp) ?_; (case hd => rfl); (case hg => rfl); (case hr => first | (go_simp; done) | (go_simp; rfl)); (case hp => exact (Reps.one (show Kd.M (Kd.int .u64) _ _ _ (IntKind.u64.wrap (a0)) [.int .u64 (IntKind.u64.wrap (a0))] from rfl) (Reps.one (show Kd.M (Kd.int .u64) _ _ _ (IntKind.u64.wrap ((l1.length : Int))) [.int .u64 (IntKind.u64.wrap ((l1.length : Int)))] from rfl) (Reps.none _ _)))); intro v276 w7 ho8 hb hg_ hnew_; clear hg_ hnew_; (first | rw [← Ny275.out] at ho8 | (simp only [Int.reduceToNat] at ho8; rw [← Ny275.out] at ho8)); have Al := Am (Kd.R_lower ho8 (below_size (pB HB.out))); replace HB := Am (below_step (pB HB.out) hb); clear hb ho8; obtain ⟨Bb, Bc, Bd⟩ := Kd.R_slice Al.out; subst Bd) | ((with_reducible refine gate_callee (f := 24) rfl ?_); refine goesL_ (some 21) rfl rfl Try.func24 (by kernel_rfl) rfl #[.slice Bb y275.length Bc] rfl pL ?_; (with_reducible refine (varint_Put.calls k _ _ y275 t278 _ ?Ag ?Ah A5.out).mono ?_); (case Ag => exact pC (Kd.R_reads' Al.out).2.2); (case Ah => exact (Kd.R_reads' Al.out).2.1); rintro e w10 ⟨v279, rfl, ho0, hb⟩; refine ⟨_, rfl, ?_⟩; replace Al := bRa Al hb; have Av := Am (Kd.R_lower ho0 (below_size (pB HB.out))); replace HB := Am (below_step (pB HB.out) hb); (try clear hb); (try clear hb2); (try clear hk); (try clear hi); (try clear ho0)))
 go_loopg [6, 24] k (fun kq v6 v24 w' => ∃ (Ad : List Int) (Aa : Int), v24 = .int .i64 Aa ∧ Aside0 (relay_Put.l0 kq Ad l1 (l1.length : Int) Aa = some (r1, r2)) ∧ Aside0 (kq ≤ k) ∧ Aside0 (Kd.R (Kd.int .u8) 5 w' w.heap.size (fun _ => True) v6 Ad) ∧ Aside0 (Below w.heap.size w w'))
 case atStart => exact ⟨(t278), (0), (by first | rfl | (simp; done) | (simp [*]; done)), H', ⟨Nat.le_refl _⟩, ⟨by (with_reducible repeat (first | apply Kd.R_alloc | apply Kd.R_drewN | apply Kd.R_drew)); exact Av.out⟩, ⟨pB HB.out⟩⟩
 case round =>
  clear H'
  try clear c1
  try clear c2
  try clear p2
  try clear c4
  try clear c9
  obtain ⟨Ad, Aa, rfl, HA, HK1, Ae, HB⟩ := hrel
  cases gk with
  | zero => exact absurd HA.out (by simp [relay_Put.l0])
  | succ k1 =>
   have H := HA.out
   clear HA
   simp only [relay_Put.l0] at H
   by_cases c11 : Aa < (l1.length : Int)
   rotate_left
   ·rw [if_neg c11] at H
    have c11b0 : decide (Aa < (l1.length : Int)) = false := decide_eq_false c11
    clear c11
    obtain ⟨y299, hy299⟩ : ∃ y_ : List (S50), y_ = (([(⟨4, Ad⟩ : S50)] : List (S50))) := ⟨_, rfl⟩
    replace H : ((frame_Put.f k1 y299).bind fun bt302 => (some (bt302.1, bt302.2))) = some (r1, r2) := by first | (rw [hy299]; with_reducible exact H) | (have H2_ := (Option.bind_some _ _).symm.trans H; rw [hy299]; with_reducible exact H2_) | (have H2_ := (Option.bind_some _ _).symm.trans H; with_reducible exact H2_) | with_reducible exact H | (rw [hy299]; exact H) | exact H
    have Ny299 := Am hy299
    clear hy299
    replace H := Option.bind_eq_some_iff.mp H
    obtain ⟨⟨t302, t303⟩, A300, H⟩ := H
    replace H : (some (t302, t303)) = some (r1, r2) := H
    have A30 := Am A300
    clear A300
    simp only [Option.some.injEq, Prod.mk.injEq] at H
    obtain ⟨rfl, rfl⟩ := H
    obtain ⟨At, Au, A7⟩ := Kd.R_slice Ae.out
    subst A7
    go_wp2_with (first | ((with_reducible refine gate_dst (N := 46) rfl ?_); refine Kd.N_lit k50 _ 50 ?hg (N' := 46) ?hd (xs := ([(⟨4, Ad⟩ : S50)] : List (S50))) (inner := [.int .i64 4, .slice At Ad.length Au]) (ok := (fun _ => True)) (okp := (fun _ => True)) ?hr ?hp (fun _ hk => hk) ((show ∀ k_, wr.heap.size ≤ k_ → (fun _ => True) k_ from fun k_ hk => trivial) _ (Nat.le_refl _)) (Below.refl _ _) (Nat.le_refl _) (by simp) ?_; (case hd => rfl); (case hg => rfl); (case hr => first | (go_simp; done) | (go_simp; rfl)); (case hp => exact (Reps.c2 (show Kd.FK k50 _ _ (⟨4, Ad⟩ : S50) [.int .i64 4, .slice At Ad.length Au] from (k50_mkF _ _ (⟨4, Ad⟩ : S50) (Kd.R_reads' (Kd.R_mono (ok' := (fun _ => True)) (Ae.out) (fun k_ hk => trivial))).2.1 (Kd.R_F (Kd.R_mono (ok' := (fun _ => True)) (Ae.out) (fun k_ hk => trivial))))) (Reps.none _ _))); intro v300 w32 ho33 hb hg_ hnew_; clear hg_ hnew_; (first | rw [← Ny299.out] at ho33 | (simp only [Int.reduceToNat] at ho33; rw [← Ny299.out] at ho33)); have An := Am (Kd.N_lower ho33 (below_size (pB HB.out))); replace HB := Am (below_step (pB HB.out) hb); clear Ae hb ho33; obtain ⟨A8, A9, Ba⟩ := Kd.N_slice An.out; subst Ba) | ((with_reducible refine gate_callee (f := 26) rfl ?_); refine goesL_ (some 47) rfl rfl Try.func26 (by kernel_rfl) rfl #[.slice A8 y299.length A9] rfl pL ?_; (with_reducible refine (frame_Put.calls k1 _ _ y299 t302 t303 _ ?Ag ?Ah A30.out).mono ?_); (case Ag => exact pC (Kd.N_reads' An.out).2.2); (case Ah => exact (Kd.N_reads' An.out).2.1); rintro e w35 ⟨v304, rfl, ho0, hb⟩; refine ⟨_, rfl, ?_⟩; replace An := Am (Kd.N_elder' (pN An.out) (Kd.R_base ho0) hb); have Ay := Am (Kd.R_lower ho0 (below_size (pB HB.out))); replace HB := Am (below_step (pB HB.out) hb); (try clear hb); (try clear hb2); (try clear hk); (try clear hi); (try clear ho0)))
    go_ret2
    exact ⟨_, pX, by (with_reducible repeat (first | apply Kd.R_alloc | apply Kd.R_drewN | apply Kd.R_drew)); exact Ay.out, pB HB.out⟩
   rw [if_pos c11] at H
   have c11b0 : decide (Aa < (l1.length : Int)) = true := decide_eq_true c11
   clear c11
   by_cases c12 : 0 ≤ Aa
   rotate_left
   ·rw [if_neg c12] at H
    exact absurd H (by simp)
   rw [if_pos c12] at H
   have c12b0 : decide (0 ≤ Aa) = true := decide_eq_true c12
   clear c12
   by_cases c13 : Aa < (l1.length : Int)
   rotate_left
   ·rw [if_neg c13] at H
    exact absurd H (by simp)
   rw [if_pos c13] at H
   have c13b0 : decide (Aa < (l1.length : Int)) = true := decide_eq_true c13
   clear c13
   replace H := Option.bind_eq_some_iff.mp H
   obtain ⟨⟨t283, t286⟩, A140, H⟩ := H
   replace H : ((varint_Put.f k1 (([IntKind.u64.wrap ((rd_T46 l1 Aa).f0)] : List Int))).bind fun t290 => (if Ad.length + t290.length < 140737488355328 then ((some (Ad ++ t290 : List Int)).bind fun y293 => (if y293.length + t283.length < 140737488355328 then (relay_Put.l0 k1 (y293 ++ t283) l1 (l1.length : Int) (wrap64 (Aa + 1))) else (none))) else (none))) = some (r1, r2) := H
   have A14 := Am A140
   clear A140
   obtain ⟨y287, hy287⟩ : ∃ y_ : List Int, y_ = (([IntKind.u64.wrap ((rd_T46 l1 Aa).f0)] : List Int)) := ⟨_, rfl⟩
   replace H : ((varint_Put.f k1 y287).bind fun t290 => (if Ad.length + t290.length < 140737488355328 then ((some (Ad ++ t290 : List Int)).bind fun y293 => (if y293.length + t283.length < 140737488355328 then (relay_Put.l0 k1 (y293 ++ t283) l1 (l1.length : Int) (wrap64 (Aa + 1))) else (none))) else (none))) = some (r1, r2) := by first | (rw [hy287]; with_reducible exact H) | (have H2_ := (Option.bind_some _ _).symm.trans H; rw [hy287]; with_reducible exact H2_) | (have H2_ := (Option.bind_some _ _).symm.trans H; with_reducible exact H2_) | with_reducible exact H | (rw [hy287]; exact H) | exact H
   have Ny287 := Am hy287
   clear hy287
   replace H := Option.bind_eq_some_iff.mp H
   obtain ⟨t290, A150, H⟩ := H
   replace H : (if Ad.length + t290.length < 140737488355328 then ((some (Ad ++ t290 : List Int)).bind fun y293 => (if y293.length + t283.length < 140737488355328 then (relay_Put.l0 k1 (y293 ++ t283) l1 (l1.length : Int) (wrap64 (Aa + 1))) else (none))) else (none)) = some (r1, r2) := H
   have A15 := Am A150
   clear A150
   by_cases c16 : Ad.length + t290.length < 140737488355328
   rotate_left
   ·rw [if_neg c16] at H
    exact absurd H (by simp)
   rw [if_pos c16] at H
   have LMc16 := Am c16
   clear c16
   obtain ⟨y293, hy293⟩ : ∃ y_ : List Int, y_ = (Ad ++ t290) := ⟨_, rfl⟩
   replace H : (if y293.length + t283.length < 140737488355328 then (relay_Put.l0 k1 (y293 ++ t283) l1 (l1.length : Int) (wrap64 (Aa + 1))) else (none)) = some (r1, r2) := by first | (rw [hy293]; with_reducible exact H) | (have H2_ := (Option.bind_some _ _).symm.trans H; rw [hy293]; with_reducible exact H2_) | (have H2_ := (Option.bind_some _ _).symm.trans H; with_reducible exact H2_) | with_reducible exact H | (rw [hy293]; exact H) | exact H
   have Ny293 := Am hy293
   clear hy293
   by_cases c17 : y293.length + t283.length < 140737488355328
   rotate_left
   ·rw [if_neg c17] at H
    exact absurd H (by simp)
   rw [if_pos c17] at H
   have LMc17 := Am c17
   clear c17
   obtain ⟨y296, hy296⟩ : ∃ y_ : List Int, y_ = (y293 ++ t283) := ⟨_, rfl⟩
   replace H : (relay_Put.l0 k1 y296 l1 (l1.length : Int) (wrap64 (Aa + 1))) = some (r1, r2) := by first | (rw [hy296]; with_reducible exact H) | (have H2_ := (Option.bind_some _ _).symm.trans H; rw [hy296]; with_reducible exact H2_) | (have H2_ := (Option.bind_some _ _).symm.trans H; with_reducible exact H2_) | with_reducible exact H | (rw [hy296]; exact H) | exact H
   have Ny296 := Am hy296
   clear hy296
   have H' := Am H
   clear H
   have p281 : 0 ≤ (Aa : Int) := of_decide_eq_true pS
   have q281 : Aa < (l1.length : Int) := of_decide_eq_true pS
   obtain ⟨ad281, e281, hx281_0, hx281_1, hx281_2, hx281_3, hx281_4⟩ := at_T46u HR1.out Aa p281 q281 HB.out
   cases e281
   replace p281 := eq_true p281
   replace q281 := eq_true q281
   go_wp2_with (first | ((with_reducible refine gate_dst (N := 8) rfl ?_); refine box_event ?hg (N := 8) ?hd (cs := #[.int .i64 0, .int .i64 0, .int .i64 0, .int .i64 0, .int .u32 0]) (t := 46) ?hr ?_; (case hd => rfl); (case hg => rfl); (case hr => first | (go_simp; done) | (go_simp; rfl)); intro Ak hg w18 hbox hb; replace Ae := bRa Ae hb; have Ab := Am (hbox); have Aw := Am ((by rw [hg]; exact (below_size (pB HB.out)) : w.heap.size ≤ Ak)); replace HB := Am (below_step (pB HB.out) hb); have Af := Aw; clear hb hbox hg; obtain ⟨_, _, _, _, _⟩ := bc5 Ab.out; obtain ⟨_, _, _, _, _⟩ := bf5 Ab.out) | ((with_reducible refine gate_callee (f := 25) rfl ?_); refine goesL_ (some 31) rfl rfl Try.func25 (by kernel_rfl) rfl #[.agg #[.int .i64 ((rd_T46 l1 Aa).f1.f0), .int .i64 ((rd_T46 l1 Aa).f1.f1), .int .i64 ((rd_T46 l1 Aa).f1.f2), .int .u32 ((rd_T46 l1 Aa).f1.f3)]] rfl pL ?_; (with_reducible refine (point_Put.calls k1 ((rd_T46 l1 Aa).f1.f0) ((rd_T46 l1 Aa).f1.f1) ((rd_T46 l1 Aa).f1.f2) ((rd_T46 l1 Aa).f1.f3) t283 t286 _ A14.out).mono ?_); rintro e w20 ⟨v284, rfl, ho0, hb⟩; refine ⟨_, rfl, ?_⟩; have Ac := Am (Kd.R_lower (Kd.R_new' ho0 (Kd.R_lt (by (with_reducible repeat (first | apply Kd.R_alloc | apply Kd.R_drewN | apply Kd.R_drew)); exact (Kd.R_mono (Rf5 (g := Ak) (Kd.R_types Ae.out Ab.out (by decide)) (fun _ hk => hk.2)) (fun _ h_ => h_.1))))) (below_size (pE HB.out Af.out))); replace Ae := Am (Kd.R_elder' (by (with_reducible repeat (first | apply Kd.R_alloc | apply Kd.R_drewN | apply Kd.R_drew)); exact (Kd.R_mono (Rf5 (g := Ak) (Kd.R_types Ae.out Ab.out (by decide)) (fun _ hk => hk.2)) (fun _ h_ => h_.1))) (Kd.R_base ho0) hb); replace Ab := Am (blk_below (g := Ak) (kX0 Ab.out) hb); replace HB := Am (below_step (pE HB.out Af.out) hb); (try clear hb); (try clear hb2); (try clear hk); (try clear hi); (try clear ho0); obtain ⟨_, _, _, _, _⟩ := bc5 Ab.out; obtain ⟨_, _, _, _, _⟩ := bf5 Ab.out) | ((with_reducible refine gate_dst (N := 38) rfl ?_); refine Kd.R_lit (Kd.int .u64) _ 56 ?hg (N := 38) ?hd (xs := ([IntKind.u64.wrap ((rd_T46 l1 Aa).f0)] : List Int)) (inner := [.int .u64 (IntKind.u64.wrap ((rd_T46 l1 Aa).f0))]) (ok := fun _ => True) (okp := fun _ => True) ?hr ?hp (fun _ hk => hk) trivial (Below.refl _ _) (Nat.le_refl _) (by simp) ?_; (case hd => rfl); (case hg => rfl); (case hr => first | (go_simp; done) | (go_simp; rfl)); (case hp => exact (Reps.one (show Kd.M (Kd.int .u64) _ _ _ (IntKind.u64.wrap ((rd_T46 l1 Aa).f0)) [.int .u64 (IntKind.u64.wrap ((rd_T46 l1 Aa).f0))] from rfl) (Reps.none _ _))); intro v288 w22 ho23 hb hg_ hnew_; clear hg_ hnew_; (first | rw [← Ny287.out] at ho23 | (simp only [Int.reduceToNat] at ho23; rw [← Ny287.out] at ho23)); replace Ae := bRa Ae hb; replace Ac := bRa Ac hb; have Ai := Am (Kd.R_lower ho23 (below_size (pE HB.out Af.out))); replace Ab := kBa Ab hb; replace HB := Am (below_step (pE HB.out Af.out) hb); clear hb ho23; obtain ⟨Az, A0, A2⟩ := Kd.R_slice Ai.out; subst A2) | ((with_reducible refine gate_callee (f := 24) rfl ?_); refine goesL_ (some 39) rfl rfl Try.func24 (by kernel_rfl) rfl #[.slice Az y287.length A0] rfl pL ?_; (with_reducible refine (varint_Put.calls k1 _ _ y287 t290 _ ?Ag ?Ah A15.out).mono ?_); (case Ag => exact pC (Kd.R_reads' Ai.out).2.2); (case Ah => exact (Kd.R_reads' Ai.out).2.1); rintro e w25 ⟨v291, rfl, ho0, hb⟩; refine ⟨_, rfl, ?_⟩; replace Ai := bRa Ai hb; have Aj := Am (Kd.R_lower (Kd.R_new' (Kd.R_new' ho0 (Kd.R_lt (pR Ae.out))) (Kd.R_lt (pR Ac.out))) (below_size (pE HB.out Af.out))); replace Ae := Am (Kd.R_elder' (pR Ae.out) (Kd.R_base ho0) hb); replace Ac := Am (Kd.R_elder' (pR Ac.out) (Kd.R_base ho0) hb); replace Ab := kBa Ab hb; replace HB := Am (below_step (pE HB.out Af.out) hb); (try clear hb); (try clear hb2); (try clear hk); (try clear hi); (try clear ho0); obtain ⟨Ap, Aq, A4⟩ := Kd.R_slice Aj.out; subst A4) | ((with_reducible refine gate_builtin (b := .append) (xs := #[.tmp 34, .tmp 39]) rfl ?_); at_builtin; refine Kd.R_append_rows (Kd.int .u8) (w0 := w) w.heap.size rfl (.tmp 34) (.tmp 39) 22 5 (.int .u8 0) 1 rfl Try.underlying22 info5 rfl (by decide) (by omega) u6 Ad t290 _ _ _ (fun k_ => some k_ ≠ (v284 : Value).ownBlock ∧ some k_ ≠ (.slice Ap t290.length Aq : Value).ownBlock) (fun _ => False) rfl rfl ?aO ?aR (fun _ _ h => h) (fun _ h => h.elim) ?aF ?aB ?aS ?aL ?_; (case aR => exact pC (Kd.R_reads' Aj.out).2.2); (case aB => exact (pE HB.out Af.out)); (case aF => exact (fun k_ hk => ⟨Kd.fresh' (Kd.R_lt (pR Ac.out)) k_ hk, Kd.fresh' (Kd.R_lt (pR Aj.out)) k_ hk⟩)); (case aO => exact (by (with_reducible repeat (first | apply Kd.R_alloc | apply Kd.R_drewN | apply Kd.R_drew)); exact Kd.R_mono Ae.out (fun _ hk => ⟨hk.1.2, hk.2⟩))); (case aS => exact (below_size (pE HB.out Af.out))); (case aL => have := LMc16.out; omega); intro v294 w26 ho hb hg hat; rw [← Ny293.out] at ho; replace Ab := Am (blk_grown (g := Ak) (o := .cells #[.int .i64 ((rd_T46 l1 Aa).f0), .int .i64 ((rd_T46 l1 Aa).f1.f0), .int .i64 ((rd_T46 l1 Aa).f1.f1), .int .i64 ((rd_T46 l1 Aa).f1.f2), .int .u32 ((rd_T46 l1 Aa).f1.f3)] 46 (0, 0)) (pK Ab.out) hg (Kd.R_ne Ae.out Ab.out (by decide))); replace Ac := Am (Kd.R_after (ok := (fun k_ => some k_ ≠ (.slice Ap t290.length Aq : Value).ownBlock)) (by (with_reducible repeat (first | apply Kd.R_alloc | apply Kd.R_drewN | apply Kd.R_drew)); exact Kd.R_mono Ac.out (fun _ hk => ⟨hk.2, hk.1.2⟩)) hg hat); replace Ai := Am (Kd.R_over' (pR Ai.out) (Kd.R_typed (pR Ae.out)) (by decide) hg); replace Aj := Am (Kd.R_after (ok := (fun k_ => some k_ ≠ (v284 : Value).ownBlock)) (by (with_reducible repeat (first | apply Kd.R_alloc | apply Kd.R_drewN | apply Kd.R_drew)); exact Kd.R_mono Aj.out (fun _ hk => ⟨hk.2, hk.1.2⟩)) hg hat); replace HB := Am (hb); have Ao := Am (ho); clear Ae ho hb hg hat; obtain ⟨Ar, As, A6⟩ := Kd.R_slice Ac.out; subst A6) | ((with_reducible refine gate_builtin (b := .append) (xs := #[.tmp 40, .tmp 41]) rfl ?_); at_builtin; refine Kd.R_append_rows (Kd.int .u8) (w0 := w) w.heap.size rfl (.tmp 40) (.tmp 41) 22 5 (.int .u8 0) 1 rfl Try.underlying22 info5 rfl (by decide) (by omega) v294 y293 t283 _ _ _ (fun k_ => some k_ ≠ (.slice Ar t283.length As : Value).ownBlock ∧ some k_ ≠ (.slice Ap t290.length Aq : Value).ownBlock) (fun _ => False) rfl rfl ?aO ?aR (fun _ _ h => h) (fun _ h => h.elim) ?aF ?aB ?aS ?aL ?_; (case aR => exact pC (Kd.R_reads' Ac.out).2.2); (case aB => exact (pE HB.out Af.out)); (case aF => exact (fun k_ hk => ⟨Kd.fresh' (Kd.R_lt (pR Ac.out)) k_ hk, Kd.fresh' (Kd.R_lt (pR Aj.out)) k_ hk⟩)); (case aO => exact (pR Ao.out)); (case aS => exact (below_size (pE HB.out Af.out))); (case aL => have := LMc17.out; omega); intro v297 w28 ho hb hg hat; rw [← Ny296.out] at ho; replace Ab := Am (blk_grown (g := Ak) (o := .cells #[.int .i64 ((rd_T46 l1 Aa).f0), .int .i64 ((rd_T46 l1 Aa).f1.f0), .int .i64 ((rd_T46 l1 Aa).f1.f1), .int .i64 ((rd_T46 l1 Aa).f1.f2), .int .u32 ((rd_T46 l1 Aa).f1.f3)] 46 (0, 0)) (pK Ab.out) hg (Kd.R_ne Ao.out Ab.out (by decide))); replace Ac := Am (Kd.R_after (ok := (fun k_ => some k_ ≠ (.slice Ap t290.length Aq : Value).ownBlock)) (pR Ac.out) hg hat); replace Ai := Am (Kd.R_over' (pR Ai.out) (Kd.R_typed (pR Ao.out)) (by decide) hg); replace Aj := Am (Kd.R_after (ok := (fun k_ => some k_ ≠ (.slice Ar t283.length As : Value).ownBlock)) (pR Aj.out) hg hat); replace HB := Am (hb); have Ax := Am (ho); clear Ao ho hb hg hat))
   go_roundg k1
   case measure => have := HK1.out; omega
   case rel => exact ⟨(y296), (wrap64 (Aa + 1)), (by first | rfl | (simp; done) | (simp [*]; done)), H', ⟨by have := HK1.out; omega⟩, ⟨by (with_reducible repeat (first | apply Kd.R_alloc | apply Kd.R_drewN | apply Kd.R_drew)); exact Kd.R_mono Ax.out (fun _ hk => trivial)⟩, ⟨pE HB.out Af.out⟩⟩
def garnerref04_May.f (a0_0 : Int) (a0_1 : Int) (a0_2 : Int) (a0_3 : Int) : Option (Bool) := if a0_0 ≥ 1 then (if a0_0 ≤ 2147483647 then (if a0_1 ≥ 0 then (if a0_1 ≤ 2147483647 then (if a0_2 ≥ 0 then (some (decide (a0_2 ≤ 4096))) else (some false)) else (some false)) else (some false)) else (some false)) else (some false)
set_option maxHeartbeats 8000000 in
set_option maxRecDepth 100000 in
theorem garnerref04_May.calls (a0_0 : Int) (a0_1 : Int) (a0_2 : Int) (a0_3 : Int) (r : Bool) (w : World) (h : garnerref04_May.f a0_0 a0_1 a0_2 a0_3 = some r) :
  Calls Try.prog 27 #[.agg #[.int .i64 a0_0, .int .i64 a0_1, .int .i64 a0_2, .int .u32 a0_3]] w fun e w' => e = .returned (.bool r) ∧ Below w.heap.size w w' := by
 have hu44 := Try.underlying44
 have HB := Am (Below.refl w.heap.size w)
 have H : (if a0_0 ≥ 1 then (if a0_0 ≤ 2147483647 then (if a0_1 ≥ 0 then (if a0_1 ≤ 2147483647 then (if a0_2 ≥ 0 then (some (decide (a0_2 ≤ 4096))) else (some false)) else (some false)) else (some false)) else (some false)) else (some false)) = some r := h
 clear h
 by_cases c2 : a0_0 ≥ 1
 rotate_left
 ·rw [if_neg c2] at H
  have c2b0 : decide (1 ≤ a0_0) = false := decide_eq_false c2
  clear c2
  obtain rfl := Option.some.inj H
  go_enter Try.func27, Try.ntmps27
  go_wp2_with (first | ((with_reducible refine gate_dst (N := 1) rfl ?_); refine box_event ?hg (N := 1) ?hd (cs := #[.int .i64 a0_0, .int .i64 a0_1, .int .i64 a0_2, .int .u32 a0_3]) (t := 44) ?hr ?_; (case hd => rfl); (case hg => rfl); (case hr => first | (go_simp; done) | (go_simp; rfl)); intro Ab hg w17 hbox hb; have Aa := Am (hbox); have Ac := Am ((by rw [hg]; exact (below_size (pB HB.out)) : w.heap.size ≤ Ab)); replace HB := Am (below_step (pB HB.out) hb); have Ad := Ac; clear hb hbox hg; obtain ⟨_, _, _, _⟩ := bc4 Aa.out; obtain ⟨_, _, _, _⟩ := bf4 Aa.out))
  go_ret
  exact ⟨pX, pE HB.out Ad.out⟩
 rw [if_pos c2] at H
 have c2b0 : decide (1 ≤ a0_0) = true := decide_eq_true c2
 clear c2
 by_cases c3 : a0_0 ≤ 2147483647
 rotate_left
 ·rw [if_neg c3] at H
  have c3b0 : decide (a0_0 ≤ 2147483647) = false := decide_eq_false c3
  clear c3
  obtain rfl := Option.some.inj H
  go_enter Try.func27, Try.ntmps27
  go_wp2_with (first | ((with_reducible refine gate_dst (N := 1) rfl ?_); refine box_event ?hg (N := 1) ?hd (cs := #[.int .i64 a0_0, .int .i64 a0_1, .int .i64 a0_2, .int .u32 a0_3]) (t := 44) ?hr ?_; (case hd => rfl); (case hg => rfl); (case hr => first | (go_simp; done) | (go_simp; rfl)); intro Ab hg w15 hbox hb; have Aa := Am (hbox); have Ac := Am ((by rw [hg]; exact (below_size (pB HB.out)) : w.heap.size ≤ Ab)); replace HB := Am (below_step (pB HB.out) hb); have Ad := Ac; clear hb hbox hg; obtain ⟨_, _, _, _⟩ := bc4 Aa.out; obtain ⟨_, _, _, _⟩ := bf4 Aa.out))
  go_ret
  exact ⟨pX, pE HB.out Ad.out⟩
 rw [if_pos c3] at H
 have c3b0 : decide (a0_0 ≤ 2147483647) = true := decide_eq_true c3
 clear c3
 by_cases c4 : a0_1 ≥ 0
 rotate_left
 ·rw [if_neg c4] at H
  have c4b0 : decide (0 ≤ a0_1) = false := decide_eq_false c4
  clear c4
  obtain rfl := Option.some.inj H
  go_enter Try.func27, Try.ntmps27
  go_wp2_with (first | ((with_reducible refine gate_dst (N := 1) rfl ?_); refine box_event ?hg (N := 1) ?hd (cs := #[.int .i64 a0_0, .int .i64 a0_1, .int .i64 a0_2, .int .u32 a0_3]) (t := 44) ?hr ?_; (case hd => rfl); (case hg => rfl); (case hr => first | (go_simp; done) | (go_simp; rfl)); intro Ab hg w13 hbox hb; have Aa := Am (hbox); have Ac := Am ((by rw [hg]; exact (below_size (pB HB.out)) : w.heap.size ≤ Ab)); replace HB := Am (below_step (pB HB.out) hb); have Ad := Ac; clear hb hbox hg; obtain ⟨_, _, _, _⟩ := bc4 Aa.out; obtain ⟨_, _, _, _⟩ := bf4 Aa.out))
  go_ret
  exact ⟨pX, pE HB.out Ad.out⟩
 rw [if_pos c4] at H
 have c4b0 : decide (0 ≤ a0_1) = true := decide_eq_true c4
 clear c4
 by_cases c5 : a0_1 ≤ 2147483647
 rotate_left
 ·rw [if_neg c5] at H
  have c5b0 : decide (a0_1 ≤ 2147483647) = false := decide_eq_false c5
  clear c5
  obtain rfl := Option.some.inj H
  go_enter Try.func27, Try.ntmps27
  go_wp2_with (first | ((with_reducible refine gate_dst (N := 1) rfl ?_); refine box_event ?hg (N := 1) ?hd (cs := #[.int .i64 a0_0, .int .i64 a0_1, .int .i64 a0_2, .int .u32 a0_3]) (t := 44) ?hr ?_; (case hd => rfl); (case hg => rfl); (case hr => first | (go_simp; done) | (go_simp; rfl)); intro Ab hg w11 hbox hb; have Aa := Am (hbox); have Ac := Am ((by rw [hg]; exact (below_size (pB HB.out)) : w.heap.size ≤ Ab)); replace HB := Am (below_step (pB HB.out) hb); have Ad := Ac; clear hb hbox hg; obtain ⟨_, _, _, _⟩ := bc4 Aa.out; obtain ⟨_, _, _, _⟩ := bf4 Aa.out))
  go_ret
  exact ⟨pX, pE HB.out Ad.out⟩
 rw [if_pos c5] at H
 have c5b0 : decide (a0_1 ≤ 2147483647) = true := decide_eq_true c5
 clear c5
 by_cases c6 : a0_2 ≥ 0
 ·rw [if_pos c6] at H
  have c6b0 : decide (0 ≤ a0_2) = true := decide_eq_true c6
  clear c6
  obtain rfl := Option.some.inj H
  go_enter Try.func27, Try.ntmps27
  go_wp2_with (first | ((with_reducible refine gate_dst (N := 1) rfl ?_); refine box_event ?hg (N := 1) ?hd (cs := #[.int .i64 a0_0, .int .i64 a0_1, .int .i64 a0_2, .int .u32 a0_3]) (t := 44) ?hr ?_; (case hd => rfl); (case hg => rfl); (case hr => first | (go_simp; done) | (go_simp; rfl)); intro Ab hg w7 hbox hb; have Aa := Am (hbox); have Ac := Am ((by rw [hg]; exact (below_size (pB HB.out)) : w.heap.size ≤ Ab)); replace HB := Am (below_step (pB HB.out) hb); have Ad := Ac; clear hb hbox hg; obtain ⟨_, _, _, _⟩ := bc4 Aa.out; obtain ⟨_, _, _, _⟩ := bf4 Aa.out))
  go_ret
  exact ⟨pX, pE HB.out Ad.out⟩
 rw [if_neg c6] at H
 have c6b0 : decide (0 ≤ a0_2) = false := decide_eq_false c6
 clear c6
 obtain rfl := Option.some.inj H
 go_enter Try.func27, Try.ntmps27
 go_wp2_with (first | ((with_reducible refine gate_dst (N := 1) rfl ?_); refine box_event ?hg (N := 1) ?hd (cs := #[.int .i64 a0_0, .int .i64 a0_1, .int .i64 a0_2, .int .u32 a0_3]) (t := 44) ?hr ?_; (case hd => rfl); (case hg => rfl); (case hr => first | (go_simp; done) | (go_simp; rfl)); intro Ab hg w9 hbox hb; have Aa := Am (hbox); have Ac := Am ((by rw [hg]; exact (below_size (pB HB.out)) : w.heap.size ≤ Ab)); replace HB := Am (below_step (pB HB.out) hb); have Ad := Ac; clear hb hbox hg; obtain ⟨_, _, _, _⟩ := bc4 Aa.out; obtain ⟨_, _, _, _⟩ := bf4 Aa.out))
 go_ret
 exact ⟨pX, pE HB.out Ad.out⟩
end Go.Proofs.Ytjebpaahpehfnaa.PRelayPuts
