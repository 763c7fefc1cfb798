/- What the law reaches, as plain Lean functions, and that the machine's calls answer just that. -/
import Derived.Test.YtpefjfibhjnijaaPLivePutsx0
import Derived.Test.YtpefjfibhjnijaaPLivePutsx4
import Derived.Test.YtpefjfibhjnijaaPLivePutsx5
namespace Go.Proofs.Ytpefjfibhjnijaa.PLivePuts
open Go.RowKit Go.Proofs.YtpefjfibhjnijaaW.PrintWords Go.Proofs.YtpefjfibhjnijaaW.PrintLast Go.Proofs.YtpefjfibhjnijaaW.PrintMore
set_option linter.unusedVariables false
set_option linter.unusedSimpArgs false
section
attribute [local go_sem] max2_int min2_int max_two min_two max_three min_three max_four min_four
attribute [local go_sem] wrap64_l1 wrap64_l2 wrap64_l3 wrap64_l4 wrap64_l5
mutual
def slices_stableCmpFunc_api_Point.l0 : Nat → List (S24) → Int → Int → Int → Int → Option ((List (S24)))
 | 0, _, _, _, _, _ => none
 | k + 1, x0, x1, x6, x7, x8 => if x8 ≤ x1 then ((slices_insertionSortCmpFunc_api_Point.f k x0 x7 x8).bind fun t150 => (slices_stableCmpFunc_api_Point.l0 k t150 x1 x6 x8 (wrap64 (x8 + x6)))) else ((slices_insertionSortCmpFunc_api_Point.f k x0 x7 x1).bind fun t151 => (slices_stableCmpFunc_api_Point.l1 k t151 x1 x6))
def slices_stableCmpFunc_api_Point.l1 : Nat → List (S24) → Int → Int → Option ((List (S24)))
 | 0, _, _, _ => none
 | k + 1, x0, x1, x6 => if x6 < x1 then (slices_stableCmpFunc_api_Point.l2 k x0 x1 x6 0 (wrap64 (2 * x6))) else (some x0)
def slices_stableCmpFunc_api_Point.l2 : Nat → List (S24) → Int → Int → Int → Int → Option ((List (S24)))
 | 0, _, _, _, _, _ => none
 | k + 1, x0, x1, x6, x7, x8 => if x8 ≤ x1 then ((slices_symMergeCmpFunc_api_Point.f k x0 x7 (wrap64 (x7 + x6)) x8).bind fun t152 => (slices_stableCmpFunc_api_Point.l2 k t152 x1 x6 x8 (wrap64 (x8 + (wrap64 (2 * x6)))))) else (if (wrap64 (x7 + x6)) < x1 then ((slices_symMergeCmpFunc_api_Point.f k x0 x7 (wrap64 (x7 + x6)) x1).bind fun t153 => (slices_stableCmpFunc_api_Point.l1 k t153 x1 (wrap64 (x6 * 2)))) else (slices_stableCmpFunc_api_Point.l1 k x0 x1 (wrap64 (x6 * 2))))
end
def slices_stableCmpFunc_api_Point.f (k : Nat) (l0 : List (S24)) (a1 : Int)  : Option ((List (S24))) := slices_stableCmpFunc_api_Point.l0 k l0 a1 20 0 20
theorem slices_stableCmpFunc_api_Point.mono_l : ∀ k, (∀ y0 y1 y2 y3 y4, LeO (slices_stableCmpFunc_api_Point.l0 k y0 y1 y2 y3 y4) (slices_stableCmpFunc_api_Point.l0 (k + 1) y0 y1 y2 y3 y4)) ∧ (∀ y0 y1 y2, LeO (slices_stableCmpFunc_api_Point.l1 k y0 y1 y2) (slices_stableCmpFunc_api_Point.l1 (k + 1) y0 y1 y2)) ∧ (∀ y0 y1 y2 y3 y4, LeO (slices_stableCmpFunc_api_Point.l2 k y0 y1 y2 y3 y4) (slices_stableCmpFunc_api_Point.l2 (k + 1) y0 y1 y2 y3 y4))
 | 0 => ⟨fun _ _ _ _ _ r h => by simp [slices_stableCmpFunc_api_Point.l0] at h, fun _ _ _ r h => by simp [slices_stableCmpFunc_api_Point.l1] at h, fun _ _ _ _ _ r h => by simp [slices_stableCmpFunc_api_Point.l2] at h⟩
 | k + 1 => by
  obtain ⟨ih0, ih1, ih2⟩ := slices_stableCmpFunc_api_Point.mono_l k
  refine ⟨?_, ?_, ?_⟩
  ·intro y0 y1 y2 y3 y4
   unfold slices_stableCmpFunc_api_Point.l0
   repeat' first
   | (with_reducible exact ih0 _ _ _ _ _)
   | (with_reducible exact ih1 _ _ _)
   | (with_reducible exact ih2 _ _ _ _ _)
   | (with_reducible exact slices_insertionSortCmpFunc_api_Point.mono _ _ _ _)
   | (with_reducible exact slices_symMergeCmpFunc_api_Point.mono _ _ _ _ _)
   | (with_reducible exact LeO.refl _)
   | (with_reducible exact LeO.none _)
   | (with_reducible refine LeO.ite ?_ ?_)
   | (with_reducible refine LeO.bind ?_ (fun _ => ?_))
   | exact ih0 _ _ _ _ _
   | exact ih1 _ _ _
   | exact ih2 _ _ _ _ _
   | exact slices_insertionSortCmpFunc_api_Point.mono _ _ _ _
   | exact slices_symMergeCmpFunc_api_Point.mono _ _ _ _ _
   | exact LeO.none _
   | refine LeO.ite ?_ ?_
   | refine LeO.bind ?_ (fun _ => ?_)
  ·intro y0 y1 y2
   unfold slices_stableCmpFunc_api_Point.l1
   repeat' first
   | (with_reducible exact ih0 _ _ _ _ _)
   | (with_reducible exact ih1 _ _ _)
   | (with_reducible exact ih2 _ _ _ _ _)
   | (with_reducible exact slices_insertionSortCmpFunc_api_Point.mono _ _ _ _)
   | (with_reducible exact slices_symMergeCmpFunc_api_Point.mono _ _ _ _ _)
   | (with_reducible exact LeO.refl _)
   | (with_reducible exact LeO.none _)
   | (with_reducible refine LeO.ite ?_ ?_)
   | (with_reducible refine LeO.bind ?_ (fun _ => ?_))
   | exact ih0 _ _ _ _ _
   | exact ih1 _ _ _
   | exact ih2 _ _ _ _ _
   | exact slices_insertionSortCmpFunc_api_Point.mono _ _ _ _
   | exact slices_symMergeCmpFunc_api_Point.mono _ _ _ _ _
   | exact LeO.none _
   | refine LeO.ite ?_ ?_
   | refine LeO.bind ?_ (fun _ => ?_)
  ·intro y0 y1 y2 y3 y4
   unfold slices_stableCmpFunc_api_Point.l2
   repeat' first
   | (with_reducible exact ih0 _ _ _ _ _)
   | (with_reducible exact ih1 _ _ _)
   | (with_reducible exact ih2 _ _ _ _ _)
   | (with_reducible exact slices_insertionSortCmpFunc_api_Point.mono _ _ _ _)
   | (with_reducible exact slices_symMergeCmpFunc_api_Point.mono _ _ _ _ _)
   | (with_reducible exact LeO.refl _)
   | (with_reducible exact LeO.none _)
   | (with_reducible refine LeO.ite ?_ ?_)
   | (with_reducible refine LeO.bind ?_ (fun _ => ?_))
   | exact ih0 _ _ _ _ _
   | exact ih1 _ _ _
   | exact ih2 _ _ _ _ _
   | exact slices_insertionSortCmpFunc_api_Point.mono _ _ _ _
   | exact slices_symMergeCmpFunc_api_Point.mono _ _ _ _ _
   | exact LeO.none _
   | refine LeO.ite ?_ ?_
   | refine LeO.bind ?_ (fun _ => ?_)
theorem slices_stableCmpFunc_api_Point.mono : ∀ a0 a1 k, LeO (slices_stableCmpFunc_api_Point.f k a0 a1) (slices_stableCmpFunc_api_Point.f (k + 1) a0 a1) := by
 intro a0 a1 k
 obtain ⟨ih0, ih1, ih2⟩ := slices_stableCmpFunc_api_Point.mono_l k
 unfold slices_stableCmpFunc_api_Point.f
 repeat' first
   | (with_reducible exact ih0 _ _ _ _ _)
   | (with_reducible exact ih1 _ _ _)
   | (with_reducible exact ih2 _ _ _ _ _)
   | (with_reducible exact slices_insertionSortCmpFunc_api_Point.mono _ _ _ _)
   | (with_reducible exact slices_symMergeCmpFunc_api_Point.mono _ _ _ _ _)
   | (with_reducible exact LeO.refl _)
   | (with_reducible exact LeO.none _)
   | (with_reducible refine LeO.ite ?_ ?_)
   | (with_reducible refine LeO.bind ?_ (fun _ => ?_))
   | exact ih0 _ _ _ _ _
   | exact ih1 _ _ _
   | exact ih2 _ _ _ _ _
   | exact slices_insertionSortCmpFunc_api_Point.mono _ _ _ _
   | exact slices_symMergeCmpFunc_api_Point.mono _ _ _ _ _
   | exact LeO.none _
   | refine LeO.ite ?_ ?_
   | refine LeO.bind ?_ (fun _ => ?_)
set_option maxHeartbeats 8000000 in
set_option maxRecDepth 100000 in
theorem slices_stableCmpFunc_api_Point.calls (k : Nat) (P0_ : Nat → Prop) (u9000_ : Value) (l0 : List (S24)) (a1 : Int)  (r : List (S24)) (w0 w : World) (hB : Below w0.heap.size w0 w) (ho0 : Kd.R k24 24 w w0.heap.size P0_ u9000_ l0) (h : slices_stableCmpFunc_api_Point.f k l0 a1 = some r) :
  Calls Try.prog 58 #[u9000_, .int .i64 a1, .func (.func 48) #[] #[]] w fun e w' => e = .returned (.tuple #[]) ∧ Kd.R k24 24 w' w0.heap.size (fun k_ => (P0_ k_ ∨ w.heap.size ≤ k_)) u9000_ r ∧ Below w0.heap.size w0 w' ∧ Kept w w' (fun k_ => P0_ k_) := by
 have As := Am (show Kd.R k24 24 w w0.heap.size (fun k_ => (P0_ k_ ∨ w.heap.size ≤ k_)) u9000_ l0 from Kd.R_mono ho0 (fun k_ hk => (.inl hk)))
 have HK := Am (Kept.refl w (fun k_ => P0_ k_))
 have HW0 := Am hB.size
 have HB := Am hB
 clear hB
 have H : (slices_stableCmpFunc_api_Point.l0 k l0 a1 20 0 20) = some r := h
 clear h
 have H' := Am H
 clear H
 go_enter Try.func58, Try.ntmps58
 go_wp2
 go_loopg [7, 8] k (fun kq v7 v8 w' => ∃ (Af : List (S24)) (Al : Int) (Ag : Int), v7 = .int .i64 Al ∧ v8 = .int .i64 Ag ∧ Aside0 (slices_stableCmpFunc_api_Point.l0 kq Af a1 20 Al Ag = some r) ∧ Aside0 (kq ≤ k) ∧ Aside0 (Kd.R k24 24 w' w0.heap.size (fun k_ => (P0_ k_ ∨ w.heap.size ≤ k_)) u9000_ Af) ∧ Aside0 (Kept w w' (fun k_ => P0_ k_)) ∧ Aside0 (Below w0.heap.size w0 w'))
 case atStart => exact ⟨(l0), (0), (20), (by first | rfl | (simp; done) | (simp [*]; done)), (by first | rfl | (simp; done) | (simp [*]; done)), H', ⟨Nat.le_refl _⟩, ⟨by (with_reducible repeat (first | apply Kd.R_alloc | apply Kd.R_drewN | apply Kd.R_drew)); exact As.out⟩, ⟨by repeat (first | (with_reducible first | exact HK.out | apply Kept.alloc | apply Kept.drewN | apply Kept.drew) | exact HK.out)⟩, ⟨pB HB.out⟩⟩
 case round =>
  clear H'
  try clear p2
  obtain ⟨Af, Al, Ag, rfl, rfl, HA, HK1, Aa, HK, HB⟩ := hrel
  cases gk with
  | zero => exact absurd HA.out (by simp [slices_stableCmpFunc_api_Point.l0])
  | succ k1 =>
   have H := HA.out
   clear HA
   simp only [slices_stableCmpFunc_api_Point.l0] at H
   by_cases c4 : Ag ≤ a1
   ·rw [if_pos c4] at H
    have c4b0 : decide (Ag ≤ a1) = true := decide_eq_true c4
    clear c4
    replace H := Option.bind_eq_some_iff.mp H
    obtain ⟨t150, A50, H⟩ := H
    replace H : (slices_stableCmpFunc_api_Point.l0 k1 t150 a1 20 Ag (wrap64 (Ag + 20))) = some r := H
    have A5 := Am A50
    clear A50
    have H' := Am H
    clear H
    obtain ⟨Aq, Ar, At⟩ := Kd.R_slice Aa.out
    subst At
    go_wp2_with (first | ((with_reducible refine gate_callee (f := 63) rfl ?_); refine goesL_ (some 18) rfl rfl Try.func63 (by kernel_rfl) rfl #[.slice Aq Af.length Ar, .int .i64 Al, .int .i64 Ag, .func (.func 48) #[] #[]] rfl pL ?_; (with_reducible refine (slices_insertionSortCmpFunc_api_Point.calls k1 (fun k_ => some k_ = (.slice Aq Af.length Ar : Value).ownBlock) (.slice Aq Af.length Ar) Af Al Ag t150 w0 _ ?Aj ?Ak A5.out).mono ?_); (case Aj => repeat (first | (with_reducible first | exact HB.out | apply below_alloc | apply pw_below_drewN | apply below_drew1) | exact HB.out)); (case Ak => exact Kd.R_tight rfl Aa.out); rintro e w7 ⟨rfl, hy0, hb, hkp⟩; refine ⟨_, rfl, ?_⟩; replace HK := Am (Kept.then_ (S := (fun k_ => P0_ k_)) (by repeat (first | (with_reducible first | exact HK.out | apply Kept.alloc | apply Kept.drewN | apply Kept.drew) | exact HK.out)) hkp (fun k_ hs_ => (fun e_ => (Aa.out.1 k_ e_.symm)) hs_)); replace Aa := Am (Kd.R_reok rfl hy0 (fun k_ e_ => Aa.out.1 k_ e_)); replace HB := Am (hb); (try clear hb); (try clear hkp); (try clear hy0)))
    go_roundg k1
    case measure => have := HK1.out; omega
    case rel => exact ⟨(t150), (Ag), (wrap64 (Ag + 20)), (by first | rfl | (simp; done) | (simp [*]; done)), (by first | rfl | (simp; done) | (simp [*]; done)), H', ⟨by have := HK1.out; omega⟩, ⟨by (with_reducible repeat (first | apply Kd.R_alloc | apply Kd.R_drewN | apply Kd.R_drew)); exact Aa.out⟩, ⟨by repeat (first | (with_reducible first | exact HK.out | apply Kept.alloc | apply Kept.drewN | apply Kept.drew) | exact HK.out)⟩, ⟨pB HB.out⟩⟩
   rw [if_neg c4] at H
   have c4b0 : decide (Ag ≤ a1) = false := decide_eq_false c4
   clear c4
   replace H := Option.bind_eq_some_iff.mp H
   obtain ⟨t151, A80, H⟩ := H
   replace H : (slices_stableCmpFunc_api_Point.l1 k1 t151 a1 20) = some r := H
   have A8 := Am A80
   clear A80
   have H' := Am H
   clear H
   obtain ⟨An, Ao, Au⟩ := Kd.R_slice Aa.out
   subst Au
   go_wp2_with (first | ((with_reducible refine gate_callee (f := 63) rfl ?_); refine goesL_ (some 27) rfl rfl Try.func63 (by kernel_rfl) rfl #[.slice An Af.length Ao, .int .i64 Al, .int .i64 a1, .func (.func 48) #[] #[]] rfl pL ?_; (with_reducible refine (slices_insertionSortCmpFunc_api_Point.calls k1 (fun k_ => some k_ = (.slice An Af.length Ao : Value).ownBlock) (.slice An Af.length Ao) Af Al a1 t151 w0 _ ?Aj ?Ak A8.out).mono ?_); (case Aj => repeat (first | (with_reducible first | exact HB.out | apply below_alloc | apply pw_below_drewN | apply below_drew1) | exact HB.out)); (case Ak => exact Kd.R_tight rfl Aa.out); rintro e w10 ⟨rfl, hy0, hb, hkp⟩; refine ⟨_, rfl, ?_⟩; replace HK := Am (Kept.then_ (S := (fun k_ => P0_ k_)) (by repeat (first | (with_reducible first | exact HK.out | apply Kept.alloc | apply Kept.drewN | apply Kept.drew) | exact HK.out)) hkp (fun k_ hs_ => (fun e_ => (Aa.out.1 k_ e_.symm)) hs_)); replace Aa := Am (Kd.R_reok rfl hy0 (fun k_ e_ => Aa.out.1 k_ e_)); replace HB := Am (hb); (try clear hb); (try clear hkp); (try clear hy0)))
   simp only [Act.put, List.setIfInBounds_toArray, List.set_cons_zero, List.set_cons_succ]
   go_loopg [6] k1 (fun kq v6 w' => ∃ (Ap : List (S24)) (Ab : Int), v6 = .int .i64 Ab ∧ Aside0 (slices_stableCmpFunc_api_Point.l1 kq Ap a1 Ab = some r) ∧ Aside0 (kq ≤ k1) ∧ Aside0 (Kd.R k24 24 w' w0.heap.size (fun k_ => (P0_ k_ ∨ w.heap.size ≤ k_)) (.slice An Af.length Ao) Ap) ∧ Aside0 (Kept w w' (fun k_ => P0_ k_)) ∧ Aside0 (Below w0.heap.size w0 w'))
   case atStart => exact ⟨(t151), (20), (by first | rfl | (simp; done) | (simp [*]; done)), H', ⟨Nat.le_refl _⟩, ⟨by (with_reducible repeat (first | apply Kd.R_alloc | apply Kd.R_drewN | apply Kd.R_drew)); exact Aa.out⟩, ⟨by repeat (first | (with_reducible first | exact HK.out | apply Kept.alloc | apply Kept.drewN | apply Kept.drew) | exact HK.out)⟩, ⟨pB HB.out⟩⟩
   case round =>
    clear H'
    try clear p2
    try clear c4
    try clear c4b0
    try clear c5
    try clear c6
    try clear p6
    try clear p2
    obtain ⟨Ap, Ab, rfl, HA, HK2, Aa, HK, HB⟩ := hrel
    have Ad := (Kd.R_reads' Aa.out).1
    rw [Ad] at Aa
    (try simp only [Ad])
    cases gk with
    | zero => exact absurd HA.out (by simp [slices_stableCmpFunc_api_Point.l1])
    | succ k2 =>
     have H := HA.out
     clear HA
     simp only [slices_stableCmpFunc_api_Point.l1] at H
     by_cases c11 : Ab < a1
     rotate_left
     ·rw [if_neg c11] at H
      have c11b0 : decide (Ab < a1) = false := decide_eq_false c11
      clear c11
      obtain rfl := Option.some.inj H
      go_wp2
      first | go_end0 | ((try simp only [Exit.inBlock, Exit.then]); refine bodyPost_ret (results_none rfl _ _ _) rfl ?_)
      exact ⟨pX, (by first | exact (pR Aa.out) | (simp only [Ad]; exact (pR Aa.out))), pB HB.out, by repeat (first | (with_reducible first | exact HK.out | apply Kept.alloc | apply Kept.drewN | apply Kept.drew) | exact HK.out)⟩
     rw [if_pos c11] at H
     have c11b0 : decide (Ab < a1) = true := decide_eq_true c11
     clear c11
     have H' := Am H
     clear H
     go_wp2
     go_loopg [7, 8] k2 (fun kq v7 v8 w' => ∃ (Ah : List (S24)) (Ac : Int) (Ai : Int), v7 = .int .i64 Ac ∧ v8 = .int .i64 Ai ∧ Aside0 (slices_stableCmpFunc_api_Point.l2 kq Ah a1 Ab Ac Ai = some r) ∧ Aside0 (kq ≤ k2) ∧ Aside0 (Kd.R k24 24 w' w0.heap.size (fun k_ => (P0_ k_ ∨ w.heap.size ≤ k_)) (.slice An Ap.length Ao) Ah) ∧ Aside0 (Kept w w' (fun k_ => P0_ k_)) ∧ Aside0 (Below w0.heap.size w0 w'))
     case atStart => exact ⟨(Ap), (0), (wrap64 (2 * Ab)), (by first | rfl | (simp; done) | (simp [*]; done)), (by first | rfl | (simp; done) | (simp [*]; done)), H', ⟨Nat.le_refl _⟩, ⟨by (try simp only [Ad]); (with_reducible repeat (first | apply Kd.R_alloc | apply Kd.R_drewN | apply Kd.R_drew)); exact Aa.out⟩, ⟨by repeat (first | (with_reducible first | exact HK.out | apply Kept.alloc | apply Kept.drewN | apply Kept.drew) | exact HK.out)⟩, ⟨pB HB.out⟩⟩
     case round =>
      clear H'
      try clear c1
      try clear p2
      try clear c4
      try clear c4b0
      try clear c5
      try clear c6
      try clear p6
      try clear c11
      try clear c11b0
      try clear p2
      try clear p6
      obtain ⟨Ah, Ac, Ai, rfl, rfl, HA, HK3, Aa, HK, HB⟩ := hrel
      have Ae := (Kd.R_reads' Aa.out).1
      rw [Ae] at Aa
      (try simp only [Ae])
      cases gk with
      | zero => exact absurd HA.out (by simp [slices_stableCmpFunc_api_Point.l2])
      | succ k3 =>
       have H := HA.out
       clear HA
       simp only [slices_stableCmpFunc_api_Point.l2] at H
       by_cases c12 : Ai ≤ a1
       ·rw [if_pos c12] at H
        have c12b0 : decide (Ai ≤ a1) = true := decide_eq_true c12
        clear c12
        replace H := Option.bind_eq_some_iff.mp H
        obtain ⟨t152, A130, H⟩ := H
        replace H : (slices_stableCmpFunc_api_Point.l2 k3 t152 a1 Ab Ai (wrap64 (Ai + (wrap64 (2 * Ab))))) = some r := H
        have A13 := Am A130
        clear A130
        have H' := Am H
        clear H
        go_wp2_with (first | ((with_reducible refine gate_callee (f := 64) rfl ?_); refine goesL_ (some 43) rfl rfl Try.func64 (by kernel_rfl) rfl #[.slice An Ah.length Ao, .int .i64 Ac, .int .i64 (wrap64 (Ac + Ab)), .int .i64 Ai, .func (.func 48) #[] #[]] rfl pL ?_; (with_reducible refine (slices_symMergeCmpFunc_api_Point.calls k3 (fun k_ => some k_ = (.slice An Ah.length Ao : Value).ownBlock) (.slice An Ah.length Ao) Ah Ac (wrap64 (Ac + Ab)) Ai t152 w0 _ ?Aj ?Ak A13.out).mono ?_); (case Aj => repeat (first | (with_reducible first | exact HB.out | apply below_alloc | apply pw_below_drewN | apply below_drew1) | exact HB.out)); (case Ak => exact Kd.R_tight rfl Aa.out); rintro e w14 ⟨rfl, hy0, hb, hkp⟩; refine ⟨_, rfl, ?_⟩; replace HK := Am (Kept.then_ (S := (fun k_ => P0_ k_)) (by repeat (first | (with_reducible first | exact HK.out | apply Kept.alloc | apply Kept.drewN | apply Kept.drew) | exact HK.out)) hkp (fun k_ hs_ => (fun e_ => (Aa.out.1 k_ e_.symm)) hs_)); replace Aa := Am (Kd.R_reok rfl hy0 (fun k_ e_ => Aa.out.1 k_ e_)); replace HB := Am (hb); (try clear hb); (try clear hkp); (try clear hy0)))
        (try simp only [← Ae])
        go_roundg k3
        case measure => have := HK1.out; have := HK2.out; have := HK3.out; omega
        case rel => exact ⟨(t152), (Ai), (wrap64 (Ai + (wrap64 (2 * Ab)))), (by first | rfl | (simp; done) | (simp [*]; done)), (by first | rfl | (simp; done) | (simp [*]; done)), H', ⟨by have := HK1.out; have := HK2.out; have := HK3.out; omega⟩, ⟨by (try simp only [Ad]); (try simp only [Ae]); (with_reducible repeat (first | apply Kd.R_alloc | apply Kd.R_drewN | apply Kd.R_drew)); exact Aa.out⟩, ⟨by repeat (first | (with_reducible first | exact HK.out | apply Kept.alloc | apply Kept.drewN | apply Kept.drew) | exact HK.out)⟩, ⟨pB HB.out⟩⟩
       rw [if_neg c12] at H
       have c12b0 : decide (Ai ≤ a1) = false := decide_eq_false c12
       clear c12
       by_cases c15 : (wrap64 (Ac + Ab)) < a1
       rotate_left
       ·rw [if_neg c15] at H
        have c15b0 : decide ((wrap64 (Ac + Ab)) < a1) = false := decide_eq_false c15
        clear c15
        have H' := Am H
        clear H
        go_wp2
        (try simp only [← Ad, ← Ae])
        go_roundg k3
        case measure => have := HK1.out; have := HK2.out; have := HK3.out; omega
        case rel => exact ⟨(Ah), (wrap64 (Ab * 2)), (by first | rfl | (simp; done) | (simp [*]; done)), H', ⟨by have := HK1.out; have := HK2.out; have := HK3.out; omega⟩, ⟨by (try simp only [Ad]); (try simp only [Ae]); (with_reducible repeat (first | apply Kd.R_alloc | apply Kd.R_drewN | apply Kd.R_drew)); exact Aa.out⟩, ⟨by repeat (first | (with_reducible first | exact HK.out | apply Kept.alloc | apply Kept.drewN | apply Kept.drew) | exact HK.out)⟩, ⟨pB HB.out⟩⟩
       rw [if_pos c15] at H
       have c15b0 : decide ((wrap64 (Ac + Ab)) < a1) = true := decide_eq_true c15
       clear c15
       replace H := Option.bind_eq_some_iff.mp H
       obtain ⟨t153, A160, H⟩ := H
       replace H : (slices_stableCmpFunc_api_Point.l1 k3 t153 a1 (wrap64 (Ab * 2))) = some r := H
       have A16 := Am A160
       clear A160
       have H' := Am H
       clear H
       go_wp2_with (first | ((with_reducible refine gate_callee (f := 64) rfl ?_); refine goesL_ (some 60) rfl rfl Try.func64 (by kernel_rfl) rfl #[.slice An Ah.length Ao, .int .i64 Ac, .int .i64 (wrap64 (Ac + Ab)), .int .i64 a1, .func (.func 48) #[] #[]] rfl pL ?_; (with_reducible refine (slices_symMergeCmpFunc_api_Point.calls k3 (fun k_ => some k_ = (.slice An Ah.length Ao : Value).ownBlock) (.slice An Ah.length Ao) Ah Ac (wrap64 (Ac + Ab)) a1 t153 w0 _ ?Aj ?Ak A16.out).mono ?_); (case Aj => repeat (first | (with_reducible first | exact HB.out | apply below_alloc | apply pw_below_drewN | apply below_drew1) | exact HB.out)); (case Ak => exact Kd.R_tight rfl Aa.out); rintro e w17 ⟨rfl, hy0, hb, hkp⟩; refine ⟨_, rfl, ?_⟩; replace HK := Am (Kept.then_ (S := (fun k_ => P0_ k_)) (by repeat (first | (with_reducible first | exact HK.out | apply Kept.alloc | apply Kept.drewN | apply Kept.drew) | exact HK.out)) hkp (fun k_ hs_ => (fun e_ => (Aa.out.1 k_ e_.symm)) hs_)); replace Aa := Am (Kd.R_reok rfl hy0 (fun k_ e_ => Aa.out.1 k_ e_)); replace HB := Am (hb); (try clear hb); (try clear hkp); (try clear hy0)))
       (try simp only [← Ad, ← Ae])
       go_roundg k3
       case measure => have := HK1.out; have := HK2.out; have := HK3.out; omega
       case rel => exact ⟨(t153), (wrap64 (Ab * 2)), (by first | rfl | (simp; done) | (simp [*]; done)), H', ⟨by have := HK1.out; have := HK2.out; have := HK3.out; omega⟩, ⟨by (try simp only [Ad]); (try simp only [Ae]); (with_reducible repeat (first | apply Kd.R_alloc | apply Kd.R_drewN | apply Kd.R_drew)); exact Aa.out⟩, ⟨by repeat (first | (with_reducible first | exact HK.out | apply Kept.alloc | apply Kept.drewN | apply Kept.drew) | exact HK.out)⟩, ⟨pB HB.out⟩⟩
def slices_SortStableFunc_api_Point.f (k : Nat) (l0 : List (S24))  : Option ((List (S24))) := (slices_stableCmpFunc_api_Point.f k l0 (l0.length : Int)).bind fun t154 => (some t154)
theorem slices_SortStableFunc_api_Point.mono : ∀ a0 k, LeO (slices_SortStableFunc_api_Point.f k a0) (slices_SortStableFunc_api_Point.f (k + 1) a0) := by
 intro a0 k
 unfold slices_SortStableFunc_api_Point.f
 repeat' first
   | (with_reducible exact slices_stableCmpFunc_api_Point.mono _ _ _)
   | (with_reducible exact LeO.refl _)
   | (with_reducible exact LeO.none _)
   | (with_reducible refine LeO.ite ?_ ?_)
   | (with_reducible refine LeO.bind ?_ (fun _ => ?_))
   | exact slices_stableCmpFunc_api_Point.mono _ _ _
   | exact LeO.none _
   | refine LeO.ite ?_ ?_
   | refine LeO.bind ?_ (fun _ => ?_)
set_option maxHeartbeats 8000000 in
set_option maxRecDepth 100000 in
theorem slices_SortStableFunc_api_Point.calls (k : Nat) (P0_ : Nat → Prop) (u9000_ : Value) (l0 : List (S24))  (r : List (S24)) (w0 w : World) (hB : Below w0.heap.size w0 w) (ho0 : Kd.R k24 24 w w0.heap.size P0_ u9000_ l0) (h : slices_SortStableFunc_api_Point.f k l0 = some r) :
  Calls Try.prog 47 #[u9000_, .func (.func 48) #[] #[]] w fun e w' => e = .returned (.tuple #[]) ∧ Kd.R k24 24 w' w0.heap.size (fun k_ => (P0_ k_ ∨ w.heap.size ≤ k_)) u9000_ r ∧ Below w0.heap.size w0 w' ∧ Kept w w' (fun k_ => P0_ k_) := by
 have HO0 := Am (show Kd.R k24 24 w w0.heap.size (fun k_ => (P0_ k_ ∨ w.heap.size ≤ k_)) u9000_ l0 from Kd.R_mono ho0 (fun k_ hk => (.inl hk)))
 have HK := Am (Kept.refl w (fun k_ => P0_ k_))
 have HW0 := Am hB.size
 have HB := Am hB
 clear hB
 have H : ((slices_stableCmpFunc_api_Point.f k l0 (l0.length : Int)).bind fun t154 => (some t154)) = some r := h
 clear h
 replace H := Option.bind_eq_some_iff.mp H
 obtain ⟨t154, A30, H⟩ := H
 replace H : (some t154) = some r := H
 have A3 := Am A30
 clear A30
 obtain rfl := Option.some.inj H
 obtain ⟨Ao4, co4, eo4⟩ := Kd.R_slice HO0.out
 subst eo4
 go_enter Try.func47, Try.ntmps47
 go_wp2_with (first | ((with_reducible refine gate_callee (f := 58) rfl ?_); refine goesL_ (some 8) rfl rfl Try.func58 (by kernel_rfl) rfl #[.slice Ao4 l0.length co4, .int .i64 (l0.length : Int), .func (.func 48) #[] #[]] rfl pL ?_; (with_reducible refine (slices_stableCmpFunc_api_Point.calls k (fun k_ => some k_ = (.slice Ao4 l0.length co4 : Value).ownBlock) (.slice Ao4 l0.length co4) l0 (l0.length : Int) t154 w0 _ ?side1 ?side2 A3.out).mono ?_); (case side1 => repeat (first | (with_reducible first | exact HB.out | apply below_alloc | apply pw_below_drewN | apply below_drew1) | exact HB.out)); (case side2 => exact Kd.R_tight rfl HO0.out); rintro e w5 ⟨rfl, hy0, hb, hkp⟩; refine ⟨_, rfl, ?_⟩; replace HK := Am (Kept.then_ (S := (fun k_ => P0_ k_)) (by repeat (first | (with_reducible first | exact HK.out | apply Kept.alloc | apply Kept.drewN | apply Kept.drew) | exact HK.out)) hkp (fun k_ hs_ => (fun e_ => (HO0.out.1 k_ e_.symm)) hs_)); replace HO0 := Am (Kd.R_reok rfl hy0 (fun k_ e_ => HO0.out.1 k_ e_)); replace HB := Am (hb); (try clear hb); (try clear hkp); (try clear hy0)))
 first | go_end0 | ((try simp only [Exit.inBlock, Exit.then]); refine bodyPost_ret (results_none rfl _ _ _) rfl ?_)
 exact ⟨pX, by (with_reducible repeat (first | apply Kd.R_alloc | apply Kd.R_drewN | apply Kd.R_drew)); exact HO0.out, pB HB.out, by repeat (first | (with_reducible first | exact HK.out | apply Kept.alloc | apply Kept.drewN | apply Kept.drew) | exact HK.out)⟩
def point_Order.f (k : Nat) (l0 : List (S24)) : Option ((List (S24))) := (slices_Clone_api_Point.f l0).bind fun t155 => ((slices_SortStableFunc_api_Point.f k t155).bind fun t158 => (some t158))
theorem point_Order.mono : ∀ a0 k, LeO (point_Order.f k a0) (point_Order.f (k + 1) a0) := by
 intro a0 k
 unfold point_Order.f
 repeat' first
   | (with_reducible exact slices_SortStableFunc_api_Point.mono _ _)
   | (with_reducible exact LeO.refl _)
   | (with_reducible exact LeO.none _)
   | (with_reducible refine LeO.ite ?_ ?_)
   | (with_reducible refine LeO.bind ?_ (fun _ => ?_))
   | exact slices_SortStableFunc_api_Point.mono _ _
   | exact LeO.none _
   | refine LeO.ite ?_ ?_
   | refine LeO.bind ?_ (fun _ => ?_)
set_option maxHeartbeats 8000000 in
set_option maxRecDepth 100000 in
theorem point_Order.calls (k : Nat) (A0 : Option Addr) (c0 : Nat) (l0 : List (S24)) (r : List (S24)) (w : World) (hr0 : Kd.C k24 w A0 l0.length l0) (hc0 : l0.length ≤ c0) (h : point_Order.f k l0 = some r) :
  Calls Try.prog 27 #[.slice A0 l0.length c0] w fun e w' => ∃ v0_ : Value, e = .returned (v0_) ∧ Kd.R k24 24 w' w.heap.size (fun _ => True) v0_ r ∧ Below w.heap.size w w' := by
 have HR0 := Am hr0
 have HC0 := Am hc0
 clear hr0 hc0
 have HB := Am (Below.refl w.heap.size w)
 have H : ((slices_Clone_api_Point.f l0).bind fun t155 => ((slices_SortStableFunc_api_Point.f k t155).bind fun t158 => (some t158))) = some r := h
 clear h
 replace H := Option.bind_eq_some_iff.mp H
 obtain ⟨t155, A20, H⟩ := H
 replace H : ((slices_SortStableFunc_api_Point.f k t155).bind fun t158 => (some t158)) = some r := H
 have A2 := Am A20
 clear A20
 replace H := Option.bind_eq_some_iff.mp H
 obtain ⟨t158, A30, H⟩ := H
 replace H : (some t158) = some r := H
 have A3 := Am A30
 clear A30
 obtain rfl := Option.some.inj H
 go_enter Try.func27, Try.ntmps27
 go_wp2_with (first | ((with_reducible refine gate_callee (f := 46) rfl ?_); refine goesL_ (some 5) rfl rfl Try.func46 (by kernel_rfl) rfl #[.slice A0 l0.length c0] rfl pL ?_; (with_reducible refine (slices_Clone_api_Point.calls _ _ l0 t155 _ ?side1 ?side2 A2.out).mono ?_); (case side1 => repeat (first | exact HR0.out | (with_reducible refine Kd.C_alloc ?_ _) | (with_reducible refine Kd.C_drewN ?_ _) | (with_reducible refine Kd.C_drew ?_))); (case side2 => exact HC0.out); rintro e w4 ⟨v156, rfl, ho0, hb⟩; refine ⟨_, rfl, ?_⟩; have HO157 := Am (Kd.R_lower ho0 (below_size (pB HB.out))); replace HB := Am (below_step (pB HB.out) hb); (try clear hb); (try clear hb2); (try clear hk); (try clear hi); (try clear ho0); obtain ⟨Ao5, co5, eo5⟩ := Kd.R_slice HO157.out; subst eo5) | ((with_reducible refine gate_callee (f := 47) rfl ?_); refine goesL_ (some 7) rfl rfl Try.func47 (by kernel_rfl) rfl #[.slice Ao5 t155.length co5, .func (.func 48) #[] #[]] rfl pL ?_; (with_reducible refine (slices_SortStableFunc_api_Point.calls k (fun k_ => some k_ = (.slice Ao5 t155.length co5 : Value).ownBlock) (.slice Ao5 t155.length co5) t155 t158 w _ ?side1 ?side2 A3.out).mono ?_); (case side1 => repeat (first | (with_reducible first | exact HB.out | apply below_alloc | apply pw_below_drewN | apply below_drew1) | exact HB.out)); (case side2 => exact Kd.R_tight rfl HO157.out); rintro e w6 ⟨rfl, hy0, hb, hkp⟩; refine ⟨_, rfl, ?_⟩; replace HO157 := Am (Kd.R_reok rfl hy0 (fun k_ e_ => HO157.out.1 k_ e_)); replace HB := Am (hb); (try clear hb); (try clear hkp); (try clear hy0)))
 go_ret
 exact ⟨_, pX, by (with_reducible repeat (first | apply Kd.R_alloc | apply Kd.R_drewN | apply Kd.R_drew)); exact HO157.out, pB HB.out⟩
def tally_Check.l0 : Nat → Int → List (S79) → Int → Int → Option (Int)
 | 0, _, _, _, _ => none
 | k + 1, x3, x9, x10, x11 => if x11 < x10 then (if 0 ≤ x11 then (if x11 < (x9.length : Int) then (if ((rd_T79 x9 x11).f0) ≤ x3 then (some 1) else (if ((rd_T79 x9 x11).f0) > 2147483647 then (some 1) else (if ((rd_T79 x9 x11).f1) < 1 then (some 1) else (if ((rd_T79 x9 x11).f1) > 1099511627776 then (some 1) else (tally_Check.l0 k ((rd_T79 x9 x11).f0) x9 x10 (wrap64 (x11 + 1))))))) else (none)) else (none)) else (some 0)
def tally_Check.f (k : Nat) (l0 : List (S79)) : Option (Int) := if (l0.length : Int) > 4096 then (some 1) else (tally_Check.l0 k 0 l0 (l0.length : Int) 0)
theorem tally_Check.mono_l : ∀ k, (∀ y0 y1 y2 y3, LeO (tally_Check.l0 k y0 y1 y2 y3) (tally_Check.l0 (k + 1) y0 y1 y2 y3))
 | 0 => fun _ _ _ _ r h => by simp [tally_Check.l0] at h
 | k + 1 => by
  have ih0 := tally_Check.mono_l k
  ·intro y0 y1 y2 y3
   unfold tally_Check.l0
   repeat' first
   | (with_reducible exact ih0 _ _ _ _)
   | (with_reducible exact LeO.refl _)
   | (with_reducible exact LeO.none _)
   | (with_reducible refine LeO.ite ?_ ?_)
   | (with_reducible refine LeO.bind ?_ (fun _ => ?_))
   | exact ih0 _ _ _ _
   | exact LeO.none _
   | refine LeO.ite ?_ ?_
   | refine LeO.bind ?_ (fun _ => ?_)
theorem tally_Check.mono : ∀ a0 k, LeO (tally_Check.f k a0) (tally_Check.f (k + 1) a0) := by
 intro a0 k
 have ih0 := tally_Check.mono_l k
 unfold tally_Check.f
 repeat' first
   | (with_reducible exact ih0 _ _ _ _)
   | (with_reducible exact LeO.refl _)
   | (with_reducible exact LeO.none _)
   | (with_reducible refine LeO.ite ?_ ?_)
   | (with_reducible refine LeO.bind ?_ (fun _ => ?_))
   | exact ih0 _ _ _ _
   | exact LeO.none _
   | refine LeO.ite ?_ ?_
   | refine LeO.bind ?_ (fun _ => ?_)
set_option maxHeartbeats 8000000 in
set_option maxRecDepth 100000 in
theorem tally_Check.calls (k : Nat) (A0 : Option Addr) (c0 : Nat) (l0 : List (S79)) (r : Int) (w : World) (hr0 : Kd.C k79 w A0 l0.length l0) (hc0 : l0.length ≤ c0) (h : tally_Check.f k l0 = some r) :
  Calls Try.prog 65 #[.slice A0 l0.length c0] w fun e w' => e = .returned (.int .i64 r) ∧ Below w.heap.size w w' := by
 have hu79 := Try.underlying79
 have HR0 := Am hr0
 have HC0 := Am hc0
 clear hr0 hc0
 have HB := Am (Below.refl w.heap.size w)
 have H : (if (l0.length : Int) > 4096 then (some 1) else (tally_Check.l0 k 0 l0 (l0.length : Int) 0)) = some r := h
 clear h
 by_cases c2 : (l0.length : Int) > 4096
 ·rw [if_pos c2] at H
  have c2b0 : decide (4096 < (l0.length : Int)) = true := decide_eq_true c2
  have c2b1 : decide (4096 < l0.length) = true := decide_eq_true (by omega)
  clear c2
  obtain rfl := Option.some.inj H
  go_enter Try.func65, Try.ntmps65
  go_wp2
  go_ret
  exact ⟨pX, pB HB.out⟩
 rw [if_neg c2] at H
 have c2b0 : decide (4096 < (l0.length : Int)) = false := decide_eq_false c2
 have c2b1 : decide (4096 < l0.length) = false := decide_eq_false (by omega)
 clear c2
 have H' := Am H
 clear H
 go_enter Try.func65, Try.ntmps65
 go_wp2
 go_loopg [3, 11] k (fun kq v3 v11 w' => ∃ (Ai : Int) (Aa : Int), v3 = .int .i64 Ai ∧ v11 = .int .i64 Aa ∧ Aside0 (tally_Check.l0 kq Ai l0 (l0.length : Int) Aa = some r) ∧ Aside0 (kq ≤ k) ∧ Aside0 (Below w.heap.size w w'))
 case atStart => exact ⟨(0), (0), (by first | rfl | (simp; done) | (simp [*]; done)), (by first | rfl | (simp; done) | (simp [*]; done)), H', ⟨Nat.le_refl _⟩, ⟨pB HB.out⟩⟩
 case round =>
  clear H'
  try clear c2
  try clear c2b0
  try clear c2b1
  try clear p2
  obtain ⟨Ai, Aa, rfl, rfl, HA, HK1, HB⟩ := hrel
  cases gk with
  | zero => exact absurd HA.out (by simp [tally_Check.l0])
  | succ k1 =>
   have H := HA.out
   clear HA
   simp only [tally_Check.l0] at H
   by_cases c3 : Aa < (l0.length : Int)
   rotate_left
   ·rw [if_neg c3] at H
    have c3b0 : decide (Aa < (l0.length : Int)) = false := decide_eq_false c3
    clear c3
    obtain rfl := Option.some.inj H
    go_wp2
    go_ret
    exact ⟨pX, pB HB.out⟩
   rw [if_pos c3] at H
   have c3b0 : decide (Aa < (l0.length : Int)) = true := decide_eq_true c3
   clear c3
   by_cases c4 : 0 ≤ Aa
   rotate_left
   ·rw [if_neg c4] at H
    exact absurd H (by simp)
   rw [if_pos c4] at H
   have c4b0 : decide (0 ≤ Aa) = true := decide_eq_true c4
   clear c4
   by_cases c5 : Aa < (l0.length : Int)
   rotate_left
   ·rw [if_neg c5] at H
    exact absurd H (by simp)
   rw [if_pos c5] at H
   have c5b0 : decide (Aa < (l0.length : Int)) = true := decide_eq_true c5
   clear c5
   by_cases c6 : ((rd_T79 l0 Aa).f0) ≤ Ai
   ·rw [if_pos c6] at H
    have c6b0 : decide (((rd_T79 l0 Aa).f0) ≤ Ai) = true := decide_eq_true c6
    clear c6
    obtain rfl := Option.some.inj H
    have p159 : 0 ≤ (Aa : Int) := of_decide_eq_true pS
    have q159 : Aa < (l0.length : Int) := of_decide_eq_true pS
    obtain ⟨Ah, e159, Af, Ag⟩ := at_T79u HR0.out Aa p159 q159 HB.out
    cases e159
    replace p159 := eq_true p159
    replace q159 := eq_true q159
    go_wp2_with (first | ((with_reducible refine gate_dst (N := 5) rfl ?_); refine box_event ?hg (N := 5) ?hd (cs := #[.int .i64 0, .int .i64 0]) (t := 79) ?hr ?_; (case hd => rfl); (case hg => rfl); (case hr => first | (go_simp; done) | (go_simp; rfl)); intro Ac hg w7 hbox hb; have Ab := Am (hbox); have Ad := Am ((by rw [hg]; exact (below_size (pB HB.out)) : w.heap.size ≤ Ac)); replace HB := Am (below_step (pB HB.out) hb); have Ae := Ad; clear hb hbox hg; obtain ⟨_, _⟩ := bc2 Ab.out; obtain ⟨_, _⟩ := bf2 Ab.out))
    go_ret
    exact ⟨pX, pE HB.out Ae.out⟩
   rw [if_neg c6] at H
   have c6b0 : decide (((rd_T79 l0 Aa).f0) ≤ Ai) = false := decide_eq_false c6
   clear c6
   by_cases c9 : ((rd_T79 l0 Aa).f0) > 2147483647
   ·rw [if_pos c9] at H
    have c9b0 : decide (2147483647 < ((rd_T79 l0 Aa).f0)) = true := decide_eq_true c9
    clear c9
    obtain rfl := Option.some.inj H
    have p159 : 0 ≤ (Aa : Int) := of_decide_eq_true pS
    have q159 : Aa < (l0.length : Int) := of_decide_eq_true pS
    obtain ⟨Ah, e159, Af, Ag⟩ := at_T79u HR0.out Aa p159 q159 HB.out
    cases e159
    replace p159 := eq_true p159
    replace q159 := eq_true q159
    go_wp2_with (first | ((with_reducible refine gate_dst (N := 5) rfl ?_); refine box_event ?hg (N := 5) ?hd (cs := #[.int .i64 0, .int .i64 0]) (t := 79) ?hr ?_; (case hd => rfl); (case hg => rfl); (case hr => first | (go_simp; done) | (go_simp; rfl)); intro Ac hg w10 hbox hb; have Ab := Am (hbox); have Ad := Am ((by rw [hg]; exact (below_size (pB HB.out)) : w.heap.size ≤ Ac)); replace HB := Am (below_step (pB HB.out) hb); have Ae := Ad; clear hb hbox hg; obtain ⟨_, _⟩ := bc2 Ab.out; obtain ⟨_, _⟩ := bf2 Ab.out))
    go_ret
    exact ⟨pX, pE HB.out Ae.out⟩
   rw [if_neg c9] at H
   have c9b0 : decide (2147483647 < ((rd_T79 l0 Aa).f0)) = false := decide_eq_false c9
   clear c9
   by_cases c12 : ((rd_T79 l0 Aa).f1) < 1
   ·rw [if_pos c12] at H
    have c12b0 : decide (((rd_T79 l0 Aa).f1) < 1) = true := decide_eq_true c12
    clear c12
    obtain rfl := Option.some.inj H
    have p159 : 0 ≤ (Aa : Int) := of_decide_eq_true pS
    have q159 : Aa < (l0.length : Int) := of_decide_eq_true pS
    obtain ⟨Ah, e159, Af, Ag⟩ := at_T79u HR0.out Aa p159 q159 HB.out
    cases e159
    replace p159 := eq_true p159
    replace q159 := eq_true q159
    go_wp2_with (first | ((with_reducible refine gate_dst (N := 5) rfl ?_); refine box_event ?hg (N := 5) ?hd (cs := #[.int .i64 0, .int .i64 0]) (t := 79) ?hr ?_; (case hd => rfl); (case hg => rfl); (case hr => first | (go_simp; done) | (go_simp; rfl)); intro Ac hg w13 hbox hb; have Ab := Am (hbox); have Ad := Am ((by rw [hg]; exact (below_size (pB HB.out)) : w.heap.size ≤ Ac)); replace HB := Am (below_step (pB HB.out) hb); have Ae := Ad; clear hb hbox hg; obtain ⟨_, _⟩ := bc2 Ab.out; obtain ⟨_, _⟩ := bf2 Ab.out))
    go_ret
    exact ⟨pX, pE HB.out Ae.out⟩
   rw [if_neg c12] at H
   have c12b0 : decide (((rd_T79 l0 Aa).f1) < 1) = false := decide_eq_false c12
   clear c12
   by_cases c15 : ((rd_T79 l0 Aa).f1) > 1099511627776
   ·rw [if_pos c15] at H
    have c15b0 : decide (1099511627776 < ((rd_T79 l0 Aa).f1)) = true := decide_eq_true c15
    clear c15
    obtain rfl := Option.some.inj H
    have p159 : 0 ≤ (Aa : Int) := of_decide_eq_true pS
    have q159 : Aa < (l0.length : Int) := of_decide_eq_true pS
    obtain ⟨Ah, e159, Af, Ag⟩ := at_T79u HR0.out Aa p159 q159 HB.out
    cases e159
    replace p159 := eq_true p159
    replace q159 := eq_true q159
    go_wp2_with (first | ((with_reducible refine gate_dst (N := 5) rfl ?_); refine box_event ?hg (N := 5) ?hd (cs := #[.int .i64 0, .int .i64 0]) (t := 79) ?hr ?_; (case hd => rfl); (case hg => rfl); (case hr => first | (go_simp; done) | (go_simp; rfl)); intro Ac hg w16 hbox hb; have Ab := Am (hbox); have Ad := Am ((by rw [hg]; exact (below_size (pB HB.out)) : w.heap.size ≤ Ac)); replace HB := Am (below_step (pB HB.out) hb); have Ae := Ad; clear hb hbox hg; obtain ⟨_, _⟩ := bc2 Ab.out; obtain ⟨_, _⟩ := bf2 Ab.out))
    go_ret
    exact ⟨pX, pE HB.out Ae.out⟩
   rw [if_neg c15] at H
   have c15b0 : decide (1099511627776 < ((rd_T79 l0 Aa).f1)) = false := decide_eq_false c15
   clear c15
   have H' := Am H
   clear H
   have p159 : 0 ≤ (Aa : Int) := of_decide_eq_true pS
   have q159 : Aa < (l0.length : Int) := of_decide_eq_true pS
   obtain ⟨Ah, e159, Af, Ag⟩ := at_T79u HR0.out Aa p159 q159 HB.out
   cases e159
   replace p159 := eq_true p159
   replace q159 := eq_true q159
   go_wp2_with (first | ((with_reducible refine gate_dst (N := 5) rfl ?_); refine box_event ?hg (N := 5) ?hd (cs := #[.int .i64 0, .int .i64 0]) (t := 79) ?hr ?_; (case hd => rfl); (case hg => rfl); (case hr => first | (go_simp; done) | (go_simp; rfl)); intro Ac hg w18 hbox hb; have Ab := Am (hbox); have Ad := Am ((by rw [hg]; exact (below_size (pB HB.out)) : w.heap.size ≤ Ac)); replace HB := Am (below_step (pB HB.out) hb); have Ae := Ad; clear hb hbox hg; obtain ⟨_, _⟩ := bc2 Ab.out; obtain ⟨_, _⟩ := bf2 Ab.out))
   go_roundg k1
   case measure => have := HK1.out; omega
   case rel => exact ⟨((rd_T79 l0 Aa).f0), (wrap64 (Aa + 1)), (by first | rfl | (simp; done) | (simp [*]; done)), (by first | rfl | (simp; done) | (simp [*]; done)), H', ⟨by have := HK1.out; omega⟩, ⟨pE HB.out Ae.out⟩⟩
def tally_may.f (k : Nat) (l0 : List (S79)) (l1 : List (S24)) : Option (Bool) := (tally_Check.f k l0).bind fun t161 => (if t161 = 0 then ((slices_ContainsFunc_api_Point.f k l1).bind fun t162 => (some (!t162))) else (some false))
theorem tally_may.mono : ∀ a0 a1 k, LeO (tally_may.f k a0 a1) (tally_may.f (k + 1) a0 a1) := by
 intro a0 a1 k
 unfold tally_may.f
 repeat' first
   | (with_reducible exact slices_ContainsFunc_api_Point.mono _ _)
   | (with_reducible exact tally_Check.mono _ _)
   | (with_reducible exact LeO.refl _)
   | (with_reducible exact LeO.none _)
   | (with_reducible refine LeO.ite ?_ ?_)
   | (with_reducible refine LeO.bind ?_ (fun _ => ?_))
   | exact slices_ContainsFunc_api_Point.mono _ _
   | exact tally_Check.mono _ _
   | exact LeO.none _
   | refine LeO.ite ?_ ?_
   | refine LeO.bind ?_ (fun _ => ?_)
set_option maxHeartbeats 8000000 in
set_option maxRecDepth 100000 in
theorem tally_may.calls (k : Nat) (A0 : Option Addr) (c0 : Nat) (l0 : List (S79)) (A1 : Option Addr) (c1 : Nat) (l1 : List (S24)) (r : Bool) (w : World) (hr0 : Kd.C k79 w A0 l0.length l0) (hc0 : l0.length ≤ c0) (hr1 : Kd.C k24 w A1 l1.length l1) (hc1 : l1.length ≤ c1) (h : tally_may.f k l0 l1 = some r) :
  Calls Try.prog 59 #[.slice A0 l0.length c0, .slice A1 l1.length c1] w fun e w' => e = .returned (.bool r) ∧ Below w.heap.size w w' := by
 have HR0 := Am hr0
 have HC0 := Am hc0
 clear hr0 hc0
 have HR1 := Am hr1
 have HC1 := Am hc1
 clear hr1 hc1
 have HB := Am (Below.refl w.heap.size w)
 have H : ((tally_Check.f k l0).bind fun t161 => (if t161 = 0 then ((slices_ContainsFunc_api_Point.f k l1).bind fun t162 => (some (!t162))) else (some false))) = some r := h
 clear h
 replace H := Option.bind_eq_some_iff.mp H
 obtain ⟨t161, A30, H⟩ := H
 replace H : (if t161 = 0 then ((slices_ContainsFunc_api_Point.f k l1).bind fun t162 => (some (!t162))) else (some false)) = some r := H
 have A3 := Am A30
 clear A30
 by_cases c4 : t161 = 0
 rotate_left
 ·rw [if_neg c4] at H
  have c4b0 : (t161 == 0) = false := beq_eq_false_iff_ne.mpr c4
  have c4b1 : (t161 != 0) = true := bne_iff_ne.mpr c4
  obtain rfl := Option.some.inj H
  go_enter Try.func59, Try.ntmps59
  go_wp2_with (first | ((with_reducible refine gate_callee (f := 65) rfl ?_); refine goesL_ (some 6) rfl rfl Try.func65 (by kernel_rfl) rfl #[.slice A0 l0.length c0] rfl pL ?_; (with_reducible refine (tally_Check.calls k _ _ l0 t161 _ ?Aa ?Ab A3.out).mono ?_); (case Aa => repeat (first | exact HR0.out | (with_reducible refine Kd.C_alloc ?_ _) | (with_reducible refine Kd.C_drewN ?_ _) | (with_reducible refine Kd.C_drew ?_))); (case Ab => exact HC0.out); rintro e w8 ⟨rfl, hb⟩; refine ⟨_, rfl, ?_⟩; replace HB := Am (below_step (pB HB.out) hb); (try clear hb); (try clear hb2); (try clear hk); (try clear hi)))
  go_ret
  exact ⟨pX, pB HB.out⟩
 rw [if_pos c4] at H
 have c4b0 : (t161 == 0) = true := beq_iff_eq.mpr c4
 have c4b1 : (t161 != 0) = false := bne_eq_false_iff_eq.mpr c4
 clear c4
 replace H := Option.bind_eq_some_iff.mp H
 obtain ⟨t162, A50, H⟩ := H
 replace H : (some (!t162)) = some r := H
 have A5 := Am A50
 clear A50
 obtain rfl := Option.some.inj H
 go_enter Try.func59, Try.ntmps59
 go_wp2_with (first | ((with_reducible refine gate_callee (f := 65) rfl ?_); refine goesL_ (some 6) rfl rfl Try.func65 (by kernel_rfl) rfl #[.slice A0 l0.length c0] rfl pL ?_; (with_reducible refine (tally_Check.calls k _ _ l0 t161 _ ?Aa ?Ab A3.out).mono ?_); (case Aa => repeat (first | exact HR0.out | (with_reducible refine Kd.C_alloc ?_ _) | (with_reducible refine Kd.C_drewN ?_ _) | (with_reducible refine Kd.C_drew ?_))); (case Ab => exact HC0.out); rintro e w6 ⟨rfl, hb⟩; refine ⟨_, rfl, ?_⟩; replace HB := Am (below_step (pB HB.out) hb); (try clear hb); (try clear hb2); (try clear hk); (try clear hi)) | (go_at_call 43; (with_reducible refine (slices_ContainsFunc_api_Point.calls k _ _ l1 t162 _ ?Aa ?Ab A5.out).mono ?_); (case Aa => exact pC (Kd.C_below HR1.out HB.out)); (case Ab => exact HC1.out); rintro e w7 ⟨rfl, hb⟩; replace HB := Am (below_step (pB HB.out) hb); (try clear hb); (try clear hb2); (try clear hk); (try clear hi)))
 go_ret
 exact ⟨pX, pB HB.out⟩
def slices_Clone_api_Share.f (l0 : List (S79)) : Option (List (S79)) := if l0.length < 8796093022208 then some l0 else none
set_option maxHeartbeats 4000000 in
set_option maxRecDepth 100000 in
theorem slices_Clone_api_Share.calls (A0 : Option Addr) (c0 : Nat) (l0 : List (S79)) (r : List (S79)) (w : World) (hr0 : Kd.C k79 w A0 l0.length l0) (hc0 : l0.length ≤ c0) (h : slices_Clone_api_Share.f l0 = some r) :
  Calls Try.prog 60 #[.slice A0 l0.length c0] w fun e w' => ∃ v0_ : Value, e = .returned (v0_) ∧ Kd.R k79 79 w' w.heap.size (fun _ => True) v0_ r ∧ Below w.heap.size w w' := by
 unfold slices_Clone_api_Share.f at h
 by_cases hl : l0.length < 8796093022208
 ·rw [if_pos hl] at h
  obtain rfl := Option.some.inj h
  have HR0 := Aside0.mk hr0
  have HC0 := Aside0.mk hc0
  have LM := Aside0.mk hl
  clear hr0 hc0 hl h
  have HB := Aside0.mk (Below.refl w.heap.size w)
  have heq := fun (W : World) (a : Option Addr) (n c : Nat) => Lib.run_eql_slice_nil (P := Try.prog) W 39 79 a n c 0 0 Try.underlying39
  cases A0 with
  | none =>
   have e0 : l0 = [] := by
    cases l0 with
    | nil => rfl
    | cons x y =>
     obtain ⟨ad, had, _⟩ := HR0.out.2.2 (by simp)
     cases had
   subst e0
   go_enter Try.func60, Try.ntmps60
   go_wp2
   go_ret
   exact ⟨_, rfl, Kd.R_nil _ _ _ _ _, HB.out⟩
  | some ad =>
   go_enter Try.func60, Try.ntmps60
   go_wp2_with (first | ((with_reducible refine gate_dst (N := 5) rfl ?_); refine Kd.R_lit k79 _ 79 ?hg (N := 5) ?hd (xs := ([] : List (S79))) (inner := []) (ok := fun _ => True) (okp := fun _ => True) ?hr ?hp (fun _ hk => hk) trivial (Below.refl _ _) (Nat.le_refl _) (by simp) ?_; (case hd => rfl); (case hg => rfl); (case hr => first | (go_simp; done) | (go_simp; rfl)); (case hp => exact (Reps.none _ _)); intro v182 w12 ho13 hb hg_ hnew_; clear hg_ hnew_; have n0_ := Aside0.mk (Kd.R_lower ho13 (below_size (by repeat (first | (with_reducible first | exact HB.out | apply below_alloc | apply pw_below_drewN | apply below_drew1) | exact HB.out)))); have n1_ := Aside0.mk (below_step (by repeat (first | (with_reducible first | exact HB.out | apply below_alloc | apply pw_below_drewN | apply below_drew1) | exact HB.out)) hb); clear HB; have HO183 := n0_; have HB := n1_; clear n0_ n1_; clear hb ho13) | ((with_reducible refine gate_builtin (b := .append) (xs := #[.tmp 5, .tmp 6]) rfl ?_); at_builtin; refine Kd.R_append_rows k79 (w0 := w) w.heap.size rfl (.tmp 5) (.tmp 6) 39 79 (.agg #[(.int .i64 0), (.int .i64 0)]) 16 rfl Try.underlying39 info79 rfl (by decide) (by omega) v182 [] l0 _ _ _ (fun _ => True) (fun _ => False) rfl rfl ?aO ?aR (fun _ _ h => h) (fun _ h => h.elim) ?aF ?aB ?aS ?aL ?_; (case aR => repeat (first | exact (Kd.C_below HR0.out HB.out) | (with_reducible refine Kd.C_alloc ?_ _) | (with_reducible refine Kd.C_drewN ?_ _) | (with_reducible refine Kd.C_drew ?_))); (case aB => exact (by repeat (first | (with_reducible first | exact HB.out | apply below_alloc | apply pw_below_drewN | apply below_drew1) | exact HB.out))); (case aF => exact (fun _ _ => trivial)); (case aO => exact (by (with_reducible repeat (first | apply Kd.R_alloc | apply Kd.R_drewN | apply Kd.R_drew)); exact HO183.out)); (case aS => exact (below_size (by repeat (first | (with_reducible first | exact HB.out | apply below_alloc | apply pw_below_drewN | apply below_drew1) | exact HB.out)))); (case aL => have := LM.out; simp only [List.length_nil]; omega); intro v185 w14 ho hb hg hat; have n0_ := Aside0.mk (hb); have n1_ := Aside0.mk (ho); clear HB; clear HO183; have HB := n0_; have HO186 := n1_; clear n0_ n1_; clear ho hb hg hat))
   go_ret
   exact ⟨_, rfl, HO186.out, HB.out⟩
 ·rw [if_neg hl] at h
  cases h
def cmp_isNaN_int.f (a0 : Int) : Option (Bool) := some (a0 != a0)
set_option maxHeartbeats 8000000 in
set_option maxRecDepth 100000 in
theorem cmp_isNaN_int.calls (a0 : Int) (r : Bool) (w : World) (h : cmp_isNaN_int.f a0 = some r) :
  Calls Try.prog 76 #[.int .i64 a0] w fun e w' => e = .returned (.bool r) ∧ Drawn0 w w' := by
 have H : (some (a0 != a0)) = some r := h
 clear h
 obtain rfl := Option.some.inj H
 go_enter Try.func76, Try.ntmps76
 go_wp2
 go_ret
 exact ⟨by first | rfl | (simp; done) | (simp [*]; done), by repeat (first | exact Drawn0.refl _ | apply Drawn0.step)⟩
def cmp_Compare_int.f (a0 : Int) (a1 : Int) : Option (Int) := (cmp_isNaN_int.f a0).bind fun t163 => ((cmp_isNaN_int.f a1).bind fun t164 => (if t163 = true then (if t164 = true then (some 0) else (some (-1))) else (if t164 = true then (some 1) else (if a0 < a1 then (some (-1)) else (if a0 > a1 then (some 1) else (some 0))))))
set_option maxHeartbeats 8000000 in
set_option maxRecDepth 100000 in
theorem cmp_Compare_int.calls (a0 : Int) (a1 : Int) (r : Int) (w : World) (h : cmp_Compare_int.f a0 a1 = some r) :
  Calls Try.prog 72 #[.int .i64 a0, .int .i64 a1] w fun e w' => e = .returned (.int .i64 r) ∧ Drawn0 w w' := by
 have H : ((cmp_isNaN_int.f a0).bind fun t163 => ((cmp_isNaN_int.f a1).bind fun t164 => (if t163 = true then (if t164 = true then (some 0) else (some (-1))) else (if t164 = true then (some 1) else (if a0 < a1 then (some (-1)) else (if a0 > a1 then (some 1) else (some 0))))))) = some r := h
 clear h
 replace H := Option.bind_eq_some_iff.mp H
 obtain ⟨t163, A30, H⟩ := H
 replace H : ((cmp_isNaN_int.f a1).bind fun t164 => (if t163 = true then (if t164 = true then (some 0) else (some (-1))) else (if t164 = true then (some 1) else (if a0 < a1 then (some (-1)) else (if a0 > a1 then (some 1) else (some 0)))))) = some r := H
 have A3 := Am A30
 clear A30
 replace H := Option.bind_eq_some_iff.mp H
 obtain ⟨t164, A40, H⟩ := H
 replace H : (if t163 = true then (if t164 = true then (some 0) else (some (-1))) else (if t164 = true then (some 1) else (if a0 < a1 then (some (-1)) else (if a0 > a1 then (some 1) else (some 0))))) = some r := H
 have A4 := Am A40
 clear A40
 by_cases c5 : t163 = true
 ·subst c5
  have H1 : (if t164 = true then (some 0) else (some (-1))) = some r := by rw [if_pos rfl] at H; exact H
  clear H
  have H := H1
  clear H1
  by_cases c6 : t164 = true
  ·subst c6
   have H1 : (some 0) = some r := by rw [if_pos rfl] at H; exact H
   clear H
   have H := H1
   clear H1
   obtain rfl := Option.some.inj H
   go_enter Try.func72, Try.ntmps72
   go_wp2_with (first | ((with_reducible refine gate_callee (f := 76) rfl ?_); refine goesL_ (some 8) rfl rfl Try.func76 (by kernel_rfl) rfl #[.int .i64 a0] rfl pL ?_; (with_reducible refine (cmp_isNaN_int.calls a0 true _ A3.out).mono ?_); rintro e w' ⟨rfl, ⟨nd, rfl⟩⟩; refine ⟨_, rfl, ?_⟩) | ((with_reducible refine gate_callee (f := 76) rfl ?_); refine goesL_ (some 10) rfl rfl Try.func76 (by kernel_rfl) rfl #[.int .i64 a1] rfl pL ?_; (with_reducible refine (cmp_isNaN_int.calls a1 true _ A4.out).mono ?_); rintro e w' ⟨rfl, ⟨nd, rfl⟩⟩; refine ⟨_, rfl, ?_⟩))
   go_ret
   exact ⟨by first | rfl | (simp; done) | (simp [*]; done), by repeat (first | exact Drawn0.refl _ | apply Drawn0.step)⟩
  replace c6 := Bool.eq_false_iff.mpr c6
  subst c6
  have H1 : (some (-1)) = some r := by rw [if_neg (show ¬ (false = true) by decide)] at H; exact H
  clear H
  have H := H1
  clear H1
  obtain rfl := Option.some.inj H
  go_enter Try.func72, Try.ntmps72
  go_wp2_with (first | ((with_reducible refine gate_callee (f := 76) rfl ?_); refine goesL_ (some 8) rfl rfl Try.func76 (by kernel_rfl) rfl #[.int .i64 a0] rfl pL ?_; (with_reducible refine (cmp_isNaN_int.calls a0 true _ A3.out).mono ?_); rintro e w' ⟨rfl, ⟨nd, rfl⟩⟩; refine ⟨_, rfl, ?_⟩) | ((with_reducible refine gate_callee (f := 76) rfl ?_); refine goesL_ (some 10) rfl rfl Try.func76 (by kernel_rfl) rfl #[.int .i64 a1] rfl pL ?_; (with_reducible refine (cmp_isNaN_int.calls a1 false _ A4.out).mono ?_); rintro e w' ⟨rfl, ⟨nd, rfl⟩⟩; refine ⟨_, rfl, ?_⟩))
  go_ret
  exact ⟨by first | rfl | (simp; done) | (simp [*]; done), by repeat (first | exact Drawn0.refl _ | apply Drawn0.step)⟩
 replace c5 := Bool.eq_false_iff.mpr c5
 subst c5
 have H1 : (if t164 = true then (some 1) else (if a0 < a1 then (some (-1)) else (if a0 > a1 then (some 1) else (some 0)))) = some r := by rw [if_neg (show ¬ (false = true) by decide)] at H; exact H
 clear H
 have H := H1
 clear H1
 by_cases c7 : t164 = true
 ·subst c7
  have H1 : (some 1) = some r := by rw [if_pos rfl] at H; exact H
  clear H
  have H := H1
  clear H1
  obtain rfl := Option.some.inj H
  go_enter Try.func72, Try.ntmps72
  go_wp2_with (first | ((with_reducible refine gate_callee (f := 76) rfl ?_); refine goesL_ (some 8) rfl rfl Try.func76 (by kernel_rfl) rfl #[.int .i64 a0] rfl pL ?_; (with_reducible refine (cmp_isNaN_int.calls a0 false _ A3.out).mono ?_); rintro e w' ⟨rfl, ⟨nd, rfl⟩⟩; refine ⟨_, rfl, ?_⟩) | ((with_reducible refine gate_callee (f := 76) rfl ?_); refine goesL_ (some 10) rfl rfl Try.func76 (by kernel_rfl) rfl #[.int .i64 a1] rfl pL ?_; (with_reducible refine (cmp_isNaN_int.calls a1 true _ A4.out).mono ?_); rintro e w' ⟨rfl, ⟨nd, rfl⟩⟩; refine ⟨_, rfl, ?_⟩))
  go_ret
  exact ⟨by first | rfl | (simp; done) | (simp [*]; done), by repeat (first | exact Drawn0.refl _ | apply Drawn0.step)⟩
 replace c7 := Bool.eq_false_iff.mpr c7
 subst c7
 have H1 : (if a0 < a1 then (some (-1)) else (if a0 > a1 then (some 1) else (some 0))) = some r := by rw [if_neg (show ¬ (false = true) by decide)] at H; exact H
 clear H
 have H := H1
 clear H1
 by_cases c8 : a0 < a1
 ·rw [if_pos c8] at H
  have c8b0 : decide (a0 < a1) = true := decide_eq_true c8
  clear c8
  obtain rfl := Option.some.inj H
  go_enter Try.func72, Try.ntmps72
  go_wp2_with (first | ((with_reducible refine gate_callee (f := 76) rfl ?_); refine goesL_ (some 8) rfl rfl Try.func76 (by kernel_rfl) rfl #[.int .i64 a0] rfl pL ?_; (with_reducible refine (cmp_isNaN_int.calls a0 false _ A3.out).mono ?_); rintro e w' ⟨rfl, ⟨nd, rfl⟩⟩; refine ⟨_, rfl, ?_⟩) | ((with_reducible refine gate_callee (f := 76) rfl ?_); refine goesL_ (some 10) rfl rfl Try.func76 (by kernel_rfl) rfl #[.int .i64 a1] rfl pL ?_; (with_reducible refine (cmp_isNaN_int.calls a1 false _ A4.out).mono ?_); rintro e w' ⟨rfl, ⟨nd, rfl⟩⟩; refine ⟨_, rfl, ?_⟩))
  go_ret
  exact ⟨by first | rfl | (simp; done) | (simp [*]; done), by repeat (first | exact Drawn0.refl _ | apply Drawn0.step)⟩
 rw [if_neg c8] at H
 have c8b0 : decide (a0 < a1) = false := decide_eq_false c8
 clear c8
 by_cases c9 : a0 > a1
 ·rw [if_pos c9] at H
  have c9b0 : decide (a1 < a0) = true := decide_eq_true c9
  clear c9
  obtain rfl := Option.some.inj H
  go_enter Try.func72, Try.ntmps72
  go_wp2_with (first | ((with_reducible refine gate_callee (f := 76) rfl ?_); refine goesL_ (some 8) rfl rfl Try.func76 (by kernel_rfl) rfl #[.int .i64 a0] rfl pL ?_; (with_reducible refine (cmp_isNaN_int.calls a0 false _ A3.out).mono ?_); rintro e w' ⟨rfl, ⟨nd, rfl⟩⟩; refine ⟨_, rfl, ?_⟩) | ((with_reducible refine gate_callee (f := 76) rfl ?_); refine goesL_ (some 10) rfl rfl Try.func76 (by kernel_rfl) rfl #[.int .i64 a1] rfl pL ?_; (with_reducible refine (cmp_isNaN_int.calls a1 false _ A4.out).mono ?_); rintro e w' ⟨rfl, ⟨nd, rfl⟩⟩; refine ⟨_, rfl, ?_⟩))
  go_ret
  exact ⟨by first | rfl | (simp; done) | (simp [*]; done), by repeat (first | exact Drawn0.refl _ | apply Drawn0.step)⟩
 rw [if_neg c9] at H
 have c9b0 : decide (a1 < a0) = false := decide_eq_false c9
 clear c9
 obtain rfl := Option.some.inj H
 go_enter Try.func72, Try.ntmps72
 go_wp2_with (first | ((with_reducible refine gate_callee (f := 76) rfl ?_); refine goesL_ (some 8) rfl rfl Try.func76 (by kernel_rfl) rfl #[.int .i64 a0] rfl pL ?_; (with_reducible refine (cmp_isNaN_int.calls a0 false _ A3.out).mono ?_); rintro e w' ⟨rfl, ⟨nd, rfl⟩⟩; refine ⟨_, rfl, ?_⟩) | ((with_reducible refine gate_callee (f := 76) rfl ?_); refine goesL_ (some 10) rfl rfl Try.func76 (by kernel_rfl) rfl #[.int .i64 a1] rfl pL ?_; (with_reducible refine (cmp_isNaN_int.calls a1 false _ A4.out).mono ?_); rintro e w' ⟨rfl, ⟨nd, rfl⟩⟩; refine ⟨_, rfl, ?_⟩))
 go_ret
 exact ⟨by first | rfl | (simp; done) | (simp [*]; done), by repeat (first | exact Drawn0.refl _ | apply Drawn0.step)⟩
def tally_find_1.f (a0_0 : Int) (a0_1 : Int) (a1 : Int) : Option (Int) := (cmp_Compare_int.f a0_0 a1).bind fun t166 => (some t166)
set_option maxHeartbeats 8000000 in
set_option maxRecDepth 100000 in
theorem tally_find_1.calls (a0_0 : Int) (a0_1 : Int) (a1 : Int) (r : Int) (w : World) (h : tally_find_1.f a0_0 a0_1 a1 = some r) :
  Calls Try.prog 71 #[.agg #[.int .i64 a0_0, .int .i64 a0_1], .int .i64 a1] w fun e w' => e = .returned (.int .i64 r) ∧ Below w.heap.size w w' := by
 have hu79 := Try.underlying79
 have HB := Am (Below.refl w.heap.size w)
 have H : ((cmp_Compare_int.f a0_0 a1).bind fun t166 => (some t166)) = some r := h
 clear h
 replace H := Option.bind_eq_some_iff.mp H
 obtain ⟨t166, A30, H⟩ := H
 replace H : (some t166) = some r := H
 have A3 := Am A30
 clear A30
 obtain rfl := Option.some.inj H
 go_enter Try.func71, Try.ntmps71
 go_wp2_with (first | ((with_reducible refine gate_dst (N := 2) rfl ?_); refine box_event ?hg (N := 2) ?hd (cs := #[.int .i64 a0_0, .int .i64 a0_1]) (t := 79) ?hr ?_; (case hd => rfl); (case hg => rfl); (case hr => first | (go_simp; done) | (go_simp; rfl)); intro gb165 hg w4 hbox hb; have BK165 := Am (hbox); have GW165 := Am ((by rw [hg]; exact (below_size (pB HB.out)) : w.heap.size ≤ gb165)); replace HB := Am (below_step (pB HB.out) hb); have GE165 := GW165; clear hb hbox hg; obtain ⟨hcz5_0, hcz5_1⟩ := bc2 BK165.out; obtain ⟨hfz5_0, hfz5_1⟩ := bf2 BK165.out) | ((with_reducible refine gate_callee (f := 72) rfl ?_); refine goesL_ (some 8) rfl rfl Try.func72 (by kernel_rfl) rfl #[.int .i64 a0_0, .int .i64 a1] rfl pL ?_; (with_reducible refine (cmp_Compare_int.calls a0_0 a1 t166 _ A3.out).mono ?_); rintro e w' ⟨rfl, ⟨nd, rfl⟩⟩; refine ⟨_, rfl, ?_⟩))
 go_ret
 exact ⟨pX, pE HB.out GE165.out⟩
end
section
attribute [local go_sem] max2_int min2_int max_two min_two max_three min_three max_four min_four
attribute [local go_sem] wrap64_l1 wrap64_l2 wrap64_l3 wrap64_l4 wrap64_l5
def slices_BinarySearchFunc_api_Share_int.l0 : Nat → List (S79) → Int → Int → Int → Int → Option (Int × Bool)
 | 0, _, _, _, _, _ => none
 | k + 1, x0, x1, x8, x9, x10 => if x9 < x10 then (if 0 ≤ (wrap64 ((IntKind.u64.wrap (wrap64 (x9 + x10))) / 2)) then (if (wrap64 ((IntKind.u64.wrap (wrap64 (x9 + x10))) / 2)) < (x0.length : Int) then ((tally_find_1.f ((rd_T79 x0 (wrap64 ((IntKind.u64.wrap (wrap64 (x9 + x10))) / 2))).f0) ((rd_T79 x0 (wrap64 ((IntKind.u64.wrap (wrap64 (x9 + x10))) / 2))).f1) x1).bind fun t168 => (if t168 < 0 then (slices_BinarySearchFunc_api_Share_int.l0 k x0 x1 x8 (wrap64 ((wrap64 ((IntKind.u64.wrap (wrap64 (x9 + x10))) / 2)) + 1)) x10) else (slices_BinarySearchFunc_api_Share_int.l0 k x0 x1 x8 x9 (wrap64 ((IntKind.u64.wrap (wrap64 (x9 + x10))) / 2))))) else (none)) else (none)) else (if x9 < x8 then (if 0 ≤ x9 then (if x9 < (x0.length : Int) then ((tally_find_1.f ((rd_T79 x0 x9).f0) ((rd_T79 x0 x9).f1) x1).bind fun t170 => (some (x9, (t170 == 0)))) else (none)) else (none)) else (some (x9, false)))
def slices_BinarySearchFunc_api_Share_int.f (k : Nat) (l0 : List (S79)) (a1 : Int)  : Option (Int × Bool) := slices_BinarySearchFunc_api_Share_int.l0 k l0 a1 (l0.length : Int) 0 (l0.length : Int)
theorem slices_BinarySearchFunc_api_Share_int.mono_l : ∀ k, (∀ y0 y1 y2 y3 y4, LeO (slices_BinarySearchFunc_api_Share_int.l0 k y0 y1 y2 y3 y4) (slices_BinarySearchFunc_api_Share_int.l0 (k + 1) y0 y1 y2 y3 y4))
 | 0 => fun _ _ _ _ _ r h => by simp [slices_BinarySearchFunc_api_Share_int.l0] at h
 | k + 1 => by
  have ih0 := slices_BinarySearchFunc_api_Share_int.mono_l k
  ·intro y0 y1 y2 y3 y4
   unfold slices_BinarySearchFunc_api_Share_int.l0
   repeat' first
   | (with_reducible exact ih0 _ _ _ _ _)
   | (with_reducible exact LeO.refl _)
   | (with_reducible exact LeO.none _)
   | (with_reducible refine LeO.ite ?_ ?_)
   | (with_reducible refine LeO.bind ?_ (fun _ => ?_))
   | exact ih0 _ _ _ _ _
   | exact LeO.none _
   | refine LeO.ite ?_ ?_
   | refine LeO.bind ?_ (fun _ => ?_)
theorem slices_BinarySearchFunc_api_Share_int.mono : ∀ a0 a1 k, LeO (slices_BinarySearchFunc_api_Share_int.f k a0 a1) (slices_BinarySearchFunc_api_Share_int.f (k + 1) a0 a1) := by
 intro a0 a1 k
 have ih0 := slices_BinarySearchFunc_api_Share_int.mono_l k
 unfold slices_BinarySearchFunc_api_Share_int.f
 repeat' first
   | (with_reducible exact ih0 _ _ _ _ _)
   | (with_reducible exact LeO.refl _)
   | (with_reducible exact LeO.none _)
   | (with_reducible refine LeO.ite ?_ ?_)
   | (with_reducible refine LeO.bind ?_ (fun _ => ?_))
   | exact ih0 _ _ _ _ _
   | exact LeO.none _
   | refine LeO.ite ?_ ?_
   | refine LeO.bind ?_ (fun _ => ?_)
set_option maxHeartbeats 8000000 in
set_option maxRecDepth 100000 in
theorem slices_BinarySearchFunc_api_Share_int.calls (k : Nat) (A0 : Option Addr) (c0 : Nat) (l0 : List (S79)) (a1 : Int)  (r1 : Int) (r2 : Bool) (w : World) (hr0 : Kd.C k79 w A0 l0.length l0) (hc0 : l0.length ≤ c0) (h : slices_BinarySearchFunc_api_Share_int.f k l0 a1 = some (r1, r2)) :
  Calls Try.prog 70 #[.slice A0 l0.length c0, .int .i64 a1, .func (.func 71) #[] #[]] w fun e w' => e = .returned (.tuple #[.int .i64 r1, .bool r2]) ∧ Below w.heap.size w w' := by
 have hu79 := Try.underlying79
 have HR0 := Am hr0
 have HC0 := Am hc0
 clear hr0 hc0
 have HB := Am (Below.refl w.heap.size w)
 have H : (slices_BinarySearchFunc_api_Share_int.l0 k l0 a1 (l0.length : Int) 0 (l0.length : Int)) = some (r1, r2) := h
 clear h
 have H' := Am H
 clear H
 go_enter Try.func70, Try.ntmps70
 go_wp2
 go_loopg [9, 10] k (fun kq v9 v10 w' => ∃ (Aa : Int) (Ab : Int), v9 = .int .i64 Aa ∧ v10 = .int .i64 Ab ∧ Aside0 (slices_BinarySearchFunc_api_Share_int.l0 kq l0 a1 (l0.length : Int) Aa Ab = some (r1, r2)) ∧ Aside0 (kq ≤ k) ∧ Aside0 (Below w.heap.size w w'))
 case atStart => exact ⟨(0), ((l0.length : Int)), (by first | rfl | (simp; done) | (simp [*]; done)), (by first | rfl | (simp; done) | (simp [*]; done)), H', ⟨Nat.le_refl _⟩, ⟨pB HB.out⟩⟩
 case round =>
  clear H'
  try clear p2
  obtain ⟨Aa, Ab, rfl, rfl, HA, HK1, HB⟩ := hrel
  cases gk with
  | zero => exact absurd HA.out (by simp [slices_BinarySearchFunc_api_Share_int.l0])
  | succ k1 =>
   have H := HA.out
   clear HA
   simp only [slices_BinarySearchFunc_api_Share_int.l0] at H
   by_cases c4 : Aa < Ab
   rotate_left
   ·rw [if_neg c4] at H
    have c4b0 : decide (Aa < Ab) = false := decide_eq_false c4
    clear c4
    by_cases c12 : Aa < (l0.length : Int)
    rotate_left
    ·rw [if_neg c12] at H
     have c12b0 : decide (Aa < (l0.length : Int)) = false := decide_eq_false c12
     clear c12
     simp only [Option.some.injEq, Prod.mk.injEq] at H
     obtain ⟨rfl, rfl⟩ := H
     go_wp2
     go_ret2
     exact ⟨pX, pB HB.out⟩
    rw [if_pos c12] at H
    have c12b0 : decide (Aa < (l0.length : Int)) = true := decide_eq_true c12
    clear c12
    by_cases c13 : 0 ≤ Aa
    rotate_left
    ·rw [if_neg c13] at H
     exact absurd H (by simp)
    rw [if_pos c13] at H
    have c13b0 : decide (0 ≤ Aa) = true := decide_eq_true c13
    clear c13
    by_cases c14 : Aa < (l0.length : Int)
    rotate_left
    ·rw [if_neg c14] at H
     exact absurd H (by simp)
    rw [if_pos c14] at H
    have c14b0 : decide (Aa < (l0.length : Int)) = true := decide_eq_true c14
    clear c14
    replace H := Option.bind_eq_some_iff.mp H
    obtain ⟨t170, A150, H⟩ := H
    replace H : (some (Aa, (t170 == 0))) = some (r1, r2) := H
    have A15 := Am A150
    clear A150
    simp only [Option.some.injEq, Prod.mk.injEq] at H
    obtain ⟨rfl, rfl⟩ := H
    have p169 : 0 ≤ (Aa : Int) := of_decide_eq_true pS
    have q169 : Aa < (l0.length : Int) := of_decide_eq_true pS
    obtain ⟨ad169, e169, hx169_0, hx169_1⟩ := at_T79u HR0.out Aa p169 q169 HB.out
    cases e169
    replace p169 := eq_true p169
    replace q169 := eq_true q169
    go_wp2_with (first | (go_at_call 71; (with_reducible refine (tally_find_1.calls ((rd_T79 l0 Aa).f0) ((rd_T79 l0 Aa).f1) a1 t170 _ A15.out).mono ?_); rintro e w16 ⟨rfl, hb⟩; replace HB := Am (below_step (pB HB.out) hb); (try clear hb); (try clear hb2); (try clear hk); (try clear hi)))
    go_ret2
    exact ⟨pX, pB HB.out⟩
   rw [if_pos c4] at H
   have c4b0 : decide (Aa < Ab) = true := decide_eq_true c4
   clear c4
   obtain ⟨ji5, hji5⟩ : ∃ j_ : Int, (wrap64 ((IntKind.u64.wrap (wrap64 (Aa + Ab))) / 2)) = j_ := ⟨_, rfl⟩
   replace H : (if 0 ≤ (ji5) then (if (ji5) < (l0.length : Int) then ((tally_find_1.f ((rd_T79 l0 (ji5)).f0) ((rd_T79 l0 (ji5)).f1) a1).bind fun t168 => (if t168 < 0 then (slices_BinarySearchFunc_api_Share_int.l0 k1 l0 a1 (l0.length : Int) (wrap64 ((ji5) + 1)) Ab) else (slices_BinarySearchFunc_api_Share_int.l0 k1 l0 a1 (l0.length : Int) Aa ji5))) else (none)) else (none)) = some (r1, r2) := by first | (rw [hji5] at H; exact H) | (simp only [hji5] at H ⊢; exact H)
   have hji5w : (IntKind.i64.wrap ((IntKind.u64.wrap (wrap64 (Aa + Ab))) / 2)) = ji5 := (i64_w _).trans hji5
   by_cases c6 : 0 ≤ (ji5)
   rotate_left
   ·rw [if_neg c6] at H
    exact absurd H (by simp)
   rw [if_pos c6] at H
   have c6b0 : decide (0 ≤ (ji5)) = true := decide_eq_true c6
   clear c6
   by_cases c7 : (ji5) < (l0.length : Int)
   rotate_left
   ·rw [if_neg c7] at H
    exact absurd H (by simp)
   rw [if_pos c7] at H
   have c7b0 : decide ((ji5) < (l0.length : Int)) = true := decide_eq_true c7
   clear c7
   replace H := Option.bind_eq_some_iff.mp H
   obtain ⟨t168, A80, H⟩ := H
   replace H : (if t168 < 0 then (slices_BinarySearchFunc_api_Share_int.l0 k1 l0 a1 (l0.length : Int) (wrap64 ((ji5) + 1)) Ab) else (slices_BinarySearchFunc_api_Share_int.l0 k1 l0 a1 (l0.length : Int) Aa ji5)) = some (r1, r2) := H
   have A8 := Am A80
   clear A80
   by_cases c9 : t168 < 0
   ·rw [if_pos c9] at H
    have c9b0 : decide (t168 < 0) = true := decide_eq_true c9
    clear c9
    have H' := Am H
    clear H
    have p167 : 0 ≤ ((ji5) : Int) := of_decide_eq_true pS
    have q167 : (ji5) < (l0.length : Int) := of_decide_eq_true pS
    obtain ⟨Ae, e167, Ac, Ad⟩ := at_T79u HR0.out (ji5) p167 q167 HB.out
    cases e167
    replace p167 := eq_true p167
    replace q167 := eq_true q167
    go_wp2_with (first | (go_at_call 71; (with_reducible refine (tally_find_1.calls ((rd_T79 l0 (ji5)).f0) ((rd_T79 l0 (ji5)).f1) a1 t168 _ A8.out).mono ?_); rintro e w10 ⟨rfl, hb⟩; replace HB := Am (below_step (pB HB.out) hb); (try clear hb); (try clear hb2); (try clear hk); (try clear hi)))
    go_roundg k1
    case measure => have := HK1.out; omega
    case rel => exact ⟨(wrap64 ((ji5) + 1)), (Ab), (by first | rfl | (simp; done) | (simp only [← hji5] <;> (first | rfl | simp)) | (simp [*]; done)), (by first | rfl | (simp; done) | (simp [*]; done)), H', ⟨by have := HK1.out; omega⟩, ⟨pB HB.out⟩⟩
   rw [if_neg c9] at H
   have c9b0 : decide (t168 < 0) = false := decide_eq_false c9
   clear c9
   have H' := Am H
   clear H
   have p167 : 0 ≤ ((ji5) : Int) := of_decide_eq_true pS
   have q167 : (ji5) < (l0.length : Int) := of_decide_eq_true pS
   obtain ⟨Ae, e167, Ac, Ad⟩ := at_T79u HR0.out (ji5) p167 q167 HB.out
   cases e167
   replace p167 := eq_true p167
   replace q167 := eq_true q167
   go_wp2_with (first | (go_at_call 71; (with_reducible refine (tally_find_1.calls ((rd_T79 l0 (ji5)).f0) ((rd_T79 l0 (ji5)).f1) a1 t168 _ A8.out).mono ?_); rintro e w11 ⟨rfl, hb⟩; replace HB := Am (below_step (pB HB.out) hb); (try clear hb); (try clear hb2); (try clear hk); (try clear hi)))
   go_roundg k1
   case measure => have := HK1.out; omega
   case rel => exact ⟨(Aa), (ji5), (by first | rfl | (simp; done) | (simp [*]; done)), (by first | rfl | (simp; done) | (simp only [← hji5] <;> (first | rfl | simp)) | (simp [*]; done)), H', ⟨by have := HK1.out; omega⟩, ⟨pB HB.out⟩⟩
def tally_find.f (k : Nat) (l0 : List (S79)) (a1 : Int) : Option (Int × Bool) := (slices_BinarySearchFunc_api_Share_int.f k l0 a1).bind fun bt171 => (some (bt171.1, bt171.2))
theorem tally_find.mono : ∀ a0 a1 k, LeO (tally_find.f k a0 a1) (tally_find.f (k + 1) a0 a1) := by
 intro a0 a1 k
 unfold tally_find.f
 repeat' first
   | (with_reducible exact slices_BinarySearchFunc_api_Share_int.mono _ _ _)
   | (with_reducible exact LeO.refl _)
   | (with_reducible exact LeO.none _)
   | (with_reducible refine LeO.ite ?_ ?_)
   | (with_reducible refine LeO.bind ?_ (fun _ => ?_))
   | exact slices_BinarySearchFunc_api_Share_int.mono _ _ _
   | exact LeO.none _
   | refine LeO.ite ?_ ?_
   | refine LeO.bind ?_ (fun _ => ?_)
set_option maxHeartbeats 8000000 in
set_option maxRecDepth 100000 in
theorem tally_find.calls (k : Nat) (A0 : Option Addr) (c0 : Nat) (l0 : List (S79)) (a1 : Int) (r1 : Int) (r2 : Bool) (w : World) (hr0 : Kd.C k79 w A0 l0.length l0) (hc0 : l0.length ≤ c0) (h : tally_find.f k l0 a1 = some (r1, r2)) :
  Calls Try.prog 67 #[.slice A0 l0.length c0, .int .i64 a1] w fun e w' => e = .returned (.tuple #[.int .i64 r1, .bool r2]) ∧ Below w.heap.size w w' := by
 have HR0 := Am hr0
 have HC0 := Am hc0
 clear hr0 hc0
 have HB := Am (Below.refl w.heap.size w)
 have H : ((slices_BinarySearchFunc_api_Share_int.f k l0 a1).bind fun bt171 => (some (bt171.1, bt171.2))) = some (r1, r2) := h
 clear h
 replace H := Option.bind_eq_some_iff.mp H
 obtain ⟨⟨t171, t172⟩, A30, H⟩ := H
 replace H : (some (t171, t172)) = some (r1, r2) := H
 have A3 := Am A30
 clear A30
 simp only [Option.some.injEq, Prod.mk.injEq] at H
 obtain ⟨rfl, rfl⟩ := H
 go_enter Try.func67, Try.ntmps67
 go_wp2_with (first | ((with_reducible refine gate_callee (f := 70) rfl ?_); refine goesL_ (some 8) rfl rfl Try.func70 (by kernel_rfl) rfl #[.slice A0 l0.length c0, .int .i64 a1, .func (.func 71) #[] #[]] rfl pL ?_; (with_reducible refine (slices_BinarySearchFunc_api_Share_int.calls k _ _ l0 a1 t171 t172 _ ?side1 ?side2 A3.out).mono ?_); (case side1 => repeat (first | exact HR0.out | (with_reducible refine Kd.C_alloc ?_ _) | (with_reducible refine Kd.C_drewN ?_ _) | (with_reducible refine Kd.C_drew ?_))); (case side2 => exact HC0.out); rintro e w4 ⟨rfl, hb⟩; refine ⟨_, rfl, ?_⟩; replace HB := Am (below_step (pB HB.out) hb); (try clear hb); (try clear hb2); (try clear hk); (try clear hi)))
 go_ret2
 exact ⟨pX, pB HB.out⟩
section
variable {P : Program}
theorem slices_Insert_api_Share.run_copy_rowN (w : World) (dT sT ty elem : TypeId) (sz : Nat) (g o dLen dCap : Nat) (a : Addr) (sLen sCap : Nat) (cur : Array Value) (t : TypeId) (cs : List Value)
  (hu : P.underlying dT = some (.slice elem)) (hs : (P.info? elem).map (·.size) = some sz)
  (hg : w.heap[g]? = some (.cells cur t (0, 0))) (hn : cs.length = Nat.min sLen dLen * sz)
  (hsrc : ∀ j v, cs[j]? = some v → w.cell? (a.add j) = some v) (hfit : o + cs.length ≤ cur.size) (h1 : ∀ v ∈ cs, v.oneCell' = true) :
  (Builtin.copy_ #[dT, sT] ty #[.slice (some ⟨g, o, none⟩) dLen dCap, .slice (some a) sLen sCap]).run P w =
   .ok (goInt (Nat.min sLen dLen)) (w.setRow g (cur.toList.take o ++ cs ++ cur.toList.drop (o + cs.length)).toArray) := by
 have hl := run_loadCells_list (P := P) w a cs hsrc
 have hst := run_storeCells_at P g o t cs 0 cur w hg (by simpa using hfit) h1
 cases hq : P.info? elem with
 | none => simp [hq] at hs
 | some i =>
  have hi : i.size = sz := by simpa [hq] using hs
  simp [Builtin.copy_, run_underlying hu, Builtin.lenOf, Builtin.firstCells, sizeOf, typeInfo, hq, hi, ← hn, hl, hst]
theorem slices_Insert_api_Share.wp_copy_runN (w : World) {o : Oper} {a : Act} {K : Act → World → Prop} {Q : Exit → Act → World → Prop} (d s : Operand) (t t' : TypeId)
  (ho : o.op = .call { callee := .builtin .copy, args := #[d, s], argTypes := #[t, t'] }) (v u : Value) (hd : a.eval d = v) (hs : a.eval s = u) {v' : Value} {w' : World}
  (hr : (Builtin.copy_ #[t, t'] o.type #[v, u]).run P w = .ok v' w') (h : K (a.put o.dst v') w') : o.wp P a w K Q := by
 unfold Oper.wp execOp
 simp only [ho, resolve, invoke, builtin, Sem.run_bind, Sem.run_pure, Result.andThen_ok, List.map_toArray, List.map_cons, List.map_nil, hd, hs, hr]
 exact h
theorem slices_Insert_api_Share.wpList_copy_runN (w : World) {ops : Array Oper} {rest : List Oper} {o : Oper} {a : Act} {Q : Exit → Act → World → Prop} (hgd : o.guard = none) (d s : Operand) (t t' : TypeId)
  (ho : o.op = .call { callee := .builtin .copy, args := #[d, s], argTypes := #[t, t'] }) (v u : Value) (hd : a.eval d = v) (hs : a.eval s = u) {v' : Value} {w' : World}
  (hr : (Builtin.copy_ #[t, t'] o.type #[v, u]).run P w = .ok v' w') (h : wpList P ops Q rest (a.put o.dst v') w') : wpList P ops Q (o :: rest) a w :=
 wpList_plain hgd fun _ hK => slices_Insert_api_Share.wp_copy_runN w d s t t' ho v u hd hs hr (hK _ _ h)
theorem slices_Insert_api_Share.step_copy_runN {ops : Array Oper} {o : Oper} {a : Act} {w : World} {K : Act → World → Prop} {Q : Exit → Act → World → Prop} {E : Prop}
  (hg : o.guard = none) (d x : Operand) (dT sT : TypeId) (hop : o.op = Op.call { callee := Callee.builtin Builtin.copy, args := #[d, x], argTypes := #[dT, sT] })
  (v u : Value) (hd : a.eval d = v) (hx : a.eval x = u) {v' : Value} {w' : World} (hr : (Builtin.copy_ #[dT, sT] o.type #[v, u]).run P w = .ok v' w') (hK : K (a.put o.dst v') w') :
  if Region.wanted o (yielded ops a.tmps) = true then Oper.wp P o a w K Q else E := by
 have hw : Region.wanted o (yielded ops a.tmps) = true := by simp [Region.wanted, hg]
 rw [if_pos hw]
 unfold Oper.wp
 simp [execOp, hop, resolve, invoke, builtin, hd, hx, hr, Result.andThen]
 exact hK
end
theorem slices_Insert_api_Share.splice_two {α : Type} (L X Y R : List α) (p : Nat) (hp : p + Y.length ≤ L.length) :
  (((L.take (p + Y.length) ++ X ++ R).take p ++ Y ++ (L.take (p + Y.length) ++ X ++ R).drop (p + Y.length)).take (p + Y.length + X.length)) = L.take p ++ Y ++ X := by
 have hl : (L.take (p + Y.length)).length = p + Y.length := by rw [List.length_take]; omega
 have e1 : (L.take (p + Y.length) ++ X ++ R).take p = L.take p := by
  rw [List.append_assoc, List.take_append_of_le_length (by omega), List.take_take, Nat.min_eq_left (by omega)]
 have e2 : (L.take (p + Y.length) ++ X ++ R).drop (p + Y.length) = X ++ R := by
  rw [List.append_assoc]
  conv => lhs; arg 1; rw [← hl]
  exact List.drop_left
 rw [e1, e2, ← List.append_assoc]
 have hl2 : (L.take p ++ Y ++ X).length = p + Y.length + X.length := by rw [List.length_append, List.length_append, List.length_take]; omega
 rw [← hl2]
 exact List.take_left
theorem slices_Insert_api_Share.grown_setRow (w : World) (g : Nat) (cs : Array Value) : w.grownBy (w.setRow g cs) (some g) := ⟨rfl, rfl, rfl, by simp [World.setRow], fun k _ hk => setRow_other w g k cs (fun e => hk (by rw [e]))⟩
theorem slices_Insert_api_Share.grown_drew (w : World) (r : Option Nat) : w.grownBy w.drew r := ⟨rfl, rfl, rfl, Nat.le_refl _, fun _ _ _ => rfl⟩
set_option maxHeartbeats 4000000 in
set_option maxRecDepth 100000 in
/-- There is room, ahead of the end: in place. -/
theorem slices_Insert_api_Share.ins_shift (b n c i vb vc : Nat) (cur curv : Array Value) (w : World) (hi : i < n) (hroom : n + 1 ≤ c) (hcm : c ≤ maxLen) (hvb : vb ≠ b)
  (hb : w.heap[b]? = some (.cells cur 79 (0, 0))) (hcs : cur.size = c * 2) (hv : w.heap[vb]? = some (.cells curv 79 (0, 0))) (hvs : curv.size = vc * 2) (hv1 : 1 ≤ vc)
  (h1 : ∀ u ∈ cur.toList.take (n * 2), u.oneCell' = true) (h1v : ∀ u ∈ curv.toList.take 2, u.oneCell' = true) :
  Calls Try.prog 68 #[.slice (some ⟨b, 0, none⟩) n c, .int .i64 i, .slice (some ⟨vb, 0, none⟩) 1 vc] w fun e w' =>
   e = .returned (.slice (some ⟨b, 0, none⟩) (n + 1) c) ∧ w.grownBy w' (some b) ∧ ∃ cur' : Array Value, w'.heap[b]? = some (.cells cur' 79 (0, 0)) ∧ cur'.size = c * 2 ∧
    cur'.toList.take ((n + 1) * 2) = cur.toList.take (i * 2) ++ curv.toList.take 2 ++ (cur.toList.drop (i * 2)).take ((n - i) * 2) := by
 have hu39 := Try.underlying39
 have c63 : (c : Int) ≤ 9223372036854775807 := by unfold maxLen at hcm; omega
 have hz2 : ¬ ((i : Int) = (n : Int)) := by omega
 have hsz : (Try.prog.info? 79).map (·.size) = some 2 := by kernel_rfl
 have hw1 : IntKind.i64.wrap ((i : Int) + 1) = (i : Int) + 1 := by rw [IntKind.wrap_i64]; omega
 have q1 : (0 : Int) ≤ (i : Int) + 1 := by omega
 have q2 : i ≤ n := by omega
 have q3 : ((i : Int) + 1).toNat = i + 1 := by omega
 have q4 : ¬ (c = i + 1) := by omega
 have q5 : (i : Int) ≤ (n : Int) + 1 := by omega
 have q6 : ¬ (c = i) := by omega
 have q7 : i ≤ n + 1 := by omega
 have hw2 : IntKind.i64.wrap ((n : Int) + 1) = ((n + 1 : Nat) : Int) := by rw [IntKind.wrap_i64]; omega
 have hsb : w.shape? b = some (79, cur.size) := by simp [World.shape?, hb]
 have hsa : w.shape? vb = some (79, curv.size) := by simp [World.shape?, hv]
 have hfa : ∀ k, w.frozen? ⟨vb, k, none⟩ = false := fun k => by simp [World.frozen?, hv]
 have hzz : ∀ W : World, (Go.sizeOf 79).run Try.prog W = .ok 2 W := fun W => by kernel_rfl
 have hov : ∀ lb cb, (callFunc 73 #[.slice (some ⟨vb, 0, none⟩) 1 vc, .slice (some ⟨b, (i + 1) * 2, none⟩) lb cb]).run Try.prog w = .ok (.value (.bool false)) w := fun lb cb => by
  rw [run_callFunc_extern Try.func73 (by kernel_rfl) (by kernel_rfl) (by kernel_rfl) (e := Extern.SlicesOverlaps.overlaps #[39, 39] #[4]) (by kernel_rfl),
   Lib.run_overlaps_apart w 39 4 79 Try.underlying39 2 hzz ⟨vb, 0, none⟩ ⟨b, (i + 1) * 2, none⟩ 1 vc lb cb hvb 79 79 curv.size cur.size hsa hsb (by omega) (hfa 0) (hfa _)]
  rfl
 obtain ⟨cs1, hcs1⟩ : ∃ cs1, cs1 = (cur.toList.drop (i * 2)).take ((n - i) * 2) := ⟨_, rfl⟩
 obtain ⟨vs, hvs1⟩ : ∃ vs, vs = curv.toList.take 2 := ⟨_, rfl⟩
 have hl1 : cs1.length = (n - i) * 2 := by rw [hcs1, List.length_take, List.length_drop, Array.length_toList]; omega
 have hl2 : vs.length = 2 := by rw [hvs1, List.length_take, Array.length_toList]; omega
 have hm1 : Nat.min (n + 1 - i) (n - i) = n - i := by simp only [Nat.min_def]; split <;> omega
 have hm2 : Nat.min 1 (n + 1 - i) = 1 := by simp only [Nat.min_def]; split <;> omega
 have hn1 : n + 1 - (i + 1) = n - i := by omega
 obtain ⟨cur1, hc1⟩ : ∃ cur1 : Array Value, cur1 = (cur.toList.take ((i + 1) * 2) ++ cs1 ++ cur.toList.drop ((i + 1) * 2 + cs1.length)).toArray := ⟨_, rfl⟩
 have hcs1' : cur1.size = cur.size := by rw [hc1, List.size_toArray, List.length_append, List.length_append, List.length_take, List.length_drop, Array.length_toList, hl1]; omega
 have hcp1 : ∀ ty dc sc, (Builtin.copy_ #[39, 39] ty #[.slice (some ⟨b, (i + 1) * 2, none⟩) (n - i) dc, .slice (some ⟨b, i * 2, none⟩) (n + 1 - i) sc]).run Try.prog w.drew = .ok (goInt ((n - i : Nat) : Int)) (w.drew.setRow b cur1) := fun ty dc sc => by
  have := slices_Insert_api_Share.run_copy_rowN (P := Try.prog) w.drew 39 39 ty 79 2 b ((i + 1) * 2) (n - i) dc ⟨b, i * 2, none⟩ (n + 1 - i) sc cur 79 cs1 Try.underlying39 hsz hb (by rw [hl1, hm1]) (fun j v hj => by
   rw [hcs1, List.getElem?_take] at hj
   split at hj
   ·rw [List.getElem?_drop] at hj
    rw [Addr.add_lit]
    show w.cell? _ = _
    simp [World.cell?, hb]
    simpa using hj
   ·cases hj) (by rw [hl1]; omega) (fun u hu => h1 u (by rw [hcs1] at hu; have e : (cur.toList.take (n * 2)).drop (i * 2) = (cur.toList.drop (i * 2)).take ((n - i) * 2) := (by rw [List.drop_take, show n * 2 - i * 2 = (n - i) * 2 by omega]); rw [← e] at hu; exact List.mem_of_mem_drop hu))
  rw [hm1, ← hc1] at this
  exact this
 obtain ⟨cur2, hc2⟩ : ∃ cur2 : Array Value, cur2 = (cur1.toList.take (i * 2) ++ vs ++ cur1.toList.drop (i * 2 + vs.length)).toArray := ⟨_, rfl⟩
 have hb1 : (w.drew.setRow b cur1).heap[b]? = some (.cells cur1 79 (0, 0)) := setRow_heap w.drew b cur cur1 79 (0, 0) hb
 have hcp2 : ∀ ty dc, (Builtin.copy_ #[39, 39] ty #[.slice (some ⟨b, i * 2, none⟩) (n + 1 - i) dc, .slice (some ⟨vb, 0, none⟩) 1 vc]).run Try.prog (w.drew.setRow b cur1) = .ok (goInt 1) ((w.drew.setRow b cur1).setRow b cur2) := fun ty dc => by
  have := slices_Insert_api_Share.run_copy_rowN (P := Try.prog) (w.drew.setRow b cur1) 39 39 ty 79 2 b (i * 2) (n + 1 - i) dc ⟨vb, 0, none⟩ 1 vc cur1 79 vs Try.underlying39 hsz hb1 (by rw [hl2, hm2]) (fun j v hj => by
   rw [hvs1, List.getElem?_take] at hj
   split at hj
   ·rw [Addr.add_lit]
    have hv' : (w.drew.setRow b cur1).heap[vb]? = some (.cells curv 79 (0, 0)) := (setRow_other w.drew b vb cur1 hvb).trans hv
    simp [World.cell?, hv']
    simpa using hj
   ·cases hj) (by rw [hl2, hcs1']; omega) (fun u hu => h1v u (by rw [hvs1] at hu; exact hu))
  rw [hm2, ← hc2] at this
  exact this
 have HX : Aside0 (w.grownBy ((w.drew.setRow b cur1).setRow b cur2) (some b) ∧ ∃ cur' : Array Value, ((w.drew.setRow b cur1).setRow b cur2).heap[b]? = some (.cells cur' 79 (0, 0)) ∧ cur'.size = c * 2 ∧
   cur'.toList.take ((n + 1) * 2) = cur.toList.take (i * 2) ++ curv.toList.take 2 ++ (cur.toList.drop (i * 2)).take ((n - i) * 2)) := ⟨by
  refine ⟨((slices_Insert_api_Share.grown_drew w _).trans (slices_Insert_api_Share.grown_setRow _ _ _)).trans (slices_Insert_api_Share.grown_setRow _ _ _), cur2, setRow_heap _ b cur1 cur2 79 (0, 0) hb1, ?_, ?_⟩
  ·rw [hc2, List.size_toArray, List.length_append, List.length_append, List.length_take, List.length_drop, Array.length_toList, hl2, hcs1']; omega
  ·have := slices_Insert_api_Share.splice_two cur.toList cs1 vs (cur.toList.drop ((i + 1) * 2 + cs1.length)) (i * 2) (by rw [hl2, Array.length_toList]; omega)
   rw [hl2, hl1, show i * 2 + 2 = (i + 1) * 2 by omega, show (i + 1) * 2 + (n - i) * 2 = (n + 1) * 2 by omega] at this
   rw [← hvs1, ← hcs1, hc2, hc1, hl1, hl2, show i * 2 + 2 = (i + 1) * 2 by omega, show (i + 1) * 2 + (n - i) * 2 = (n + 1) * 2 by omega]
   exact this⟩
 clear hc1 hc2 hcs1 hvs1 hcs1' hl1 hl2 hb1
 go_enter Try.func68, Try.ntmps68
 go_wp2_with (simp only [hov])
 go_region_law (refine slices_Insert_api_Share.step_copy_runN rfl _ _ 39 39 rfl _ _ (by simp [Act.eval, Act.put]) (by simp [Act.eval, Act.put]) (hcp1 _ _ _) ?_)
 go_wp2_with (at_builtin; refine slices_Insert_api_Share.wpList_copy_runN _ rfl _ _ 39 39 rfl _ _ rfl rfl (hcp2 _ _) ?_)
 go_ret
 exact ⟨rfl, HX.out⟩
set_option maxHeartbeats 4000000 in
set_option maxRecDepth 100000 in
/-- There is no room, ahead of the end: a new row. -/
theorem slices_Insert_api_Share.ins_grow (b n c i vb vc : Nat) (cur curv : Array Value) (w : World) (hi : i < n) (hnc : n ≤ c) (hroom : c < n + 1) (hbig : (n + 1) * 16 ≤ 140737488355328)
  (hb : w.heap[b]? = some (.cells cur 79 (0, 0))) (hcs : cur.size = c * 2) (hv : w.heap[vb]? = some (.cells curv 79 (0, 0))) (hvs : curv.size = vc * 2) (hv1 : 1 ≤ vc)
  (h1 : ∀ u ∈ cur.toList.take (n * 2), u.oneCell' = true) (h1v : ∀ u ∈ curv.toList.take 2, u.oneCell' = true) :
  Calls Try.prog 68 #[.slice (some ⟨b, 0, none⟩) n c, .int .i64 i, .slice (some ⟨vb, 0, none⟩) 1 vc] w fun e w' =>
   ∃ c' : Nat, e = .returned (.slice (some ⟨w.heap.size, 0, none⟩) (n + 1) c') ∧ w.grownBy w' none ∧ n + 1 ≤ c' ∧ c' ≤ maxLen ∧ ∃ cur' : Array Value, w'.heap[w.heap.size]? = some (.cells cur' 79 (0, 0)) ∧ cur'.size = c' * 2 ∧
    cur'.toList.take ((n + 1) * 2) = cur.toList.take (i * 2) ++ curv.toList.take 2 ++ (cur.toList.drop (i * 2)).take ((n - i) * 2) := by
 have hu39 := Try.underlying39
 have hu3 := Try.underlying3
 have hsz : (Try.prog.info? 79).map (·.size) = some 2 := by kernel_rfl
 obtain ⟨i0, hi0, hz0, hzs, hzb⟩ := info_parts info79
 have hw1 : IntKind.i64.wrap ((i : Int) + 1) = (i : Int) + 1 := by rw [IntKind.wrap_i64]; omega
 have hw2 : IntKind.i64.wrap ((n : Int) + 1) = (n : Int) + 1 := by rw [IntKind.wrap_i64]; omega
 have hw3 : IntKind.i64.wrap ((n : Int) + 1 - (i : Int)) = (n : Int) + 1 - (i : Int) := by rw [IntKind.wrap_i64]; omega
 have hz2 : ¬ ((i : Int) = (n : Int)) := by omega
 have hz3 : (c : Int) < (n : Int) + 1 := by omega
 have q1 : (0 : Int) ≤ (i : Int) + 1 := by omega
 have q2 : i ≤ n := by omega
 have q3 : ((i : Int) + 1).toNat = i + 1 := by omega
 have hkk : (n : Int) + 1 - (i : Int) = ((n + 1 - i : Nat) : Int) := by omega
 have hik : i + (n + 1 - i) = n + 1 := by omega
 have hold : (Builtin.firstCells i0.size i (.slice (some ⟨b, 0, none⟩) i c)).run Try.prog w.drew = .ok (cur.toList.take (i * 2)).toArray w.drew := by
  rw [hzs]
  exact run_firstCells_some w.drew 2 i ⟨b, 0, none⟩ i c (cur.toList.take (i * 2)) (by rw [List.length_take, Array.length_toList]; omega) (fun j v hj => by
   rw [List.getElem?_take] at hj
   split at hj
   ·rw [Addr.add_lit]
    show w.cell? _ = _
    simp [World.cell?, hb]
    simpa using hj
   ·cases hj)
 obtain ⟨G, hG⟩ : ∃ G, G = grownCap w (n + 1) c 79 := ⟨_, rfl⟩
 obtain ⟨ROW, hROW⟩ : ∃ ROW : Array Value, ROW = (cur.toList.take (i * 2)).toArray ++ Builtin.zeroCells (Value.agg #[.int .i64 0, .int .i64 0]).cells (n + 1 - i) ++ Builtin.zeroCells (Value.agg #[.int .i64 0, .int .i64 0]).cells (G - (n + 1)) := ⟨_, rfl⟩
 have hrz : ∀ ty, (Builtin.append_ #[39, 3] ty #[.slice (some ⟨b, 0, none⟩) i c, .int .i64 ((n : Int) + 1 - (i : Int))]).run Try.prog w = .ok (.slice (some ⟨w.heap.size, 0, none⟩) (n + 1) G) (w.drew.alloc (.cells ROW 79)) := fun ty => by
  have h := Lib.run_append_grow_zeros w 39 3 ty 79 i0 _ .i64 .i64 Try.underlying39 Try.underlying3 hi0 hz0 (some ⟨b, 0, none⟩) i c (cur.toList.take (i * 2)) hold (n + 1 - i) (by omega) (by omega) (by omega) (by omega) (by rw [hzb]; omega) (by rw [hzb, hik]; exact growslice_fits (by omega) hbig)
  rw [hik, ← hG, ← hROW] at h
  rw [hkk]
  exact h
 have hGn : n + 1 ≤ G := by rw [hG]; exact grownCap_ge w _ _ _
 have hGm : G ≤ maxLen := by rw [hG]; exact grownCap_le_maxLen w (n + 1) c 79 (by unfold maxLen; omega)
 have hG63 : (G : Int) ≤ 9223372036854775807 := by unfold maxLen at hGm; omega
 have hRs : ROW.size = G * 2 := by
  rw [hROW]
  simp [Builtin.zeroCells, Value.cells]
  omega
 have hbw : b < w.heap.size := (Array.getElem?_eq_some_iff.1 hb).1
 have hvw : vb < w.heap.size := (Array.getElem?_eq_some_iff.1 hv).1
 have q4 : ¬ (G = i + 1) := by omega
 have q5 : ¬ (G = i) := by omega
 have q6 : ¬ (c = i) := by omega
 have q7 : i ≤ n + 1 := by omega
 have q8 : (i : Int) ≤ (n : Int) := by omega
 obtain ⟨cs1, hcs1⟩ : ∃ cs1, cs1 = (cur.toList.drop (i * 2)).take ((n - i) * 2) := ⟨_, rfl⟩
 obtain ⟨vs, hvs1⟩ : ∃ vs, vs = curv.toList.take 2 := ⟨_, rfl⟩
 have hl1 : cs1.length = (n - i) * 2 := by rw [hcs1, List.length_take, List.length_drop, Array.length_toList]; omega
 have hl2 : vs.length = 2 := by rw [hvs1, List.length_take, Array.length_toList]; omega
 have hm1 : Nat.min (n - i) (n - i) = n - i := Nat.min_self _
 have hm2 : Nat.min 1 (n + 1 - i) = 1 := by simp only [Nat.min_def]; split <;> omega
 obtain ⟨W1, hW1⟩ : ∃ W1, W1 = w.drew.alloc (.cells ROW 79) := ⟨_, rfl⟩
 have hg1 : W1.heap[w.heap.size]? = some (.cells ROW 79 (0, 0)) := by rw [hW1]; exact heap_alloc_new w.drew _
 have hb1 : W1.heap[b]? = some (.cells cur 79 (0, 0)) := by rw [hW1]; exact (heap_alloc_old w.drew _ hbw).trans hb
 have hv1' : W1.heap[vb]? = some (.cells curv 79 (0, 0)) := by rw [hW1]; exact (heap_alloc_old w.drew _ hvw).trans hv
 obtain ⟨row2, hr2⟩ : ∃ row2 : Array Value, row2 = (ROW.toList.take (i * 2) ++ vs ++ ROW.toList.drop (i * 2 + vs.length)).toArray := ⟨_, rfl⟩
 obtain ⟨row3, hr3⟩ : ∃ row3 : Array Value, row3 = (row2.toList.take ((i + 1) * 2) ++ cs1 ++ row2.toList.drop ((i + 1) * 2 + cs1.length)).toArray := ⟨_, rfl⟩
 have hr2s : row2.size = ROW.size := by rw [hr2, List.size_toArray, List.length_append, List.length_append, List.length_take, List.length_drop, Array.length_toList, hl2]; omega
 have hcpA : ∀ W : World, W.heap = W1.heap → ∀ ty dc, (Builtin.copy_ #[39, 39] ty #[.slice (some ⟨w.heap.size, i * 2, none⟩) (n + 1 - i) dc, .slice (some ⟨vb, 0, none⟩) 1 vc]).run Try.prog W = .ok (goInt 1) (W.setRow w.heap.size row2) := fun W hW ty dc => by
  have := slices_Insert_api_Share.run_copy_rowN (P := Try.prog) W 39 39 ty 79 2 w.heap.size (i * 2) (n + 1 - i) dc ⟨vb, 0, none⟩ 1 vc ROW 79 vs Try.underlying39 hsz (by rw [hW]; exact hg1) (by rw [hl2, hm2]) (fun j v hj => by
   rw [hvs1, List.getElem?_take] at hj
   split at hj
   ·rw [Addr.add_lit]
    show W.cell? _ = _
    simp [World.cell?, hW, hv1']
    simpa using hj
   ·cases hj) (by rw [hl2]; omega) (fun u hu => h1v u (by rw [hvs1] at hu; exact hu))
  rw [hm2, ← hr2] at this
  exact this
 have hb2 : (W1.setRow w.heap.size row2).heap[b]? = some (.cells cur 79 (0, 0)) := (setRow_other W1 w.heap.size b row2 (Nat.ne_of_lt hbw)).trans hb1
 have hg2 : (W1.setRow w.heap.size row2).heap[w.heap.size]? = some (.cells row2 79 (0, 0)) := setRow_heap W1 w.heap.size ROW row2 79 (0, 0) hg1
 have hcpB : ∀ W : World, W.heap = (W1.setRow w.heap.size row2).heap → ∀ ty dc sc, (Builtin.copy_ #[39, 39] ty #[.slice (some ⟨w.heap.size, (i + 1) * 2, none⟩) (n - i) dc, .slice (some ⟨b, i * 2, none⟩) (n - i) sc]).run Try.prog W = .ok (goInt ((n - i : Nat) : Int)) (W.setRow w.heap.size row3) := fun W hW ty dc sc => by
  have := slices_Insert_api_Share.run_copy_rowN (P := Try.prog) W 39 39 ty 79 2 w.heap.size ((i + 1) * 2) (n - i) dc ⟨b, i * 2, none⟩ (n - i) sc row2 79 cs1 Try.underlying39 hsz (by rw [hW]; exact hg2) (by rw [hl1, hm1]) (fun j v hj => by
   rw [hcs1, List.getElem?_take] at hj
   split at hj
   ·rw [List.getElem?_drop] at hj
    rw [Addr.add_lit]
    show W.cell? _ = _
    simp [World.cell?, hW, hb2]
    simpa using hj
   ·cases hj) (by rw [hl1]; omega) (fun u hu => h1 u (by rw [hcs1] at hu; have e : (cur.toList.take (n * 2)).drop (i * 2) = (cur.toList.drop (i * 2)).take ((n - i) * 2) := (by rw [List.drop_take, show n * 2 - i * 2 = (n - i) * 2 by omega]); rw [← e] at hu; exact List.mem_of_mem_drop hu))
  rw [hm1, ← hr3] at this
  exact this
 have hr3s : row3.size = ROW.size := by rw [hr3, List.size_toArray, List.length_append, List.length_append, List.length_take, List.length_drop, Array.length_toList, hl1, hr2s]; omega
 have HX : Aside0 (w.grownBy ((((w.alloc (.cells ROW 79)).drew.setRow w.heap.size row2).drew).setRow w.heap.size row3) none ∧ n + 1 ≤ G ∧ G ≤ maxLen ∧ ∃ cur' : Array Value, ((((w.alloc (.cells ROW 79)).drew.setRow w.heap.size row2).drew).setRow w.heap.size row3).heap[w.heap.size]? = some (.cells cur' 79 (0, 0)) ∧ cur'.size = G * 2 ∧
   cur'.toList.take ((n + 1) * 2) = cur.toList.take (i * 2) ++ curv.toList.take 2 ++ (cur.toList.drop (i * 2)).take ((n - i) * 2)) := ⟨by
  have g0 : w.grownBy (w.alloc (.cells ROW 79)).drew none := (World.grownBy_alloc w _ none).trans (slices_Insert_api_Share.grown_drew _ _)
  have g1 : w.grownBy ((w.alloc (.cells ROW 79)).drew.setRow w.heap.size row2) none := g0.andThen (slices_Insert_api_Share.grown_setRow _ _ _) (fun j hj => by cases hj; exact .inl (Nat.le_refl _))
  have g2 := g1.trans (slices_Insert_api_Share.grown_drew _ _)
  have hg2' : (((w.alloc (.cells ROW 79)).drew.setRow w.heap.size row2).drew).heap[w.heap.size]? = some (.cells row2 79 (0, 0)) := by
   rw [hW1] at hg2
   exact hg2
  refine ⟨g2.andThen (slices_Insert_api_Share.grown_setRow _ _ _) (fun j hj => by cases hj; exact .inl (Nat.le_refl _)), hGn, hGm, row3, setRow_heap _ w.heap.size row2 row3 79 (0, 0) hg2', by rw [hr3s, hRs], ?_⟩
  have hRt : ROW.toList.take (i * 2) = cur.toList.take (i * 2) := by
   rw [hROW, Array.toList_append, Array.toList_append, List.append_assoc]
   show (cur.toList.take (i * 2) ++ _).take (i * 2) = _
   rw [List.take_append_of_le_length (by rw [List.length_take, Array.length_toList]; omega), List.take_take, Nat.min_self]
  have hlt : (ROW.toList.take (i * 2) ++ vs).length = (i + 1) * 2 := by rw [List.length_append, List.length_take, Array.length_toList, hl2, hRs]; omega
  have e2 : row2.toList.take ((i + 1) * 2) = ROW.toList.take (i * 2) ++ vs := by
   rw [hr2]
   show (ROW.toList.take (i * 2) ++ vs ++ _).take ((i + 1) * 2) = _
   rw [← hlt]
   exact List.take_left
  rw [← hvs1, ← hcs1, hr3]
  show (row2.toList.take ((i + 1) * 2) ++ cs1 ++ _).take ((n + 1) * 2) = _
  rw [e2, hRt]
  have hl3 : (cur.toList.take (i * 2) ++ vs ++ cs1).length = (n + 1) * 2 := by rw [List.length_append, List.length_append, List.length_take, Array.length_toList, hl1, hl2]; omega
  rw [← hl3]
  exact List.take_left⟩
 have hH1 : ((w.alloc (.cells ROW 79)).drew).heap = W1.heap := by rw [hW1]; rfl
 have hH2 : (w.drew.alloc (.cells ROW 79)).heap = W1.heap := by rw [hW1]
 have hH3 : ((w.alloc (.cells ROW 79)).drew.setRow w.heap.size row2).drew.heap = (W1.setRow w.heap.size row2).heap := by rw [hW1]; rfl
 have hH4 : ((w.drew.alloc (.cells ROW 79)).setRow w.heap.size row2).drew.heap = (W1.setRow w.heap.size row2).heap := by rw [hW1]; rfl
 clear hkk hik hold hROW hG hr2 hr3 hcs1 hvs1 hl1 hl2 hW1 hg1 hb1 hv1' hb2 hg2
 go_enter Try.func68, Try.ntmps68
 go_wp2_with (first
  | (at_builtin; refine Lib.wpList_append_run _ rfl _ _ _ _ rfl _ _ rfl rfl _ _ (hrz _) ?_)
  | (at_builtin; refine slices_Insert_api_Share.wpList_copy_runN _ rfl _ _ 39 39 rfl _ _ rfl rfl (hcpA _ (by first | exact hH1 | exact hH2) _ _) ?_))
 go_region_law (refine slices_Insert_api_Share.step_copy_runN rfl _ _ 39 39 rfl _ _ (by simp [Act.eval, Act.put]) (by simp [Act.eval, Act.put]) (hcpB _ (by first | exact hH3 | exact hH4) _ _ _) ?_)
 go_wp2
 go_ret
 exact ⟨G, rfl, HX.out⟩
def slices_Insert_api_Share.f (l0 : List S79) (a1 : Int) (l2 : List S79) : Option (List S79) := if 0 ≤ a1 ∧ a1 ≤ l0.length ∧ l2.length = 1 ∧ l0.length < 8796093022207 then some (l0.take a1.toNat ++ l2 ++ l0.drop a1.toNat) else none
theorem slices_Insert_api_Share.m79_any {w w' : World} {base base' : Nat} {ok ok' : Nat → Prop} {xs : List S79} {cs : List Value} (h : Reps (k79.M w base ok) 2 xs cs) : Reps (k79.M w' base' ok') 2 xs cs := h.imp_ (fun p c hp => by rw [k79_openM hp]; exact k79_mkM _ _ _ _)
theorem slices_Insert_api_Share.m79_one {w : World} {base : Nat} {ok : Nat → Prop} {xs : List S79} {cs : List Value} (h : Reps (k79.M w base ok) 2 xs cs) : ∀ u ∈ cs, u.oneCell' = true := Kd.reps_one h (by decide) (fun p c hp u hu => by
 rw [k79_openM hp] at hu
 simp at hu
 rcases hu with rfl | rfl <;> rfl)
/-- What lies in a row told of its first cells. -/
theorem slices_Insert_api_Share.r79_mk {w' : World} {base g cap : Nat} {ok : Nat → Prop} {cur' : Array Value} {xs : List S79} {W : World} {b0 : Nat} {ok0 : Nat → Prop} {inner : List Value} (hok : ok g) (hg : base ≤ g) (hh : w'.heap[g]? = some (.cells cur' 79 (0, 0))) (hn : xs.length ≤ cap) (hm : cap ≤ maxLen) (hs : cur'.size = cap * 2) (hi : cur'.toList.take (xs.length * 2) = inner) (hr : Reps (k79.M W b0 ok0) 2 xs inner) : Kd.R k79 79 w' base ok (.slice (some ⟨g, 0, none⟩) xs.length cap) xs :=
 ⟨fun k hk => by
  have : g = k := by simpa [Value.ownBlock] using hk
  subst this
  exact hok, inner, ⟨hr.1, .inr ⟨g, cap, cur', rfl, hg, hh, hn, hm, hs, hi⟩⟩, slices_Insert_api_Share.m79_any hr⟩
set_option maxHeartbeats 4000000 in
set_option maxRecDepth 100000 in
theorem slices_Insert_api_Share.calls (P0_ : Nat → Prop) (u9000_ : Value) (l0 : List (S79)) (a1 : Int) (P2_ : Nat → Prop) (u9001_ : Value) (l2 : List (S79)) (r : List (S79)) (w0 w : World) (hB : Below w0.heap.size w0 w) (ho0 : Kd.R k79 79 w w0.heap.size P0_ u9000_ l0) (hp0_2 : ∀ k_, P0_ k_ → ¬ P2_ k_) (ho2 : Kd.R k79 79 w w0.heap.size P2_ u9001_ l2) (hp2_0 : ∀ k_, P2_ k_ → ¬ P0_ k_) (h : slices_Insert_api_Share.f l0 a1 l2 = some r) :
  Calls Try.prog 68 #[u9000_, .int .i64 a1, u9001_] w fun e w' => ∃ v0_ : Value, e = .returned (v0_) ∧ Kd.R k79 79 w' w0.heap.size (fun k_ => ((P0_ k_ ∨ P2_ k_) ∨ w.heap.size ≤ k_)) v0_ r ∧ Below w0.heap.size w0 w' ∧ Kept w w' (fun k_ => P0_ k_ ∨ P2_ k_) := by
 unfold slices_Insert_api_Share.f at h
 split at h
 rotate_left
 ·cases h
 rename_i hc
 obtain ⟨hc1, hc2, hc3, hc4⟩ := hc
 obtain rfl := Option.some.inj h
 clear h
 obtain ⟨i, rfl⟩ : ∃ i : Nat, a1 = i := ⟨a1.toNat, by omega⟩
 have hil : i ≤ l0.length := by omega
 rw [Int.toNat_natCast]
 obtain ⟨hk0, inner0, ⟨hlen0, hown0⟩, hrep0⟩ := ho0
 obtain ⟨hk2, inner2, ⟨hlen2, hown2⟩, hrep2⟩ := ho2
 have hl0 : inner0.length = l0.length * 2 := hlen0
 rcases hown2 with ⟨_, hn2⟩ | ⟨gv, cv, curv, rfl, hbv, hhv, hnv, hmv, hsv, htv⟩
 ·omega
 have hP2 : P2_ gv := hk2 gv rfl
 have hrep : Reps (k79.M w w0.heap.size (fun _ => True)) 2 (l0.take i ++ l2 ++ l0.drop i) (inner0.take (i * 2) ++ inner2 ++ inner0.drop (i * 2)) := Kd.reps_append (Kd.reps_append (Kd.reps_take (slices_Insert_api_Share.m79_any hrep0) hil) (slices_Insert_api_Share.m79_any hrep2)) (Kd.reps_drop (slices_Insert_api_Share.m79_any hrep0))
 have hrl : (l0.take i ++ l2 ++ l0.drop i).length = l0.length + 1 := by rw [List.length_append, List.length_append, List.length_take, List.length_drop]; omega
 have hl2e : inner2.length = 2 := by rw [hlen2, hc3]; rfl
 have hP0 : ∀ k, (P0_ k ∨ P2_ k ∨ w.heap.size ≤ k) → ((P0_ k ∨ P2_ k) ∨ w.heap.size ≤ k) := fun k hk => by rcases hk with h | h | h; exact .inl (.inl h); exact .inl (.inr h); exact .inr h
 rcases Nat.lt_or_eq_of_le hil with hlt | heq
 ·rcases hown0 with ⟨_, hn0⟩ | ⟨g, c, cur, rfl, hbg, hhg, hng, hmg, hsg, htg⟩
  ·omega
  have hP0g : P0_ g := hk0 g rfl
  replace htg : cur.toList.take (l0.length * 2) = inner0 := htg
  replace hsg : cur.size = c * 2 := hsg
  replace htv : curv.toList.take (l2.length * 2) = inner2 := htv
  replace hsv : curv.size = cv * 2 := hsv
  have hne : gv ≠ g := fun e => hp0_2 g hP0g (e ▸ hP2)
  have e1 : cur.toList.take (i * 2) = inner0.take (i * 2) := by rw [← htg, List.take_take, Nat.min_eq_left (by omega)]
  have e2 : (cur.toList.drop (i * 2)).take ((l0.length - i) * 2) = inner0.drop (i * 2) := by rw [← htg, List.drop_take, show l0.length * 2 - i * 2 = (l0.length - i) * 2 by omega]
  have e3 : curv.toList.take 2 = inner2 := by rw [← htv, hc3]
  have o1 : ∀ u ∈ cur.toList.take (l0.length * 2), u.oneCell' = true := by rw [htg]; exact slices_Insert_api_Share.m79_one hrep0
  have o2 : ∀ u ∈ curv.toList.take 2, u.oneCell' = true := by rw [e3]; exact slices_Insert_api_Share.m79_one hrep2
  rw [hc3]
  by_cases hroom : l0.length + 1 ≤ c
  ·refine (slices_Insert_api_Share.ins_shift g l0.length c i gv cv cur curv w hlt hroom hmg hne hhg hsg hhv hsv (by omega) o1 o2).mono ?_
   rintro e w' ⟨rfl, hg1, cur', hh', hs', ht'⟩
   rw [e1, e2, e3] at ht'
   refine ⟨_, rfl, ?_, hB.grown hg1 hB.size (fun k hk => by cases hk; exact hbg), Kept.of_grown hg1 (Kept.refl w _) (fun k hk => by cases hk; exact .inl (.inl hP0g))⟩
   rw [← hrl]
   exact slices_Insert_api_Share.r79_mk (.inl (.inl hP0g)) hbg hh' (by omega) hmg hs' (by rw [hrl]; exact ht') hrep
  ·refine (slices_Insert_api_Share.ins_grow g l0.length c i gv cv cur curv w hlt hng (by omega) (by omega) hhg hsg hhv hsv (by omega) o1 o2).mono ?_
   rintro e w' ⟨c', rfl, hg1, hn', hm', cur', hh', hs', ht'⟩
   rw [e1, e2, e3] at ht'
   refine ⟨_, rfl, ?_, hB.grown hg1 hB.size (fun k hk => by cases hk), Kept.of_grown hg1 (Kept.refl w _) (fun k hk => by cases hk)⟩
   rw [← hrl]
   exact slices_Insert_api_Share.r79_mk (.inr (Nat.le_refl _)) hB.size hh' (by omega) hm' hs' (by rw [hrl]; exact ht') hrep
 ·subst heq
  have HO : Kd.R k79 79 w w0.heap.size (fun k_ => ((P0_ k_ ∨ P2_ k_) ∨ w.heap.size ≤ k_)) u9000_ l0 := Kd.R_mono ⟨hk0, inner0, ⟨hlen0, hown0⟩, hrep0⟩ (fun k hk => .inl (.inl hk))
  have HR : Kd.C k79 w (some ⟨gv, 0, none⟩) l2.length l2 := (Kd.R_reads' (⟨hk2, inner2, ⟨hlen2, .inr ⟨gv, cv, curv, rfl, hbv, hhv, hnv, hmv, hsv, htv⟩⟩, hrep2⟩ : Kd.R k79 79 w w0.heap.size P2_ (.slice (some ⟨gv, 0, none⟩) l2.length cv) l2)).2.2
  have hKM : ∀ (x : S79) (cs : List Value), k79.K w x cs → k79.M w w0.heap.size (fun _ => False) x cs := fun x cs hx => by rw [k79_open hx]; exact k79_mkM _ _ _ _
  have erl : l0.take l0.length ++ l2 ++ l0.drop l0.length = l0 ++ l2 := by rw [List.take_length, List.drop_length, List.append_nil]
  rw [erl]
  have hu39 := Try.underlying39
  have hgr : ∀ (v1 : Value) (w1 : World), Kd.R k79 79 w1 w0.heap.size (fun k_ => ((P0_ k_ ∨ P2_ k_) ∨ w.heap.size ≤ k_)) v1 (l0 ++ l2) → Below w0.heap.size w0 w1 → w.grownBy w1 u9000_.ownBlock → ∃ v0_ : Value, Ending.returned v1 = .returned (v0_) ∧ Kd.R k79 79 w1 w0.heap.size (fun k_ => ((P0_ k_ ∨ P2_ k_) ∨ w.heap.size ≤ k_)) v0_ (l0 ++ l2) ∧ Below w0.heap.size w0 w1 ∧ Kept w w1 (fun k_ => P0_ k_ ∨ P2_ k_) := fun v1 w1 h1 h2 h3 => ⟨v1, rfl, h1, h2, Kept.of_grown h3 (Kept.refl w _) (fun k hk => .inl (.inl (hk0 k hk)))⟩
  replace hgr := Am hgr
  replace HO := Am HO
  replace HR := Am HR
  replace hB := Am hB
  rcases hown0 with ⟨rfl, hn0⟩ | ⟨g, c, cur, rfl, hbg, hhg, hng, hmg, hsg, htg⟩
  ·have e0 : l0 = [] := List.eq_nil_of_length_eq_zero hn0
   subst e0
   clear hrep hrl hrep0 hrep2 hlen0 hlen2 htv
   rw [hc3] at HR ⊢
   go_enter Try.func68, Try.ntmps68
   go_wp2_with (at_builtin; refine Kd.R_append_rows k79 w0.heap.size rfl _ _ 39 79 _ 16 rfl Try.underlying39 info79 rfl (by decide) (by decide) _ [] l2 _ 1 cv _ (fun _ => False) rfl rfl HO.out HR.out hKM (fun k hk => hk.elim) (fun k hk => .inr hk) hB.out hB.out.size (by simp) ?_; intro v1 w1 h1 h2 h3 _; have HX := Am (hgr.out v1 w1 h1 h2 h3); clear h1 h2 h3)
   go_ret
   exact HX.out
  ·have c63 : (c : Int) ≤ 9223372036854775807 := by unfold maxLen at hmg; omega
   clear hrep hrl hrep0 hrep2 hlen0 hlen2 htv htg
   rw [hc3] at HR ⊢
   go_enter Try.func68, Try.ntmps68
   go_wp2_with (at_builtin; refine Kd.R_append_rows k79 w0.heap.size rfl _ _ 39 79 _ 16 rfl Try.underlying39 info79 rfl (by decide) (by decide) _ l0 l2 _ 1 cv _ (fun _ => False) rfl rfl HO.out HR.out hKM (fun k hk => hk.elim) (fun k hk => .inr hk) hB.out hB.out.size (by omega) ?_; intro v1 w1 h1 h2 h3 _; have HX := Am (hgr.out v1 w1 h1 h2 h3); clear h1 h2 h3)
   all_goals (go_ret; exact HX.out)
def tally_more.f (k : Nat) (l0 : List (S79)) (a1 : Int) (a2 : Int) : Option ((List (S79))) := if a2 = 0 then (some l0) else ((tally_find.f k l0 a1).bind fun bt173 => (if bt173.2 = true then (if 0 ≤ bt173.1 then (if bt173.1 < (l0.length : Int) then (some (l0.set (bt173.1 : Int).toNat (⟨(rd_T79 l0 bt173.1).f0, wrap64 (((rd_T79 l0 bt173.1).f1) + a2)⟩ : S79))) else (none)) else (none)) else ((slices_Insert_api_Share.f l0 bt173.1 (([(⟨a1, a2⟩ : S79)] : List (S79)))).bind fun t180 => (some t180))))
theorem tally_more.mono : ∀ a0 a1 a2 k, LeO (tally_more.f k a0 a1 a2) (tally_more.f (k + 1) a0 a1 a2) := by
 intro a0 a1 a2 k
 unfold tally_more.f
 repeat' first
   | (with_reducible exact tally_find.mono _ _ _)
   | (with_reducible exact LeO.refl _)
   | (with_reducible exact LeO.none _)
   | (with_reducible refine LeO.ite ?_ ?_)
   | (with_reducible refine LeO.bind ?_ (fun _ => ?_))
   | exact tally_find.mono _ _ _
   | exact LeO.none _
   | refine LeO.ite ?_ ?_
   | refine LeO.bind ?_ (fun _ => ?_)
set_option maxHeartbeats 8000000 in
set_option maxRecDepth 100000 in
theorem tally_more.calls (k : Nat) (P0_ : Nat → Prop) (u9000_ : Value) (l0 : List (S79)) (a1 : Int) (a2 : Int) (r : List (S79)) (w0 w : World) (hB : Below w0.heap.size w0 w) (ho0 : Kd.R k79 79 w w0.heap.size P0_ u9000_ l0) (h : tally_more.f k l0 a1 a2 = some r) :
  Calls Try.prog 61 #[u9000_, .int .i64 a1, .int .i64 a2] w fun e w' => ∃ v0_ : Value, e = .returned (v0_) ∧ Kd.R k79 79 w' w0.heap.size (fun k_ => (P0_ k_ ∨ w.heap.size ≤ k_)) v0_ r ∧ Below w0.heap.size w0 w' ∧ Kept w w' (fun k_ => P0_ k_) := by
 have hu79 := Try.underlying79
 have Aa := Am (show Kd.R k79 79 w w0.heap.size (fun k_ => (P0_ k_ ∨ w.heap.size ≤ k_)) u9000_ l0 from Kd.R_mono ho0 (fun k_ hk => (.inl hk)))
 have HK := Am (Kept.refl w (fun k_ => P0_ k_))
 have HW0 := Am hB.size
 have HB := Am hB
 clear hB
 have H : (if a2 = 0 then (some l0) else ((tally_find.f k l0 a1).bind fun bt173 => (if bt173.2 = true then (if 0 ≤ bt173.1 then (if bt173.1 < (l0.length : Int) then (some (l0.set (bt173.1 : Int).toNat (⟨(rd_T79 l0 bt173.1).f0, wrap64 (((rd_T79 l0 bt173.1).f1) + a2)⟩ : S79))) else (none)) else (none)) else ((slices_Insert_api_Share.f l0 bt173.1 (([(⟨a1, a2⟩ : S79)] : List (S79)))).bind fun t180 => (some t180))))) = some r := h
 clear h
 by_cases c4 : a2 = 0
 ·rw [if_pos c4] at H
  have c4b0 : (a2 == 0) = true := beq_iff_eq.mpr c4
  have c4b1 : (a2 != 0) = false := bne_eq_false_iff_eq.mpr c4
  clear c4
  obtain rfl := Option.some.inj H
  go_enter Try.func61, Try.ntmps61
  go_wp2
  go_ret
  exact ⟨_, pX, by (with_reducible repeat (first | apply Kd.R_alloc | apply Kd.R_drewN | apply Kd.R_drew)); exact Aa.out, pB HB.out, by repeat (first | (with_reducible first | exact HK.out | apply Kept.alloc | apply Kept.drewN | apply Kept.drew) | exact HK.out)⟩
 rw [if_neg c4] at H
 have c4b0 : (a2 == 0) = false := beq_eq_false_iff_ne.mpr c4
 have c4b1 : (a2 != 0) = true := bne_iff_ne.mpr c4
 replace H := Option.bind_eq_some_iff.mp H
 obtain ⟨⟨t173, t174⟩, A50, H⟩ := H
 replace H : (if t174 = true then (if 0 ≤ t173 then (if t173 < (l0.length : Int) then (some (l0.set (t173 : Int).toNat (⟨(rd_T79 l0 t173).f0, wrap64 (((rd_T79 l0 t173).f1) + a2)⟩ : S79))) else (none)) else (none)) else ((slices_Insert_api_Share.f l0 t173 (([(⟨a1, a2⟩ : S79)] : List (S79)))).bind fun t180 => (some t180))) = some r := H
 have A5 := Am A50
 clear A50
 by_cases c6 : t174 = true
 rotate_left
 ·replace c6 := Bool.eq_false_iff.mpr c6
  subst c6
  have H1 : ((slices_Insert_api_Share.f l0 t173 (([(⟨a1, a2⟩ : S79)] : List (S79)))).bind fun t180 => (some t180)) = some r := by rw [if_neg (show ¬ (false = true) by decide)] at H; exact H
  clear H
  have H := H1
  clear H1
  obtain ⟨y177, hy177⟩ : ∃ y_ : List (S79), y_ = (([(⟨a1, a2⟩ : S79)] : List (S79))) := ⟨_, rfl⟩
  replace H : ((slices_Insert_api_Share.f l0 t173 y177).bind fun t180 => (some t180)) = some r := by first | (rw [hy177]; with_reducible exact H) | (have H2_ := (Option.bind_some _ _).symm.trans H; rw [hy177]; with_reducible exact H2_) | (have H2_ := (Option.bind_some _ _).symm.trans H; with_reducible exact H2_) | with_reducible exact H | (rw [hy177]; exact H) | exact H
  have Ny177 := Am hy177
  clear hy177
  replace H := Option.bind_eq_some_iff.mp H
  obtain ⟨t180, A140, H⟩ := H
  replace H : (some t180) = some r := H
  have A14 := Am A140
  clear A140
  obtain rfl := Option.some.inj H
  obtain ⟨Ae, Af, At⟩ := Kd.R_slice Aa.out
  subst At
  go_enter Try.func61, Try.ntmps61
  go_wp2_with (first | ((with_reducible refine gate_callee (f := 67) rfl ?_); refine goesL_ (some 15) rfl rfl Try.func67 (by kernel_rfl) rfl #[.slice Ae l0.length Af, .int .i64 a1] rfl pL ?_; (with_reducible refine (tally_find.calls k _ _ l0 a1 t173 false _ ?Ac ?Ad A5.out).mono ?_); (case Ac => exact pC (Kd.R_reads' Aa.out).2.2); (case Ad => exact (Kd.R_reads' Aa.out).2.1); rintro e w16 ⟨rfl, hb⟩; refine ⟨_, rfl, ?_⟩; replace Aa := bRa Aa hb; replace HK := Am (Kept.below (S := (fun k_ => P0_ k_)) (by repeat (first | (with_reducible first | exact HK.out | apply Kept.alloc | apply Kept.drewN | apply Kept.drew) | exact HK.out)) hb); replace HB := Am (below_step (pB HB.out) hb); (try clear hb); (try clear hb2); (try clear hk); (try clear hi)) | ((with_reducible refine gate_dst (N := 34) rfl ?_); refine Kd.R_lit k79 _ 79 ?hg (N := 34) ?hd (xs := ([(⟨a1, a2⟩ : S79)] : List (S79))) (inner := [.int .i64 a1, .int .i64 a2]) (ok := fun _ => True) (okp := fun _ => True) ?hr ?hp (fun _ hk => hk) trivial (Below.refl _ _) (Nat.le_refl _) (by simp) ?_; (case hd => rfl); (case hg => rfl); (case hr => first | (go_simp; done) | (go_simp; rfl)); (case hp => exact (Reps.c2 (show Kd.M k79 _ _ _ (⟨a1, a2⟩ : S79) [.int .i64 a1, .int .i64 a2] from (k79_mkM _ _ _ (⟨a1, a2⟩ : S79) )) (Reps.none _ _))); intro v178 w17 ho18 hb hg_ hnew_; clear hg_ hnew_; (first | rw [← Ny177.out] at ho18 | (simp only [Int.reduceToNat] at ho18; rw [← Ny177.out] at ho18)); have Ab := Am (Kd.R_lower (Kd.R_new' (Kd.R_newM (M := fun k_ => (P0_ k_ ∨ w.heap.size ≤ k_)) ho18 (by first | exact HK.out.1 | exact (show Kept w _ (fun k_ => P0_ k_) from by repeat (first | (with_reducible first | exact HK.out | apply Kept.alloc | apply Kept.drewN | apply Kept.drew) | exact HK.out)).1) (fun k_ h_ => .inr h_)) (Kd.R_lt (pR Aa.out))) (below_size (pB HB.out))); replace Aa := Am (Kd.R_elder' (pR Aa.out) (Kd.R_base ho18) hb); replace HK := Am (Kept.below (S := (fun k_ => P0_ k_)) (by repeat (first | (with_reducible first | exact HK.out | apply Kept.alloc | apply Kept.drewN | apply Kept.drew) | exact HK.out)) hb); replace HB := Am (below_step (pB HB.out) hb); clear hb ho18; obtain ⟨Aj, Ak, Au⟩ := Kd.R_slice Ab.out; subst Au) | ((with_reducible refine gate_callee (f := 68) rfl ?_); refine goesL_ (some 35) rfl rfl Try.func68 (by kernel_rfl) rfl #[.slice Ae l0.length Af, .int .i64 t173, .slice Aj y177.length Ak] rfl pL ?_; (with_reducible refine (slices_Insert_api_Share.calls (fun k_ => some k_ = (.slice Ae l0.length Af : Value).ownBlock) (.slice Ae l0.length Af) l0 t173 (fun k_ => some k_ = (.slice Aj y177.length Ak : Value).ownBlock) (.slice Aj y177.length Ak) y177 t180 w0 _ ?Ac ?Ad ?An ?Ao ?Ap A14.out).mono ?_); (case Ac => repeat (first | (with_reducible first | exact HB.out | apply below_alloc | apply pw_below_drewN | apply below_drew1) | exact HB.out)); (case Ad => exact Kd.R_tight rfl Aa.out); (case An => exact fun k_ e_ => (Aa.out.1 k_ e_.symm).2); (case Ao => exact Kd.R_tight rfl Ab.out); (case Ap => exact fun k_ e_ => (Ab.out.1 k_ e_.symm).2); rintro e w20 ⟨v181, rfl, ho0, hb, hkp⟩; refine ⟨_, rfl, ?_⟩; have Aq := Am (Kd.R_mono (ok' := fun k_ => (P0_ k_ ∨ w.heap.size ≤ k_)) ho0 (fun k_ hk_ => Or.elim hk_ (fun hs_ => Or.elim hs_ (fun hs_ => (Aa.out.1 k_ (hs_).symm).1) (fun hs_ => (Ab.out.1 k_ (hs_).symm).1.1)) (fun hn_ => (.inr (Nat.le_trans (by first | exact HK.out.1 | exact (show Kept w _ (fun k_ => P0_ k_) from by repeat (first | (with_reducible first | exact HK.out | apply Kept.alloc | apply Kept.drewN | apply Kept.drew) | exact HK.out)).1) hn_))))); replace HK := Am (Kept.then_ (S := (fun k_ => P0_ k_)) (by repeat (first | (with_reducible first | exact HK.out | apply Kept.alloc | apply Kept.drewN | apply Kept.drew) | exact HK.out)) hkp (fun k_ hs_ => Or.elim hs_ (fun e_ => (fun e_ => (Aa.out.1 k_ e_.symm).1) e_) (fun e_ => (fun e_ => (Ab.out.1 k_ e_.symm).1.1) e_))); replace HB := Am (hb); clear Aa Ab; (try clear hb); (try clear hkp); (try clear ho0)))
  go_ret
  exact ⟨_, pX, by (with_reducible repeat (first | apply Kd.R_alloc | apply Kd.R_drewN | apply Kd.R_drew)); exact Aq.out, pB HB.out, by repeat (first | (with_reducible first | exact HK.out | apply Kept.alloc | apply Kept.drewN | apply Kept.drew) | exact HK.out)⟩
 subst c6
 have H1 : (if 0 ≤ t173 then (if t173 < (l0.length : Int) then (some (l0.set (t173 : Int).toNat (⟨(rd_T79 l0 t173).f0, wrap64 (((rd_T79 l0 t173).f1) + a2)⟩ : S79))) else (none)) else (none)) = some r := by rw [if_pos rfl] at H; exact H
 clear H
 have H := H1
 clear H1
 by_cases c7 : 0 ≤ t173
 rotate_left
 ·rw [if_neg c7] at H
  exact absurd H (by simp)
 rw [if_pos c7] at H
 have c7b0 : decide (0 ≤ t173) = true := decide_eq_true c7
 clear c7
 by_cases c8 : t173 < (l0.length : Int)
 rotate_left
 ·rw [if_neg c8] at H
  exact absurd H (by simp)
 rw [if_pos c8] at H
 have c8b0 : decide (t173 < (l0.length : Int)) = true := decide_eq_true c8
 clear c8
 obtain ⟨y176, hy176⟩ : ∃ y_ : List (S79), y_ = (l0.set (t173 : Int).toNat (⟨(rd_T79 l0 t173).f0, wrap64 (((rd_T79 l0 t173).f1) + a2)⟩ : S79)) := ⟨_, rfl⟩
 replace H : (some y176) = some r := by first | (rw [hy176]; with_reducible exact H) | (have H2_ := (Option.bind_some _ _).symm.trans H; rw [hy176]; with_reducible exact H2_) | (have H2_ := (Option.bind_some _ _).symm.trans H; with_reducible exact H2_) | with_reducible exact H | (rw [hy176]; exact H) | exact H
 have Ny176 := Am hy176
 clear hy176
 obtain rfl := Option.some.inj H
 obtain ⟨Ar, Ai, As⟩ := Kd.R_slice Aa.out
 subst As
 go_enter Try.func61, Try.ntmps61
 go_wp2_with (first | ((with_reducible refine gate_callee (f := 67) rfl ?_); refine goesL_ (some 15) rfl rfl Try.func67 (by kernel_rfl) rfl #[.slice Ar l0.length Ai, .int .i64 a1] rfl pL ?_; (with_reducible refine (tally_find.calls k _ _ l0 a1 t173 true _ ?Ac ?Ad A5.out).mono ?_); (case Ac => exact pC (Kd.R_reads' Aa.out).2.2); (case Ad => exact (Kd.R_reads' Aa.out).2.1); rintro e w11 ⟨rfl, hb⟩; refine ⟨_, rfl, ?_⟩; replace Aa := bRa Aa hb; replace HK := Am (Kept.below (S := (fun k_ => P0_ k_)) (by repeat (first | (with_reducible first | exact HK.out | apply Kept.alloc | apply Kept.drewN | apply Kept.drew) | exact HK.out)) hb); replace HB := Am (below_step (pB HB.out) hb); (try clear hb); (try clear hb2); (try clear hk); (try clear hi); have p175 : 0 ≤ (t173 : Int) := of_decide_eq_true pS; have q175 : t173 < (l0.length : Int) := of_decide_eq_true pS; obtain ⟨ad175, e175, Ag, Ah⟩ := at_T79 (Kd.R_reads' Aa.out).2.2 t173 p175 q175; cases e175; replace p175 := eq_true p175; replace q175 := eq_true q175; have p9 : 0 ≤ (t173 : Int) := of_decide_eq_true pS; have q9 : (t173 : Int) < ((l0.length : Int) : Int) := of_decide_eq_true pS; obtain ⟨go9, co9, Av, Aw, gl9, cl9, HG9⟩ := Kd.R_form Aa.out (by omega); (first | cases Av | (injection Av with ea_ en_ ec_; (first | subst ea_ | (injection ea_ with ea_; subst ea_)); subst ec_; clear en_)); have GB9 := Am Aw; have GG9 := Am HG9; clear Aw gl9 HG9; have HMgo9 := Am (show (P0_ go9 ∨ w.heap.size ≤ go9) from (Aa.out.1 _ rfl)); (first | simp only [add_plain] at Ag | skip); (first | simp only [add_plain] at Ah | skip); obtain ⟨ce9, hcl9, hM9, hcc9, hfr9⟩ := Kd.R_elem Aa.out z79 (t173 : Int) p9 q9; obtain rfl := k79_openM hM9; have hx9_0 : w11.cell? ⟨go9, (t173 : Int).toNat * 2, none⟩ = some (.int .i64 ((rd_T79 l0 t173).f0)) := hcc9 0 _ rfl; have hx9_1 : w11.cell? ⟨go9, (t173 : Int).toNat * 2 + 1, none⟩ = some (.int .i64 ((rd_T79 l0 t173).f1)) := hcc9 1 _ rfl; have hf9_0 : w11.frozen? ⟨go9, (t173 : Int).toNat * 2, none⟩ = false := hfr9 0; have hf9_1 : w11.frozen? ⟨go9, (t173 : Int).toNat * 2 + 1, none⟩ = false := hfr9 1; clear hcl9 hcc9 hfr9 hM9; replace p9 := eq_true p9; replace q9 := eq_true q9; have HX12 := Am (show Kd.R k79 79 w11 w0.heap.size (fun k_ => (P0_ k_ ∨ w.heap.size ≤ k_)) (.slice (some ⟨go9, 0, none⟩) l0.length Ai) l0 from (pR Aa.out)); obtain ⟨ce12, hcl12, hM12, hcc12, hfr12⟩ := Kd.R_elem HX12.out z79 (t173 : Int) (of_decide_eq_true pS) (by have h_ : (t173 : Int) < ((l0.length : Int) : Int) := of_decide_eq_true pS; first | exact h_ | (have e_ := (Kd.R_reads' Aa.out).1; omega) | simpa using h_); obtain rfl := k79_openM hM12; have HP12 := Kd.R_seg HX12.out (t173 : Int) (of_decide_eq_true pS) (by have h_ : (t173 : Int) < ((l0.length : Int) : Int) := of_decide_eq_true pS; first | exact h_ | (have e_ := (Kd.R_reads' Aa.out).1; omega) | simpa using h_) (seg := [.int .i64 (wrap64 (((rd_T79 l0 t173).f1) + a2))]) (j := 1) hcl12 hcc12 (show 2 ≤ 2 from by decide) (x' := (⟨(rd_T79 l0 t173).f0, wrap64 (((rd_T79 l0 t173).f1) + a2)⟩ : S79)) (k79_mkM _ _ _ (⟨(rd_T79 l0 t173).f0, wrap64 (((rd_T79 l0 t173).f1) + a2)⟩ : S79) ) (fun _ hk => hk); have Al := hcc12 1 _ rfl; (try simp only [show (k79).sz = 2 from rfl, Nat.mul_one, Nat.add_zero] at Al); have hf12_1 := hfr12 1; (try simp only [show (k79).sz = 2 from rfl, Nat.mul_one, Nat.add_zero] at hf12_1); clear hcl12 hcc12 hfr12 hM12) | ((with_reducible refine gate_store (t := 3) (p := 27) rfl ?_); refine store_event (t := 3) (p := 27) (v := ?vo_w13) (w1 := (w11.setCell ⟨go9, (t173 : Int).toNat * 2 + 1, none⟩ (.int .i64 (wrap64 (((rd_T79 l0 t173).f1) + a2))))) ?hg ?ho ?hn ?hr ?_; (case ho => rfl); (case hg => rfl); (case hn => rfl); (case hr => first | (go_simp; done) | (go_simp; rfl)); intro w13 hw; have hg : w11.grownBy w13 (some go9) := (by rw [hw]; exact HP12.2); have hp_ : Kd.R k79 79 w13 w0.heap.size (fun k_ => (P0_ k_ ∨ w.heap.size ≤ k_)) (.slice (some ⟨go9, 0, none⟩) l0.length Ai) y176 := (by rw [hw, Ny176.out]; exact HP12.1); clear HP12; replace HB := Am ((by rw [hw]; exact below_set (HB.out) GB9.out : Below w0.heap.size w0 w13)); replace HK := Am (Kept.of_grown (S := (fun k_ => P0_ k_)) hg (by repeat (first | (with_reducible first | exact HK.out | apply Kept.alloc | apply Kept.drewN | apply Kept.drew) | exact HK.out)) (fun k_ e_ => (Aa.out.1 k_ e_))); replace Aa := Am (hp_); clear hg hw hp_))
 go_ret
 exact ⟨_, pX, by (with_reducible repeat (first | apply Kd.R_alloc | apply Kd.R_drewN | apply Kd.R_drew)); exact Aa.out, pB HB.out, by repeat (first | (with_reducible first | exact HK.out | apply Kept.alloc | apply Kept.drewN | apply Kept.drew) | exact HK.out)⟩
def tally_full.f (k : Nat) (l0 : List (S79)) : Option ((List (S79)) × Int) := (tally_Check.f k l0).bind fun t183 => (if t183 = 0 then (some (l0, 0)) else (some (([] : List (S79)), 7)))
theorem tally_full.mono : ∀ a0 k, LeO (tally_full.f k a0) (tally_full.f (k + 1) a0) := by
 intro a0 k
 unfold tally_full.f
 repeat' first
   | (with_reducible exact tally_Check.mono _ _)
   | (with_reducible exact LeO.refl _)
   | (with_reducible exact LeO.none _)
   | (with_reducible refine LeO.ite ?_ ?_)
   | (with_reducible refine LeO.bind ?_ (fun _ => ?_))
   | exact tally_Check.mono _ _
   | exact LeO.none _
   | refine LeO.ite ?_ ?_
   | refine LeO.bind ?_ (fun _ => ?_)
set_option maxHeartbeats 8000000 in
set_option maxRecDepth 100000 in
theorem tally_full.calls (k : Nat) (P0_ : Nat → Prop) (u9000_ : Value) (l0 : List (S79)) (r1 : List (S79)) (r2 : Int) (w0 w : World) (hB : Below w0.heap.size w0 w) (ho0 : Kd.R k79 79 w w0.heap.size P0_ u9000_ l0) (h : tally_full.f k l0 = some (r1, r2)) :
  Calls Try.prog 62 #[u9000_] w fun e w' => ∃ v0_ : Value, e = .returned (.tuple #[v0_, .int .i64 r2]) ∧ Kd.R k79 79 w' w0.heap.size (fun k_ => (P0_ k_ ∨ w.heap.size ≤ k_)) v0_ r1 ∧ Below w0.heap.size w0 w' ∧ Kept w w' (fun k_ => P0_ k_) := by
 have Aa := Am (show Kd.R k79 79 w w0.heap.size (fun k_ => (P0_ k_ ∨ w.heap.size ≤ k_)) u9000_ l0 from Kd.R_mono ho0 (fun k_ hk => (.inl hk)))
 have HK := Am (Kept.refl w (fun k_ => P0_ k_))
 have HW0 := Am hB.size
 have HB := Am hB
 clear hB
 have H : ((tally_Check.f k l0).bind fun t183 => (if t183 = 0 then (some (l0, 0)) else (some (([] : List (S79)), 7)))) = some (r1, r2) := h
 clear h
 replace H := Option.bind_eq_some_iff.mp H
 obtain ⟨t183, A20, H⟩ := H
 replace H : (if t183 = 0 then (some (l0, 0)) else (some (([] : List (S79)), 7))) = some (r1, r2) := H
 have A2 := Am A20
 clear A20
 by_cases c3 : t183 = 0
 ·rw [if_pos c3] at H
  have c3b0 : (t183 == 0) = true := beq_iff_eq.mpr c3
  have c3b1 : (t183 != 0) = false := bne_eq_false_iff_eq.mpr c3
  clear c3
  simp only [Option.some.injEq, Prod.mk.injEq] at H
  obtain ⟨rfl, rfl⟩ := H
  obtain ⟨Ad, Ae, Af⟩ := Kd.R_slice Aa.out
  subst Af
  go_enter Try.func62, Try.ntmps62
  go_wp2_with (first | ((with_reducible refine gate_callee (f := 65) rfl ?_); refine goesL_ (some 5) rfl rfl Try.func65 (by kernel_rfl) rfl #[.slice Ad l0.length Ae] rfl pL ?_; (with_reducible refine (tally_Check.calls k _ _ l0 t183 _ ?Ab ?Ac A2.out).mono ?_); (case Ab => exact pC (Kd.R_reads' Aa.out).2.2); (case Ac => exact (Kd.R_reads' Aa.out).2.1); rintro e w5 ⟨rfl, hb⟩; refine ⟨_, rfl, ?_⟩; replace Aa := bRa Aa hb; replace HK := Am (Kept.below (S := (fun k_ => P0_ k_)) (by repeat (first | (with_reducible first | exact HK.out | apply Kept.alloc | apply Kept.drewN | apply Kept.drew) | exact HK.out)) hb); replace HB := Am (below_step (pB HB.out) hb); (try clear hb); (try clear hb2); (try clear hk); (try clear hi)))
  go_ret2
  exact ⟨_, pX, by (with_reducible repeat (first | apply Kd.R_alloc | apply Kd.R_drewN | apply Kd.R_drew)); exact Aa.out, pB HB.out, by repeat (first | (with_reducible first | exact HK.out | apply Kept.alloc | apply Kept.drewN | apply Kept.drew) | exact HK.out)⟩
 rw [if_neg c3] at H
 have c3b0 : (t183 == 0) = false := beq_eq_false_iff_ne.mpr c3
 have c3b1 : (t183 != 0) = true := bne_iff_ne.mpr c3
 simp only [Option.some.injEq, Prod.mk.injEq] at H
 obtain ⟨rfl, rfl⟩ := H
 obtain ⟨Ag, Ah, Ai⟩ := Kd.R_slice Aa.out
 subst Ai
 go_enter Try.func62, Try.ntmps62
 go_wp2_with (first | ((with_reducible refine gate_callee (f := 65) rfl ?_); refine goesL_ (some 5) rfl rfl Try.func65 (by kernel_rfl) rfl #[.slice Ag l0.length Ah] rfl pL ?_; (with_reducible refine (tally_Check.calls k _ _ l0 t183 _ ?Ab ?Ac A2.out).mono ?_); (case Ab => exact pC (Kd.R_reads' Aa.out).2.2); (case Ac => exact (Kd.R_reads' Aa.out).2.1); rintro e w7 ⟨rfl, hb⟩; refine ⟨_, rfl, ?_⟩; replace Aa := bRa Aa hb; replace HK := Am (Kept.below (S := (fun k_ => P0_ k_)) (by repeat (first | (with_reducible first | exact HK.out | apply Kept.alloc | apply Kept.drewN | apply Kept.drew) | exact HK.out)) hb); replace HB := Am (below_step (pB HB.out) hb); (try clear hb); (try clear hb2); (try clear hk); (try clear hi)))
 go_ret2
 exact ⟨_, pX, by first | exact Kd.R_nil _ _ _ _ _ | exact Kd.N_nil _ _ _ _ _ | exact Kd.V_nil _ _ _ _ _ | exact Kd.Q_nil _ _ _ _ _ | exact Kd.S_nil _ _ _ _ _, pB HB.out, by repeat (first | (with_reducible first | exact HK.out | apply Kept.alloc | apply Kept.drewN | apply Kept.drew) | exact HK.out)⟩
def tally_Add.l0 : Nat → List (S79) → List (S24) → Int → Int → Option ((List (S79)) × Int)
 | 0, _, _, _, _ => none
 | k + 1, x6, x15, x16, x17 => if x17 < x16 then (if 0 ≤ x17 then (if x17 < (x15.length : Int) then ((tally_more.f k x6 ((rd_T24 x15 x17).f0) ((rd_T24 x15 x17).f2)).bind fun t190 => (tally_Add.l0 k t190 x15 x16 (wrap64 (x17 + 1)))) else (none)) else (none)) else ((tally_full.f k x6).bind fun bt193 => (some (bt193.1, bt193.2)))
def tally_Add.f (k : Nat) (l0 : List (S79)) (l1 : List (S24)) : Option ((List (S79)) × Int) := (tally_may.f k l0 l1).bind fun t184 => (if t184 = true then ((slices_Clone_api_Share.f l0).bind fun t185 => (tally_Add.l0 k t185 l1 (l1.length : Int) 0)) else (some (([] : List (S79)), 1)))
theorem tally_Add.mono_l : ∀ k, (∀ y0 y1 y2 y3, LeO (tally_Add.l0 k y0 y1 y2 y3) (tally_Add.l0 (k + 1) y0 y1 y2 y3))
 | 0 => fun _ _ _ _ r h => by simp [tally_Add.l0] at h
 | k + 1 => by
  have ih0 := tally_Add.mono_l k
  ·intro y0 y1 y2 y3
   unfold tally_Add.l0
   repeat' first
   | (with_reducible exact ih0 _ _ _ _)
   | (with_reducible exact tally_full.mono _ _)
   | (with_reducible exact tally_may.mono _ _ _)
   | (with_reducible exact tally_more.mono _ _ _ _)
   | (with_reducible exact LeO.refl _)
   | (with_reducible exact LeO.none _)
   | (with_reducible refine LeO.ite ?_ ?_)
   | (with_reducible refine LeO.bind ?_ (fun _ => ?_))
   | exact ih0 _ _ _ _
   | exact tally_full.mono _ _
   | exact tally_may.mono _ _ _
   | exact tally_more.mono _ _ _ _
   | exact LeO.none _
   | refine LeO.ite ?_ ?_
   | refine LeO.bind ?_ (fun _ => ?_)
theorem tally_Add.mono : ∀ a0 a1 k, LeO (tally_Add.f k a0 a1) (tally_Add.f (k + 1) a0 a1) := by
 intro a0 a1 k
 have ih0 := tally_Add.mono_l k
 unfold tally_Add.f
 repeat' first
   | (with_reducible exact ih0 _ _ _ _)
   | (with_reducible exact tally_full.mono _ _)
   | (with_reducible exact tally_may.mono _ _ _)
   | (with_reducible exact tally_more.mono _ _ _ _)
   | (with_reducible exact LeO.refl _)
   | (with_reducible exact LeO.none _)
   | (with_reducible refine LeO.ite ?_ ?_)
   | (with_reducible refine LeO.bind ?_ (fun _ => ?_))
   | exact ih0 _ _ _ _
   | exact tally_full.mono _ _
   | exact tally_may.mono _ _ _
   | exact tally_more.mono _ _ _ _
   | exact LeO.none _
   | refine LeO.ite ?_ ?_
   | refine LeO.bind ?_ (fun _ => ?_)
set_option maxHeartbeats 8000000 in
set_option maxRecDepth 100000 in
theorem tally_Add.calls (k : Nat) (A0 : Option Addr) (c0 : Nat) (l0 : List (S79)) (A1 : Option Addr) (c1 : Nat) (l1 : List (S24)) (r1 : List (S79)) (r2 : Int) (w : World) (hr0 : Kd.C k79 w A0 l0.length l0) (hc0 : l0.length ≤ c0) (hr1 : Kd.C k24 w A1 l1.length l1) (hc1 : l1.length ≤ c1) (h : tally_Add.f k l0 l1 = some (r1, r2)) :
  Calls Try.prog 53 #[.slice A0 l0.length c0, .slice A1 l1.length c1] w fun e w' => ∃ v0_ : Value, e = .returned (.tuple #[v0_, .int .i64 r2]) ∧ Kd.R k79 79 w' w.heap.size (fun _ => True) v0_ r1 ∧ Below w.heap.size w w' := by
 have hu24 := Try.underlying24
 have HR0 := Am hr0
 have HC0 := Am hc0
 clear hr0 hc0
 have HR1 := Am hr1
 have HC1 := Am hc1
 clear hr1 hc1
 have HB := Am (Below.refl w.heap.size w)
 have H : ((tally_may.f k l0 l1).bind fun t184 => (if t184 = true then ((slices_Clone_api_Share.f l0).bind fun t185 => (tally_Add.l0 k t185 l1 (l1.length : Int) 0)) else (some (([] : List (S79)), 1)))) = some (r1, r2) := h
 clear h
 replace H := Option.bind_eq_some_iff.mp H
 obtain ⟨t184, A30, H⟩ := H
 replace H : (if t184 = true then ((slices_Clone_api_Share.f l0).bind fun t185 => (tally_Add.l0 k t185 l1 (l1.length : Int) 0)) else (some (([] : List (S79)), 1))) = some (r1, r2) := H
 have A3 := Am A30
 clear A30
 by_cases c4 : t184 = true
 rotate_left
 ·replace c4 := Bool.eq_false_iff.mpr c4
  subst c4
  have H1 : (some (([] : List (S79)), 1)) = some (r1, r2) := by rw [if_neg (show ¬ (false = true) by decide)] at H; exact H
  clear H
  have H := H1
  clear H1
  simp only [Option.some.injEq, Prod.mk.injEq] at H
  obtain ⟨rfl, rfl⟩ := H
  go_enter Try.func53, Try.ntmps53
  go_wp2_with (first | ((with_reducible refine gate_callee (f := 59) rfl ?_); refine goesL_ (some 11) rfl rfl Try.func59 (by kernel_rfl) rfl #[.slice A0 l0.length c0, .slice A1 l1.length c1] rfl pL ?_; (with_reducible refine (tally_may.calls k _ _ l0 _ _ l1 false _ ?Ac ?Ad ?Ah ?Ai A3.out).mono ?_); (case Ac => repeat (first | exact HR0.out | (with_reducible refine Kd.C_alloc ?_ _) | (with_reducible refine Kd.C_drewN ?_ _) | (with_reducible refine Kd.C_drew ?_))); (case Ad => exact HC0.out); (case Ah => repeat (first | exact HR1.out | (with_reducible refine Kd.C_alloc ?_ _) | (with_reducible refine Kd.C_drewN ?_ _) | (with_reducible refine Kd.C_drew ?_))); (case Ai => exact HC1.out); rintro e w21 ⟨rfl, hb⟩; refine ⟨_, rfl, ?_⟩; replace HB := Am (below_step (pB HB.out) hb); (try clear hb); (try clear hb2); (try clear hk); (try clear hi)))
  go_ret2
  exact ⟨_, pX, by first | exact Kd.R_nil _ _ _ _ _ | exact Kd.N_nil _ _ _ _ _ | exact Kd.V_nil _ _ _ _ _ | exact Kd.Q_nil _ _ _ _ _ | exact Kd.S_nil _ _ _ _ _, pB HB.out⟩
 subst c4
 have H1 : ((slices_Clone_api_Share.f l0).bind fun t185 => (tally_Add.l0 k t185 l1 (l1.length : Int) 0)) = some (r1, r2) := by rw [if_pos rfl] at H; exact H
 clear H
 have H := H1
 clear H1
 replace H := Option.bind_eq_some_iff.mp H
 obtain ⟨t185, A50, H⟩ := H
 replace H : (tally_Add.l0 k t185 l1 (l1.length : Int) 0) = some (r1, r2) := H
 have A5 := Am A50
 clear A50
 have H' := Am H
 clear H
 go_enter Try.func53, Try.ntmps53
 go_wp2_with (first | ((with_reducible refine gate_callee (f := 59) rfl ?_); refine goesL_ (some 11) rfl rfl Try.func59 (by kernel_rfl) rfl #[.slice A0 l0.length c0, .slice A1 l1.length c1] rfl pL ?_; (with_reducible refine (tally_may.calls k _ _ l0 _ _ l1 true _ ?Ac ?Ad ?Ah ?Ai A3.out).mono ?_); (case Ac => repeat (first | exact HR0.out | (with_reducible refine Kd.C_alloc ?_ _) | (with_reducible refine Kd.C_drewN ?_ _) | (with_reducible refine Kd.C_drew ?_))); (case Ad => exact HC0.out); (case Ah => repeat (first | exact HR1.out | (with_reducible refine Kd.C_alloc ?_ _) | (with_reducible refine Kd.C_drewN ?_ _) | (with_reducible refine Kd.C_drew ?_))); (case Ai => exact HC1.out); rintro e w6 ⟨rfl, hb⟩; refine ⟨_, rfl, ?_⟩; replace HB := Am (below_step (pB HB.out) hb); (try clear hb); (try clear hb2); (try clear hk); (try clear hi)) | ((with_reducible refine gate_callee (f := 60) rfl ?_); refine goesL_ (some 14) rfl rfl Try.func60 (by kernel_rfl) rfl #[.slice A0 l0.length c0] rfl pL ?_; (with_reducible refine (slices_Clone_api_Share.calls _ _ l0 t185 _ ?Ac ?Ad A5.out).mono ?_); (case Ac => exact pC (Kd.C_below HR0.out HB.out)); (case Ad => exact HC0.out); rintro e w7 ⟨v186, rfl, ho0, hb⟩; refine ⟨_, rfl, ?_⟩; have Ap := Am (Kd.R_lower ho0 (below_size (pB HB.out))); replace HB := Am (below_step (pB HB.out) hb); (try clear hb); (try clear hb2); (try clear hk); (try clear hi); (try clear ho0)))
 go_loopg [6, 17] k (fun kq v6 v17 w' => ∃ (Ae : List (S79)) (Aa : Int), v17 = .int .i64 Aa ∧ Aside0 (tally_Add.l0 kq Ae l1 (l1.length : Int) Aa = some (r1, r2)) ∧ Aside0 (kq ≤ k) ∧ Aside0 (Kd.R k79 79 w' w.heap.size (fun _ => True) v6 Ae) ∧ Aside0 (Below w.heap.size w w'))
 case atStart => exact ⟨(t185), (0), (by first | rfl | (simp; done) | (simp [*]; done)), H', ⟨Nat.le_refl _⟩, ⟨by (with_reducible repeat (first | apply Kd.R_alloc | apply Kd.R_drewN | apply Kd.R_drew)); exact Ap.out⟩, ⟨pB HB.out⟩⟩
 case round =>
  clear H'
  try clear c1
  try clear p2
  try clear c4
  try clear c5
  try clear c6
  obtain ⟨Ae, Aa, rfl, HA, HK1, Af, HB⟩ := hrel
  cases gk with
  | zero => exact absurd HA.out (by simp [tally_Add.l0])
  | succ k1 =>
   have H := HA.out
   clear HA
   simp only [tally_Add.l0] at H
   by_cases c8 : Aa < (l1.length : Int)
   rotate_left
   ·rw [if_neg c8] at H
    have c8b0 : decide (Aa < (l1.length : Int)) = false := decide_eq_false c8
    clear c8
    replace H := Option.bind_eq_some_iff.mp H
    obtain ⟨⟨t193, t196⟩, A180, H⟩ := H
    replace H : (some (t193, t196)) = some (r1, r2) := H
    have A18 := Am A180
    clear A180
    simp only [Option.some.injEq, Prod.mk.injEq] at H
    obtain ⟨rfl, rfl⟩ := H
    obtain ⟨An, Ao, Au⟩ := Kd.R_slice Af.out
    subst Au
    go_wp2_with (first | ((with_reducible refine gate_callee (f := 62) rfl ?_); refine goesL_ (some 29) rfl rfl Try.func62 (by kernel_rfl) rfl #[.slice An Ae.length Ao] rfl pL ?_; (with_reducible refine (tally_full.calls k1 (fun k_ => some k_ = (.slice An Ae.length Ao : Value).ownBlock) (.slice An Ae.length Ao) Ae t193 t196 w _ ?Ac ?Ad A18.out).mono ?_); (case Ac => repeat (first | (with_reducible first | exact HB.out | apply below_alloc | apply pw_below_drewN | apply below_drew1) | exact HB.out)); (case Ad => exact Kd.R_tight rfl Af.out); rintro e w20 ⟨v194, rfl, ho0, hb, hkp⟩; refine ⟨_, rfl, ?_⟩; have As := Am (Kd.R_mono (ok' := fun k_ => True) ho0 (fun k_ hk_ => trivial)); replace HB := Am (hb); clear Af; (try clear hb); (try clear hkp); (try clear ho0)))
    go_ret2
    exact ⟨_, pX, by (with_reducible repeat (first | apply Kd.R_alloc | apply Kd.R_drewN | apply Kd.R_drew)); exact As.out, pB HB.out⟩
   rw [if_pos c8] at H
   have c8b0 : decide (Aa < (l1.length : Int)) = true := decide_eq_true c8
   clear c8
   by_cases c9 : 0 ≤ Aa
   rotate_left
   ·rw [if_neg c9] at H
    exact absurd H (by simp)
   rw [if_pos c9] at H
   have c9b0 : decide (0 ≤ Aa) = true := decide_eq_true c9
   clear c9
   by_cases c10 : Aa < (l1.length : Int)
   rotate_left
   ·rw [if_neg c10] at H
    exact absurd H (by simp)
   rw [if_pos c10] at H
   have c10b0 : decide (Aa < (l1.length : Int)) = true := decide_eq_true c10
   clear c10
   replace H := Option.bind_eq_some_iff.mp H
   obtain ⟨t190, A110, H⟩ := H
   replace H : (tally_Add.l0 k1 t190 l1 (l1.length : Int) (wrap64 (Aa + 1))) = some (r1, r2) := H
   have A11 := Am A110
   clear A110
   have H' := Am H
   clear H
   have p188 : 0 ≤ (Aa : Int) := of_decide_eq_true pS
   have q188 : Aa < (l1.length : Int) := of_decide_eq_true pS
   obtain ⟨ad188, e188, hx188_0, hx188_1, hx188_2, hx188_3⟩ := at_T24u HR1.out Aa p188 q188 HB.out
   cases e188
   replace p188 := eq_true p188
   replace q188 := eq_true q188
   go_wp2_with (first | ((with_reducible refine gate_dst (N := 8) rfl ?_); refine box_event ?hg (N := 8) ?hd (cs := #[.int .i64 0, .int .i64 0, .int .i64 0, .int .u32 0]) (t := 24) ?hr ?_; (case hd => rfl); (case hg => rfl); (case hr => first | (go_simp; done) | (go_simp; rfl)); intro Ag hg w12 hbox hb; replace Af := bRa Af hb; have Ab := Am (hbox); have Aq := Am ((by rw [hg]; exact (below_size (pB HB.out)) : w.heap.size ≤ Ag)); replace HB := Am (below_step (pB HB.out) hb); have Aj := Aq; clear hb hbox hg; obtain ⟨_, _, _, _⟩ := bc4 Ab.out; obtain ⟨_, _, _, _⟩ := bf4 Ab.out) | ((with_reducible refine gate_store (t := 24) (p := 8) rfl ?_); refine store_event (t := 24) (p := 8) (v := ?vo_w14) (w1 := ((((w12.setCell ⟨Ag, 0, none⟩ (.int .i64 ((rd_T24 l1 Aa).f0))).setCell ⟨Ag, 1, none⟩ (.int .i64 ((rd_T24 l1 Aa).f1))).setCell ⟨Ag, 2, none⟩ (.int .i64 ((rd_T24 l1 Aa).f2))).setCell ⟨Ag, 3, none⟩ (.int .u32 ((rd_T24 l1 Aa).f3)))) ?hg ?ho ?hn ?hr ?_; (case ho => rfl); (case hg => rfl); (case hn => rfl); (case hr => first | (go_simp; done) | (go_simp; rfl)); intro w14 hw; replace Af : Aside0 (Kd.R k79 79 w14 w.heap.size (fun _ => True) u6 Ae) := ⟨(by rw [hw]; exact (by (with_reducible repeat (first | apply Kd.R_alloc | apply Kd.R_drewN | apply Kd.R_drew)); exact Kd.R_mono (Rf4 (g := Ag) (Kd.R_types Af.out Ab.out (by decide)) (fun _ hk => hk.2)) (fun _ hk => trivial)))⟩; replace Ab : Aside0 (w14.heap[Ag]? = some (.cells #[.int .i64 ((rd_T24 l1 Aa).f0), .int .i64 ((rd_T24 l1 Aa).f1), .int .i64 ((rd_T24 l1 Aa).f2), .int .u32 ((rd_T24 l1 Aa).f3)] 24 (0, 0))) := ⟨(by rw [hw]; exact (kX0 Ab.out))⟩; replace HB : Aside0 (Below w.heap.size w w14) := ⟨(by rw [hw]; exact (pE HB.out Aj.out))⟩; clear hw; obtain ⟨_, _, _, _⟩ := bc4 Ab.out; obtain ⟨_, _, _, _⟩ := bf4 Ab.out; obtain ⟨Ak, Al, At⟩ := Kd.R_slice Af.out; subst At) | ((with_reducible refine gate_callee (f := 61) rfl ?_); refine goesL_ (some 26) rfl rfl Try.func61 (by kernel_rfl) rfl #[.slice Ak Ae.length Al, .int .i64 ((rd_T24 l1 Aa).f0), .int .i64 ((rd_T24 l1 Aa).f2)] rfl pL ?_; (with_reducible refine (tally_more.calls k1 (fun k_ => some k_ = (.slice Ak Ae.length Al : Value).ownBlock) (.slice Ak Ae.length Al) Ae ((rd_T24 l1 Aa).f0) ((rd_T24 l1 Aa).f2) t190 w _ ?Ac ?Ad A11.out).mono ?_); (case Ac => repeat (first | (with_reducible first | exact HB.out | apply below_alloc | apply pw_below_drewN | apply below_drew1 | refine below_set ?_ Aj.out) | exact HB.out)); (case Ad => exact Kd.R_tight rfl Af.out); rintro e w17 ⟨v191, rfl, ho0, hb, hkp⟩; refine ⟨_, rfl, ?_⟩; replace Ab := Am (blk_kept (pK Ab.out) hkp (fun hs_ => (fun e_ => (Kd.R_ne Af.out Ab.out (by decide)) e_) hs_)); have Ar := Am (Kd.R_mono (ok' := fun k_ => True) ho0 (fun k_ hk_ => trivial)); replace HB := Am (hb); clear Af; (try clear hb); (try clear hkp); (try clear ho0)))
   go_roundg k1
   case measure => have := HK1.out; omega
   case rel => exact ⟨(t190), (wrap64 (Aa + 1)), (by first | rfl | (simp; done) | (simp [*]; done)), H', ⟨by have := HK1.out; omega⟩, ⟨by (with_reducible repeat (first | apply Kd.R_alloc | apply Kd.R_drewN | apply Kd.R_drew)); exact Ar.out⟩, ⟨pE HB.out Aj.out⟩⟩
end
end Go.Proofs.Ytpefjfibhjnijaa.PLivePuts
