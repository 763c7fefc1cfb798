/- What the law reaches, as plain Lean functions, and that the machine's calls answer just that. -/
import Derived.Test.YtejndebplkaadaaPPointOrdersx0
import Derived.Test.YtejndebplkaadaaPPointOrdersx2
import Derived.Test.YtejndebplkaadaaPPointOrdersx3
import Derived.Test.YtejndebplkaadaaPPointOrdersx4
namespace Go.Proofs.Ytejndebplkaadaa.PPointOrders
open Go.RowKit Go.Proofs.YtejndebplkaadaaW.PrintWords Go.Proofs.YtejndebplkaadaaW.PrintLast Go.Proofs.YtejndebplkaadaaW.PrintMore
set_option linter.unusedVariables false
set_option linter.unusedSimpArgs false
section
attribute [local go_sem] max2_int min2_int max_two min_two max_three min_three max_four min_four
attribute [local go_sem] wrap64_l1 wrap64_l2 wrap64_l3 wrap64_l4 wrap64_l5
mutual
def slices_stableCmpFunc_api_Point.l0 : Nat → List (S25) → Int → Int → Int → Int → Option ((List (S25)))
  | 0, _, _, _, _, _ => none
  | k + 1, x0, x1, x6, x7, x8 => if x8 ≤ x1 then ((slices_insertionSortCmpFunc_api_Point.f k x0 x7 x8).bind fun t179 => (slices_stableCmpFunc_api_Point.l0 k t179 x1 x6 x8 (wrap64 (x8 + x6)))) else ((slices_insertionSortCmpFunc_api_Point.f k x0 x7 x1).bind fun t180 => (slices_stableCmpFunc_api_Point.l1 k t180 x1 x6))
def slices_stableCmpFunc_api_Point.l1 : Nat → List (S25) → Int → Int → Option ((List (S25)))
  | 0, _, _, _ => none
  | k + 1, x0, x1, x6 => if x6 < x1 then (slices_stableCmpFunc_api_Point.l2 k x0 x1 x6 0 (wrap64 (2 * x6))) else (some x0)
def slices_stableCmpFunc_api_Point.l2 : Nat → List (S25) → Int → Int → Int → Int → Option ((List (S25)))
  | 0, _, _, _, _, _ => none
  | k + 1, x0, x1, x6, x7, x8 => if x8 ≤ x1 then ((slices_symMergeCmpFunc_api_Point.f k x0 x7 (wrap64 (x7 + x6)) x8).bind fun t181 => (slices_stableCmpFunc_api_Point.l2 k t181 x1 x6 x8 (wrap64 (x8 + (wrap64 (2 * x6)))))) else (if (wrap64 (x7 + x6)) < x1 then ((slices_symMergeCmpFunc_api_Point.f k x0 x7 (wrap64 (x7 + x6)) x1).bind fun t182 => (slices_stableCmpFunc_api_Point.l1 k t182 x1 (wrap64 (x6 * 2)))) else (slices_stableCmpFunc_api_Point.l1 k x0 x1 (wrap64 (x6 * 2))))
end
def slices_stableCmpFunc_api_Point.f (k : Nat) (l0 : List (S25)) (a1 : Int)  : Option ((List (S25))) := slices_stableCmpFunc_api_Point.l0 k l0 a1 20 0 20
theorem slices_stableCmpFunc_api_Point.mono_l : ∀ k, (∀ y0 y1 y2 y3 y4, LeO (slices_stableCmpFunc_api_Point.l0 k y0 y1 y2 y3 y4) (slices_stableCmpFunc_api_Point.l0 (k + 1) y0 y1 y2 y3 y4)) ∧ (∀ y0 y1 y2, LeO (slices_stableCmpFunc_api_Point.l1 k y0 y1 y2) (slices_stableCmpFunc_api_Point.l1 (k + 1) y0 y1 y2)) ∧ (∀ y0 y1 y2 y3 y4, LeO (slices_stableCmpFunc_api_Point.l2 k y0 y1 y2 y3 y4) (slices_stableCmpFunc_api_Point.l2 (k + 1) y0 y1 y2 y3 y4))
  | 0 => ⟨fun _ _ _ _ _ r h => by simp [slices_stableCmpFunc_api_Point.l0] at h, fun _ _ _ r h => by simp [slices_stableCmpFunc_api_Point.l1] at h, fun _ _ _ _ _ r h => by simp [slices_stableCmpFunc_api_Point.l2] at h⟩
  | k + 1 => by
    obtain ⟨ih0, ih1, ih2⟩ := slices_stableCmpFunc_api_Point.mono_l k
    refine ⟨?_, ?_, ?_⟩
    · intro y0 y1 y2 y3 y4
      unfold slices_stableCmpFunc_api_Point.l0
      repeat' first
      | (with_reducible exact ih0 _ _ _ _ _)
      | (with_reducible exact ih1 _ _ _)
      | (with_reducible exact ih2 _ _ _ _ _)
      | (with_reducible exact slices_insertionSortCmpFunc_api_Point.mono _ _ _ _)
      | (with_reducible exact slices_symMergeCmpFunc_api_Point.mono _ _ _ _ _)
      | (with_reducible exact LeO.refl _)
      | (with_reducible exact LeO.none _)
      | (with_reducible refine LeO.ite ?_ ?_)
      | (with_reducible refine LeO.bind ?_ (fun _ => ?_))
      | exact ih0 _ _ _ _ _
      | exact ih1 _ _ _
      | exact ih2 _ _ _ _ _
      | exact slices_insertionSortCmpFunc_api_Point.mono _ _ _ _
      | exact slices_symMergeCmpFunc_api_Point.mono _ _ _ _ _
      | exact LeO.none _
      | refine LeO.ite ?_ ?_
      | refine LeO.bind ?_ (fun _ => ?_)
    · intro y0 y1 y2
      unfold slices_stableCmpFunc_api_Point.l1
      repeat' first
      | (with_reducible exact ih0 _ _ _ _ _)
      | (with_reducible exact ih1 _ _ _)
      | (with_reducible exact ih2 _ _ _ _ _)
      | (with_reducible exact slices_insertionSortCmpFunc_api_Point.mono _ _ _ _)
      | (with_reducible exact slices_symMergeCmpFunc_api_Point.mono _ _ _ _ _)
      | (with_reducible exact LeO.refl _)
      | (with_reducible exact LeO.none _)
      | (with_reducible refine LeO.ite ?_ ?_)
      | (with_reducible refine LeO.bind ?_ (fun _ => ?_))
      | exact ih0 _ _ _ _ _
      | exact ih1 _ _ _
      | exact ih2 _ _ _ _ _
      | exact slices_insertionSortCmpFunc_api_Point.mono _ _ _ _
      | exact slices_symMergeCmpFunc_api_Point.mono _ _ _ _ _
      | exact LeO.none _
      | refine LeO.ite ?_ ?_
      | refine LeO.bind ?_ (fun _ => ?_)
    · intro y0 y1 y2 y3 y4
      unfold slices_stableCmpFunc_api_Point.l2
      repeat' first
      | (with_reducible exact ih0 _ _ _ _ _)
      | (with_reducible exact ih1 _ _ _)
      | (with_reducible exact ih2 _ _ _ _ _)
      | (with_reducible exact slices_insertionSortCmpFunc_api_Point.mono _ _ _ _)
      | (with_reducible exact slices_symMergeCmpFunc_api_Point.mono _ _ _ _ _)
      | (with_reducible exact LeO.refl _)
      | (with_reducible exact LeO.none _)
      | (with_reducible refine LeO.ite ?_ ?_)
      | (with_reducible refine LeO.bind ?_ (fun _ => ?_))
      | exact ih0 _ _ _ _ _
      | exact ih1 _ _ _
      | exact ih2 _ _ _ _ _
      | exact slices_insertionSortCmpFunc_api_Point.mono _ _ _ _
      | exact slices_symMergeCmpFunc_api_Point.mono _ _ _ _ _
      | exact LeO.none _
      | refine LeO.ite ?_ ?_
      | refine LeO.bind ?_ (fun _ => ?_)
theorem slices_stableCmpFunc_api_Point.mono : ∀ a0 a1 k, LeO (slices_stableCmpFunc_api_Point.f k a0 a1) (slices_stableCmpFunc_api_Point.f (k + 1) a0 a1) := by
  intro a0 a1 k
  obtain ⟨ih0, ih1, ih2⟩ := slices_stableCmpFunc_api_Point.mono_l k
  unfold slices_stableCmpFunc_api_Point.f
  repeat' first
      | (with_reducible exact ih0 _ _ _ _ _)
      | (with_reducible exact ih1 _ _ _)
      | (with_reducible exact ih2 _ _ _ _ _)
      | (with_reducible exact slices_insertionSortCmpFunc_api_Point.mono _ _ _ _)
      | (with_reducible exact slices_symMergeCmpFunc_api_Point.mono _ _ _ _ _)
      | (with_reducible exact LeO.refl _)
      | (with_reducible exact LeO.none _)
      | (with_reducible refine LeO.ite ?_ ?_)
      | (with_reducible refine LeO.bind ?_ (fun _ => ?_))
      | exact ih0 _ _ _ _ _
      | exact ih1 _ _ _
      | exact ih2 _ _ _ _ _
      | exact slices_insertionSortCmpFunc_api_Point.mono _ _ _ _
      | exact slices_symMergeCmpFunc_api_Point.mono _ _ _ _ _
      | exact LeO.none _
      | refine LeO.ite ?_ ?_
      | refine LeO.bind ?_ (fun _ => ?_)
set_option maxHeartbeats 8000000 in
set_option maxRecDepth 100000 in
theorem slices_stableCmpFunc_api_Point.calls (k : Nat) (P0_ : Nat → Prop) (u9000_ : Value) (l0 : List (S25)) (a1 : Int)  (r : List (S25)) (w0 w : World) (hB : Below w0.heap.size w0 w) (ho0 : Kd.R k25 25 w w0.heap.size P0_ u9000_ l0) (h : slices_stableCmpFunc_api_Point.f k l0 a1 = some r) :
    Calls Try.prog 18 #[u9000_, .int .i64 a1, .func (.func 14) #[] #[]] w fun e w' => e = .returned (.tuple #[]) ∧ Kd.R k25 25 w' w0.heap.size (fun k_ => (P0_ k_ ∨ w.heap.size ≤ k_)) u9000_ r ∧ Below w0.heap.size w0 w' ∧ Kept w w' (fun k_ => P0_ k_) := by
  have As := Am (show Kd.R k25 25 w w0.heap.size (fun k_ => (P0_ k_ ∨ w.heap.size ≤ k_)) u9000_ l0 from Kd.R_mono ho0 (fun k_ hk => (.inl hk)))
  have HK := Am (Kept.refl w (fun k_ => P0_ k_))
  have HW0 := Am hB.size
  have HB := Am hB
  clear hB
  have H : (slices_stableCmpFunc_api_Point.l0 k l0 a1 20 0 20) = some r := h
  clear h
  have H' := Am H
  clear H
  go_enter Try.func18, Try.ntmps18
  go_wp2
  go_loopg [7, 8] k (fun kq v7 v8 w' => ∃ (Af : List (S25)) (Al : Int) (Ag : Int), v7 = .int .i64 Al ∧ v8 = .int .i64 Ag ∧ Aside0 (slices_stableCmpFunc_api_Point.l0 kq Af a1 20 Al Ag = some r) ∧ Aside0 (kq ≤ k) ∧ Aside0 (Kd.R k25 25 w' w0.heap.size (fun k_ => (P0_ k_ ∨ w.heap.size ≤ k_)) u9000_ Af) ∧ Aside0 (Kept w w' (fun k_ => P0_ k_)) ∧ Aside0 (Below w0.heap.size w0 w'))
  case atStart => exact ⟨(l0), (0), (20), (by first | rfl | (simp; done) | (simp [*]; done)), (by first | rfl | (simp; done) | (simp [*]; done)), H', ⟨Nat.le_refl _⟩, ⟨by (with_reducible repeat (first | apply Kd.R_alloc | apply Kd.R_drewN | apply Kd.R_drew)); exact As.out⟩, ⟨by repeat (first | (with_reducible first | exact HK.out | apply Kept.alloc | apply Kept.drewN | apply Kept.drew) | exact HK.out)⟩, ⟨pB HB.out⟩⟩
  case round =>
    clear H'
    try clear c1
    try clear p2
    obtain ⟨Af, Al, Ag, rfl, rfl, HA, HK1, Aa, HK, HB⟩ := hrel
    cases gk with
    | zero => exact absurd HA.out (by simp [slices_stableCmpFunc_api_Point.l0])
    | succ k1 =>
      have H := HA.out
      clear HA
      simp only [slices_stableCmpFunc_api_Point.l0] at H
      by_cases c4 : Ag ≤ a1
      · rw [if_pos c4] at H
        have c4b0 : decide (Ag ≤ a1) = true := decide_eq_true c4
        clear c4
        replace H := Option.bind_eq_some_iff.mp H
        obtain ⟨t179, A50, H⟩ := H
        replace H : (slices_stableCmpFunc_api_Point.l0 k1 t179 a1 20 Ag (wrap64 (Ag + 20))) = some r := H
        have A5 := Am A50
        clear A50
        have H' := Am H
        clear H
        obtain ⟨Aq, Ar, At⟩ := Kd.R_slice Aa.out
        subst At
        go_wp2_with (first | ((with_reducible refine gate_callee (f := 19) rfl ?_); refine goesL_ (some 18) rfl rfl Try.func19 (by kernel_rfl) rfl #[.slice Aq Af.length Ar, .int .i64 Al, .int .i64 Ag, .func (.func 14) #[] #[]] rfl pL ?_; (with_reducible refine (slices_insertionSortCmpFunc_api_Point.calls k1 (fun k_ => some k_ = (.slice Aq Af.length Ar : Value).ownBlock) (.slice Aq Af.length Ar) Af Al Ag t179 w0 _ ?Aj ?Ak A5.out).mono ?_); (case Aj => repeat (first | (with_reducible first | exact HB.out | apply below_alloc | apply pw_below_drewN | apply below_drew1) | exact HB.out)); (case Ak => exact Kd.R_tight rfl Aa.out); rintro e w7 ⟨rfl, hy0, hb, hkp⟩; refine ⟨_, rfl, ?_⟩; replace HK := Am (Kept.then_ (S := (fun k_ => P0_ k_)) (by repeat (first | (with_reducible first | exact HK.out | apply Kept.alloc | apply Kept.drewN | apply Kept.drew) | exact HK.out)) hkp (fun k_ hs_ => (fun e_ => (Aa.out.1 k_ e_.symm)) hs_)); replace Aa := Am (Kd.R_reok rfl hy0 (fun k_ e_ => Aa.out.1 k_ e_)); replace HB := Am (hb); (try clear hb); (try clear hkp); (try clear hy0)))
        go_roundg k1
        case measure => have := HK1.out; omega
        case rel => exact ⟨(t179), (Ag), (wrap64 (Ag + 20)), (by first | rfl | (simp; done) | (simp [*]; done)), (by first | rfl | (simp; done) | (simp [*]; done)), H', ⟨by have := HK1.out; omega⟩, ⟨by (with_reducible repeat (first | apply Kd.R_alloc | apply Kd.R_drewN | apply Kd.R_drew)); exact Aa.out⟩, ⟨by repeat (first | (with_reducible first | exact HK.out | apply Kept.alloc | apply Kept.drewN | apply Kept.drew) | exact HK.out)⟩, ⟨pB HB.out⟩⟩
      rw [if_neg c4] at H
      have c4b0 : decide (Ag ≤ a1) = false := decide_eq_false c4
      clear c4
      replace H := Option.bind_eq_some_iff.mp H
      obtain ⟨t180, A80, H⟩ := H
      replace H : (slices_stableCmpFunc_api_Point.l1 k1 t180 a1 20) = some r := H
      have A8 := Am A80
      clear A80
      have H' := Am H
      clear H
      obtain ⟨An, Ao, Au⟩ := Kd.R_slice Aa.out
      subst Au
      go_wp2_with (first | ((with_reducible refine gate_callee (f := 19) rfl ?_); refine goesL_ (some 27) rfl rfl Try.func19 (by kernel_rfl) rfl #[.slice An Af.length Ao, .int .i64 Al, .int .i64 a1, .func (.func 14) #[] #[]] rfl pL ?_; (with_reducible refine (slices_insertionSortCmpFunc_api_Point.calls k1 (fun k_ => some k_ = (.slice An Af.length Ao : Value).ownBlock) (.slice An Af.length Ao) Af Al a1 t180 w0 _ ?Aj ?Ak A8.out).mono ?_); (case Aj => repeat (first | (with_reducible first | exact HB.out | apply below_alloc | apply pw_below_drewN | apply below_drew1) | exact HB.out)); (case Ak => exact Kd.R_tight rfl Aa.out); rintro e w10 ⟨rfl, hy0, hb, hkp⟩; refine ⟨_, rfl, ?_⟩; replace HK := Am (Kept.then_ (S := (fun k_ => P0_ k_)) (by repeat (first | (with_reducible first | exact HK.out | apply Kept.alloc | apply Kept.drewN | apply Kept.drew) | exact HK.out)) hkp (fun k_ hs_ => (fun e_ => (Aa.out.1 k_ e_.symm)) hs_)); replace Aa := Am (Kd.R_reok rfl hy0 (fun k_ e_ => Aa.out.1 k_ e_)); replace HB := Am (hb); (try clear hb); (try clear hkp); (try clear hy0)))
      simp only [Act.put, List.setIfInBounds_toArray, List.set_cons_zero, List.set_cons_succ]
      go_loopg [6] k1 (fun kq v6 w' => ∃ (Ap : List (S25)) (Ab : Int), v6 = .int .i64 Ab ∧ Aside0 (slices_stableCmpFunc_api_Point.l1 kq Ap a1 Ab = some r) ∧ Aside0 (kq ≤ k1) ∧ Aside0 (Kd.R k25 25 w' w0.heap.size (fun k_ => (P0_ k_ ∨ w.heap.size ≤ k_)) (.slice An Af.length Ao) Ap) ∧ Aside0 (Kept w w' (fun k_ => P0_ k_)) ∧ Aside0 (Below w0.heap.size w0 w'))
      case atStart => exact ⟨(t180), (20), (by first | rfl | (simp; done) | (simp [*]; done)), H', ⟨Nat.le_refl _⟩, ⟨by (with_reducible repeat (first | apply Kd.R_alloc | apply Kd.R_drewN | apply Kd.R_drew)); exact Aa.out⟩, ⟨by repeat (first | (with_reducible first | exact HK.out | apply Kept.alloc | apply Kept.drewN | apply Kept.drew) | exact HK.out)⟩, ⟨pB HB.out⟩⟩
      case round =>
        clear H'
        try clear c1
        try clear p2
        try clear c4
        try clear c4b0
        try clear p6
        try clear p2
        obtain ⟨Ap, Ab, rfl, HA, HK2, Aa, HK, HB⟩ := hrel
        have Ad := (Kd.R_reads' Aa.out).1
        rw [Ad] at Aa
        (try simp only [Ad])
        cases gk with
        | zero => exact absurd HA.out (by simp [slices_stableCmpFunc_api_Point.l1])
        | succ k2 =>
          have H := HA.out
          clear HA
          simp only [slices_stableCmpFunc_api_Point.l1] at H
          by_cases c11 : Ab < a1
          rotate_left
          · rw [if_neg c11] at H
            have c11b0 : decide (Ab < a1) = false := decide_eq_false c11
            clear c11
            obtain rfl := Option.some.inj H
            go_wp2
            first | go_end0 | ((try simp only [Exit.inBlock, Exit.then]); refine bodyPost_ret (results_none rfl _ _ _) rfl ?_)
            exact ⟨pX, (by first | exact (pR Aa.out) | (simp only [Ad]; exact (pR Aa.out))), pB HB.out, by repeat (first | (with_reducible first | exact HK.out | apply Kept.alloc | apply Kept.drewN | apply Kept.drew) | exact HK.out)⟩
          rw [if_pos c11] at H
          have c11b0 : decide (Ab < a1) = true := decide_eq_true c11
          clear c11
          have H' := Am H
          clear H
          go_wp2
          go_loopg [7, 8] k2 (fun kq v7 v8 w' => ∃ (Ah : List (S25)) (Ac : Int) (Ai : Int), v7 = .int .i64 Ac ∧ v8 = .int .i64 Ai ∧ Aside0 (slices_stableCmpFunc_api_Point.l2 kq Ah a1 Ab Ac Ai = some r) ∧ Aside0 (kq ≤ k2) ∧ Aside0 (Kd.R k25 25 w' w0.heap.size (fun k_ => (P0_ k_ ∨ w.heap.size ≤ k_)) (.slice An Ap.length Ao) Ah) ∧ Aside0 (Kept w w' (fun k_ => P0_ k_)) ∧ Aside0 (Below w0.heap.size w0 w'))
          case atStart => exact ⟨(Ap), (0), (wrap64 (2 * Ab)), (by first | rfl | (simp; done) | (simp [*]; done)), (by first | rfl | (simp; done) | (simp [*]; done)), H', ⟨Nat.le_refl _⟩, ⟨by (try simp only [Ad]); (with_reducible repeat (first | apply Kd.R_alloc | apply Kd.R_drewN | apply Kd.R_drew)); exact Aa.out⟩, ⟨by repeat (first | (with_reducible first | exact HK.out | apply Kept.alloc | apply Kept.drewN | apply Kept.drew) | exact HK.out)⟩, ⟨pB HB.out⟩⟩
          case round =>
            clear H'
            try clear c1
            try clear p2
            try clear c4
            try clear c4b0
            try clear p6
            try clear c11
            try clear c11b0
            try clear p2
            try clear p6
            obtain ⟨Ah, Ac, Ai, rfl, rfl, HA, HK3, Aa, HK, HB⟩ := hrel
            have Ae := (Kd.R_reads' Aa.out).1
            rw [Ae] at Aa
            (try simp only [Ae])
            cases gk with
            | zero => exact absurd HA.out (by simp [slices_stableCmpFunc_api_Point.l2])
            | succ k3 =>
              have H := HA.out
              clear HA
              simp only [slices_stableCmpFunc_api_Point.l2] at H
              by_cases c12 : Ai ≤ a1
              · rw [if_pos c12] at H
                have c12b0 : decide (Ai ≤ a1) = true := decide_eq_true c12
                clear c12
                replace H := Option.bind_eq_some_iff.mp H
                obtain ⟨t181, A130, H⟩ := H
                replace H : (slices_stableCmpFunc_api_Point.l2 k3 t181 a1 Ab Ai (wrap64 (Ai + (wrap64 (2 * Ab))))) = some r := H
                have A13 := Am A130
                clear A130
                have H' := Am H
                clear H
                go_wp2_with (first | ((with_reducible refine gate_callee (f := 20) rfl ?_); refine goesL_ (some 43) rfl rfl Try.func20 (by kernel_rfl) rfl #[.slice An Ah.length Ao, .int .i64 Ac, .int .i64 (wrap64 (Ac + Ab)), .int .i64 Ai, .func (.func 14) #[] #[]] rfl pL ?_; (with_reducible refine (slices_symMergeCmpFunc_api_Point.calls k3 (fun k_ => some k_ = (.slice An Ah.length Ao : Value).ownBlock) (.slice An Ah.length Ao) Ah Ac (wrap64 (Ac + Ab)) Ai t181 w0 _ ?Aj ?Ak A13.out).mono ?_); (case Aj => repeat (first | (with_reducible first | exact HB.out | apply below_alloc | apply pw_below_drewN | apply below_drew1) | exact HB.out)); (case Ak => exact Kd.R_tight rfl Aa.out); rintro e w14 ⟨rfl, hy0, hb, hkp⟩; refine ⟨_, rfl, ?_⟩; replace HK := Am (Kept.then_ (S := (fun k_ => P0_ k_)) (by repeat (first | (with_reducible first | exact HK.out | apply Kept.alloc | apply Kept.drewN | apply Kept.drew) | exact HK.out)) hkp (fun k_ hs_ => (fun e_ => (Aa.out.1 k_ e_.symm)) hs_)); replace Aa := Am (Kd.R_reok rfl hy0 (fun k_ e_ => Aa.out.1 k_ e_)); replace HB := Am (hb); (try clear hb); (try clear hkp); (try clear hy0)))
                (try simp only [← Ae])
                go_roundg k3
                case measure => have := HK1.out; have := HK2.out; have := HK3.out; omega
                case rel => exact ⟨(t181), (Ai), (wrap64 (Ai + (wrap64 (2 * Ab)))), (by first | rfl | (simp; done) | (simp [*]; done)), (by first | rfl | (simp; done) | (simp [*]; done)), H', ⟨by have := HK1.out; have := HK2.out; have := HK3.out; omega⟩, ⟨by (try simp only [Ad]); (try simp only [Ae]); (with_reducible repeat (first | apply Kd.R_alloc | apply Kd.R_drewN | apply Kd.R_drew)); exact Aa.out⟩, ⟨by repeat (first | (with_reducible first | exact HK.out | apply Kept.alloc | apply Kept.drewN | apply Kept.drew) | exact HK.out)⟩, ⟨pB HB.out⟩⟩
              rw [if_neg c12] at H
              have c12b0 : decide (Ai ≤ a1) = false := decide_eq_false c12
              clear c12
              by_cases c15 : (wrap64 (Ac + Ab)) < a1
              rotate_left
              · rw [if_neg c15] at H
                have c15b0 : decide ((wrap64 (Ac + Ab)) < a1) = false := decide_eq_false c15
                clear c15
                have H' := Am H
                clear H
                go_wp2
                (try simp only [← Ad, ← Ae])
                go_roundg k3
                case measure => have := HK1.out; have := HK2.out; have := HK3.out; omega
                case rel => exact ⟨(Ah), (wrap64 (Ab * 2)), (by first | rfl | (simp; done) | (simp [*]; done)), H', ⟨by have := HK1.out; have := HK2.out; have := HK3.out; omega⟩, ⟨by (try simp only [Ad]); (try simp only [Ae]); (with_reducible repeat (first | apply Kd.R_alloc | apply Kd.R_drewN | apply Kd.R_drew)); exact Aa.out⟩, ⟨by repeat (first | (with_reducible first | exact HK.out | apply Kept.alloc | apply Kept.drewN | apply Kept.drew) | exact HK.out)⟩, ⟨pB HB.out⟩⟩
              rw [if_pos c15] at H
              have c15b0 : decide ((wrap64 (Ac + Ab)) < a1) = true := decide_eq_true c15
              clear c15
              replace H := Option.bind_eq_some_iff.mp H
              obtain ⟨t182, A160, H⟩ := H
              replace H : (slices_stableCmpFunc_api_Point.l1 k3 t182 a1 (wrap64 (Ab * 2))) = some r := H
              have A16 := Am A160
              clear A160
              have H' := Am H
              clear H
              go_wp2_with (first | ((with_reducible refine gate_callee (f := 20) rfl ?_); refine goesL_ (some 60) rfl rfl Try.func20 (by kernel_rfl) rfl #[.slice An Ah.length Ao, .int .i64 Ac, .int .i64 (wrap64 (Ac + Ab)), .int .i64 a1, .func (.func 14) #[] #[]] rfl pL ?_; (with_reducible refine (slices_symMergeCmpFunc_api_Point.calls k3 (fun k_ => some k_ = (.slice An Ah.length Ao : Value).ownBlock) (.slice An Ah.length Ao) Ah Ac (wrap64 (Ac + Ab)) a1 t182 w0 _ ?Aj ?Ak A16.out).mono ?_); (case Aj => repeat (first | (with_reducible first | exact HB.out | apply below_alloc | apply pw_below_drewN | apply below_drew1) | exact HB.out)); (case Ak => exact Kd.R_tight rfl Aa.out); rintro e w17 ⟨rfl, hy0, hb, hkp⟩; refine ⟨_, rfl, ?_⟩; replace HK := Am (Kept.then_ (S := (fun k_ => P0_ k_)) (by repeat (first | (with_reducible first | exact HK.out | apply Kept.alloc | apply Kept.drewN | apply Kept.drew) | exact HK.out)) hkp (fun k_ hs_ => (fun e_ => (Aa.out.1 k_ e_.symm)) hs_)); replace Aa := Am (Kd.R_reok rfl hy0 (fun k_ e_ => Aa.out.1 k_ e_)); replace HB := Am (hb); (try clear hb); (try clear hkp); (try clear hy0)))
              (try simp only [← Ad, ← Ae])
              go_roundg k3
              case measure => have := HK1.out; have := HK2.out; have := HK3.out; omega
              case rel => exact ⟨(t182), (wrap64 (Ab * 2)), (by first | rfl | (simp; done) | (simp [*]; done)), H', ⟨by have := HK1.out; have := HK2.out; have := HK3.out; omega⟩, ⟨by (try simp only [Ad]); (try simp only [Ae]); (with_reducible repeat (first | apply Kd.R_alloc | apply Kd.R_drewN | apply Kd.R_drew)); exact Aa.out⟩, ⟨by repeat (first | (with_reducible first | exact HK.out | apply Kept.alloc | apply Kept.drewN | apply Kept.drew) | exact HK.out)⟩, ⟨pB HB.out⟩⟩
def slices_SortStableFunc_api_Point.f (k : Nat) (l0 : List (S25))  : Option ((List (S25))) := (slices_stableCmpFunc_api_Point.f k l0 (l0.length : Int)).bind fun t183 => (some t183)
theorem slices_SortStableFunc_api_Point.mono : ∀ a0 k, LeO (slices_SortStableFunc_api_Point.f k a0) (slices_SortStableFunc_api_Point.f (k + 1) a0) := by
  intro a0 k
  unfold slices_SortStableFunc_api_Point.f
  repeat' first
      | (with_reducible exact slices_stableCmpFunc_api_Point.mono _ _ _)
      | (with_reducible exact LeO.refl _)
      | (with_reducible exact LeO.none _)
      | (with_reducible refine LeO.ite ?_ ?_)
      | (with_reducible refine LeO.bind ?_ (fun _ => ?_))
      | exact slices_stableCmpFunc_api_Point.mono _ _ _
      | exact LeO.none _
      | refine LeO.ite ?_ ?_
      | refine LeO.bind ?_ (fun _ => ?_)
set_option maxHeartbeats 8000000 in
set_option maxRecDepth 100000 in
theorem slices_SortStableFunc_api_Point.calls (k : Nat) (P0_ : Nat → Prop) (u9000_ : Value) (l0 : List (S25))  (r : List (S25)) (w0 w : World) (hB : Below w0.heap.size w0 w) (ho0 : Kd.R k25 25 w w0.heap.size P0_ u9000_ l0) (h : slices_SortStableFunc_api_Point.f k l0 = some r) :
    Calls Try.prog 13 #[u9000_, .func (.func 14) #[] #[]] w fun e w' => e = .returned (.tuple #[]) ∧ Kd.R k25 25 w' w0.heap.size (fun k_ => (P0_ k_ ∨ w.heap.size ≤ k_)) u9000_ r ∧ Below w0.heap.size w0 w' ∧ Kept w w' (fun k_ => P0_ k_) := by
  have HO0 := Am (show Kd.R k25 25 w w0.heap.size (fun k_ => (P0_ k_ ∨ w.heap.size ≤ k_)) u9000_ l0 from Kd.R_mono ho0 (fun k_ hk => (.inl hk)))
  have HK := Am (Kept.refl w (fun k_ => P0_ k_))
  have HW0 := Am hB.size
  have HB := Am hB
  clear hB
  have H : ((slices_stableCmpFunc_api_Point.f k l0 (l0.length : Int)).bind fun t183 => (some t183)) = some r := h
  clear h
  replace H := Option.bind_eq_some_iff.mp H
  obtain ⟨t183, A30, H⟩ := H
  replace H : (some t183) = some r := H
  have A3 := Am A30
  clear A30
  obtain rfl := Option.some.inj H
  obtain ⟨Ao4, co4, eo4⟩ := Kd.R_slice HO0.out
  subst eo4
  go_enter Try.func13, Try.ntmps13
  go_wp2_with (first | ((with_reducible refine gate_callee (f := 18) rfl ?_); refine goesL_ (some 8) rfl rfl Try.func18 (by kernel_rfl) rfl #[.slice Ao4 l0.length co4, .int .i64 (l0.length : Int), .func (.func 14) #[] #[]] rfl pL ?_; (with_reducible refine (slices_stableCmpFunc_api_Point.calls k (fun k_ => some k_ = (.slice Ao4 l0.length co4 : Value).ownBlock) (.slice Ao4 l0.length co4) l0 (l0.length : Int) t183 w0 _ ?side1 ?side2 A3.out).mono ?_); (case side1 => repeat (first | (with_reducible first | exact HB.out | apply below_alloc | apply pw_below_drewN | apply below_drew1) | exact HB.out)); (case side2 => exact Kd.R_tight rfl HO0.out); rintro e w5 ⟨rfl, hy0, hb, hkp⟩; refine ⟨_, rfl, ?_⟩; replace HK := Am (Kept.then_ (S := (fun k_ => P0_ k_)) (by repeat (first | (with_reducible first | exact HK.out | apply Kept.alloc | apply Kept.drewN | apply Kept.drew) | exact HK.out)) hkp (fun k_ hs_ => (fun e_ => (HO0.out.1 k_ e_.symm)) hs_)); replace HO0 := Am (Kd.R_reok rfl hy0 (fun k_ e_ => HO0.out.1 k_ e_)); replace HB := Am (hb); (try clear hb); (try clear hkp); (try clear hy0)))
  first | go_end0 | ((try simp only [Exit.inBlock, Exit.then]); refine bodyPost_ret (results_none rfl _ _ _) rfl ?_)
  exact ⟨pX, by (with_reducible repeat (first | apply Kd.R_alloc | apply Kd.R_drewN | apply Kd.R_drew)); exact HO0.out, pB HB.out, by repeat (first | (with_reducible first | exact HK.out | apply Kept.alloc | apply Kept.drewN | apply Kept.drew) | exact HK.out)⟩
def point_Order.f (k : Nat) (l0 : List (S25)) : Option ((List (S25))) := (slices_Clone_api_Point.f l0).bind fun t184 => ((slices_SortStableFunc_api_Point.f k t184).bind fun t187 => (some t187))
theorem point_Order.mono : ∀ a0 k, LeO (point_Order.f k a0) (point_Order.f (k + 1) a0) := by
  intro a0 k
  unfold point_Order.f
  repeat' first
      | (with_reducible exact slices_SortStableFunc_api_Point.mono _ _)
      | (with_reducible exact LeO.refl _)
      | (with_reducible exact LeO.none _)
      | (with_reducible refine LeO.ite ?_ ?_)
      | (with_reducible refine LeO.bind ?_ (fun _ => ?_))
      | exact slices_SortStableFunc_api_Point.mono _ _
      | exact LeO.none _
      | refine LeO.ite ?_ ?_
      | refine LeO.bind ?_ (fun _ => ?_)
set_option maxHeartbeats 8000000 in
set_option maxRecDepth 100000 in
theorem point_Order.calls (k : Nat) (A0 : Option Addr) (c0 : Nat) (l0 : List (S25)) (r : List (S25)) (w : World) (hr0 : Kd.C k25 w A0 l0.length l0) (hc0 : l0.length ≤ c0) (h : point_Order.f k l0 = some r) :
    Calls Try.prog 8 #[.slice A0 l0.length c0] w fun e w' => ∃ v0_ : Value, e = .returned (v0_) ∧ Kd.R k25 25 w' w.heap.size (fun _ => True) v0_ r ∧ Below w.heap.size w w' := by
  have HR0 := Am hr0
  have HC0 := Am hc0
  clear hr0 hc0
  have HB := Am (Below.refl w.heap.size w)
  have H : ((slices_Clone_api_Point.f l0).bind fun t184 => ((slices_SortStableFunc_api_Point.f k t184).bind fun t187 => (some t187))) = some r := h
  clear h
  replace H := Option.bind_eq_some_iff.mp H
  obtain ⟨t184, A20, H⟩ := H
  replace H : ((slices_SortStableFunc_api_Point.f k t184).bind fun t187 => (some t187)) = some r := H
  have A2 := Am A20
  clear A20
  replace H := Option.bind_eq_some_iff.mp H
  obtain ⟨t187, A30, H⟩ := H
  replace H : (some t187) = some r := H
  have A3 := Am A30
  clear A30
  obtain rfl := Option.some.inj H
  go_enter Try.func8, Try.ntmps8
  go_wp2_with (first | ((with_reducible refine gate_callee (f := 12) rfl ?_); refine goesL_ (some 5) rfl rfl Try.func12 (by kernel_rfl) rfl #[.slice A0 l0.length c0] rfl pL ?_; (with_reducible refine (slices_Clone_api_Point.calls _ _ l0 t184 _ ?side1 ?side2 A2.out).mono ?_); (case side1 => repeat (first | exact HR0.out | (with_reducible refine Kd.C_alloc ?_ _) | (with_reducible refine Kd.C_drewN ?_ _) | (with_reducible refine Kd.C_drew ?_))); (case side2 => exact HC0.out); rintro e w4 ⟨v185, rfl, ho0, hb⟩; refine ⟨_, rfl, ?_⟩; have HO186 := Am (Kd.R_lower ho0 (below_size (pB HB.out))); replace HB := Am (below_step (pB HB.out) hb); (try clear hb); (try clear hb2); (try clear hk); (try clear hi); (try clear ho0); obtain ⟨Ao5, co5, eo5⟩ := Kd.R_slice HO186.out; subst eo5) | ((with_reducible refine gate_callee (f := 13) rfl ?_); refine goesL_ (some 7) rfl rfl Try.func13 (by kernel_rfl) rfl #[.slice Ao5 t184.length co5, .func (.func 14) #[] #[]] rfl pL ?_; (with_reducible refine (slices_SortStableFunc_api_Point.calls k (fun k_ => some k_ = (.slice Ao5 t184.length co5 : Value).ownBlock) (.slice Ao5 t184.length co5) t184 t187 w _ ?side1 ?side2 A3.out).mono ?_); (case side1 => repeat (first | (with_reducible first | exact HB.out | apply below_alloc | apply pw_below_drewN | apply below_drew1) | exact HB.out)); (case side2 => exact Kd.R_tight rfl HO186.out); rintro e w6 ⟨rfl, hy0, hb, hkp⟩; refine ⟨_, rfl, ?_⟩; replace HO186 := Am (Kd.R_reok rfl hy0 (fun k_ e_ => HO186.out.1 k_ e_)); replace HB := Am (hb); (try clear hb); (try clear hkp); (try clear hy0)))
  go_ret
  exact ⟨_, pX, by (with_reducible repeat (first | apply Kd.R_alloc | apply Kd.R_drewN | apply Kd.R_drew)); exact HO186.out, pB HB.out⟩
section
variable {P : Program} {ops : Array Oper} {o : Oper} {a : Act} {Q : Exit → Act → World → Prop} {rest : List Oper} {α : Type}
/-- A row of the call's own, cut to its beginning with no room behind: an element appended makes a new row. -/
theorem garnerref04_Order.app_cut (d : Kd α) {w0 W : World} (base : Nat) (hgd : o.guard = none) (s x : Operand) (t e : TypeId) (z : Value) (bytes : Nat)
    (ho : o.op = .call { callee := .builtin .append, args := #[s, x], argTypes := #[t, t] })
    (ht : P.underlying t = some (.slice e)) (hinfo : (P.info? e).map (fun i => (i.zero, i.size, i.bytes)) = some (some z, d.sz, bytes)) (hz : z.cells.size = d.sz) (hs0 : 0 < d.sz) (hb0 : 0 < bytes)
    (A : Option Addr) (n c k : Nat) (xs : List α) (p : α) (cs : List Value) (ok okp : Nat → Prop) (hk : k ≤ xs.length) (hs : a.eval s = .slice A k k) (hx : a.eval x = .slice (some ⟨W.heap.size, 0, none⟩) 1 1) (hp : d.M W base okp p cs) (hflat : ∀ w1 okq (y : α) (ys : List Value) w2 ok2, d.M w1 base okq y ys → d.M w2 base ok2 y ys)
    (HO : d.R e W base ok (.slice A n c) xs) (HB : Below base w0 W) (hbase : base ≤ W.heap.size) (hl : (xs.length + 1) * bytes ≤ 140737488355328)
    (h : ∀ v1 w1, d.R e w1 base (fun k => W.heap.size ≤ k) v1 (xs.take k ++ [p]) → Below base w0 w1 → W.grownBy w1 none → wpList P ops Q rest (a.put o.dst v1) w1) :
    wpList P ops Q (o :: rest) a (W.alloc (.cells cs.toArray e)) := by
  obtain ⟨i0, hi, hzz⟩ := Option.map_eq_some_iff.1 hinfo
  simp only [Prod.mk.injEq] at hzz
  obtain ⟨hz0, hz1, hz2⟩ := hzz
  have hn := (Kd.R_reads' HO).1
  subst hn
  cases A with
  | none =>
    have hxs : xs = [] := by
      cases xs with
      | nil => rfl
      | cons y ys =>
        obtain ⟨ad, had, _⟩ := (Kd.R_reads' HO).2.2.2.2 (by simp)
        cases had
    subst hxs
    have hk0 : k = 0 := by simpa using hk
    subst hk0
    refine Kd.R_append d base hgd s x t e z bytes ho ht hinfo hz hs0 hb0 (.slice none 0 0) [] p cs (fun k => W.heap.size ≤ k) (fun _ => False) hs hx (hflat _ _ _ _ _ _ hp) (fun _ h => h.elim) (fun _ h => h) (Kd.R_nil _ _ _ _ _) HB hbase (by simpa using hl) ?_
    intro v1 w1 h1 h2 h3 h4
    exact h v1 w1 h1 h2 h3
  | some ad =>
    obtain ⟨h0, inner, hown, hr⟩ := Kd.R_take HO hk
    have hlen : inner.length = k * d.sz := by rw [hown.1, List.length_take, Nat.min_eq_left hk]
    obtain ⟨g, rfl⟩ : ∃ g, ad = ⟨g, 0, none⟩ := Kd.R_head HO
    have hcells : ∀ j u, inner[j]? = some u → (W.alloc (.cells cs.toArray e)).cell? ((⟨g, 0, none⟩ : Addr).add j) = some u := fun j u hj => by
      have h1 := (hown.alloc (.cells cs.toArray e)).cells (g := g) rfl j u hj
      exact h1
    have hcl := d.K_len (d.K_of_M hp)
    have h63 : k + 1 ≤ 140737488355328 := by
      have := Nat.le_mul_of_pos_right (xs.length + 1) hb0
      omega
    have hbk : (k + 1) * bytes ≤ 140737488355328 := Nat.le_trans (Nat.mul_le_mul_right bytes (by omega)) hl
    obtain ⟨v1, w1, hrun, hown1, hg1⟩ := run_append_arg_grows (P := P) (w := W.alloc (.cells cs.toArray e)) t o.type e i0 z d.sz bytes ht hi hz0 hz1 hz2 hz hs0 ⟨g, 0, none⟩ k k inner hlen hcells ⟨W.heap.size, 0, none⟩ 1 1 cs (by rw [hcl]; simp) (by simpa using World.news_of_block (cs := cs.toArray) (t := e) (fr := (0, 0)) (heap_alloc_new W (.cells cs.toArray e))) (by omega) (by simp only [maxLen]; omega) hbk
    refine wpList_plain hgd fun K hK => ?_
    unfold Oper.wp execOp
    simp only [ho, resolve, invoke, builtin, Sem.run_bind, Sem.run_pure, Result.andThen_ok, List.map_toArray, List.map_cons, List.map_nil, hs, hx, hrun]
    refine hK _ _ (h v1 w1 ?_ ((HB.alloc hbase _).grown hg1 (by simp; omega) (fun k hk => by cases hk)) (World.grownBy.trans (World.grownBy_alloc W _ _) hg1))
    refine ⟨fun k_ hk_ => ?_, inner ++ cs, ?_, ?_⟩
    · exact Nat.le_trans (Nat.le_succ _) (by have := own_base hown1 k_ hk_; simpa using this)
    · have hl1 : (xs.take k ++ [p]).length = k + 1 := by rw [List.length_append, List.length_take, Nat.min_eq_left hk]; rfl
      rw [hl1]
      exact own_weaken hown1 (by simp; omega)
    · exact (hr.imp_ (fun y ys hy => hflat _ _ _ _ _ _ hy)).snoc (hflat _ _ _ _ _ _ hp) hcl
theorem garnerref04_Order.app_cut_step {Kc : Act → World → Prop} {E : Prop} (d : Kd α) {w0 W : World} (base : Nat) (hgd : o.guard = none) (s x : Operand) (t e : TypeId) (z : Value) (bytes : Nat)
    (ho : o.op = .call { callee := .builtin .append, args := #[s, x], argTypes := #[t, t] })
    (ht : P.underlying t = some (.slice e)) (hinfo : (P.info? e).map (fun i => (i.zero, i.size, i.bytes)) = some (some z, d.sz, bytes)) (hz : z.cells.size = d.sz) (hs0 : 0 < d.sz) (hb0 : 0 < bytes)
    (A : Option Addr) (n c k : Nat) (xs : List α) (p : α) (cs : List Value) (ok okp : Nat → Prop) (hk : k ≤ xs.length) (hs : a.eval s = .slice A k k) (hx : a.eval x = .slice (some ⟨W.heap.size, 0, none⟩) 1 1) (hp : d.M W base okp p cs) (hflat : ∀ w1 okq (y : α) (ys : List Value) w2 ok2, d.M w1 base okq y ys → d.M w2 base ok2 y ys)
    (HO : d.R e W base ok (.slice A n c) xs) (HB : Below base w0 W) (hbase : base ≤ W.heap.size) (hl : (xs.length + 1) * bytes ≤ 140737488355328)
    (h : ∀ v1 w1, d.R e w1 base (fun k => W.heap.size ≤ k) v1 (xs.take k ++ [p]) → Below base w0 w1 → W.grownBy w1 none → Kc (a.put o.dst v1) w1) :
    if Region.wanted o (yielded ops a.tmps) = true then Oper.wp P o a (W.alloc (.cells cs.toArray e)) Kc Q else E := by
  have hw : Region.wanted o (yielded ops a.tmps) = true := by simp [Region.wanted, hgd]
  rw [if_pos hw]
  obtain ⟨i0, hi, hzz⟩ := Option.map_eq_some_iff.1 hinfo
  simp only [Prod.mk.injEq] at hzz
  obtain ⟨hz0, hz1, hz2⟩ := hzz
  have hn := (Kd.R_reads' HO).1
  subst hn
  cases A with
  | none =>
    have hxs : xs = [] := by
      cases xs with
      | nil => rfl
      | cons y ys =>
        obtain ⟨ad, had, _⟩ := (Kd.R_reads' HO).2.2.2.2 (by simp)
        cases had
    subst hxs
    have hk0 : k = 0 := by simpa using hk
    subst hk0
    have := Kd.R_append_step (Kc := Kc) (Q := Q) (P := P) (ops := ops) (a := a) d (w0 := w0) (W := W) base hw s x t e z bytes ho ht hinfo hz hs0 hb0 (.slice none 0 0) [] p cs (fun k => W.heap.size ≤ k) (fun _ => False) hs hx (hflat _ _ _ _ _ _ hp) (fun _ h => h.elim) (fun _ h => h) (Kd.R_nil _ _ _ _ _) HB hbase (by simpa using hl) (fun v1 w1 h1 h2 h3 h4 => h v1 w1 h1 h2 h3)
    rwa [if_pos hw] at this
  | some ad =>
    obtain ⟨h0, inner, hown, hr⟩ := Kd.R_take HO hk
    have hlen : inner.length = k * d.sz := by rw [hown.1, List.length_take, Nat.min_eq_left hk]
    obtain ⟨g, rfl⟩ : ∃ g, ad = ⟨g, 0, none⟩ := Kd.R_head HO
    have hcells : ∀ j u, inner[j]? = some u → (W.alloc (.cells cs.toArray e)).cell? ((⟨g, 0, none⟩ : Addr).add j) = some u := fun j u hj => by
      have h1 := (hown.alloc (.cells cs.toArray e)).cells (g := g) rfl j u hj
      exact h1
    have hcl := d.K_len (d.K_of_M hp)
    have h63 : k + 1 ≤ 140737488355328 := by
      have := Nat.le_mul_of_pos_right (xs.length + 1) hb0
      omega
    have hbk : (k + 1) * bytes ≤ 140737488355328 := Nat.le_trans (Nat.mul_le_mul_right bytes (by omega)) hl
    obtain ⟨v1, w1, hrun, hown1, hg1⟩ := run_append_arg_grows (P := P) (w := W.alloc (.cells cs.toArray e)) t o.type e i0 z d.sz bytes ht hi hz0 hz1 hz2 hz hs0 ⟨g, 0, none⟩ k k inner hlen hcells ⟨W.heap.size, 0, none⟩ 1 1 cs (by rw [hcl]; simp) (by simpa using World.news_of_block (cs := cs.toArray) (t := e) (fr := (0, 0)) (heap_alloc_new W (.cells cs.toArray e))) (by omega) (by simp only [maxLen]; omega) hbk
    unfold Oper.wp execOp
    simp only [ho, resolve, invoke, builtin, Sem.run_bind, Sem.run_pure, Result.andThen_ok, List.map_toArray, List.map_cons, List.map_nil, hs, hx, hrun]
    refine (h v1 w1 ?_ ((HB.alloc hbase _).grown hg1 (by simp; omega) (fun k hk => by cases hk)) (World.grownBy.trans (World.grownBy_alloc W _ _) hg1))
    refine ⟨fun k_ hk_ => ?_, inner ++ cs, ?_, ?_⟩
    · exact Nat.le_trans (Nat.le_succ _) (by have := own_base hown1 k_ hk_; simpa using this)
    · have hl1 : (xs.take k ++ [p]).length = k + 1 := by rw [List.length_append, List.length_take, Nat.min_eq_left hk]; rfl
      rw [hl1]
      exact own_weaken hown1 (by simp; omega)
    · exact (hr.imp_ (fun y ys hy => hflat _ _ _ _ _ _ hy)).snoc (hflat _ _ _ _ _ _ hp) hcl
end
theorem garnerref04_Order.cut_tight {P : Program} (t e : TypeId) (kh km : IntKind) {i : TypeInfo} (ht : P.underlying t = some (.slice e)) (hi : P.info? e = some i) (A : Option Addr) (n c : Nat) (j : Int) (h0 : 0 ≤ j) (hm : j ≤ n) (hc : n ≤ c) :
    ∀ W : World, (Instr.slice t (.slice A n c) none (some (.int kh j)) (some (.int km j))).run P W = .ok (.slice A j.toNat j.toNat) W := by
  intro W
  have hel : P.elem t = e := by simp [Program.elem, ht]
  have hu : P.underlying t = some (.slice (P.elem t)) := by rw [hel]; exact ht
  have ha : (A.map fun x => x.add 0) = A := by cases A <;> simp [Addr.add]
  rw [run_slice_hm W t A n c hu kh km j j h0 (Int.le_refl _) (by omega), hel]
  simp [sizeOf, typeInfo, hi, sliced, Result.andThen, ha]
/-- Is a point lesser. -/
def garnerref04_Order.less (a b : S25) : Bool := if a.f0 = b.f0 then decide (a.f1 < b.f1) else decide (a.f0 < b.f0)
def garnerref04_Order.pos (x : S25) (out : List S25) : Nat → Nat
  | 0 => 0
  | k + 1 => if garnerref04_Order.less x (rd_T25 out (k : Int)) = true then garnerref04_Order.pos x out k else k + 1
def garnerref04_Order.ins (out : List S25) (x : S25) : List S25 := out.take (garnerref04_Order.pos x out out.length) ++ x :: out.drop (garnerref04_Order.pos x out out.length)
def garnerref04_Order.f (l : List S25) : Option (List S25) := if l.length < 1000000000000 then some (l.foldl garnerref04_Order.ins []) else none
theorem garnerref04_Order.less_eq (a b : S25) : garnerref04_Less.f a.f0 a.f1 a.f2 a.f3 b.f0 b.f1 b.f2 b.f3 = some (garnerref04_Order.less a b) := by
  unfold garnerref04_Less.f garnerref04_Order.less
  split <;> rfl
theorem garnerref04_Order.pos_le (x : S25) (out : List S25) : ∀ j, garnerref04_Order.pos x out j ≤ j
  | 0 => Nat.le_refl _
  | j + 1 => by
    simp only [garnerref04_Order.pos]
    split
    · exact Nat.le_succ_of_le (garnerref04_Order.pos_le x out j)
    · exact Nat.le_refl _
def garnerref04_Order.T6 : Bool × List (List Nat × List Nat) := (true, [([], []), ([0], [0]), ([1], [1]), ([2], [2]), ([2], [2]), ([3, 4, 2], [2, 3, 4]), ([5, 2], [2, 5]), ([2], [2]), ([2], [2]), ([8, 2], [2, 8]), ([7, 9, 2], [2, 7, 9]), ([10, 2], [2, 10]), ([6, 11, 2, 2], [2, 6, 11]), ([2, 12], [2, 12])])
def garnerref04_Order.B6 : List Nat := [0, 1, 3, 7, 7, 31, 63, 7, 7, 263, 903, 1927, 4095, 8191]
theorem garnerref04_Order.tab6 : rtab .any (opsOf Try.f9 6) = garnerref04_Order.T6 := by kernel_rfl
theorem garnerref04_Order.bits6 : waitsOk garnerref04_Order.T6.2 garnerref04_Order.B6 = true := by kernel_rfl
def garnerref04_Order.T9 : Bool × List (List Nat × List Nat) := (true, [([], []), ([], []), ([], []), ([0, 1, 2], [0, 1, 2]), ([], []), ([], []), ([4, 5], [4, 5]), ([6], [6]), ([7], [7]), ([3, 8], [3, 8]), ([], []), ([9, 10, 9], [9, 10]), ([11, 11, 0, 1, 2, 3, 4, 5, 6, 7, 8, 9, 10, 11], [0, 11])])
def garnerref04_Order.B9 : List Nat := [0, 0, 0, 7, 0, 0, 48, 112, 240, 511, 0, 2047, 4095]
theorem garnerref04_Order.tab9 : rtab .any (opsOf Try.f9 9) = garnerref04_Order.T9 := by kernel_rfl
theorem garnerref04_Order.bits9 : waitsOk garnerref04_Order.T9.2 garnerref04_Order.B9 = true := by kernel_rfl
set_option maxHeartbeats 8000000 in
set_option maxRecDepth 100000 in
theorem garnerref04_Order.calls (A0 : Option Addr) (c0 : Nat) (l0 : List S25) (r : List S25) (w : World) (hr0 : Kd.C k25 w A0 l0.length l0) (hc0 : l0.length ≤ c0) (h : garnerref04_Order.f l0 = some r) :
    Calls Try.prog 9 #[.slice A0 l0.length c0] w fun e w' => ∃ v0_ : Value, e = .returned v0_ ∧ Kd.R k25 25 w' w.heap.size (fun _ => True) v0_ r ∧ Below w.heap.size w w' := by
  have hu25 := Try.underlying25
  have hu22 := Try.underlying22
  unfold garnerref04_Order.f at h
  by_cases hl : l0.length < 1000000000000
  rotate_left
  · rw [if_neg hl] at h
    exact absurd h (by simp)
  rw [if_pos hl] at h
  have HE := Am (Option.some.inj h)
  have HR0 := Am hr0
  have HC0 := Am hc0
  have HL := Am hl
  clear hr0 hc0 h hl
  go_enter Try.func9, Try.ntmps9
  go_wp2_with ((with_reducible refine gate_dst (N := 7) rfl ?_); go_loud (refine Kd.R_lit k25 _ 25 ?hg (N := 7) ?hd (xs := ([] : List S25)) (inner := []) (ok := fun _ => True) (okp := fun _ => True) ?hr ?hp (fun _ hk => hk) trivial (Below.refl _ _) (Nat.le_refl _) (by simp) ?_; (case hd => rfl); (case hg => rfl); (case hr => first | (go_simp; done) | (go_simp; rfl)); (case hp => exact (Reps.none _ _)); intro v1 w1 ho1 hb1 hg_ hnew_; have R1 := Aside0.mk ho1; have B1 := Aside0.mk hb1; clear ho1 hb1 hg_ hnew_))
  go_loopg [3, 4] l0.length (fun kq v3 v4 w' => ∃ (i : Nat) (acc : List S25), v4 = .int .i64 (i : Int) ∧ Aside0 (i + kq = l0.length) ∧ Aside0 ((l0.drop i).foldl garnerref04_Order.ins acc = r) ∧ Aside0 (acc.length = i) ∧ Aside0 (Kd.R k25 25 w' w.heap.size (fun _ => True) v3 acc) ∧ Aside0 (Below w.heap.size w w'))
  case atStart => exact ⟨0, [], rfl, ⟨by omega⟩, ⟨by rw [List.drop_zero]; exact HE.out⟩, ⟨rfl⟩, R1, B1⟩
  case round =>
    clear HE R1 B1
    obtain ⟨i, acc, rfl, HI, HF, HA, HR, HB⟩ := hrel
    obtain ⟨Av, cv, hv⟩ := Kd.R_slice HR.out
    subst hv
    obtain ⟨I, hI⟩ : ∃ I : Int, I = (i : Int) := ⟨_, rfl⟩
    rw [← hI]
    have HIE := Am hI
    clear hI
    cases gk with
    | zero =>
      have c1b : decide (I < (l0.length : Int)) = false := decide_eq_false (by have := HI.out; have := HIE.out; omega)
      go_wp2_with fail
      go_ret
      have h_ := HF.out
      rw [List.drop_eq_nil_of_le (by have := HI.out; omega)] at h_
      rw [← h_]
      exact ⟨_, rfl, HR.out, HB.out⟩
    | succ k2 =>
      have hil : i < l0.length := by have := HI.out; omega
      have c1b : decide (I < (l0.length : Int)) = true := decide_eq_true (by have := HIE.out; omega)
      have p4 : (0 ≤ I) = True := eq_true (by have := HIE.out; omega)
      have q4 : (I < (l0.length : Int)) = True := eq_true (by have := HIE.out; omega)
      have HIL := Am hil
      obtain ⟨x, hx⟩ : ∃ x, x = rd_T25 l0 I := ⟨_, rfl⟩
      have HX := Am hx
      clear hil hx
      obtain ⟨ax, hax, HSx⟩ : ∃ ax, A0 = some ax ∧ Aside0 (∀ W, Below w.heap.size w W → W.cell? (ax.add (I.toNat * 4)) = some (.int .i64 x.f0) ∧ cA W (ax.add (I.toNat * 4)) 1 (.int .i64 x.f1) ∧ cA W (ax.add (I.toNat * 4)) 2 (.int .i64 x.f2) ∧ cA W (ax.add (I.toNat * 4)) 3 (.int .u32 x.f3)) := by
        obtain ⟨ax, e0, _⟩ := at_T25 HR0.out I (of_eq_true p4) (of_eq_true q4)
        refine ⟨ax, e0, ⟨fun W hW => ?_⟩⟩
        obtain ⟨ax', e0', h⟩ := at_T25 (Kd.C_below HR0.out hW) I (of_eq_true p4) (of_eq_true q4)
        rw [e0] at e0'
        cases e0'
        rw [HX.out]
        exact h
      subst hax
      have hlen : acc.length < 1000000000000 := by have := HA.out; have := HIL.out; have := HL.out; omega
      have HLEN := Am hlen
      clear hlen
      go_upto_block 2 with fail
      go_cut [5] (fun v5 wx => ∃ p : Nat, v5 = .int .i64 (p : Int) ∧ Aside0 (p ≤ acc.length) ∧ Aside0 (p = garnerref04_Order.pos x acc acc.length) ∧ Aside0 (Kd.R k25 25 wx w.heap.size (fun _ => True) (.slice Av acc.length cv) acc) ∧ Aside0 (Below w.heap.size w wx))
      case first =>
       as_aux_lemma =>
        go_wp2_with fail
        go_loopg [5] acc.length (fun kq v5 w' => ∃ j : Nat, v5 = .int .i64 (j : Int) ∧ Aside0 (j ≤ acc.length) ∧ Aside0 (garnerref04_Order.pos x acc j = garnerref04_Order.pos x acc acc.length) ∧ Aside0 (kq = j) ∧ Aside0 (Kd.R k25 25 w' w.heap.size (fun _ => True) (.slice Av acc.length cv) acc) ∧ Aside0 (Below w.heap.size w w'))
        case atStart => exact ⟨acc.length, rfl, ⟨Nat.le_refl _⟩, ⟨rfl⟩, ⟨rfl⟩, HR, HB⟩
        case round =>
          obtain ⟨j, rfl, HJ, HPZ, HKQ, HR7, HB7⟩ := hrel
          by_cases hj0 : j = 0
          · subst hj0
            go_upto_region 6 with fail
            go_big_quiet (fail)
            go_wp2_with fail
            go_meet
            case rel => exact ⟨0, rfl, ⟨Nat.zero_le _⟩, ⟨HPZ.out.symm ▸ HPZ.out⟩, ⟨Kd.R_drewN HR7.out _⟩, ⟨pw_below_drewN HB7.out _⟩⟩
          · obtain ⟨m, rfl⟩ : ∃ m, j = m + 1 := ⟨j - 1, by omega⟩
            obtain ⟨M, hM⟩ : ∃ M : Int, M = (m : Int) := ⟨_, rfl⟩
            obtain ⟨J, hJ⟩ : ∃ J : Int, J = ((m + 1 : Nat) : Int) := ⟨_, rfl⟩
            rw [← hJ]
            have hjl := HJ.out
            have hlen := HLEN.out
            have g1 : decide ((0 : Int) < J) = true := decide_eq_true (by omega)
            have g2b : decide (0 ≤ M) = true := decide_eq_true (by omega)
            have g3b : decide (M < (acc.length : Int)) = true := decide_eq_true (by omega)
            have g2 : (0 ≤ M) = True := eq_true (by omega)
            have g3 : (M < (acc.length : Int)) = True := eq_true (by omega)
            have hMw : (IntKind.i64.wrap (J - 1)) = M := by
              have h2 := IntWalk.i64_in (J - 1) (by omega)
              omega
            have hMw2 : wrap64 (J - 1) = M := (i64_w _).symm.trans hMw
            obtain ⟨y, hy⟩ : ∃ y, y = rd_T25 acc M := ⟨_, rfl⟩
            have HY := Am hy
            have HM := Am hM
            have HJv := Am hJ
            clear hj0 hjl hlen hM hJ hy
            by_cases hless : garnerref04_Order.less x y = true
            · skip
              have HLE : Aside0 (garnerref04_Less.f x.f0 x.f1 x.f2 x.f3 y.f0 y.f1 y.f2 y.f3 = some true) := ⟨(garnerref04_Order.less_eq x y).trans (congrArg some hless)⟩
              have HS := Am hless
              clear hless
              go_wp2_with fail
              replace HR7 := dRa HR7
              replace HB7 := bDa HB7
              obtain ⟨x0, x1, x2, x3⟩ := HSx.out _ HB7.out
              obtain ⟨ay, e1, y0, y1, y2, y3⟩ := at_T25 (Kd.R_reads' HR7.out).2.2 M (of_decide_eq_true g2b) (of_decide_eq_true g3b)
              rw [← HY.out] at y0 y1 y2 y3
              subst e1
              refine start_ (n := 14) (S := fun w' => w'.cell? (ax.add (I.toNat * 4)) = some (.int .i64 x.f0) ∧ cA w' (ax.add (I.toNat * 4)) 1 (.int .i64 x.f1) ∧ cA w' (ax.add (I.toNat * 4)) 2 (.int .i64 x.f2) ∧ cA w' (ax.add (I.toNat * 4)) 3 (.int .u32 x.f3) ∧ w'.cell? (ay.add (M.toNat * 4)) = some (.int .i64 y.f0) ∧ cA w' (ay.add (M.toNat * 4)) 1 (.int .i64 y.f1) ∧ cA w' (ay.add (M.toNat * 4)) 2 (.int .i64 y.f2) ∧ cA w' (ay.add (M.toNat * 4)) 3 (.int .u32 y.f3)) (ds := []) #[false, false, false, false, false, false, false, false, false, false, false, false, false, false] (by kernel_rfl) rfl rfl ⟨x0, x1, x2, x3, y0, y1, y2, y3⟩ (fun hHeld => ?_); refine with_tabW garnerref04_Order.tab6 garnerref04_Order.bits6 (fun HT_ HW_ => ?_)
              generalize wr.drew = w22 at HR7 HB7 x0 x1 x2 x3 y0 y1 y2 y3 hHeld ⊢
              refine pui 0 16 14 1 HT_ ?_
              refine pui 1 17 14 3 HT_ ?_
              refine pui 2 18 14 7 HT_ ?_
              refine pui 3 19 14 15 HT_ ?_
              refine pui 4 20 14 31 HT_ ?_
              refine pui 5 21 14 63 HT_ ?_
              refine pui 7 23 14 191 HT_ ?_
              refine pui 8 24 14 447 HT_ ?_
              refine pui 9 25 14 959 HT_ ?_
              refine pui 10 26 14 1983 HT_ ?_
              refine tki 6 22 14 2047 HT_ HW_ hHeld ?_
              refine tki 11 27 14 4095 HT_ HW_ hHeld ?_
              refine onei 12 28 14 8191 HT_ (fun K hK => ?_)
              refine goes_ Try.func6 (by kernel_rfl) rfl #[.agg #[.int .i64 x.f0, .int .i64 x.f1, .int .i64 x.f2, .int .u32 x.f3], .agg #[.int .i64 y.f0, .int .i64 y.f1, .int .i64 y.f2, .int .u32 y.f3]] (by rfl) rfl rfl (by (try simp only [List.map_toArray, List.map_cons, List.map_nil]); rfl) ?_
              with_reducible refine (garnerref04_Less.calls x.f0 x.f1 x.f2 x.f3 y.f0 y.f1 y.f2 y.f3 true _ HLE.out).mono ?_
              rintro e w24 ⟨rfl, hb⟩
              have HS0_ := (hb.cell (World.block_lt_of_cell? _ _ (hHeld.1))).trans (hHeld.1)
              have HS1_ := (hb.cell (World.block_lt_of_cell? _ _ (hHeld.2.1))).trans (hHeld.2.1)
              have HS2_ := (hb.cell (World.block_lt_of_cell? _ _ (hHeld.2.2.1))).trans (hHeld.2.2.1)
              have HS3_ := (hb.cell (World.block_lt_of_cell? _ _ (hHeld.2.2.2.1))).trans (hHeld.2.2.2.1)
              have HS4_ := (hb.cell (World.block_lt_of_cell? _ _ (hHeld.2.2.2.2.1))).trans (hHeld.2.2.2.2.1)
              have HS5_ := (hb.cell (World.block_lt_of_cell? _ _ (hHeld.2.2.2.2.2.1))).trans (hHeld.2.2.2.2.2.1)
              have HS6_ := (hb.cell (World.block_lt_of_cell? _ _ (hHeld.2.2.2.2.2.2.1))).trans (hHeld.2.2.2.2.2.2.1)
              have HS7_ := (hb.cell (World.block_lt_of_cell? _ _ (hHeld.2.2.2.2.2.2.2))).trans (hHeld.2.2.2.2.2.2.2)
              refine ⟨_, rfl, ?_⟩
              replace HR7 := bRa HR7 hb
              replace HB7 := Am (below_step (pB HB7.out) hb)
              clear hb
              refine hK.out _ _ ⟨HS0_, HS1_, HS2_, HS3_, HS4_, HS5_, HS6_, HS7_⟩ (fun hHeld => ?_)
              clear hK K
              refine norm_ (a' := ?_) ?_ ?_
              rotate_left
              · show Act.put _ (some 28) _ = _
                simp only [Act.put, List.setIfInBounds_toArray, List.set_cons_zero, List.set_cons_succ, i64_w, i32_w]
                rfl
              refine pui 13 29 14 16383 HT_ ?_
              refine done_ (done_of HT_.out (by kernel_rfl)) ?_
              try go_wp2_with fail
              go_roundg m
              case measure => have := HKQ.out; omega
              case rel => exact ⟨m, by rw [HM.out], ⟨by have := HJ.out; omega⟩, ⟨by rw [← HPZ.out, garnerref04_Order.pos, ← HM.out, ← HY.out, if_pos HS.out]⟩, ⟨rfl⟩, ⟨HR7.out⟩, ⟨pB HB7.out⟩⟩
            · replace hless : garnerref04_Order.less x y = false := by simpa using hless
              have HLE : Aside0 (garnerref04_Less.f x.f0 x.f1 x.f2 x.f3 y.f0 y.f1 y.f2 y.f3 = some false) := ⟨(garnerref04_Order.less_eq x y).trans (congrArg some hless)⟩
              have HS := Am hless
              clear hless
              go_wp2_with fail
              replace HR7 := dRa HR7
              replace HB7 := bDa HB7
              obtain ⟨x0, x1, x2, x3⟩ := HSx.out _ HB7.out
              obtain ⟨ay, e1, y0, y1, y2, y3⟩ := at_T25 (Kd.R_reads' HR7.out).2.2 M (of_decide_eq_true g2b) (of_decide_eq_true g3b)
              rw [← HY.out] at y0 y1 y2 y3
              subst e1
              refine start_ (n := 14) (S := fun w' => w'.cell? (ax.add (I.toNat * 4)) = some (.int .i64 x.f0) ∧ cA w' (ax.add (I.toNat * 4)) 1 (.int .i64 x.f1) ∧ cA w' (ax.add (I.toNat * 4)) 2 (.int .i64 x.f2) ∧ cA w' (ax.add (I.toNat * 4)) 3 (.int .u32 x.f3) ∧ w'.cell? (ay.add (M.toNat * 4)) = some (.int .i64 y.f0) ∧ cA w' (ay.add (M.toNat * 4)) 1 (.int .i64 y.f1) ∧ cA w' (ay.add (M.toNat * 4)) 2 (.int .i64 y.f2) ∧ cA w' (ay.add (M.toNat * 4)) 3 (.int .u32 y.f3)) (ds := []) #[false, false, false, false, false, false, false, false, false, false, false, false, false, false] (by kernel_rfl) rfl rfl ⟨x0, x1, x2, x3, y0, y1, y2, y3⟩ (fun hHeld => ?_); refine with_tabW garnerref04_Order.tab6 garnerref04_Order.bits6 (fun HT_ HW_ => ?_)
              generalize wr.drew = w22 at HR7 HB7 x0 x1 x2 x3 y0 y1 y2 y3 hHeld ⊢
              refine pui 0 16 14 1 HT_ ?_
              refine pui 1 17 14 3 HT_ ?_
              refine pui 2 18 14 7 HT_ ?_
              refine pui 3 19 14 15 HT_ ?_
              refine pui 4 20 14 31 HT_ ?_
              refine pui 5 21 14 63 HT_ ?_
              refine pui 7 23 14 191 HT_ ?_
              refine pui 8 24 14 447 HT_ ?_
              refine pui 9 25 14 959 HT_ ?_
              refine pui 10 26 14 1983 HT_ ?_
              refine tki 6 22 14 2047 HT_ HW_ hHeld ?_
              refine tki 11 27 14 4095 HT_ HW_ hHeld ?_
              refine onei 12 28 14 8191 HT_ (fun K hK => ?_)
              refine goes_ Try.func6 (by kernel_rfl) rfl #[.agg #[.int .i64 x.f0, .int .i64 x.f1, .int .i64 x.f2, .int .u32 x.f3], .agg #[.int .i64 y.f0, .int .i64 y.f1, .int .i64 y.f2, .int .u32 y.f3]] (by rfl) rfl rfl (by (try simp only [List.map_toArray, List.map_cons, List.map_nil]); rfl) ?_
              with_reducible refine (garnerref04_Less.calls x.f0 x.f1 x.f2 x.f3 y.f0 y.f1 y.f2 y.f3 false _ HLE.out).mono ?_
              rintro e w24 ⟨rfl, hb⟩
              have HS0_ := (hb.cell (World.block_lt_of_cell? _ _ (hHeld.1))).trans (hHeld.1)
              have HS1_ := (hb.cell (World.block_lt_of_cell? _ _ (hHeld.2.1))).trans (hHeld.2.1)
              have HS2_ := (hb.cell (World.block_lt_of_cell? _ _ (hHeld.2.2.1))).trans (hHeld.2.2.1)
              have HS3_ := (hb.cell (World.block_lt_of_cell? _ _ (hHeld.2.2.2.1))).trans (hHeld.2.2.2.1)
              have HS4_ := (hb.cell (World.block_lt_of_cell? _ _ (hHeld.2.2.2.2.1))).trans (hHeld.2.2.2.2.1)
              have HS5_ := (hb.cell (World.block_lt_of_cell? _ _ (hHeld.2.2.2.2.2.1))).trans (hHeld.2.2.2.2.2.1)
              have HS6_ := (hb.cell (World.block_lt_of_cell? _ _ (hHeld.2.2.2.2.2.2.1))).trans (hHeld.2.2.2.2.2.2.1)
              have HS7_ := (hb.cell (World.block_lt_of_cell? _ _ (hHeld.2.2.2.2.2.2.2))).trans (hHeld.2.2.2.2.2.2.2)
              refine ⟨_, rfl, ?_⟩
              replace HR7 := bRa HR7 hb
              replace HB7 := Am (below_step (pB HB7.out) hb)
              clear hb
              refine hK.out _ _ ⟨HS0_, HS1_, HS2_, HS3_, HS4_, HS5_, HS6_, HS7_⟩ (fun hHeld => ?_)
              clear hK K
              refine norm_ (a' := ?_) ?_ ?_
              rotate_left
              · show Act.put _ (some 28) _ = _
                simp only [Act.put, List.setIfInBounds_toArray, List.set_cons_zero, List.set_cons_succ, i64_w, i32_w]
                rfl
              refine pui 13 29 14 16383 HT_ ?_
              refine done_ (done_of HT_.out (by kernel_rfl)) ?_
              try go_wp2_with fail
              go_meet
              case rel => exact ⟨m + 1, by rw [HJv.out], HJ, ⟨by rw [← HPZ.out, garnerref04_Order.pos, ← HM.out, ← HY.out, if_neg (by rw [HS.out]; decide)]⟩, ⟨HR7.out⟩, ⟨pB HB7.out⟩⟩
      case rest =>
       as_aux_lemma =>
        obtain ⟨p, rfl, HP1, HP2, HR7, HB7⟩ := hcut
        have hpl := HP1.out
        have hcl := (Kd.R_reads' HR7.out).2.1
        have hlen := HLEN.out
        obtain ⟨i0, hi0, _, Ai, _⟩ := info_parts info25
        obtain ⟨Pz, hPz⟩ : ∃ P : Int, P = (p : Int) := ⟨_, rfl⟩
        rw [← hPz]
        have Ao := cut_from (P := Try.prog) 22 25 .i64 Try.underlying22 hi0 4 Ai Av acc.length cv Pz (by omega) (by omega)
        have Ag := garnerref04_Order.cut_tight (P := Try.prog) 22 25 .i64 .i64 Try.underlying22 hi0 Av acc.length cv Pz (by omega) (by omega) hcl
        have hPn : Pz.toNat = p := by rw [hPz]; simp
        rw [hPn] at Ao Ag
        obtain ⟨tl, htl⟩ : ∃ q, q = acc.drop p := ⟨_, rfl⟩
        obtain ⟨A14, hA14⟩ : ∃ AX, AX = (if cv = p then Av else Av.map (·.add (p * 4))) := ⟨_, rfl⟩
        obtain ⟨c14, hc14⟩ : ∃ c, c = cv - p := ⟨_, rfl⟩
        have hrl : tl.length = acc.length - p := by rw [htl, List.length_drop]
        have HCd : Aside0 (∀ W, Kd.C k25 W Av acc.length acc → Kd.C k25 W A14 tl.length tl) := ⟨fun W h => by rw [hA14, htl]; exact Kd.C_drop h hpl hcl⟩
        rw [← hrl, ← hA14, ← hc14] at Ao
        have HTL := Am htl
        have HRL := Am hrl
        obtain ⟨I1, hI1⟩ : ∃ I1 : Int, I1 = ((i + 1 : Nat) : Int) := ⟨_, rfl⟩
        have hIw : (IntKind.i64.wrap (I + 1)) = I1 := by
          have h1 := HIE.out
          have h3 := HIL.out
          have h4 := HL.out
          have h2 := IntWalk.i64_in (I + 1) (by omega)
          omega
        have hIw2 : wrap64 (I + 1) = I1 := (i64_w _).symm.trans hIw
        have HI1 := Am hI1
        clear hpl hcl hlen hPz hPn hA14 hc14 hrl htl hi0 Ai hI1
        go_upto_region 9 with (first | ((with_reducible refine gate_dst (N := 32) rfl ?_); refine Kd.R_lit k25 _ 25 ?hg (N := 32) ?hd (xs := ([] : List S25)) (inner := []) (ok := fun _ => True) (okp := fun _ => True) ?hr ?hp (fun _ hk => hk) trivial (Below.refl _ _) (Nat.le_refl _) (by simp) ?_; (case hd => rfl); (case hg => rfl); (case hr => first | (go_simp; done) | (go_simp; rfl)); (case hp => exact (Reps.none _ _)); intro v8 w8 ho8 hb8 hg_ hnew_; have L8 := Am ho8; have W8 := Am hb8; clear ho8 hb8 hg_ hnew_) | ((with_reducible refine gate_builtin (b := .append) (xs := #[.tmp 32, .tmp 35]) rfl ?_); at_builtin; have C8 := Kd.C_below (Kd.R_reads' HR7.out).2.2 W8.out; refine Kd.R_append_rows k25 (w0 := w) w.heap.size rfl (.tmp 32) (.tmp 35) 22 25 (.agg #[.int .i64 0, .int .i64 0, .int .i64 0, .int .u32 0]) 32 rfl Try.underlying22 info25 rfl (by decide) (by omega) v8 [] tl A14 tl.length c14 (fun k => wc.heap.size ≤ k) (fun _ => False) rfl rfl ?aO (HCd.out _ C8) ?aK (fun _ h => h.elim) ?aF ?aB ?aS ?aL ?_; (case aK => intro y cs hk; rw [k25_open hk]; exact k25_mkM _ _ _ y); (case aB => exact HB7.out.trans (W8.out.mono HB7.out.size)); (case aF => have h_ := W8.out.size; exact fun k hk => Nat.le_trans h_ hk); (case aO => exact Kd.R_lower (Kd.R_mono (Kd.R_bound L8.out) (fun _ hk => hk.2.1)) HB7.out.size); (case aS => exact Nat.le_trans HB7.out.size W8.out.size); (case aL => have := HLEN.out; have := HRL.out; simp only [List.length_nil]; omega); intro v9 w9 ho hb hg hat; have hlt8 := Kd.R_base L8.out; have R9 : Aside0 (Kd.R k25 25 w9 w.heap.size (fun k => k < wc.heap.size) (.slice Av acc.length cv) acc) := ⟨Kd.R_grown (Kd.R_below (Kd.R_mono (Kd.R_bound HR7.out) (fun k hk => (hk.2.2.1 : k < wc.heap.size))) W8.out) hg (fun k hk e_ => (by have h_ := hlt8 k e_.symm; omega))⟩; have L9 : Aside0 (Kd.R k25 25 w9 w.heap.size (fun k => wc.heap.size ≤ k) v9 tl) := ⟨ho⟩; have B9 := Am hb; clear ho hb hg hat hlt8 C8))
        clear L8 W8 HR7 HB7
        obtain ⟨A9', c9', hv9⟩ := Kd.R_slice L9.out
        subst hv9
        replace R9 := dRa R9
        replace L9 := dRa L9
        replace B9 := bDa B9
        obtain ⟨x0, x1, x2, x3⟩ := HSx.out _ B9.out
        refine start_ (n := 13) (S := fun w' => w'.cell? (ax.add (I.toNat * 4)) = some (.int .i64 x.f0) ∧ cA w' (ax.add (I.toNat * 4)) 1 (.int .i64 x.f1) ∧ cA w' (ax.add (I.toNat * 4)) 2 (.int .i64 x.f2) ∧ cA w' (ax.add (I.toNat * 4)) 3 (.int .u32 x.f3)) (ds := []) #[false, false, false, false, false, false, false, false, false, false, false, false, false] (by kernel_rfl) rfl rfl ⟨x0, x1, x2, x3⟩ (fun hHeld => ?_); refine with_tabW garnerref04_Order.tab9 garnerref04_Order.bits9 (fun HT_ HW_ => ?_)
        generalize w9.drew = w5 at R9 B9 L9 x0 x1 x2 x3 hHeld ⊢
        refine pui 0 37 13 1 HT_ ?_
        refine pui 1 38 13 3 HT_ ?_
        refine pui 2 39 13 7 HT_ ?_
        refine pui 3 40 13 15 HT_ ?_
        refine pui 4 41 13 31 HT_ ?_
        refine pui 5 42 13 63 HT_ ?_
        refine pui 6 43 13 127 HT_ ?_
        refine pui 10 47 13 1151 HT_ ?_
        refine tki 7 44 13 1279 HT_ HW_ hHeld ?_
        refine onei 8 45 13 1535 HT_ (fun K hK => ?_)
        refine value_ (w1 := ?_) (v := ?_) (by rfl) rfl ?_ ?_
        rotate_left 2
        · go_simp
          constructor
          · rfl
          · rfl
        refine hK.out _ _ (HSx.out _ (B9.out.alloc B9.out.size _)) (fun hHeld => ?_)
        clear hK K
        refine norm_ (a' := ?_) ?_ ?_
        rotate_left
        · show Act.put _ (some 45) _ = _
          simp only [Act.put, List.setIfInBounds_toArray, List.set_cons_zero, List.set_cons_succ, i64_w, i32_w]
          rfl
        refine onei 9 46 13 2047 HT_ (fun K hK => ?_)
        refine garnerref04_Order.app_cut_step k25 (w0 := w) (W := w5) w.heap.size (by rfl) (.tmp 40) (.tmp 45) 22 25 (.agg #[.int .i64 0, .int .i64 0, .int .i64 0, .int .u32 0]) 32 rfl Try.underlying22 info25 rfl (by decide) (by omega) Av acc.length cv p acc x [.int .i64 x.f0, .int .i64 x.f1, .int .i64 x.f2, .int .u32 x.f3] (fun k => k < wc.heap.size) (fun _ => True) HP1.out rfl rfl (k25_mkM _ _ _ x) (fun _ _ _ _ _ _ h => by rw [k25_openM h]; exact k25_mkM _ _ _ _) R9.out B9.out B9.out.size ?aL ?_
        (case aL => have := HLEN.out; omega)
        intro v10 w10 ho hb hg
        have R10 := Am ho
        have L10 := Am (Kd.R_grown (row := none) L9.out hg (fun _ _ => by simp))
        have B10 := Am hb
        clear ho hb hg R9 L9 B9
        refine hK.out _ _ (HSx.out _ B10.out) (fun hHeld => ?_)
        clear hK K
        refine norm_ (a' := ?_) ?_ ?_
        rotate_left
        · show Act.put _ (some 46) _ = _
          simp only [Act.put, List.setIfInBounds_toArray, List.set_cons_zero, List.set_cons_succ, i64_w, i32_w]
          rfl
        refine onei 11 48 13 4095 HT_ (fun K hK => ?_)
        refine Kd.R_append_rows_step k25 (w0 := w) w.heap.size (by rfl) (.tmp 46) (.tmp 47) 22 25 (.agg #[.int .i64 0, .int .i64 0, .int .i64 0, .int .u32 0]) 32 rfl Try.underlying22 info25 rfl (by decide) (by omega) v10 (acc.take p ++ [x]) tl A9' tl.length c9' (fun _ => True) (fun _ => False) rfl rfl (Kd.R_mono R10.out (fun _ _ => trivial)) (Kd.R_reads' L10.out).2.2 ?aK (fun _ h => h.elim) (fun _ _ => trivial) B10.out B10.out.size ?aL ?_
        (case aK => intro y cs hk; rw [k25_open hk]; exact k25_mkM _ _ _ y)
        (case aL => have := HLEN.out; have := HRL.out; have := HP1.out; simp only [List.length_append, List.length_take, List.length_cons, List.length_nil]; omega)
        intro v11 w11 ho hb hg hat
        have R11 := Am ho
        have B11 := Am hb
        clear ho hb hg hat R10 L10 B10
        refine hK.out _ _ (HSx.out _ B11.out) (fun hHeld => ?_)
        clear hK K
        refine norm_ (a' := ?_) ?_ ?_
        rotate_left
        · show Act.put _ (some 48) _ = _
          simp only [Act.put, List.setIfInBounds_toArray, List.set_cons_zero, List.set_cons_succ, i64_w, i32_w]
          rfl
        refine pui 12 3 13 8191 HT_ ?_
        refine done_ (done_of HT_.out (by kernel_rfl)) ?_
        try go_wp2_with fail
        go_roundg k2
        case measure => have := HI.out; omega
        case rel =>
          refine ⟨i + 1, garnerref04_Order.ins acc x, by rw [HI1.out], ⟨by have := HI.out; omega⟩, ⟨?_⟩, ⟨?_⟩, ⟨?_⟩, B11⟩
          · have h_ := HF.out
            rw [List.drop_eq_getElem_cons HIL.out, List.foldl_cons] at h_
            rw [HX.out]
            have hx : rd_T25 l0 I = l0[i]'HIL.out := by
              rw [HIE.out]
              simp [rd_T25, List.getD_eq_getElem?_getD, HIL.out]
            rw [hx]
            exact h_
          · have h1 := garnerref04_Order.pos_le x acc acc.length
            simp only [garnerref04_Order.ins, List.length_append, List.length_take, List.length_cons, List.length_drop]
            have := HA.out
            omega
          · have h_ := R11.out
            rw [HTL.out, HP2.out, List.append_assoc] at h_
            exact h_
end
section
attribute [local go_sem] max2_int min2_int max_two min_two max_three min_three max_four min_four
attribute [local go_sem] wrap64_l1 wrap64_l2 wrap64_l3 wrap64_l4 wrap64_l5
def garnerlaw04_PointOrders.f (k : Nat) (l0 : List (S25)) (a1_0 : Int) (a1_1 : Int) (a1_2 : Int) (a1_3 : Int) (a2_0 : Int) (a2_1 : Int) (a2_2 : Int) (a2_3 : Int) : Option (Bool) := if (l0.length : Int) > 60 then ((garnerlaw04_awake.f k).bind fun t190 => (some t190)) else ((point_Less.f a1_0 a1_1 a1_2 a1_3 a2_0 a2_1 a2_2 a2_3).bind fun t191 => ((garnerref04_Less.f a1_0 a1_1 a1_2 a1_3 a2_0 a2_1 a2_2 a2_3).bind fun t192 => (if (t191 == t192) = true then ((point_Order.f k l0).bind fun t193 => ((garnerref04_Order.f l0).bind fun t196 => ((garnerref04_Same.f k t193 t196).bind fun t199 => (if t199 = true then ((garnerlaw04_awake.f k).bind fun t200 => (some t200)) else (some false))))) else (some false))))
theorem garnerlaw04_PointOrders.mono : ∀ a0 a1 a2 a3 a4 a5 a6 a7 a8 k, LeO (garnerlaw04_PointOrders.f k a0 a1 a2 a3 a4 a5 a6 a7 a8) (garnerlaw04_PointOrders.f (k + 1) a0 a1 a2 a3 a4 a5 a6 a7 a8) := by
 intro a0 a1 a2 a3 a4 a5 a6 a7 a8 k
 unfold garnerlaw04_PointOrders.f
 repeat' first
   | (with_reducible exact garnerlaw04_awake.mono _)
   | (with_reducible exact garnerref04_Same.mono _ _ _)
   | (with_reducible exact point_Order.mono _ _)
   | (with_reducible exact LeO.refl _)
   | (with_reducible exact LeO.none _)
   | (with_reducible refine LeO.ite ?_ ?_)
   | (with_reducible refine LeO.bind ?_ (fun _ => ?_))
   | exact garnerlaw04_awake.mono _
   | exact garnerref04_Same.mono _ _ _
   | exact point_Order.mono _ _
   | exact LeO.none _
   | refine LeO.ite ?_ ?_
   | refine LeO.bind ?_ (fun _ => ?_)
def garnerlaw04_PointOrders.T3 : Bool × List (List Nat × List Nat) := (true, [([], []), ([], []), ([0, 1], [0, 1]), ([], []), ([], []), ([3, 4, 2], [3, 4]), ([2, 5], [2, 5]), ([6, 5], [6]), ([7], [7]), ([8, 7, 7], [7, 8]), ([7], [7]), ([10, 9, 7], [7, 10]), ([9, 11, 11, 7], [7, 9, 11]), ([7, 12], [7, 12]), ([13, 12], [13]), ([14, 14], [14]), ([14, 15], [14, 15]), ([16, 15, 0, 1, 2, 3, 4, 5, 6, 7, 8, 9, 10, 11, 12, 13, 14, 15, 16], [16])])
def garnerlaw04_PointOrders.B3 : List Nat := [0, 0, 3, 0, 0, 31, 63, 127, 255, 511, 255, 2047, 4095, 8191, 16383, 32767, 65535, 131071]
theorem garnerlaw04_PointOrders.tab3 : rtab .any (opsOf Try.f3 3) = garnerlaw04_PointOrders.T3 := by kernel_rfl
theorem garnerlaw04_PointOrders.bits3 : waitsOk garnerlaw04_PointOrders.T3.2 garnerlaw04_PointOrders.B3 = true := by kernel_rfl
set_option maxHeartbeats 8000000 in
set_option maxRecDepth 100000 in
theorem garnerlaw04_PointOrders.calls (k : Nat) (A0 : Option Addr) (c0 : Nat) (l0 : List (S25)) (a1_0 : Int) (a1_1 : Int) (a1_2 : Int) (a1_3 : Int) (a2_0 : Int) (a2_1 : Int) (a2_2 : Int) (a2_3 : Int) (r : Bool) (w : World) (hr0 : Kd.C k25 w A0 l0.length l0) (hc0 : l0.length ≤ c0) (h : garnerlaw04_PointOrders.f k l0 a1_0 a1_1 a1_2 a1_3 a2_0 a2_1 a2_2 a2_3 = some r) :
  Calls Try.prog 3 #[.slice A0 l0.length c0, .agg #[.int .i64 a1_0, .int .i64 a1_1, .int .i64 a1_2, .int .u32 a1_3], .agg #[.int .i64 a2_0, .int .i64 a2_1, .int .i64 a2_2, .int .u32 a2_3]] w fun e w' => e = .returned (.bool r) ∧ Below w.heap.size w w' := by
 have hu25 := Try.underlying25
 have HR0 := Am hr0
 have HC0 := Am hc0
 clear hr0 hc0
 have HB := Am (Below.refl w.heap.size w)
 have H : (if (l0.length : Int) > 60 then ((garnerlaw04_awake.f k).bind fun t190 => (some t190)) else ((point_Less.f a1_0 a1_1 a1_2 a1_3 a2_0 a2_1 a2_2 a2_3).bind fun t191 => ((garnerref04_Less.f a1_0 a1_1 a1_2 a1_3 a2_0 a2_1 a2_2 a2_3).bind fun t192 => (if (t191 == t192) = true then ((point_Order.f k l0).bind fun t193 => ((garnerref04_Order.f l0).bind fun t196 => ((garnerref04_Same.f k t193 t196).bind fun t199 => (if t199 = true then ((garnerlaw04_awake.f k).bind fun t200 => (some t200)) else (some false))))) else (some false))))) = some r := h
 clear h
 by_cases c4 : (l0.length : Int) > 60
 ·rw [if_pos c4] at H
  have c4b0 : decide (60 < (l0.length : Int)) = true := decide_eq_true c4
  have c4b1 : decide (60 < l0.length) = true := decide_eq_true (by omega)
  clear c4
  replace H := Option.bind_eq_some_iff.mp H
  obtain ⟨t190, A50, H⟩ := H
  replace H : (some t190) = some r := H
  have A5 := Am A50
  clear A50
  obtain rfl := Option.some.inj H
  go_enter Try.func3, Try.ntmps3
  go_wp2_with (first | ((with_reducible refine gate_dst (N := 4) rfl ?_); refine box_event ?hg (N := 4) ?hd (cs := #[.int .i64 a1_0, .int .i64 a1_1, .int .i64 a1_2, .int .u32 a1_3]) (t := 25) ?hr ?_; (case hd => rfl); (case hg => rfl); (case hr => first | (go_simp; done) | (go_simp; rfl)); intro Ac hg w6 hbox hb; have Aa := Am (hbox); have An := Am ((by rw [hg]; exact (below_size (pB HB.out)) : w.heap.size ≤ Ac)); replace HB := Am (below_step (pB HB.out) hb); have Ad := An; clear hb hbox hg) | ((with_reducible refine gate_dst (N := 5) rfl ?_); refine box_event ?hg (N := 5) ?hd (cs := #[.int .i64 a2_0, .int .i64 a2_1, .int .i64 a2_2, .int .u32 a2_3]) (t := 25) ?hr ?_; (case hd => rfl); (case hg => rfl); (case hr => first | (go_simp; done) | (go_simp; rfl)); intro Ae hg w7 hbox hb; have Ab := Am (hbox); have Ao := Am ((by rw [hg]; exact (below_size (pE HB.out Ad.out)) : w.heap.size ≤ Ae)); replace HB := Am (below_step (pE HB.out Ad.out) hb); have Af := Ao; have Ak := Am ((by rw [hg]; exact Nat.ne_of_lt (kL Aa.out) : Ac ≠ Ae)); have Al := Am ((by rw [hg]; exact Nat.ne_of_gt (kL Aa.out) : Ae ≠ Ac)); replace Aa := kBa Aa hb; clear hb hbox hg) | ((with_reducible refine gate_callee (f := 4) rfl ?_); refine goesL_ (some 10) rfl rfl Try.func4 (by kernel_rfl) rfl #[] rfl pL ?_; (with_reducible refine (garnerlaw04_awake.calls k  t190 _ A5.out).mono ?_); rintro e w8 ⟨rfl, hb⟩; refine ⟨_, rfl, ?_⟩; replace Aa := kBa Aa hb; replace Ab := kBa Ab hb; replace HB := Am (below_step (pE2 HB.out Ad.out Af.out) hb); (try clear hb); (try clear hb2); (try clear hk); (try clear hi)))
  go_ret
  exact ⟨pX, pE2 HB.out Ad.out Af.out⟩
 rw [if_neg c4] at H
 have c4b0 : decide (60 < (l0.length : Int)) = false := decide_eq_false c4
 have c4b1 : decide (60 < l0.length) = false := decide_eq_false (by omega)
 clear c4
 replace H := Option.bind_eq_some_iff.mp H
 obtain ⟨t191, A90, H⟩ := H
 replace H : ((garnerref04_Less.f a1_0 a1_1 a1_2 a1_3 a2_0 a2_1 a2_2 a2_3).bind fun t192 => (if (t191 == t192) = true then ((point_Order.f k l0).bind fun t193 => ((garnerref04_Order.f l0).bind fun t196 => ((garnerref04_Same.f k t193 t196).bind fun t199 => (if t199 = true then ((garnerlaw04_awake.f k).bind fun t200 => (some t200)) else (some false))))) else (some false))) = some r := H
 have A9 := Am A90
 clear A90
 replace H := Option.bind_eq_some_iff.mp H
 obtain ⟨t192, A100, H⟩ := H
 replace H : (if (t191 == t192) = true then ((point_Order.f k l0).bind fun t193 => ((garnerref04_Order.f l0).bind fun t196 => ((garnerref04_Same.f k t193 t196).bind fun t199 => (if t199 = true then ((garnerlaw04_awake.f k).bind fun t200 => (some t200)) else (some false))))) else (some false)) = some r := H
 have A10 := Am A100
 clear A100
 by_cases c11 : (t191 == t192) = true
 rotate_left
 ·rw [if_neg c11] at H
  have c11b0 : (t191 == t192) = false := by simpa using c11
  (try (have c11b1 : decide (t191 = t192) = false := by simpa using c11))
  (try (have c11b2 : (t191 == t192) = false := by simpa using c11))
  (try (have c11b3 : ¬ (t191 = t192) := by simpa using c11))
  clear c11
  obtain rfl := Option.some.inj H
  go_enter Try.func3, Try.ntmps3
  try go_wp2_with (first | ((with_reducible refine gate_dst (N := 4) rfl ?_); refine box_event ?hg (N := 4) ?hd (cs := #[.int .i64 a1_0, .int .i64 a1_1, .int .i64 a1_2, .int .u32 a1_3]) (t := 25) ?hr ?_; (case hd => rfl); (case hg => rfl); (case hr => first | (go_simp; done) | (go_simp; rfl)); intro Ac hg w36 hbox hb; have Aa := Am (hbox); have An := Am ((by rw [hg]; exact (below_size (pB HB.out)) : w.heap.size ≤ Ac)); replace HB := Am (below_step (pB HB.out) hb); have Ad := An; clear hb hbox hg) | ((with_reducible refine gate_dst (N := 5) rfl ?_); refine box_event ?hg (N := 5) ?hd (cs := #[.int .i64 a2_0, .int .i64 a2_1, .int .i64 a2_2, .int .u32 a2_3]) (t := 25) ?hr ?_; (case hd => rfl); (case hg => rfl); (case hr => first | (go_simp; done) | (go_simp; rfl)); intro Ae hg w37 hbox hb; have Ab := Am (hbox); have Ao := Am ((by rw [hg]; exact (below_size (pE HB.out Ad.out)) : w.heap.size ≤ Ae)); replace HB := Am (below_step (pE HB.out Ad.out) hb); have Af := Ao; have Ak := Am ((by rw [hg]; exact Nat.ne_of_lt (kL Aa.out) : Ac ≠ Ae)); have Al := Am ((by rw [hg]; exact Nat.ne_of_gt (kL Aa.out) : Ae ≠ Ac)); replace Aa := kBa Aa hb; clear hb hbox hg))
  replace Aa := kDa Aa
  replace Ab := kDa Ab
  replace HB := bDa HB
  refine start_ (n := 18) (S := fun w' => cG w' Ac 0 (.int .i64 a1_0) ∧ cG w' Ac 1 (.int .i64 a1_1) ∧ cG w' Ac 2 (.int .i64 a1_2) ∧ cG w' Ac 3 (.int .u32 a1_3) ∧ cG w' Ae 0 (.int .i64 a2_0) ∧ cG w' Ae 1 (.int .i64 a2_1) ∧ cG w' Ae 2 (.int .i64 a2_2) ∧ cG w' Ae 3 (.int .u32 a2_3)) (ds := []) #[false, false, false, false, false, false, false, false, false, false, false, false, false, false, false, false, false, false] (by kernel_rfl) rfl rfl ⟨(blk_cell Aa.out 0).trans rfl, (blk_cell Aa.out 1).trans rfl, (blk_cell Aa.out 2).trans rfl, (blk_cell Aa.out 3).trans rfl, (blk_cell Ab.out 0).trans rfl, (blk_cell Ab.out 1).trans rfl, (blk_cell Ab.out 2).trans rfl, (blk_cell Ab.out 3).trans rfl⟩ (fun hHeld => ?_); refine with_tabW garnerlaw04_PointOrders.tab3 garnerlaw04_PointOrders.bits3 (fun HT_ HW_ => ?_)
  generalize w37.drew = w38 at Aa Ab HB hHeld ⊢
  refine tki 0 11 18 1 HT_ HW_ hHeld ?_
  refine tki 1 12 18 3 HT_ HW_ hHeld ?_
  refine tki 3 14 18 11 HT_ HW_ hHeld ?_
  refine tki 4 15 18 27 HT_ HW_ hHeld ?_
  refine onei 2 13 18 31 HT_ (fun K hK => ?_)
  refine goes_ Try.func5 (by kernel_rfl) rfl #[.agg #[.int .i64 a1_0, .int .i64 a1_1, .int .i64 a1_2, .int .u32 a1_3], .agg #[.int .i64 a2_0, .int .i64 a2_1, .int .i64 a2_2, .int .u32 a2_3]] (by rfl) rfl rfl pL ?_
  with_reducible refine (point_Less.calls a1_0 a1_1 a1_2 a1_3 a2_0 a2_1 a2_2 a2_3 t191 _ A9.out).mono ?_
  rintro e w39 ⟨rfl, hb⟩
  refine ⟨_, rfl, ?_⟩
  replace Aa := kBa Aa hb
  replace Ab := kBa Ab hb
  replace HB := Am (below_step (pE2 HB.out Ad.out Af.out) hb)
  (try clear hb)
  (try clear hb2)
  (try clear hk)
  (try clear hi)
  refine hK.out _ _ ⟨(blk_cell Aa.out 0).trans rfl, (blk_cell Aa.out 1).trans rfl, (blk_cell Aa.out 2).trans rfl, (blk_cell Aa.out 3).trans rfl, (blk_cell Ab.out 0).trans rfl, (blk_cell Ab.out 1).trans rfl, (blk_cell Ab.out 2).trans rfl, (blk_cell Ab.out 3).trans rfl⟩ (fun hHeld => ?_)
  clear hK K
  refine norm_ (a' := ?_) ?_ ?_
  rotate_left
  ·show Act.put _ (some 13) _ = _
   simp only [Act.put, List.setIfInBounds_toArray, List.set_cons_zero, List.set_cons_succ, i64_w, i32_w]
   rfl
  refine onei 5 16 18 63 HT_ (fun K hK => ?_)
  refine goes_ Try.func6 (by kernel_rfl) rfl #[.agg #[.int .i64 a1_0, .int .i64 a1_1, .int .i64 a1_2, .int .u32 a1_3], .agg #[.int .i64 a2_0, .int .i64 a2_1, .int .i64 a2_2, .int .u32 a2_3]] (by rfl) rfl rfl pL ?_
  with_reducible refine (garnerref04_Less.calls a1_0 a1_1 a1_2 a1_3 a2_0 a2_1 a2_2 a2_3 t192 _ A10.out).mono ?_
  rintro e w40 ⟨rfl, hb⟩
  refine ⟨_, rfl, ?_⟩
  replace Aa := kBa Aa hb
  replace Ab := kBa Ab hb
  replace HB := Am (below_step (pE2 HB.out Ad.out Af.out) hb)
  (try clear hb)
  (try clear hb2)
  (try clear hk)
  (try clear hi)
  refine hK.out _ _ ⟨(blk_cell Aa.out 0).trans rfl, (blk_cell Aa.out 1).trans rfl, (blk_cell Aa.out 2).trans rfl, (blk_cell Aa.out 3).trans rfl, (blk_cell Ab.out 0).trans rfl, (blk_cell Ab.out 1).trans rfl, (blk_cell Ab.out 2).trans rfl, (blk_cell Ab.out 3).trans rfl⟩ (fun hHeld => ?_)
  clear hK K
  refine norm_ (a' := ?_) ?_ ?_
  rotate_left
  ·show Act.put _ (some 16) _ = _
   simp only [Act.put, List.setIfInBounds_toArray, List.set_cons_zero, List.set_cons_succ, i64_w, i32_w]
   rfl
  refine pui 6 17 18 127 HT_ ?_
  refine pui 7 18 18 255 HT_ ?_
  refine pdi 8 19 18 511 HT_ ?_
  refine pdi 9 20 18 1023 HT_ ?_
  refine pdi 10 21 18 2047 HT_ ?_
  refine pdi 11 22 18 4095 HT_ ?_
  refine pdi 12 23 18 8191 HT_ ?_
  refine pui 13 24 18 16383 HT_ ?_
  refine pui 14 25 18 32767 HT_ ?_
  refine pdi 15 26 18 65535 HT_ ?_
  refine pui 16 27 18 131071 HT_ ?_
  refine pui 17 6 18 262143 HT_ ?_
  refine done_ (done_of HT_.out (by kernel_rfl)) ?_
  try go_wp2
  go_ret
  exact ⟨pX, pE2 HB.out Ad.out Af.out⟩
 rw [if_pos c11] at H
 have c11b0 : (t191 == t192) = true := c11
 (try (have c11b1 : decide (t191 = t192) = true := by simpa using c11))
 (try (have c11b2 : (t191 == t192) = true := by simpa using c11))
 clear c11
 replace H := Option.bind_eq_some_iff.mp H
 obtain ⟨t193, A120, H⟩ := H
 replace H : ((garnerref04_Order.f l0).bind fun t196 => ((garnerref04_Same.f k t193 t196).bind fun t199 => (if t199 = true then ((garnerlaw04_awake.f k).bind fun t200 => (some t200)) else (some false)))) = some r := H
 have A12 := Am A120
 clear A120
 replace H := Option.bind_eq_some_iff.mp H
 obtain ⟨t196, A130, H⟩ := H
 replace H : ((garnerref04_Same.f k t193 t196).bind fun t199 => (if t199 = true then ((garnerlaw04_awake.f k).bind fun t200 => (some t200)) else (some false))) = some r := H
 have A13 := Am A130
 clear A130
 replace H := Option.bind_eq_some_iff.mp H
 obtain ⟨t199, A140, H⟩ := H
 replace H : (if t199 = true then ((garnerlaw04_awake.f k).bind fun t200 => (some t200)) else (some false)) = some r := H
 have A14 := Am A140
 clear A140
 by_cases c15 : t199 = true
 rotate_left
 ·replace c15 := Bool.eq_false_iff.mpr c15
  subst c15
  have H1 : (some false) = some r := by rw [if_neg (show ¬ (false = true) by decide)] at H; exact H
  clear H
  have H := H1
  clear H1
  obtain rfl := Option.some.inj H
  go_enter Try.func3, Try.ntmps3
  try go_wp2_with (first | ((with_reducible refine gate_dst (N := 4) rfl ?_); refine box_event ?hg (N := 4) ?hd (cs := #[.int .i64 a1_0, .int .i64 a1_1, .int .i64 a1_2, .int .u32 a1_3]) (t := 25) ?hr ?_; (case hd => rfl); (case hg => rfl); (case hr => first | (go_simp; done) | (go_simp; rfl)); intro Ac hg w27 hbox hb; have Aa := Am (hbox); have An := Am ((by rw [hg]; exact (below_size (pB HB.out)) : w.heap.size ≤ Ac)); replace HB := Am (below_step (pB HB.out) hb); have Ad := An; clear hb hbox hg) | ((with_reducible refine gate_dst (N := 5) rfl ?_); refine box_event ?hg (N := 5) ?hd (cs := #[.int .i64 a2_0, .int .i64 a2_1, .int .i64 a2_2, .int .u32 a2_3]) (t := 25) ?hr ?_; (case hd => rfl); (case hg => rfl); (case hr => first | (go_simp; done) | (go_simp; rfl)); intro Ae hg w28 hbox hb; have Ab := Am (hbox); have Ao := Am ((by rw [hg]; exact (below_size (pE HB.out Ad.out)) : w.heap.size ≤ Ae)); replace HB := Am (below_step (pE HB.out Ad.out) hb); have Af := Ao; have Ak := Am ((by rw [hg]; exact Nat.ne_of_lt (kL Aa.out) : Ac ≠ Ae)); have Al := Am ((by rw [hg]; exact Nat.ne_of_gt (kL Aa.out) : Ae ≠ Ac)); replace Aa := kBa Aa hb; clear hb hbox hg))
  replace Aa := kDa Aa
  replace Ab := kDa Ab
  replace HB := bDa HB
  refine start_ (n := 18) (S := fun w' => cG w' Ac 0 (.int .i64 a1_0) ∧ cG w' Ac 1 (.int .i64 a1_1) ∧ cG w' Ac 2 (.int .i64 a1_2) ∧ cG w' Ac 3 (.int .u32 a1_3) ∧ cG w' Ae 0 (.int .i64 a2_0) ∧ cG w' Ae 1 (.int .i64 a2_1) ∧ cG w' Ae 2 (.int .i64 a2_2) ∧ cG w' Ae 3 (.int .u32 a2_3)) (ds := []) #[false, false, false, false, false, false, false, false, false, false, false, false, false, false, false, false, false, false] (by kernel_rfl) rfl rfl ⟨(blk_cell Aa.out 0).trans rfl, (blk_cell Aa.out 1).trans rfl, (blk_cell Aa.out 2).trans rfl, (blk_cell Aa.out 3).trans rfl, (blk_cell Ab.out 0).trans rfl, (blk_cell Ab.out 1).trans rfl, (blk_cell Ab.out 2).trans rfl, (blk_cell Ab.out 3).trans rfl⟩ (fun hHeld => ?_); refine with_tabW garnerlaw04_PointOrders.tab3 garnerlaw04_PointOrders.bits3 (fun HT_ HW_ => ?_)
  generalize w28.drew = w29 at Aa Ab HB hHeld ⊢
  refine tki 0 11 18 1 HT_ HW_ hHeld ?_
  refine tki 1 12 18 3 HT_ HW_ hHeld ?_
  refine tki 3 14 18 11 HT_ HW_ hHeld ?_
  refine tki 4 15 18 27 HT_ HW_ hHeld ?_
  refine onei 2 13 18 31 HT_ (fun K hK => ?_)
  refine goes_ Try.func5 (by kernel_rfl) rfl #[.agg #[.int .i64 a1_0, .int .i64 a1_1, .int .i64 a1_2, .int .u32 a1_3], .agg #[.int .i64 a2_0, .int .i64 a2_1, .int .i64 a2_2, .int .u32 a2_3]] (by rfl) rfl rfl pL ?_
  with_reducible refine (point_Less.calls a1_0 a1_1 a1_2 a1_3 a2_0 a2_1 a2_2 a2_3 t191 _ A9.out).mono ?_
  rintro e w30 ⟨rfl, hb⟩
  refine ⟨_, rfl, ?_⟩
  replace Aa := kBa Aa hb
  replace Ab := kBa Ab hb
  replace HB := Am (below_step (pE2 HB.out Ad.out Af.out) hb)
  (try clear hb)
  (try clear hb2)
  (try clear hk)
  (try clear hi)
  refine hK.out _ _ ⟨(blk_cell Aa.out 0).trans rfl, (blk_cell Aa.out 1).trans rfl, (blk_cell Aa.out 2).trans rfl, (blk_cell Aa.out 3).trans rfl, (blk_cell Ab.out 0).trans rfl, (blk_cell Ab.out 1).trans rfl, (blk_cell Ab.out 2).trans rfl, (blk_cell Ab.out 3).trans rfl⟩ (fun hHeld => ?_)
  clear hK K
  refine norm_ (a' := ?_) ?_ ?_
  rotate_left
  ·show Act.put _ (some 13) _ = _
   simp only [Act.put, List.setIfInBounds_toArray, List.set_cons_zero, List.set_cons_succ, i64_w, i32_w]
   rfl
  refine onei 5 16 18 63 HT_ (fun K hK => ?_)
  refine goes_ Try.func6 (by kernel_rfl) rfl #[.agg #[.int .i64 a1_0, .int .i64 a1_1, .int .i64 a1_2, .int .u32 a1_3], .agg #[.int .i64 a2_0, .int .i64 a2_1, .int .i64 a2_2, .int .u32 a2_3]] (by rfl) rfl rfl pL ?_
  with_reducible refine (garnerref04_Less.calls a1_0 a1_1 a1_2 a1_3 a2_0 a2_1 a2_2 a2_3 t192 _ A10.out).mono ?_
  rintro e w31 ⟨rfl, hb⟩
  refine ⟨_, rfl, ?_⟩
  replace Aa := kBa Aa hb
  replace Ab := kBa Ab hb
  replace HB := Am (below_step (pE2 HB.out Ad.out Af.out) hb)
  (try clear hb)
  (try clear hb2)
  (try clear hk)
  (try clear hi)
  refine hK.out _ _ ⟨(blk_cell Aa.out 0).trans rfl, (blk_cell Aa.out 1).trans rfl, (blk_cell Aa.out 2).trans rfl, (blk_cell Aa.out 3).trans rfl, (blk_cell Ab.out 0).trans rfl, (blk_cell Ab.out 1).trans rfl, (blk_cell Ab.out 2).trans rfl, (blk_cell Ab.out 3).trans rfl⟩ (fun hHeld => ?_)
  clear hK K
  refine norm_ (a' := ?_) ?_ ?_
  rotate_left
  ·show Act.put _ (some 16) _ = _
   simp only [Act.put, List.setIfInBounds_toArray, List.set_cons_zero, List.set_cons_succ, i64_w, i32_w]
   rfl
  refine pui 6 17 18 127 HT_ ?_
  refine pui 7 18 18 255 HT_ ?_
  refine pui 8 19 18 511 HT_ ?_
  refine pui 10 21 18 1535 HT_ ?_
  refine onei 9 20 18 2047 HT_ (fun K hK => ?_)
  refine goes_ Try.func8 (by kernel_rfl) rfl #[.slice A0 l0.length c0] (by rfl) rfl rfl pL ?_
  with_reducible refine (point_Order.calls k _ _ l0 t193 _ ?Ah ?Ai A12.out).mono ?_
  (case Ah => exact pC (Kd.C_below HR0.out HB.out))
  (case Ai => exact HC0.out)
  rintro e w32 ⟨v194, rfl, ho0, hb⟩
  refine ⟨_, rfl, ?_⟩
  have Ag := Am (Kd.R_lower (Kd.R_newB (Kd.R_newB ho0 (g := Ac) (o := .cells #[.int .i64 a1_0, .int .i64 a1_1, .int .i64 a1_2, .int .u32 a1_3] 25 (0, 0)) (pK Aa.out)) (g := Ae) (o := .cells #[.int .i64 a2_0, .int .i64 a2_1, .int .i64 a2_2, .int .u32 a2_3] 25 (0, 0)) (pK Ab.out)) (below_size (pE2 HB.out Ad.out Af.out)))
  replace Aa := kBa Aa hb
  replace Ab := kBa Ab hb
  replace HB := Am (below_step (pE2 HB.out Ad.out Af.out) hb)
  (try clear hb)
  (try clear hb2)
  (try clear hk)
  (try clear hi)
  (try clear ho0)
  refine hK.out _ _ ⟨(blk_cell Aa.out 0).trans rfl, (blk_cell Aa.out 1).trans rfl, (blk_cell Aa.out 2).trans rfl, (blk_cell Aa.out 3).trans rfl, (blk_cell Ab.out 0).trans rfl, (blk_cell Ab.out 1).trans rfl, (blk_cell Ab.out 2).trans rfl, (blk_cell Ab.out 3).trans rfl⟩ (fun hHeld => ?_)
  clear hK K
  refine norm_ (a' := ?_) ?_ ?_
  rotate_left
  ·show Act.put _ (some 20) _ = _
   simp only [Act.put, List.setIfInBounds_toArray, List.set_cons_zero, List.set_cons_succ, i64_w, i32_w]
   rfl
  refine onei 11 22 18 4095 HT_ (fun K hK => ?_)
  refine goes_ Try.func9 (by kernel_rfl) rfl #[.slice A0 l0.length c0] (by rfl) rfl rfl pL ?_
  with_reducible refine (garnerref04_Order.calls _ _ l0 t196 _ ?Ah ?Ai A13.out).mono ?_
  (case Ah => exact pC (Kd.C_below HR0.out HB.out))
  (case Ai => exact HC0.out)
  rintro e w33 ⟨v197, rfl, ho0, hb⟩
  refine ⟨_, rfl, ?_⟩
  have Aj := Am (Kd.R_lower (Kd.R_newB (Kd.R_newB (Kd.R_new' ho0 (Kd.R_lt (pR Ag.out))) (g := Ac) (o := .cells #[.int .i64 a1_0, .int .i64 a1_1, .int .i64 a1_2, .int .u32 a1_3] 25 (0, 0)) (pK Aa.out)) (g := Ae) (o := .cells #[.int .i64 a2_0, .int .i64 a2_1, .int .i64 a2_2, .int .u32 a2_3] 25 (0, 0)) (pK Ab.out)) (below_size (pE2 HB.out Ad.out Af.out)))
  replace Ag := Am (Kd.R_elder' (pR Ag.out) (Kd.R_base ho0) hb)
  replace Aa := kBa Aa hb
  replace Ab := kBa Ab hb
  replace HB := Am (below_step (pE2 HB.out Ad.out Af.out) hb)
  (try clear hb)
  (try clear hb2)
  (try clear hk)
  (try clear hi)
  (try clear ho0)
  obtain ⟨Az, A1, At⟩ := Kd.R_slice Ag.out
  (first | subst At | (injection At with f1_ f2_ f3_; have f4_ := f1_.symm; have f5_ := f3_.symm; clear f1_ f2_ f3_; subst f4_; subst f5_))
  obtain ⟨A2, A3, Au⟩ := Kd.R_slice Aj.out
  (first | subst Au | (injection Au with f1_ f2_ f3_; have f4_ := f1_.symm; have f5_ := f3_.symm; clear f1_ f2_ f3_; subst f4_; subst f5_))
  refine hK.out _ _ ⟨(blk_cell Aa.out 0).trans rfl, (blk_cell Aa.out 1).trans rfl, (blk_cell Aa.out 2).trans rfl, (blk_cell Aa.out 3).trans rfl, (blk_cell Ab.out 0).trans rfl, (blk_cell Ab.out 1).trans rfl, (blk_cell Ab.out 2).trans rfl, (blk_cell Ab.out 3).trans rfl⟩ (fun hHeld => ?_)
  clear hK K
  refine norm_ (a' := ?_) ?_ ?_
  rotate_left
  ·show Act.put _ (some 22) _ = _
   simp only [Act.put, List.setIfInBounds_toArray, List.set_cons_zero, List.set_cons_succ, i64_w, i32_w]
   rfl
  refine onei 12 23 18 8191 HT_ (fun K hK => ?_)
  refine goes_ Try.func7 (by kernel_rfl) rfl #[.slice Az t193.length A1, .slice A2 t196.length A3] (by rfl) rfl rfl pL ?_
  with_reducible refine (garnerref04_Same.calls k _ _ t193 _ _ t196 false _ ?Ah ?Ai ?Ap ?Aq A14.out).mono ?_
  (case Ah => exact pC (Kd.R_reads' Ag.out).2.2)
  (case Ai => exact (Kd.R_reads' Ag.out).2.1)
  (case Ap => exact pC (Kd.R_reads' Aj.out).2.2)
  (case Aq => exact (Kd.R_reads' Aj.out).2.1)
  rintro e w' ⟨rfl, ⟨nd, rfl⟩⟩
  refine ⟨_, rfl, ?_⟩
  refine hK.out _ _ ⟨(blk_cell Aa.out 0).trans rfl, (blk_cell Aa.out 1).trans rfl, (blk_cell Aa.out 2).trans rfl, (blk_cell Aa.out 3).trans rfl, (blk_cell Ab.out 0).trans rfl, (blk_cell Ab.out 1).trans rfl, (blk_cell Ab.out 2).trans rfl, (blk_cell Ab.out 3).trans rfl⟩ (fun hHeld => ?_)
  clear hK K
  refine norm_ (a' := ?_) ?_ ?_
  rotate_left
  ·show Act.put _ (some 23) _ = _
   simp only [Act.put, List.setIfInBounds_toArray, List.set_cons_zero, List.set_cons_succ, i64_w, i32_w]
   rfl
  refine pui 13 24 18 16383 HT_ ?_
  refine pui 14 25 18 32767 HT_ ?_
  refine pdi 15 26 18 65535 HT_ ?_
  refine pui 16 27 18 131071 HT_ ?_
  refine pui 17 6 18 262143 HT_ ?_
  refine done_ (done_of HT_.out (by kernel_rfl)) ?_
  try go_wp2
  go_ret
  exact ⟨pX, pE2 HB.out Ad.out Af.out⟩
 subst c15
 have H1 : ((garnerlaw04_awake.f k).bind fun t200 => (some t200)) = some r := by rw [if_pos rfl] at H; exact H
 clear H
 have H := H1
 clear H1
 replace H := Option.bind_eq_some_iff.mp H
 obtain ⟨t200, A160, H⟩ := H
 replace H : (some t200) = some r := H
 have A16 := Am A160
 clear A160
 obtain rfl := Option.some.inj H
 go_enter Try.func3, Try.ntmps3
 try go_wp2_with (first | ((with_reducible refine gate_dst (N := 4) rfl ?_); refine box_event ?hg (N := 4) ?hd (cs := #[.int .i64 a1_0, .int .i64 a1_1, .int .i64 a1_2, .int .u32 a1_3]) (t := 25) ?hr ?_; (case hd => rfl); (case hg => rfl); (case hr => first | (go_simp; done) | (go_simp; rfl)); intro Ac hg w17 hbox hb; have Aa := Am (hbox); have An := Am ((by rw [hg]; exact (below_size (pB HB.out)) : w.heap.size ≤ Ac)); replace HB := Am (below_step (pB HB.out) hb); have Ad := An; clear hb hbox hg) | ((with_reducible refine gate_dst (N := 5) rfl ?_); refine box_event ?hg (N := 5) ?hd (cs := #[.int .i64 a2_0, .int .i64 a2_1, .int .i64 a2_2, .int .u32 a2_3]) (t := 25) ?hr ?_; (case hd => rfl); (case hg => rfl); (case hr => first | (go_simp; done) | (go_simp; rfl)); intro Ae hg w18 hbox hb; have Ab := Am (hbox); have Ao := Am ((by rw [hg]; exact (below_size (pE HB.out Ad.out)) : w.heap.size ≤ Ae)); replace HB := Am (below_step (pE HB.out Ad.out) hb); have Af := Ao; have Ak := Am ((by rw [hg]; exact Nat.ne_of_lt (kL Aa.out) : Ac ≠ Ae)); have Al := Am ((by rw [hg]; exact Nat.ne_of_gt (kL Aa.out) : Ae ≠ Ac)); replace Aa := kBa Aa hb; clear hb hbox hg))
 replace Aa := kDa Aa
 replace Ab := kDa Ab
 replace HB := bDa HB
 refine start_ (n := 18) (S := fun w' => cG w' Ac 0 (.int .i64 a1_0) ∧ cG w' Ac 1 (.int .i64 a1_1) ∧ cG w' Ac 2 (.int .i64 a1_2) ∧ cG w' Ac 3 (.int .u32 a1_3) ∧ cG w' Ae 0 (.int .i64 a2_0) ∧ cG w' Ae 1 (.int .i64 a2_1) ∧ cG w' Ae 2 (.int .i64 a2_2) ∧ cG w' Ae 3 (.int .u32 a2_3)) (ds := []) #[false, false, false, false, false, false, false, false, false, false, false, false, false, false, false, false, false, false] (by kernel_rfl) rfl rfl ⟨(blk_cell Aa.out 0).trans rfl, (blk_cell Aa.out 1).trans rfl, (blk_cell Aa.out 2).trans rfl, (blk_cell Aa.out 3).trans rfl, (blk_cell Ab.out 0).trans rfl, (blk_cell Ab.out 1).trans rfl, (blk_cell Ab.out 2).trans rfl, (blk_cell Ab.out 3).trans rfl⟩ (fun hHeld => ?_); refine with_tabW garnerlaw04_PointOrders.tab3 garnerlaw04_PointOrders.bits3 (fun HT_ HW_ => ?_)
 generalize w18.drew = w19 at Aa Ab HB hHeld ⊢
 refine tki 0 11 18 1 HT_ HW_ hHeld ?_
 refine tki 1 12 18 3 HT_ HW_ hHeld ?_
 refine tki 3 14 18 11 HT_ HW_ hHeld ?_
 refine tki 4 15 18 27 HT_ HW_ hHeld ?_
 refine onei 2 13 18 31 HT_ (fun K hK => ?_)
 refine goes_ Try.func5 (by kernel_rfl) rfl #[.agg #[.int .i64 a1_0, .int .i64 a1_1, .int .i64 a1_2, .int .u32 a1_3], .agg #[.int .i64 a2_0, .int .i64 a2_1, .int .i64 a2_2, .int .u32 a2_3]] (by rfl) rfl rfl pL ?_
 with_reducible refine (point_Less.calls a1_0 a1_1 a1_2 a1_3 a2_0 a2_1 a2_2 a2_3 t191 _ A9.out).mono ?_
 rintro e w20 ⟨rfl, hb⟩
 refine ⟨_, rfl, ?_⟩
 replace Aa := kBa Aa hb
 replace Ab := kBa Ab hb
 replace HB := Am (below_step (pE2 HB.out Ad.out Af.out) hb)
 (try clear hb)
 (try clear hb2)
 (try clear hk)
 (try clear hi)
 refine hK.out _ _ ⟨(blk_cell Aa.out 0).trans rfl, (blk_cell Aa.out 1).trans rfl, (blk_cell Aa.out 2).trans rfl, (blk_cell Aa.out 3).trans rfl, (blk_cell Ab.out 0).trans rfl, (blk_cell Ab.out 1).trans rfl, (blk_cell Ab.out 2).trans rfl, (blk_cell Ab.out 3).trans rfl⟩ (fun hHeld => ?_)
 clear hK K
 refine norm_ (a' := ?_) ?_ ?_
 rotate_left
 ·show Act.put _ (some 13) _ = _
  simp only [Act.put, List.setIfInBounds_toArray, List.set_cons_zero, List.set_cons_succ, i64_w, i32_w]
  rfl
 refine onei 5 16 18 63 HT_ (fun K hK => ?_)
 refine goes_ Try.func6 (by kernel_rfl) rfl #[.agg #[.int .i64 a1_0, .int .i64 a1_1, .int .i64 a1_2, .int .u32 a1_3], .agg #[.int .i64 a2_0, .int .i64 a2_1, .int .i64 a2_2, .int .u32 a2_3]] (by rfl) rfl rfl pL ?_
 with_reducible refine (garnerref04_Less.calls a1_0 a1_1 a1_2 a1_3 a2_0 a2_1 a2_2 a2_3 t192 _ A10.out).mono ?_
 rintro e w21 ⟨rfl, hb⟩
 refine ⟨_, rfl, ?_⟩
 replace Aa := kBa Aa hb
 replace Ab := kBa Ab hb
 replace HB := Am (below_step (pE2 HB.out Ad.out Af.out) hb)
 (try clear hb)
 (try clear hb2)
 (try clear hk)
 (try clear hi)
 refine hK.out _ _ ⟨(blk_cell Aa.out 0).trans rfl, (blk_cell Aa.out 1).trans rfl, (blk_cell Aa.out 2).trans rfl, (blk_cell Aa.out 3).trans rfl, (blk_cell Ab.out 0).trans rfl, (blk_cell Ab.out 1).trans rfl, (blk_cell Ab.out 2).trans rfl, (blk_cell Ab.out 3).trans rfl⟩ (fun hHeld => ?_)
 clear hK K
 refine norm_ (a' := ?_) ?_ ?_
 rotate_left
 ·show Act.put _ (some 16) _ = _
  simp only [Act.put, List.setIfInBounds_toArray, List.set_cons_zero, List.set_cons_succ, i64_w, i32_w]
  rfl
 refine pui 6 17 18 127 HT_ ?_
 refine pui 7 18 18 255 HT_ ?_
 refine pui 8 19 18 511 HT_ ?_
 refine pui 10 21 18 1535 HT_ ?_
 refine onei 9 20 18 2047 HT_ (fun K hK => ?_)
 refine goes_ Try.func8 (by kernel_rfl) rfl #[.slice A0 l0.length c0] (by rfl) rfl rfl pL ?_
 with_reducible refine (point_Order.calls k _ _ l0 t193 _ ?Ah ?Ai A12.out).mono ?_
 (case Ah => exact pC (Kd.C_below HR0.out HB.out))
 (case Ai => exact HC0.out)
 rintro e w22 ⟨v194, rfl, ho0, hb⟩
 refine ⟨_, rfl, ?_⟩
 have Ag := Am (Kd.R_lower (Kd.R_newB (Kd.R_newB ho0 (g := Ac) (o := .cells #[.int .i64 a1_0, .int .i64 a1_1, .int .i64 a1_2, .int .u32 a1_3] 25 (0, 0)) (pK Aa.out)) (g := Ae) (o := .cells #[.int .i64 a2_0, .int .i64 a2_1, .int .i64 a2_2, .int .u32 a2_3] 25 (0, 0)) (pK Ab.out)) (below_size (pE2 HB.out Ad.out Af.out)))
 replace Aa := kBa Aa hb
 replace Ab := kBa Ab hb
 replace HB := Am (below_step (pE2 HB.out Ad.out Af.out) hb)
 (try clear hb)
 (try clear hb2)
 (try clear hk)
 (try clear hi)
 (try clear ho0)
 refine hK.out _ _ ⟨(blk_cell Aa.out 0).trans rfl, (blk_cell Aa.out 1).trans rfl, (blk_cell Aa.out 2).trans rfl, (blk_cell Aa.out 3).trans rfl, (blk_cell Ab.out 0).trans rfl, (blk_cell Ab.out 1).trans rfl, (blk_cell Ab.out 2).trans rfl, (blk_cell Ab.out 3).trans rfl⟩ (fun hHeld => ?_)
 clear hK K
 refine norm_ (a' := ?_) ?_ ?_
 rotate_left
 ·show Act.put _ (some 20) _ = _
  simp only [Act.put, List.setIfInBounds_toArray, List.set_cons_zero, List.set_cons_succ, i64_w, i32_w]
  rfl
 refine onei 11 22 18 4095 HT_ (fun K hK => ?_)
 refine goes_ Try.func9 (by kernel_rfl) rfl #[.slice A0 l0.length c0] (by rfl) rfl rfl pL ?_
 with_reducible refine (garnerref04_Order.calls _ _ l0 t196 _ ?Ah ?Ai A13.out).mono ?_
 (case Ah => exact pC (Kd.C_below HR0.out HB.out))
 (case Ai => exact HC0.out)
 rintro e w23 ⟨v197, rfl, ho0, hb⟩
 refine ⟨_, rfl, ?_⟩
 have Aj := Am (Kd.R_lower (Kd.R_newB (Kd.R_newB (Kd.R_new' ho0 (Kd.R_lt (pR Ag.out))) (g := Ac) (o := .cells #[.int .i64 a1_0, .int .i64 a1_1, .int .i64 a1_2, .int .u32 a1_3] 25 (0, 0)) (pK Aa.out)) (g := Ae) (o := .cells #[.int .i64 a2_0, .int .i64 a2_1, .int .i64 a2_2, .int .u32 a2_3] 25 (0, 0)) (pK Ab.out)) (below_size (pE2 HB.out Ad.out Af.out)))
 replace Ag := Am (Kd.R_elder' (pR Ag.out) (Kd.R_base ho0) hb)
 replace Aa := kBa Aa hb
 replace Ab := kBa Ab hb
 replace HB := Am (below_step (pE2 HB.out Ad.out Af.out) hb)
 (try clear hb)
 (try clear hb2)
 (try clear hk)
 (try clear hi)
 (try clear ho0)
 obtain ⟨Av, Aw, Ar⟩ := Kd.R_slice Ag.out
 (first | subst Ar | (injection Ar with f1_ f2_ f3_; have f4_ := f1_.symm; have f5_ := f3_.symm; clear f1_ f2_ f3_; subst f4_; subst f5_))
 obtain ⟨Ax, Ay, As⟩ := Kd.R_slice Aj.out
 (first | subst As | (injection As with f1_ f2_ f3_; have f4_ := f1_.symm; have f5_ := f3_.symm; clear f1_ f2_ f3_; subst f4_; subst f5_))
 refine hK.out _ _ ⟨(blk_cell Aa.out 0).trans rfl, (blk_cell Aa.out 1).trans rfl, (blk_cell Aa.out 2).trans rfl, (blk_cell Aa.out 3).trans rfl, (blk_cell Ab.out 0).trans rfl, (blk_cell Ab.out 1).trans rfl, (blk_cell Ab.out 2).trans rfl, (blk_cell Ab.out 3).trans rfl⟩ (fun hHeld => ?_)
 clear hK K
 refine norm_ (a' := ?_) ?_ ?_
 rotate_left
 ·show Act.put _ (some 22) _ = _
  simp only [Act.put, List.setIfInBounds_toArray, List.set_cons_zero, List.set_cons_succ, i64_w, i32_w]
  rfl
 refine onei 12 23 18 8191 HT_ (fun K hK => ?_)
 refine goes_ Try.func7 (by kernel_rfl) rfl #[.slice Av t193.length Aw, .slice Ax t196.length Ay] (by rfl) rfl rfl pL ?_
 with_reducible refine (garnerref04_Same.calls k _ _ t193 _ _ t196 true _ ?Ah ?Ai ?Ap ?Aq A14.out).mono ?_
 (case Ah => exact pC (Kd.R_reads' Ag.out).2.2)
 (case Ai => exact (Kd.R_reads' Ag.out).2.1)
 (case Ap => exact pC (Kd.R_reads' Aj.out).2.2)
 (case Aq => exact (Kd.R_reads' Aj.out).2.1)
 rintro e w' ⟨rfl, ⟨nd, rfl⟩⟩
 refine ⟨_, rfl, ?_⟩
 refine hK.out _ _ ⟨(blk_cell Aa.out 0).trans rfl, (blk_cell Aa.out 1).trans rfl, (blk_cell Aa.out 2).trans rfl, (blk_cell Aa.out 3).trans rfl, (blk_cell Ab.out 0).trans rfl, (blk_cell Ab.out 1).trans rfl, (blk_cell Ab.out 2).trans rfl, (blk_cell Ab.out 3).trans rfl⟩ (fun hHeld => ?_)
 clear hK K
 refine norm_ (a' := ?_) ?_ ?_
 rotate_left
 ·show Act.put _ (some 23) _ = _
  simp only [Act.put, List.setIfInBounds_toArray, List.set_cons_zero, List.set_cons_succ, i64_w, i32_w]
  rfl
 refine pui 13 24 18 16383 HT_ ?_
 refine pui 14 25 18 32767 HT_ ?_
 refine onei 15 26 18 65535 HT_ (fun K hK => ?_)
 refine goes_ Try.func4 (by kernel_rfl) rfl #[] (by rfl) rfl rfl pL ?_
 with_reducible refine (garnerlaw04_awake.calls k  t200 _ A16.out).mono ?_
 rintro e w26 ⟨rfl, hb⟩
 refine ⟨_, rfl, ?_⟩
 replace Ag := bRa Ag hb
 replace Aj := bRa Aj hb
 replace Aa := kBa Aa hb
 replace Ab := kBa Ab hb
 replace HB := Am (below_step (pE2 HB.out Ad.out Af.out) hb)
 (try clear hb)
 (try clear hb2)
 (try clear hk)
 (try clear hi)
 refine hK.out _ _ ⟨(blk_cell Aa.out 0).trans rfl, (blk_cell Aa.out 1).trans rfl, (blk_cell Aa.out 2).trans rfl, (blk_cell Aa.out 3).trans rfl, (blk_cell Ab.out 0).trans rfl, (blk_cell Ab.out 1).trans rfl, (blk_cell Ab.out 2).trans rfl, (blk_cell Ab.out 3).trans rfl⟩ (fun hHeld => ?_)
 clear hK K
 refine norm_ (a' := ?_) ?_ ?_
 rotate_left
 ·show Act.put _ (some 26) _ = _
  simp only [Act.put, List.setIfInBounds_toArray, List.set_cons_zero, List.set_cons_succ, i64_w, i32_w]
  rfl
 refine pui 16 27 18 131071 HT_ ?_
 refine pui 17 6 18 262143 HT_ ?_
 refine done_ (done_of HT_.out (by kernel_rfl)) ?_
 try go_wp2
 go_ret
 exact ⟨pX, pE2 HB.out Ad.out Af.out⟩
end
end Go.Proofs.Ytejndebplkaadaa.PPointOrders
