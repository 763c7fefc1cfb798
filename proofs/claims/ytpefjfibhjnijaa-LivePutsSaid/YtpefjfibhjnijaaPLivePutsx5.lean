/- What the law reaches, as plain Lean functions, and that the machine's calls answer just that. -/
import Derived.Test.YtpefjfibhjnijaaPLivePutsx0
import Derived.Test.YtpefjfibhjnijaaPLivePutsx4
namespace Go.Proofs.Ytpefjfibhjnijaa.PLivePuts
open Go.RowKit Go.Proofs.YtpefjfibhjnijaaW.PrintWords Go.Proofs.YtpefjfibhjnijaaW.PrintLast Go.Proofs.YtpefjfibhjnijaaW.PrintMore
attribute [local go_sem] max2_int min2_int max_two min_two max_three min_three max_four min_four
set_option linter.unusedVariables false
set_option linter.unusedSimpArgs false
attribute [local go_sem] wrap64_l1 wrap64_l2 wrap64_l3 wrap64_l4 wrap64_l5
mutual
def slices_symMergeCmpFunc_api_Point.l0 : Nat → List (S24) → Int → Int → Int → Option ((List (S24)))
  | 0, _, _, _, _ => none
  | k + 1, x0, x1, x10, x11 => if x10 < x11 then (if 0 ≤ (wrap64 ((IntKind.u64.wrap (wrap64 (x10 + x11))) / 2)) then (if (wrap64 ((IntKind.u64.wrap (wrap64 (x10 + x11))) / 2)) < (x0.length : Int) then (if 0 ≤ x1 then (if x1 < (x0.length : Int) then ((point_Order_1.f ((rd_T24 x0 (wrap64 ((IntKind.u64.wrap (wrap64 (x10 + x11))) / 2))).f0) ((rd_T24 x0 (wrap64 ((IntKind.u64.wrap (wrap64 (x10 + x11))) / 2))).f1) ((rd_T24 x0 (wrap64 ((IntKind.u64.wrap (wrap64 (x10 + x11))) / 2))).f2) ((rd_T24 x0 (wrap64 ((IntKind.u64.wrap (wrap64 (x10 + x11))) / 2))).f3) ((rd_T24 x0 x1).f0) ((rd_T24 x0 x1).f1) ((rd_T24 x0 x1).f2) ((rd_T24 x0 x1).f3)).bind fun t131 => (if t131 < 0 then (slices_symMergeCmpFunc_api_Point.l0 k x0 x1 (wrap64 ((wrap64 ((IntKind.u64.wrap (wrap64 (x10 + x11))) / 2)) + 1)) x11) else (slices_symMergeCmpFunc_api_Point.l0 k x0 x1 x10 (wrap64 ((IntKind.u64.wrap (wrap64 (x10 + x11))) / 2))))) else (none)) else (none)) else (none)) else (none)) else (slices_symMergeCmpFunc_api_Point.l1 k x0 x10 x1)
def slices_symMergeCmpFunc_api_Point.l1 : Nat → List (S24) → Int → Int → Option ((List (S24)))
  | 0, _, _, _ => none
  | k + 1, x0, x10, x13 => if x13 < (wrap64 (x10 - 1)) then (if 0 ≤ (wrap64 (x13 + 1)) then (if (wrap64 (x13 + 1)) < (x0.length : Int) then (if 0 ≤ x13 then (if x13 < (x0.length : Int) then (slices_symMergeCmpFunc_api_Point.l1 k ((x0.set (x13 : Int).toNat (⟨(rd_T24 x0 (wrap64 (x13 + 1))).f0, (rd_T24 x0 (wrap64 (x13 + 1))).f1, (rd_T24 x0 (wrap64 (x13 + 1))).f2, (rd_T24 x0 (wrap64 (x13 + 1))).f3⟩ : S24)).set ((wrap64 (x13 + 1)) : Int).toNat (⟨(rd_T24 x0 x13).f0, (rd_T24 x0 x13).f1, (rd_T24 x0 x13).f2, (rd_T24 x0 x13).f3⟩ : S24)) x10 (wrap64 (x13 + 1))) else (none)) else (none)) else (none)) else (none)) else (some x0)
def slices_symMergeCmpFunc_api_Point.l2 : Nat → List (S24) → Int → Int → Int → Option ((List (S24)))
  | 0, _, _, _, _ => none
  | k + 1, x0, x2, x14, x15 => if x14 < x15 then (if 0 ≤ x2 then (if x2 < (x0.length : Int) then (if 0 ≤ (wrap64 ((IntKind.u64.wrap (wrap64 (x14 + x15))) / 2)) then (if (wrap64 ((IntKind.u64.wrap (wrap64 (x14 + x15))) / 2)) < (x0.length : Int) then ((point_Order_1.f ((rd_T24 x0 x2).f0) ((rd_T24 x0 x2).f1) ((rd_T24 x0 x2).f2) ((rd_T24 x0 x2).f3) ((rd_T24 x0 (wrap64 ((IntKind.u64.wrap (wrap64 (x14 + x15))) / 2))).f0) ((rd_T24 x0 (wrap64 ((IntKind.u64.wrap (wrap64 (x14 + x15))) / 2))).f1) ((rd_T24 x0 (wrap64 ((IntKind.u64.wrap (wrap64 (x14 + x15))) / 2))).f2) ((rd_T24 x0 (wrap64 ((IntKind.u64.wrap (wrap64 (x14 + x15))) / 2))).f3)).bind fun t138 => (if t138 < 0 then (slices_symMergeCmpFunc_api_Point.l2 k x0 x2 x14 (wrap64 ((IntKind.u64.wrap (wrap64 (x14 + x15))) / 2))) else (slices_symMergeCmpFunc_api_Point.l2 k x0 x2 (wrap64 ((wrap64 ((IntKind.u64.wrap (wrap64 (x14 + x15))) / 2)) + 1)) x15))) else (none)) else (none)) else (none)) else (none)) else (slices_symMergeCmpFunc_api_Point.l3 k x0 x14 x2)
def slices_symMergeCmpFunc_api_Point.l3 : Nat → List (S24) → Int → Int → Option ((List (S24)))
  | 0, _, _, _ => none
  | k + 1, x0, x14, x17 => if x17 > x14 then (if 0 ≤ (wrap64 (x17 - 1)) then (if (wrap64 (x17 - 1)) < (x0.length : Int) then (if 0 ≤ x17 then (if x17 < (x0.length : Int) then (slices_symMergeCmpFunc_api_Point.l3 k ((x0.set (x17 : Int).toNat (⟨(rd_T24 x0 (wrap64 (x17 - 1))).f0, (rd_T24 x0 (wrap64 (x17 - 1))).f1, (rd_T24 x0 (wrap64 (x17 - 1))).f2, (rd_T24 x0 (wrap64 (x17 - 1))).f3⟩ : S24)).set ((wrap64 (x17 - 1)) : Int).toNat (⟨(rd_T24 x0 x17).f0, (rd_T24 x0 x17).f1, (rd_T24 x0 x17).f2, (rd_T24 x0 x17).f3⟩ : S24)) x14 (wrap64 (x17 - 1))) else (none)) else (none)) else (none)) else (none)) else (some x0)
def slices_symMergeCmpFunc_api_Point.j4 : Nat → List (S24) → Int → Int → Int → Int → Int → Int → Int → Option ((List (S24)))
  | 0, _, _, _, _, _, _, _, _ => none
  | k + 1, x0, x1, x2, x3, x18, x19, x20, x21 => slices_symMergeCmpFunc_api_Point.l4 k x0 x1 x2 x3 x18 x19 x20 x21 (wrap64 (x19 - 1))
def slices_symMergeCmpFunc_api_Point.l4 : Nat → List (S24) → Int → Int → Int → Int → Int → Int → Int → Int → Option ((List (S24)))
  | 0, _, _, _, _, _, _, _, _, _ => none
  | k + 1, x0, x1, x2, x3, x18, x19, x20, x21, x22 => if x20 < x21 then (if 0 ≤ (wrap64 (x22 - (wrap64 ((IntKind.u64.wrap (wrap64 (x20 + x21))) / 2)))) then (if (wrap64 (x22 - (wrap64 ((IntKind.u64.wrap (wrap64 (x20 + x21))) / 2)))) < (x0.length : Int) then (if 0 ≤ (wrap64 ((IntKind.u64.wrap (wrap64 (x20 + x21))) / 2)) then (if (wrap64 ((IntKind.u64.wrap (wrap64 (x20 + x21))) / 2)) < (x0.length : Int) then ((point_Order_1.f ((rd_T24 x0 (wrap64 (x22 - (wrap64 ((IntKind.u64.wrap (wrap64 (x20 + x21))) / 2))))).f0) ((rd_T24 x0 (wrap64 (x22 - (wrap64 ((IntKind.u64.wrap (wrap64 (x20 + x21))) / 2))))).f1) ((rd_T24 x0 (wrap64 (x22 - (wrap64 ((IntKind.u64.wrap (wrap64 (x20 + x21))) / 2))))).f2) ((rd_T24 x0 (wrap64 (x22 - (wrap64 ((IntKind.u64.wrap (wrap64 (x20 + x21))) / 2))))).f3) ((rd_T24 x0 (wrap64 ((IntKind.u64.wrap (wrap64 (x20 + x21))) / 2))).f0) ((rd_T24 x0 (wrap64 ((IntKind.u64.wrap (wrap64 (x20 + x21))) / 2))).f1) ((rd_T24 x0 (wrap64 ((IntKind.u64.wrap (wrap64 (x20 + x21))) / 2))).f2) ((rd_T24 x0 (wrap64 ((IntKind.u64.wrap (wrap64 (x20 + x21))) / 2))).f3)).bind fun t145 => (if t145 < 0 then (slices_symMergeCmpFunc_api_Point.l4 k x0 x1 x2 x3 x18 x19 x20 (wrap64 ((IntKind.u64.wrap (wrap64 (x20 + x21))) / 2)) x22) else (slices_symMergeCmpFunc_api_Point.l4 k x0 x1 x2 x3 x18 x19 (wrap64 ((wrap64 ((IntKind.u64.wrap (wrap64 (x20 + x21))) / 2)) + 1)) x21 x22))) else (none)) else (none)) else (none)) else (none)) else (if x20 < x2 then (slices_symMergeCmpFunc_api_Point.j6 k x0 x1 x2 x3 x18 x20 (wrap64 (x19 - x20)) (decide (x2 < (wrap64 (x19 - x20))))) else (slices_symMergeCmpFunc_api_Point.j6 k x0 x1 x2 x3 x18 x20 (wrap64 (x19 - x20)) false))
def slices_symMergeCmpFunc_api_Point.j6 : Nat → List (S24) → Int → Int → Int → Int → Int → Int → Bool → Option ((List (S24)))
  | 0, _, _, _, _, _, _, _, _ => none
  | k + 1, x0, x1, x2, x3, x18, x20, x24, x185 => if x185 = true then ((slices_rotateCmpFunc_api_Point.f k x0 x20 x2 x24).bind fun t146 => (slices_symMergeCmpFunc_api_Point.j7 k t146 x1 x3 x18 x20 x24)) else (slices_symMergeCmpFunc_api_Point.j7 k x0 x1 x3 x18 x20 x24)
def slices_symMergeCmpFunc_api_Point.j7 : Nat → List (S24) → Int → Int → Int → Int → Int → Option ((List (S24)))
  | 0, _, _, _, _, _, _ => none
  | k + 1, x0, x1, x3, x18, x20, x24 => if x1 < x20 then (slices_symMergeCmpFunc_api_Point.j8 k x0 x1 x3 x18 x20 x24 (decide (x20 < x18))) else (slices_symMergeCmpFunc_api_Point.j8 k x0 x1 x3 x18 x20 x24 false)
def slices_symMergeCmpFunc_api_Point.j8 : Nat → List (S24) → Int → Int → Int → Int → Int → Bool → Option ((List (S24)))
  | 0, _, _, _, _, _, _, _ => none
  | k + 1, x0, x1, x3, x18, x20, x24, x199 => if x199 = true then ((slices_symMergeCmpFunc_api_Point.f k x0 x1 x20 x18).bind fun t147 => (if x18 < x24 then (if x24 < x3 then ((slices_symMergeCmpFunc_api_Point.f k t147 x18 x24 x3).bind fun t148 => (some t148)) else (some t147)) else (some t147))) else (if x18 < x24 then (if x24 < x3 then ((slices_symMergeCmpFunc_api_Point.f k x0 x18 x24 x3).bind fun t149 => (some t149)) else (some x0)) else (some x0))
def slices_symMergeCmpFunc_api_Point.f : Nat → List (S24) → Int → Int → Int → Option ((List (S24)))
  | 0, _, _, _, _ => none
  | k + 1, l0, a1, a2, a3 => if (wrap64 (a2 - a1)) = 1 then (slices_symMergeCmpFunc_api_Point.l0 k l0 a1 a2 a3) else (if (wrap64 (a3 - a2)) = 1 then (slices_symMergeCmpFunc_api_Point.l2 k l0 a2 a1 a2) else (if a2 > (wrap64 ((IntKind.u64.wrap (wrap64 (a1 + a3))) / 2)) then (slices_symMergeCmpFunc_api_Point.j4 k l0 a1 a2 a3 (wrap64 ((IntKind.u64.wrap (wrap64 (a1 + a3))) / 2)) (wrap64 ((wrap64 ((IntKind.u64.wrap (wrap64 (a1 + a3))) / 2)) + a2)) (wrap64 ((wrap64 ((wrap64 ((IntKind.u64.wrap (wrap64 (a1 + a3))) / 2)) + a2)) - a3)) (wrap64 ((IntKind.u64.wrap (wrap64 (a1 + a3))) / 2))) else (slices_symMergeCmpFunc_api_Point.j4 k l0 a1 a2 a3 (wrap64 ((IntKind.u64.wrap (wrap64 (a1 + a3))) / 2)) (wrap64 ((wrap64 ((IntKind.u64.wrap (wrap64 (a1 + a3))) / 2)) + a2)) a1 a2)))
end
theorem slices_symMergeCmpFunc_api_Point.mono_l : ∀ k, (∀ y0 y1 y2 y3, LeO (slices_symMergeCmpFunc_api_Point.f k y0 y1 y2 y3) (slices_symMergeCmpFunc_api_Point.f (k + 1) y0 y1 y2 y3)) ∧ (∀ y0 y1 y2 y3, LeO (slices_symMergeCmpFunc_api_Point.l0 k y0 y1 y2 y3) (slices_symMergeCmpFunc_api_Point.l0 (k + 1) y0 y1 y2 y3)) ∧ (∀ y0 y1 y2, LeO (slices_symMergeCmpFunc_api_Point.l1 k y0 y1 y2) (slices_symMergeCmpFunc_api_Point.l1 (k + 1) y0 y1 y2)) ∧ (∀ y0 y1 y2 y3, LeO (slices_symMergeCmpFunc_api_Point.l2 k y0 y1 y2 y3) (slices_symMergeCmpFunc_api_Point.l2 (k + 1) y0 y1 y2 y3)) ∧ (∀ y0 y1 y2, LeO (slices_symMergeCmpFunc_api_Point.l3 k y0 y1 y2) (slices_symMergeCmpFunc_api_Point.l3 (k + 1) y0 y1 y2)) ∧ (∀ y0 y1 y2 y3 y4 y5 y6 y7, LeO (slices_symMergeCmpFunc_api_Point.j4 k y0 y1 y2 y3 y4 y5 y6 y7) (slices_symMergeCmpFunc_api_Point.j4 (k + 1) y0 y1 y2 y3 y4 y5 y6 y7)) ∧ (∀ y0 y1 y2 y3 y4 y5 y6 y7 y8, LeO (slices_symMergeCmpFunc_api_Point.l4 k y0 y1 y2 y3 y4 y5 y6 y7 y8) (slices_symMergeCmpFunc_api_Point.l4 (k + 1) y0 y1 y2 y3 y4 y5 y6 y7 y8)) ∧ (∀ y0 y1 y2 y3 y4 y5 y6 y7, LeO (slices_symMergeCmpFunc_api_Point.j6 k y0 y1 y2 y3 y4 y5 y6 y7) (slices_symMergeCmpFunc_api_Point.j6 (k + 1) y0 y1 y2 y3 y4 y5 y6 y7)) ∧ (∀ y0 y1 y2 y3 y4 y5, LeO (slices_symMergeCmpFunc_api_Point.j7 k y0 y1 y2 y3 y4 y5) (slices_symMergeCmpFunc_api_Point.j7 (k + 1) y0 y1 y2 y3 y4 y5)) ∧ (∀ y0 y1 y2 y3 y4 y5 y6, LeO (slices_symMergeCmpFunc_api_Point.j8 k y0 y1 y2 y3 y4 y5 y6) (slices_symMergeCmpFunc_api_Point.j8 (k + 1) y0 y1 y2 y3 y4 y5 y6))
  | 0 => ⟨fun _ _ _ _ r h => by simp [slices_symMergeCmpFunc_api_Point.f] at h, fun _ _ _ _ r h => by simp [slices_symMergeCmpFunc_api_Point.l0] at h, fun _ _ _ r h => by simp [slices_symMergeCmpFunc_api_Point.l1] at h, fun _ _ _ _ r h => by simp [slices_symMergeCmpFunc_api_Point.l2] at h, fun _ _ _ r h => by simp [slices_symMergeCmpFunc_api_Point.l3] at h, fun _ _ _ _ _ _ _ _ r h => by simp [slices_symMergeCmpFunc_api_Point.j4] at h, fun _ _ _ _ _ _ _ _ _ r h => by simp [slices_symMergeCmpFunc_api_Point.l4] at h, fun _ _ _ _ _ _ _ _ r h => by simp [slices_symMergeCmpFunc_api_Point.j6] at h, fun _ _ _ _ _ _ r h => by simp [slices_symMergeCmpFunc_api_Point.j7] at h, fun _ _ _ _ _ _ _ r h => by simp [slices_symMergeCmpFunc_api_Point.j8] at h⟩
  | k + 1 => by
    obtain ⟨ih0, ih1, ih2, ih3, ih4, ih5, ih6, ih7, ih8, ih9⟩ := slices_symMergeCmpFunc_api_Point.mono_l k
    refine ⟨?_, ?_, ?_, ?_, ?_, ?_, ?_, ?_, ?_, ?_⟩
    · intro y0 y1 y2 y3
      unfold slices_symMergeCmpFunc_api_Point.f
      repeat' first
      | (with_reducible exact ih0 _ _ _ _)
      | (with_reducible exact ih1 _ _ _ _)
      | (with_reducible exact ih2 _ _ _)
      | (with_reducible exact ih3 _ _ _ _)
      | (with_reducible exact ih4 _ _ _)
      | (with_reducible exact ih5 _ _ _ _ _ _ _ _)
      | (with_reducible exact ih6 _ _ _ _ _ _ _ _ _)
      | (with_reducible exact ih7 _ _ _ _ _ _ _ _)
      | (with_reducible exact ih8 _ _ _ _ _ _)
      | (with_reducible exact ih9 _ _ _ _ _ _ _)
      | (with_reducible exact slices_rotateCmpFunc_api_Point.mono _ _ _ _ _)
      | (with_reducible exact LeO.refl _)
      | (with_reducible exact LeO.none _)
      | (with_reducible refine LeO.ite ?_ ?_)
      | (with_reducible refine LeO.bind ?_ (fun _ => ?_))
      | exact ih0 _ _ _ _
      | exact ih1 _ _ _ _
      | exact ih2 _ _ _
      | exact ih3 _ _ _ _
      | exact ih4 _ _ _
      | exact ih5 _ _ _ _ _ _ _ _
      | exact ih6 _ _ _ _ _ _ _ _ _
      | exact ih7 _ _ _ _ _ _ _ _
      | exact ih8 _ _ _ _ _ _
      | exact ih9 _ _ _ _ _ _ _
      | exact slices_rotateCmpFunc_api_Point.mono _ _ _ _ _
      | exact LeO.none _
      | refine LeO.ite ?_ ?_
      | refine LeO.bind ?_ (fun _ => ?_)
    · intro y0 y1 y2 y3
      unfold slices_symMergeCmpFunc_api_Point.l0
      repeat' first
      | (with_reducible exact ih0 _ _ _ _)
      | (with_reducible exact ih1 _ _ _ _)
      | (with_reducible exact ih2 _ _ _)
      | (with_reducible exact ih3 _ _ _ _)
      | (with_reducible exact ih4 _ _ _)
      | (with_reducible exact ih5 _ _ _ _ _ _ _ _)
      | (with_reducible exact ih6 _ _ _ _ _ _ _ _ _)
      | (with_reducible exact ih7 _ _ _ _ _ _ _ _)
      | (with_reducible exact ih8 _ _ _ _ _ _)
      | (with_reducible exact ih9 _ _ _ _ _ _ _)
      | (with_reducible exact slices_rotateCmpFunc_api_Point.mono _ _ _ _ _)
      | (with_reducible exact LeO.refl _)
      | (with_reducible exact LeO.none _)
      | (with_reducible refine LeO.ite ?_ ?_)
      | (with_reducible refine LeO.bind ?_ (fun _ => ?_))
      | exact ih0 _ _ _ _
      | exact ih1 _ _ _ _
      | exact ih2 _ _ _
      | exact ih3 _ _ _ _
      | exact ih4 _ _ _
      | exact ih5 _ _ _ _ _ _ _ _
      | exact ih6 _ _ _ _ _ _ _ _ _
      | exact ih7 _ _ _ _ _ _ _ _
      | exact ih8 _ _ _ _ _ _
      | exact ih9 _ _ _ _ _ _ _
      | exact slices_rotateCmpFunc_api_Point.mono _ _ _ _ _
      | exact LeO.none _
      | refine LeO.ite ?_ ?_
      | refine LeO.bind ?_ (fun _ => ?_)
    · intro y0 y1 y2
      unfold slices_symMergeCmpFunc_api_Point.l1
      repeat' first
      | (with_reducible exact ih0 _ _ _ _)
      | (with_reducible exact ih1 _ _ _ _)
      | (with_reducible exact ih2 _ _ _)
      | (with_reducible exact ih3 _ _ _ _)
      | (with_reducible exact ih4 _ _ _)
      | (with_reducible exact ih5 _ _ _ _ _ _ _ _)
      | (with_reducible exact ih6 _ _ _ _ _ _ _ _ _)
      | (with_reducible exact ih7 _ _ _ _ _ _ _ _)
      | (with_reducible exact ih8 _ _ _ _ _ _)
      | (with_reducible exact ih9 _ _ _ _ _ _ _)
      | (with_reducible exact slices_rotateCmpFunc_api_Point.mono _ _ _ _ _)
      | (with_reducible exact LeO.refl _)
      | (with_reducible exact LeO.none _)
      | (with_reducible refine LeO.ite ?_ ?_)
      | (with_reducible refine LeO.bind ?_ (fun _ => ?_))
      | exact ih0 _ _ _ _
      | exact ih1 _ _ _ _
      | exact ih2 _ _ _
      | exact ih3 _ _ _ _
      | exact ih4 _ _ _
      | exact ih5 _ _ _ _ _ _ _ _
      | exact ih6 _ _ _ _ _ _ _ _ _
      | exact ih7 _ _ _ _ _ _ _ _
      | exact ih8 _ _ _ _ _ _
      | exact ih9 _ _ _ _ _ _ _
      | exact slices_rotateCmpFunc_api_Point.mono _ _ _ _ _
      | exact LeO.none _
      | refine LeO.ite ?_ ?_
      | refine LeO.bind ?_ (fun _ => ?_)
    · intro y0 y1 y2 y3
      unfold slices_symMergeCmpFunc_api_Point.l2
      repeat' first
      | (with_reducible exact ih0 _ _ _ _)
      | (with_reducible exact ih1 _ _ _ _)
      | (with_reducible exact ih2 _ _ _)
      | (with_reducible exact ih3 _ _ _ _)
      | (with_reducible exact ih4 _ _ _)
      | (with_reducible exact ih5 _ _ _ _ _ _ _ _)
      | (with_reducible exact ih6 _ _ _ _ _ _ _ _ _)
      | (with_reducible exact ih7 _ _ _ _ _ _ _ _)
      | (with_reducible exact ih8 _ _ _ _ _ _)
      | (with_reducible exact ih9 _ _ _ _ _ _ _)
      | (with_reducible exact slices_rotateCmpFunc_api_Point.mono _ _ _ _ _)
      | (with_reducible exact LeO.refl _)
      | (with_reducible exact LeO.none _)
      | (with_reducible refine LeO.ite ?_ ?_)
      | (with_reducible refine LeO.bind ?_ (fun _ => ?_))
      | exact ih0 _ _ _ _
      | exact ih1 _ _ _ _
      | exact ih2 _ _ _
      | exact ih3 _ _ _ _
      | exact ih4 _ _ _
      | exact ih5 _ _ _ _ _ _ _ _
      | exact ih6 _ _ _ _ _ _ _ _ _
      | exact ih7 _ _ _ _ _ _ _ _
      | exact ih8 _ _ _ _ _ _
      | exact ih9 _ _ _ _ _ _ _
      | exact slices_rotateCmpFunc_api_Point.mono _ _ _ _ _
      | exact LeO.none _
      | refine LeO.ite ?_ ?_
      | refine LeO.bind ?_ (fun _ => ?_)
    · intro y0 y1 y2
      unfold slices_symMergeCmpFunc_api_Point.l3
      repeat' first
      | (with_reducible exact ih0 _ _ _ _)
      | (with_reducible exact ih1 _ _ _ _)
      | (with_reducible exact ih2 _ _ _)
      | (with_reducible exact ih3 _ _ _ _)
      | (with_reducible exact ih4 _ _ _)
      | (with_reducible exact ih5 _ _ _ _ _ _ _ _)
      | (with_reducible exact ih6 _ _ _ _ _ _ _ _ _)
      | (with_reducible exact ih7 _ _ _ _ _ _ _ _)
      | (with_reducible exact ih8 _ _ _ _ _ _)
      | (with_reducible exact ih9 _ _ _ _ _ _ _)
      | (with_reducible exact slices_rotateCmpFunc_api_Point.mono _ _ _ _ _)
      | (with_reducible exact LeO.refl _)
      | (with_reducible exact LeO.none _)
      | (with_reducible refine LeO.ite ?_ ?_)
      | (with_reducible refine LeO.bind ?_ (fun _ => ?_))
      | exact ih0 _ _ _ _
      | exact ih1 _ _ _ _
      | exact ih2 _ _ _
      | exact ih3 _ _ _ _
      | exact ih4 _ _ _
      | exact ih5 _ _ _ _ _ _ _ _
      | exact ih6 _ _ _ _ _ _ _ _ _
      | exact ih7 _ _ _ _ _ _ _ _
      | exact ih8 _ _ _ _ _ _
      | exact ih9 _ _ _ _ _ _ _
      | exact slices_rotateCmpFunc_api_Point.mono _ _ _ _ _
      | exact LeO.none _
      | refine LeO.ite ?_ ?_
      | refine LeO.bind ?_ (fun _ => ?_)
    · intro y0 y1 y2 y3 y4 y5 y6 y7
      unfold slices_symMergeCmpFunc_api_Point.j4
      repeat' first
      | (with_reducible exact ih0 _ _ _ _)
      | (with_reducible exact ih1 _ _ _ _)
      | (with_reducible exact ih2 _ _ _)
      | (with_reducible exact ih3 _ _ _ _)
      | (with_reducible exact ih4 _ _ _)
      | (with_reducible exact ih5 _ _ _ _ _ _ _ _)
      | (with_reducible exact ih6 _ _ _ _ _ _ _ _ _)
      | (with_reducible exact ih7 _ _ _ _ _ _ _ _)
      | (with_reducible exact ih8 _ _ _ _ _ _)
      | (with_reducible exact ih9 _ _ _ _ _ _ _)
      | (with_reducible exact slices_rotateCmpFunc_api_Point.mono _ _ _ _ _)
      | (with_reducible exact LeO.refl _)
      | (with_reducible exact LeO.none _)
      | (with_reducible refine LeO.ite ?_ ?_)
      | (with_reducible refine LeO.bind ?_ (fun _ => ?_))
      | exact ih0 _ _ _ _
      | exact ih1 _ _ _ _
      | exact ih2 _ _ _
      | exact ih3 _ _ _ _
      | exact ih4 _ _ _
      | exact ih5 _ _ _ _ _ _ _ _
      | exact ih6 _ _ _ _ _ _ _ _ _
      | exact ih7 _ _ _ _ _ _ _ _
      | exact ih8 _ _ _ _ _ _
      | exact ih9 _ _ _ _ _ _ _
      | exact slices_rotateCmpFunc_api_Point.mono _ _ _ _ _
      | exact LeO.none _
      | refine LeO.ite ?_ ?_
      | refine LeO.bind ?_ (fun _ => ?_)
    · intro y0 y1 y2 y3 y4 y5 y6 y7 y8
      unfold slices_symMergeCmpFunc_api_Point.l4
      repeat' first
      | (with_reducible exact ih0 _ _ _ _)
      | (with_reducible exact ih1 _ _ _ _)
      | (with_reducible exact ih2 _ _ _)
      | (with_reducible exact ih3 _ _ _ _)
      | (with_reducible exact ih4 _ _ _)
      | (with_reducible exact ih5 _ _ _ _ _ _ _ _)
      | (with_reducible exact ih6 _ _ _ _ _ _ _ _ _)
      | (with_reducible exact ih7 _ _ _ _ _ _ _ _)
      | (with_reducible exact ih8 _ _ _ _ _ _)
      | (with_reducible exact ih9 _ _ _ _ _ _ _)
      | (with_reducible exact slices_rotateCmpFunc_api_Point.mono _ _ _ _ _)
      | (with_reducible exact LeO.refl _)
      | (with_reducible exact LeO.none _)
      | (with_reducible refine LeO.ite ?_ ?_)
      | (with_reducible refine LeO.bind ?_ (fun _ => ?_))
      | exact ih0 _ _ _ _
      | exact ih1 _ _ _ _
      | exact ih2 _ _ _
      | exact ih3 _ _ _ _
      | exact ih4 _ _ _
      | exact ih5 _ _ _ _ _ _ _ _
      | exact ih6 _ _ _ _ _ _ _ _ _
      | exact ih7 _ _ _ _ _ _ _ _
      | exact ih8 _ _ _ _ _ _
      | exact ih9 _ _ _ _ _ _ _
      | exact slices_rotateCmpFunc_api_Point.mono _ _ _ _ _
      | exact LeO.none _
      | refine LeO.ite ?_ ?_
      | refine LeO.bind ?_ (fun _ => ?_)
    · intro y0 y1 y2 y3 y4 y5 y6 y7
      unfold slices_symMergeCmpFunc_api_Point.j6
      repeat' first
      | (with_reducible exact ih0 _ _ _ _)
      | (with_reducible exact ih1 _ _ _ _)
      | (with_reducible exact ih2 _ _ _)
      | (with_reducible exact ih3 _ _ _ _)
      | (with_reducible exact ih4 _ _ _)
      | (with_reducible exact ih5 _ _ _ _ _ _ _ _)
      | (with_reducible exact ih6 _ _ _ _ _ _ _ _ _)
      | (with_reducible exact ih7 _ _ _ _ _ _ _ _)
      | (with_reducible exact ih8 _ _ _ _ _ _)
      | (with_reducible exact ih9 _ _ _ _ _ _ _)
      | (with_reducible exact slices_rotateCmpFunc_api_Point.mono _ _ _ _ _)
      | (with_reducible exact LeO.refl _)
      | (with_reducible exact LeO.none _)
      | (with_reducible refine LeO.ite ?_ ?_)
      | (with_reducible refine LeO.bind ?_ (fun _ => ?_))
      | exact ih0 _ _ _ _
      | exact ih1 _ _ _ _
      | exact ih2 _ _ _
      | exact ih3 _ _ _ _
      | exact ih4 _ _ _
      | exact ih5 _ _ _ _ _ _ _ _
      | exact ih6 _ _ _ _ _ _ _ _ _
      | exact ih7 _ _ _ _ _ _ _ _
      | exact ih8 _ _ _ _ _ _
      | exact ih9 _ _ _ _ _ _ _
      | exact slices_rotateCmpFunc_api_Point.mono _ _ _ _ _
      | exact LeO.none _
      | refine LeO.ite ?_ ?_
      | refine LeO.bind ?_ (fun _ => ?_)
    · intro y0 y1 y2 y3 y4 y5
      unfold slices_symMergeCmpFunc_api_Point.j7
      repeat' first
      | (with_reducible exact ih0 _ _ _ _)
      | (with_reducible exact ih1 _ _ _ _)
      | (with_reducible exact ih2 _ _ _)
      | (with_reducible exact ih3 _ _ _ _)
      | (with_reducible exact ih4 _ _ _)
      | (with_reducible exact ih5 _ _ _ _ _ _ _ _)
      | (with_reducible exact ih6 _ _ _ _ _ _ _ _ _)
      | (with_reducible exact ih7 _ _ _ _ _ _ _ _)
      | (with_reducible exact ih8 _ _ _ _ _ _)
      | (with_reducible exact ih9 _ _ _ _ _ _ _)
      | (with_reducible exact slices_rotateCmpFunc_api_Point.mono _ _ _ _ _)
      | (with_reducible exact LeO.refl _)
      | (with_reducible exact LeO.none _)
      | (with_reducible refine LeO.ite ?_ ?_)
      | (with_reducible refine LeO.bind ?_ (fun _ => ?_))
      | exact ih0 _ _ _ _
      | exact ih1 _ _ _ _
      | exact ih2 _ _ _
      | exact ih3 _ _ _ _
      | exact ih4 _ _ _
      | exact ih5 _ _ _ _ _ _ _ _
      | exact ih6 _ _ _ _ _ _ _ _ _
      | exact ih7 _ _ _ _ _ _ _ _
      | exact ih8 _ _ _ _ _ _
      | exact ih9 _ _ _ _ _ _ _
      | exact slices_rotateCmpFunc_api_Point.mono _ _ _ _ _
      | exact LeO.none _
      | refine LeO.ite ?_ ?_
      | refine LeO.bind ?_ (fun _ => ?_)
    · intro y0 y1 y2 y3 y4 y5 y6
      unfold slices_symMergeCmpFunc_api_Point.j8
      repeat' first
      | (with_reducible exact ih0 _ _ _ _)
      | (with_reducible exact ih1 _ _ _ _)
      | (with_reducible exact ih2 _ _ _)
      | (with_reducible exact ih3 _ _ _ _)
      | (with_reducible exact ih4 _ _ _)
      | (with_reducible exact ih5 _ _ _ _ _ _ _ _)
      | (with_reducible exact ih6 _ _ _ _ _ _ _ _ _)
      | (with_reducible exact ih7 _ _ _ _ _ _ _ _)
      | (with_reducible exact ih8 _ _ _ _ _ _)
      | (with_reducible exact ih9 _ _ _ _ _ _ _)
      | (with_reducible exact slices_rotateCmpFunc_api_Point.mono _ _ _ _ _)
      | (with_reducible exact LeO.refl _)
      | (with_reducible exact LeO.none _)
      | (with_reducible refine LeO.ite ?_ ?_)
      | (with_reducible refine LeO.bind ?_ (fun _ => ?_))
      | exact ih0 _ _ _ _
      | exact ih1 _ _ _ _
      | exact ih2 _ _ _
      | exact ih3 _ _ _ _
      | exact ih4 _ _ _
      | exact ih5 _ _ _ _ _ _ _ _
      | exact ih6 _ _ _ _ _ _ _ _ _
      | exact ih7 _ _ _ _ _ _ _ _
      | exact ih8 _ _ _ _ _ _
      | exact ih9 _ _ _ _ _ _ _
      | exact slices_rotateCmpFunc_api_Point.mono _ _ _ _ _
      | exact LeO.none _
      | refine LeO.ite ?_ ?_
      | refine LeO.bind ?_ (fun _ => ?_)
theorem slices_symMergeCmpFunc_api_Point.mono : ∀ a0 a1 a2 a3 k, LeO (slices_symMergeCmpFunc_api_Point.f k a0 a1 a2 a3) (slices_symMergeCmpFunc_api_Point.f (k + 1) a0 a1 a2 a3) := by
  intro a0 a1 a2 a3 k
  obtain ⟨ih0, ih1, ih2, ih3, ih4, ih5, ih6, ih7, ih8, ih9⟩ := slices_symMergeCmpFunc_api_Point.mono_l k
  exact ih0 a0 a1 a2 a3
def slices_symMergeCmpFunc_api_Point.T5 : Bool × List (List Nat × List Nat) := (true, [([], []), ([], []), ([], []), ([1, 2], [1, 2]), ([3], [3]), ([], []), ([], []), ([5, 6], [5, 6]), ([7], [7]), ([0, 4, 8], [0, 4, 8]), ([9], [9])])
def slices_symMergeCmpFunc_api_Point.B5 : List Nat := [0, 0, 0, 6, 14, 0, 0, 96, 224, 511, 1023]
theorem slices_symMergeCmpFunc_api_Point.tab5 : rtab .any (opsOf Try.f64 5) = slices_symMergeCmpFunc_api_Point.T5 := by kernel_rfl
theorem slices_symMergeCmpFunc_api_Point.bits5 : waitsOk slices_symMergeCmpFunc_api_Point.T5.2 slices_symMergeCmpFunc_api_Point.B5 = true := by kernel_rfl
def slices_symMergeCmpFunc_api_Point.T11 : Bool × List (List Nat × List Nat) := (true, [([], []), ([], []), ([], []), ([], []), ([3], [3]), ([], []), ([], []), ([6], [6]), ([5, 7], [5, 7]), ([8], [8]), ([], []), ([], []), ([10, 11], [10, 11]), ([12], [12]), ([0, 1, 0, 1, 5, 6, 7, 8, 9, 13], [0, 1]), ([14, 9, 0, 1, 5, 6, 7, 8, 9, 13], [9, 14]), ([2, 4, 0, 1, 2, 3, 4, 5, 6, 7, 8, 9, 10, 11, 12, 13, 14, 15], [2, 4]), ([16, 13, 15, 0, 1, 2, 3, 4, 5, 6, 7, 8, 9, 10, 11, 12, 13, 14, 15], [13, 16])])
def slices_symMergeCmpFunc_api_Point.B11 : List Nat := [0, 0, 0, 0, 8, 0, 0, 64, 224, 480, 0, 0, 3072, 7168, 16355, 32739, 65535, 131071]
theorem slices_symMergeCmpFunc_api_Point.tab11 : rtab .any (opsOf Try.f64 11) = slices_symMergeCmpFunc_api_Point.T11 := by kernel_rfl
theorem slices_symMergeCmpFunc_api_Point.bits11 : waitsOk slices_symMergeCmpFunc_api_Point.T11.2 slices_symMergeCmpFunc_api_Point.B11 = true := by kernel_rfl
def slices_symMergeCmpFunc_api_Point.T17 : Bool × List (List Nat × List Nat) := (true, [([], []), ([], []), ([], []), ([1, 2], [1, 2]), ([3], [3]), ([], []), ([], []), ([5, 6], [5, 6]), ([7], [7]), ([0, 4, 8], [0, 4, 8]), ([9], [9]), ([10], [10])])
def slices_symMergeCmpFunc_api_Point.B17 : List Nat := [0, 0, 0, 6, 14, 0, 0, 96, 224, 511, 1023, 2047]
theorem slices_symMergeCmpFunc_api_Point.tab17 : rtab .any (opsOf Try.f64 17) = slices_symMergeCmpFunc_api_Point.T17 := by kernel_rfl
theorem slices_symMergeCmpFunc_api_Point.bits17 : waitsOk slices_symMergeCmpFunc_api_Point.T17.2 slices_symMergeCmpFunc_api_Point.B17 = true := by kernel_rfl
def slices_symMergeCmpFunc_api_Point.T23 : Bool × List (List Nat × List Nat) := (true, [([], []), ([], []), ([], []), ([], []), ([3], [3]), ([], []), ([], []), ([6], [6]), ([5, 7], [5, 7]), ([8], [8]), ([], []), ([], []), ([10, 11], [10, 11]), ([12], [12]), ([0, 1, 0, 1, 5, 6, 7, 8, 9, 13], [0, 1]), ([14, 9, 0, 1, 5, 6, 7, 8, 9, 13], [9, 14]), ([2, 4, 0, 1, 2, 3, 4, 5, 6, 7, 8, 9, 10, 11, 12, 13, 14, 15], [2, 4]), ([16, 13, 15, 0, 1, 2, 3, 4, 5, 6, 7, 8, 9, 10, 11, 12, 13, 14, 15], [13, 16])])
def slices_symMergeCmpFunc_api_Point.B23 : List Nat := [0, 0, 0, 0, 8, 0, 0, 64, 224, 480, 0, 0, 3072, 7168, 16355, 32739, 65535, 131071]
theorem slices_symMergeCmpFunc_api_Point.tab23 : rtab .any (opsOf Try.f64 23) = slices_symMergeCmpFunc_api_Point.T23 := by kernel_rfl
theorem slices_symMergeCmpFunc_api_Point.bits23 : waitsOk slices_symMergeCmpFunc_api_Point.T23.2 slices_symMergeCmpFunc_api_Point.B23 = true := by kernel_rfl
def slices_symMergeCmpFunc_api_Point.T35 : Bool × List (List Nat × List Nat) := (true, [([], []), ([], []), ([], []), ([], []), ([2, 3], [2, 3]), ([1, 4], [1, 4]), ([5], [5]), ([], []), ([], []), ([7, 8], [7, 8]), ([9], [9]), ([0, 6, 10], [0, 6, 10]), ([11], [11]), ([12], [12])])
def slices_symMergeCmpFunc_api_Point.B35 : List Nat := [0, 0, 0, 0, 12, 30, 62, 0, 0, 384, 896, 2047, 4095, 8191]
theorem slices_symMergeCmpFunc_api_Point.tab35 : rtab .any (opsOf Try.f64 35) = slices_symMergeCmpFunc_api_Point.T35 := by kernel_rfl
theorem slices_symMergeCmpFunc_api_Point.bits35 : waitsOk slices_symMergeCmpFunc_api_Point.T35.2 slices_symMergeCmpFunc_api_Point.B35 = true := by kernel_rfl
set_option maxHeartbeats 8000000 in
set_option maxRecDepth 100000 in
theorem slices_symMergeCmpFunc_api_Point.calls_a (k : Nat) (P0_ : Nat → Prop) (u9000_ : Value) (l0 : List (S24)) (a1 : Int) (a2 : Int) (a3 : Int) (r : List (S24)) (w0 w : World) (hB : Below w0.heap.size w0 w) (ho0 : Kd.R k24 24 w w0.heap.size P0_ u9000_ l0) (c6 : (wrap64 (a2 - a1)) = 1) (H : (slices_symMergeCmpFunc_api_Point.l0 k l0 a1 a2 a3) = some r) :
    Calls Try.prog 64 #[u9000_, .int .i64 a1, .int .i64 a2, .int .i64 a3, .func (.func 48) #[] #[]] w fun e w' => e = .returned (.tuple #[]) ∧ Kd.R k24 24 w' w0.heap.size (fun k_ => (P0_ k_ ∨ w.heap.size ≤ k_)) u9000_ r ∧ Below w0.heap.size w0 w' ∧ Kept w w' (fun k_ => P0_ k_) := by
  have hu24 := Try.underlying24
  have C9 := Am (show Kd.R k24 24 w w0.heap.size (fun k_ => (P0_ k_ ∨ w.heap.size ≤ k_)) u9000_ l0 from Kd.R_mono ho0 (fun k_ hk => (.inl hk)))
  have HK := Am (Kept.refl w (fun k_ => P0_ k_))
  have HW0 := Am hB.size
  have HB := Am hB
  clear hB
  have c6b0 : ((wrap64 (a2 - a1)) == 1) = true := beq_iff_eq.mpr c6
  have c6b1 : ((wrap64 (a2 - a1)) != 1) = false := bne_eq_false_iff_eq.mpr c6
  clear c6
  have H' := Am H
  clear H
  go_enter Try.func64, Try.ntmps64
  go_wp2
  go_loopg [10, 11] k (fun kq v10 v11 w' => ∃ (A9 : Int) (Bz : Int), v10 = .int .i64 A9 ∧ v11 = .int .i64 Bz ∧ Aside0 (slices_symMergeCmpFunc_api_Point.l0 kq l0 a1 A9 Bz = some r) ∧ Aside0 (kq ≤ k) ∧ Aside0 (Kd.R k24 24 w' w0.heap.size (fun k_ => (P0_ k_ ∨ w.heap.size ≤ k_)) u9000_ l0) ∧ Aside0 (Kept w w' (fun k_ => P0_ k_)) ∧ Aside0 (Below w0.heap.size w0 w'))
  case atStart => exact ⟨(a2), (a3), (by first | rfl | (simp; done) | (simp [*]; done)), (by first | rfl | (simp; done) | (simp [*]; done)), H', ⟨Nat.le_refl _⟩, ⟨by (with_reducible repeat (first | apply Kd.R_alloc | apply Kd.R_drewN | apply Kd.R_drew)); exact C9.out⟩, ⟨by repeat (first | (with_reducible first | exact HK.out | apply Kept.alloc | apply Kept.drewN | apply Kept.drew) | exact HK.out)⟩, ⟨pB HB.out⟩⟩
  case round =>
    clear H'
    try clear p2
    try clear c6
    try clear c6b0
    try clear c6b1
    try clear p6
    obtain ⟨A9, Bz, rfl, rfl, HA, HK1, Ab, HK, HB⟩ := hrel
    cases gk with
    | zero => exact absurd HA.out (by simp [slices_symMergeCmpFunc_api_Point.l0])
    | succ k1 =>
      have H := HA.out
      clear HA
      simp only [slices_symMergeCmpFunc_api_Point.l0] at H
      by_cases c7 : A9 < Bz
      · rw [if_pos c7] at H
        have c7b0 : decide (A9 < Bz) = true := decide_eq_true c7
        clear c7
        obtain ⟨ji8, hji8⟩ : ∃ j_ : Int, (wrap64 ((IntKind.u64.wrap (wrap64 (A9 + Bz))) / 2)) = j_ := ⟨_, rfl⟩
        replace H : (if 0 ≤ (ji8) then (if (ji8) < (l0.length : Int) then (if 0 ≤ a1 then (if a1 < (l0.length : Int) then ((point_Order_1.f ((rd_T24 l0 (ji8)).f0) ((rd_T24 l0 (ji8)).f1) ((rd_T24 l0 (ji8)).f2) ((rd_T24 l0 (ji8)).f3) ((rd_T24 l0 a1).f0) ((rd_T24 l0 a1).f1) ((rd_T24 l0 a1).f2) ((rd_T24 l0 a1).f3)).bind fun t131 => (if t131 < 0 then (slices_symMergeCmpFunc_api_Point.l0 k1 l0 a1 (wrap64 ((ji8) + 1)) Bz) else (slices_symMergeCmpFunc_api_Point.l0 k1 l0 a1 A9 ji8))) else (none)) else (none)) else (none)) else (none)) = some r := by first | (rw [hji8] at H; exact H) | (simp only [hji8] at H ⊢; exact H)
        (try rw [hji8] at c6b0)
        (try rw [hji8] at c6b1)
        have hji8w : (IntKind.i64.wrap ((IntKind.u64.wrap (wrap64 (A9 + Bz))) / 2)) = ji8 := (i64_w _).trans hji8
        by_cases c9 : 0 ≤ (ji8)
        rotate_left
        · rw [if_neg c9] at H
          exact absurd H (by simp)
        rw [if_pos c9] at H
        have c9b0 : decide (0 ≤ (ji8)) = true := decide_eq_true c9
        clear c9
        by_cases c10 : (ji8) < (l0.length : Int)
        rotate_left
        · rw [if_neg c10] at H
          exact absurd H (by simp)
        rw [if_pos c10] at H
        have c10b0 : decide ((ji8) < (l0.length : Int)) = true := decide_eq_true c10
        clear c10
        by_cases c11 : 0 ≤ a1
        rotate_left
        · rw [if_neg c11] at H
          exact absurd H (by simp)
        rw [if_pos c11] at H
        have c11b0 : decide (0 ≤ a1) = true := decide_eq_true c11
        clear c11
        by_cases c12 : a1 < (l0.length : Int)
        rotate_left
        · rw [if_neg c12] at H
          exact absurd H (by simp)
        rw [if_pos c12] at H
        have c12b0 : decide (a1 < (l0.length : Int)) = true := decide_eq_true c12
        clear c12
        replace H := Option.bind_eq_some_iff.mp H
        obtain ⟨t131, A130, H⟩ := H
        replace H : (if t131 < 0 then (slices_symMergeCmpFunc_api_Point.l0 k1 l0 a1 (wrap64 ((ji8) + 1)) Bz) else (slices_symMergeCmpFunc_api_Point.l0 k1 l0 a1 A9 ji8)) = some r := H
        have A13 := Am A130
        clear A130
        by_cases c14 : t131 < 0
        · rw [if_pos c14] at H
          have c14b0 : decide (t131 < 0) = true := decide_eq_true c14
          clear c14
          have H' := Am H
          clear H
          try go_wp2
          replace Ab := dRa Ab
          replace HK := Am (Kept.drew HK.out)
          replace HB := bDa HB
          obtain ⟨Ao16, co16, Cu⟩ := Kd.R_slice Ab.out
          (first | subst Cu | (injection Cu with f1_ f2_ f3_; have f4_ := f1_.symm; have f5_ := f3_.symm; clear f1_ f2_ f3_; subst f4_; subst f5_))
          have p129 : 0 ≤ ((ji8) : Int) := of_decide_eq_true pS
          have q129 : (ji8) < (l0.length : Int) := of_decide_eq_true pS
          obtain ⟨Aq, e129, Ah, Ai, Aj, Ak⟩ := at_T24 (Kd.R_reads' Ab.out).2.2 (ji8) p129 q129
          cases e129
          replace p129 := eq_true p129
          replace q129 := eq_true q129
          have p130 : 0 ≤ (a1 : Int) := of_decide_eq_true pS
          have q130 : a1 < (l0.length : Int) := of_decide_eq_true pS
          obtain ⟨Cj, e130, Al, An, Ao, Ap⟩ := at_T24 (Kd.R_reads' Ab.out).2.2 a1 p130 q130
          obtain rfl : Aq = Cj := (by injection e130)
          replace p130 := eq_true p130
          replace q130 := eq_true q130
          refine start_ (n := 11) (S := fun w' => w'.cell? (Aq.add (((ji8)).toNat * 4)) = some (.int .i64 ((rd_T24 l0 (ji8)).f0)) ∧ w'.cell? ⟨(Aq.add (((ji8)).toNat * 4)).block, (Aq.add (((ji8)).toNat * 4)).off + 1, none⟩ = some (.int .i64 ((rd_T24 l0 (ji8)).f1)) ∧ w'.cell? ⟨(Aq.add (((ji8)).toNat * 4)).block, (Aq.add (((ji8)).toNat * 4)).off + 2, none⟩ = some (.int .i64 ((rd_T24 l0 (ji8)).f2)) ∧ w'.cell? ⟨(Aq.add (((ji8)).toNat * 4)).block, (Aq.add (((ji8)).toNat * 4)).off + 3, none⟩ = some (.int .u32 ((rd_T24 l0 (ji8)).f3)) ∧ w'.cell? (Aq.add ((a1).toNat * 4)) = some (.int .i64 ((rd_T24 l0 a1).f0)) ∧ cA w' (Aq.add ((a1).toNat * 4)) 1 (.int .i64 ((rd_T24 l0 a1).f1)) ∧ cA w' (Aq.add ((a1).toNat * 4)) 2 (.int .i64 ((rd_T24 l0 a1).f2)) ∧ cA w' (Aq.add ((a1).toNat * 4)) 3 (.int .u32 ((rd_T24 l0 a1).f3))) (ds := []) #[false, false, false, false, false, false, false, false, false, false, false] (by kernel_rfl) rfl rfl ⟨Ah, Ai, Aj, Ak, Al, An, Ao, Ap⟩ (fun hHeld => ?_); refine with_tabW slices_symMergeCmpFunc_api_Point.tab5 slices_symMergeCmpFunc_api_Point.bits5 (fun HT_ HW_ => ?_)
          (first | generalize wr.drew = w15 at Ab HK HB Ah Ai Aj Ak Al An Ao Ap hHeld ⊢ | generalize wr.drew = w15 at HK HB Ah Ai Aj Ak Al An Ao Ap hHeld ⊢)
          refine pui 0 40 11 1 HT_ ?_
          refine pui 1 41 11 3 HT_ ?_
          refine pui 2 42 11 7 HT_ ?_
          refine pui 3 43 11 15 HT_ ?_
          refine pui 5 45 11 47 HT_ ?_
          refine pui 6 46 11 111 HT_ ?_
          refine pui 7 47 11 239 HT_ ?_
          refine tki 4 44 11 255 HT_ HW_ hHeld ?_
          refine tki 8 48 11 511 HT_ HW_ hHeld ?_
          refine onei 9 49 11 1023 HT_ (fun K hK => ?_)
          refine goesV_ Try.func48 (by kernel_rfl) rfl #[.agg #[.int .i64 ((rd_T24 l0 (ji8)).f0), .int .i64 ((rd_T24 l0 (ji8)).f1), .int .i64 ((rd_T24 l0 (ji8)).f2), .int .u32 ((rd_T24 l0 (ji8)).f3)], .agg #[.int .i64 ((rd_T24 l0 a1).f0), .int .i64 ((rd_T24 l0 a1).f1), .int .i64 ((rd_T24 l0 a1).f2), .int .u32 ((rd_T24 l0 a1).f3)]] (by rfl) rfl rfl (by (try simp only [List.map_toArray, List.map_cons, List.map_nil]); first | done | (simp only [hji8]; rfl) | rfl | (simp only [List.length_drop, List.length_take]; rfl)) ?_
          with_reducible refine (point_Order_1.calls ((rd_T24 l0 (ji8)).f0) ((rd_T24 l0 (ji8)).f1) ((rd_T24 l0 (ji8)).f2) ((rd_T24 l0 (ji8)).f3) ((rd_T24 l0 a1).f0) ((rd_T24 l0 a1).f1) ((rd_T24 l0 a1).f2) ((rd_T24 l0 a1).f3) t131 _ A13.out).mono ?_
          rintro e w17 ⟨rfl, hb⟩
          have HS0_ := (hb.cell (World.block_lt_of_cell? _ _ (hHeld.1))).trans (hHeld.1)
          have HS1_ := (hb.cell (World.block_lt_of_cell? _ _ (hHeld.2.1))).trans (hHeld.2.1)
          have HS2_ := (hb.cell (World.block_lt_of_cell? _ _ (hHeld.2.2.1))).trans (hHeld.2.2.1)
          have HS3_ := (hb.cell (World.block_lt_of_cell? _ _ (hHeld.2.2.2.1))).trans (hHeld.2.2.2.1)
          have HS4_ := (hb.cell (World.block_lt_of_cell? _ _ (hHeld.2.2.2.2.1))).trans (hHeld.2.2.2.2.1)
          have HS5_ := (hb.cell (World.block_lt_of_cell? _ _ (hHeld.2.2.2.2.2.1))).trans (hHeld.2.2.2.2.2.1)
          have HS6_ := (hb.cell (World.block_lt_of_cell? _ _ (hHeld.2.2.2.2.2.2.1))).trans (hHeld.2.2.2.2.2.2.1)
          have HS7_ := (hb.cell (World.block_lt_of_cell? _ _ (hHeld.2.2.2.2.2.2.2))).trans (hHeld.2.2.2.2.2.2.2)
          refine ⟨_, rfl, ?_⟩
          replace Ab := bRa Ab hb
          replace HK := Am (Kept.below (S := (fun k_ => P0_ k_)) (by repeat (first | (with_reducible first | exact HK.out | apply Kept.alloc | apply Kept.drewN | apply Kept.drew) | exact HK.out)) hb)
          replace HB := Am (below_step (pB HB.out) hb)
          (try clear hb)
          (try clear hb2)
          (try clear hk)
          (try clear hi)
          refine hK.out _ _ ⟨HS0_, HS1_, HS2_, HS3_, HS4_, HS5_, HS6_, HS7_⟩ (fun hHeld => ?_)
          clear hK K
          refine norm_ (a' := ?_) ?_ ?_
          rotate_left
          · show Act.put _ (some 49) _ = _
            simp only [Act.put, List.setIfInBounds_toArray, List.set_cons_zero, List.set_cons_succ, i64_w, i32_w]
            rfl
          refine pui 10 50 11 2047 HT_ ?_
          refine done_ (done_of HT_.out (by kernel_rfl)) ?_
          try go_wp2
          go_roundg k1
          case measure => have := HK1.out; omega
          case rel => exact ⟨(wrap64 ((ji8) + 1)), (Bz), (by first | rfl | (simp; done) | (simp only [← hji8] <;> (first | rfl | simp)) | (simp [*]; done)), (by first | rfl | (simp; done) | (simp [*]; done)), H', ⟨by have := HK1.out; omega⟩, ⟨by (with_reducible repeat (first | apply Kd.R_alloc | apply Kd.R_drewN | apply Kd.R_drew)); exact Ab.out⟩, ⟨by repeat (first | (with_reducible first | exact HK.out | apply Kept.alloc | apply Kept.drewN | apply Kept.drew) | exact HK.out)⟩, ⟨pB HB.out⟩⟩
        rw [if_neg c14] at H
        have c14b0 : decide (t131 < 0) = false := decide_eq_false c14
        clear c14
        have H' := Am H
        clear H
        try go_wp2
        replace Ab := dRa Ab
        replace HK := Am (Kept.drew HK.out)
        replace HB := bDa HB
        obtain ⟨Ao19, co19, Cv⟩ := Kd.R_slice Ab.out
        (first | subst Cv | (injection Cv with f1_ f2_ f3_; have f4_ := f1_.symm; have f5_ := f3_.symm; clear f1_ f2_ f3_; subst f4_; subst f5_))
        have p129 : 0 ≤ ((ji8) : Int) := of_decide_eq_true pS
        have q129 : (ji8) < (l0.length : Int) := of_decide_eq_true pS
        obtain ⟨Aq, e129, Ah, Ai, Aj, Ak⟩ := at_T24 (Kd.R_reads' Ab.out).2.2 (ji8) p129 q129
        cases e129
        replace p129 := eq_true p129
        replace q129 := eq_true q129
        have p130 : 0 ≤ (a1 : Int) := of_decide_eq_true pS
        have q130 : a1 < (l0.length : Int) := of_decide_eq_true pS
        obtain ⟨Cj, e130, Al, An, Ao, Ap⟩ := at_T24 (Kd.R_reads' Ab.out).2.2 a1 p130 q130
        obtain rfl : Aq = Cj := (by injection e130)
        replace p130 := eq_true p130
        replace q130 := eq_true q130
        refine start_ (n := 11) (S := fun w' => w'.cell? (Aq.add (((ji8)).toNat * 4)) = some (.int .i64 ((rd_T24 l0 (ji8)).f0)) ∧ w'.cell? ⟨(Aq.add (((ji8)).toNat * 4)).block, (Aq.add (((ji8)).toNat * 4)).off + 1, none⟩ = some (.int .i64 ((rd_T24 l0 (ji8)).f1)) ∧ w'.cell? ⟨(Aq.add (((ji8)).toNat * 4)).block, (Aq.add (((ji8)).toNat * 4)).off + 2, none⟩ = some (.int .i64 ((rd_T24 l0 (ji8)).f2)) ∧ w'.cell? ⟨(Aq.add (((ji8)).toNat * 4)).block, (Aq.add (((ji8)).toNat * 4)).off + 3, none⟩ = some (.int .u32 ((rd_T24 l0 (ji8)).f3)) ∧ w'.cell? (Aq.add ((a1).toNat * 4)) = some (.int .i64 ((rd_T24 l0 a1).f0)) ∧ cA w' (Aq.add ((a1).toNat * 4)) 1 (.int .i64 ((rd_T24 l0 a1).f1)) ∧ cA w' (Aq.add ((a1).toNat * 4)) 2 (.int .i64 ((rd_T24 l0 a1).f2)) ∧ cA w' (Aq.add ((a1).toNat * 4)) 3 (.int .u32 ((rd_T24 l0 a1).f3))) (ds := []) #[false, false, false, false, false, false, false, false, false, false, false] (by kernel_rfl) rfl rfl ⟨Ah, Ai, Aj, Ak, Al, An, Ao, Ap⟩ (fun hHeld => ?_); refine with_tabW slices_symMergeCmpFunc_api_Point.tab5 slices_symMergeCmpFunc_api_Point.bits5 (fun HT_ HW_ => ?_)
        (first | generalize wr.drew = w18 at Ab HK HB Ah Ai Aj Ak Al An Ao Ap hHeld ⊢ | generalize wr.drew = w18 at HK HB Ah Ai Aj Ak Al An Ao Ap hHeld ⊢)
        refine pui 0 40 11 1 HT_ ?_
        refine pui 1 41 11 3 HT_ ?_
        refine pui 2 42 11 7 HT_ ?_
        refine pui 3 43 11 15 HT_ ?_
        refine pui 5 45 11 47 HT_ ?_
        refine pui 6 46 11 111 HT_ ?_
        refine pui 7 47 11 239 HT_ ?_
        refine tki 4 44 11 255 HT_ HW_ hHeld ?_
        refine tki 8 48 11 511 HT_ HW_ hHeld ?_
        refine onei 9 49 11 1023 HT_ (fun K hK => ?_)
        refine goesV_ Try.func48 (by kernel_rfl) rfl #[.agg #[.int .i64 ((rd_T24 l0 (ji8)).f0), .int .i64 ((rd_T24 l0 (ji8)).f1), .int .i64 ((rd_T24 l0 (ji8)).f2), .int .u32 ((rd_T24 l0 (ji8)).f3)], .agg #[.int .i64 ((rd_T24 l0 a1).f0), .int .i64 ((rd_T24 l0 a1).f1), .int .i64 ((rd_T24 l0 a1).f2), .int .u32 ((rd_T24 l0 a1).f3)]] (by rfl) rfl rfl (by (try simp only [List.map_toArray, List.map_cons, List.map_nil]); first | done | (simp only [hji8]; rfl) | rfl | (simp only [List.length_drop, List.length_take]; rfl)) ?_
        with_reducible refine (point_Order_1.calls ((rd_T24 l0 (ji8)).f0) ((rd_T24 l0 (ji8)).f1) ((rd_T24 l0 (ji8)).f2) ((rd_T24 l0 (ji8)).f3) ((rd_T24 l0 a1).f0) ((rd_T24 l0 a1).f1) ((rd_T24 l0 a1).f2) ((rd_T24 l0 a1).f3) t131 _ A13.out).mono ?_
        rintro e w20 ⟨rfl, hb⟩
        have HS0_ := (hb.cell (World.block_lt_of_cell? _ _ (hHeld.1))).trans (hHeld.1)
        have HS1_ := (hb.cell (World.block_lt_of_cell? _ _ (hHeld.2.1))).trans (hHeld.2.1)
        have HS2_ := (hb.cell (World.block_lt_of_cell? _ _ (hHeld.2.2.1))).trans (hHeld.2.2.1)
        have HS3_ := (hb.cell (World.block_lt_of_cell? _ _ (hHeld.2.2.2.1))).trans (hHeld.2.2.2.1)
        have HS4_ := (hb.cell (World.block_lt_of_cell? _ _ (hHeld.2.2.2.2.1))).trans (hHeld.2.2.2.2.1)
        have HS5_ := (hb.cell (World.block_lt_of_cell? _ _ (hHeld.2.2.2.2.2.1))).trans (hHeld.2.2.2.2.2.1)
        have HS6_ := (hb.cell (World.block_lt_of_cell? _ _ (hHeld.2.2.2.2.2.2.1))).trans (hHeld.2.2.2.2.2.2.1)
        have HS7_ := (hb.cell (World.block_lt_of_cell? _ _ (hHeld.2.2.2.2.2.2.2))).trans (hHeld.2.2.2.2.2.2.2)
        refine ⟨_, rfl, ?_⟩
        replace Ab := bRa Ab hb
        replace HK := Am (Kept.below (S := (fun k_ => P0_ k_)) (by repeat (first | (with_reducible first | exact HK.out | apply Kept.alloc | apply Kept.drewN | apply Kept.drew) | exact HK.out)) hb)
        replace HB := Am (below_step (pB HB.out) hb)
        (try clear hb)
        (try clear hb2)
        (try clear hk)
        (try clear hi)
        refine hK.out _ _ ⟨HS0_, HS1_, HS2_, HS3_, HS4_, HS5_, HS6_, HS7_⟩ (fun hHeld => ?_)
        clear hK K
        refine norm_ (a' := ?_) ?_ ?_
        rotate_left
        · show Act.put _ (some 49) _ = _
          simp only [Act.put, List.setIfInBounds_toArray, List.set_cons_zero, List.set_cons_succ, i64_w, i32_w]
          rfl
        refine pui 10 50 11 2047 HT_ ?_
        refine done_ (done_of HT_.out (by kernel_rfl)) ?_
        try go_wp2
        go_roundg k1
        case measure => have := HK1.out; omega
        case rel => exact ⟨(A9), (ji8), (by first | rfl | (simp; done) | (simp [*]; done)), (by first | rfl | (simp; done) | (simp only [← hji8] <;> (first | rfl | simp)) | (simp [*]; done)), H', ⟨by have := HK1.out; omega⟩, ⟨by (with_reducible repeat (first | apply Kd.R_alloc | apply Kd.R_drewN | apply Kd.R_drew)); exact Ab.out⟩, ⟨by repeat (first | (with_reducible first | exact HK.out | apply Kept.alloc | apply Kept.drewN | apply Kept.drew) | exact HK.out)⟩, ⟨pB HB.out⟩⟩
      rw [if_neg c7] at H
      have c7b0 : decide (A9 < Bz) = false := decide_eq_false c7
      clear c7
      have H' := Am H
      clear H
      go_wp2
      go_loopg [13] k1 (fun kq v13 w' => ∃ (Aa : List (S24)) (Ad : Int), v13 = .int .i64 Ad ∧ Aside0 (slices_symMergeCmpFunc_api_Point.l1 kq Aa A9 Ad = some r) ∧ Aside0 (kq ≤ k1) ∧ Aside0 (Kd.R k24 24 w' w0.heap.size (fun k_ => (P0_ k_ ∨ w.heap.size ≤ k_)) u9000_ Aa) ∧ Aside0 (Kept w w' (fun k_ => P0_ k_)) ∧ Aside0 (Below w0.heap.size w0 w'))
      case atStart => exact ⟨(l0), (a1), (by first | rfl | (simp; done) | (simp [*]; done)), H', ⟨Nat.le_refl _⟩, ⟨by (with_reducible repeat (first | apply Kd.R_alloc | apply Kd.R_drewN | apply Kd.R_drew)); exact Ab.out⟩, ⟨by repeat (first | (with_reducible first | exact HK.out | apply Kept.alloc | apply Kept.drewN | apply Kept.drew) | exact HK.out)⟩, ⟨pB HB.out⟩⟩
      case round =>
        clear H'
        try clear c1
        try clear p1
        try clear q1
        try clear hx1
        try clear p2
        try clear c4
        try clear c6
        try clear c6b0
        try clear c6b1
        try clear p6
        try clear c7
        try clear c7b0
        try clear c9
        try clear c9b0
        try clear c10
        try clear c10b0
        try clear c11
        try clear c11b0
        try clear c12
        try clear c12b0
        try clear p12
        try clear q12
        try clear hx12
        try clear p13
        try clear q13
        try clear hx13
        try clear c14
        try clear c14b0
        try clear Ah
        try clear Ai
        try clear Aj
        try clear Ak
        try clear Al
        try clear An
        try clear Ao
        try clear Ap
        try clear p129
        try clear p130
        try clear p2
        try clear p6
        try clear q129
        try clear q130
        obtain ⟨Aa, Ad, rfl, HA, HK2, Ab, HK, HB⟩ := hrel
        cases gk with
        | zero => exact absurd HA.out (by simp [slices_symMergeCmpFunc_api_Point.l1])
        | succ k2 =>
          have H := HA.out
          clear HA
          simp only [slices_symMergeCmpFunc_api_Point.l1] at H
          by_cases c21 : Ad < (wrap64 (A9 - 1))
          rotate_left
          · rw [if_neg c21] at H
            have c21b0 : decide (Ad < (wrap64 (A9 - 1))) = false := decide_eq_false c21
            clear c21
            obtain rfl := Option.some.inj H
            go_wp2
            first | go_end0 | ((try simp only [Exit.inBlock, Exit.then]); refine bodyPost_ret (results_none rfl _ _ _) rfl ?_)
            exact ⟨pX, by (with_reducible repeat (first | apply Kd.R_alloc | apply Kd.R_drewN | apply Kd.R_drew)); exact Ab.out, pB HB.out, by repeat (first | (with_reducible first | exact HK.out | apply Kept.alloc | apply Kept.drewN | apply Kept.drew) | exact HK.out)⟩
          rw [if_pos c21] at H
          have c21b0 : decide (Ad < (wrap64 (A9 - 1))) = true := decide_eq_true c21
          clear c21
          obtain ⟨ji22, hji22⟩ : ∃ j_ : Int, (wrap64 (Ad + 1)) = j_ := ⟨_, rfl⟩
          replace H : (if 0 ≤ (ji22) then (if (ji22) < (Aa.length : Int) then (if 0 ≤ Ad then (if Ad < (Aa.length : Int) then (slices_symMergeCmpFunc_api_Point.l1 k2 ((Aa.set (Ad : Int).toNat (⟨(rd_T24 Aa (ji22)).f0, (rd_T24 Aa (ji22)).f1, (rd_T24 Aa (ji22)).f2, (rd_T24 Aa (ji22)).f3⟩ : S24)).set ((ji22) : Int).toNat (⟨(rd_T24 Aa Ad).f0, (rd_T24 Aa Ad).f1, (rd_T24 Aa Ad).f2, (rd_T24 Aa Ad).f3⟩ : S24)) A9 ji22) else (none)) else (none)) else (none)) else (none)) = some r := by first | (rw [hji22] at H; exact H) | (simp only [hji22] at H ⊢; exact H)
          (try rw [hji22] at c6b0)
          (try rw [hji22] at c6b1)
          (try rw [hji22] at c21b0)
          have hji22w : (IntKind.i64.wrap (Ad + 1)) = ji22 := (i64_w _).trans hji22
          by_cases c23 : 0 ≤ (ji22)
          rotate_left
          · rw [if_neg c23] at H
            exact absurd H (by simp)
          rw [if_pos c23] at H
          have c23b0 : decide (0 ≤ (ji22)) = true := decide_eq_true c23
          clear c23
          by_cases c24 : (ji22) < (Aa.length : Int)
          rotate_left
          · rw [if_neg c24] at H
            exact absurd H (by simp)
          rw [if_pos c24] at H
          have c24b0 : decide ((ji22) < (Aa.length : Int)) = true := decide_eq_true c24
          clear c24
          by_cases c25 : 0 ≤ Ad
          rotate_left
          · rw [if_neg c25] at H
            exact absurd H (by simp)
          rw [if_pos c25] at H
          have c25b0 : decide (0 ≤ Ad) = true := decide_eq_true c25
          clear c25
          by_cases c26 : Ad < (Aa.length : Int)
          rotate_left
          · rw [if_neg c26] at H
            exact absurd H (by simp)
          rw [if_pos c26] at H
          have c26b0 : decide (Ad < (Aa.length : Int)) = true := decide_eq_true c26
          clear c26
          obtain ⟨y134, hy134⟩ : ∃ y_ : List (S24), y_ = (Aa.set (Ad : Int).toNat (⟨(rd_T24 Aa (ji22)).f0, (rd_T24 Aa (ji22)).f1, (rd_T24 Aa (ji22)).f2, (rd_T24 Aa (ji22)).f3⟩ : S24)) := ⟨_, rfl⟩
          replace H : (slices_symMergeCmpFunc_api_Point.l1 k2 (y134.set ((ji22) : Int).toNat (⟨(rd_T24 Aa Ad).f0, (rd_T24 Aa Ad).f1, (rd_T24 Aa Ad).f2, (rd_T24 Aa Ad).f3⟩ : S24)) A9 ji22) = some r := by first | (rw [hy134]; with_reducible exact H) | (have H2_ := (Option.bind_some _ _).symm.trans H; rw [hy134]; with_reducible exact H2_) | (have H2_ := (Option.bind_some _ _).symm.trans H; with_reducible exact H2_) | with_reducible exact H | (rw [hy134]; exact H) | exact H
          have Ny134 := Am hy134
          clear hy134
          obtain ⟨y135, hy135⟩ : ∃ y_ : List (S24), y_ = (y134.set ((ji22) : Int).toNat (⟨(rd_T24 Aa Ad).f0, (rd_T24 Aa Ad).f1, (rd_T24 Aa Ad).f2, (rd_T24 Aa Ad).f3⟩ : S24)) := ⟨_, rfl⟩
          replace H : (slices_symMergeCmpFunc_api_Point.l1 k2 y135 A9 ji22) = some r := by first | (rw [hy135]; with_reducible exact H) | (have H2_ := (Option.bind_some _ _).symm.trans H; rw [hy135]; with_reducible exact H2_) | (have H2_ := (Option.bind_some _ _).symm.trans H; with_reducible exact H2_) | with_reducible exact H | (rw [hy135]; exact H) | exact H
          have Ny135 := Am hy135
          clear hy135
          have H' := Am H
          clear H
          try go_wp2
          replace Ab := dRa Ab
          replace HK := Am (Kept.drew HK.out)
          replace HB := bDa HB
          obtain ⟨Ao30, co30, Cw⟩ := Kd.R_slice Ab.out
          (first | subst Cw | (injection Cw with f1_ f2_ f3_; have f4_ := f1_.symm; have f5_ := f3_.symm; clear f1_ f2_ f3_; subst f4_; subst f5_))
          have p132 : 0 ≤ ((ji22) : Int) := of_decide_eq_true pS
          have q132 : (ji22) < (Aa.length : Int) := of_decide_eq_true pS
          obtain ⟨Cb, e132, A1, A2, A3, A4⟩ := at_T24 (Kd.R_reads' Ab.out).2.2 (ji22) p132 q132
          cases e132
          replace p132 := eq_true p132
          replace q132 := eq_true q132
          have p133 : 0 ≤ (Ad : Int) := of_decide_eq_true pS
          have q133 : Ad < (Aa.length : Int) := of_decide_eq_true pS
          obtain ⟨C6, e133, A5, A6, A7, A8⟩ := at_T24 (Kd.R_reads' Ab.out).2.2 Ad p133 q133
          obtain rfl : Cb = C6 := (by injection e133)
          replace p133 := eq_true p133
          replace q133 := eq_true q133
          have p27 : 0 ≤ (Ad : Int) := of_decide_eq_true pS
          have q27 : (Ad : Int) < ((Aa.length : Int) : Int) := of_decide_eq_true pS
          obtain ⟨go27, co27, Cx, Cy, gl27, cl27, HG27⟩ := Kd.R_form Ab.out (by omega)
          (first | cases Cx | (injection Cx with ea_ en_ ec_; (first | subst ea_ | (injection ea_ with ea_; subst ea_)); subst ec_; clear en_))
          have GB27 := Am Cy
          have GG27 := Am HG27
          clear Cy gl27 HG27
          have HMgo27 := Am (show (P0_ go27 ∨ w.heap.size ≤ go27) from (Ab.out.1 _ rfl))
          (first | simp only [add_plain] at A1 | skip)
          (first | simp only [add_plain] at A2 | skip)
          (first | simp only [add_plain] at A3 | skip)
          (first | simp only [add_plain] at A4 | skip)
          (first | simp only [add_plain] at A5 | skip)
          (first | simp only [add_plain] at A6 | skip)
          (first | simp only [add_plain] at A7 | skip)
          (first | simp only [add_plain] at A8 | skip)
          obtain ⟨ce27, hcl27, hM27, hcc27, hfr27⟩ := Kd.R_elem Ab.out z24 (Ad : Int) p27 q27
          obtain rfl := k24_openM hM27
          have Br : World.cell? _ ⟨go27, (Ad : Int).toNat * 4, none⟩ = some (.int .i64 ((rd_T24 Aa Ad).f0)) := hcc27 0 _ rfl
          have Bs : World.cell? _ ⟨go27, (Ad : Int).toNat * 4 + 1, none⟩ = some (.int .i64 ((rd_T24 Aa Ad).f1)) := hcc27 1 _ rfl
          have Bt : World.cell? _ ⟨go27, (Ad : Int).toNat * 4 + 2, none⟩ = some (.int .i64 ((rd_T24 Aa Ad).f2)) := hcc27 2 _ rfl
          have Bu : World.cell? _ ⟨go27, (Ad : Int).toNat * 4 + 3, none⟩ = some (.int .u32 ((rd_T24 Aa Ad).f3)) := hcc27 3 _ rfl
          have hf27_0 : World.frozen? _ ⟨go27, (Ad : Int).toNat * 4, none⟩ = false := hfr27 0
          have hf27_1 : World.frozen? _ ⟨go27, (Ad : Int).toNat * 4 + 1, none⟩ = false := hfr27 1
          have hf27_2 : World.frozen? _ ⟨go27, (Ad : Int).toNat * 4 + 2, none⟩ = false := hfr27 2
          have hf27_3 : World.frozen? _ ⟨go27, (Ad : Int).toNat * 4 + 3, none⟩ = false := hfr27 3
          clear hcl27 hcc27 hfr27 hM27
          replace p27 := eq_true p27
          replace q27 := eq_true q27
          obtain ⟨ce31, hcl31, hM31, hcc31, hfr31⟩ := Kd.R_elem Ab.out z24 (Ad : Int) (of_decide_eq_true pS) (by have h_ : (Ad : Int) < ((Aa.length : Int) : Int) := of_decide_eq_true pS; first | exact h_ | (have e_ := (Kd.R_reads' Ab.out).1; omega) | simpa using h_)
          obtain rfl := k24_openM hM31
          have HP31 := (Kd.R_seg Ab.out (Ad : Int) (of_decide_eq_true pS) (by have h_ : (Ad : Int) < ((Aa.length : Int) : Int) := of_decide_eq_true pS; first | exact h_ | (have e_ := (Kd.R_reads' Ab.out).1; omega) | simpa using h_) (seg := [.int .i64 ((rd_T24 Aa (ji22)).f0), .int .i64 ((rd_T24 Aa (ji22)).f1), .int .i64 ((rd_T24 Aa (ji22)).f2), .int .u32 ((rd_T24 Aa (ji22)).f3)]) (j := 0) hcl31 hcc31 (show 4 ≤ 4 from by decide) (x' := (⟨(rd_T24 Aa (ji22)).f0, (rd_T24 Aa (ji22)).f1, (rd_T24 Aa (ji22)).f2, (rd_T24 Aa (ji22)).f3⟩ : S24)) (k24_mkM _ _ _ (⟨(rd_T24 Aa (ji22)).f0, (rd_T24 Aa (ji22)).f1, (rd_T24 Aa (ji22)).f2, (rd_T24 Aa (ji22)).f3⟩ : S24) ) (fun _ hk => hk)).1
          rw [← Ny134.out] at HP31
          have HQ31 := Am HP31
          clear hcl31 hcc31 hfr31 hM31 HP31
          have p28 : 0 ≤ ((ji22) : Int) := of_decide_eq_true pS
          have q28 : ((ji22) : Int) < ((Aa.length : Int) : Int) := of_decide_eq_true pS
          obtain ⟨ce28, hcl28, hM28, hcc28, hfr28⟩ := Kd.R_elem HQ31.out z24 ((ji22) : Int) p28 q28
          obtain rfl := k24_openM hM28
          have Bv : World.cell? _ ⟨go27, ((ji22) : Int).toNat * 4, none⟩ = some (.int .i64 ((rd_T24 y134 (ji22)).f0)) := hcc28 0 _ rfl
          have Bw : World.cell? _ ⟨go27, ((ji22) : Int).toNat * 4 + 1, none⟩ = some (.int .i64 ((rd_T24 y134 (ji22)).f1)) := hcc28 1 _ rfl
          have Bx : World.cell? _ ⟨go27, ((ji22) : Int).toNat * 4 + 2, none⟩ = some (.int .i64 ((rd_T24 y134 (ji22)).f2)) := hcc28 2 _ rfl
          have By : World.cell? _ ⟨go27, ((ji22) : Int).toNat * 4 + 3, none⟩ = some (.int .u32 ((rd_T24 y134 (ji22)).f3)) := hcc28 3 _ rfl
          have hf28_0 : World.frozen? _ ⟨go27, ((ji22) : Int).toNat * 4, none⟩ = false := hfr28 0
          have hf28_1 : World.frozen? _ ⟨go27, ((ji22) : Int).toNat * 4 + 1, none⟩ = false := hfr28 1
          have hf28_2 : World.frozen? _ ⟨go27, ((ji22) : Int).toNat * 4 + 2, none⟩ = false := hfr28 2
          have hf28_3 : World.frozen? _ ⟨go27, ((ji22) : Int).toNat * 4 + 3, none⟩ = false := hfr28 3
          clear hcl28 hcc28 hfr28 hM28
          replace p28 := eq_true p28
          replace q28 := eq_true q28
          obtain ⟨ce32, hcl32, hM32, hcc32, hfr32⟩ := Kd.R_elem HQ31.out z24 ((ji22) : Int) (of_decide_eq_true pS) (by have h_ : ((ji22) : Int) < ((Aa.length : Int) : Int) := of_decide_eq_true pS; first | exact h_ | (have e_ := (Kd.R_reads' Ab.out).1; omega) | simpa using h_)
          obtain rfl := k24_openM hM32
          have HP32 := (Kd.R_seg HQ31.out ((ji22) : Int) (of_decide_eq_true pS) (by have h_ : ((ji22) : Int) < ((Aa.length : Int) : Int) := of_decide_eq_true pS; first | exact h_ | (have e_ := (Kd.R_reads' Ab.out).1; omega) | simpa using h_) (seg := [.int .i64 ((rd_T24 Aa Ad).f0), .int .i64 ((rd_T24 Aa Ad).f1), .int .i64 ((rd_T24 Aa Ad).f2), .int .u32 ((rd_T24 Aa Ad).f3)]) (j := 0) hcl32 hcc32 (show 4 ≤ 4 from by decide) (x' := (⟨(rd_T24 Aa Ad).f0, (rd_T24 Aa Ad).f1, (rd_T24 Aa Ad).f2, (rd_T24 Aa Ad).f3⟩ : S24)) (k24_mkM _ _ _ (⟨(rd_T24 Aa Ad).f0, (rd_T24 Aa Ad).f1, (rd_T24 Aa Ad).f2, (rd_T24 Aa Ad).f3⟩ : S24) ) (fun _ hk => hk)).1
          rw [← Ny135.out] at HP32
          have HQ32 := Am HP32
          clear hcl32 hcc32 hfr32 hM32 HP32
          refine start_ (n := 18) (S := fun w' => w'.cell? ⟨go27, (((ji22)).toNat * 4), none⟩ = some (.int .i64 ((rd_T24 Aa (ji22)).f0)) ∧ w'.cell? ⟨go27, (((ji22)).toNat * 4) + 1, none⟩ = some (.int .i64 ((rd_T24 Aa (ji22)).f1)) ∧ w'.cell? ⟨go27, (((ji22)).toNat * 4) + 2, none⟩ = some (.int .i64 ((rd_T24 Aa (ji22)).f2)) ∧ w'.cell? ⟨go27, (((ji22)).toNat * 4) + 3, none⟩ = some (.int .u32 ((rd_T24 Aa (ji22)).f3)) ∧ w'.cell? ⟨go27, ((Ad).toNat * 4), none⟩ = some (.int .i64 ((rd_T24 Aa Ad).f0)) ∧ w'.cell? ⟨go27, ((Ad).toNat * 4) + 1, none⟩ = some (.int .i64 ((rd_T24 Aa Ad).f1)) ∧ w'.cell? ⟨go27, ((Ad).toNat * 4) + 2, none⟩ = some (.int .i64 ((rd_T24 Aa Ad).f2)) ∧ w'.cell? ⟨go27, ((Ad).toNat * 4) + 3, none⟩ = some (.int .u32 ((rd_T24 Aa Ad).f3))) (ds := [15, 17]) #[false, false, false, false, false, false, false, false, false, false, false, false, false, false, false, false, false, false] (by kernel_rfl) rfl rfl ⟨A1, A2, A3, A4, A5, A6, A7, A8⟩ (fun hHeld => ?_); refine with_tabW slices_symMergeCmpFunc_api_Point.tab11 slices_symMergeCmpFunc_api_Point.bits11 (fun HT_ HW_ => ?_)
          (first | generalize wr.drew = w29 at Ab HK HB GG27 HQ31 HQ32 hf27_0 hf27_1 hf27_2 hf27_3 hf28_0 hf28_1 hf28_2 hf28_3 A1 A2 A3 A4 A5 A6 A7 A8 Br Bs Bt Bu Bv Bw Bx By hHeld ⊢ | generalize wr.drew = w29 at HK HB GG27 HQ31 HQ32 hf27_0 hf27_1 hf27_2 hf27_3 hf28_0 hf28_1 hf28_2 hf28_3 A1 A2 A3 A4 A5 A6 A7 A8 Br Bs Bt Bu Bv Bw Bx By hHeld ⊢)
          refine pui 0 61 18 1 HT_ ?_
          refine pui 1 62 18 3 HT_ ?_
          refine pui 2 63 18 7 HT_ ?_
          refine pui 3 64 18 15 HT_ ?_
          refine pui 4 65 18 31 HT_ ?_
          refine pui 5 66 18 63 HT_ ?_
          refine pui 6 67 18 127 HT_ ?_
          refine pui 7 68 18 255 HT_ ?_
          refine pui 8 69 18 511 HT_ ?_
          refine pui 10 71 18 1535 HT_ ?_
          refine pui 11 72 18 3583 HT_ ?_
          refine pui 12 73 18 7679 HT_ ?_
          refine tki 9 70 18 8191 HT_ HW_ hHeld ?_
          refine tki 13 74 18 16383 HT_ HW_ hHeld ?_
          refine pui 14 75 18 32767 HT_ ?_
          refine last_ (i := 15) (N := none) (bw 18 65535) rfl rfl (one_of HT_.out (by kernel_rfl)) (by decide) (fun K hK => ?_)
          refine skip_ (w1 := ?_) (by rfl) rfl ?_ ?_
          rotate_left
          · go_simp
            rfl
          refine hK.out _ _ ?_
          clear hK K
          refine pui 16 76 18 131071 HT_ ?_
          have Bv_ := Bv
          have Bw_ := Bw
          have Bx_ := Bx
          have By_ := By
          simp [go_sem, World.setCells, show k24.sz = 4 from rfl] at Bv_ Bw_ Bx_ By_
          simp only [World.frozen?_setCells] at hf28_0 hf28_1 hf28_2 hf28_3
          refine last_ (i := 17) (N := none) (bw 18 262143) rfl rfl (one_of HT_.out (by kernel_rfl)) (by decide) (fun K hK => ?_)
          refine skip_ (w1 := ?_) (by rfl) rfl ?_ ?_
          rotate_left
          · go_simp
            rfl
          refine hK.out _ _ ?_
          clear hK K
          refine done_ (done_of HT_.out (by kernel_rfl)) ?_
          try go_wp2
          go_roundg k2
          case measure => have := HK1.out; have := HK2.out; omega
          case rel => exact ⟨(y135), (ji22), (by first | rfl | (simp; done) | (simp only [← hji22] <;> (first | rfl | simp)) | (simp [*]; done)), H', ⟨by have := HK1.out; have := HK2.out; omega⟩, ⟨by (with_reducible repeat (first | apply Kd.R_alloc | apply Kd.R_drewN | apply Kd.R_drew)); exact HQ32.out⟩, ⟨by repeat (first | (with_reducible first | exact HK.out | apply Kept.alloc | apply Kept.drewN | apply Kept.drew | refine Kept.setCell ?_ HMgo27.out _ | refine Kept.setCell ?_ HMgo27.out _ | refine Kept.setCell ?_ HMgo27.out _ | refine Kept.setCell ?_ HMgo27.out _ | refine Kept.setCell ?_ HMgo27.out _ | refine Kept.setCell ?_ HMgo27.out _ | refine Kept.setCell ?_ HMgo27.out _ | refine Kept.setCell ?_ HMgo27.out _) | exact HK.out)⟩, ⟨pE8 HB.out GB27.out GB27.out GB27.out GB27.out GB27.out GB27.out GB27.out GB27.out⟩⟩
set_option maxHeartbeats 8000000 in
set_option maxRecDepth 100000 in
theorem slices_symMergeCmpFunc_api_Point.calls_b (k : Nat) (P0_ : Nat → Prop) (u9000_ : Value) (l0 : List (S24)) (a1 : Int) (a2 : Int) (a3 : Int) (r : List (S24)) (w0 w : World) (hB : Below w0.heap.size w0 w) (ho0 : Kd.R k24 24 w w0.heap.size P0_ u9000_ l0) (c6 : ¬ (wrap64 (a2 - a1)) = 1) (c33 : (wrap64 (a3 - a2)) = 1) (H : (slices_symMergeCmpFunc_api_Point.l2 k l0 a2 a1 a2) = some r) :
    Calls Try.prog 64 #[u9000_, .int .i64 a1, .int .i64 a2, .int .i64 a3, .func (.func 48) #[] #[]] w fun e w' => e = .returned (.tuple #[]) ∧ Kd.R k24 24 w' w0.heap.size (fun k_ => (P0_ k_ ∨ w.heap.size ≤ k_)) u9000_ r ∧ Below w0.heap.size w0 w' ∧ Kept w w' (fun k_ => P0_ k_) := by
  have hu24 := Try.underlying24
  have C9 := Am (show Kd.R k24 24 w w0.heap.size (fun k_ => (P0_ k_ ∨ w.heap.size ≤ k_)) u9000_ l0 from Kd.R_mono ho0 (fun k_ hk => (.inl hk)))
  have HK := Am (Kept.refl w (fun k_ => P0_ k_))
  have HW0 := Am hB.size
  have HB := Am hB
  clear hB
  have c6b0 : ((wrap64 (a2 - a1)) == 1) = false := beq_eq_false_iff_ne.mpr c6
  have c6b1 : ((wrap64 (a2 - a1)) != 1) = true := bne_iff_ne.mpr c6
  have c33b0 : ((wrap64 (a3 - a2)) == 1) = true := beq_iff_eq.mpr c33
  have c33b1 : ((wrap64 (a3 - a2)) != 1) = false := bne_eq_false_iff_eq.mpr c33
  clear c33
  have H' := Am H
  clear H
  go_enter Try.func64, Try.ntmps64
  go_wp2
  go_loopg [14, 15] k (fun kq v14 v15 w' => ∃ (Ba : Int) (B0 : Int), v14 = .int .i64 Ba ∧ v15 = .int .i64 B0 ∧ Aside0 (slices_symMergeCmpFunc_api_Point.l2 kq l0 a2 Ba B0 = some r) ∧ Aside0 (kq ≤ k) ∧ Aside0 (Kd.R k24 24 w' w0.heap.size (fun k_ => (P0_ k_ ∨ w.heap.size ≤ k_)) u9000_ l0) ∧ Aside0 (Kept w w' (fun k_ => P0_ k_)) ∧ Aside0 (Below w0.heap.size w0 w'))
  case atStart => exact ⟨(a1), (a2), (by first | rfl | (simp; done) | (simp [*]; done)), (by first | rfl | (simp; done) | (simp [*]; done)), H', ⟨Nat.le_refl _⟩, ⟨by (with_reducible repeat (first | apply Kd.R_alloc | apply Kd.R_drewN | apply Kd.R_drew)); exact C9.out⟩, ⟨by repeat (first | (with_reducible first | exact HK.out | apply Kept.alloc | apply Kept.drewN | apply Kept.drew) | exact HK.out)⟩, ⟨pB HB.out⟩⟩
  case round =>
    clear H'
    try clear c1
    try clear p1
    try clear q1
    try clear hx1
    try clear c2
    try clear p2
    try clear q2
    try clear hx2
    try clear c3
    try clear c4
    try clear c6
    try clear c6b0
    try clear c6b1
    try clear p6
    try clear c7
    try clear c7b0
    try clear c9
    try clear c9b0
    try clear c10
    try clear c10b0
    try clear c11
    try clear c11b0
    try clear c12
    try clear c12b0
    try clear p12
    try clear q12
    try clear hx12
    try clear p13
    try clear q13
    try clear hx13
    try clear c14
    try clear c14b0
    try clear c21
    try clear c21b0
    try clear c23
    try clear c23b0
    try clear c24
    try clear c24b0
    try clear c25
    try clear c25b0
    try clear c26
    try clear c26b0
    try clear c27
    try clear p27
    try clear q27
    try clear hx27
    try clear hf27
    try clear c28
    try clear p28
    try clear q28
    try clear hx28
    try clear hf28
    try clear c31
    try clear c32
    try clear c33
    try clear c33b0
    try clear c33b1
    try clear Ah
    try clear Ai
    try clear Aj
    try clear Ak
    try clear Al
    try clear An
    try clear Ao
    try clear Ap
    try clear A1
    try clear A2
    try clear A3
    try clear A4
    try clear A5
    try clear A6
    try clear A7
    try clear A8
    try clear Br
    try clear Bs
    try clear Bt
    try clear Bu
    try clear Bv
    try clear Bw
    try clear Bx
    try clear By
    try clear p1
    try clear p12
    try clear p129
    try clear p13
    try clear p130
    try clear p132
    try clear p133
    try clear p2
    try clear p27
    try clear p28
    try clear p6
    try clear q1
    try clear q12
    try clear q129
    try clear q13
    try clear q130
    try clear q132
    try clear q133
    try clear q27
    try clear q28
    obtain ⟨Ba, B0, rfl, rfl, HA, HK1, Ab, HK, HB⟩ := hrel
    cases gk with
    | zero => exact absurd HA.out (by simp [slices_symMergeCmpFunc_api_Point.l2])
    | succ k1 =>
      have H := HA.out
      clear HA
      simp only [slices_symMergeCmpFunc_api_Point.l2] at H
      by_cases c34 : Ba < B0
      · rw [if_pos c34] at H
        have c34b0 : decide (Ba < B0) = true := decide_eq_true c34
        clear c34
        by_cases c35 : 0 ≤ a2
        rotate_left
        · rw [if_neg c35] at H
          exact absurd H (by simp)
        rw [if_pos c35] at H
        have c35b0 : decide (0 ≤ a2) = true := decide_eq_true c35
        clear c35
        by_cases c36 : a2 < (l0.length : Int)
        rotate_left
        · rw [if_neg c36] at H
          exact absurd H (by simp)
        rw [if_pos c36] at H
        have c36b0 : decide (a2 < (l0.length : Int)) = true := decide_eq_true c36
        clear c36
        obtain ⟨ji37, hji37⟩ : ∃ j_ : Int, (wrap64 ((IntKind.u64.wrap (wrap64 (Ba + B0))) / 2)) = j_ := ⟨_, rfl⟩
        replace H : (if 0 ≤ (ji37) then (if (ji37) < (l0.length : Int) then ((point_Order_1.f ((rd_T24 l0 a2).f0) ((rd_T24 l0 a2).f1) ((rd_T24 l0 a2).f2) ((rd_T24 l0 a2).f3) ((rd_T24 l0 (ji37)).f0) ((rd_T24 l0 (ji37)).f1) ((rd_T24 l0 (ji37)).f2) ((rd_T24 l0 (ji37)).f3)).bind fun t138 => (if t138 < 0 then (slices_symMergeCmpFunc_api_Point.l2 k1 l0 a2 Ba ji37) else (slices_symMergeCmpFunc_api_Point.l2 k1 l0 a2 (wrap64 ((ji37) + 1)) B0))) else (none)) else (none)) = some r := by first | (rw [hji37] at H; exact H) | (simp only [hji37] at H ⊢; exact H)
        (try rw [hji37] at c6b0)
        (try rw [hji37] at c6b1)
        (try rw [hji37] at c33b0)
        (try rw [hji37] at c33b1)
        have hji37w : (IntKind.i64.wrap ((IntKind.u64.wrap (wrap64 (Ba + B0))) / 2)) = ji37 := (i64_w _).trans hji37
        by_cases c38 : 0 ≤ (ji37)
        rotate_left
        · rw [if_neg c38] at H
          exact absurd H (by simp)
        rw [if_pos c38] at H
        have c38b0 : decide (0 ≤ (ji37)) = true := decide_eq_true c38
        clear c38
        by_cases c39 : (ji37) < (l0.length : Int)
        rotate_left
        · rw [if_neg c39] at H
          exact absurd H (by simp)
        rw [if_pos c39] at H
        have c39b0 : decide ((ji37) < (l0.length : Int)) = true := decide_eq_true c39
        clear c39
        replace H := Option.bind_eq_some_iff.mp H
        obtain ⟨t138, A400, H⟩ := H
        replace H : (if t138 < 0 then (slices_symMergeCmpFunc_api_Point.l2 k1 l0 a2 Ba ji37) else (slices_symMergeCmpFunc_api_Point.l2 k1 l0 a2 (wrap64 ((ji37) + 1)) B0)) = some r := H
        have A40 := Am A400
        clear A400
        by_cases c41 : t138 < 0
        · rw [if_pos c41] at H
          have c41b0 : decide (t138 < 0) = true := decide_eq_true c41
          clear c41
          have H' := Am H
          clear H
          try go_wp2
          replace Ab := dRa Ab
          replace HK := Am (Kept.drew HK.out)
          replace HB := bDa HB
          obtain ⟨Ao43, co43, Cz⟩ := Kd.R_slice Ab.out
          (first | subst Cz | (injection Cz with f1_ f2_ f3_; have f4_ := f1_.symm; have f5_ := f3_.symm; clear f1_ f2_ f3_; subst f4_; subst f5_))
          have p136 : 0 ≤ (a2 : Int) := of_decide_eq_true pS
          have q136 : a2 < (l0.length : Int) := of_decide_eq_true pS
          obtain ⟨Ar, e136, As, At, Au, Av⟩ := at_T24 (Kd.R_reads' Ab.out).2.2 a2 p136 q136
          cases e136
          replace p136 := eq_true p136
          replace q136 := eq_true q136
          have p137 : 0 ≤ ((ji37) : Int) := of_decide_eq_true pS
          have q137 : (ji37) < (l0.length : Int) := of_decide_eq_true pS
          obtain ⟨Ck, e137, Aw, Ax, Ay, Az⟩ := at_T24 (Kd.R_reads' Ab.out).2.2 (ji37) p137 q137
          obtain rfl : Ar = Ck := (by injection e137)
          replace p137 := eq_true p137
          replace q137 := eq_true q137
          refine start_ (n := 12) (S := fun w' => w'.cell? (Ar.add ((a2).toNat * 4)) = some (.int .i64 ((rd_T24 l0 a2).f0)) ∧ cA w' (Ar.add ((a2).toNat * 4)) 1 (.int .i64 ((rd_T24 l0 a2).f1)) ∧ cA w' (Ar.add ((a2).toNat * 4)) 2 (.int .i64 ((rd_T24 l0 a2).f2)) ∧ cA w' (Ar.add ((a2).toNat * 4)) 3 (.int .u32 ((rd_T24 l0 a2).f3)) ∧ w'.cell? (Ar.add (((ji37)).toNat * 4)) = some (.int .i64 ((rd_T24 l0 (ji37)).f0)) ∧ w'.cell? ⟨(Ar.add (((ji37)).toNat * 4)).block, (Ar.add (((ji37)).toNat * 4)).off + 1, none⟩ = some (.int .i64 ((rd_T24 l0 (ji37)).f1)) ∧ w'.cell? ⟨(Ar.add (((ji37)).toNat * 4)).block, (Ar.add (((ji37)).toNat * 4)).off + 2, none⟩ = some (.int .i64 ((rd_T24 l0 (ji37)).f2)) ∧ w'.cell? ⟨(Ar.add (((ji37)).toNat * 4)).block, (Ar.add (((ji37)).toNat * 4)).off + 3, none⟩ = some (.int .u32 ((rd_T24 l0 (ji37)).f3))) (ds := []) #[false, false, false, false, false, false, false, false, false, false, false, false] (by kernel_rfl) rfl rfl ⟨As, At, Au, Av, Aw, Ax, Ay, Az⟩ (fun hHeld => ?_); refine with_tabW slices_symMergeCmpFunc_api_Point.tab17 slices_symMergeCmpFunc_api_Point.bits17 (fun HT_ HW_ => ?_)
          (first | generalize wr.drew = w42 at Ab HK HB As At Au Av Aw Ax Ay Az hHeld ⊢ | generalize wr.drew = w42 at HK HB As At Au Av Aw Ax Ay Az hHeld ⊢)
          refine pui 0 92 12 1 HT_ ?_
          refine pui 1 93 12 3 HT_ ?_
          refine pui 2 94 12 7 HT_ ?_
          refine pui 3 95 12 15 HT_ ?_
          refine pui 5 97 12 47 HT_ ?_
          refine pui 6 98 12 111 HT_ ?_
          refine pui 7 99 12 239 HT_ ?_
          refine tki 4 96 12 255 HT_ HW_ hHeld ?_
          refine tki 8 100 12 511 HT_ HW_ hHeld ?_
          refine onei 9 101 12 1023 HT_ (fun K hK => ?_)
          refine goesV_ Try.func48 (by kernel_rfl) rfl #[.agg #[.int .i64 ((rd_T24 l0 a2).f0), .int .i64 ((rd_T24 l0 a2).f1), .int .i64 ((rd_T24 l0 a2).f2), .int .u32 ((rd_T24 l0 a2).f3)], .agg #[.int .i64 ((rd_T24 l0 (ji37)).f0), .int .i64 ((rd_T24 l0 (ji37)).f1), .int .i64 ((rd_T24 l0 (ji37)).f2), .int .u32 ((rd_T24 l0 (ji37)).f3)]] (by rfl) rfl rfl (by (try simp only [List.map_toArray, List.map_cons, List.map_nil]); first | done | (simp only [hji37]; rfl) | rfl | (simp only [List.length_drop, List.length_take]; rfl)) ?_
          with_reducible refine (point_Order_1.calls ((rd_T24 l0 a2).f0) ((rd_T24 l0 a2).f1) ((rd_T24 l0 a2).f2) ((rd_T24 l0 a2).f3) ((rd_T24 l0 (ji37)).f0) ((rd_T24 l0 (ji37)).f1) ((rd_T24 l0 (ji37)).f2) ((rd_T24 l0 (ji37)).f3) t138 _ A40.out).mono ?_
          rintro e w44 ⟨rfl, hb⟩
          have HS0_ := (hb.cell (World.block_lt_of_cell? _ _ (hHeld.1))).trans (hHeld.1)
          have HS1_ := (hb.cell (World.block_lt_of_cell? _ _ (hHeld.2.1))).trans (hHeld.2.1)
          have HS2_ := (hb.cell (World.block_lt_of_cell? _ _ (hHeld.2.2.1))).trans (hHeld.2.2.1)
          have HS3_ := (hb.cell (World.block_lt_of_cell? _ _ (hHeld.2.2.2.1))).trans (hHeld.2.2.2.1)
          have HS4_ := (hb.cell (World.block_lt_of_cell? _ _ (hHeld.2.2.2.2.1))).trans (hHeld.2.2.2.2.1)
          have HS5_ := (hb.cell (World.block_lt_of_cell? _ _ (hHeld.2.2.2.2.2.1))).trans (hHeld.2.2.2.2.2.1)
          have HS6_ := (hb.cell (World.block_lt_of_cell? _ _ (hHeld.2.2.2.2.2.2.1))).trans (hHeld.2.2.2.2.2.2.1)
          have HS7_ := (hb.cell (World.block_lt_of_cell? _ _ (hHeld.2.2.2.2.2.2.2))).trans (hHeld.2.2.2.2.2.2.2)
          refine ⟨_, rfl, ?_⟩
          replace Ab := bRa Ab hb
          replace HK := Am (Kept.below (S := (fun k_ => P0_ k_)) (by repeat (first | (with_reducible first | exact HK.out | apply Kept.alloc | apply Kept.drewN | apply Kept.drew) | exact HK.out)) hb)
          replace HB := Am (below_step (pB HB.out) hb)
          (try clear hb)
          (try clear hb2)
          (try clear hk)
          (try clear hi)
          refine hK.out _ _ ⟨HS0_, HS1_, HS2_, HS3_, HS4_, HS5_, HS6_, HS7_⟩ (fun hHeld => ?_)
          clear hK K
          refine norm_ (a' := ?_) ?_ ?_
          rotate_left
          · show Act.put _ (some 101) _ = _
            simp only [Act.put, List.setIfInBounds_toArray, List.set_cons_zero, List.set_cons_succ, i64_w, i32_w]
            rfl
          refine pui 10 102 12 2047 HT_ ?_
          refine pui 11 103 12 4095 HT_ ?_
          refine done_ (done_of HT_.out (by kernel_rfl)) ?_
          try go_wp2
          go_roundg k1
          case measure => have := HK1.out; omega
          case rel => exact ⟨(Ba), (ji37), (by first | rfl | (simp; done) | (simp [*]; done)), (by first | rfl | (simp; done) | (simp only [← hji37] <;> (first | rfl | simp)) | (simp [*]; done)), H', ⟨by have := HK1.out; omega⟩, ⟨by (with_reducible repeat (first | apply Kd.R_alloc | apply Kd.R_drewN | apply Kd.R_drew)); exact Ab.out⟩, ⟨by repeat (first | (with_reducible first | exact HK.out | apply Kept.alloc | apply Kept.drewN | apply Kept.drew) | exact HK.out)⟩, ⟨pB HB.out⟩⟩
        rw [if_neg c41] at H
        have c41b0 : decide (t138 < 0) = false := decide_eq_false c41
        clear c41
        have H' := Am H
        clear H
        try go_wp2
        replace Ab := dRa Ab
        replace HK := Am (Kept.drew HK.out)
        replace HB := bDa HB
        obtain ⟨Ao46, co46, C0⟩ := Kd.R_slice Ab.out
        (first | subst C0 | (injection C0 with f1_ f2_ f3_; have f4_ := f1_.symm; have f5_ := f3_.symm; clear f1_ f2_ f3_; subst f4_; subst f5_))
        have p136 : 0 ≤ (a2 : Int) := of_decide_eq_true pS
        have q136 : a2 < (l0.length : Int) := of_decide_eq_true pS
        obtain ⟨Ar, e136, As, At, Au, Av⟩ := at_T24 (Kd.R_reads' Ab.out).2.2 a2 p136 q136
        cases e136
        replace p136 := eq_true p136
        replace q136 := eq_true q136
        have p137 : 0 ≤ ((ji37) : Int) := of_decide_eq_true pS
        have q137 : (ji37) < (l0.length : Int) := of_decide_eq_true pS
        obtain ⟨Ck, e137, Aw, Ax, Ay, Az⟩ := at_T24 (Kd.R_reads' Ab.out).2.2 (ji37) p137 q137
        obtain rfl : Ar = Ck := (by injection e137)
        replace p137 := eq_true p137
        replace q137 := eq_true q137
        refine start_ (n := 12) (S := fun w' => w'.cell? (Ar.add ((a2).toNat * 4)) = some (.int .i64 ((rd_T24 l0 a2).f0)) ∧ cA w' (Ar.add ((a2).toNat * 4)) 1 (.int .i64 ((rd_T24 l0 a2).f1)) ∧ cA w' (Ar.add ((a2).toNat * 4)) 2 (.int .i64 ((rd_T24 l0 a2).f2)) ∧ cA w' (Ar.add ((a2).toNat * 4)) 3 (.int .u32 ((rd_T24 l0 a2).f3)) ∧ w'.cell? (Ar.add (((ji37)).toNat * 4)) = some (.int .i64 ((rd_T24 l0 (ji37)).f0)) ∧ w'.cell? ⟨(Ar.add (((ji37)).toNat * 4)).block, (Ar.add (((ji37)).toNat * 4)).off + 1, none⟩ = some (.int .i64 ((rd_T24 l0 (ji37)).f1)) ∧ w'.cell? ⟨(Ar.add (((ji37)).toNat * 4)).block, (Ar.add (((ji37)).toNat * 4)).off + 2, none⟩ = some (.int .i64 ((rd_T24 l0 (ji37)).f2)) ∧ w'.cell? ⟨(Ar.add (((ji37)).toNat * 4)).block, (Ar.add (((ji37)).toNat * 4)).off + 3, none⟩ = some (.int .u32 ((rd_T24 l0 (ji37)).f3))) (ds := []) #[false, false, false, false, false, false, false, false, false, false, false, false] (by kernel_rfl) rfl rfl ⟨As, At, Au, Av, Aw, Ax, Ay, Az⟩ (fun hHeld => ?_); refine with_tabW slices_symMergeCmpFunc_api_Point.tab17 slices_symMergeCmpFunc_api_Point.bits17 (fun HT_ HW_ => ?_)
        (first | generalize wr.drew = w45 at Ab HK HB As At Au Av Aw Ax Ay Az hHeld ⊢ | generalize wr.drew = w45 at HK HB As At Au Av Aw Ax Ay Az hHeld ⊢)
        refine pui 0 92 12 1 HT_ ?_
        refine pui 1 93 12 3 HT_ ?_
        refine pui 2 94 12 7 HT_ ?_
        refine pui 3 95 12 15 HT_ ?_
        refine pui 5 97 12 47 HT_ ?_
        refine pui 6 98 12 111 HT_ ?_
        refine pui 7 99 12 239 HT_ ?_
        refine tki 4 96 12 255 HT_ HW_ hHeld ?_
        refine tki 8 100 12 511 HT_ HW_ hHeld ?_
        refine onei 9 101 12 1023 HT_ (fun K hK => ?_)
        refine goesV_ Try.func48 (by kernel_rfl) rfl #[.agg #[.int .i64 ((rd_T24 l0 a2).f0), .int .i64 ((rd_T24 l0 a2).f1), .int .i64 ((rd_T24 l0 a2).f2), .int .u32 ((rd_T24 l0 a2).f3)], .agg #[.int .i64 ((rd_T24 l0 (ji37)).f0), .int .i64 ((rd_T24 l0 (ji37)).f1), .int .i64 ((rd_T24 l0 (ji37)).f2), .int .u32 ((rd_T24 l0 (ji37)).f3)]] (by rfl) rfl rfl (by (try simp only [List.map_toArray, List.map_cons, List.map_nil]); first | done | (simp only [hji37]; rfl) | rfl | (simp only [List.length_drop, List.length_take]; rfl)) ?_
        with_reducible refine (point_Order_1.calls ((rd_T24 l0 a2).f0) ((rd_T24 l0 a2).f1) ((rd_T24 l0 a2).f2) ((rd_T24 l0 a2).f3) ((rd_T24 l0 (ji37)).f0) ((rd_T24 l0 (ji37)).f1) ((rd_T24 l0 (ji37)).f2) ((rd_T24 l0 (ji37)).f3) t138 _ A40.out).mono ?_
        rintro e w47 ⟨rfl, hb⟩
        have HS0_ := (hb.cell (World.block_lt_of_cell? _ _ (hHeld.1))).trans (hHeld.1)
        have HS1_ := (hb.cell (World.block_lt_of_cell? _ _ (hHeld.2.1))).trans (hHeld.2.1)
        have HS2_ := (hb.cell (World.block_lt_of_cell? _ _ (hHeld.2.2.1))).trans (hHeld.2.2.1)
        have HS3_ := (hb.cell (World.block_lt_of_cell? _ _ (hHeld.2.2.2.1))).trans (hHeld.2.2.2.1)
        have HS4_ := (hb.cell (World.block_lt_of_cell? _ _ (hHeld.2.2.2.2.1))).trans (hHeld.2.2.2.2.1)
        have HS5_ := (hb.cell (World.block_lt_of_cell? _ _ (hHeld.2.2.2.2.2.1))).trans (hHeld.2.2.2.2.2.1)
        have HS6_ := (hb.cell (World.block_lt_of_cell? _ _ (hHeld.2.2.2.2.2.2.1))).trans (hHeld.2.2.2.2.2.2.1)
        have HS7_ := (hb.cell (World.block_lt_of_cell? _ _ (hHeld.2.2.2.2.2.2.2))).trans (hHeld.2.2.2.2.2.2.2)
        refine ⟨_, rfl, ?_⟩
        replace Ab := bRa Ab hb
        replace HK := Am (Kept.below (S := (fun k_ => P0_ k_)) (by repeat (first | (with_reducible first | exact HK.out | apply Kept.alloc | apply Kept.drewN | apply Kept.drew) | exact HK.out)) hb)
        replace HB := Am (below_step (pB HB.out) hb)
        (try clear hb)
        (try clear hb2)
        (try clear hk)
        (try clear hi)
        refine hK.out _ _ ⟨HS0_, HS1_, HS2_, HS3_, HS4_, HS5_, HS6_, HS7_⟩ (fun hHeld => ?_)
        clear hK K
        refine norm_ (a' := ?_) ?_ ?_
        rotate_left
        · show Act.put _ (some 101) _ = _
          simp only [Act.put, List.setIfInBounds_toArray, List.set_cons_zero, List.set_cons_succ, i64_w, i32_w]
          rfl
        refine pui 10 102 12 2047 HT_ ?_
        refine pui 11 103 12 4095 HT_ ?_
        refine done_ (done_of HT_.out (by kernel_rfl)) ?_
        try go_wp2
        go_roundg k1
        case measure => have := HK1.out; omega
        case rel => exact ⟨(wrap64 ((ji37) + 1)), (B0), (by first | rfl | (simp; done) | (simp only [← hji37] <;> (first | rfl | simp)) | (simp [*]; done)), (by first | rfl | (simp; done) | (simp [*]; done)), H', ⟨by have := HK1.out; omega⟩, ⟨by (with_reducible repeat (first | apply Kd.R_alloc | apply Kd.R_drewN | apply Kd.R_drew)); exact Ab.out⟩, ⟨by repeat (first | (with_reducible first | exact HK.out | apply Kept.alloc | apply Kept.drewN | apply Kept.drew) | exact HK.out)⟩, ⟨pB HB.out⟩⟩
      rw [if_neg c34] at H
      have c34b0 : decide (Ba < B0) = false := decide_eq_false c34
      clear c34
      have H' := Am H
      clear H
      go_wp2
      go_loopg [17] k1 (fun kq v17 w' => ∃ (Aa : List (S24)) (Ae : Int), v17 = .int .i64 Ae ∧ Aside0 (slices_symMergeCmpFunc_api_Point.l3 kq Aa Ba Ae = some r) ∧ Aside0 (kq ≤ k1) ∧ Aside0 (Kd.R k24 24 w' w0.heap.size (fun k_ => (P0_ k_ ∨ w.heap.size ≤ k_)) u9000_ Aa) ∧ Aside0 (Kept w w' (fun k_ => P0_ k_)) ∧ Aside0 (Below w0.heap.size w0 w'))
      case atStart => exact ⟨(l0), (a2), (by first | rfl | (simp; done) | (simp [*]; done)), H', ⟨Nat.le_refl _⟩, ⟨by (with_reducible repeat (first | apply Kd.R_alloc | apply Kd.R_drewN | apply Kd.R_drew)); exact Ab.out⟩, ⟨by repeat (first | (with_reducible first | exact HK.out | apply Kept.alloc | apply Kept.drewN | apply Kept.drew) | exact HK.out)⟩, ⟨pB HB.out⟩⟩
      case round =>
        clear H'
        try clear c1
        try clear p1
        try clear q1
        try clear hx1
        try clear c2
        try clear p2
        try clear q2
        try clear hx2
        try clear c3
        try clear c4
        try clear c6
        try clear c6b0
        try clear c6b1
        try clear p6
        try clear c7
        try clear c7b0
        try clear c9
        try clear c9b0
        try clear c10
        try clear c10b0
        try clear c11
        try clear c11b0
        try clear c12
        try clear c12b0
        try clear p12
        try clear q12
        try clear hx12
        try clear p13
        try clear q13
        try clear hx13
        try clear c14
        try clear c14b0
        try clear c21
        try clear c21b0
        try clear c23
        try clear c23b0
        try clear c24
        try clear c24b0
        try clear c25
        try clear c25b0
        try clear c26
        try clear c26b0
        try clear c27
        try clear p27
        try clear q27
        try clear hx27
        try clear hf27
        try clear c28
        try clear p28
        try clear q28
        try clear hx28
        try clear hf28
        try clear c31
        try clear c32
        try clear c33
        try clear c33b0
        try clear c33b1
        try clear c34
        try clear c34b0
        try clear c35
        try clear c35b0
        try clear c36
        try clear c36b0
        try clear c38
        try clear c38b0
        try clear c39
        try clear c39b0
        try clear c41
        try clear c41b0
        try clear Ah
        try clear Ai
        try clear Aj
        try clear Ak
        try clear Al
        try clear An
        try clear Ao
        try clear Ap
        try clear A1
        try clear A2
        try clear A3
        try clear A4
        try clear A5
        try clear A6
        try clear A7
        try clear A8
        try clear As
        try clear At
        try clear Au
        try clear Av
        try clear Aw
        try clear Ax
        try clear Ay
        try clear Az
        try clear Br
        try clear Bs
        try clear Bt
        try clear Bu
        try clear Bv
        try clear Bw
        try clear Bx
        try clear By
        try clear p1
        try clear p12
        try clear p129
        try clear p13
        try clear p130
        try clear p132
        try clear p133
        try clear p136
        try clear p137
        try clear p2
        try clear p27
        try clear p28
        try clear p6
        try clear q1
        try clear q12
        try clear q129
        try clear q13
        try clear q130
        try clear q132
        try clear q133
        try clear q136
        try clear q137
        try clear q2
        try clear q27
        try clear q28
        obtain ⟨Aa, Ae, rfl, HA, HK2, Ab, HK, HB⟩ := hrel
        cases gk with
        | zero => exact absurd HA.out (by simp [slices_symMergeCmpFunc_api_Point.l3])
        | succ k2 =>
          have H := HA.out
          clear HA
          simp only [slices_symMergeCmpFunc_api_Point.l3] at H
          by_cases c48 : Ae > Ba
          rotate_left
          · rw [if_neg c48] at H
            have c48b0 : decide (Ba < Ae) = false := decide_eq_false c48
            clear c48
            obtain rfl := Option.some.inj H
            go_wp2
            first | go_end0 | ((try simp only [Exit.inBlock, Exit.then]); refine bodyPost_ret (results_none rfl _ _ _) rfl ?_)
            exact ⟨pX, by (with_reducible repeat (first | apply Kd.R_alloc | apply Kd.R_drewN | apply Kd.R_drew)); exact Ab.out, pB HB.out, by repeat (first | (with_reducible first | exact HK.out | apply Kept.alloc | apply Kept.drewN | apply Kept.drew) | exact HK.out)⟩
          rw [if_pos c48] at H
          have c48b0 : decide (Ba < Ae) = true := decide_eq_true c48
          clear c48
          obtain ⟨ji49, hji49⟩ : ∃ j_ : Int, (wrap64 (Ae - 1)) = j_ := ⟨_, rfl⟩
          replace H : (if 0 ≤ (ji49) then (if (ji49) < (Aa.length : Int) then (if 0 ≤ Ae then (if Ae < (Aa.length : Int) then (slices_symMergeCmpFunc_api_Point.l3 k2 ((Aa.set (Ae : Int).toNat (⟨(rd_T24 Aa (ji49)).f0, (rd_T24 Aa (ji49)).f1, (rd_T24 Aa (ji49)).f2, (rd_T24 Aa (ji49)).f3⟩ : S24)).set ((ji49) : Int).toNat (⟨(rd_T24 Aa Ae).f0, (rd_T24 Aa Ae).f1, (rd_T24 Aa Ae).f2, (rd_T24 Aa Ae).f3⟩ : S24)) Ba ji49) else (none)) else (none)) else (none)) else (none)) = some r := by first | (rw [hji49] at H; exact H) | (simp only [hji49] at H ⊢; exact H)
          (try rw [hji49] at c6b0)
          (try rw [hji49] at c6b1)
          (try rw [hji49] at c33b0)
          (try rw [hji49] at c33b1)
          have hji49w : (IntKind.i64.wrap (Ae - 1)) = ji49 := (i64_w _).trans hji49
          by_cases c50 : 0 ≤ (ji49)
          rotate_left
          · rw [if_neg c50] at H
            exact absurd H (by simp)
          rw [if_pos c50] at H
          have c50b0 : decide (0 ≤ (ji49)) = true := decide_eq_true c50
          clear c50
          by_cases c51 : (ji49) < (Aa.length : Int)
          rotate_left
          · rw [if_neg c51] at H
            exact absurd H (by simp)
          rw [if_pos c51] at H
          have c51b0 : decide ((ji49) < (Aa.length : Int)) = true := decide_eq_true c51
          clear c51
          by_cases c52 : 0 ≤ Ae
          rotate_left
          · rw [if_neg c52] at H
            exact absurd H (by simp)
          rw [if_pos c52] at H
          have c52b0 : decide (0 ≤ Ae) = true := decide_eq_true c52
          clear c52
          by_cases c53 : Ae < (Aa.length : Int)
          rotate_left
          · rw [if_neg c53] at H
            exact absurd H (by simp)
          rw [if_pos c53] at H
          have c53b0 : decide (Ae < (Aa.length : Int)) = true := decide_eq_true c53
          clear c53
          obtain ⟨y141, hy141⟩ : ∃ y_ : List (S24), y_ = (Aa.set (Ae : Int).toNat (⟨(rd_T24 Aa (ji49)).f0, (rd_T24 Aa (ji49)).f1, (rd_T24 Aa (ji49)).f2, (rd_T24 Aa (ji49)).f3⟩ : S24)) := ⟨_, rfl⟩
          replace H : (slices_symMergeCmpFunc_api_Point.l3 k2 (y141.set ((ji49) : Int).toNat (⟨(rd_T24 Aa Ae).f0, (rd_T24 Aa Ae).f1, (rd_T24 Aa Ae).f2, (rd_T24 Aa Ae).f3⟩ : S24)) Ba ji49) = some r := by first | (rw [hy141]; with_reducible exact H) | (have H2_ := (Option.bind_some _ _).symm.trans H; rw [hy141]; with_reducible exact H2_) | (have H2_ := (Option.bind_some _ _).symm.trans H; with_reducible exact H2_) | with_reducible exact H | (rw [hy141]; exact H) | exact H
          have Ny141 := Am hy141
          clear hy141
          obtain ⟨y142, hy142⟩ : ∃ y_ : List (S24), y_ = (y141.set ((ji49) : Int).toNat (⟨(rd_T24 Aa Ae).f0, (rd_T24 Aa Ae).f1, (rd_T24 Aa Ae).f2, (rd_T24 Aa Ae).f3⟩ : S24)) := ⟨_, rfl⟩
          replace H : (slices_symMergeCmpFunc_api_Point.l3 k2 y142 Ba ji49) = some r := by first | (rw [hy142]; with_reducible exact H) | (have H2_ := (Option.bind_some _ _).symm.trans H; rw [hy142]; with_reducible exact H2_) | (have H2_ := (Option.bind_some _ _).symm.trans H; with_reducible exact H2_) | with_reducible exact H | (rw [hy142]; exact H) | exact H
          have Ny142 := Am hy142
          clear hy142
          have H' := Am H
          clear H
          try go_wp2
          replace Ab := dRa Ab
          replace HK := Am (Kept.drew HK.out)
          replace HB := bDa HB
          obtain ⟨Ao57, co57, C1⟩ := Kd.R_slice Ab.out
          (first | subst C1 | (injection C1 with f1_ f2_ f3_; have f4_ := f1_.symm; have f5_ := f3_.symm; clear f1_ f2_ f3_; subst f4_; subst f5_))
          have p139 : 0 ≤ ((ji49) : Int) := of_decide_eq_true pS
          have q139 : (ji49) < (Aa.length : Int) := of_decide_eq_true pS
          obtain ⟨Cc, e139, Bj, Bk, Bl, Bm⟩ := at_T24 (Kd.R_reads' Ab.out).2.2 (ji49) p139 q139
          cases e139
          replace p139 := eq_true p139
          replace q139 := eq_true q139
          have p140 : 0 ≤ (Ae : Int) := of_decide_eq_true pS
          have q140 : Ae < (Aa.length : Int) := of_decide_eq_true pS
          obtain ⟨C7, e140, Bn, Bo, Bp, Bq⟩ := at_T24 (Kd.R_reads' Ab.out).2.2 Ae p140 q140
          obtain rfl : Cc = C7 := (by injection e140)
          replace p140 := eq_true p140
          replace q140 := eq_true q140
          have p54 : 0 ≤ (Ae : Int) := of_decide_eq_true pS
          have q54 : (Ae : Int) < ((Aa.length : Int) : Int) := of_decide_eq_true pS
          obtain ⟨go54, co54, C2, C3, gl54, cl54, HG54⟩ := Kd.R_form Ab.out (by omega)
          (first | cases C2 | (injection C2 with ea_ en_ ec_; (first | subst ea_ | (injection ea_ with ea_; subst ea_)); subst ec_; clear en_))
          have GB54 := Am C3
          have GG54 := Am HG54
          clear C3 gl54 HG54
          have HMgo54 := Am (show (P0_ go54 ∨ w.heap.size ≤ go54) from (Ab.out.1 _ rfl))
          (first | simp only [add_plain] at Bj | skip)
          (first | simp only [add_plain] at Bk | skip)
          (first | simp only [add_plain] at Bl | skip)
          (first | simp only [add_plain] at Bm | skip)
          (first | simp only [add_plain] at Bn | skip)
          (first | simp only [add_plain] at Bo | skip)
          (first | simp only [add_plain] at Bp | skip)
          (first | simp only [add_plain] at Bq | skip)
          obtain ⟨ce54, hcl54, hM54, hcc54, hfr54⟩ := Kd.R_elem Ab.out z24 (Ae : Int) p54 q54
          obtain rfl := k24_openM hM54
          have B3 : World.cell? _ ⟨go54, (Ae : Int).toNat * 4, none⟩ = some (.int .i64 ((rd_T24 Aa Ae).f0)) := hcc54 0 _ rfl
          have B4 : World.cell? _ ⟨go54, (Ae : Int).toNat * 4 + 1, none⟩ = some (.int .i64 ((rd_T24 Aa Ae).f1)) := hcc54 1 _ rfl
          have B5 : World.cell? _ ⟨go54, (Ae : Int).toNat * 4 + 2, none⟩ = some (.int .i64 ((rd_T24 Aa Ae).f2)) := hcc54 2 _ rfl
          have B6 : World.cell? _ ⟨go54, (Ae : Int).toNat * 4 + 3, none⟩ = some (.int .u32 ((rd_T24 Aa Ae).f3)) := hcc54 3 _ rfl
          have hf54_0 : World.frozen? _ ⟨go54, (Ae : Int).toNat * 4, none⟩ = false := hfr54 0
          have hf54_1 : World.frozen? _ ⟨go54, (Ae : Int).toNat * 4 + 1, none⟩ = false := hfr54 1
          have hf54_2 : World.frozen? _ ⟨go54, (Ae : Int).toNat * 4 + 2, none⟩ = false := hfr54 2
          have hf54_3 : World.frozen? _ ⟨go54, (Ae : Int).toNat * 4 + 3, none⟩ = false := hfr54 3
          clear hcl54 hcc54 hfr54 hM54
          replace p54 := eq_true p54
          replace q54 := eq_true q54
          obtain ⟨ce58, hcl58, hM58, hcc58, hfr58⟩ := Kd.R_elem Ab.out z24 (Ae : Int) (of_decide_eq_true pS) (by have h_ : (Ae : Int) < ((Aa.length : Int) : Int) := of_decide_eq_true pS; first | exact h_ | (have e_ := (Kd.R_reads' Ab.out).1; omega) | simpa using h_)
          obtain rfl := k24_openM hM58
          have HP58 := (Kd.R_seg Ab.out (Ae : Int) (of_decide_eq_true pS) (by have h_ : (Ae : Int) < ((Aa.length : Int) : Int) := of_decide_eq_true pS; first | exact h_ | (have e_ := (Kd.R_reads' Ab.out).1; omega) | simpa using h_) (seg := [.int .i64 ((rd_T24 Aa (ji49)).f0), .int .i64 ((rd_T24 Aa (ji49)).f1), .int .i64 ((rd_T24 Aa (ji49)).f2), .int .u32 ((rd_T24 Aa (ji49)).f3)]) (j := 0) hcl58 hcc58 (show 4 ≤ 4 from by decide) (x' := (⟨(rd_T24 Aa (ji49)).f0, (rd_T24 Aa (ji49)).f1, (rd_T24 Aa (ji49)).f2, (rd_T24 Aa (ji49)).f3⟩ : S24)) (k24_mkM _ _ _ (⟨(rd_T24 Aa (ji49)).f0, (rd_T24 Aa (ji49)).f1, (rd_T24 Aa (ji49)).f2, (rd_T24 Aa (ji49)).f3⟩ : S24) ) (fun _ hk => hk)).1
          rw [← Ny141.out] at HP58
          have HQ58 := Am HP58
          clear hcl58 hcc58 hfr58 hM58 HP58
          have p55 : 0 ≤ ((ji49) : Int) := of_decide_eq_true pS
          have q55 : ((ji49) : Int) < ((Aa.length : Int) : Int) := of_decide_eq_true pS
          obtain ⟨ce55, hcl55, hM55, hcc55, hfr55⟩ := Kd.R_elem HQ58.out z24 ((ji49) : Int) p55 q55
          obtain rfl := k24_openM hM55
          have B7 : World.cell? _ ⟨go54, ((ji49) : Int).toNat * 4, none⟩ = some (.int .i64 ((rd_T24 y141 (ji49)).f0)) := hcc55 0 _ rfl
          have B8 : World.cell? _ ⟨go54, ((ji49) : Int).toNat * 4 + 1, none⟩ = some (.int .i64 ((rd_T24 y141 (ji49)).f1)) := hcc55 1 _ rfl
          have B9 : World.cell? _ ⟨go54, ((ji49) : Int).toNat * 4 + 2, none⟩ = some (.int .i64 ((rd_T24 y141 (ji49)).f2)) := hcc55 2 _ rfl
          have Ca : World.cell? _ ⟨go54, ((ji49) : Int).toNat * 4 + 3, none⟩ = some (.int .u32 ((rd_T24 y141 (ji49)).f3)) := hcc55 3 _ rfl
          have hf55_0 : World.frozen? _ ⟨go54, ((ji49) : Int).toNat * 4, none⟩ = false := hfr55 0
          have hf55_1 : World.frozen? _ ⟨go54, ((ji49) : Int).toNat * 4 + 1, none⟩ = false := hfr55 1
          have hf55_2 : World.frozen? _ ⟨go54, ((ji49) : Int).toNat * 4 + 2, none⟩ = false := hfr55 2
          have hf55_3 : World.frozen? _ ⟨go54, ((ji49) : Int).toNat * 4 + 3, none⟩ = false := hfr55 3
          clear hcl55 hcc55 hfr55 hM55
          replace p55 := eq_true p55
          replace q55 := eq_true q55
          obtain ⟨ce59, hcl59, hM59, hcc59, hfr59⟩ := Kd.R_elem HQ58.out z24 ((ji49) : Int) (of_decide_eq_true pS) (by have h_ : ((ji49) : Int) < ((Aa.length : Int) : Int) := of_decide_eq_true pS; first | exact h_ | (have e_ := (Kd.R_reads' Ab.out).1; omega) | simpa using h_)
          obtain rfl := k24_openM hM59
          have HP59 := (Kd.R_seg HQ58.out ((ji49) : Int) (of_decide_eq_true pS) (by have h_ : ((ji49) : Int) < ((Aa.length : Int) : Int) := of_decide_eq_true pS; first | exact h_ | (have e_ := (Kd.R_reads' Ab.out).1; omega) | simpa using h_) (seg := [.int .i64 ((rd_T24 Aa Ae).f0), .int .i64 ((rd_T24 Aa Ae).f1), .int .i64 ((rd_T24 Aa Ae).f2), .int .u32 ((rd_T24 Aa Ae).f3)]) (j := 0) hcl59 hcc59 (show 4 ≤ 4 from by decide) (x' := (⟨(rd_T24 Aa Ae).f0, (rd_T24 Aa Ae).f1, (rd_T24 Aa Ae).f2, (rd_T24 Aa Ae).f3⟩ : S24)) (k24_mkM _ _ _ (⟨(rd_T24 Aa Ae).f0, (rd_T24 Aa Ae).f1, (rd_T24 Aa Ae).f2, (rd_T24 Aa Ae).f3⟩ : S24) ) (fun _ hk => hk)).1
          rw [← Ny142.out] at HP59
          have HQ59 := Am HP59
          clear hcl59 hcc59 hfr59 hM59 HP59
          refine start_ (n := 18) (S := fun w' => w'.cell? ⟨go54, (((ji49)).toNat * 4), none⟩ = some (.int .i64 ((rd_T24 Aa (ji49)).f0)) ∧ w'.cell? ⟨go54, (((ji49)).toNat * 4) + 1, none⟩ = some (.int .i64 ((rd_T24 Aa (ji49)).f1)) ∧ w'.cell? ⟨go54, (((ji49)).toNat * 4) + 2, none⟩ = some (.int .i64 ((rd_T24 Aa (ji49)).f2)) ∧ w'.cell? ⟨go54, (((ji49)).toNat * 4) + 3, none⟩ = some (.int .u32 ((rd_T24 Aa (ji49)).f3)) ∧ w'.cell? ⟨go54, ((Ae).toNat * 4), none⟩ = some (.int .i64 ((rd_T24 Aa Ae).f0)) ∧ w'.cell? ⟨go54, ((Ae).toNat * 4) + 1, none⟩ = some (.int .i64 ((rd_T24 Aa Ae).f1)) ∧ w'.cell? ⟨go54, ((Ae).toNat * 4) + 2, none⟩ = some (.int .i64 ((rd_T24 Aa Ae).f2)) ∧ w'.cell? ⟨go54, ((Ae).toNat * 4) + 3, none⟩ = some (.int .u32 ((rd_T24 Aa Ae).f3))) (ds := [15, 17]) #[false, false, false, false, false, false, false, false, false, false, false, false, false, false, false, false, false, false] (by kernel_rfl) rfl rfl ⟨Bj, Bk, Bl, Bm, Bn, Bo, Bp, Bq⟩ (fun hHeld => ?_); refine with_tabW slices_symMergeCmpFunc_api_Point.tab23 slices_symMergeCmpFunc_api_Point.bits23 (fun HT_ HW_ => ?_)
          (first | generalize wr.drew = w56 at Ab HK HB GG54 HQ58 HQ59 hf54_0 hf54_1 hf54_2 hf54_3 hf55_0 hf55_1 hf55_2 hf55_3 Bj Bk Bl Bm Bn Bo Bp Bq B3 B4 B5 B6 B7 B8 B9 Ca hHeld ⊢ | generalize wr.drew = w56 at HK HB GG54 HQ58 HQ59 hf54_0 hf54_1 hf54_2 hf54_3 hf55_0 hf55_1 hf55_2 hf55_3 Bj Bk Bl Bm Bn Bo Bp Bq B3 B4 B5 B6 B7 B8 B9 Ca hHeld ⊢)
          refine pui 0 113 18 1 HT_ ?_
          refine pui 1 114 18 3 HT_ ?_
          refine pui 2 115 18 7 HT_ ?_
          refine pui 3 116 18 15 HT_ ?_
          refine pui 4 117 18 31 HT_ ?_
          refine pui 5 118 18 63 HT_ ?_
          refine pui 6 119 18 127 HT_ ?_
          refine pui 7 120 18 255 HT_ ?_
          refine pui 8 121 18 511 HT_ ?_
          refine pui 10 123 18 1535 HT_ ?_
          refine pui 11 124 18 3583 HT_ ?_
          refine pui 12 125 18 7679 HT_ ?_
          refine tki 9 122 18 8191 HT_ HW_ hHeld ?_
          refine tki 13 126 18 16383 HT_ HW_ hHeld ?_
          refine pui 14 127 18 32767 HT_ ?_
          refine last_ (i := 15) (N := none) (bw 18 65535) rfl rfl (one_of HT_.out (by kernel_rfl)) (by decide) (fun K hK => ?_)
          refine skip_ (w1 := ?_) (by rfl) rfl ?_ ?_
          rotate_left
          · go_simp
            rfl
          refine hK.out _ _ ?_
          clear hK K
          refine pui 16 128 18 131071 HT_ ?_
          have B7_ := B7
          have B8_ := B8
          have B9_ := B9
          have Ca_ := Ca
          simp [go_sem, World.setCells, show k24.sz = 4 from rfl] at B7_ B8_ B9_ Ca_
          simp only [World.frozen?_setCells] at hf55_0 hf55_1 hf55_2 hf55_3
          refine last_ (i := 17) (N := none) (bw 18 262143) rfl rfl (one_of HT_.out (by kernel_rfl)) (by decide) (fun K hK => ?_)
          refine skip_ (w1 := ?_) (by rfl) rfl ?_ ?_
          rotate_left
          · go_simp
            rfl
          refine hK.out _ _ ?_
          clear hK K
          refine done_ (done_of HT_.out (by kernel_rfl)) ?_
          try go_wp2
          go_roundg k2
          case measure => have := HK1.out; have := HK2.out; omega
          case rel => exact ⟨(y142), (ji49), (by first | rfl | (simp; done) | (simp only [← hji49] <;> (first | rfl | simp)) | (simp [*]; done)), H', ⟨by have := HK1.out; have := HK2.out; omega⟩, ⟨by (with_reducible repeat (first | apply Kd.R_alloc | apply Kd.R_drewN | apply Kd.R_drew)); exact HQ59.out⟩, ⟨by repeat (first | (with_reducible first | exact HK.out | apply Kept.alloc | apply Kept.drewN | apply Kept.drew | refine Kept.setCell ?_ HMgo54.out _ | refine Kept.setCell ?_ HMgo54.out _ | refine Kept.setCell ?_ HMgo54.out _ | refine Kept.setCell ?_ HMgo54.out _ | refine Kept.setCell ?_ HMgo54.out _ | refine Kept.setCell ?_ HMgo54.out _ | refine Kept.setCell ?_ HMgo54.out _ | refine Kept.setCell ?_ HMgo54.out _) | exact HK.out)⟩, ⟨pE8 HB.out GB54.out GB54.out GB54.out GB54.out GB54.out GB54.out GB54.out GB54.out⟩⟩
set_option maxHeartbeats 8000000 in
set_option maxRecDepth 100000 in
theorem slices_symMergeCmpFunc_api_Point.calls_c (k : Nat) (P0_ : Nat → Prop) (u9000_ : Value) (l0 : List (S24)) (a1 : Int) (a2 : Int) (a3 : Int) (r : List (S24)) (w0 w : World) (hB : Below w0.heap.size w0 w) (ho0 : Kd.R k24 24 w w0.heap.size P0_ u9000_ l0) (ih : ∀ m, m < k + 1 → ∀ (P0_ : Nat → Prop) (u9000_ : Value) (l0 : List (S24)) (a1 : Int) (a2 : Int) (a3 : Int)  (r : List (S24)) (w0 w : World) (hB : Below w0.heap.size w0 w) (ho0 : Kd.R k24 24 w w0.heap.size P0_ u9000_ l0) (h : slices_symMergeCmpFunc_api_Point.f m l0 a1 a2 a3 = some r), Calls Try.prog 64 #[u9000_, .int .i64 a1, .int .i64 a2, .int .i64 a3, .func (.func 48) #[] #[]] w fun e w' => e = .returned (.tuple #[]) ∧ Kd.R k24 24 w' w0.heap.size (fun k_ => (P0_ k_ ∨ w.heap.size ≤ k_)) u9000_ r ∧ Below w0.heap.size w0 w' ∧ Kept w w' (fun k_ => P0_ k_)) (c6 : ¬ (wrap64 (a2 - a1)) = 1) (c33 : ¬ (wrap64 (a3 - a2)) = 1) (H : (if a2 > (wrap64 ((IntKind.u64.wrap (wrap64 (a1 + a3))) / 2)) then (slices_symMergeCmpFunc_api_Point.j4 k l0 a1 a2 a3 (wrap64 ((IntKind.u64.wrap (wrap64 (a1 + a3))) / 2)) (wrap64 ((wrap64 ((IntKind.u64.wrap (wrap64 (a1 + a3))) / 2)) + a2)) (wrap64 ((wrap64 ((wrap64 ((IntKind.u64.wrap (wrap64 (a1 + a3))) / 2)) + a2)) - a3)) (wrap64 ((IntKind.u64.wrap (wrap64 (a1 + a3))) / 2))) else (slices_symMergeCmpFunc_api_Point.j4 k l0 a1 a2 a3 (wrap64 ((IntKind.u64.wrap (wrap64 (a1 + a3))) / 2)) (wrap64 ((wrap64 ((IntKind.u64.wrap (wrap64 (a1 + a3))) / 2)) + a2)) a1 a2)) = some r) :
    Calls Try.prog 64 #[u9000_, .int .i64 a1, .int .i64 a2, .int .i64 a3, .func (.func 48) #[] #[]] w fun e w' => e = .returned (.tuple #[]) ∧ Kd.R k24 24 w' w0.heap.size (fun k_ => (P0_ k_ ∨ w.heap.size ≤ k_)) u9000_ r ∧ Below w0.heap.size w0 w' ∧ Kept w w' (fun k_ => P0_ k_) := by
  have hu24 := Try.underlying24
  have C9 := Am (show Kd.R k24 24 w w0.heap.size (fun k_ => (P0_ k_ ∨ w.heap.size ≤ k_)) u9000_ l0 from Kd.R_mono ho0 (fun k_ hk => (.inl hk)))
  have HK := Am (Kept.refl w (fun k_ => P0_ k_))
  have HW0 := Am hB.size
  have HB := Am hB
  clear hB
  have c6b0 : ((wrap64 (a2 - a1)) == 1) = false := beq_eq_false_iff_ne.mpr c6
  have c6b1 : ((wrap64 (a2 - a1)) != 1) = true := bne_iff_ne.mpr c6
  have c33b0 : ((wrap64 (a3 - a2)) == 1) = false := beq_eq_false_iff_ne.mpr c33
  have c33b1 : ((wrap64 (a3 - a2)) != 1) = true := bne_iff_ne.mpr c33
  have HC60 := Am H
  clear H
  go_enter Try.func64, Try.ntmps64
  go_upto_if 140 with (fail)
  go_cut [20, 21] (fun v20 v21 wc => ∃ (kq : Nat) (Cf : Int) (Cg : Int), v20 = .int .i64 Cf ∧ v21 = .int .i64 Cg ∧ Aside0 (slices_symMergeCmpFunc_api_Point.j4 kq l0 a1 a2 a3 (wrap64 ((IntKind.u64.wrap (wrap64 (a1 + a3))) / 2)) (wrap64 ((wrap64 ((IntKind.u64.wrap (wrap64 (a1 + a3))) / 2)) + a2)) Cf Cg = some r) ∧ Aside0 (kq ≤ k) ∧ Aside0 (Kd.R k24 24 wc w0.heap.size (fun k_ => (P0_ k_ ∨ w.heap.size ≤ k_)) u9000_ l0) ∧ Aside0 (Kept w wc (fun k_ => P0_ k_)) ∧ Aside0 (Below w0.heap.size w0 wc))
  case first =>
   as_aux_lemma =>
    have H := HC60.out
    clear HC60
    by_cases c61 : a2 > (wrap64 ((IntKind.u64.wrap (wrap64 (a1 + a3))) / 2))
    · rw [if_pos c61] at H
      have c61b0 : decide ((wrap64 ((IntKind.u64.wrap (wrap64 (a1 + a3))) / 2)) < a2) = true := decide_eq_true c61
      clear c61
      (first | rw [c61b0] | (simp only [i64_w, i32_w]; rw [c61b0]) | skip)
      have H' := Am H
      clear H
      go_wp2
      go_meet
      case rel => exact ⟨_, (wrap64 ((wrap64 ((wrap64 ((IntKind.u64.wrap (wrap64 (a1 + a3))) / 2)) + a2)) - a3)), (wrap64 ((IntKind.u64.wrap (wrap64 (a1 + a3))) / 2)), (by first | rfl | (simp; done) | (simp [*]; done)), (by first | rfl | (simp; done) | (simp [*]; done)), H', ⟨by first | omega | exact Nat.le_refl _⟩, ⟨by (with_reducible repeat (first | apply Kd.R_alloc | apply Kd.R_drewN | apply Kd.R_drew)); exact C9.out⟩, ⟨by repeat (first | (with_reducible first | exact HK.out | apply Kept.alloc | apply Kept.drewN | apply Kept.drew) | exact HK.out)⟩, ⟨pB HB.out⟩⟩
    rw [if_neg c61] at H
    have c61b0 : decide ((wrap64 ((IntKind.u64.wrap (wrap64 (a1 + a3))) / 2)) < a2) = false := decide_eq_false c61
    clear c61
    (first | rw [c61b0] | (simp only [i64_w, i32_w]; rw [c61b0]) | skip)
    have H' := Am H
    clear H
    go_wp2
    go_meet
    case rel => exact ⟨_, (a1), (a2), (by first | rfl | (simp; done) | (simp [*]; done)), (by first | rfl | (simp; done) | (simp [*]; done)), H', ⟨by first | omega | exact Nat.le_refl _⟩, ⟨by (with_reducible repeat (first | apply Kd.R_alloc | apply Kd.R_drewN | apply Kd.R_drew)); exact C9.out⟩, ⟨by repeat (first | (with_reducible first | exact HK.out | apply Kept.alloc | apply Kept.drewN | apply Kept.drew) | exact HK.out)⟩, ⟨pB HB.out⟩⟩
  case rest =>
   as_aux_lemma =>
    clear HC60
    try clear c1
    try clear p1
    try clear q1
    try clear hx1
    try clear c2
    try clear p2
    try clear q2
    try clear hx2
    try clear c3
    try clear c4
    try clear c5
    try clear p5
    try clear q5
    try clear hx5
    try clear hf5
    try clear c6
    try clear c6b0
    try clear c6b1
    try clear p6
    try clear c7
    try clear c7b0
    try clear c9
    try clear c9b0
    try clear c10
    try clear c10b0
    try clear c11
    try clear c11b0
    try clear c12
    try clear c12b0
    try clear p12
    try clear q12
    try clear hx12
    try clear p13
    try clear q13
    try clear hx13
    try clear c14
    try clear c14b0
    try clear p14
    try clear q14
    try clear hx14
    try clear c21
    try clear c21b0
    try clear c23
    try clear c23b0
    try clear c24
    try clear c24b0
    try clear c25
    try clear c25b0
    try clear c26
    try clear c26b0
    try clear c27
    try clear p27
    try clear q27
    try clear hx27
    try clear hf27
    try clear c28
    try clear p28
    try clear q28
    try clear hx28
    try clear hf28
    try clear c31
    try clear c32
    try clear c33
    try clear c33b0
    try clear c33b1
    try clear c34
    try clear c34b0
    try clear c35
    try clear c35b0
    try clear c36
    try clear c36b0
    try clear c38
    try clear c38b0
    try clear c39
    try clear c39b0
    try clear c41
    try clear c41b0
    try clear c48
    try clear c48b0
    try clear c50
    try clear c50b0
    try clear c51
    try clear c51b0
    try clear c52
    try clear c52b0
    try clear c53
    try clear c53b0
    try clear c54
    try clear p54
    try clear q54
    try clear hx54
    try clear hf54
    try clear c55
    try clear p55
    try clear q55
    try clear hx55
    try clear hf55
    try clear c58
    try clear c59
    try clear c61
    try clear c61b0
    try clear Ah
    try clear Ai
    try clear Aj
    try clear Ak
    try clear Al
    try clear An
    try clear Ao
    try clear Ap
    try clear A1
    try clear A2
    try clear A3
    try clear A4
    try clear A5
    try clear A6
    try clear A7
    try clear A8
    try clear As
    try clear At
    try clear Au
    try clear Av
    try clear Aw
    try clear Ax
    try clear Ay
    try clear Az
    try clear Bj
    try clear Bk
    try clear Bl
    try clear Bm
    try clear Bn
    try clear Bo
    try clear Bp
    try clear Bq
    try clear Br
    try clear Bs
    try clear Bt
    try clear Bu
    try clear Bv
    try clear Bw
    try clear Bx
    try clear By
    try clear B3
    try clear B4
    try clear B5
    try clear B6
    try clear B7
    try clear B8
    try clear B9
    try clear Ca
    try clear p1
    try clear p12
    try clear p129
    try clear p13
    try clear p130
    try clear p132
    try clear p133
    try clear p136
    try clear p137
    try clear p139
    try clear p140
    try clear p2
    try clear p27
    try clear p28
    try clear p54
    try clear p55
    try clear p6
    try clear q1
    try clear q12
    try clear q129
    try clear q13
    try clear q130
    try clear q132
    try clear q133
    try clear q136
    try clear q137
    try clear q139
    try clear q140
    try clear q2
    try clear q27
    try clear q28
    try clear q54
    try clear q55
    obtain ⟨kq, Cf, Cg, rfl, rfl, HA, HJ59, Ab, HK, HB⟩ := hcut
    cases kq with
    | zero => exact absurd HA.out (by simp [slices_symMergeCmpFunc_api_Point.j4])
    | succ kj59 =>
     as_aux_lemma =>
      have H := HA.out
      clear HA
      simp only [slices_symMergeCmpFunc_api_Point.j4] at H
      have H' := Am H
      clear H
      go_wp2
      go_loopg [20, 21] kj59 (fun kq v20 v21 w' => ∃ (Ac : Int) (A0 : Int), v20 = .int .i64 Ac ∧ v21 = .int .i64 A0 ∧ Aside0 (slices_symMergeCmpFunc_api_Point.l4 kq l0 a1 a2 a3 (wrap64 ((IntKind.u64.wrap (wrap64 (a1 + a3))) / 2)) (wrap64 ((wrap64 ((IntKind.u64.wrap (wrap64 (a1 + a3))) / 2)) + a2)) Ac A0 (wrap64 ((wrap64 ((wrap64 ((IntKind.u64.wrap (wrap64 (a1 + a3))) / 2)) + a2)) - 1)) = some r) ∧ Aside0 (kq ≤ kj59) ∧ Aside0 (Kd.R k24 24 w' w0.heap.size (fun k_ => (P0_ k_ ∨ w.heap.size ≤ k_)) u9000_ l0) ∧ Aside0 (Kept w w' (fun k_ => P0_ k_)) ∧ Aside0 (Below w0.heap.size w0 w'))
      case atStart => exact ⟨(Cf), (Cg), (by first | rfl | (simp; done) | (simp [*]; done)), (by first | rfl | (simp; done) | (simp [*]; done)), H', ⟨Nat.le_refl _⟩, ⟨by (with_reducible repeat (first | apply Kd.R_alloc | apply Kd.R_drewN | apply Kd.R_drew)); exact Ab.out⟩, ⟨by repeat (first | (with_reducible first | exact HK.out | apply Kept.alloc | apply Kept.drewN | apply Kept.drew) | exact HK.out)⟩, ⟨pB HB.out⟩⟩
      case round =>
       as_aux_lemma =>
        clear H'
        try clear c1
        try clear p1
        try clear q1
        try clear hx1
        try clear c2
        try clear p2
        try clear q2
        try clear hx2
        try clear c3
        try clear c4
        try clear c5
        try clear p5
        try clear q5
        try clear hx5
        try clear hf5
        try clear c6
        try clear c6b0
        try clear c6b1
        try clear p6
        try clear c7
        try clear c7b0
        try clear c9
        try clear c9b0
        try clear c10
        try clear c10b0
        try clear c11
        try clear c11b0
        try clear c12
        try clear c12b0
        try clear p12
        try clear q12
        try clear hx12
        try clear p13
        try clear q13
        try clear hx13
        try clear c14
        try clear c14b0
        try clear p14
        try clear q14
        try clear hx14
        try clear c21
        try clear c21b0
        try clear c23
        try clear c23b0
        try clear c24
        try clear c24b0
        try clear c25
        try clear c25b0
        try clear c26
        try clear c26b0
        try clear c27
        try clear p27
        try clear q27
        try clear hx27
        try clear hf27
        try clear c28
        try clear p28
        try clear q28
        try clear hx28
        try clear hf28
        try clear c31
        try clear c32
        try clear c33
        try clear c33b0
        try clear c33b1
        try clear c34
        try clear c34b0
        try clear c35
        try clear c35b0
        try clear c36
        try clear c36b0
        try clear c38
        try clear c38b0
        try clear c39
        try clear c39b0
        try clear c41
        try clear c41b0
        try clear c48
        try clear c48b0
        try clear c50
        try clear c50b0
        try clear c51
        try clear c51b0
        try clear c52
        try clear c52b0
        try clear c53
        try clear c53b0
        try clear c54
        try clear p54
        try clear q54
        try clear hx54
        try clear hf54
        try clear c55
        try clear p55
        try clear q55
        try clear hx55
        try clear hf55
        try clear c58
        try clear c59
        try clear c61
        try clear c61b0
        try clear Ah
        try clear Ai
        try clear Aj
        try clear Ak
        try clear Al
        try clear An
        try clear Ao
        try clear Ap
        try clear A1
        try clear A2
        try clear A3
        try clear A4
        try clear A5
        try clear A6
        try clear A7
        try clear A8
        try clear As
        try clear At
        try clear Au
        try clear Av
        try clear Aw
        try clear Ax
        try clear Ay
        try clear Az
        try clear Bj
        try clear Bk
        try clear Bl
        try clear Bm
        try clear Bn
        try clear Bo
        try clear Bp
        try clear Bq
        try clear Br
        try clear Bs
        try clear Bt
        try clear Bu
        try clear Bv
        try clear Bw
        try clear Bx
        try clear By
        try clear B3
        try clear B4
        try clear B5
        try clear B6
        try clear B7
        try clear B8
        try clear B9
        try clear Ca
        try clear p1
        try clear p12
        try clear p129
        try clear p13
        try clear p130
        try clear p132
        try clear p133
        try clear p136
        try clear p137
        try clear p139
        try clear p14
        try clear p140
        try clear p2
        try clear p27
        try clear p28
        try clear p5
        try clear p54
        try clear p55
        try clear p6
        try clear q1
        try clear q12
        try clear q129
        try clear q13
        try clear q130
        try clear q132
        try clear q133
        try clear q136
        try clear q137
        try clear q139
        try clear q14
        try clear q140
        try clear q2
        try clear q27
        try clear q28
        try clear q5
        try clear q54
        try clear q55
        obtain ⟨Ac, A0, rfl, rfl, HA, HK2, Ab, HK, HB⟩ := hrel
        cases gk with
        | zero => exact absurd HA.out (by simp [slices_symMergeCmpFunc_api_Point.l4])
        | succ k2 =>
         as_aux_lemma =>
          have H := HA.out
          clear HA
          simp only [slices_symMergeCmpFunc_api_Point.l4] at H
          by_cases c62 : Ac < A0
          · rw [if_pos c62] at H
            have c62b0 : decide (Ac < A0) = true := decide_eq_true c62
            clear c62
            obtain ⟨ji63, hji63⟩ : ∃ j_ : Int, (wrap64 ((wrap64 ((wrap64 ((wrap64 ((IntKind.u64.wrap (wrap64 (a1 + a3))) / 2)) + a2)) - 1)) - (wrap64 ((IntKind.u64.wrap (wrap64 (Ac + A0))) / 2)))) = j_ := ⟨_, rfl⟩
            replace H : (if 0 ≤ (ji63) then (if (ji63) < (l0.length : Int) then (if 0 ≤ (wrap64 ((IntKind.u64.wrap (wrap64 (Ac + A0))) / 2)) then (if (wrap64 ((IntKind.u64.wrap (wrap64 (Ac + A0))) / 2)) < (l0.length : Int) then ((point_Order_1.f ((rd_T24 l0 (ji63)).f0) ((rd_T24 l0 (ji63)).f1) ((rd_T24 l0 (ji63)).f2) ((rd_T24 l0 (ji63)).f3) ((rd_T24 l0 (wrap64 ((IntKind.u64.wrap (wrap64 (Ac + A0))) / 2))).f0) ((rd_T24 l0 (wrap64 ((IntKind.u64.wrap (wrap64 (Ac + A0))) / 2))).f1) ((rd_T24 l0 (wrap64 ((IntKind.u64.wrap (wrap64 (Ac + A0))) / 2))).f2) ((rd_T24 l0 (wrap64 ((IntKind.u64.wrap (wrap64 (Ac + A0))) / 2))).f3)).bind fun t145 => (if t145 < 0 then (slices_symMergeCmpFunc_api_Point.l4 k2 l0 a1 a2 a3 (wrap64 ((IntKind.u64.wrap (wrap64 (a1 + a3))) / 2)) (wrap64 ((wrap64 ((IntKind.u64.wrap (wrap64 (a1 + a3))) / 2)) + a2)) Ac (wrap64 ((IntKind.u64.wrap (wrap64 (Ac + A0))) / 2)) (wrap64 ((wrap64 ((wrap64 ((IntKind.u64.wrap (wrap64 (a1 + a3))) / 2)) + a2)) - 1))) else (slices_symMergeCmpFunc_api_Point.l4 k2 l0 a1 a2 a3 (wrap64 ((IntKind.u64.wrap (wrap64 (a1 + a3))) / 2)) (wrap64 ((wrap64 ((IntKind.u64.wrap (wrap64 (a1 + a3))) / 2)) + a2)) (wrap64 ((wrap64 ((IntKind.u64.wrap (wrap64 (Ac + A0))) / 2)) + 1)) A0 (wrap64 ((wrap64 ((wrap64 ((IntKind.u64.wrap (wrap64 (a1 + a3))) / 2)) + a2)) - 1))))) else (none)) else (none)) else (none)) else (none)) = some r := by first | (rw [hji63] at H; exact H) | (simp only [hji63] at H ⊢; exact H)
            (try rw [hji63] at c6b0)
            (try rw [hji63] at c6b1)
            (try rw [hji63] at c33b0)
            (try rw [hji63] at c33b1)
            have hji63w : (IntKind.i64.wrap ((wrap64 ((wrap64 ((wrap64 ((IntKind.u64.wrap (wrap64 (a1 + a3))) / 2)) + a2)) - 1)) - (wrap64 ((IntKind.u64.wrap (wrap64 (Ac + A0))) / 2)))) = ji63 := (i64_w _).trans hji63
            by_cases c64 : 0 ≤ (ji63)
            rotate_left
            · rw [if_neg c64] at H
              exact absurd H (by simp)
            rw [if_pos c64] at H
            have c64b0 : decide (0 ≤ (ji63)) = true := decide_eq_true c64
            clear c64
            by_cases c65 : (ji63) < (l0.length : Int)
            rotate_left
            · rw [if_neg c65] at H
              exact absurd H (by simp)
            rw [if_pos c65] at H
            have c65b0 : decide ((ji63) < (l0.length : Int)) = true := decide_eq_true c65
            clear c65
            obtain ⟨ji66, hji66⟩ : ∃ j_ : Int, (wrap64 ((IntKind.u64.wrap (wrap64 (Ac + A0))) / 2)) = j_ := ⟨_, rfl⟩
            replace H : (if 0 ≤ (ji66) then (if (ji66) < (l0.length : Int) then ((point_Order_1.f ((rd_T24 l0 (ji63)).f0) ((rd_T24 l0 (ji63)).f1) ((rd_T24 l0 (ji63)).f2) ((rd_T24 l0 (ji63)).f3) ((rd_T24 l0 (ji66)).f0) ((rd_T24 l0 (ji66)).f1) ((rd_T24 l0 (ji66)).f2) ((rd_T24 l0 (ji66)).f3)).bind fun t145 => (if t145 < 0 then (slices_symMergeCmpFunc_api_Point.l4 k2 l0 a1 a2 a3 (wrap64 ((IntKind.u64.wrap (wrap64 (a1 + a3))) / 2)) (wrap64 ((wrap64 ((IntKind.u64.wrap (wrap64 (a1 + a3))) / 2)) + a2)) Ac ji66 (wrap64 ((wrap64 ((wrap64 ((IntKind.u64.wrap (wrap64 (a1 + a3))) / 2)) + a2)) - 1))) else (slices_symMergeCmpFunc_api_Point.l4 k2 l0 a1 a2 a3 (wrap64 ((IntKind.u64.wrap (wrap64 (a1 + a3))) / 2)) (wrap64 ((wrap64 ((IntKind.u64.wrap (wrap64 (a1 + a3))) / 2)) + a2)) (wrap64 ((ji66) + 1)) A0 (wrap64 ((wrap64 ((wrap64 ((IntKind.u64.wrap (wrap64 (a1 + a3))) / 2)) + a2)) - 1))))) else (none)) else (none)) = some r := by first | (rw [hji66] at H; exact H) | (simp only [hji66] at H ⊢; exact H)
            (try rw [hji66] at c6b0)
            (try rw [hji66] at c6b1)
            (try rw [hji66] at c33b0)
            (try rw [hji66] at c33b1)
            have hji66w : (IntKind.i64.wrap ((IntKind.u64.wrap (wrap64 (Ac + A0))) / 2)) = ji66 := (i64_w _).trans hji66
            (try rw [hji66] at hji63); (try rw [hji66] at hji63w)
            by_cases c67 : 0 ≤ (ji66)
            rotate_left
            · rw [if_neg c67] at H
              exact absurd H (by simp)
            rw [if_pos c67] at H
            have c67b0 : decide (0 ≤ (ji66)) = true := decide_eq_true c67
            clear c67
            by_cases c68 : (ji66) < (l0.length : Int)
            rotate_left
            · rw [if_neg c68] at H
              exact absurd H (by simp)
            rw [if_pos c68] at H
            have c68b0 : decide ((ji66) < (l0.length : Int)) = true := decide_eq_true c68
            clear c68
            replace H := Option.bind_eq_some_iff.mp H
            obtain ⟨t145, A690, H⟩ := H
            replace H : (if t145 < 0 then (slices_symMergeCmpFunc_api_Point.l4 k2 l0 a1 a2 a3 (wrap64 ((IntKind.u64.wrap (wrap64 (a1 + a3))) / 2)) (wrap64 ((wrap64 ((IntKind.u64.wrap (wrap64 (a1 + a3))) / 2)) + a2)) Ac ji66 (wrap64 ((wrap64 ((wrap64 ((IntKind.u64.wrap (wrap64 (a1 + a3))) / 2)) + a2)) - 1))) else (slices_symMergeCmpFunc_api_Point.l4 k2 l0 a1 a2 a3 (wrap64 ((IntKind.u64.wrap (wrap64 (a1 + a3))) / 2)) (wrap64 ((wrap64 ((IntKind.u64.wrap (wrap64 (a1 + a3))) / 2)) + a2)) (wrap64 ((ji66) + 1)) A0 (wrap64 ((wrap64 ((wrap64 ((IntKind.u64.wrap (wrap64 (a1 + a3))) / 2)) + a2)) - 1)))) = some r := H
            have A69 := Am A690
            clear A690
            by_cases c70 : t145 < 0
            · rw [if_pos c70] at H
              have c70b0 : decide (t145 < 0) = true := decide_eq_true c70
              clear c70
              have H' := Am H
              clear H
              try go_wp2
              replace Ab := dRa Ab
              replace HK := Am (Kept.drew HK.out)
              replace HB := bDa HB
              obtain ⟨Ao72, co72, C4⟩ := Kd.R_slice Ab.out
              (first | subst C4 | (injection C4 with f1_ f2_ f3_; have f4_ := f1_.symm; have f5_ := f3_.symm; clear f1_ f2_ f3_; subst f4_; subst f5_))
              have p143 : 0 ≤ ((ji63) : Int) := of_decide_eq_true pS
              have q143 : (ji63) < (l0.length : Int) := of_decide_eq_true pS
              obtain ⟨Af, e143, Bb, Bc, Bd, Be⟩ := at_T24 (Kd.R_reads' Ab.out).2.2 (ji63) p143 q143
              cases e143
              replace p143 := eq_true p143
              replace q143 := eq_true q143
              have p144 : 0 ≤ ((ji66) : Int) := of_decide_eq_true pS
              have q144 : (ji66) < (l0.length : Int) := of_decide_eq_true pS
              obtain ⟨Cl, e144, Bf, Bg, Bh, Bi⟩ := at_T24 (Kd.R_reads' Ab.out).2.2 (ji66) p144 q144
              obtain rfl : Af = Cl := (by injection e144)
              replace p144 := eq_true p144
              replace q144 := eq_true q144
              refine start_ (n := 14) (S := fun w' => w'.cell? (Af.add (((ji63)).toNat * 4)) = some (.int .i64 ((rd_T24 l0 (ji63)).f0)) ∧ w'.cell? ⟨(Af.add (((ji63)).toNat * 4)).block, (Af.add (((ji63)).toNat * 4)).off + 1, none⟩ = some (.int .i64 ((rd_T24 l0 (ji63)).f1)) ∧ w'.cell? ⟨(Af.add (((ji63)).toNat * 4)).block, (Af.add (((ji63)).toNat * 4)).off + 2, none⟩ = some (.int .i64 ((rd_T24 l0 (ji63)).f2)) ∧ w'.cell? ⟨(Af.add (((ji63)).toNat * 4)).block, (Af.add (((ji63)).toNat * 4)).off + 3, none⟩ = some (.int .u32 ((rd_T24 l0 (ji63)).f3)) ∧ w'.cell? (Af.add (((ji66)).toNat * 4)) = some (.int .i64 ((rd_T24 l0 (ji66)).f0)) ∧ w'.cell? ⟨(Af.add (((ji66)).toNat * 4)).block, (Af.add (((ji66)).toNat * 4)).off + 1, none⟩ = some (.int .i64 ((rd_T24 l0 (ji66)).f1)) ∧ w'.cell? ⟨(Af.add (((ji66)).toNat * 4)).block, (Af.add (((ji66)).toNat * 4)).off + 2, none⟩ = some (.int .i64 ((rd_T24 l0 (ji66)).f2)) ∧ w'.cell? ⟨(Af.add (((ji66)).toNat * 4)).block, (Af.add (((ji66)).toNat * 4)).off + 3, none⟩ = some (.int .u32 ((rd_T24 l0 (ji66)).f3))) (ds := []) #[false, false, false, false, false, false, false, false, false, false, false, false, false, false] (by kernel_rfl) rfl rfl ⟨Bb, Bc, Bd, Be, Bf, Bg, Bh, Bi⟩ (fun hHeld => ?_); refine with_tabW slices_symMergeCmpFunc_api_Point.tab35 slices_symMergeCmpFunc_api_Point.bits35 (fun HT_ HW_ => ?_)
              (first | generalize wr.drew = w71 at Ab HK HB Bb Bc Bd Be Bf Bg Bh Bi hHeld ⊢ | generalize wr.drew = w71 at HK HB Bb Bc Bd Be Bf Bg Bh Bi hHeld ⊢)
              refine pui 0 158 14 1 HT_ ?_
              refine pui 1 159 14 3 HT_ ?_
              refine pui 2 160 14 7 HT_ ?_
              refine pui 3 161 14 15 HT_ ?_
              refine pui 4 162 14 31 HT_ ?_
              refine pui 5 163 14 63 HT_ ?_
              refine pui 7 165 14 191 HT_ ?_
              refine pui 8 166 14 447 HT_ ?_
              refine pui 9 167 14 959 HT_ ?_
              refine tki 6 164 14 1023 HT_ HW_ hHeld ?_
              refine tki 10 168 14 2047 HT_ HW_ hHeld ?_
              refine onei 11 169 14 4095 HT_ (fun K hK => ?_)
              refine goesV_ Try.func48 (by kernel_rfl) rfl #[.agg #[.int .i64 ((rd_T24 l0 (ji63)).f0), .int .i64 ((rd_T24 l0 (ji63)).f1), .int .i64 ((rd_T24 l0 (ji63)).f2), .int .u32 ((rd_T24 l0 (ji63)).f3)], .agg #[.int .i64 ((rd_T24 l0 (ji66)).f0), .int .i64 ((rd_T24 l0 (ji66)).f1), .int .i64 ((rd_T24 l0 (ji66)).f2), .int .u32 ((rd_T24 l0 (ji66)).f3)]] (by rfl) rfl rfl (by (try simp only [List.map_toArray, List.map_cons, List.map_nil]); first | done | (simp only [hji63, hji66]; rfl) | rfl | (simp only [List.length_drop, List.length_take]; rfl)) ?_
              with_reducible refine (point_Order_1.calls ((rd_T24 l0 (ji63)).f0) ((rd_T24 l0 (ji63)).f1) ((rd_T24 l0 (ji63)).f2) ((rd_T24 l0 (ji63)).f3) ((rd_T24 l0 (ji66)).f0) ((rd_T24 l0 (ji66)).f1) ((rd_T24 l0 (ji66)).f2) ((rd_T24 l0 (ji66)).f3) t145 _ A69.out).mono ?_
              rintro e w73 ⟨rfl, hb⟩
              have HS0_ := (hb.cell (World.block_lt_of_cell? _ _ (hHeld.1))).trans (hHeld.1)
              have HS1_ := (hb.cell (World.block_lt_of_cell? _ _ (hHeld.2.1))).trans (hHeld.2.1)
              have HS2_ := (hb.cell (World.block_lt_of_cell? _ _ (hHeld.2.2.1))).trans (hHeld.2.2.1)
              have HS3_ := (hb.cell (World.block_lt_of_cell? _ _ (hHeld.2.2.2.1))).trans (hHeld.2.2.2.1)
              have HS4_ := (hb.cell (World.block_lt_of_cell? _ _ (hHeld.2.2.2.2.1))).trans (hHeld.2.2.2.2.1)
              have HS5_ := (hb.cell (World.block_lt_of_cell? _ _ (hHeld.2.2.2.2.2.1))).trans (hHeld.2.2.2.2.2.1)
              have HS6_ := (hb.cell (World.block_lt_of_cell? _ _ (hHeld.2.2.2.2.2.2.1))).trans (hHeld.2.2.2.2.2.2.1)
              have HS7_ := (hb.cell (World.block_lt_of_cell? _ _ (hHeld.2.2.2.2.2.2.2))).trans (hHeld.2.2.2.2.2.2.2)
              refine ⟨_, rfl, ?_⟩
              replace Ab := bRa Ab hb
              replace HK := Am (Kept.below (S := (fun k_ => P0_ k_)) (by repeat (first | (with_reducible first | exact HK.out | apply Kept.alloc | apply Kept.drewN | apply Kept.drew) | exact HK.out)) hb)
              replace HB := Am (below_step (pB HB.out) hb)
              (try clear hb)
              (try clear hb2)
              (try clear hk)
              (try clear hi)
              refine hK.out _ _ ⟨HS0_, HS1_, HS2_, HS3_, HS4_, HS5_, HS6_, HS7_⟩ (fun hHeld => ?_)
              clear hK K
              refine norm_ (a' := ?_) ?_ ?_
              rotate_left
              · show Act.put _ (some 169) _ = _
                simp only [Act.put, List.setIfInBounds_toArray, List.set_cons_zero, List.set_cons_succ, i64_w, i32_w]
                rfl
              refine pui 12 170 14 8191 HT_ ?_
              refine pui 13 171 14 16383 HT_ ?_
              refine done_ (done_of HT_.out (by kernel_rfl)) ?_
              try go_wp2
              go_roundg k2
              case measure => have := HJ59.out; have := HK2.out; omega
              case rel => exact ⟨(Ac), (ji66), (by first | rfl | (simp; done) | (simp [*]; done)), (by first | rfl | (simp; done) | (simp only [← hji66] <;> (first | rfl | simp)) | (simp [*]; done)), H', ⟨by have := HJ59.out; have := HK2.out; omega⟩, ⟨by (with_reducible repeat (first | apply Kd.R_alloc | apply Kd.R_drewN | apply Kd.R_drew)); exact Ab.out⟩, ⟨by repeat (first | (with_reducible first | exact HK.out | apply Kept.alloc | apply Kept.drewN | apply Kept.drew) | exact HK.out)⟩, ⟨pB HB.out⟩⟩
            rw [if_neg c70] at H
            have c70b0 : decide (t145 < 0) = false := decide_eq_false c70
            clear c70
            have H' := Am H
            clear H
            try go_wp2
            replace Ab := dRa Ab
            replace HK := Am (Kept.drew HK.out)
            replace HB := bDa HB
            obtain ⟨Ao75, co75, C5⟩ := Kd.R_slice Ab.out
            (first | subst C5 | (injection C5 with f1_ f2_ f3_; have f4_ := f1_.symm; have f5_ := f3_.symm; clear f1_ f2_ f3_; subst f4_; subst f5_))
            have p143 : 0 ≤ ((ji63) : Int) := of_decide_eq_true pS
            have q143 : (ji63) < (l0.length : Int) := of_decide_eq_true pS
            obtain ⟨Af, e143, Bb, Bc, Bd, Be⟩ := at_T24 (Kd.R_reads' Ab.out).2.2 (ji63) p143 q143
            cases e143
            replace p143 := eq_true p143
            replace q143 := eq_true q143
            have p144 : 0 ≤ ((ji66) : Int) := of_decide_eq_true pS
            have q144 : (ji66) < (l0.length : Int) := of_decide_eq_true pS
            obtain ⟨Cl, e144, Bf, Bg, Bh, Bi⟩ := at_T24 (Kd.R_reads' Ab.out).2.2 (ji66) p144 q144
            obtain rfl : Af = Cl := (by injection e144)
            replace p144 := eq_true p144
            replace q144 := eq_true q144
            refine start_ (n := 14) (S := fun w' => w'.cell? (Af.add (((ji63)).toNat * 4)) = some (.int .i64 ((rd_T24 l0 (ji63)).f0)) ∧ w'.cell? ⟨(Af.add (((ji63)).toNat * 4)).block, (Af.add (((ji63)).toNat * 4)).off + 1, none⟩ = some (.int .i64 ((rd_T24 l0 (ji63)).f1)) ∧ w'.cell? ⟨(Af.add (((ji63)).toNat * 4)).block, (Af.add (((ji63)).toNat * 4)).off + 2, none⟩ = some (.int .i64 ((rd_T24 l0 (ji63)).f2)) ∧ w'.cell? ⟨(Af.add (((ji63)).toNat * 4)).block, (Af.add (((ji63)).toNat * 4)).off + 3, none⟩ = some (.int .u32 ((rd_T24 l0 (ji63)).f3)) ∧ w'.cell? (Af.add (((ji66)).toNat * 4)) = some (.int .i64 ((rd_T24 l0 (ji66)).f0)) ∧ w'.cell? ⟨(Af.add (((ji66)).toNat * 4)).block, (Af.add (((ji66)).toNat * 4)).off + 1, none⟩ = some (.int .i64 ((rd_T24 l0 (ji66)).f1)) ∧ w'.cell? ⟨(Af.add (((ji66)).toNat * 4)).block, (Af.add (((ji66)).toNat * 4)).off + 2, none⟩ = some (.int .i64 ((rd_T24 l0 (ji66)).f2)) ∧ w'.cell? ⟨(Af.add (((ji66)).toNat * 4)).block, (Af.add (((ji66)).toNat * 4)).off + 3, none⟩ = some (.int .u32 ((rd_T24 l0 (ji66)).f3))) (ds := []) #[false, false, false, false, false, false, false, false, false, false, false, false, false, false] (by kernel_rfl) rfl rfl ⟨Bb, Bc, Bd, Be, Bf, Bg, Bh, Bi⟩ (fun hHeld => ?_); refine with_tabW slices_symMergeCmpFunc_api_Point.tab35 slices_symMergeCmpFunc_api_Point.bits35 (fun HT_ HW_ => ?_)
            (first | generalize wr.drew = w74 at Ab HK HB Bb Bc Bd Be Bf Bg Bh Bi hHeld ⊢ | generalize wr.drew = w74 at HK HB Bb Bc Bd Be Bf Bg Bh Bi hHeld ⊢)
            refine pui 0 158 14 1 HT_ ?_
            refine pui 1 159 14 3 HT_ ?_
            refine pui 2 160 14 7 HT_ ?_
            refine pui 3 161 14 15 HT_ ?_
            refine pui 4 162 14 31 HT_ ?_
            refine pui 5 163 14 63 HT_ ?_
            refine pui 7 165 14 191 HT_ ?_
            refine pui 8 166 14 447 HT_ ?_
            refine pui 9 167 14 959 HT_ ?_
            refine tki 6 164 14 1023 HT_ HW_ hHeld ?_
            refine tki 10 168 14 2047 HT_ HW_ hHeld ?_
            refine onei 11 169 14 4095 HT_ (fun K hK => ?_)
            refine goesV_ Try.func48 (by kernel_rfl) rfl #[.agg #[.int .i64 ((rd_T24 l0 (ji63)).f0), .int .i64 ((rd_T24 l0 (ji63)).f1), .int .i64 ((rd_T24 l0 (ji63)).f2), .int .u32 ((rd_T24 l0 (ji63)).f3)], .agg #[.int .i64 ((rd_T24 l0 (ji66)).f0), .int .i64 ((rd_T24 l0 (ji66)).f1), .int .i64 ((rd_T24 l0 (ji66)).f2), .int .u32 ((rd_T24 l0 (ji66)).f3)]] (by rfl) rfl rfl (by (try simp only [List.map_toArray, List.map_cons, List.map_nil]); first | done | (simp only [hji63, hji66]; rfl) | rfl | (simp only [List.length_drop, List.length_take]; rfl)) ?_
            with_reducible refine (point_Order_1.calls ((rd_T24 l0 (ji63)).f0) ((rd_T24 l0 (ji63)).f1) ((rd_T24 l0 (ji63)).f2) ((rd_T24 l0 (ji63)).f3) ((rd_T24 l0 (ji66)).f0) ((rd_T24 l0 (ji66)).f1) ((rd_T24 l0 (ji66)).f2) ((rd_T24 l0 (ji66)).f3) t145 _ A69.out).mono ?_
            rintro e w76 ⟨rfl, hb⟩
            have HS0_ := (hb.cell (World.block_lt_of_cell? _ _ (hHeld.1))).trans (hHeld.1)
            have HS1_ := (hb.cell (World.block_lt_of_cell? _ _ (hHeld.2.1))).trans (hHeld.2.1)
            have HS2_ := (hb.cell (World.block_lt_of_cell? _ _ (hHeld.2.2.1))).trans (hHeld.2.2.1)
            have HS3_ := (hb.cell (World.block_lt_of_cell? _ _ (hHeld.2.2.2.1))).trans (hHeld.2.2.2.1)
            have HS4_ := (hb.cell (World.block_lt_of_cell? _ _ (hHeld.2.2.2.2.1))).trans (hHeld.2.2.2.2.1)
            have HS5_ := (hb.cell (World.block_lt_of_cell? _ _ (hHeld.2.2.2.2.2.1))).trans (hHeld.2.2.2.2.2.1)
            have HS6_ := (hb.cell (World.block_lt_of_cell? _ _ (hHeld.2.2.2.2.2.2.1))).trans (hHeld.2.2.2.2.2.2.1)
            have HS7_ := (hb.cell (World.block_lt_of_cell? _ _ (hHeld.2.2.2.2.2.2.2))).trans (hHeld.2.2.2.2.2.2.2)
            refine ⟨_, rfl, ?_⟩
            replace Ab := bRa Ab hb
            replace HK := Am (Kept.below (S := (fun k_ => P0_ k_)) (by repeat (first | (with_reducible first | exact HK.out | apply Kept.alloc | apply Kept.drewN | apply Kept.drew) | exact HK.out)) hb)
            replace HB := Am (below_step (pB HB.out) hb)
            (try clear hb)
            (try clear hb2)
            (try clear hk)
            (try clear hi)
            refine hK.out _ _ ⟨HS0_, HS1_, HS2_, HS3_, HS4_, HS5_, HS6_, HS7_⟩ (fun hHeld => ?_)
            clear hK K
            refine norm_ (a' := ?_) ?_ ?_
            rotate_left
            · show Act.put _ (some 169) _ = _
              simp only [Act.put, List.setIfInBounds_toArray, List.set_cons_zero, List.set_cons_succ, i64_w, i32_w]
              rfl
            refine pui 12 170 14 8191 HT_ ?_
            refine pui 13 171 14 16383 HT_ ?_
            refine done_ (done_of HT_.out (by kernel_rfl)) ?_
            try go_wp2
            go_roundg k2
            case measure => have := HJ59.out; have := HK2.out; omega
            case rel => exact ⟨(wrap64 ((ji66) + 1)), (A0), (by first | rfl | (simp; done) | (simp only [← hji66] <;> (first | rfl | simp)) | (simp [*]; done)), (by first | rfl | (simp; done) | (simp [*]; done)), H', ⟨by have := HJ59.out; have := HK2.out; omega⟩, ⟨by (with_reducible repeat (first | apply Kd.R_alloc | apply Kd.R_drewN | apply Kd.R_drew)); exact Ab.out⟩, ⟨by repeat (first | (with_reducible first | exact HK.out | apply Kept.alloc | apply Kept.drewN | apply Kept.drew) | exact HK.out)⟩, ⟨pB HB.out⟩⟩
          rw [if_neg c62] at H
          have c62b0 : decide (Ac < A0) = false := decide_eq_false c62
          clear c62
          have HC77 := Am H
          clear H
          go_upto_region 39 with (fail)
          go_cut [185] (fun v185 wc => ∃ (kq : Nat) (Cd : Bool), v185 = .bool Cd ∧ Aside0 (slices_symMergeCmpFunc_api_Point.j6 kq l0 a1 a2 a3 (wrap64 ((IntKind.u64.wrap (wrap64 (a1 + a3))) / 2)) Ac (wrap64 ((wrap64 ((wrap64 ((IntKind.u64.wrap (wrap64 (a1 + a3))) / 2)) + a2)) - Ac)) Cd = some r) ∧ Aside0 (kq ≤ k2) ∧ Aside0 (Kd.R k24 24 wc w0.heap.size (fun k_ => (P0_ k_ ∨ w.heap.size ≤ k_)) u9000_ l0) ∧ Aside0 (Kept w wc (fun k_ => P0_ k_)) ∧ Aside0 (Below w0.heap.size w0 wc))
          case first =>
           as_aux_lemma =>
            have H := HC77.out
            clear HC77
            by_cases c78 : Ac < a2
            · rw [if_pos c78] at H
              have c78b0 : decide (Ac < a2) = true := decide_eq_true c78
              clear c78
              (first | rw [c78b0] | (simp only [i64_w, i32_w]; rw [c78b0]) | skip)
              have H' := Am H
              clear H
              go_wp2
              go_meet
              case rel => exact ⟨_, (decide (a2 < (wrap64 ((wrap64 ((wrap64 ((IntKind.u64.wrap (wrap64 (a1 + a3))) / 2)) + a2)) - Ac)))), (by first | rfl | (simp; done) | (simp [*]; done)), H', ⟨by have := HJ59.out; have := HK2.out; first | omega | exact Nat.le_refl _⟩, ⟨by (with_reducible repeat (first | apply Kd.R_alloc | apply Kd.R_drewN | apply Kd.R_drew)); exact Ab.out⟩, ⟨by repeat (first | (with_reducible first | exact HK.out | apply Kept.alloc | apply Kept.drewN | apply Kept.drew) | exact HK.out)⟩, ⟨pB HB.out⟩⟩
            rw [if_neg c78] at H
            have c78b0 : decide (Ac < a2) = false := decide_eq_false c78
            clear c78
            (first | rw [c78b0] | (simp only [i64_w, i32_w]; rw [c78b0]) | skip)
            have H' := Am H
            clear H
            go_wp2
            go_meet
            case rel => exact ⟨_, (false), (by first | rfl | (simp; done) | (simp [*]; done)), H', ⟨by have := HJ59.out; have := HK2.out; first | omega | exact Nat.le_refl _⟩, ⟨by (with_reducible repeat (first | apply Kd.R_alloc | apply Kd.R_drewN | apply Kd.R_drew)); exact Ab.out⟩, ⟨by repeat (first | (with_reducible first | exact HK.out | apply Kept.alloc | apply Kept.drewN | apply Kept.drew) | exact HK.out)⟩, ⟨pB HB.out⟩⟩
          case rest =>
           as_aux_lemma =>
            clear HC77
            try clear c1
            try clear p1
            try clear q1
            try clear hx1
            try clear c2
            try clear p2
            try clear q2
            try clear hx2
            try clear c3
            try clear c4
            try clear c5
            try clear p5
            try clear q5
            try clear hx5
            try clear hf5
            try clear c6
            try clear c6b0
            try clear c6b1
            try clear p6
            try clear c7
            try clear c9
            try clear c9b0
            try clear c10
            try clear c10b0
            try clear c11
            try clear c11b0
            try clear c12
            try clear c12b0
            try clear p12
            try clear q12
            try clear hx12
            try clear p13
            try clear q13
            try clear hx13
            try clear c14
            try clear c14b0
            try clear p14
            try clear q14
            try clear hx14
            try clear c21
            try clear c21b0
            try clear c23
            try clear c23b0
            try clear c24
            try clear c24b0
            try clear c25
            try clear c25b0
            try clear c26
            try clear c26b0
            try clear c27
            try clear p27
            try clear q27
            try clear hx27
            try clear hf27
            try clear c28
            try clear p28
            try clear q28
            try clear hx28
            try clear hf28
            try clear c31
            try clear c32
            try clear c33
            try clear c33b0
            try clear c33b1
            try clear c34
            try clear c34b0
            try clear c35
            try clear c35b0
            try clear c36
            try clear c36b0
            try clear c38
            try clear c38b0
            try clear c39
            try clear c39b0
            try clear c41
            try clear c41b0
            try clear c48
            try clear c48b0
            try clear c50
            try clear c50b0
            try clear c51
            try clear c51b0
            try clear c52
            try clear c52b0
            try clear c53
            try clear c53b0
            try clear c54
            try clear p54
            try clear q54
            try clear hx54
            try clear hf54
            try clear c55
            try clear p55
            try clear q55
            try clear hx55
            try clear hf55
            try clear c58
            try clear c59
            try clear c61
            try clear c61b0
            try clear c62
            try clear c62b0
            try clear c64
            try clear c64b0
            try clear p64
            try clear c65
            try clear c65b0
            try clear c67
            try clear c67b0
            try clear c68
            try clear c68b0
            try clear c70
            try clear c70b0
            try clear c78
            try clear c78b0
            try clear Ah
            try clear Ai
            try clear Aj
            try clear Ak
            try clear Al
            try clear An
            try clear Ao
            try clear Ap
            try clear A1
            try clear A2
            try clear A3
            try clear A4
            try clear A5
            try clear A6
            try clear A7
            try clear A8
            try clear As
            try clear At
            try clear Au
            try clear Av
            try clear Aw
            try clear Ax
            try clear Ay
            try clear Az
            try clear Bj
            try clear Bk
            try clear Bl
            try clear Bm
            try clear Bn
            try clear Bo
            try clear Bp
            try clear Bq
            try clear Bb
            try clear Bc
            try clear Bd
            try clear Be
            try clear Bf
            try clear Bg
            try clear Bh
            try clear Bi
            try clear Br
            try clear Bs
            try clear Bt
            try clear Bu
            try clear Bv
            try clear Bw
            try clear Bx
            try clear By
            try clear B3
            try clear B4
            try clear B5
            try clear B6
            try clear B7
            try clear B8
            try clear B9
            try clear Ca
            try clear p1
            try clear p12
            try clear p129
            try clear p13
            try clear p130
            try clear p132
            try clear p133
            try clear p136
            try clear p137
            try clear p139
            try clear p14
            try clear p140
            try clear p143
            try clear p144
            try clear p2
            try clear p27
            try clear p28
            try clear p5
            try clear p54
            try clear p55
            try clear p6
            try clear q1
            try clear q12
            try clear q129
            try clear q13
            try clear q130
            try clear q132
            try clear q133
            try clear q136
            try clear q137
            try clear q139
            try clear q14
            try clear q140
            try clear q143
            try clear q144
            try clear q2
            try clear q27
            try clear q28
            try clear q5
            try clear q54
            try clear q55
            obtain ⟨kq, Cd, rfl, HA, HJ76, Ab, HK, HB⟩ := hcut
            cases kq with
            | zero => exact absurd HA.out (by simp [slices_symMergeCmpFunc_api_Point.j6])
            | succ kj76 =>
             as_aux_lemma =>
              have H := HA.out
              clear HA
              simp only [slices_symMergeCmpFunc_api_Point.j6] at H
              have HC79 := Am H
              clear H
              go_upto_if 185 with (fail)
              go_cut [] (fun wc => ∃ (kq : Nat) (Ag : List (S24)), Aside0 (slices_symMergeCmpFunc_api_Point.j7 kq Ag a1 a3 (wrap64 ((IntKind.u64.wrap (wrap64 (a1 + a3))) / 2)) Ac (wrap64 ((wrap64 ((wrap64 ((IntKind.u64.wrap (wrap64 (a1 + a3))) / 2)) + a2)) - Ac)) = some r) ∧ Aside0 (kq ≤ kj76) ∧ Aside0 (Kd.R k24 24 wc w0.heap.size (fun k_ => (P0_ k_ ∨ w.heap.size ≤ k_)) u9000_ Ag) ∧ Aside0 (Kept w wc (fun k_ => P0_ k_)) ∧ Aside0 (Below w0.heap.size w0 wc))
              case first =>
               as_aux_lemma =>
                have H := HC79.out
                clear HC79
                by_cases c80 : Cd = true
                rotate_left
                · replace c80 := Bool.eq_false_iff.mpr c80
                  subst c80
                  have H1 : (slices_symMergeCmpFunc_api_Point.j7 kj76 l0 a1 a3 (wrap64 ((IntKind.u64.wrap (wrap64 (a1 + a3))) / 2)) Ac (wrap64 ((wrap64 ((wrap64 ((IntKind.u64.wrap (wrap64 (a1 + a3))) / 2)) + a2)) - Ac))) = some r := by rw [if_neg (show ¬ (false = true) by decide)] at H; exact H
                  clear H
                  have H := H1
                  clear H1
                  have H' := Am H
                  clear H
                  go_wp2
                  go_meet
                  case rel => exact ⟨_, (l0), H', ⟨by have := HJ59.out; have := HK2.out; have := HJ76.out; first | omega | exact Nat.le_refl _⟩, ⟨by (with_reducible repeat (first | apply Kd.R_alloc | apply Kd.R_drewN | apply Kd.R_drew)); exact Ab.out⟩, ⟨by repeat (first | (with_reducible first | exact HK.out | apply Kept.alloc | apply Kept.drewN | apply Kept.drew) | exact HK.out)⟩, ⟨pB HB.out⟩⟩
                subst c80
                have H1 : ((slices_rotateCmpFunc_api_Point.f kj76 l0 Ac a2 (wrap64 ((wrap64 ((wrap64 ((IntKind.u64.wrap (wrap64 (a1 + a3))) / 2)) + a2)) - Ac))).bind fun t146 => (slices_symMergeCmpFunc_api_Point.j7 kj76 t146 a1 a3 (wrap64 ((IntKind.u64.wrap (wrap64 (a1 + a3))) / 2)) Ac (wrap64 ((wrap64 ((wrap64 ((IntKind.u64.wrap (wrap64 (a1 + a3))) / 2)) + a2)) - Ac)))) = some r := by rw [if_pos rfl] at H; exact H
                clear H
                have H := H1
                clear H1
                replace H := Option.bind_eq_some_iff.mp H
                obtain ⟨t146, A810, H⟩ := H
                replace H : (slices_symMergeCmpFunc_api_Point.j7 kj76 t146 a1 a3 (wrap64 ((IntKind.u64.wrap (wrap64 (a1 + a3))) / 2)) Ac (wrap64 ((wrap64 ((wrap64 ((IntKind.u64.wrap (wrap64 (a1 + a3))) / 2)) + a2)) - Ac))) = some r := H
                have A81 := Am A810
                clear A810
                have H' := Am H
                clear H
                obtain ⟨Co, Cp, Da⟩ := Kd.R_slice Ab.out
                subst Da
                go_wp2_with (first | ((with_reducible refine gate_callee (f := 69) rfl ?_); refine goesL_ (some 191) rfl rfl Try.func69 (by kernel_rfl) rfl #[.slice Co l0.length Cp, .int .i64 Ac, .int .i64 a2, .int .i64 (wrap64 ((wrap64 ((wrap64 ((IntKind.u64.wrap (wrap64 (a1 + a3))) / 2)) + a2)) - Ac)), .func (.func 48) #[] #[]] rfl pL ?_; (with_reducible refine (slices_rotateCmpFunc_api_Point.calls kj76 (fun k_ => some k_ = (.slice Co l0.length Cp : Value).ownBlock) (.slice Co l0.length Cp) l0 Ac a2 (wrap64 ((wrap64 ((wrap64 ((IntKind.u64.wrap (wrap64 (a1 + a3))) / 2)) + a2)) - Ac)) t146 w0 _ ?B1 ?B2 A81.out).mono ?_); (case B1 => repeat (first | (with_reducible first | exact HB.out | apply below_alloc | apply pw_below_drewN | apply below_drew1) | exact HB.out)); (case B2 => exact Kd.R_tight rfl Ab.out); rintro e w83 ⟨rfl, hy0, hb, hkp⟩; refine ⟨_, rfl, ?_⟩; replace HK := Am (Kept.then_ (S := (fun k_ => P0_ k_)) (by repeat (first | (with_reducible first | exact HK.out | apply Kept.alloc | apply Kept.drewN | apply Kept.drew) | exact HK.out)) hkp (fun k_ hs_ => (fun e_ => (Ab.out.1 k_ e_.symm)) hs_)); replace Ab := Am (Kd.R_reok rfl hy0 (fun k_ e_ => Ab.out.1 k_ e_)); replace HB := Am (hb); (try clear hb); (try clear hkp); (try clear hy0)))
                go_meet
                case rel => exact ⟨_, (t146), H', ⟨by have := HJ59.out; have := HK2.out; have := HJ76.out; first | omega | exact Nat.le_refl _⟩, ⟨by (with_reducible repeat (first | apply Kd.R_alloc | apply Kd.R_drewN | apply Kd.R_drew)); exact Ab.out⟩, ⟨by repeat (first | (with_reducible first | exact HK.out | apply Kept.alloc | apply Kept.drewN | apply Kept.drew) | exact HK.out)⟩, ⟨pB HB.out⟩⟩
              case rest =>
               as_aux_lemma =>
                clear HC79
                try clear c1
                try clear p1
                try clear q1
                try clear hx1
                try clear c2
                try clear p2
                try clear q2
                try clear hx2
                try clear c3
                try clear c4
                try clear c5
                try clear p5
                try clear q5
                try clear hx5
                try clear hf5
                try clear c6
                try clear c6b0
                try clear c6b1
                try clear p6
                try clear c7
                try clear c8
                try clear c9
                try clear c9b0
                try clear c10
                try clear c10b0
                try clear c11
                try clear c11b0
                try clear c12
                try clear c12b0
                try clear p12
                try clear q12
                try clear hx12
                try clear p13
                try clear q13
                try clear hx13
                try clear c14
                try clear c14b0
                try clear p14
                try clear q14
                try clear hx14
                try clear c21
                try clear c21b0
                try clear c23
                try clear c23b0
                try clear c24
                try clear c24b0
                try clear c25
                try clear c25b0
                try clear c26
                try clear c26b0
                try clear c27
                try clear p27
                try clear q27
                try clear hx27
                try clear hf27
                try clear c28
                try clear p28
                try clear q28
                try clear hx28
                try clear hf28
                try clear c31
                try clear c32
                try clear c33
                try clear c33b0
                try clear c33b1
                try clear c34
                try clear c34b0
                try clear c35
                try clear c35b0
                try clear c36
                try clear c36b0
                try clear c38
                try clear c38b0
                try clear c39
                try clear c39b0
                try clear c41
                try clear c41b0
                try clear c48
                try clear c48b0
                try clear c50
                try clear c50b0
                try clear c51
                try clear c51b0
                try clear c52
                try clear c52b0
                try clear c53
                try clear c53b0
                try clear c54
                try clear p54
                try clear q54
                try clear hx54
                try clear hf54
                try clear c55
                try clear p55
                try clear q55
                try clear hx55
                try clear hf55
                try clear c58
                try clear c59
                try clear c61
                try clear c61b0
                try clear c62
                try clear c62b0
                try clear c64
                try clear c64b0
                try clear p64
                try clear c65
                try clear c65b0
                try clear c67
                try clear c67b0
                try clear c68
                try clear c68b0
                try clear c69
                try clear c70
                try clear c70b0
                try clear c78
                try clear c78b0
                try clear c80
                try clear Ah
                try clear Ai
                try clear Aj
                try clear Ak
                try clear Al
                try clear An
                try clear Ao
                try clear Ap
                try clear A1
                try clear A2
                try clear A3
                try clear A4
                try clear A5
                try clear A6
                try clear A7
                try clear A8
                try clear As
                try clear At
                try clear Au
                try clear Av
                try clear Aw
                try clear Ax
                try clear Ay
                try clear Az
                try clear Bj
                try clear Bk
                try clear Bl
                try clear Bm
                try clear Bn
                try clear Bo
                try clear Bp
                try clear Bq
                try clear Bb
                try clear Bc
                try clear Bd
                try clear Be
                try clear Bf
                try clear Bg
                try clear Bh
                try clear Bi
                try clear Br
                try clear Bs
                try clear Bt
                try clear Bu
                try clear Bv
                try clear Bw
                try clear Bx
                try clear By
                try clear B3
                try clear B4
                try clear B5
                try clear B6
                try clear B7
                try clear B8
                try clear B9
                try clear Ca
                try clear p1
                try clear p12
                try clear p129
                try clear p13
                try clear p130
                try clear p132
                try clear p133
                try clear p136
                try clear p137
                try clear p139
                try clear p14
                try clear p140
                try clear p143
                try clear p144
                try clear p2
                try clear p27
                try clear p28
                try clear p5
                try clear p54
                try clear p55
                try clear p6
                try clear p64
                try clear q1
                try clear q12
                try clear q129
                try clear q13
                try clear q130
                try clear q132
                try clear q133
                try clear q136
                try clear q137
                try clear q139
                try clear q14
                try clear q140
                try clear q143
                try clear q144
                try clear q2
                try clear q27
                try clear q28
                try clear q5
                try clear q54
                try clear q55
                obtain ⟨kq, Ag, HA, HJ78, Ab, HK, HB⟩ := hcut
                cases kq with
                | zero => exact absurd HA.out (by simp [slices_symMergeCmpFunc_api_Point.j7])
                | succ kj78 =>
                 as_aux_lemma =>
                  have H := HA.out
                  clear HA
                  simp only [slices_symMergeCmpFunc_api_Point.j7] at H
                  have HC84 := Am H
                  clear H
                  go_upto_region 41 with (fail)
                  go_cut [199] (fun v199 wc => ∃ (kq : Nat) (Ce : Bool), v199 = .bool Ce ∧ Aside0 (slices_symMergeCmpFunc_api_Point.j8 kq Ag a1 a3 (wrap64 ((IntKind.u64.wrap (wrap64 (a1 + a3))) / 2)) Ac (wrap64 ((wrap64 ((wrap64 ((IntKind.u64.wrap (wrap64 (a1 + a3))) / 2)) + a2)) - Ac)) Ce = some r) ∧ Aside0 (kq ≤ kj78) ∧ Aside0 (Kd.R k24 24 wc w0.heap.size (fun k_ => (P0_ k_ ∨ w.heap.size ≤ k_)) u9000_ Ag) ∧ Aside0 (Kept w wc (fun k_ => P0_ k_)) ∧ Aside0 (Below w0.heap.size w0 wc))
                  case first =>
                   as_aux_lemma =>
                    have H := HC84.out
                    clear HC84
                    by_cases c85 : a1 < Ac
                    · rw [if_pos c85] at H
                      have c85b0 : decide (a1 < Ac) = true := decide_eq_true c85
                      clear c85
                      (first | rw [c85b0] | (simp only [i64_w, i32_w]; rw [c85b0]) | skip)
                      have H' := Am H
                      clear H
                      go_wp2
                      go_meet
                      case rel => exact ⟨_, (decide (Ac < (wrap64 ((IntKind.u64.wrap (wrap64 (a1 + a3))) / 2)))), (by first | rfl | (simp; done) | (simp [*]; done)), H', ⟨by have := HJ59.out; have := HK2.out; have := HJ76.out; have := HJ78.out; first | omega | exact Nat.le_refl _⟩, ⟨by (with_reducible repeat (first | apply Kd.R_alloc | apply Kd.R_drewN | apply Kd.R_drew)); exact Ab.out⟩, ⟨by repeat (first | (with_reducible first | exact HK.out | apply Kept.alloc | apply Kept.drewN | apply Kept.drew) | exact HK.out)⟩, ⟨pB HB.out⟩⟩
                    rw [if_neg c85] at H
                    have c85b0 : decide (a1 < Ac) = false := decide_eq_false c85
                    clear c85
                    (first | rw [c85b0] | (simp only [i64_w, i32_w]; rw [c85b0]) | skip)
                    have H' := Am H
                    clear H
                    go_wp2
                    go_meet
                    case rel => exact ⟨_, (false), (by first | rfl | (simp; done) | (simp [*]; done)), H', ⟨by have := HJ59.out; have := HK2.out; have := HJ76.out; have := HJ78.out; first | omega | exact Nat.le_refl _⟩, ⟨by (with_reducible repeat (first | apply Kd.R_alloc | apply Kd.R_drewN | apply Kd.R_drew)); exact Ab.out⟩, ⟨by repeat (first | (with_reducible first | exact HK.out | apply Kept.alloc | apply Kept.drewN | apply Kept.drew) | exact HK.out)⟩, ⟨pB HB.out⟩⟩
                  case rest =>
                   as_aux_lemma =>
                    clear HC84
                    try clear c1
                    try clear p1
                    try clear q1
                    try clear hx1
                    try clear c2
                    try clear p2
                    try clear q2
                    try clear hx2
                    try clear c3
                    try clear c4
                    try clear c5
                    try clear p5
                    try clear q5
                    try clear hx5
                    try clear hf5
                    try clear c6
                    try clear c6b0
                    try clear c6b1
                    try clear p6
                    try clear c7
                    try clear c8
                    try clear c9
                    try clear c9b0
                    try clear c10
                    try clear c10b0
                    try clear c11
                    try clear c11b0
                    try clear c12
                    try clear c12b0
                    try clear p12
                    try clear q12
                    try clear hx12
                    try clear p13
                    try clear q13
                    try clear hx13
                    try clear c14
                    try clear c14b0
                    try clear p14
                    try clear q14
                    try clear hx14
                    try clear c21
                    try clear c21b0
                    try clear c23
                    try clear c23b0
                    try clear c24
                    try clear c24b0
                    try clear c25
                    try clear c25b0
                    try clear c26
                    try clear c26b0
                    try clear c27
                    try clear p27
                    try clear q27
                    try clear hx27
                    try clear hf27
                    try clear c28
                    try clear p28
                    try clear q28
                    try clear hx28
                    try clear hf28
                    try clear c31
                    try clear c32
                    try clear c33
                    try clear c33b0
                    try clear c33b1
                    try clear c34
                    try clear c34b0
                    try clear c35
                    try clear c35b0
                    try clear c36
                    try clear c36b0
                    try clear c38
                    try clear c38b0
                    try clear c39
                    try clear c39b0
                    try clear c41
                    try clear c41b0
                    try clear c48
                    try clear c48b0
                    try clear c50
                    try clear c50b0
                    try clear c51
                    try clear c51b0
                    try clear c52
                    try clear c52b0
                    try clear c53
                    try clear c53b0
                    try clear c54
                    try clear p54
                    try clear q54
                    try clear hx54
                    try clear hf54
                    try clear c55
                    try clear p55
                    try clear q55
                    try clear hx55
                    try clear hf55
                    try clear c58
                    try clear c59
                    try clear c61
                    try clear c61b0
                    try clear c62
                    try clear c62b0
                    try clear c64
                    try clear c64b0
                    try clear p64
                    try clear c65
                    try clear c65b0
                    try clear c67
                    try clear c67b0
                    try clear c68
                    try clear c68b0
                    try clear c69
                    try clear c70
                    try clear c70b0
                    try clear c78
                    try clear c78b0
                    try clear c80
                    try clear c85
                    try clear c85b0
                    try clear Ah
                    try clear Ai
                    try clear Aj
                    try clear Ak
                    try clear Al
                    try clear An
                    try clear Ao
                    try clear Ap
                    try clear A1
                    try clear A2
                    try clear A3
                    try clear A4
                    try clear A5
                    try clear A6
                    try clear A7
                    try clear A8
                    try clear As
                    try clear At
                    try clear Au
                    try clear Av
                    try clear Aw
                    try clear Ax
                    try clear Ay
                    try clear Az
                    try clear Bj
                    try clear Bk
                    try clear Bl
                    try clear Bm
                    try clear Bn
                    try clear Bo
                    try clear Bp
                    try clear Bq
                    try clear Bb
                    try clear Bc
                    try clear Bd
                    try clear Be
                    try clear Bf
                    try clear Bg
                    try clear Bh
                    try clear Bi
                    try clear Br
                    try clear Bs
                    try clear Bt
                    try clear Bu
                    try clear Bv
                    try clear Bw
                    try clear Bx
                    try clear By
                    try clear B3
                    try clear B4
                    try clear B5
                    try clear B6
                    try clear B7
                    try clear B8
                    try clear B9
                    try clear Ca
                    try clear p1
                    try clear p12
                    try clear p129
                    try clear p13
                    try clear p130
                    try clear p132
                    try clear p133
                    try clear p136
                    try clear p137
                    try clear p139
                    try clear p14
                    try clear p140
                    try clear p143
                    try clear p144
                    try clear p2
                    try clear p27
                    try clear p28
                    try clear p5
                    try clear p54
                    try clear p55
                    try clear p6
                    try clear p64
                    try clear q1
                    try clear q12
                    try clear q129
                    try clear q13
                    try clear q130
                    try clear q132
                    try clear q133
                    try clear q136
                    try clear q137
                    try clear q139
                    try clear q14
                    try clear q140
                    try clear q143
                    try clear q144
                    try clear q2
                    try clear q27
                    try clear q28
                    try clear q5
                    try clear q54
                    try clear q55
                    obtain ⟨kq, Ce, rfl, HA, HJ83, Ab, HK, HB⟩ := hcut
                    cases kq with
                    | zero => exact absurd HA.out (by simp [slices_symMergeCmpFunc_api_Point.j8])
                    | succ kj83 =>
                     as_aux_lemma =>
                      have H := HA.out
                      clear HA
                      simp only [slices_symMergeCmpFunc_api_Point.j8] at H
                      by_cases c86 : Ce = true
                      rotate_left
                      · replace c86 := Bool.eq_false_iff.mpr c86
                        subst c86
                        have H1 : (if (wrap64 ((IntKind.u64.wrap (wrap64 (a1 + a3))) / 2)) < (wrap64 ((wrap64 ((wrap64 ((IntKind.u64.wrap (wrap64 (a1 + a3))) / 2)) + a2)) - Ac)) then (if (wrap64 ((wrap64 ((wrap64 ((IntKind.u64.wrap (wrap64 (a1 + a3))) / 2)) + a2)) - Ac)) < a3 then ((slices_symMergeCmpFunc_api_Point.f kj83 Ag (wrap64 ((IntKind.u64.wrap (wrap64 (a1 + a3))) / 2)) (wrap64 ((wrap64 ((wrap64 ((IntKind.u64.wrap (wrap64 (a1 + a3))) / 2)) + a2)) - Ac)) a3).bind fun t149 => (some t149)) else (some Ag)) else (some Ag)) = some r := by rw [if_neg (show ¬ (false = true) by decide)] at H; exact H
                        clear H
                        have H := H1
                        clear H1
                        by_cases c98 : (wrap64 ((IntKind.u64.wrap (wrap64 (a1 + a3))) / 2)) < (wrap64 ((wrap64 ((wrap64 ((IntKind.u64.wrap (wrap64 (a1 + a3))) / 2)) + a2)) - Ac))
                        rotate_left
                        · rw [if_neg c98] at H
                          have c98b0 : decide ((wrap64 ((IntKind.u64.wrap (wrap64 (a1 + a3))) / 2)) < (wrap64 ((wrap64 ((wrap64 ((IntKind.u64.wrap (wrap64 (a1 + a3))) / 2)) + a2)) - Ac))) = false := decide_eq_false c98
                          clear c98
                          obtain rfl := Option.some.inj H
                          go_wp2
                          first | go_end0 | ((try simp only [Exit.inBlock, Exit.then]); refine bodyPost_ret (results_none rfl _ _ _) rfl ?_)
                          exact ⟨pX, by (with_reducible repeat (first | apply Kd.R_alloc | apply Kd.R_drewN | apply Kd.R_drew)); exact Ab.out, pB HB.out, by repeat (first | (with_reducible first | exact HK.out | apply Kept.alloc | apply Kept.drewN | apply Kept.drew) | exact HK.out)⟩
                        rw [if_pos c98] at H
                        have c98b0 : decide ((wrap64 ((IntKind.u64.wrap (wrap64 (a1 + a3))) / 2)) < (wrap64 ((wrap64 ((wrap64 ((IntKind.u64.wrap (wrap64 (a1 + a3))) / 2)) + a2)) - Ac))) = true := decide_eq_true c98
                        clear c98
                        by_cases c99 : (wrap64 ((wrap64 ((wrap64 ((IntKind.u64.wrap (wrap64 (a1 + a3))) / 2)) + a2)) - Ac)) < a3
                        rotate_left
                        · rw [if_neg c99] at H
                          have c99b0 : decide ((wrap64 ((wrap64 ((wrap64 ((IntKind.u64.wrap (wrap64 (a1 + a3))) / 2)) + a2)) - Ac)) < a3) = false := decide_eq_false c99
                          clear c99
                          obtain rfl := Option.some.inj H
                          go_wp2
                          first | go_end0 | ((try simp only [Exit.inBlock, Exit.then]); refine bodyPost_ret (results_none rfl _ _ _) rfl ?_)
                          exact ⟨pX, by (with_reducible repeat (first | apply Kd.R_alloc | apply Kd.R_drewN | apply Kd.R_drew)); exact Ab.out, pB HB.out, by repeat (first | (with_reducible first | exact HK.out | apply Kept.alloc | apply Kept.drewN | apply Kept.drew) | exact HK.out)⟩
                        rw [if_pos c99] at H
                        have c99b0 : decide ((wrap64 ((wrap64 ((wrap64 ((IntKind.u64.wrap (wrap64 (a1 + a3))) / 2)) + a2)) - Ac)) < a3) = true := decide_eq_true c99
                        clear c99
                        replace H := Option.bind_eq_some_iff.mp H
                        obtain ⟨t149, A1000, H⟩ := H
                        replace H : (some t149) = some r := H
                        have A100 := Am A1000
                        clear A1000
                        obtain rfl := Option.some.inj H
                        obtain ⟨Cm, Cn, C8⟩ := Kd.R_slice Ab.out
                        subst C8
                        go_wp2_with (first | ((with_reducible refine gate_callee (f := 64) rfl ?_); refine goesL_ (some 219) rfl rfl Try.func64 (by kernel_rfl) rfl #[.slice Cm Ag.length Cn, .int .i64 (wrap64 ((IntKind.u64.wrap (wrap64 (a1 + a3))) / 2)), .int .i64 (wrap64 ((wrap64 ((wrap64 ((IntKind.u64.wrap (wrap64 (a1 + a3))) / 2)) + a2)) - Ac)), .int .i64 a3, .func (.func 48) #[] #[]] rfl pL ?_; (with_reducible refine (ih kj83 (by have := HJ59.out; have := HK2.out; have := HJ76.out; have := HJ78.out; have := HJ83.out; omega) (fun k_ => some k_ = (.slice Cm Ag.length Cn : Value).ownBlock) (.slice Cm Ag.length Cn) Ag (wrap64 ((IntKind.u64.wrap (wrap64 (a1 + a3))) / 2)) (wrap64 ((wrap64 ((wrap64 ((IntKind.u64.wrap (wrap64 (a1 + a3))) / 2)) + a2)) - Ac)) a3 t149 w0 _ ?B1 ?B2 A100.out).mono ?_); (case B1 => repeat (first | (with_reducible first | exact HB.out | apply below_alloc | apply pw_below_drewN | apply below_drew1) | exact HB.out)); (case B2 => exact Kd.R_tight rfl Ab.out); rintro e w102 ⟨rfl, hy0, hb, hkp⟩; refine ⟨_, rfl, ?_⟩; replace HK := Am (Kept.then_ (S := (fun k_ => P0_ k_)) (by repeat (first | (with_reducible first | exact HK.out | apply Kept.alloc | apply Kept.drewN | apply Kept.drew) | exact HK.out)) hkp (fun k_ hs_ => (fun e_ => (Ab.out.1 k_ e_.symm)) hs_)); replace Ab := Am (Kd.R_reok rfl hy0 (fun k_ e_ => Ab.out.1 k_ e_)); replace HB := Am (hb); (try clear hb); (try clear hkp); (try clear hy0)))
                        first | go_end0 | ((try simp only [Exit.inBlock, Exit.then]); refine bodyPost_ret (results_none rfl _ _ _) rfl ?_)
                        exact ⟨pX, by (with_reducible repeat (first | apply Kd.R_alloc | apply Kd.R_drewN | apply Kd.R_drew)); exact Ab.out, pB HB.out, by repeat (first | (with_reducible first | exact HK.out | apply Kept.alloc | apply Kept.drewN | apply Kept.drew) | exact HK.out)⟩
                      subst c86
                      have H1 : ((slices_symMergeCmpFunc_api_Point.f kj83 Ag a1 Ac (wrap64 ((IntKind.u64.wrap (wrap64 (a1 + a3))) / 2))).bind fun t147 => (if (wrap64 ((IntKind.u64.wrap (wrap64 (a1 + a3))) / 2)) < (wrap64 ((wrap64 ((wrap64 ((IntKind.u64.wrap (wrap64 (a1 + a3))) / 2)) + a2)) - Ac)) then (if (wrap64 ((wrap64 ((wrap64 ((IntKind.u64.wrap (wrap64 (a1 + a3))) / 2)) + a2)) - Ac)) < a3 then ((slices_symMergeCmpFunc_api_Point.f kj83 t147 (wrap64 ((IntKind.u64.wrap (wrap64 (a1 + a3))) / 2)) (wrap64 ((wrap64 ((wrap64 ((IntKind.u64.wrap (wrap64 (a1 + a3))) / 2)) + a2)) - Ac)) a3).bind fun t148 => (some t148)) else (some t147)) else (some t147))) = some r := by rw [if_pos rfl] at H; exact H
                      clear H
                      have H := H1
                      clear H1
                      replace H := Option.bind_eq_some_iff.mp H
                      obtain ⟨t147, A870, H⟩ := H
                      replace H : (if (wrap64 ((IntKind.u64.wrap (wrap64 (a1 + a3))) / 2)) < (wrap64 ((wrap64 ((wrap64 ((IntKind.u64.wrap (wrap64 (a1 + a3))) / 2)) + a2)) - Ac)) then (if (wrap64 ((wrap64 ((wrap64 ((IntKind.u64.wrap (wrap64 (a1 + a3))) / 2)) + a2)) - Ac)) < a3 then ((slices_symMergeCmpFunc_api_Point.f kj83 t147 (wrap64 ((IntKind.u64.wrap (wrap64 (a1 + a3))) / 2)) (wrap64 ((wrap64 ((wrap64 ((IntKind.u64.wrap (wrap64 (a1 + a3))) / 2)) + a2)) - Ac)) a3).bind fun t148 => (some t148)) else (some t147)) else (some t147)) = some r := H
                      have A87 := Am A870
                      clear A870
                      by_cases c88 : (wrap64 ((IntKind.u64.wrap (wrap64 (a1 + a3))) / 2)) < (wrap64 ((wrap64 ((wrap64 ((IntKind.u64.wrap (wrap64 (a1 + a3))) / 2)) + a2)) - Ac))
                      rotate_left
                      · rw [if_neg c88] at H
                        have c88b0 : decide ((wrap64 ((IntKind.u64.wrap (wrap64 (a1 + a3))) / 2)) < (wrap64 ((wrap64 ((wrap64 ((IntKind.u64.wrap (wrap64 (a1 + a3))) / 2)) + a2)) - Ac))) = false := decide_eq_false c88
                        clear c88
                        obtain rfl := Option.some.inj H
                        obtain ⟨Cs, Ct, Dd⟩ := Kd.R_slice Ab.out
                        subst Dd
                        go_wp2_with (first | ((with_reducible refine gate_callee (f := 64) rfl ?_); refine goesL_ (some 205) rfl rfl Try.func64 (by kernel_rfl) rfl #[.slice Cs Ag.length Ct, .int .i64 a1, .int .i64 Ac, .int .i64 (wrap64 ((IntKind.u64.wrap (wrap64 (a1 + a3))) / 2)), .func (.func 48) #[] #[]] rfl pL ?_; (with_reducible refine (ih kj83 (by have := HJ59.out; have := HK2.out; have := HJ76.out; have := HJ78.out; have := HJ83.out; omega) (fun k_ => some k_ = (.slice Cs Ag.length Ct : Value).ownBlock) (.slice Cs Ag.length Ct) Ag a1 Ac (wrap64 ((IntKind.u64.wrap (wrap64 (a1 + a3))) / 2)) t147 w0 _ ?B1 ?B2 A87.out).mono ?_); (case B1 => repeat (first | (with_reducible first | exact HB.out | apply below_alloc | apply pw_below_drewN | apply below_drew1) | exact HB.out)); (case B2 => exact Kd.R_tight rfl Ab.out); rintro e w97 ⟨rfl, hy0, hb, hkp⟩; refine ⟨_, rfl, ?_⟩; replace HK := Am (Kept.then_ (S := (fun k_ => P0_ k_)) (by repeat (first | (with_reducible first | exact HK.out | apply Kept.alloc | apply Kept.drewN | apply Kept.drew) | exact HK.out)) hkp (fun k_ hs_ => (fun e_ => (Ab.out.1 k_ e_.symm)) hs_)); replace Ab := Am (Kd.R_reok rfl hy0 (fun k_ e_ => Ab.out.1 k_ e_)); replace HB := Am (hb); (try clear hb); (try clear hkp); (try clear hy0)))
                        first | go_end0 | ((try simp only [Exit.inBlock, Exit.then]); refine bodyPost_ret (results_none rfl _ _ _) rfl ?_)
                        exact ⟨pX, by (with_reducible repeat (first | apply Kd.R_alloc | apply Kd.R_drewN | apply Kd.R_drew)); exact Ab.out, pB HB.out, by repeat (first | (with_reducible first | exact HK.out | apply Kept.alloc | apply Kept.drewN | apply Kept.drew) | exact HK.out)⟩
                      rw [if_pos c88] at H
                      have c88b0 : decide ((wrap64 ((IntKind.u64.wrap (wrap64 (a1 + a3))) / 2)) < (wrap64 ((wrap64 ((wrap64 ((IntKind.u64.wrap (wrap64 (a1 + a3))) / 2)) + a2)) - Ac))) = true := decide_eq_true c88
                      clear c88
                      by_cases c89 : (wrap64 ((wrap64 ((wrap64 ((IntKind.u64.wrap (wrap64 (a1 + a3))) / 2)) + a2)) - Ac)) < a3
                      rotate_left
                      · rw [if_neg c89] at H
                        have c89b0 : decide ((wrap64 ((wrap64 ((wrap64 ((IntKind.u64.wrap (wrap64 (a1 + a3))) / 2)) + a2)) - Ac)) < a3) = false := decide_eq_false c89
                        clear c89
                        obtain rfl := Option.some.inj H
                        obtain ⟨Cq, Cr, Dc⟩ := Kd.R_slice Ab.out
                        subst Dc
                        go_wp2_with (first | ((with_reducible refine gate_callee (f := 64) rfl ?_); refine goesL_ (some 205) rfl rfl Try.func64 (by kernel_rfl) rfl #[.slice Cq Ag.length Cr, .int .i64 a1, .int .i64 Ac, .int .i64 (wrap64 ((IntKind.u64.wrap (wrap64 (a1 + a3))) / 2)), .func (.func 48) #[] #[]] rfl pL ?_; (with_reducible refine (ih kj83 (by have := HJ59.out; have := HK2.out; have := HJ76.out; have := HJ78.out; have := HJ83.out; omega) (fun k_ => some k_ = (.slice Cq Ag.length Cr : Value).ownBlock) (.slice Cq Ag.length Cr) Ag a1 Ac (wrap64 ((IntKind.u64.wrap (wrap64 (a1 + a3))) / 2)) t147 w0 _ ?B1 ?B2 A87.out).mono ?_); (case B1 => repeat (first | (with_reducible first | exact HB.out | apply below_alloc | apply pw_below_drewN | apply below_drew1) | exact HB.out)); (case B2 => exact Kd.R_tight rfl Ab.out); rintro e w95 ⟨rfl, hy0, hb, hkp⟩; refine ⟨_, rfl, ?_⟩; replace HK := Am (Kept.then_ (S := (fun k_ => P0_ k_)) (by repeat (first | (with_reducible first | exact HK.out | apply Kept.alloc | apply Kept.drewN | apply Kept.drew) | exact HK.out)) hkp (fun k_ hs_ => (fun e_ => (Ab.out.1 k_ e_.symm)) hs_)); replace Ab := Am (Kd.R_reok rfl hy0 (fun k_ e_ => Ab.out.1 k_ e_)); replace HB := Am (hb); (try clear hb); (try clear hkp); (try clear hy0)))
                        first | go_end0 | ((try simp only [Exit.inBlock, Exit.then]); refine bodyPost_ret (results_none rfl _ _ _) rfl ?_)
                        exact ⟨pX, by (with_reducible repeat (first | apply Kd.R_alloc | apply Kd.R_drewN | apply Kd.R_drew)); exact Ab.out, pB HB.out, by repeat (first | (with_reducible first | exact HK.out | apply Kept.alloc | apply Kept.drewN | apply Kept.drew) | exact HK.out)⟩
                      rw [if_pos c89] at H
                      have c89b0 : decide ((wrap64 ((wrap64 ((wrap64 ((IntKind.u64.wrap (wrap64 (a1 + a3))) / 2)) + a2)) - Ac)) < a3) = true := decide_eq_true c89
                      clear c89
                      replace H := Option.bind_eq_some_iff.mp H
                      obtain ⟨t148, A900, H⟩ := H
                      replace H : (some t148) = some r := H
                      have A90 := Am A900
                      clear A900
                      obtain rfl := Option.some.inj H
                      obtain ⟨Ch, Ci, Db⟩ := Kd.R_slice Ab.out
                      subst Db
                      go_wp2_with (first | ((with_reducible refine gate_callee (f := 64) rfl ?_); refine goesL_ (some 205) rfl rfl Try.func64 (by kernel_rfl) rfl #[.slice Ch Ag.length Ci, .int .i64 a1, .int .i64 Ac, .int .i64 (wrap64 ((IntKind.u64.wrap (wrap64 (a1 + a3))) / 2)), .func (.func 48) #[] #[]] rfl pL ?_; (with_reducible refine (ih kj83 (by have := HJ59.out; have := HK2.out; have := HJ76.out; have := HJ78.out; have := HJ83.out; omega) (fun k_ => some k_ = (.slice Ch Ag.length Ci : Value).ownBlock) (.slice Ch Ag.length Ci) Ag a1 Ac (wrap64 ((IntKind.u64.wrap (wrap64 (a1 + a3))) / 2)) t147 w0 _ ?B1 ?B2 A87.out).mono ?_); (case B1 => repeat (first | (with_reducible first | exact HB.out | apply below_alloc | apply pw_below_drewN | apply below_drew1) | exact HB.out)); (case B2 => exact Kd.R_tight rfl Ab.out); rintro e w92 ⟨rfl, hy0, hb, hkp⟩; refine ⟨_, rfl, ?_⟩; replace HK := Am (Kept.then_ (S := (fun k_ => P0_ k_)) (by repeat (first | (with_reducible first | exact HK.out | apply Kept.alloc | apply Kept.drewN | apply Kept.drew) | exact HK.out)) hkp (fun k_ hs_ => (fun e_ => (Ab.out.1 k_ e_.symm)) hs_)); replace Ab := Am (Kd.R_reok rfl hy0 (fun k_ e_ => Ab.out.1 k_ e_)); replace HB := Am (hb); (try clear hb); (try clear hkp); (try clear hy0)) | ((with_reducible refine gate_callee (f := 64) rfl ?_); refine goesL_ (some 219) rfl rfl Try.func64 (by kernel_rfl) rfl #[.slice Ch Ag.length Ci, .int .i64 (wrap64 ((IntKind.u64.wrap (wrap64 (a1 + a3))) / 2)), .int .i64 (wrap64 ((wrap64 ((wrap64 ((IntKind.u64.wrap (wrap64 (a1 + a3))) / 2)) + a2)) - Ac)), .int .i64 a3, .func (.func 48) #[] #[]] rfl pL ?_; (with_reducible refine (ih kj83 (by have := HJ59.out; have := HK2.out; have := HJ76.out; have := HJ78.out; have := HJ83.out; omega) (fun k_ => some k_ = (.slice Ch Ag.length Ci : Value).ownBlock) (.slice Ch Ag.length Ci) t147 (wrap64 ((IntKind.u64.wrap (wrap64 (a1 + a3))) / 2)) (wrap64 ((wrap64 ((wrap64 ((IntKind.u64.wrap (wrap64 (a1 + a3))) / 2)) + a2)) - Ac)) a3 t148 w0 _ ?B1 ?B2 A90.out).mono ?_); (case B1 => repeat (first | (with_reducible first | exact HB.out | apply below_alloc | apply pw_below_drewN | apply below_drew1) | exact HB.out)); (case B2 => exact Kd.R_tight rfl Ab.out); rintro e w93 ⟨rfl, hy0, hb, hkp⟩; refine ⟨_, rfl, ?_⟩; replace HK := Am (Kept.then_ (S := (fun k_ => P0_ k_)) (by repeat (first | (with_reducible first | exact HK.out | apply Kept.alloc | apply Kept.drewN | apply Kept.drew) | exact HK.out)) hkp (fun k_ hs_ => (fun e_ => (Ab.out.1 k_ e_.symm)) hs_)); replace Ab := Am (Kd.R_reok rfl hy0 (fun k_ e_ => Ab.out.1 k_ e_)); replace HB := Am (hb); (try clear hb); (try clear hkp); (try clear hy0)))
                      first | go_end0 | ((try simp only [Exit.inBlock, Exit.then]); refine bodyPost_ret (results_none rfl _ _ _) rfl ?_)
                      exact ⟨pX, by (with_reducible repeat (first | apply Kd.R_alloc | apply Kd.R_drewN | apply Kd.R_drew)); exact Ab.out, pB HB.out, by repeat (first | (with_reducible first | exact HK.out | apply Kept.alloc | apply Kept.drewN | apply Kept.drew) | exact HK.out)⟩
set_option maxHeartbeats 8000000 in
set_option maxRecDepth 100000 in
theorem slices_symMergeCmpFunc_api_Point.calls (k : Nat) : ∀ (P0_ : Nat → Prop) (u9000_ : Value) (l0 : List (S24)) (a1 : Int) (a2 : Int) (a3 : Int)  (r : List (S24)) (w0 w : World) (hB : Below w0.heap.size w0 w) (ho0 : Kd.R k24 24 w w0.heap.size P0_ u9000_ l0) (h : slices_symMergeCmpFunc_api_Point.f k l0 a1 a2 a3 = some r),
    Calls Try.prog 64 #[u9000_, .int .i64 a1, .int .i64 a2, .int .i64 a3, .func (.func 48) #[] #[]] w fun e w' => e = .returned (.tuple #[]) ∧ Kd.R k24 24 w' w0.heap.size (fun k_ => (P0_ k_ ∨ w.heap.size ≤ k_)) u9000_ r ∧ Below w0.heap.size w0 w' ∧ Kept w w' (fun k_ => P0_ k_) := by
  induction k using Nat.strongRecOn with
  | _ k ih =>
  intro P0_ u9000_ l0 a1 a2 a3 r w0 w hB ho0 h
  cases k with
  | zero => exact absurd h (by simp [slices_symMergeCmpFunc_api_Point.f])
  | succ k =>
  simp only [slices_symMergeCmpFunc_api_Point.f] at h
  have H : (if (wrap64 (a2 - a1)) = 1 then (slices_symMergeCmpFunc_api_Point.l0 k l0 a1 a2 a3) else (if (wrap64 (a3 - a2)) = 1 then (slices_symMergeCmpFunc_api_Point.l2 k l0 a2 a1 a2) else (if a2 > (wrap64 ((IntKind.u64.wrap (wrap64 (a1 + a3))) / 2)) then (slices_symMergeCmpFunc_api_Point.j4 k l0 a1 a2 a3 (wrap64 ((IntKind.u64.wrap (wrap64 (a1 + a3))) / 2)) (wrap64 ((wrap64 ((IntKind.u64.wrap (wrap64 (a1 + a3))) / 2)) + a2)) (wrap64 ((wrap64 ((wrap64 ((IntKind.u64.wrap (wrap64 (a1 + a3))) / 2)) + a2)) - a3)) (wrap64 ((IntKind.u64.wrap (wrap64 (a1 + a3))) / 2))) else (slices_symMergeCmpFunc_api_Point.j4 k l0 a1 a2 a3 (wrap64 ((IntKind.u64.wrap (wrap64 (a1 + a3))) / 2)) (wrap64 ((wrap64 ((IntKind.u64.wrap (wrap64 (a1 + a3))) / 2)) + a2)) a1 a2)))) = some r := h
  clear h
  by_cases c6 : (wrap64 (a2 - a1)) = 1
  · rw [if_pos c6] at H
    exact slices_symMergeCmpFunc_api_Point.calls_a k P0_ u9000_ l0 a1 a2 a3 r w0 w hB ho0 c6 H
  rw [if_neg c6] at H
  by_cases c33 : (wrap64 (a3 - a2)) = 1
  · rw [if_pos c33] at H
    exact slices_symMergeCmpFunc_api_Point.calls_b k P0_ u9000_ l0 a1 a2 a3 r w0 w hB ho0 c6 c33 H
  rw [if_neg c33] at H
  exact slices_symMergeCmpFunc_api_Point.calls_c k P0_ u9000_ l0 a1 a2 a3 r w0 w hB ho0 ih c6 c33 H
end Go.Proofs.Ytpefjfibhjnijaa.PLivePuts
