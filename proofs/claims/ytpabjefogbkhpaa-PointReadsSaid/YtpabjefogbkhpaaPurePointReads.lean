/- The pure statement of the law PointReads: what the printed functions answer, each by its plain law, and that the law's answer is true. -/
import Derived.Test.YtpabjefogbkhpaaPPointReadsx0
import Derived.Test.YtpabjefogbkhpaaPPointReadsx1
import Derived.Test.YtpabjefogbkhpaaPPointReadsx2
import Derived.Test.YtpabjefogbkhpaaPPointReadsx3
import Derived.Test.YtpabjefogbkhpaaPPointReadsx4
import Derived.Test.YtpabjefogbkhpaaPPointReadsx5
import Derived.Test.YtpabjefogbkhpaaStPointReads
import Derived.Test.YtpabjefogbkhpaaSz
import Derived.Test.YtpabjefogbkhpaaV02
import Derived.Test.YtpabjefogbkhpaaV04
namespace Go.Proofs.Ytpabjefogbkhpaa.Pure
open Go.RowKit Go.Proofs.Ytpabjefogbkhpaa.PPointReads Go.Proofs.Ytpabjefogbkhpaa.U Go.Proofs.YtpabjefogbkhpaaW.PrintWords Go.Proofs.YtpabjefogbkhpaaW.PrintLast Go.Proofs.YtpabjefogbkhpaaW.PrintMore
set_option linter.unusedVariables false
set_option linter.unusedSimpArgs false
set_option maxRecDepth 4000

theorem garnerref04_May_ev (s a l u : Int) : garnerref04_May.f s a l u = some (mayP s a l) := by
  unfold garnerref04_May.f mayP
  repeat' split
  all_goals (congr 1; first | (symm; rw [decide_eq_false_iff_not]; omega) | (rw [Bool.eq_iff_iff]; simp only [decide_eq_true_eq]; omega))

theorem point_Check_ev (s a l u : Int) : point_Check.f s a l u = some (if mayP s a l = true then 0 else 1) := by
  simp only [point_Check.f, mayP_iff]
  repeat' split
  all_goals first | rfl | omega

theorem varint_Put_l1_ev (l : List Int) (hl : l.length ≤ 10000000000000) (j : Nat) : ∀ (u : Nat) (b : List Int), u < 18446744073709551616 → b.length + (one u).length ≤ 10 * (j + 1) → j < l.length → ∀ r : List Int,
    Ev (fun k => varint_Put.l0 k (b ++ one u) l (l.length : Int) ((j + 1 : Nat) : Int)) r → Ev (fun k => varint_Put.l1 k b (u : Int) l (l.length : Int) (j : Int)) r := by
  intro u
  induction u using Nat.strongRecOn with
  | _ u ih =>
    intro b hu hlen hj r hr
    rw [ev_succ]
    simp only [varint_Put.l1, ev_ite]
    by_cases h : u < 128
    · rw [if_neg (by omega), if_pos (by omega), w64 (by omega) (by omega)]
      rw [one_lt h] at hr
      have e : (u : Int) % 256 = u := by omega
      rw [e]
      exact hr
    · have e : Go.bits .or .u8 ((u : Int) % 256) 128 = ((u % 128 + 128 : Nat) : Int) := by
        rw [or_u8 (by omega) (by omega)]
        omega
      have e2 : (u : Int) / 128 = ((u / 128 : Nat) : Int) := by omega
      rw [if_pos (by omega), if_pos (by omega), e, e2]
      rw [one_ge (u := u) (by omega), List.length_cons] at hlen
      refine ih (u / 128) (by omega) _ (by omega) (by rw [List.length_append, List.length_singleton]; omega) hj r ?_
      rw [one_ge (u := u) (by omega)] at hr
      rw [List.append_assoc, List.singleton_append]
      exact hr
theorem varint_Put_l0_ev (l : List Int) (hl : l.length ≤ 10000000000000) (hu : ∀ u ∈ l, 0 ≤ u ∧ u < 18446744073709551616) : ∀ (d j : Nat) (b : List Int), l.length - j = d → j ≤ l.length → b.length ≤ 10 * j →
    Ev (fun k => varint_Put.l0 k b l (l.length : Int) (j : Int)) (b ++ puts (l.drop j)) := by
  intro d
  induction d with
  | zero =>
    intro j b hd hj hb
    rw [ev_succ]
    simp only [varint_Put.l0, ev_ite]
    rw [if_neg (by omega), ev_some, List.drop_eq_nil_of_le (by omega), puts_nil, List.append_nil]
  | succ d ih =>
    intro j b hd hj hb
    rw [ev_succ]
    simp only [varint_Put.l0, ev_ite]
    rw [if_pos (by omega), if_pos (by omega), if_pos (by omega)]
    have h := hu _ (rd_mem (xs := l) (i := (j : Int)) (by omega) (by omega))
    have e : rd l (j : Int) = ((rd l (j : Int)).toNat : Int) := by omega
    have h10 := one_len10 (u := (rd l (j : Int)).toNat) (by omega)
    rw [e]
    refine varint_Put_l1_ev l hl j _ b (by omega) (by omega) (by omega) _ ?_
    have := ih (j + 1) (b ++ one (rd l (j : Int)).toNat) (by omega) (by omega) (by rw [List.length_append]; omega)
    refine ev_eq this ?_
    rw [drop_eq (xs := l) (i := j) (by omega), puts_cons, List.append_assoc]
theorem varint_Put_ev {l : List Int} (hl : l.length ≤ 10000000000000) (hu : ∀ u ∈ l, 0 ≤ u ∧ u < 18446744073709551616) : Ev (fun k => varint_Put.f k l) (puts l) :=
  varint_Put_l0_ev l hl hu (l.length - 0) 0 [] rfl (by omega) (by simp)

theorem point_Put_ev {s a l u : Int} (h0 : 0 ≤ u) (h1 : u < 4294967296) : Ev (fun k => point_Put.f k s a l u) (if mayP s a l = true then (putP s a l u, 0) else ([], 1)) := by
  simp only [point_Put.f]
  rw [ev_bind_c (point_Check_ev _ _ _ _), ev_ite]
  by_cases h : mayP s a l = true
  · have hm := mayP_iff.1 h
    have hb : ∀ v ∈ [s, a, l], 0 ≤ v ∧ v < 18446744073709551616 := by
      intro v hv
      simp at hv
      omega
    rw [if_pos h, if_pos h, if_pos (by trivial), wu64 (x := s) (by omega) (by omega), wu64 (x := a) (by omega) (by omega), wu64 (x := l) (by omega) (by omega), ev_bind (varint_Put_ev (l := [s, a, l]) (by simp) hb)]
    have hl := puts_len hb
    simp only [List.length_cons, List.length_nil] at hl
    simp only [Option.bind_some, ev_ite, ev_some, List.length_cons, List.length_nil]
    rw [if_pos (by omega)]
    rfl
  · rw [if_neg h, if_neg h, if_neg (by omega), ev_some]

theorem garnerref02_same_l0_ev (x y : List Int) (hxy : x.length = y.length) (hl : x.length ≤ maxLen) : ∀ (d i : Nat), x.length - i = d → i ≤ x.length → Ev (fun k => garnerref02_same.l0 k x y (i : Int)) (decide (x.drop i = y.drop i)) := by
  have hlm := maxLen_le hl
  intro d
  induction d with
  | zero =>
    intro i hd hi
    rw [ev_succ]
    simp only [garnerref02_same.l0, ev_ite]
    rw [if_neg (by omega), ev_some, List.drop_eq_nil_of_le (by omega), List.drop_eq_nil_of_le (by omega)]
    simp
  | succ d ih =>
    intro i hd hi
    rw [ev_succ]
    simp only [garnerref02_same.l0, ev_ite]
    rw [if_pos (by omega), if_pos (by omega), if_pos (by omega), w64 (by omega) (by omega), drop_eq (xs := x) (by omega), drop_eq (xs := y) (by omega)]
    by_cases h : rd x (i : Int) = rd y (i : Int)
    · rw [if_pos h, h]
      refine ev_eq (ih (i + 1) (by omega) (by omega)) ?_
      simp
    · rw [if_neg h, ev_some]
      simp [h]
theorem garnerref02_same_ev {x y : List Int} (hl : x.length ≤ maxLen) : Ev (fun k => garnerref02_same.f k x y) (decide (x = y)) := by
  simp only [garnerref02_same.f, ev_ite]
  by_cases h : x.length = y.length
  · rw [if_pos (by omega)]
    exact garnerref02_same_l0_ev x y h hl (x.length - 0) 0 rfl (by omega)
  · rw [if_neg (by omega), ev_some]
    symm
    simp only [decide_eq_false_iff_not]
    rintro rfl
    exact h rfl

theorem garnerref02_Bytes_ev {x y : List Int} (hl : x.length ≤ maxLen) : Ev (fun k => garnerref02_Bytes.f k x y) (decide (x = y)) := by
  simp only [garnerref02_Bytes.f]
  rw [ev_bind (garnerref02_same_ev hl), ev_some]

theorem garnerlaw04_awake_ev : Ev (fun k => garnerlaw04_awake.f k) true := Ev.of (fun k => garnerlaw04_awake.mono k) (k := 40) (by decide +kernel)

theorem varint_Get_l0_ev (x : List Int) (hb : Bytes x) (hl : x.length ≤ maxLen) : ∀ (d i : Nat) (u : Int), x.length - i = d → i ≤ 10 → i ≤ x.length → 0 ≤ u → u < 2 ^ (7 * i) →
    Ev (fun k => varint_Get.l0 k x u (i : Int)) (match dec i (x.drop i) with | some (v, n) => (u + v * 2 ^ (7 * i), (i : Int) + n, 0) | none => (0, 0, 2)) := by
  have hlm := maxLen_le hl
  intro d
  induction d with
  | zero =>
    intro i u hd hi hix hu0 hu
    rw [ev_succ]
    simp only [varint_Get.l0, ev_ite]
    rw [if_neg (by omega), ev_succ]
    simp only [varint_Get.j1, ev_ite]
    rw [if_neg (by simp), ev_some, List.drop_eq_nil_of_le (by omega)]
    rfl
  | succ d ih =>
    intro i u hd hi hix hu0 hu
    have hlt : i < x.length := by omega
    have hc := hb.rd (i := (i : Int)) (by omega) (by omega)
    rw [ev_succ]
    simp only [varint_Get.l0, ev_ite]
    rw [if_pos (by omega), ev_succ, drop_eq hlt]
    simp only [varint_Get.j1, ev_ite, decide_eq_true_eq]
    generalize hcc : rd x (i : Int) = c at hc ⊢
    by_cases h10 : i = 10
    · subst h10
      rw [if_neg (by omega), ev_some, dec, if_pos (by omega)]
    · rw [if_pos (by omega), if_pos (by omega), if_pos (by omega), wu64 (by omega) (by omega)]
      have hj2 : ∀ b : Bool, b = decide (i = 9 ∧ 1 < c) → Ev (fun k => varint_Get.j2 k x u (i : Int) c b) (match dec i (c :: x.drop (i + 1)) with | some (v, n) => (u + v * 2 ^ (7 * i), (i : Int) + n, 0) | none => (0, 0, 2)) := by
        intro b hbb
        rw [ev_succ]
        simp only [varint_Get.j2, ev_ite, dec]
        rw [if_neg (show ¬ 10 ≤ i by omega)]
        by_cases h9 : i = 9 ∧ 1 < c
        · rw [if_pos (by rw [hbb]; simpa using h9), if_pos h9, ev_some]
        · rw [if_neg (by rw [hbb]; simpa using h9), if_neg h9, w64 (by omega) (by omega), if_pos (by omega)]
          have hsh : ∀ y : Int, 0 ≤ y → y ≤ 127 → (i = 9 → y ≤ 1) → Go.bits .or .u64 u (shl .u64 y (7 * (i : Int))) = u + y * 2 ^ (7 * i) ∧ y * 2 ^ (7 * i) + 2 ^ (7 * i) ≤ (18446744073709551616 : Int) := by
            intro y hy0 hy1 hy9
            have hi' : i = 0 ∨ i = 1 ∨ i = 2 ∨ i = 3 ∨ i = 4 ∨ i = 5 ∨ i = 6 ∨ i = 7 ∨ i = 8 ∨ i = 9 := by omega
            have hs : y * 2 ^ (7 * i) + 2 ^ (7 * i) ≤ (18446744073709551616 : Int) := by
              rcases hi' with rfl | rfl | rfl | rfl | rfl | rfl | rfl | rfl | rfl | rfl <;> simp <;> omega
            have hp : (0 : Int) < 2 ^ (7 * i) := Int.pow_pos (by omega)
            have hm : 0 ≤ y * 2 ^ (7 * i) := Int.mul_nonneg hy0 (by omega)
            have e : (7 * (i : Int)).toNat = 7 * i := by omega
            refine ⟨?_, hs⟩
            unfold shl
            rw [e, Nat.min_eq_left (show 7 * i ≤ IntKind.u64.bits by show 7 * i ≤ 64; omega), wu64 hm (by omega)]
            exact or_u64 (by omega) hu0 hu hy0 (by omega)
          by_cases h128 : c < 128
          · have hm : c % 128 = c := by omega
            rw [if_pos h128, if_pos h128]
            obtain ⟨h1, h2⟩ := hsh c (by omega) (by omega) (fun h => by omega)
            have hr : Ev (fun _ => some (Go.bits .or .u64 u (shl .u64 (Go.bits .andNot .u64 c 128) (7 * (i : Int))), wrap64 ((i : Int) + 1), (0 : Int))) (u + c * 2 ^ (7 * i), (i : Int) + 1, 0) := by
              rw [ev_some, andNot_u64 hc.1 hc.2, hm, h1, w64 (by omega) (by omega)]
            by_cases h0 : c = 0
            · rw [if_pos h0]
              by_cases hi0 : 0 < i
              · rw [if_pos (by omega), if_pos ⟨h0, hi0⟩, ev_some]
              · rw [if_neg (by omega), if_neg (by omega)]
                simp only
                rw [Int.toNat_of_nonneg hc.1]
                exact hr
            · rw [if_neg h0, if_neg (fun h => h0 h.1)]
              simp only
              rw [Int.toNat_of_nonneg hc.1]
              exact hr
          · have hx9 : i ≠ 9 := by omega
            rw [if_neg h128, if_neg h128, andNot_u64 hc.1 hc.2, w64 (by omega) (by omega)]
            obtain ⟨h1, h2⟩ := hsh (c % 128) (by omega) (by omega) (fun h => by omega)
            rw [h1]
            have hp : (0 : Int) < 2 ^ (7 * i) := Int.pow_pos (by omega)
            have hm : 0 ≤ c % 128 * 2 ^ (7 * i) := Int.mul_nonneg (by omega) (by omega)
            have hpow : (2 : Int) ^ (7 * (i + 1)) = 128 * 2 ^ (7 * i) := by
              rw [Nat.mul_add, Int.pow_add]
              omega
            have hlt2 : c % 128 * 2 ^ (7 * i) ≤ 127 * 2 ^ (7 * i) := Int.mul_le_mul_of_nonneg_right (by omega) (by omega)
            have := ih (i + 1) (u + c % 128 * 2 ^ (7 * i)) (by omega) (by omega) (by omega) (by omega) (by omega)
            refine ev_eq this ?_
            cases dec (i + 1) (x.drop (i + 1)) with
            | none => rfl
            | some p =>
              obtain ⟨v, n⟩ := p
              simp only [Option.map_some]
              have e2 : (((c % 128).toNat + 128 * v : Nat) : Int) = c % 128 + 128 * v := by omega
              rw [e2, hpow, Int.add_mul, Int.mul_comm 128 (2 ^ (7 * i)), Int.mul_comm (128 : Int) (v : Int), Int.mul_assoc, Int.mul_comm (128 : Int) (2 ^ (7 * i)), ← Int.add_assoc]
              congr 2
              omega
      by_cases h9 : i = 9
      · rw [if_pos (by omega)]
        exact hj2 _ (by simp [h9])
      · rw [if_neg (by omega)]
        exact hj2 _ (by simp [h9])
theorem varint_Get_ev {x : List Int} (hb : Bytes x) (hl : x.length ≤ maxLen) : Ev (fun k => varint_Get.f k x) (getR x) := by
  have h := varint_Get_l0_ev x hb hl (x.length - 0) 0 0 rfl (by omega) (by omega) (by omega) (by simp)
  refine ev_eq h ?_
  unfold getR
  simp only [List.drop_zero]
  cases dec 0 x with
  | none => rfl
  | some p => simp

theorem varint_All_l0_ev (x : List Int) (hb : Bytes x) (hl : x.length ≤ maxLen) (n : Nat) (hn : n ≤ 1000) : ∀ (d j at_ : Nat) (l : List Int), d + j = n → l.length = j → at_ ≤ x.length →
    Ev (fun k => varint_All.l0 k x l (at_ : Int) (n : Int) (j : Int)) (if (decs d (x.drop at_)).2.2 = true then (l ++ (decs d (x.drop at_)).1, (at_ : Int) + ((decs d (x.drop at_)).2.1 : Int), 0) else ([], (at_ : Int) + ((decs d (x.drop at_)).2.1 : Int), 2)) := by
  have hlm := maxLen_le hl
  intro d
  induction d with
  | zero =>
    intro j at_ l hd hj ha
    rw [ev_succ]
    simp only [varint_All.l0, ev_ite]
    rw [if_neg (by omega), ev_some]
    simp [decs]
  | succ d ih =>
    intro j at_ l hd hj ha
    have hb' := hb.drop at_
    rw [ev_succ]
    simp only [varint_All.l0, ev_ite]
    rw [if_pos (by omega), if_pos (by omega), if_pos (by omega), Int.toNat_natCast, ev_bind (varint_Get_ev hb' (by rw [List.length_drop]; omega))]
    simp only [ev_ite, decs, getR]
    rcases dec_cases (x.drop at_) with hdec | ⟨u, k, hdec⟩
    · simp only [hdec, ev_ite]
      rw [if_neg (by omega), ev_some, if_neg (by simp)]
      simp
    · have hk := dec_pos hb' hdec
      rw [List.length_drop] at hk
      simp only [hdec, ev_ite]
      rw [if_pos (by trivial), if_pos (by omega), w64 (by omega) (by omega), w64 (by omega) (by omega)]
      have := ih (j + 1) (at_ + k) (l ++ [(u : Int)]) (by omega) (by simp [hj]) (by omega)
      rw [Int.natCast_add, Int.natCast_add] at this
      refine ev_eq this ?_
      rw [List.drop_drop]
      simp only [List.append_assoc, List.singleton_append]
      split <;> (congr 2; omega)
theorem varint_All_ev {x : List Int} (hb : Bytes x) (hl : x.length ≤ maxLen) (n : Nat) (hn : n ≤ 1000) : Ev (fun k => varint_All.f k x (n : Int)) (allR n x) := by
  simp only [varint_All.f, ev_ite]
  rw [if_neg (by omega), ev_succ]
  simp only [varint_All.j0, ev_ite, decide_eq_true_eq]
  rw [if_neg (by omega)]
  have := varint_All_l0_ev x hb hl n hn n 0 0 [] (by omega) rfl (by omega)
  refine ev_eq this ?_
  unfold allR
  simp
theorem varint_All_bad {x : List Int} {n : Int} (hn : n < 0 ∨ 1000 < n) : Ev (fun k => varint_All.f k x n) ([], 0, 1) := by
  simp only [varint_All.f, ev_ite]
  by_cases h : n < 0
  · rw [if_pos h, ev_succ]
    simp only [varint_All.j0, ev_ite]
    rw [if_pos (by trivial), ev_some]
  · rw [if_neg h, ev_succ]
    simp only [varint_All.j0, ev_ite, decide_eq_true_eq]
    rw [if_pos (by omega), ev_some]

theorem slices_Max_uint64_uint64_l0_ev (x : List Int) (hl : x.length ≤ maxLen) : ∀ (d i : Nat) (m : Int), x.length - i = d → i ≤ x.length → Ev (fun k => slices_Max_uint64_uint64.l0 k x m (i : Int)) ((x.drop i).foldl mx m) := by
  have hlm := maxLen_le hl
  intro d
  induction d with
  | zero =>
    intro i m hd hi
    rw [ev_succ]
    simp only [slices_Max_uint64_uint64.l0, ev_ite]
    rw [if_neg (by omega), ev_some, List.drop_eq_nil_of_le (by omega)]
    rfl
  | succ d ih =>
    intro i m hd hi
    rw [ev_succ]
    simp only [slices_Max_uint64_uint64.l0, ev_ite]
    rw [if_pos (by omega), if_pos (by omega), w64 (by omega) (by omega), drop_eq (xs := x) (by omega)]
    exact ih (i + 1) _ (by omega) (by omega)
theorem slices_Max_uint64_uint64_ev {x : List Int} (hl : x.length ≤ maxLen) (h0 : 0 < x.length) : Ev (fun k => slices_Max_uint64_uint64.f k x) (maxl x) := by
  simp only [slices_Max_uint64_uint64.f, ev_ite]
  rw [if_neg (by omega), if_pos (by omega)]
  refine ev_eq (slices_Max_uint64_uint64_l0_ev x hl (x.length - 1) 1 (rd x 0) rfl (by omega)) ?_
  match x, h0 with
  | y :: r, _ => rfl

theorem point_sumOf_ev {x : List Int} (hb : Bytes x) (h : 4 ≤ x.length) : point_sumOf.f x = some (sumAt x 0) := by
  have h0 := hb.rd (i := 0) (by omega) (by omega)
  have h1 := hb.rd (i := 1) (by omega) (by omega)
  have h2 := hb.rd (i := 2) (by omega) (by omega)
  have h3 := hb.rd (i := 3) (by omega) (by omega)
  unfold point_sumOf.f
  rw [if_pos (by omega), if_pos (by omega), if_pos (by omega), if_pos (by omega)]
  have e : sumAt x 0 = rd x 0 + 256 * rd x 1 + 65536 * rd x 2 + 16777216 * rd x 3 := rfl
  rw [e]
  generalize rd x 0 = a at *
  generalize rd x 1 = b at *
  generalize rd x 2 = c at *
  generalize rd x 3 = d at *
  have e1 : a % 4294967296 = a := by omega
  have e2 : b % 4294967296 * 256 % 4294967296 = b * 2 ^ 8 := by omega
  have e3 : c % 4294967296 * 65536 % 4294967296 = c * 2 ^ 16 := by omega
  have e4 : d % 4294967296 * 16777216 % 4294967296 = d * 2 ^ 24 := by omega
  have e5 := or_u32 (j := 8) (x := a) (y := b) (by omega) (by omega) (by omega) (by omega) (by omega)
  have e6 := or_u32 (j := 16) (x := a + b * 2 ^ 8) (y := c) (by omega) (by omega) (by omega) (by omega) (by omega)
  have e7 := or_u32 (j := 24) (x := a + b * 2 ^ 8 + c * 2 ^ 16) (y := d) (by omega) (by omega) (by omega) (by omega) (by omega)
  rw [e1, e2, e3, e4, e5, e6, e7]
  congr 1
  omega

theorem point_Get_ev {x : List Int} (hb : Bytes x) (hl : x.length ≤ maxLen) : Ev (fun k => point_Get.f k x) ((pointR x).1, (pointR x).2.1, (pointR x).2.2.1, (pointR x).2.2.2.1, (pointR x).2.2.2.2, if (pointR x).2.2.2.2 = 0 then 2 else 0) := by
  have hlm := maxLen_le hl
  have hbad : ∀ l a, Ev (fun k => point_Get.j0 k x l a true) (0, 0, 0, 0, 0, 2) := by
    intro l a
    rw [ev_succ]
    simp [point_Get.j0, ev_ite, ev_some]
  simp only [point_Get.f]
  have h3 : Ev (fun k => varint_All.f k x 3) (allR 3 x) := varint_All_ev hb hl 3 (by omega)
  rw [ev_bind h3]
  simp only [allR]
  by_cases h : (decs 3 x).2.2 = true
  · obtain ⟨u, v, w, h1, h2, h3, h4⟩ := decs_three hb h
    have hat := decs_at (n := 3) hb
    simp only [pointR, h, if_true, h1, ev_ite, true_and]
    have r0 : rd [u, v, w] 0 = u := rfl
    have r1 : rd [u, v, w] 1 = v := rfl
    have r2 : rd [u, v, w] 2 = w := rfl
    have l3 : (([u, v, w] : List Int).length : Int) = 3 := rfl
    have hm : Ev (fun k => slices_Max_uint64_uint64.f k [u, v, w]) (mx (mx u v) w) := slices_Max_uint64_uint64_ev (x := [u, v, w]) (by simp [maxLen]) (by simp)
    have hmx : (mx (mx u v) w > 2147483647) ↔ (2147483647 < u ∨ 2147483647 < v ∨ 2147483647 < w) := by unfold mx; repeat' split <;> omega
    rw [ev_bind hm]
    simp only [ev_ite, r0, r1, r2, hmx]
    by_cases hbig : 2147483647 < u ∨ 2147483647 < v ∨ 2147483647 < w
    · have hn : ¬ mayP u v w = true := by rw [mayP_iff]; omega
      rw [if_pos hbig, if_neg (fun hh => hn hh.2)]
      exact hbad _ _
    · rw [if_neg hbig, w64 (by omega) (by omega)]
      by_cases h4 : (decs 3 x).2.1 + 4 ≤ x.length
      · have e : decide ((x.length : Int) - ((decs 3 x).2.1 : Int) < 4) = false := by rw [decide_eq_false_iff_not]; omega
        rw [e, ev_succ]
        simp only [point_Get.j0, ev_ite, l3, Int.reduceLT, if_true, Bool.false_eq_true, if_false, r0, r1, r2, Int.toNat_natCast]
        rw [if_pos (by omega), if_pos (by omega), ev_bind_c (point_sumOf_ev (hb.drop _) (by rw [List.length_drop]; omega))]
        rw [ev_bind_c (point_Check_ev _ _ _ _), ev_ite, ev_some, ev_some, w64 (x := u) (by omega) (by omega), w64 (x := v) (by omega) (by omega), w64 (x := w) (by omega) (by omega), w64 (by omega) (by omega)]
        have es : sumAt (x.drop (decs 3 x).2.1) 0 = sumAt x (decs 3 x).2.1 := by
          have er : ∀ (j : Nat) (n : Int), n = ((decs 3 x).2.1 : Int) + j → rd (x.drop (decs 3 x).2.1) (j : Int) = rd x n := by
            intro j n hn
            subst hn
            have : ((decs 3 x).2.1 : Int) + (j : Int) = (((decs 3 x).2.1 + j : Nat) : Int) := by omega
            rw [this, rd_nat, rd_nat]
            simp [List.getD_eq_getElem?_getD]
          unfold sumAt
          rw [← er 0 _ (by omega), ← er 1 _ (by omega), ← er 2 _ (by omega), ← er 3 _ (by omega)]
          rfl
        rw [es]
        by_cases hm : mayP u v w = true
        · rw [if_pos hm, if_pos (by trivial), if_pos ⟨h4, hm⟩]
          simp only
          rw [if_neg (by omega)]
        · rw [if_neg hm, if_neg (by omega), if_neg (fun hh => hm hh.2)]
          rfl
      · have e : decide ((x.length : Int) - ((decs 3 x).2.1 : Int) < 4) = true := by rw [decide_eq_true_eq]; omega
        rw [e, if_neg (fun hh => h4 hh.1)]
        exact hbad _ _
  · have hf : (decs 3 x).2.2 = false := by simpa using h
    simp only [pointR, hf, ev_ite, Bool.false_eq_true, if_false, false_and]
    rw [if_neg (by omega)]
    exact hbad _ _

theorem PointReads : StPointReads.Pure := by
  intro s a l u m _ _ _ hu hml _ hmb
  have hu := wf_u32 hu
  have hb := Bytes.of_wf hmb
  refine Ev.rounds (g := fun k => garnerlaw04_PointReads.f k s a l u m) ?_
  simp only [garnerlaw04_PointReads.f]
  have hbad : Ev (fun k => garnerlaw04_PointReads.j0 k m true s a l u) true := by
    rw [ev_succ]
    simp only [garnerlaw04_PointReads.j0, ev_ite]
    rw [if_pos (by trivial), ev_bind garnerlaw04_awake_ev, ev_some]
  rw [ev_bind_c (garnerref04_May_ev _ _ _ _), ev_ite]
  by_cases h : mayP s a l = true
  · rw [if_pos h]
    by_cases hm : (m.length : Int) > 1000
    · have e : decide ((m.length : Int) > 1000) = true := by rw [decide_eq_true_eq]; exact hm
      rw [e]
      exact hbad
    · have e : decide ((m.length : Int) > 1000) = false := by rw [decide_eq_false_iff_not]; exact hm
      have hm' := mayP_iff.1 h
      have hbs : ∀ v ∈ [s, a, l], 0 ≤ v ∧ v < 18446744073709551616 := by
        intro v hv
        simp at hv
        omega
      have hl := puts_len hbs
      have l4 : (sum4 u).length = 4 := rfl
      simp only [List.length_cons, List.length_nil] at hl
      have hpl : (putP s a l u).length ≤ 34 := by unfold putP; rw [List.length_append, l4]; omega
      have hpb : Bytes (putP s a l u) := (puts_bytes _).append (sum4_bytes _)
      rw [e, ev_succ]
      simp only [garnerlaw04_PointReads.j0, ev_ite, Option.bind_some, List.nil_append]
      rw [if_neg (by simp), ev_bind (point_Put_ev (by omega) (by omega))]
      simp only [h, if_true, ev_ite, List.length_nil]
      rw [if_pos (by omega), if_pos (by omega), ev_bind (point_Get_ev (hpb.append hb) (by rw [List.length_append]; unfold maxLen; omega)), pointR_put h (by omega) (by omega) m]
      have hn0 : ¬ ((putP s a l u).length : Int) = 0 := by
        unfold putP
        rw [List.length_append, l4]
        omega
      simp only [ev_ite, beq_self_eq_true, Bool.and_self, if_true]
      rw [if_neg hn0]
      simp only [if_true]
      rw [ev_bind garnerlaw04_awake_ev, ev_some]
  · rw [if_neg h]
    exact hbad

end Go.Proofs.Ytpabjefogbkhpaa.Pure
