/- The pure statement of the law HardPuts: what the printed functions answer, each by its plain law, and that the law's answer is true. -/
import Derived.Test.YthgkjkdbjnoikaaPHardPutsx0
import Derived.Test.YthgkjkdbjnoikaaPHardPutsx1
import Derived.Test.YthgkjkdbjnoikaaPHardPutsx2
import Derived.Test.YthgkjkdbjnoikaaPHardPutsx3
import Derived.Test.YthgkjkdbjnoikaaPHardPutsx4
import Derived.Test.YthgkjkdbjnoikaaPHardPutsx5
import Derived.Test.YthgkjkdbjnoikaaPHardPutsx6
import Derived.Test.YthgkjkdbjnoikaaStHardPuts
import Derived.Test.YthgkjkdbjnoikaaSz
import Derived.Test.YthgkjkdbjnoikaaV02
import Derived.Test.YthgkjkdbjnoikaaV22
namespace Go.Proofs.Ythgkjkdbjnoikaa.Pure
open Go.RowKit Go.Proofs.Ythgkjkdbjnoikaa.PHardPuts Go.Proofs.Ythgkjkdbjnoikaa.U Go.Proofs.YthgkjkdbjnoikaaW.PrintWords Go.Proofs.YthgkjkdbjnoikaaW.PrintLast Go.Proofs.YthgkjkdbjnoikaaW.PrintMore
set_option linter.unusedVariables false
set_option linter.unusedSimpArgs false
set_option maxRecDepth 4000

theorem garnerref02_same_l0_ev (x y : List Int) (hxy : x.length = y.length) (hl : x.length ≤ maxLen) : ∀ (d i : Nat), x.length - i = d → i ≤ x.length → Ev (fun k => garnerref02_same.l0 k x y (i : Int)) (decide (x.drop i = y.drop i)) := by
  have hlm := maxLen_le hl
  intro d
  induction d with
  | zero =>
    intro i hd hi
    rw [ev_succ]
    simp only [garnerref02_same.l0, ev_ite]
    rw [if_neg (by omega), ev_some, List.drop_eq_nil_of_le (by omega), List.drop_eq_nil_of_le (by omega)]
    simp
  | succ d ih =>
    intro i hd hi
    rw [ev_succ]
    simp only [garnerref02_same.l0, ev_ite]
    rw [if_pos (by omega), if_pos (by omega), if_pos (by omega), w64 (by omega) (by omega), drop_eq (xs := x) (by omega), drop_eq (xs := y) (by omega)]
    by_cases h : rd x (i : Int) = rd y (i : Int)
    · rw [if_pos h, h]
      refine ev_eq (ih (i + 1) (by omega) (by omega)) ?_
      simp
    · rw [if_neg h, ev_some]
      simp [h]
theorem garnerref02_same_ev {x y : List Int} (hl : x.length ≤ maxLen) : Ev (fun k => garnerref02_same.f k x y) (decide (x = y)) := by
  simp only [garnerref02_same.f, ev_ite]
  by_cases h : x.length = y.length
  · rw [if_pos (by omega)]
    exact garnerref02_same_l0_ev x y h hl (x.length - 0) 0 rfl (by omega)
  · rw [if_neg (by omega), ev_some]
    symm
    simp only [decide_eq_false_iff_not]
    rintro rfl
    exact h rfl

theorem garnerref02_Bytes_ev {x y : List Int} (hl : x.length ≤ maxLen) : Ev (fun k => garnerref02_Bytes.f k x y) (decide (x = y)) := by
  simp only [garnerref02_Bytes.f]
  rw [ev_bind (garnerref02_same_ev hl), ev_some]

theorem hard_counts_ev (n : Int) : hard_counts.f n = some (decide (0 ≤ n ∧ n ≤ 2147483647)) := by
  unfold hard_counts.f
  by_cases h : n ≥ 0
  · rw [if_pos h]
    simp [h]
  · rw [if_neg h]
    congr 1
    symm
    rw [decide_eq_false_iff_not]
    omega

theorem hard_Check_ev (t v c : Int) : hard_Check.f t v c = some (if mayH t v c = true then 0 else 1) := by
  simp only [hard_Check.f, hard_counts_ev, Option.bind_some, decide_eq_true_eq, mayH_iff]
  repeat' split
  all_goals first | rfl | omega

theorem hard_Step_ev (t v c t' v' c' last : Int) : Ev (fun k => hard_Step.f k t v c t' v' c' last) (stepH t v c t' v' c' last) := by
  have h2 : ∀ b : Bool, b = decide (t' = t ∧ v ≠ 0 ∧ v' ≠ v) → Ev (fun k => hard_Step.j2 k last b t' v' c') (if t' = t ∧ v ≠ 0 ∧ v' ≠ v then 4 else if last < c' then 3 else 0) := by
    intro b hb
    rw [ev_succ]
    simp only [hard_Step.j2, ev_ite, ev_some, hb, decide_eq_true_eq]
    repeat' split
    all_goals first | rfl | omega
  have h1 : ∀ b : Bool, b = decide (t' < t ∨ c' < c) → Ev (fun k => hard_Step.j1 k last b t v c t' v' c') (if t' < t ∨ c' < c ∨ (t' = t ∧ v ≠ 0 ∧ v' ≠ v) then 4 else if last < c' then 3 else 0) := by
    intro b hb
    rw [ev_succ]
    simp only [hard_Step.j1, ev_ite, ev_some, hb, decide_eq_true_eq]
    by_cases hc : t' < t ∨ c' < c
    · rw [if_pos hc, if_pos (by omega)]
    · rw [if_neg hc]
      by_cases ht : t' = t
      · rw [if_pos ht]
        by_cases hv : v = 0
        · rw [if_pos hv]
          refine ev_eq (h2 false (by simp [hv])) ?_
          repeat' split
          all_goals first | rfl | omega
        · rw [if_neg hv]
          refine ev_eq (h2 _ (by rw [Bool.eq_iff_iff]; simp [hv, ht])) ?_
          repeat' split
          all_goals first | rfl | omega
      · rw [if_neg ht]
        refine ev_eq (h2 false (by simp [ht])) ?_
        repeat' split
        all_goals first | rfl | omega
  have h0 : ∀ b : Bool, b = (mayH t v c == false || mayH t' v' c' == false) → Ev (fun k => hard_Step.j0 k last b t v c t' v' c') (stepH t v c t' v' c' last) := by
    intro b hb
    rw [ev_succ]
    simp only [hard_Step.j0, ev_ite, ev_some]
    unfold stepH
    by_cases hm : mayH t v c = false ∨ mayH t' v' c' = false
    · rw [if_pos (by rw [hb]; simpa using hm), if_pos hm]
    · rw [if_neg (by rw [hb]; simpa using hm), if_neg hm]
      by_cases ht : t' < t
      · rw [if_pos ht]
        exact h1 true (by simp [ht])
      · rw [if_neg ht]
        exact h1 _ (by simp [ht])
  simp only [hard_Step.f, hard_Check_ev, Option.bind_some]
  by_cases hm : mayH t v c = true
  · simp only [hm, if_true]
    refine h0 _ ?_
    rw [hm]
    cases mayH t' v' c' <;> rfl
  · have hf : mayH t v c = false := by simpa using hm
    simp only [hf]
    exact h0 true (by rw [hf]; rfl)

theorem garnerlaw22_awake_ev : Ev (fun k => garnerlaw22_awake.f k) true := Ev.of (fun k => garnerlaw22_awake.mono k) (k := 40) (by decide +kernel)

theorem garnerref22_May_ev (t v c : Int) : garnerref22_May.f t v c = some (mayH t v c) := by
  unfold garnerref22_May.f mayH
  repeat' split
  all_goals (congr 1; first | (symm; rw [decide_eq_false_iff_not]; omega) | (symm; rw [decide_eq_true_eq]; omega) | (rw [Bool.eq_iff_iff]; simp only [decide_eq_true_eq, beq_iff_eq]; omega))

theorem varint_Get_l0_ev (x : List Int) (hb : Bytes x) (hl : x.length ≤ maxLen) : ∀ (d i : Nat) (u : Int), x.length - i = d → i ≤ 10 → i ≤ x.length → 0 ≤ u → u < 2 ^ (7 * i) →
    Ev (fun k => varint_Get.l0 k x u (i : Int)) (match dec i (x.drop i) with | some (v, n) => (u + v * 2 ^ (7 * i), (i : Int) + n, 0) | none => (0, 0, 2)) := by
  have hlm := maxLen_le hl
  intro d
  induction d with
  | zero =>
    intro i u hd hi hix hu0 hu
    rw [ev_succ]
    simp only [varint_Get.l0, ev_ite]
    rw [if_neg (by omega), ev_succ]
    simp only [varint_Get.j1, ev_ite]
    rw [if_neg (by simp), ev_some, List.drop_eq_nil_of_le (by omega)]
    rfl
  | succ d ih =>
    intro i u hd hi hix hu0 hu
    have hlt : i < x.length := by omega
    have hc := hb.rd (i := (i : Int)) (by omega) (by omega)
    rw [ev_succ]
    simp only [varint_Get.l0, ev_ite]
    rw [if_pos (by omega), ev_succ, drop_eq hlt]
    simp only [varint_Get.j1, ev_ite, decide_eq_true_eq]
    generalize hcc : rd x (i : Int) = c at hc ⊢
    by_cases h10 : i = 10
    · subst h10
      rw [if_neg (by omega), ev_some, dec, if_pos (by omega)]
    · rw [if_pos (by omega), if_pos (by omega), if_pos (by omega), wu64 (by omega) (by omega)]
      have hj2 : ∀ b : Bool, b = decide (i = 9 ∧ 1 < c) → Ev (fun k => varint_Get.j2 k x u (i : Int) c b) (match dec i (c :: x.drop (i + 1)) with | some (v, n) => (u + v * 2 ^ (7 * i), (i : Int) + n, 0) | none => (0, 0, 2)) := by
        intro b hbb
        rw [ev_succ]
        simp only [varint_Get.j2, ev_ite, dec]
        rw [if_neg (show ¬ 10 ≤ i by omega)]
        by_cases h9 : i = 9 ∧ 1 < c
        · rw [if_pos (by rw [hbb]; simpa using h9), if_pos h9, ev_some]
        · rw [if_neg (by rw [hbb]; simpa using h9), if_neg h9, w64 (by omega) (by omega), if_pos (by omega)]
          have hsh : ∀ y : Int, 0 ≤ y → y ≤ 127 → (i = 9 → y ≤ 1) → Go.bits .or .u64 u (shl .u64 y (7 * (i : Int))) = u + y * 2 ^ (7 * i) ∧ y * 2 ^ (7 * i) + 2 ^ (7 * i) ≤ (18446744073709551616 : Int) := by
            intro y hy0 hy1 hy9
            have hi' : i = 0 ∨ i = 1 ∨ i = 2 ∨ i = 3 ∨ i = 4 ∨ i = 5 ∨ i = 6 ∨ i = 7 ∨ i = 8 ∨ i = 9 := by omega
            have hs : y * 2 ^ (7 * i) + 2 ^ (7 * i) ≤ (18446744073709551616 : Int) := by
              rcases hi' with rfl | rfl | rfl | rfl | rfl | rfl | rfl | rfl | rfl | rfl <;> simp <;> omega
            have hp : (0 : Int) < 2 ^ (7 * i) := Int.pow_pos (by omega)
            have hm : 0 ≤ y * 2 ^ (7 * i) := Int.mul_nonneg hy0 (by omega)
            have e : (7 * (i : Int)).toNat = 7 * i := by omega
            refine ⟨?_, hs⟩
            unfold shl
            rw [e, Nat.min_eq_left (show 7 * i ≤ IntKind.u64.bits by show 7 * i ≤ 64; omega), wu64 hm (by omega)]
            exact or_u64 (by omega) hu0 hu hy0 (by omega)
          by_cases h128 : c < 128
          · have hm : c % 128 = c := by omega
            rw [if_pos h128, if_pos h128]
            obtain ⟨h1, h2⟩ := hsh c (by omega) (by omega) (fun h => by omega)
            have hr : Ev (fun _ => some (Go.bits .or .u64 u (shl .u64 (Go.bits .andNot .u64 c 128) (7 * (i : Int))), wrap64 ((i : Int) + 1), (0 : Int))) (u + c * 2 ^ (7 * i), (i : Int) + 1, 0) := by
              rw [ev_some, andNot_u64 hc.1 hc.2, hm, h1, w64 (by omega) (by omega)]
            by_cases h0 : c = 0
            · rw [if_pos h0]
              by_cases hi0 : 0 < i
              · rw [if_pos (by omega), if_pos ⟨h0, hi0⟩, ev_some]
              · rw [if_neg (by omega), if_neg (by omega)]
                simp only
                rw [Int.toNat_of_nonneg hc.1]
                exact hr
            · rw [if_neg h0, if_neg (fun h => h0 h.1)]
              simp only
              rw [Int.toNat_of_nonneg hc.1]
              exact hr
          · have hx9 : i ≠ 9 := by omega
            rw [if_neg h128, if_neg h128, andNot_u64 hc.1 hc.2, w64 (by omega) (by omega)]
            obtain ⟨h1, h2⟩ := hsh (c % 128) (by omega) (by omega) (fun h => by omega)
            rw [h1]
            have hp : (0 : Int) < 2 ^ (7 * i) := Int.pow_pos (by omega)
            have hm : 0 ≤ c % 128 * 2 ^ (7 * i) := Int.mul_nonneg (by omega) (by omega)
            have hpow : (2 : Int) ^ (7 * (i + 1)) = 128 * 2 ^ (7 * i) := by
              rw [Nat.mul_add, Int.pow_add]
              omega
            have hlt2 : c % 128 * 2 ^ (7 * i) ≤ 127 * 2 ^ (7 * i) := Int.mul_le_mul_of_nonneg_right (by omega) (by omega)
            have := ih (i + 1) (u + c % 128 * 2 ^ (7 * i)) (by omega) (by omega) (by omega) (by omega) (by omega)
            refine ev_eq this ?_
            cases dec (i + 1) (x.drop (i + 1)) with
            | none => rfl
            | some p =>
              obtain ⟨v, n⟩ := p
              simp only [Option.map_some]
              have e2 : (((c % 128).toNat + 128 * v : Nat) : Int) = c % 128 + 128 * v := by omega
              rw [e2, hpow, Int.add_mul, Int.mul_comm 128 (2 ^ (7 * i)), Int.mul_comm (128 : Int) (v : Int), Int.mul_assoc, Int.mul_comm (128 : Int) (2 ^ (7 * i)), ← Int.add_assoc]
              congr 2
              omega
      by_cases h9 : i = 9
      · rw [if_pos (by omega)]
        exact hj2 _ (by simp [h9])
      · rw [if_neg (by omega)]
        exact hj2 _ (by simp [h9])
theorem varint_Get_ev {x : List Int} (hb : Bytes x) (hl : x.length ≤ maxLen) : Ev (fun k => varint_Get.f k x) (getR x) := by
  have h := varint_Get_l0_ev x hb hl (x.length - 0) 0 0 rfl (by omega) (by omega) (by omega) (by simp)
  refine ev_eq h ?_
  unfold getR
  simp only [List.drop_zero]
  cases dec 0 x with
  | none => rfl
  | some p => simp

theorem varint_All_l0_ev (x : List Int) (hb : Bytes x) (hl : x.length ≤ maxLen) (n : Nat) (hn : n ≤ 1000) : ∀ (d j at_ : Nat) (l : List Int), d + j = n → l.length = j → at_ ≤ x.length →
    Ev (fun k => varint_All.l0 k x l (at_ : Int) (n : Int) (j : Int)) (if (decs d (x.drop at_)).2.2 = true then (l ++ (decs d (x.drop at_)).1, (at_ : Int) + ((decs d (x.drop at_)).2.1 : Int), 0) else ([], (at_ : Int) + ((decs d (x.drop at_)).2.1 : Int), 2)) := by
  have hlm := maxLen_le hl
  intro d
  induction d with
  | zero =>
    intro j at_ l hd hj ha
    rw [ev_succ]
    simp only [varint_All.l0, ev_ite]
    rw [if_neg (by omega), ev_some]
    simp [decs]
  | succ d ih =>
    intro j at_ l hd hj ha
    have hb' := hb.drop at_
    rw [ev_succ]
    simp only [varint_All.l0, ev_ite]
    rw [if_pos (by omega), if_pos (by omega), if_pos (by omega), Int.toNat_natCast, ev_bind (varint_Get_ev hb' (by rw [List.length_drop]; omega))]
    simp only [ev_ite, decs, getR]
    rcases dec_cases (x.drop at_) with hdec | ⟨u, k, hdec⟩
    · simp only [hdec, ev_ite]
      rw [if_neg (by omega), ev_some, if_neg (by simp)]
      simp
    · have hk := dec_pos hb' hdec
      rw [List.length_drop] at hk
      simp only [hdec, ev_ite]
      rw [if_pos (by trivial), if_pos (by omega), w64 (by omega) (by omega), w64 (by omega) (by omega)]
      have := ih (j + 1) (at_ + k) (l ++ [(u : Int)]) (by omega) (by simp [hj]) (by omega)
      rw [Int.natCast_add, Int.natCast_add] at this
      refine ev_eq this ?_
      rw [List.drop_drop]
      simp only [List.append_assoc, List.singleton_append]
      split <;> (congr 2; omega)
theorem varint_All_ev {x : List Int} (hb : Bytes x) (hl : x.length ≤ maxLen) (n : Nat) (hn : n ≤ 1000) : Ev (fun k => varint_All.f k x (n : Int)) (allR n x) := by
  simp only [varint_All.f, ev_ite]
  rw [if_neg (by omega), ev_succ]
  simp only [varint_All.j0, ev_ite, decide_eq_true_eq]
  rw [if_neg (by omega)]
  have := varint_All_l0_ev x hb hl n hn n 0 0 [] (by omega) rfl (by omega)
  refine ev_eq this ?_
  unfold allR
  simp
theorem varint_All_bad {x : List Int} {n : Int} (hn : n < 0 ∨ 1000 < n) : Ev (fun k => varint_All.f k x n) ([], 0, 1) := by
  simp only [varint_All.f, ev_ite]
  by_cases h : n < 0
  · rw [if_pos h, ev_succ]
    simp only [varint_All.j0, ev_ite]
    rw [if_pos (by trivial), ev_some]
  · rw [if_neg h, ev_succ]
    simp only [varint_All.j0, ev_ite, decide_eq_true_eq]
    rw [if_pos (by omega), ev_some]

theorem hard_Get_ev {x : List Int} (hb : Bytes x) (hl : x.length ≤ maxLen) : Ev (fun k => hard_Get.f k x) (hardR x) := by
  simp only [hard_Get.f]
  have h3 : Ev (fun k => varint_All.f k x 3) (allR 3 x) := varint_All_ev hb hl 3 (by omega)
  rw [ev_bind h3]
  simp only [allR, hardR]
  by_cases h : (decs 3 x).2.2 = true
  · obtain ⟨u, v, w, h1, h2, h3, h4⟩ := decs_three hb h
    have l3 : (([u, v, w] : List Int).length : Int) = 3 := rfl
    simp only [h, if_true, h1, ev_ite, true_and, l3, Int.reduceLT]
    have r0 : rd [u, v, w] 0 = u := rfl
    have r1 : rd [u, v, w] 1 = v := rfl
    have r2 : rd [u, v, w] 2 = w := rfl
    have hj : ∀ b : Bool, Ev (fun k => hard_Get.j0 k [u, v, w] b) (if b = true then (0, 0, 0, 2) else (if mayH (wrap64 u) (wrap64 v) (wrap64 w) = true then (wrap64 u, wrap64 v, wrap64 w, 0) else (0, 0, 0, 2))) := by
      intro b
      rw [ev_succ]
      simp only [hard_Get.j0, ev_ite, ev_some, l3, Int.reduceLT, if_true, r0, r1, r2, hard_Check_ev, Option.bind_some]
      cases b
      · simp only [Bool.false_eq_true, if_false]
        cases mayH (wrap64 u) (wrap64 v) (wrap64 w) <;> simp
      · simp
    simp only [r0, r1, r2]
    by_cases hn : (decs 3 x).2.1 = x.length
    · rw [if_pos (by omega)]
      refine ev_eq (hj _) ?_
      have hmx : (mx (mx u v) w > 2147483647) ↔ (2147483647 < u ∨ 2147483647 < v ∨ 2147483647 < w) := by unfold mx; repeat' split <;> omega
      simp only [decide_eq_true_eq, hmx]
      by_cases hbig : 2147483647 < u ∨ 2147483647 < v ∨ 2147483647 < w
      · rw [if_pos hbig, if_neg]
        rintro ⟨_, hm⟩
        rw [mayH_iff] at hm
        omega
      · rw [if_neg hbig, w64 (by omega) (by omega), w64 (by omega) (by omega), w64 (by omega) (by omega)]
        simp only [hn, true_and]
    · rw [if_neg (by omega), if_neg (fun hh => hn hh.1)]
      exact hj true
  · have hf : (decs 3 x).2.2 = false := by simpa using h
    simp only [hf, ev_ite, Bool.false_eq_true, if_false, false_and]
    rw [if_neg (by omega), ev_succ]
    simp [hard_Get.j0, ev_ite, ev_some]

theorem varint_Put_l1_ev (l : List Int) (hl : l.length ≤ 10000000000000) (j : Nat) : ∀ (u : Nat) (b : List Int), u < 18446744073709551616 → b.length + (one u).length ≤ 10 * (j + 1) → j < l.length → ∀ r : List Int,
    Ev (fun k => varint_Put.l0 k (b ++ one u) l (l.length : Int) ((j + 1 : Nat) : Int)) r → Ev (fun k => varint_Put.l1 k b (u : Int) l (l.length : Int) (j : Int)) r := by
  intro u
  induction u using Nat.strongRecOn with
  | _ u ih =>
    intro b hu hlen hj r hr
    rw [ev_succ]
    simp only [varint_Put.l1, ev_ite]
    by_cases h : u < 128
    · rw [if_neg (by omega), if_pos (by omega), w64 (by omega) (by omega)]
      rw [one_lt h] at hr
      have e : (u : Int) % 256 = u := by omega
      rw [e]
      exact hr
    · have e : Go.bits .or .u8 ((u : Int) % 256) 128 = ((u % 128 + 128 : Nat) : Int) := by
        rw [or_u8 (by omega) (by omega)]
        omega
      have e2 : (u : Int) / 128 = ((u / 128 : Nat) : Int) := by omega
      rw [if_pos (by omega), if_pos (by omega), e, e2]
      rw [one_ge (u := u) (by omega), List.length_cons] at hlen
      refine ih (u / 128) (by omega) _ (by omega) (by rw [List.length_append, List.length_singleton]; omega) hj r ?_
      rw [one_ge (u := u) (by omega)] at hr
      rw [List.append_assoc, List.singleton_append]
      exact hr
theorem varint_Put_l0_ev (l : List Int) (hl : l.length ≤ 10000000000000) (hu : ∀ u ∈ l, 0 ≤ u ∧ u < 18446744073709551616) : ∀ (d j : Nat) (b : List Int), l.length - j = d → j ≤ l.length → b.length ≤ 10 * j →
    Ev (fun k => varint_Put.l0 k b l (l.length : Int) (j : Int)) (b ++ puts (l.drop j)) := by
  intro d
  induction d with
  | zero =>
    intro j b hd hj hb
    rw [ev_succ]
    simp only [varint_Put.l0, ev_ite]
    rw [if_neg (by omega), ev_some, List.drop_eq_nil_of_le (by omega), puts_nil, List.append_nil]
  | succ d ih =>
    intro j b hd hj hb
    rw [ev_succ]
    simp only [varint_Put.l0, ev_ite]
    rw [if_pos (by omega), if_pos (by omega), if_pos (by omega)]
    have h := hu _ (rd_mem (xs := l) (i := (j : Int)) (by omega) (by omega))
    have e : rd l (j : Int) = ((rd l (j : Int)).toNat : Int) := by omega
    have h10 := one_len10 (u := (rd l (j : Int)).toNat) (by omega)
    rw [e]
    refine varint_Put_l1_ev l hl j _ b (by omega) (by omega) (by omega) _ ?_
    have := ih (j + 1) (b ++ one (rd l (j : Int)).toNat) (by omega) (by omega) (by rw [List.length_append]; omega)
    refine ev_eq this ?_
    rw [drop_eq (xs := l) (i := j) (by omega), puts_cons, List.append_assoc]
theorem varint_Put_ev {l : List Int} (hl : l.length ≤ 10000000000000) (hu : ∀ u ∈ l, 0 ≤ u ∧ u < 18446744073709551616) : Ev (fun k => varint_Put.f k l) (puts l) :=
  varint_Put_l0_ev l hl hu (l.length - 0) 0 [] rfl (by omega) (by simp)

theorem hard_Put_ev (t v c : Int) : Ev (fun k => hard_Put.f k t v c) (if mayH t v c = true then (puts [t, v, c], 0) else ([], 1)) := by
  simp only [hard_Put.f]
  rw [ev_bind_c (hard_Check_ev _ _ _), ev_ite]
  by_cases h : mayH t v c = true
  · have hm := mayH_iff.1 h
    have hb : ∀ x ∈ [t, v, c], 0 ≤ x ∧ x < 18446744073709551616 := by
      intro x hx
      simp at hx
      omega
    rw [if_pos h, if_pos h, if_pos (by trivial), wu64 (x := t) (by omega) (by omega), wu64 (x := v) (by omega) (by omega), wu64 (x := c) (by omega) (by omega), ev_bind (varint_Put_ev (l := [t, v, c]) (by simp) hb), ev_some]
  · rw [if_neg h, if_neg h, if_neg (by omega), ev_some]

theorem garnerref02_One_ev : ∀ u : Nat, u < 18446744073709551616 → Ev (fun k => garnerref02_One.f k (u : Int)) (one u) := by
  intro u
  induction u using Nat.strongRecOn with
  | _ u ih =>
    intro hu
    rw [ev_succ]
    simp only [garnerref02_One.f, ev_ite, Option.bind_some]
    by_cases h : u < 128
    · rw [if_pos (by omega), ev_some, one_lt h]
      congr 1
      omega
    · have e : IntKind.u64.wrap (Int.tdiv (u : Int) 128) = ((u / 128 : Nat) : Int) := by
        rw [Int.tdiv_eq_ediv_of_nonneg (by omega), wu64 (by omega) (by omega)]
        rfl
      have e2 : ((Int.tmod (u : Int) 128) % 256 + 128) % 256 = ((u % 128 + 128 : Nat) : Int) := by
        rw [Int.tmod_eq_emod_of_nonneg (by omega)]
        omega
      rw [if_neg (by omega), e, e2, ev_bind (ih (u / 128) (by omega) (by omega)), ev_ite]
      have hl := one_len10 (u := u / 128) (by omega)
      rw [if_pos (by simp only [List.length_singleton]; omega), ev_some, one_ge (u := u) (by omega)]
      rfl

theorem garnerref02_Put_l0_ev (l : List Int) (hl : l.length ≤ 10000000000000) (hu : ∀ u ∈ l, 0 ≤ u ∧ u < 18446744073709551616) : ∀ (d j : Nat) (b : List Int), l.length - j = d → j ≤ l.length → b.length ≤ 10 * j →
    Ev (fun k => garnerref02_Put.l0 k l b (j : Int)) (b ++ puts (l.drop j)) := by
  intro d
  induction d with
  | zero =>
    intro j b hd hj hb
    rw [ev_succ]
    simp only [garnerref02_Put.l0, ev_ite]
    rw [if_neg (by omega), ev_some, List.drop_eq_nil_of_le (by omega), puts_nil, List.append_nil]
  | succ d ih =>
    intro j b hd hj hb
    rw [ev_succ]
    simp only [garnerref02_Put.l0, ev_ite]
    rw [if_pos (by omega), if_pos (by omega), w64 (by omega) (by omega)]
    have h := hu _ (rd_mem (xs := l) (i := (j : Int)) (by omega) (by omega))
    have h1 : Ev (fun k => garnerref02_One.f k (rd l (j : Int))) (one (rd l (j : Int)).toNat) := by
      have := garnerref02_One_ev (rd l (j : Int)).toNat (by omega)
      rw [Int.toNat_of_nonneg h.1] at this
      exact this
    have h10 := one_len10 (u := (rd l (j : Int)).toNat) (by omega)
    rw [ev_bind h1, ev_ite, if_pos (by omega)]
    refine ev_eq (ih (j + 1) (b ++ one (rd l (j : Int)).toNat) (by omega) (by omega) (by rw [List.length_append]; omega)) ?_
    rw [drop_eq (xs := l) (i := j) (by omega), puts_cons, List.append_assoc]
theorem garnerref02_Put_ev {l : List Int} (hl : l.length ≤ 10000000000000) (hu : ∀ u ∈ l, 0 ≤ u ∧ u < 18446744073709551616) : Ev (fun k => garnerref02_Put.f k l) (puts l) :=
  garnerref02_Put_l0_ev l hl hu (l.length - 0) 0 [] rfl (by omega) (by simp)

theorem garnerref22_Put_ev {t v c : Int} (h : mayH t v c = true) : Ev (fun k => garnerref22_Put.f k t v c) (puts [t, v, c]) := by
  have hm := mayH_iff.1 h
  have hb : ∀ x ∈ [t, v, c], 0 ≤ x ∧ x < 18446744073709551616 := by
    intro x hx
    simp at hx
    omega
  simp only [garnerref22_Put.f]
  rw [wu64 (x := t) (by omega) (by omega), wu64 (x := v) (by omega) (by omega), wu64 (x := c) (by omega) (by omega), ev_bind (garnerref02_Put_ev (l := [t, v, c]) (by simp) hb), ev_some]

theorem hardR_puts {t v c : Int} (h : mayH t v c = true) : hardR (puts [t, v, c]) = (t, v, c, 0) := by
  have hm := mayH_iff.1 h
  have hb : ∀ x ∈ [t, v, c], 0 ≤ x ∧ x < 18446744073709551616 := by
    intro x hx
    simp at hx
    omega
  have hd := decs_puts hb []
  rw [List.append_nil] at hd
  simp only [List.length_cons, List.length_nil] at hd
  unfold hardR
  rw [hd]
  have r0 : rd [t, v, c] 0 = t := rfl
  have r1 : rd [t, v, c] 1 = v := rfl
  have r2 : rd [t, v, c] 2 = c := rfl
  simp only [r0, r1, r2]
  rw [if_pos ⟨trivial, trivial, h⟩]
theorem HardPuts : StHardPuts.Pure := by
  intro t v c _ _ _
  refine Ev.rounds (g := fun k => garnerlaw22_HardPuts.f k t v c) ?_
  simp only [garnerlaw22_HardPuts.f]
  rw [ev_bind (hard_Put_ev t v c), ev_bind_c (garnerref22_May_ev _ _ _), ev_ite]
  by_cases h : mayH t v c = true
  · have hm := mayH_iff.1 h
    have hb : ∀ x ∈ [t, v, c], 0 ≤ x ∧ x < 18446744073709551616 := by
      intro x hx
      simp at hx
      omega
    have hl := puts_len hb
    simp only [List.length_cons, List.length_nil] at hl
    have hlm : (puts [t, v, c]).length ≤ maxLen := by unfold maxLen; omega
    rw [if_pos h]
    simp only [h, if_true]
    rw [ev_bind (hard_Get_ev (puts_bytes _) hlm), hardR_puts h, ev_bind_c (hard_Check_ev _ _ _), ev_ite, if_pos h, if_pos (by trivial), ev_bind (garnerref22_Put_ev h), ev_bind (garnerref02_Bytes_ev hlm), ev_ite, if_pos (by simp), ev_ite, if_pos (by trivial), ev_ite, if_pos (by simp), ev_bind garnerlaw22_awake_ev, ev_some]
  · rw [if_neg h, ev_bind_c (hard_Check_ev _ _ _), ev_ite, if_neg h, if_pos (by trivial), ev_ite, if_neg h, if_pos (by trivial), ev_ite, if_pos (by trivial), ev_bind garnerlaw22_awake_ev, ev_some]

end Go.Proofs.Ythgkjkdbjnoikaa.Pure
