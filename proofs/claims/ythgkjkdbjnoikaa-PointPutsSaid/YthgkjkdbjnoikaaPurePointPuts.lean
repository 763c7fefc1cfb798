/- The pure statement of the law PointPuts: what the printed functions answer, each by its plain law, and that the law's answer is true. -/
import Derived.Test.YthgkjkdbjnoikaaPPointPutsx0
import Derived.Test.YthgkjkdbjnoikaaPPointPutsx1
import Derived.Test.YthgkjkdbjnoikaaPPointPutsx2
import Derived.Test.YthgkjkdbjnoikaaStPointPuts
import Derived.Test.YthgkjkdbjnoikaaSz
import Derived.Test.YthgkjkdbjnoikaaV02
import Derived.Test.YthgkjkdbjnoikaaV04
namespace Go.Proofs.Ythgkjkdbjnoikaa.Pure
open Go.RowKit Go.Proofs.Ythgkjkdbjnoikaa.PPointPuts Go.Proofs.Ythgkjkdbjnoikaa.U Go.Proofs.YthgkjkdbjnoikaaW.PrintWords Go.Proofs.YthgkjkdbjnoikaaW.PrintLast Go.Proofs.YthgkjkdbjnoikaaW.PrintMore
set_option linter.unusedVariables false
set_option linter.unusedSimpArgs false
set_option maxRecDepth 4000

theorem point_Check_ev (s a l u : Int) : point_Check.f s a l u = some (if mayP s a l = true then 0 else 1) := by
  simp only [point_Check.f, mayP_iff]
  repeat' split
  all_goals first | rfl | omega

theorem varint_Put_l1_ev (l : List Int) (hl : l.length ≤ 10000000000000) (j : Nat) : ∀ (u : Nat) (b : List Int), u < 18446744073709551616 → b.length + (one u).length ≤ 10 * (j + 1) → j < l.length → ∀ r : List Int,
    Ev (fun k => varint_Put.l0 k (b ++ one u) l (l.length : Int) ((j + 1 : Nat) : Int)) r → Ev (fun k => varint_Put.l1 k b (u : Int) l (l.length : Int) (j : Int)) r := by
  intro u
  induction u using Nat.strongRecOn with
  | _ u ih =>
    intro b hu hlen hj r hr
    rw [ev_succ]
    simp only [varint_Put.l1, ev_ite]
    by_cases h : u < 128
    · rw [if_neg (by omega), if_pos (by omega), w64 (by omega) (by omega)]
      rw [one_lt h] at hr
      have e : (u : Int) % 256 = u := by omega
      rw [e]
      exact hr
    · have e : Go.bits .or .u8 ((u : Int) % 256) 128 = ((u % 128 + 128 : Nat) : Int) := by
        rw [or_u8 (by omega) (by omega)]
        omega
      have e2 : (u : Int) / 128 = ((u / 128 : Nat) : Int) := by omega
      rw [if_pos (by omega), if_pos (by omega), e, e2]
      rw [one_ge (u := u) (by omega), List.length_cons] at hlen
      refine ih (u / 128) (by omega) _ (by omega) (by rw [List.length_append, List.length_singleton]; omega) hj r ?_
      rw [one_ge (u := u) (by omega)] at hr
      rw [List.append_assoc, List.singleton_append]
      exact hr
theorem varint_Put_l0_ev (l : List Int) (hl : l.length ≤ 10000000000000) (hu : ∀ u ∈ l, 0 ≤ u ∧ u < 18446744073709551616) : ∀ (d j : Nat) (b : List Int), l.length - j = d → j ≤ l.length → b.length ≤ 10 * j →
    Ev (fun k => varint_Put.l0 k b l (l.length : Int) (j : Int)) (b ++ puts (l.drop j)) := by
  intro d
  induction d with
  | zero =>
    intro j b hd hj hb
    rw [ev_succ]
    simp only [varint_Put.l0, ev_ite]
    rw [if_neg (by omega), ev_some, List.drop_eq_nil_of_le (by omega), puts_nil, List.append_nil]
  | succ d ih =>
    intro j b hd hj hb
    rw [ev_succ]
    simp only [varint_Put.l0, ev_ite]
    rw [if_pos (by omega), if_pos (by omega), if_pos (by omega)]
    have h := hu _ (rd_mem (xs := l) (i := (j : Int)) (by omega) (by omega))
    have e : rd l (j : Int) = ((rd l (j : Int)).toNat : Int) := by omega
    have h10 := one_len10 (u := (rd l (j : Int)).toNat) (by omega)
    rw [e]
    refine varint_Put_l1_ev l hl j _ b (by omega) (by omega) (by omega) _ ?_
    have := ih (j + 1) (b ++ one (rd l (j : Int)).toNat) (by omega) (by omega) (by rw [List.length_append]; omega)
    refine ev_eq this ?_
    rw [drop_eq (xs := l) (i := j) (by omega), puts_cons, List.append_assoc]
theorem varint_Put_ev {l : List Int} (hl : l.length ≤ 10000000000000) (hu : ∀ u ∈ l, 0 ≤ u ∧ u < 18446744073709551616) : Ev (fun k => varint_Put.f k l) (puts l) :=
  varint_Put_l0_ev l hl hu (l.length - 0) 0 [] rfl (by omega) (by simp)

theorem point_Put_ev {s a l u : Int} (h0 : 0 ≤ u) (h1 : u < 4294967296) : Ev (fun k => point_Put.f k s a l u) (if mayP s a l = true then (putP s a l u, 0) else ([], 1)) := by
  simp only [point_Put.f]
  rw [ev_bind_c (point_Check_ev _ _ _ _), ev_ite]
  by_cases h : mayP s a l = true
  · have hm := mayP_iff.1 h
    have hb : ∀ v ∈ [s, a, l], 0 ≤ v ∧ v < 18446744073709551616 := by
      intro v hv
      simp at hv
      omega
    rw [if_pos h, if_pos h, if_pos (by trivial), wu64 (x := s) (by omega) (by omega), wu64 (x := a) (by omega) (by omega), wu64 (x := l) (by omega) (by omega), ev_bind (varint_Put_ev (l := [s, a, l]) (by simp) hb)]
    have hl := puts_len hb
    simp only [List.length_cons, List.length_nil] at hl
    simp only [Option.bind_some, ev_ite, ev_some, List.length_cons, List.length_nil]
    rw [if_pos (by omega)]
    rfl
  · rw [if_neg h, if_neg h, if_neg (by omega), ev_some]

theorem garnerref04_May_ev (s a l u : Int) : garnerref04_May.f s a l u = some (mayP s a l) := by
  unfold garnerref04_May.f mayP
  repeat' split
  all_goals (congr 1; first | (symm; rw [decide_eq_false_iff_not]; omega) | (rw [Bool.eq_iff_iff]; simp only [decide_eq_true_eq]; omega))

theorem garnerref02_same_l0_ev (x y : List Int) (hxy : x.length = y.length) (hl : x.length ≤ maxLen) : ∀ (d i : Nat), x.length - i = d → i ≤ x.length → Ev (fun k => garnerref02_same.l0 k x y (i : Int)) (decide (x.drop i = y.drop i)) := by
  have hlm := maxLen_le hl
  intro d
  induction d with
  | zero =>
    intro i hd hi
    rw [ev_succ]
    simp only [garnerref02_same.l0, ev_ite]
    rw [if_neg (by omega), ev_some, List.drop_eq_nil_of_le (by omega), List.drop_eq_nil_of_le (by omega)]
    simp
  | succ d ih =>
    intro i hd hi
    rw [ev_succ]
    simp only [garnerref02_same.l0, ev_ite]
    rw [if_pos (by omega), if_pos (by omega), if_pos (by omega), w64 (by omega) (by omega), drop_eq (xs := x) (by omega), drop_eq (xs := y) (by omega)]
    by_cases h : rd x (i : Int) = rd y (i : Int)
    · rw [if_pos h, h]
      refine ev_eq (ih (i + 1) (by omega) (by omega)) ?_
      simp
    · rw [if_neg h, ev_some]
      simp [h]
theorem garnerref02_same_ev {x y : List Int} (hl : x.length ≤ maxLen) : Ev (fun k => garnerref02_same.f k x y) (decide (x = y)) := by
  simp only [garnerref02_same.f, ev_ite]
  by_cases h : x.length = y.length
  · rw [if_pos (by omega)]
    exact garnerref02_same_l0_ev x y h hl (x.length - 0) 0 rfl (by omega)
  · rw [if_neg (by omega), ev_some]
    symm
    simp only [decide_eq_false_iff_not]
    rintro rfl
    exact h rfl

theorem garnerref02_Bytes_ev {x y : List Int} (hl : x.length ≤ maxLen) : Ev (fun k => garnerref02_Bytes.f k x y) (decide (x = y)) := by
  simp only [garnerref02_Bytes.f]
  rw [ev_bind (garnerref02_same_ev hl), ev_some]

theorem garnerlaw04_awake_ev : Ev (fun k => garnerlaw04_awake.f k) true := Ev.of (fun k => garnerlaw04_awake.mono k) (k := 40) (by decide +kernel)

theorem garnerref02_One_ev : ∀ u : Nat, u < 18446744073709551616 → Ev (fun k => garnerref02_One.f k (u : Int)) (one u) := by
  intro u
  induction u using Nat.strongRecOn with
  | _ u ih =>
    intro hu
    rw [ev_succ]
    simp only [garnerref02_One.f, ev_ite, Option.bind_some]
    by_cases h : u < 128
    · rw [if_pos (by omega), ev_some, one_lt h]
      congr 1
      omega
    · have e : IntKind.u64.wrap (Int.tdiv (u : Int) 128) = ((u / 128 : Nat) : Int) := by
        rw [Int.tdiv_eq_ediv_of_nonneg (by omega), wu64 (by omega) (by omega)]
        rfl
      have e2 : ((Int.tmod (u : Int) 128) % 256 + 128) % 256 = ((u % 128 + 128 : Nat) : Int) := by
        rw [Int.tmod_eq_emod_of_nonneg (by omega)]
        omega
      rw [if_neg (by omega), e, e2, ev_bind (ih (u / 128) (by omega) (by omega)), ev_ite]
      have hl := one_len10 (u := u / 128) (by omega)
      rw [if_pos (by simp only [List.length_singleton]; omega), ev_some, one_ge (u := u) (by omega)]
      rfl

theorem garnerref02_Put_l0_ev (l : List Int) (hl : l.length ≤ 10000000000000) (hu : ∀ u ∈ l, 0 ≤ u ∧ u < 18446744073709551616) : ∀ (d j : Nat) (b : List Int), l.length - j = d → j ≤ l.length → b.length ≤ 10 * j →
    Ev (fun k => garnerref02_Put.l0 k l b (j : Int)) (b ++ puts (l.drop j)) := by
  intro d
  induction d with
  | zero =>
    intro j b hd hj hb
    rw [ev_succ]
    simp only [garnerref02_Put.l0, ev_ite]
    rw [if_neg (by omega), ev_some, List.drop_eq_nil_of_le (by omega), puts_nil, List.append_nil]
  | succ d ih =>
    intro j b hd hj hb
    rw [ev_succ]
    simp only [garnerref02_Put.l0, ev_ite]
    rw [if_pos (by omega), if_pos (by omega), w64 (by omega) (by omega)]
    have h := hu _ (rd_mem (xs := l) (i := (j : Int)) (by omega) (by omega))
    have h1 : Ev (fun k => garnerref02_One.f k (rd l (j : Int))) (one (rd l (j : Int)).toNat) := by
      have := garnerref02_One_ev (rd l (j : Int)).toNat (by omega)
      rw [Int.toNat_of_nonneg h.1] at this
      exact this
    have h10 := one_len10 (u := (rd l (j : Int)).toNat) (by omega)
    rw [ev_bind h1, ev_ite, if_pos (by omega)]
    refine ev_eq (ih (j + 1) (b ++ one (rd l (j : Int)).toNat) (by omega) (by omega) (by rw [List.length_append]; omega)) ?_
    rw [drop_eq (xs := l) (i := j) (by omega), puts_cons, List.append_assoc]
theorem garnerref02_Put_ev {l : List Int} (hl : l.length ≤ 10000000000000) (hu : ∀ u ∈ l, 0 ≤ u ∧ u < 18446744073709551616) : Ev (fun k => garnerref02_Put.f k l) (puts l) :=
  garnerref02_Put_l0_ev l hl hu (l.length - 0) 0 [] rfl (by omega) (by simp)

theorem garnerref04_Sum_ev (s : Int) (h0 : 0 ≤ s) (h1 : s < 4294967296) : Ev (fun k => garnerref04_Sum.f k s) (sum4 s) := by
  have step : ∀ (i : Nat) (s : Int) (b : List Int) r, 0 ≤ s → s < 4294967296 → i < 4 → b.length ≤ 4 → Ev (fun k => garnerref04_Sum.l0 k (s / 256) (b ++ [s % 256]) ((i + 1 : Nat) : Int)) r → Ev (fun k => garnerref04_Sum.l0 k s b (i : Int)) r := by
    intro i s b r h0 h1 hi hb hr
    rw [ev_succ]
    simp only [garnerref04_Sum.l0, ev_ite]
    rw [if_pos (by omega), if_pos (by omega), Int.tdiv_eq_ediv_of_nonneg h0, Int.tmod_eq_emod_of_nonneg h0, w64 (by omega) (by omega)]
    have e1 : s / 256 % 4294967296 = s / 256 := by omega
    have e2 : s % 256 % 256 = s % 256 := by omega
    rw [e1, e2]
    exact hr
  show Ev (fun k => garnerref04_Sum.l0 k s [] ((0 : Nat) : Int)) (sum4 s)
  refine step 0 s [] _ h0 h1 (by omega) (by simp) ?_
  refine step 1 _ _ _ (by omega) (by omega) (by omega) (by simp) ?_
  refine step 2 _ _ _ (by omega) (by omega) (by omega) (by simp) ?_
  refine step 3 _ _ _ (by omega) (by omega) (by omega) (by simp) ?_
  rw [ev_succ]
  simp only [garnerref04_Sum.l0, ev_ite]
  rw [if_neg (by omega), ev_some]
  unfold sum4
  simp only [List.nil_append, List.cons_append, List.cons.injEq, and_true, true_and]
  omega

theorem garnerref04_Put_ev {s a l u : Int} (h : mayP s a l = true) (h0 : 0 ≤ u) (h1 : u < 4294967296) : Ev (fun k => garnerref04_Put.f k s a l u) (putP s a l u) := by
  have hm := mayP_iff.1 h
  simp only [garnerref04_Put.f]
  have hb : ∀ v ∈ [s, a, l], 0 ≤ v ∧ v < 18446744073709551616 := by
    intro v hv
    simp at hv
    omega
  rw [wu64 (x := s) (by omega) (by omega), wu64 (x := a) (by omega) (by omega), wu64 (x := l) (by omega) (by omega), ev_bind (garnerref02_Put_ev (l := [s, a, l]) (by simp) hb), ev_bind (garnerref04_Sum_ev u h0 h1)]
  have hl := puts_len hb
  have l4 : (sum4 u).length = 4 := rfl
  simp only [List.length_cons, List.length_nil] at hl
  rw [ev_ite, if_pos (by omega), ev_some]
  rfl

theorem PointPuts : StPointPuts.Pure := by
  intro s a l u _ _ _ hu
  have hu := wf_u32 hu
  refine Ev.rounds (g := fun k => garnerlaw04_PointPuts.f k s a l u) ?_
  simp only [garnerlaw04_PointPuts.f]
  rw [ev_bind (point_Put_ev (by omega) (by omega)), ev_bind_c (garnerref04_May_ev _ _ _ _), ev_ite]
  by_cases h : mayP s a l = true
  · have hm := mayP_iff.1 h
    have hb : ∀ v ∈ [s, a, l], 0 ≤ v ∧ v < 18446744073709551616 := by
      intro v hv
      simp at hv
      omega
    have hl := puts_len hb
    have l4 : (sum4 u).length = 4 := rfl
    simp only [List.length_cons, List.length_nil] at hl
    rw [if_pos h, ev_bind_c (point_Check_ev _ _ _ _), ev_ite, if_pos h, if_pos (by trivial), ev_ite, if_pos h, if_pos (by trivial), ev_bind (garnerref04_Put_ev h (by omega) (by omega)), ev_bind (garnerref02_Bytes_ev (by unfold putP; rw [List.length_append]; unfold maxLen; omega)), ev_ite, if_pos (by simp), ev_bind garnerlaw04_awake_ev, ev_some]
  · rw [if_neg h, ev_bind_c (point_Check_ev _ _ _ _), ev_ite, if_neg h, if_pos (by trivial), ev_ite, if_neg h, if_pos (by trivial), ev_ite, if_pos (by trivial), ev_bind garnerlaw04_awake_ev, ev_some]

end Go.Proofs.Ythgkjkdbjnoikaa.Pure
