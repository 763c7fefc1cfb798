/- The pure statement of the law VarintPuts: what the printed functions answer, each by its plain law, and that the law's answer is true. -/
import Derived.Test.YthgkjkdbjnoikaaPVarintPutsx0
import Derived.Test.YthgkjkdbjnoikaaPVarintPutsx1
import Derived.Test.YthgkjkdbjnoikaaPVarintPutsx2
import Derived.Test.YthgkjkdbjnoikaaPVarintPutsx3
import Derived.Test.YthgkjkdbjnoikaaSz
import Derived.Test.YthgkjkdbjnoikaaV02
import Derived.Test.YthgkjkdbjnoikaaV03
namespace Go.Proofs.Ythgkjkdbjnoikaa.Pure
open Go.RowKit Go.Proofs.Ythgkjkdbjnoikaa.PVarintPuts Go.Proofs.Ythgkjkdbjnoikaa.U Go.Proofs.YthgkjkdbjnoikaaW.PrintWords Go.Proofs.YthgkjkdbjnoikaaW.PrintLast Go.Proofs.YthgkjkdbjnoikaaW.PrintMore
set_option linter.unusedVariables false
set_option linter.unusedSimpArgs false
set_option maxRecDepth 4000

theorem garnerref02_same_l0_ev (x y : List Int) (hxy : x.length = y.length) (hl : x.length ≤ maxLen) : ∀ (d i : Nat), x.length - i = d → i ≤ x.length → Ev (fun k => garnerref02_same.l0 k x y (i : Int)) (decide (x.drop i = y.drop i)) := by
  have hlm := maxLen_le hl
  intro d
  induction d with
  | zero =>
    intro i hd hi
    rw [ev_succ]
    simp only [garnerref02_same.l0, ev_ite]
    rw [if_neg (by omega), ev_some, List.drop_eq_nil_of_le (by omega), List.drop_eq_nil_of_le (by omega)]
    simp
  | succ d ih =>
    intro i hd hi
    rw [ev_succ]
    simp only [garnerref02_same.l0, ev_ite]
    rw [if_pos (by omega), if_pos (by omega), if_pos (by omega), w64 (by omega) (by omega), drop_eq (xs := x) (by omega), drop_eq (xs := y) (by omega)]
    by_cases h : rd x (i : Int) = rd y (i : Int)
    · rw [if_pos h, h]
      refine ev_eq (ih (i + 1) (by omega) (by omega)) ?_
      simp
    · rw [if_neg h, ev_some]
      simp [h]
theorem garnerref02_same_ev {x y : List Int} (hl : x.length ≤ maxLen) : Ev (fun k => garnerref02_same.f k x y) (decide (x = y)) := by
  simp only [garnerref02_same.f, ev_ite]
  by_cases h : x.length = y.length
  · rw [if_pos (by omega)]
    exact garnerref02_same_l0_ev x y h hl (x.length - 0) 0 rfl (by omega)
  · rw [if_neg (by omega), ev_some]
    symm
    simp only [decide_eq_false_iff_not]
    rintro rfl
    exact h rfl

theorem garnerref02_Bytes_ev {x y : List Int} (hl : x.length ≤ maxLen) : Ev (fun k => garnerref02_Bytes.f k x y) (decide (x = y)) := by
  simp only [garnerref02_Bytes.f]
  rw [ev_bind (garnerref02_same_ev hl), ev_some]

theorem varint_Put_l1_ev (l : List Int) (hl : l.length ≤ 10000000000000) (j : Nat) : ∀ (u : Nat) (b : List Int), u < 18446744073709551616 → b.length + (one u).length ≤ 10 * (j + 1) → j < l.length → ∀ r : List Int,
    Ev (fun k => varint_Put.l0 k (b ++ one u) l (l.length : Int) ((j + 1 : Nat) : Int)) r → Ev (fun k => varint_Put.l1 k b (u : Int) l (l.length : Int) (j : Int)) r := by
  intro u
  induction u using Nat.strongRecOn with
  | _ u ih =>
    intro b hu hlen hj r hr
    rw [ev_succ]
    simp only [varint_Put.l1, ev_ite]
    by_cases h : u < 128
    · rw [if_neg (by omega), if_pos (by omega), w64 (by omega) (by omega)]
      rw [one_lt h] at hr
      have e : (u : Int) % 256 = u := by omega
      rw [e]
      exact hr
    · have e : Go.bits .or .u8 ((u : Int) % 256) 128 = ((u % 128 + 128 : Nat) : Int) := by
        rw [or_u8 (by omega) (by omega)]
        omega
      have e2 : (u : Int) / 128 = ((u / 128 : Nat) : Int) := by omega
      rw [if_pos (by omega), if_pos (by omega), e, e2]
      rw [one_ge (u := u) (by omega), List.length_cons] at hlen
      refine ih (u / 128) (by omega) _ (by omega) (by rw [List.length_append, List.length_singleton]; omega) hj r ?_
      rw [one_ge (u := u) (by omega)] at hr
      rw [List.append_assoc, List.singleton_append]
      exact hr
theorem varint_Put_l0_ev (l : List Int) (hl : l.length ≤ 10000000000000) (hu : ∀ u ∈ l, 0 ≤ u ∧ u < 18446744073709551616) : ∀ (d j : Nat) (b : List Int), l.length - j = d → j ≤ l.length → b.length ≤ 10 * j →
    Ev (fun k => varint_Put.l0 k b l (l.length : Int) (j : Int)) (b ++ puts (l.drop j)) := by
  intro d
  induction d with
  | zero =>
    intro j b hd hj hb
    rw [ev_succ]
    simp only [varint_Put.l0, ev_ite]
    rw [if_neg (by omega), ev_some, List.drop_eq_nil_of_le (by omega), puts_nil, List.append_nil]
  | succ d ih =>
    intro j b hd hj hb
    rw [ev_succ]
    simp only [varint_Put.l0, ev_ite]
    rw [if_pos (by omega), if_pos (by omega), if_pos (by omega)]
    have h := hu _ (rd_mem (xs := l) (i := (j : Int)) (by omega) (by omega))
    have e : rd l (j : Int) = ((rd l (j : Int)).toNat : Int) := by omega
    have h10 := one_len10 (u := (rd l (j : Int)).toNat) (by omega)
    rw [e]
    refine varint_Put_l1_ev l hl j _ b (by omega) (by omega) (by omega) _ ?_
    have := ih (j + 1) (b ++ one (rd l (j : Int)).toNat) (by omega) (by omega) (by rw [List.length_append]; omega)
    refine ev_eq this ?_
    rw [drop_eq (xs := l) (i := j) (by omega), puts_cons, List.append_assoc]
theorem varint_Put_ev {l : List Int} (hl : l.length ≤ 10000000000000) (hu : ∀ u ∈ l, 0 ≤ u ∧ u < 18446744073709551616) : Ev (fun k => varint_Put.f k l) (puts l) :=
  varint_Put_l0_ev l hl hu (l.length - 0) 0 [] rfl (by omega) (by simp)

theorem varint_Get_l0_ev (x : List Int) (hb : Bytes x) (hl : x.length ≤ maxLen) : ∀ (d i : Nat) (u : Int), x.length - i = d → i ≤ 10 → i ≤ x.length → 0 ≤ u → u < 2 ^ (7 * i) →
    Ev (fun k => varint_Get.l0 k x u (i : Int)) (match dec i (x.drop i) with | some (v, n) => (u + v * 2 ^ (7 * i), (i : Int) + n, 0) | none => (0, 0, 2)) := by
  have hlm := maxLen_le hl
  intro d
  induction d with
  | zero =>
    intro i u hd hi hix hu0 hu
    rw [ev_succ]
    simp only [varint_Get.l0, ev_ite]
    rw [if_neg (by omega), ev_succ]
    simp only [varint_Get.j1, ev_ite]
    rw [if_neg (by simp), ev_some, List.drop_eq_nil_of_le (by omega)]
    rfl
  | succ d ih =>
    intro i u hd hi hix hu0 hu
    have hlt : i < x.length := by omega
    have hc := hb.rd (i := (i : Int)) (by omega) (by omega)
    rw [ev_succ]
    simp only [varint_Get.l0, ev_ite]
    rw [if_pos (by omega), ev_succ, drop_eq hlt]
    simp only [varint_Get.j1, ev_ite, decide_eq_true_eq]
    generalize hcc : rd x (i : Int) = c at hc ⊢
    by_cases h10 : i = 10
    · subst h10
      rw [if_neg (by omega), ev_some, dec, if_pos (by omega)]
    · rw [if_pos (by omega), if_pos (by omega), if_pos (by omega), wu64 (by omega) (by omega)]
      have hj2 : ∀ b : Bool, b = decide (i = 9 ∧ 1 < c) → Ev (fun k => varint_Get.j2 k x u (i : Int) c b) (match dec i (c :: x.drop (i + 1)) with | some (v, n) => (u + v * 2 ^ (7 * i), (i : Int) + n, 0) | none => (0, 0, 2)) := by
        intro b hbb
        rw [ev_succ]
        simp only [varint_Get.j2, ev_ite, dec]
        rw [if_neg (show ¬ 10 ≤ i by omega)]
        by_cases h9 : i = 9 ∧ 1 < c
        · rw [if_pos (by rw [hbb]; simpa using h9), if_pos h9, ev_some]
        · rw [if_neg (by rw [hbb]; simpa using h9), if_neg h9, w64 (by omega) (by omega), if_pos (by omega)]
          have hsh : ∀ y : Int, 0 ≤ y → y ≤ 127 → (i = 9 → y ≤ 1) → Go.bits .or .u64 u (shl .u64 y (7 * (i : Int))) = u + y * 2 ^ (7 * i) ∧ y * 2 ^ (7 * i) + 2 ^ (7 * i) ≤ (18446744073709551616 : Int) := by
            intro y hy0 hy1 hy9
            have hi' : i = 0 ∨ i = 1 ∨ i = 2 ∨ i = 3 ∨ i = 4 ∨ i = 5 ∨ i = 6 ∨ i = 7 ∨ i = 8 ∨ i = 9 := by omega
            have hs : y * 2 ^ (7 * i) + 2 ^ (7 * i) ≤ (18446744073709551616 : Int) := by
              rcases hi' with rfl | rfl | rfl | rfl | rfl | rfl | rfl | rfl | rfl | rfl <;> simp <;> omega
            have hp : (0 : Int) < 2 ^ (7 * i) := Int.pow_pos (by omega)
            have hm : 0 ≤ y * 2 ^ (7 * i) := Int.mul_nonneg hy0 (by omega)
            have e : (7 * (i : Int)).toNat = 7 * i := by omega
            refine ⟨?_, hs⟩
            unfold shl
            rw [e, Nat.min_eq_left (show 7 * i ≤ IntKind.u64.bits by show 7 * i ≤ 64; omega), wu64 hm (by omega)]
            exact or_u64 (by omega) hu0 hu hy0 (by omega)
          by_cases h128 : c < 128
          · have hm : c % 128 = c := by omega
            rw [if_pos h128, if_pos h128]
            obtain ⟨h1, h2⟩ := hsh c (by omega) (by omega) (fun h => by omega)
            have hr : Ev (fun _ => some (Go.bits .or .u64 u (shl .u64 (Go.bits .andNot .u64 c 128) (7 * (i : Int))), wrap64 ((i : Int) + 1), (0 : Int))) (u + c * 2 ^ (7 * i), (i : Int) + 1, 0) := by
              rw [ev_some, andNot_u64 hc.1 hc.2, hm, h1, w64 (by omega) (by omega)]
            by_cases h0 : c = 0
            · rw [if_pos h0]
              by_cases hi0 : 0 < i
              · rw [if_pos (by omega), if_pos ⟨h0, hi0⟩, ev_some]
              · rw [if_neg (by omega), if_neg (by omega)]
                simp only
                rw [Int.toNat_of_nonneg hc.1]
                exact hr
            · rw [if_neg h0, if_neg (fun h => h0 h.1)]
              simp only
              rw [Int.toNat_of_nonneg hc.1]
              exact hr
          · have hx9 : i ≠ 9 := by omega
            rw [if_neg h128, if_neg h128, andNot_u64 hc.1 hc.2, w64 (by omega) (by omega)]
            obtain ⟨h1, h2⟩ := hsh (c % 128) (by omega) (by omega) (fun h => by omega)
            rw [h1]
            have hp : (0 : Int) < 2 ^ (7 * i) := Int.pow_pos (by omega)
            have hm : 0 ≤ c % 128 * 2 ^ (7 * i) := Int.mul_nonneg (by omega) (by omega)
            have hpow : (2 : Int) ^ (7 * (i + 1)) = 128 * 2 ^ (7 * i) := by
              rw [Nat.mul_add, Int.pow_add]
              omega
            have hlt2 : c % 128 * 2 ^ (7 * i) ≤ 127 * 2 ^ (7 * i) := Int.mul_le_mul_of_nonneg_right (by omega) (by omega)
            have := ih (i + 1) (u + c % 128 * 2 ^ (7 * i)) (by omega) (by omega) (by omega) (by omega) (by omega)
            refine ev_eq this ?_
            cases dec (i + 1) (x.drop (i + 1)) with
            | none => rfl
            | some p =>
              obtain ⟨v, n⟩ := p
              simp only [Option.map_some]
              have e2 : (((c % 128).toNat + 128 * v : Nat) : Int) = c % 128 + 128 * v := by omega
              rw [e2, hpow, Int.add_mul, Int.mul_comm 128 (2 ^ (7 * i)), Int.mul_comm (128 : Int) (v : Int), Int.mul_assoc, Int.mul_comm (128 : Int) (2 ^ (7 * i)), ← Int.add_assoc]
              congr 2
              omega
      by_cases h9 : i = 9
      · rw [if_pos (by omega)]
        exact hj2 _ (by simp [h9])
      · rw [if_neg (by omega)]
        exact hj2 _ (by simp [h9])
theorem varint_Get_ev {x : List Int} (hb : Bytes x) (hl : x.length ≤ maxLen) : Ev (fun k => varint_Get.f k x) (getR x) := by
  have h := varint_Get_l0_ev x hb hl (x.length - 0) 0 0 rfl (by omega) (by omega) (by omega) (by simp)
  refine ev_eq h ?_
  unfold getR
  simp only [List.drop_zero]
  cases dec 0 x with
  | none => rfl
  | some p => simp

theorem xor64_ones {x : Int} (h0 : 0 ≤ x) (h1 : x < 18446744073709551616) : Go.bits .xor .u64 x 18446744073709551615 = 18446744073709551615 - x := by
  have e2 : BitVec.ofInt 64 18446744073709551615 = BitVec.allOnes 64 := by decide
  have e1 : (BitVec.ofInt 64 x).toNat = x.toNat := by rw [BitVec.toNat_ofInt]; omega
  have e3 : (BitVec.ofInt 64 x ^^^ BitVec.allOnes 64).toNat = 18446744073709551615 - x.toNat := by rw [BitVec.xor_allOnes, BitVec.toNat_not, e1]
  unfold Go.bits
  show IntKind.u64.wrap (((BitVec.ofInt 64 x ^^^ BitVec.ofInt 64 18446744073709551615).toNat : Nat) : Int) = _
  rw [e2, e3, wu64 (by omega) (by omega)]
  omega
theorem xor64_zero {x : Int} (h0 : 0 ≤ x) (h1 : x < 18446744073709551616) : Go.bits .xor .u64 x 0 = x := by
  have e2 : BitVec.ofInt 64 0 = 0#64 := by decide
  have e1 : (BitVec.ofInt 64 x).toNat = x.toNat := by rw [BitVec.toNat_ofInt]; omega
  unfold Go.bits
  show IntKind.u64.wrap (((BitVec.ofInt 64 x ^^^ BitVec.ofInt 64 0).toNat : Nat) : Int) = _
  rw [e2, BitVec.xor_zero, e1, wu64 (by omega) (by omega)]
  omega
/-- A signed number's fold. -/
def foldR (n : Int) : Int := if 0 ≤ n then 2 * n else -2 * n - 1
theorem foldR_range {n : Int} (h : -9223372036854775808 ≤ n ∧ n ≤ 9223372036854775807) : 0 ≤ foldR n ∧ foldR n < 18446744073709551616 := by
  unfold foldR
  split <;> omega
theorem varint_Fold_ev {n : Int} (h : -9223372036854775808 ≤ n ∧ n ≤ 9223372036854775807) : varint_Fold.f n = some (foldR n) := by
  unfold varint_Fold.f foldR
  by_cases hn : 0 ≤ n
  · have e : n / 9223372036854775808 = 0 := by omega
    rw [e, if_pos hn, wu64 (x := n) (by omega) (by omega), wu64 (x := n * 2) (by omega) (by omega), wu64 (x := 0) (by omega) (by omega), xor64_zero (by omega) (by omega)]
    congr 1
    omega
  · have e : n / 9223372036854775808 = -1 := by omega
    have e1 : IntKind.u64.wrap n = n + 18446744073709551616 := by rw [wu64_mod]; omega
    have e2 : IntKind.u64.wrap ((n + 18446744073709551616) * 2) = 2 * n + 18446744073709551616 := by rw [wu64_mod]; omega
    have e3 : IntKind.u64.wrap (-1) = 18446744073709551615 := by rw [wu64_mod]; omega
    rw [e, if_neg hn, e1, e2, e3, xor64_ones (by omega) (by omega)]
    congr 1
    omega

theorem garnerlaw02_awake_ev : Ev (fun k => garnerlaw02_awake.f k) true := Ev.of (fun k => garnerlaw02_awake.mono k) (k := 40) (by decide +kernel)

theorem len_tab : ∀ x : Fin 256, ∃ n : Fin 9, bt (⟨#[0, 1, 2, 2, 3, 3, 3, 3, 4, 4, 4, 4, 4, 4, 4, 4, 5, 5, 5, 5, 5, 5, 5, 5, 5, 5, 5, 5, 5, 5, 5, 5, 6, 6, 6, 6, 6, 6, 6, 6, 6, 6, 6, 6, 6, 6, 6, 6, 6, 6, 6, 6, 6, 6, 6, 6, 6, 6, 6, 6, 6, 6, 6, 6, 7, 7, 7, 7, 7, 7, 7, 7, 7, 7, 7, 7, 7, 7, 7, 7, 7, 7, 7, 7, 7, 7, 7, 7, 7, 7, 7, 7, 7, 7, 7, 7, 7, 7, 7, 7, 7, 7, 7, 7, 7, 7, 7, 7, 7, 7, 7, 7, 7, 7, 7, 7, 7, 7, 7, 7, 7, 7, 7, 7, 7, 7, 7, 7, 8, 8, 8, 8, 8, 8, 8, 8, 8, 8, 8, 8, 8, 8, 8, 8, 8, 8, 8, 8, 8, 8, 8, 8, 8, 8, 8, 8, 8, 8, 8, 8, 8, 8, 8, 8, 8, 8, 8, 8, 8, 8, 8, 8, 8, 8, 8, 8, 8, 8, 8, 8, 8, 8, 8, 8, 8, 8, 8, 8, 8, 8, 8, 8, 8, 8, 8, 8, 8, 8, 8, 8, 8, 8, 8, 8, 8, 8, 8, 8, 8, 8, 8, 8, 8, 8, 8, 8, 8, 8, 8, 8, 8, 8, 8, 8, 8, 8, 8, 8, 8, 8, 8, 8, 8, 8, 8, 8, 8, 8, 8, 8, 8, 8, 8, 8, 8, 8, 8, 8, 8, 8, 8, 8, 8, 8, 8, 8]⟩ : ByteArray) (x.val : Int) = (n.val : Int) ∧ x.val < 2 ^ n.val ∧ (n.val = 0 ∨ 2 ^ (n.val - 1) ≤ x.val) := by decide +kernel
theorem len_tab' {x : Nat} (h : x < 256) : ∃ n : Nat, n ≤ 8 ∧ bt (⟨#[0, 1, 2, 2, 3, 3, 3, 3, 4, 4, 4, 4, 4, 4, 4, 4, 5, 5, 5, 5, 5, 5, 5, 5, 5, 5, 5, 5, 5, 5, 5, 5, 6, 6, 6, 6, 6, 6, 6, 6, 6, 6, 6, 6, 6, 6, 6, 6, 6, 6, 6, 6, 6, 6, 6, 6, 6, 6, 6, 6, 6, 6, 6, 6, 7, 7, 7, 7, 7, 7, 7, 7, 7, 7, 7, 7, 7, 7, 7, 7, 7, 7, 7, 7, 7, 7, 7, 7, 7, 7, 7, 7, 7, 7, 7, 7, 7, 7, 7, 7, 7, 7, 7, 7, 7, 7, 7, 7, 7, 7, 7, 7, 7, 7, 7, 7, 7, 7, 7, 7, 7, 7, 7, 7, 7, 7, 7, 7, 8, 8, 8, 8, 8, 8, 8, 8, 8, 8, 8, 8, 8, 8, 8, 8, 8, 8, 8, 8, 8, 8, 8, 8, 8, 8, 8, 8, 8, 8, 8, 8, 8, 8, 8, 8, 8, 8, 8, 8, 8, 8, 8, 8, 8, 8, 8, 8, 8, 8, 8, 8, 8, 8, 8, 8, 8, 8, 8, 8, 8, 8, 8, 8, 8, 8, 8, 8, 8, 8, 8, 8, 8, 8, 8, 8, 8, 8, 8, 8, 8, 8, 8, 8, 8, 8, 8, 8, 8, 8, 8, 8, 8, 8, 8, 8, 8, 8, 8, 8, 8, 8, 8, 8, 8, 8, 8, 8, 8, 8, 8, 8, 8, 8, 8, 8, 8, 8, 8, 8, 8, 8, 8, 8, 8, 8, 8, 8]⟩ : ByteArray) (x : Int) = (n : Int) ∧ IsLen n x := by
  obtain ⟨n, h1, h2, h3⟩ := len_tab ⟨x, h⟩
  exact ⟨n.val, by omega, h1, h2, h3⟩
theorem bits_Len64_ev (u : Nat) (hu : u < 18446744073709551616) : ∃ n : Nat, n ≤ 64 ∧ IsLen n u ∧ Ev (fun k => bits_Len64.f k (u : Int)) (n : Int) := by
  have hj : ∀ (v m : Nat), v < 4294967296 → m ≤ 32 → ∃ n : Nat, n ≤ 32 ∧ IsLen n v ∧ Ev (fun k => bits_Len64.j0 k (v : Int) (m : Int)) ((m + n : Nat) : Int) := by
    intro v m hv hm
    by_cases h1 : 65536 ≤ v
    · have e1 : (v : Int) / 65536 = ((v / 65536 : Nat) : Int) := rfl
      by_cases h2 : 256 ≤ v / 65536
      · have e2 : ((v / 65536 : Nat) : Int) / 256 = ((v / 65536 / 256 : Nat) : Int) := rfl
        obtain ⟨n, hn, ht, hl⟩ := len_tab' (x := v / 65536 / 256) (by omega)
        have hl2 : IsLen (n + 8 + 16) v := isLen_div (k := 16) (by omega) (isLen_div (k := 8) (by omega) hl)
        refine ⟨n + 8 + 16, by omega, hl2, ?_⟩
        rw [ev_succ]
        simp only [bits_Len64.j0, ev_ite, e1, e2]
        have e3 : ((v / 65536 / 256 : Nat) : Int) % 256 = ((v / 65536 / 256 : Nat) : Int) := by omega
        rw [if_pos (by omega), if_pos (by omega), e3, if_pos (by omega), if_pos (by omega), ht, w64 (x := (n : Int)) (by omega) (by omega), w64 (x := (m : Int) + 16) (by omega) (by omega), w64 (x := (m : Int) + 16 + 8) (by omega) (by omega), w64 (by omega) (by omega), ev_some]
        omega
      · obtain ⟨n, hn, ht, hl⟩ := len_tab' (x := v / 65536) (by omega)
        have hl2 : IsLen (n + 16) v := isLen_div (k := 16) (by omega) hl
        refine ⟨n + 16, by omega, hl2, ?_⟩
        rw [ev_succ]
        simp only [bits_Len64.j0, ev_ite, e1]
        have e3 : ((v / 65536 : Nat) : Int) % 256 = ((v / 65536 : Nat) : Int) := by omega
        rw [if_pos (by omega), if_neg (by omega), e3, if_pos (by omega), if_pos (by omega), ht, w64 (x := (n : Int)) (by omega) (by omega), w64 (x := (m : Int) + 16) (by omega) (by omega), w64 (by omega) (by omega), ev_some]
        omega
    · by_cases h2 : 256 ≤ v
      · have e2 : (v : Int) / 256 = ((v / 256 : Nat) : Int) := rfl
        obtain ⟨n, hn, ht, hl⟩ := len_tab' (x := v / 256) (by omega)
        have hl2 : IsLen (n + 8) v := isLen_div (k := 8) (by omega) hl
        refine ⟨n + 8, by omega, hl2, ?_⟩
        rw [ev_succ]
        simp only [bits_Len64.j0, ev_ite, e2]
        have e3 : ((v / 256 : Nat) : Int) % 256 = ((v / 256 : Nat) : Int) := by omega
        rw [if_neg (by omega), if_pos (by omega), e3, if_pos (by omega), if_pos (by omega), ht, w64 (x := (n : Int)) (by omega) (by omega), w64 (x := (m : Int) + 8) (by omega) (by omega), w64 (by omega) (by omega), ev_some]
        omega
      · obtain ⟨n, hn, ht, hl⟩ := len_tab' (x := v) (by omega)
        refine ⟨n, by omega, hl, ?_⟩
        rw [ev_succ]
        simp only [bits_Len64.j0, ev_ite]
        have e3 : (v : Int) % 256 = (v : Int) := by omega
        rw [if_neg (by omega), if_neg (by omega), e3, if_pos (by omega), if_pos (by omega), ht, w64 (x := (n : Int)) (by omega) (by omega), w64 (by omega) (by omega), ev_some]
        omega
  simp only [bits_Len64.f, ev_ite]
  by_cases h : 4294967296 ≤ u
  · obtain ⟨n, h1, h2, h3⟩ := hj (u / 4294967296) 32 (by omega) (by omega)
    refine ⟨n + 32, by omega, isLen_div (k := 32) (by omega) h2, ?_⟩
    rw [if_pos (by omega)]
    refine ev_eq h3 ?_
    omega
  · obtain ⟨n, h1, h2, h3⟩ := hj u 0 (by omega) (by omega)
    refine ⟨n, by omega, h2, ?_⟩
    rw [if_neg (by omega)]
    refine ev_eq h3 ?_
    omega

theorem varint_Size_ev (u : Nat) (hu : u < 18446744073709551616) : Ev (fun k => varint_Size.f k (u : Int)) ((one u).length : Int) := by
  obtain ⟨n, h1, h2, h3⟩ := bits_Len64_ev u hu
  simp only [varint_Size.f]
  rw [ev_bind h3, ev_some, one_size h2, w64 (x := (n : Int) + 7) (by omega) (by omega), w64 (x := (n : Int) + 7 - 1) (by omega) (by omega), Int.tdiv_eq_ediv_of_nonneg (by omega), w64 (by omega) (by omega)]
  unfold mx
  split <;> omega

theorem garnerref02_One_ev : ∀ u : Nat, u < 18446744073709551616 → Ev (fun k => garnerref02_One.f k (u : Int)) (one u) := by
  intro u
  induction u using Nat.strongRecOn with
  | _ u ih =>
    intro hu
    rw [ev_succ]
    simp only [garnerref02_One.f, ev_ite, Option.bind_some]
    by_cases h : u < 128
    · rw [if_pos (by omega), ev_some, one_lt h]
      congr 1
      omega
    · have e : IntKind.u64.wrap (Int.tdiv (u : Int) 128) = ((u / 128 : Nat) : Int) := by
        rw [Int.tdiv_eq_ediv_of_nonneg (by omega), wu64 (by omega) (by omega)]
        rfl
      have e2 : ((Int.tmod (u : Int) 128) % 256 + 128) % 256 = ((u % 128 + 128 : Nat) : Int) := by
        rw [Int.tmod_eq_emod_of_nonneg (by omega)]
        omega
      rw [if_neg (by omega), e, e2, ev_bind (ih (u / 128) (by omega) (by omega)), ev_ite]
      have hl := one_len10 (u := u / 128) (by omega)
      rw [if_pos (by simp only [List.length_singleton]; omega), ev_some, one_ge (u := u) (by omega)]
      rfl

theorem garnerref02_Put_l0_ev (l : List Int) (hl : l.length ≤ 10000000000000) (hu : ∀ u ∈ l, 0 ≤ u ∧ u < 18446744073709551616) : ∀ (d j : Nat) (b : List Int), l.length - j = d → j ≤ l.length → b.length ≤ 10 * j →
    Ev (fun k => garnerref02_Put.l0 k l b (j : Int)) (b ++ puts (l.drop j)) := by
  intro d
  induction d with
  | zero =>
    intro j b hd hj hb
    rw [ev_succ]
    simp only [garnerref02_Put.l0, ev_ite]
    rw [if_neg (by omega), ev_some, List.drop_eq_nil_of_le (by omega), puts_nil, List.append_nil]
  | succ d ih =>
    intro j b hd hj hb
    rw [ev_succ]
    simp only [garnerref02_Put.l0, ev_ite]
    rw [if_pos (by omega), if_pos (by omega), w64 (by omega) (by omega)]
    have h := hu _ (rd_mem (xs := l) (i := (j : Int)) (by omega) (by omega))
    have h1 : Ev (fun k => garnerref02_One.f k (rd l (j : Int))) (one (rd l (j : Int)).toNat) := by
      have := garnerref02_One_ev (rd l (j : Int)).toNat (by omega)
      rw [Int.toNat_of_nonneg h.1] at this
      exact this
    have h10 := one_len10 (u := (rd l (j : Int)).toNat) (by omega)
    rw [ev_bind h1, ev_ite, if_pos (by omega)]
    refine ev_eq (ih (j + 1) (b ++ one (rd l (j : Int)).toNat) (by omega) (by omega) (by rw [List.length_append]; omega)) ?_
    rw [drop_eq (xs := l) (i := j) (by omega), puts_cons, List.append_assoc]
theorem garnerref02_Put_ev {l : List Int} (hl : l.length ≤ 10000000000000) (hu : ∀ u ∈ l, 0 ≤ u ∧ u < 18446744073709551616) : Ev (fun k => garnerref02_Put.f k l) (puts l) :=
  garnerref02_Put_l0_ev l hl hu (l.length - 0) 0 [] rfl (by omega) (by simp)

theorem garnerref02_Fold_ev {n : Int} (h : -9223372036854775808 ≤ n ∧ n ≤ 9223372036854775807) : garnerref02_Fold.f n = some (foldR n) := by
  unfold garnerref02_Fold.f foldR
  by_cases hn : 0 ≤ n
  · rw [if_pos (by omega), if_pos hn, wu64 (x := n) (by omega) (by omega), wu64 (by omega) (by omega)]
    congr 1
    omega
  · rw [if_neg (by omega), if_neg hn, w64 (by omega) (by omega), wu64 (x := -1 - n) (by omega) (by omega), wu64 (x := (-1 - n) * 2) (by omega) (by omega), wu64 (by omega) (by omega)]
    congr 1
    omega

theorem xori_ones {x : Int} (h0 : 0 ≤ x) (h1 : x < 9223372036854775808) : Go.bits .xor .i64 x (-1) = -1 - x := by
  have e2 : BitVec.ofInt 64 (-1) = BitVec.allOnes 64 := by decide
  have e1 : (BitVec.ofInt 64 x).toNat = x.toNat := by rw [BitVec.toNat_ofInt]; omega
  have e3 : (BitVec.ofInt 64 x ^^^ BitVec.allOnes 64).toNat = 18446744073709551615 - x.toNat := by rw [BitVec.xor_allOnes, BitVec.toNat_not, e1]
  unfold Go.bits
  show IntKind.i64.wrap (((BitVec.ofInt 64 x ^^^ BitVec.ofInt 64 (-1)).toNat : Nat) : Int) = _
  rw [e2, e3, IntKind.wrap_i64]
  omega
theorem xori_zero {x : Int} (h0 : 0 ≤ x) (h1 : x < 9223372036854775808) : Go.bits .xor .i64 x 0 = x := by
  have e2 : BitVec.ofInt 64 0 = 0#64 := by decide
  have e1 : (BitVec.ofInt 64 x).toNat = x.toNat := by rw [BitVec.toNat_ofInt]; omega
  unfold Go.bits
  show IntKind.i64.wrap (((BitVec.ofInt 64 x ^^^ BitVec.ofInt 64 0).toNat : Nat) : Int) = _
  rw [e2, BitVec.xor_zero, e1, IntKind.wrap_i64]
  omega
theorem and64_one {x : Int} (h0 : 0 ≤ x) (h1 : x < 18446744073709551616) : Go.bits .and .u64 x 1 = x % 2 := by
  have e2 : BitVec.ofInt 64 1 = 1#64 := by decide
  have e1 : (BitVec.ofInt 64 x).toNat = x.toNat := by rw [BitVec.toNat_ofInt]; omega
  have e3 : (BitVec.ofInt 64 x &&& 1#64).toNat = x.toNat % 2 := by
    rw [BitVec.toNat_and, e1]
    exact Nat.and_one_is_mod _
  unfold Go.bits
  show IntKind.u64.wrap (((BitVec.ofInt 64 x &&& BitVec.ofInt 64 1).toNat : Nat) : Int) = _
  rw [e2, e3, wu64 (by omega) (by omega)]
  omega
theorem varint_Unfold_ev {n : Int} (h : -9223372036854775808 ≤ n ∧ n ≤ 9223372036854775807) : varint_Unfold.f (foldR n) = some n := by
  have hr := foldR_range h
  unfold varint_Unfold.f
  rw [and64_one hr.1 hr.2, w64 (x := foldR n / 2) (by omega) (by omega), w64 (x := foldR n % 2) (by omega) (by omega), w64 (by omega) (by omega)]
  unfold foldR at hr ⊢
  by_cases hn : 0 ≤ n
  · have e : (2 * n) % 2 = 0 := by omega
    rw [if_pos hn, e]
    show some (Go.bits .xor .i64 (2 * n / 2) 0) = _
    rw [xori_zero (by omega) (by omega)]
    congr 1
    omega
  · have e : (-2 * n - 1) % 2 = 1 := by omega
    rw [if_neg hn, e, xori_ones (by omega) (by omega)]
    congr 1
    omega

theorem VarintPuts : garnerlaw02_VarintPuts.Pure := by
  intro l n hl _ hu hn
  have hn := wf_i64 hn
  have hv : ∀ u ∈ l, 0 ≤ u ∧ u < 18446744073709551616 := by
    intro u h
    have := wf_u64 (hu u h)
    omega
  refine Ev.rounds (g := fun k => garnerlaw02_VarintPuts.f k l n) ?_
  simp only [garnerlaw02_VarintPuts.f, ev_ite]
  by_cases h500 : l.length > 500
  · rw [if_pos (by omega), ev_bind garnerlaw02_awake_ev, ev_some]
  rw [if_neg (by omega)]
  have hpl := puts_len hv
  have main : ∀ (d i : Nat) (s : Int), l.length - i = d → i ≤ l.length → 0 ≤ s → s + (puts (l.drop i)).length = (puts l).length → Ev (fun k => garnerlaw02_VarintPuts.l0 k l n s (i : Int)) true := by
    intro d
    induction d with
    | zero =>
      intro i s hd hi hs h
      rw [List.drop_eq_nil_of_le (by omega), puts_nil, List.length_nil] at h
      rw [ev_succ]
      simp only [garnerlaw02_VarintPuts.l0, ev_ite]
      rw [if_neg (by omega), ev_bind (varint_Put_ev (by omega) hv), ev_bind (garnerref02_Put_ev (by omega) hv), ev_bind (garnerref02_Bytes_ev (by unfold maxLen; omega)), ev_ite, if_pos (by simp), ev_ite, if_pos (by omega), ev_bind_c (varint_Fold_ev hn), ev_bind_c (garnerref02_Fold_ev hn), ev_ite, if_pos (by trivial), ev_bind_c (varint_Fold_ev hn), ev_bind_c (varint_Unfold_ev hn), ev_ite, if_pos (by trivial), ev_bind garnerlaw02_awake_ev, ev_some]
    | succ d ih =>
      intro i s hd hi hs h
      have hil : i < l.length := by omega
      have hr := hv _ (rd_mem (xs := l) (i := (i : Int)) (by omega) (by omega))
      rw [drop_eq hil, puts_cons, List.length_append] at h
      have h1 := varint_Size_ev (rd l (i : Int)).toNat (by omega)
      have h2 := garnerref02_One_ev (rd l (i : Int)).toNat (by omega)
      rw [Int.toNat_of_nonneg hr.1] at h1 h2
      rw [ev_succ]
      simp only [garnerlaw02_VarintPuts.l0, ev_ite]
      rw [if_pos (by omega), if_pos (by omega), ev_bind h1, ev_bind h2, ev_ite, if_pos (by trivial), ev_bind h1, w64 (by omega) (by omega), w64 (by omega) (by omega)]
      exact ih (i + 1) _ (by omega) (by omega) (by omega) (by omega)
  exact main (l.length - 0) 0 0 rfl (by omega) (by omega) (by simp)

end Go.Proofs.Ythgkjkdbjnoikaa.Pure
