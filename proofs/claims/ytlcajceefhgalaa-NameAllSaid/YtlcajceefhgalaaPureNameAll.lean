/- The pure statement of the law NameAll: what the printed functions answer, each by its plain law, and that the law's answer is true. -/
import Derived.Test.YtlcajceefhgalaaPNameAllx0
import Derived.Test.YtlcajceefhgalaaPNameAllx1
import Derived.Test.YtlcajceefhgalaaPNameAllx2
import Derived.Test.YtlcajceefhgalaaPNameAllx3
import Derived.Test.YtlcajceefhgalaaPNameAllx4
import Derived.Test.YtlcajceefhgalaaPNameAllx5
import Derived.Test.YtlcajceefhgalaaStNameAll
import Derived.Test.YtlcajceefhgalaaQSz
import Derived.Test.YtlcajceefhgalaaQV02
import Derived.Test.YtlcajceefhgalaaQV07
namespace Go.Proofs.Ytlcajceefhgalaa.Pure
open Go.RowKit Go.Proofs.Ytlcajceefhgalaa.PNameAll Go.Proofs.Ytlcajceefhgalaa.U Go.Proofs.YtlcajceefhgalaaW.PrintWords Go.Proofs.YtlcajceefhgalaaW.PrintLast Go.Proofs.YtlcajceefhgalaaW.PrintMore
set_option linter.unusedVariables false
set_option linter.unusedSimpArgs false
set_option maxRecDepth 4000
def numsK (kind : Int) : List ByteArray → List Int
  | [] => []
  | s :: l => if 0 < (parseR (bytesOf s)).1 ∧ (parseR (bytesOf s)).1 = kind then (parseR (bytesOf s)).2 :: numsK kind l else numsK kind l
theorem rdOf_get {l : List ByteArray} {j : Nat} (h : j < l.length) : rdOf ByteArray.empty l (j : Int) = l[j] := by
  simp [rdOf, h]
theorem garnerlaw07_awake_ev : Ev (fun k => garnerlaw07_awake.f k) true := Ev.of (fun k => garnerlaw07_awake.mono k) (k := 40) (by decide +kernel)
theorem garnerref03_Ints_l0_ev (x y : List Int) (hxy : x.length = y.length) (hl : x.length ≤ maxLen) : ∀ (d i : Nat), x.length - i = d → i ≤ x.length → Ev (fun k => garnerref03_Ints.l0 k x y (i : Int)) (decide (x.drop i = y.drop i)) := by
  have hlm := maxLen_le hl
  intro d
  induction d with
  | zero =>
    intro i hd hi
    rw [ev_succ]
    simp only [garnerref03_Ints.l0, ev_ite]
    rw [if_neg (by omega), ev_some, List.drop_eq_nil_of_le (by omega), List.drop_eq_nil_of_le (by omega)]
    simp
  | succ d ih =>
    intro i hd hi
    rw [ev_succ]
    simp only [garnerref03_Ints.l0, ev_ite]
    rw [if_pos (by omega), if_pos (by omega), if_pos (by omega), w64 (by omega) (by omega), drop_eq (xs := x) (by omega), drop_eq (xs := y) (by omega)]
    by_cases h : rd x (i : Int) = rd y (i : Int)
    · rw [if_pos h, h]
      refine ev_eq (ih (i + 1) (by omega) (by omega)) ?_
      simp
    · rw [if_neg h, ev_some]
      simp [h]
theorem garnerref03_Ints_ev {x y : List Int} (hl : x.length ≤ maxLen) : Ev (fun k => garnerref03_Ints.f k x y) (decide (x = y)) := by
  simp only [garnerref03_Ints.f, ev_ite]
  by_cases h : x.length = y.length
  · rw [if_pos (by omega)]
    exact garnerref03_Ints_l0_ev x y h hl (x.length - 0) 0 rfl (by omega)
  · rw [if_neg (by omega), ev_some]
    symm
    simp only [decide_eq_false_iff_not]
    rintro rfl
    exact h rfl
theorem letIdx_all : ∀ c : Fin 256, Lib.indexByte [118, 119, 116, 115, 109] (c.val.toUInt8) = letIdx (c.val : Int) := by decide +kernel
theorem strings_IndexByte_letters {c : Int} (h0 : 0 ≤ c) (h1 : c ≤ 255) : strings_IndexByte.f (⟨#[118, 119, 116, 115, 109]⟩ : ByteArray) c = some (letIdx c) := by
  unfold strings_IndexByte.f
  obtain ⟨n, rfl⟩ := Int.eq_ofNat_of_zero_le h0
  have := letIdx_all ⟨n, by omega⟩
  simp only at this
  rw [← this]
  rfl
theorem name_Parse_l0_ev (s : ByteArray) (hs : s.size = 11) (x : Int) (hx : -1 ≤ x ∧ x ≤ 4) : ∀ (d i acc : Nat), i + d = 11 → 1 ≤ i → acc < 10 ^ (i - 1) →
    Ev (fun k => name_Parse.l0 k s x (acc : Int) (i : Int)) (match numAcc acc ((bytesOf s).drop i) with
      | none => (0, 0, false)
      | some n => if x < 0 ∨ n < 1 ∨ 2147483647 < n then (0, 0, false) else (3 + x, (n : Int), true)) := by
  have hl : (bytesOf s).length = 11 := by rw [bytesOf_length, hs]
  intro d
  induction d with
  | zero =>
    intro i acc hd hi hacc
    have : i = 11 := by omega
    subst this
    rw [ev_succ]
    simp only [name_Parse.l0, ev_ite]
    rw [if_neg (by omega), List.drop_eq_nil_of_le (by omega)]
    simp only [numAcc]
    rw [w64 (by omega) (by omega)]
    simp only [ev_some]
    repeat' split
    all_goals first | rfl | omega
  | succ d ih =>
    intro i acc hd hi hacc
    have hb := (bytesOf_range s).rd (i := (i : Int)) (by omega) (by omega)
    have hp : 10 ^ (i - 1) ≤ 10 ^ 9 := Nat.pow_le_pow_right (by omega) (by omega)
    have hp2 : 10 ^ (i + 1 - 1) = 10 * 10 ^ (i - 1) := by
      obtain ⟨m, rfl⟩ : ∃ m, i = m + 1 := ⟨i - 1, by omega⟩
      simp only [Nat.add_sub_cancel]
      rw [Nat.pow_succ, Nat.mul_comm]
    rw [ev_succ]
    simp only [name_Parse.l0, ev_ite]
    rw [if_pos (by omega), if_pos (by omega), if_pos (by omega), drop_eq (xs := bytesOf s) (i := i) (by omega), numAcc, ← rd_bytesOf]
    by_cases h1 : rd (bytesOf s) (i : Int) < 48
    · rw [if_pos h1, if_pos (.inl h1), ev_some]
    · by_cases h2 : rd (bytesOf s) (i : Int) > 57
      · rw [if_neg h1, if_pos h2, if_pos (.inr h2), ev_some]
      · have e : wrap64 (wrap64 (10 * (acc : Int)) + (rd (bytesOf s) (i : Int) - 48) % 256) = ((10 * acc + (rd (bytesOf s) (i : Int) - 48).toNat : Nat) : Int) := by
          rw [w64 (x := 10 * (acc : Int)) (by omega) (by omega), w64 (by omega) (by omega)]
          omega
        rw [if_neg h1, if_neg h2, if_neg (by omega), e, w64 (by omega) (by omega)]
        exact ih (i + 1) _ (by omega) (by omega) (by omega)
theorem letIdx_range (c : Int) : -1 ≤ letIdx c ∧ letIdx c ≤ 4 := by
  unfold letIdx
  repeat' split
  all_goals omega
theorem name_Parse_ev (s : ByteArray) (hs : s.size ≤ 140737488351232) : Ev (fun k => name_Parse.f k s) ((parseR (bytesOf s)).1, (parseR (bytesOf s)).2, decide (0 < (parseR (bytesOf s)).1)) := by
  have hl : (bytesOf s).length = s.size := bytesOf_length s
  have e1 : (s.toList = ([114, 111, 115, 116, 101, 114] : List UInt8)) ↔ bytesOf s = rosterB := toList_lit s rosterB (by intro x hx; simp [rosterB] at hx; omega)
  have e2 : (s.toList = ([114, 111, 115, 116, 101, 114, 46, 110, 101, 119] : List UInt8)) ↔ bytesOf s = freshB := toList_lit s freshB (by intro x hx; simp [freshB] at hx; omega)
  simp only [name_Parse.f, ev_ite, e1, e2]
  by_cases h1 : bytesOf s = rosterB
  · have e : parseR (bytesOf s) = (1, 0) := by rw [parseR, if_pos h1]
    simp only [e]
    rw [if_pos h1, ev_some]
    rfl
  · rw [if_neg h1]
    by_cases h2 : bytesOf s = freshB
    · have e : parseR (bytesOf s) = (2, 0) := by rw [parseR, if_neg h1, if_pos h2]
      simp only [e]
      rw [if_pos h2, ev_some]
      rfl
    · rw [if_neg h2]
      by_cases h11 : s.size = 11
      · have hb := (bytesOf_range s).rd (i := 0) (by omega) (by omega)
        rw [if_pos (by omega), if_pos (by omega), ← rd_bytesOf, ev_bind_c (strings_IndexByte_letters hb.1 hb.2)]
        have hr := letIdx_range (rd (bytesOf s) 0)
        refine ev_eq (name_Parse_l0_ev s h11 _ hr 10 1 0 (by omega) (by omega) (by omega)) ?_
        have e : parseR (bytesOf s) = parse11 (bytesOf s) := by
          rw [parseR, if_neg h1, if_neg h2, if_pos (by omega)]
        simp only [e, parse11]
        cases numAcc 0 ((bytesOf s).drop 1) with
        | none => rfl
        | some n =>
          simp only
          split
          · rfl
          · simp only [Prod.mk.injEq, true_and]
            symm
            rw [decide_eq_true_eq]
            omega
      · have e : parseR (bytesOf s) = (0, 0) := by rw [parseR, if_neg h1, if_neg h2, if_neg (by omega)]
        simp only [e]
        rw [if_neg (by omega), ev_some]
        rfl
theorem name_All_l0_ev (l : List ByteArray) (kind : Int) (hl : l.length ≤ 60) (hs : ∀ s ∈ l, s.size ≤ 140737488351232) : ∀ (d j : Nat) (acc : List Int), l.length - j = d → j ≤ l.length → acc.length ≤ j →
    Ev (fun k => name_All.l0 k l kind acc (j : Int)) (name_All.sortZ (acc ++ numsK kind (l.drop j))) := by
  intro d
  induction d with
  | zero =>
    intro j acc hd hj ha
    rw [ev_succ]
    simp only [name_All.l0, ev_ite]
    rw [if_neg (by omega), ev_some, List.drop_eq_nil_of_le (by omega), numsK, List.append_nil]
  | succ d ih =>
    intro j acc hd hj ha
    have hjl : j < l.length := by omega
    have hp := name_Parse_ev l[j] (hs _ (List.getElem_mem hjl))
    have hw : wrap64 ((j : Int) + 1) = ((j + 1 : Nat) : Int) := w64 (by omega) (by omega)
    rw [ev_succ]
    simp only [name_All.l0, ev_ite, rdOf_get hjl, hw]
    rw [if_pos (by omega), ev_bind hp, List.drop_eq_getElem_cons hjl, numsK]
    simp only [ev_ite]
    by_cases h1 : 0 < (parseR (bytesOf l[j])).1
    · rw [if_pos (by simpa using h1)]
      by_cases h2 : (parseR (bytesOf l[j])).1 = kind
      · rw [if_pos h2, if_pos (by omega), if_pos ⟨h1, h2⟩]
        have := ih (j + 1) (acc ++ [(parseR (bytesOf l[j])).2]) (by omega) (by omega) (by rw [List.length_append]; simp only [List.length_cons, List.length_nil]; omega)
        rwa [List.append_assoc] at this
      · rw [if_neg h2, if_neg (fun h => h2 h.2)]
        exact ih (j + 1) acc (by omega) (by omega) (by omega)
    · rw [if_neg (by simpa using h1), if_neg (fun h => h1 h.1)]
      exact ih (j + 1) acc (by omega) (by omega) (by omega)
theorem name_All_ev (l : List ByteArray) (kind : Int) (hl : l.length ≤ 60) (hs : ∀ s ∈ l, s.size ≤ 140737488351232) : Ev (fun k => name_All.f k l kind) (name_All.sortZ (numsK kind l)) := by
  have := name_All_l0_ev l kind hl hs (l.length - 0) 0 [] rfl (by omega) (by simp)
  rw [List.drop_zero] at this
  exact this
theorem digit_str : ∀ d : Fin 10, rdOf ByteArray.empty ([(⟨#[48]⟩ : ByteArray), (⟨#[49]⟩ : ByteArray), (⟨#[50]⟩ : ByteArray), (⟨#[51]⟩ : ByteArray), (⟨#[52]⟩ : ByteArray), (⟨#[53]⟩ : ByteArray), (⟨#[54]⟩ : ByteArray), (⟨#[55]⟩ : ByteArray), (⟨#[56]⟩ : ByteArray), (⟨#[57]⟩ : ByteArray)] : List ByteArray) (d.val : Int) = strOfNums [((48 + d.val : Nat) : Int)] := by decide +kernel
theorem letter_str : ∀ d : Fin 5, rdOf ByteArray.empty ([(⟨#[118]⟩ : ByteArray), (⟨#[119]⟩ : ByteArray), (⟨#[116]⟩ : ByteArray), (⟨#[115]⟩ : ByteArray), (⟨#[109]⟩ : ByteArray)] : List ByteArray) (d.val : Int) = strOfNums [bt (⟨#[118, 119, 116, 115, 109]⟩ : ByteArray) (d.val : Int)] := by decide +kernel
theorem garnerref07_Of_l0_ev (kind num : Int) (hk : 3 ≤ kind ∧ kind ≤ 7) (n : Nat) (hn : n ≤ 2147483647) : ∀ (d i : Nat), i + d = 10 →
    Ev (fun k => garnerref07_Of.l0 k (strOfNums (digs i n)) ((n / 10 ^ i : Nat) : Int) (i : Int) kind num) (strOfNums (bt (⟨#[118, 119, 116, 115, 109]⟩ : ByteArray) (kind - 3) :: digs 10 n)) := by
  intro d
  induction d with
  | zero =>
    intro i hi
    have : i = 10 := by omega
    subst this
    rw [ev_succ]
    simp only [garnerref07_Of.l0, ev_ite, Option.bind_some]
    have hl := letter_str ⟨(kind - 3).toNat, by omega⟩
    simp only [Int.toNat_of_nonneg (show 0 ≤ kind - 3 by omega)] at hl
    rw [if_neg (by omega), w64 (by omega) (by omega), if_pos (by omega), if_pos (by simp; omega), hl, if_pos (by rw [str_size, str_size, digs_len]; simp), ev_some, str_append]
    rfl
  | succ d ih =>
    intro i hi
    have hle : n / 10 ^ i ≤ n := Nat.div_le_self _ _
    have hnx : n / 10 ^ (i + 1) = n / 10 ^ i / 10 := by rw [Nat.pow_succ, ← Nat.div_div_eq_div_mul]
    have := ih (i + 1) (by omega)
    rw [digs_front, hnx] at this
    generalize n / 10 ^ i = q at hle this ⊢
    rw [ev_succ]
    simp only [garnerref07_Of.l0, ev_ite, Option.bind_some]
    have hd := digit_str ⟨q % 10, by omega⟩
    simp only at hd
    have e1 : Int.tmod (q : Int) 10 = ((q % 10 : Nat) : Int) := by
      rw [Int.tmod_eq_emod_of_nonneg (by omega)]
      rfl
    have e2 : Int.tdiv (q : Int) 10 = ((q / 10 : Nat) : Int) := by
      rw [Int.tdiv_eq_ediv_of_nonneg (by omega)]
      rfl
    rw [if_pos (by omega), e1, e2, if_pos (by omega), if_pos (by simp; omega), hd, if_pos (by rw [str_size, str_size, digs_len]; simp; omega), w64 (by omega) (by omega), w64 (by omega) (by omega), str_append]
    exact this
theorem garnerref07_Of_ev (kind n : Int) (hk : -9223372036854775808 ≤ kind ∧ kind ≤ 9223372036854775807) : Ev (fun k => garnerref07_Of.f k kind n) (nameR kind n).1 := by
  have h2 : ∀ b : Bool, b = decide (kind < 3 ∨ 7 < kind ∨ n < 1 ∨ 2147483647 < n) → Ev (fun k => garnerref07_Of.j2 k b kind n) (if kind < 3 ∨ 7 < kind ∨ n < 1 ∨ 2147483647 < n then (⟨#[]⟩ : ByteArray) else strOfNums (bt (⟨#[118, 119, 116, 115, 109]⟩ : ByteArray) (kind - 3) :: digs 10 n.toNat)) := by
    intro b hb
    rw [ev_succ]
    simp only [garnerref07_Of.j2, ev_ite, hb, decide_eq_true_eq]
    by_cases h : kind < 3 ∨ 7 < kind ∨ n < 1 ∨ 2147483647 < n
    · rw [if_pos h, if_pos h, ev_some]
    · rw [if_neg h, if_neg h]
      have := garnerref07_Of_l0_ev kind n (by omega) n.toNat (by omega) 10 0 (by omega)
      simp only [Nat.pow_zero, Nat.div_one] at this
      rw [Int.toNat_of_nonneg (by omega)] at this
      exact this
  have h1 : ∀ b : Bool, b = decide (kind = 2 ∧ n = 0) → Ev (fun k => garnerref07_Of.j1 k b kind n) (if kind = 2 ∧ n = 0 then (⟨#[114, 111, 115, 116, 101, 114, 46, 110, 101, 119]⟩ : ByteArray) else if kind < 3 ∨ 7 < kind ∨ n < 1 ∨ 2147483647 < n then (⟨#[]⟩ : ByteArray) else strOfNums (bt (⟨#[118, 119, 116, 115, 109]⟩ : ByteArray) (kind - 3) :: digs 10 n.toNat)) := by
    intro b hb
    rw [ev_succ]
    simp only [garnerref07_Of.j1, ev_ite, hb, decide_eq_true_eq]
    by_cases h : kind = 2 ∧ n = 0
    · rw [if_pos h, if_pos h, ev_some]
    · rw [if_neg h, if_neg h]
      by_cases c1 : kind < 3
      · rw [if_pos c1]; exact h2 true (by simp [c1])
      · rw [if_neg c1]
        by_cases c2 : kind > 7
        · rw [if_pos c2]; exact h2 true (by simp; omega)
        · rw [if_neg c2]
          by_cases c3 : n < 1
          · rw [if_pos c3]; exact h2 true (by simp [c3])
          · rw [if_neg c3]; exact h2 _ (by rw [Bool.eq_iff_iff]; simp only [decide_eq_true_eq]; omega)
  have h0 : ∀ b : Bool, b = decide (kind = 1 ∧ n = 0) → Ev (fun k => garnerref07_Of.j0 k b kind n) (nameR kind n).1 := by
    intro b hb
    rw [ev_succ]
    simp only [garnerref07_Of.j0, ev_ite, hb, decide_eq_true_eq, nameR]
    by_cases h : kind = 1 ∧ n = 0
    · rw [if_pos h, if_pos h, ev_some]
    · rw [if_neg h, if_neg h]
      have hfin : ∀ b : Bool, b = decide (kind = 2 ∧ n = 0) → Ev (fun k => garnerref07_Of.j1 k b kind n) (if kind = 2 ∧ n = 0 then ((⟨#[114, 111, 115, 116, 101, 114, 46, 110, 101, 119]⟩ : ByteArray), (0 : Int)) else if kind < 3 ∨ 7 < kind ∨ n < 1 ∨ 2147483647 < n then ((⟨#[]⟩ : ByteArray), (1 : Int)) else (strOfNums (bt (⟨#[118, 119, 116, 115, 109]⟩ : ByteArray) (kind - 3) :: digs 10 n.toNat), (0 : Int))).1 := by
        intro b hb
        refine ev_eq (h1 b hb) ?_
        repeat' split
        all_goals rfl
      by_cases c : kind = 2
      · rw [if_pos c]
        exact hfin _ (by rw [Bool.eq_iff_iff]; simp [c])
      · rw [if_neg c]
        exact hfin false (by simp [c])
  simp only [garnerref07_Of.f, ev_ite]
  by_cases c : kind = 1
  · rw [if_pos c]
    exact h0 _ (by rw [Bool.eq_iff_iff]; simp [c])
  · rw [if_neg c]
    exact h0 false (by simp [c])
theorem garnerref07_number_ev (s : ByteArray) (hs : s.size = 10) : Ev (fun k => garnerref07_number.f k s) (match numAcc 0 (bytesOf s) with | none => -1 | some n => (n : Int)) := by
  have hl : (bytesOf s).length = 10 := by rw [bytesOf_length, hs]
  have main : ∀ (d i acc : Nat), i + d = 10 → acc < 10 ^ i → Ev (fun k => garnerref07_number.l0 k s (acc : Int) (i : Int)) (match numAcc acc ((bytesOf s).drop i) with | none => -1 | some n => (n : Int)) := by
    intro d
    induction d with
    | zero =>
      intro i acc hd hacc
      have : i = 10 := by omega
      subst this
      rw [ev_succ]
      simp only [garnerref07_number.l0, ev_ite]
      rw [if_neg (by omega), ev_some, List.drop_eq_nil_of_le (by omega)]
      rfl
    | succ d ih =>
      intro i acc hd hacc
      have hb := (bytesOf_range s).rd (i := (i : Int)) (by omega) (by omega)
      have hp : 10 ^ i ≤ 10 ^ 9 := Nat.pow_le_pow_right (by omega) (by omega)
      rw [ev_succ]
      simp only [garnerref07_number.l0, ev_ite]
      rw [if_pos (by omega), if_pos (by omega), drop_eq (xs := bytesOf s) (i := i) (by omega), numAcc, ← rd_bytesOf]
      by_cases h1 : rd (bytesOf s) (i : Int) < 48
      · rw [if_pos h1, if_pos (.inl h1), ev_some]
      · by_cases h2 : rd (bytesOf s) (i : Int) > 57
        · rw [if_neg h1, if_pos h2, if_pos (.inr h2), ev_some]
        · have e : wrap64 (wrap64 (10 * (acc : Int)) + (rd (bytesOf s) (i : Int) - 48) % 256) = ((10 * acc + (rd (bytesOf s) (i : Int) - 48).toNat : Nat) : Int) := by
            rw [w64 (x := 10 * (acc : Int)) (by omega) (by omega), w64 (by omega) (by omega)]
            omega
          rw [if_neg h1, if_neg h2, if_neg (by omega), e, w64 (by omega) (by omega)]
          exact ih (i + 1) _ (by omega) (by rw [Nat.pow_succ]; omega)
  have := main 10 0 0 (by omega) (by omega)
  rw [List.drop_zero] at this
  exact this
theorem bytesOf_tail (s : ByteArray) : bytesOf (s.extract 1 s.size) = (bytesOf s).drop 1 := by
  unfold bytesOf
  rw [← List.map_drop]
  congr 1
  rw [ByteArray.data_extract, Array.toList_extract]
  simp only [List.extract_eq_take_drop]
  rw [List.take_of_length_le (by rw [List.length_drop, Array.length_toList]; exact Nat.le_refl _)]
theorem garnerref07_Parse_l1_bad (s : ByteArray) (hbad : s.size = 11 → ∀ n, numAcc 0 ((bytesOf s).drop 1) = some n → n < 1 ∨ 2147483647 < n) : ∀ (d : Nat) (c : Int), c + d = 8 → 3 ≤ c → Ev (fun k => garnerref07_Parse.l1 k s c) (0, 0) := by
  have hl : (bytesOf s).length = s.size := bytesOf_length s
  intro d
  induction d with
  | zero =>
    intro c hc h3
    rw [ev_succ]
    simp only [garnerref07_Parse.l1, ev_ite]
    rw [if_neg (by omega), ev_succ]
    simp only [garnerref07_Parse.j2, ev_ite]
    rw [if_neg (by simp), ev_some]
  | succ d ih =>
    intro c hc h3
    rw [ev_succ]
    simp only [garnerref07_Parse.l1, ev_ite]
    rw [if_pos (by omega), ev_succ]
    simp only [garnerref07_Parse.j2, ev_ite, beq_iff_eq]
    by_cases h11 : s.size = 11
    · have ht : (bytesOf (s.extract 1 s.size)).length = 10 := by rw [bytesOf_tail, List.length_drop]; omega
      have hts : (s.extract 1 s.size).size = 10 := by rw [bytesOf_length] at ht; exact ht
      rw [if_pos (by omega), if_pos (by omega), ev_bind (garnerref07_number_ev _ hts), bytesOf_tail]
      have hnext : Ev (fun k => garnerref07_Parse.l1 k s (wrap64 (c + 1))) (0, 0) := by
        rw [w64 (by omega) (by omega)]
        exact ih (c + 1) (by omega) (by omega)
      have hb := hbad h11
      cases hn : numAcc 0 ((bytesOf s).drop 1) with
      | none =>
        simp only [ev_ite]
        rw [if_neg (by omega)]
        exact hnext
      | some n =>
        have hbn := hb n hn
        simp only [ev_ite]
        by_cases h1 : (n : Int) ≥ 1
        · rw [if_pos h1, ev_bind (garnerref07_Of_ev c n (by omega))]
          have e : (nameR c n).1 = (⟨#[]⟩ : ByteArray) := by
            unfold nameR
            rw [if_neg (by omega), if_neg (by omega), if_pos (by omega)]
          rw [e, ev_ite, if_neg]
          · exact hnext
          · intro he
            have := (toList_eq_iff _ s).1 he
            have := congrArg List.length this
            rw [hl] at this
            simp [bytesOf] at this
            omega
        · rw [if_neg h1]
          exact hnext
    · rw [if_neg (by omega), ev_some]
theorem garnerref07_Parse_l1_good (s : ByteArray) (h11 : s.size = 11) (n : Nat) (hn : numAcc 0 ((bytesOf s).drop 1) = some n) (h1 : 1 ≤ n) (h2 : n ≤ 2147483647) : ∀ (d : Nat) (c : Int), c + d = 8 → 3 ≤ c → (∀ j : Int, 3 ≤ j → j < c → letIdx (rd (bytesOf s) 0) ≠ j - 3) →
    Ev (fun k => garnerref07_Parse.l1 k s c) (if letIdx (rd (bytesOf s) 0) < 0 then (0, 0) else (3 + letIdx (rd (bytesOf s) 0), (n : Int))) := by
  have hl : (bytesOf s).length = s.size := bytesOf_length s
  have hdl : ((bytesOf s).drop 1).length = 10 := by rw [List.length_drop]; omega
  have hdig := (numAcc_digs _ _ _ hn).1
  rw [hdl] at hdig
  have hx := (bytesOf_range s).rd (i := 0) (by omega) (by omega)
  have hlr := letIdx_range (rd (bytesOf s) 0)
  intro d
  induction d with
  | zero =>
    intro c hc h3 hno
    rw [ev_succ]
    simp only [garnerref07_Parse.l1, ev_ite]
    rw [if_neg (by omega), ev_succ]
    simp only [garnerref07_Parse.j2, ev_ite]
    rw [if_neg (by simp), ev_some, if_pos]
    rcases Int.lt_or_le (letIdx (rd (bytesOf s) 0)) 0 with h | h
    · exact h
    · exact absurd (by omega) (hno (letIdx (rd (bytesOf s) 0) + 3) (by omega) (by omega))
  | succ d ih =>
    intro c hc h3 hno
    rw [ev_succ]
    simp only [garnerref07_Parse.l1, ev_ite]
    rw [if_pos (by omega), ev_succ]
    simp only [garnerref07_Parse.j2, ev_ite, beq_iff_eq]
    have ht : (bytesOf (s.extract 1 s.size)).length = 10 := by rw [bytesOf_tail, List.length_drop]; omega
    have hts : (s.extract 1 s.size).size = 10 := by rw [bytesOf_length] at ht; exact ht
    rw [if_pos (by omega), if_pos (by omega), ev_bind (garnerref07_number_ev _ hts), bytesOf_tail, hn]
    simp only [ev_ite]
    rw [if_pos (by omega), ev_bind (garnerref07_Of_ev c n (by omega))]
    have e : (nameR c n).1 = strOfNums (bt (⟨#[118, 119, 116, 115, 109]⟩ : ByteArray) (c - 3) :: digs 10 n) := by
      unfold nameR
      rw [if_neg (by omega), if_neg (by omega), if_neg (by omega)]
      rfl
    have hbr := bt_range (⟨#[118, 119, 116, 115, 109]⟩ : ByteArray) (c - 3)
    have hbytes : Bytes (bt (⟨#[118, 119, 116, 115, 109]⟩ : ByteArray) (c - 3) :: digs 10 n) := by
      intro y hy
      rcases List.mem_cons.1 hy with rfl | hy
      · exact hbr
      · exact digs_bytes 10 n y hy
    have hsplit : bytesOf s = rd (bytesOf s) 0 :: (bytesOf s).drop 1 := by
      have := drop_eq (xs := bytesOf s) (i := 0) (by omega)
      rw [List.drop_zero] at this
      exact this
    have hiff : ((nameR c n).1.toList = s.toList) ↔ letIdx (rd (bytesOf s) 0) = c - 3 := by
      rw [e, toList_eq_iff, bytes_str hbytes]
      constructor
      · intro h
        have h' := congrArg (fun l => rd l 0) h
        exact (letter_iff (by omega) hx).1 h'
      · intro h
        rw [hdig, (letter_iff (by omega) hx).2 h]
        exact hsplit.symm
    simp only [hiff, ev_ite]
    by_cases hc' : letIdx (rd (bytesOf s) 0) = c - 3
    · rw [if_pos hc', ev_some, if_neg (by omega)]
      congr 1
      omega
    · rw [if_neg hc', w64 (by omega) (by omega)]
      refine ih (c + 1) (by omega) (by omega) (fun j h0 h1 => ?_)
      by_cases hj : j = c
      · subst hj; exact hc'
      · exact hno j h0 (by omega)
theorem garnerref07_Parse_ev (s : ByteArray) (hs : s.size ≤ 140737488351232) : Ev (fun k => garnerref07_Parse.f k s) (parseR (bytesOf s)) := by
  have hl : (bytesOf s).length = s.size := bytesOf_length s
  have e1 : ((⟨#[114, 111, 115, 116, 101, 114]⟩ : ByteArray).toList = s.toList) ↔ bytesOf s = rosterB := by
    have hk : (⟨#[114, 111, 115, 116, 101, 114]⟩ : ByteArray).toList = u8s rosterB := by rw [ByteArray.toList_eq]; rfl
    rw [hk, eq_comm]
    exact toList_lit s rosterB (by intro x hx; simp [rosterB] at hx; omega)
  have e2 : ((⟨#[114, 111, 115, 116, 101, 114, 46, 110, 101, 119]⟩ : ByteArray).toList = s.toList) ↔ bytesOf s = freshB := by
    have hk : (⟨#[114, 111, 115, 116, 101, 114, 46, 110, 101, 119]⟩ : ByteArray).toList = u8s freshB := by rw [ByteArray.toList_eq]; rfl
    rw [hk, eq_comm]
    exact toList_lit s freshB (by intro x hx; simp [freshB] at hx; omega)
  simp only [garnerref07_Parse.f]
  rw [ev_succ]
  simp only [garnerref07_Parse.l0, ev_ite]
  rw [if_pos (by omega), ev_bind (garnerref07_Of_ev 1 0 (by omega))]
  have n1 : (nameR 1 0).1 = (⟨#[114, 111, 115, 116, 101, 114]⟩ : ByteArray) := by simp [nameR]
  have n2 : (nameR 2 0).1 = (⟨#[114, 111, 115, 116, 101, 114, 46, 110, 101, 119]⟩ : ByteArray) := by simp [nameR]
  simp only [n1, e1, ev_ite]
  by_cases h1 : bytesOf s = rosterB
  · rw [if_pos h1, ev_some, parseR, if_pos h1]
  · rw [if_neg h1, w64 (by omega) (by omega), ev_succ]
    simp only [garnerref07_Parse.l0, ev_ite]
    rw [if_pos (by omega)]
    have e12 : (1 : Int) + 1 = 2 := rfl
    rw [e12, ev_bind (garnerref07_Of_ev 2 0 (by omega))]
    simp only [n2, e2, ev_ite]
    by_cases h2 : bytesOf s = freshB
    · rw [if_pos h2, ev_some, parseR, if_neg h1, if_pos h2]
    · rw [if_neg h2, w64 (by omega) (by omega), ev_succ]
      simp only [garnerref07_Parse.l0, ev_ite]
      rw [if_neg (by omega), parseR, if_neg h1, if_neg h2]
      by_cases h11 : s.size = 11
      · rw [if_pos (by omega), parse11]
        cases hn : numAcc 0 ((bytesOf s).drop 1) with
        | none =>
          refine garnerref07_Parse_l1_bad s (fun _ n hn' => ?_) 5 3 (by omega) (by omega)
          rw [hn] at hn'
          cases hn'
        | some n =>
          simp only
          by_cases hb : n < 1 ∨ 2147483647 < n
          · rw [if_pos (.inr hb)]
            refine garnerref07_Parse_l1_bad s (fun _ m hm => ?_) 5 3 (by omega) (by omega)
            rw [hn] at hm
            rw [← Option.some.inj hm]
            exact hb
          · refine ev_eq (garnerref07_Parse_l1_good s h11 n hn (by omega) (by omega) 5 3 (by omega) (by omega) (fun j h0 h1 => by omega)) ?_
            repeat' split
            all_goals first | rfl | omega
      · rw [if_neg (by omega)]
        exact garnerref07_Parse_l1_bad s (fun h => absurd h h11) 5 3 (by omega) (by omega)
theorem insZ_len (acc : List Int) (x : Int) : (name_All.insZ acc x).length = acc.length + 1 := (name_All.insZ_perm acc x).length_eq
theorem garnerref07_All_l0_ev (l : List ByteArray) (kind : Int) (hl : l.length ≤ 60) (hs : ∀ s ∈ l, s.size ≤ 140737488351232) : ∀ (d j : Nat) (acc : List Int), l.length - j = d → j ≤ l.length → acc.length ≤ j →
    Ev (fun k => garnerref07_All.l0 k l kind acc (j : Int)) ((numsK kind (l.drop j)).foldl name_All.insZ acc) := by
  intro d
  induction d with
  | zero =>
    intro j acc hd hj ha
    rw [ev_succ]
    simp only [garnerref07_All.l0, ev_ite]
    rw [if_neg (by omega), ev_some, List.drop_eq_nil_of_le (by omega), numsK]
    rfl
  | succ d ih =>
    intro j acc hd hj ha
    have hjl : j < l.length := by omega
    have hp := garnerref07_Parse_ev l[j] (hs _ (List.getElem_mem hjl))
    have hw : wrap64 ((j : Int) + 1) = ((j + 1 : Nat) : Int) := w64 (by omega) (by omega)
    have hk := parseR_kind (bytesOf l[j])
    rw [ev_succ]
    simp only [garnerref07_All.l0, ev_ite, rdOf_get hjl, hw]
    rw [if_pos (by omega), ev_bind hp, List.drop_eq_getElem_cons hjl, numsK]
    simp only [ev_ite]
    by_cases h1 : (parseR (bytesOf l[j])).1 = 0
    · rw [if_pos h1, if_neg (fun h => by omega)]
      exact ih (j + 1) acc (by omega) (by omega) (by omega)
    · rw [if_neg h1]
      by_cases h2 : (parseR (bytesOf l[j])).1 = kind
      · rw [if_pos h2, if_pos (by omega), if_pos ⟨by omega, h2⟩, List.foldl_cons]
        exact ih (j + 1) _ (by omega) (by omega) (by rw [insZ_len]; omega)
      · rw [if_neg h2, if_neg (fun h => h2 h.2)]
        exact ih (j + 1) acc (by omega) (by omega) (by omega)
theorem garnerref07_All_ev (l : List ByteArray) (kind : Int) (hl : l.length ≤ 60) (hs : ∀ s ∈ l, s.size ≤ 140737488351232) : Ev (fun k => garnerref07_All.f k l kind) (name_All.sortZ (numsK kind l)) := by
  have := garnerref07_All_l0_ev l kind hl hs (l.length - 0) 0 [] rfl (by omega) (by simp)
  rw [List.drop_zero] at this
  exact this
theorem numsK_len (kind : Int) (l : List ByteArray) : (numsK kind l).length ≤ l.length := by
  induction l with
  | nil => exact Nat.le_refl _
  | cons s l ih =>
    rw [numsK]
    split
    · simp only [List.length_cons]; omega
    · simp only [List.length_cons]; omega
theorem NameAll : StNameAll.Pure := by
  intro l kind _ _ hs _
  refine Ev.rounds (g := fun k => garnerlaw07_NameAll.f k l kind) ?_
  have fin : Ev (fun k => (garnerlaw07_awake.f k).bind fun t => some t) true := by rw [ev_bind garnerlaw07_awake_ev, ev_some]
  simp only [garnerlaw07_NameAll.f, ev_ite]
  by_cases h : (l.length : Int) > 60
  · rw [if_pos h]
    exact fin
  rw [if_neg h]
  have hl : l.length ≤ 60 := by omega
  have main : ∀ (d j : Nat), l.length - j = d → j ≤ l.length → Ev (fun k => garnerlaw07_NameAll.l0 k l kind (j : Int)) true := by
    intro d
    induction d with
    | zero =>
      intro j hd hj
      have hlen : (name_All.sortZ (numsK kind l)).length ≤ maxLen := by
        have h1 := (name_All.foldZ (numsK kind l) [] List.Pairwise.nil).2.length_eq
        have h2 := numsK_len kind l
        unfold name_All.sortZ maxLen
        rw [h1]
        simp only [List.nil_append]
        omega
      rw [ev_succ]
      simp only [garnerlaw07_NameAll.l0, ev_ite]
      rw [if_neg (by omega), ev_bind (name_All_ev l kind hl hs), ev_bind (garnerref07_All_ev l kind hl hs), ev_bind (garnerref03_Ints_ev hlen), ev_ite, if_pos (by simp)]
      exact fin
    | succ d ih =>
      intro j hd hj
      have hw : wrap64 ((j : Int) + 1) = ((j + 1 : Nat) : Int) := w64 (by omega) (by omega)
      rw [ev_succ]
      simp only [garnerlaw07_NameAll.l0, ev_ite, hw]
      rw [if_pos (by omega), if_pos (by omega)]
      split
      · exact fin
      · exact ih (j + 1) (by omega) (by omega)
  exact main (l.length - 0) 0 rfl (by omega)
end Go.Proofs.Ytlcajceefhgalaa.Pure
