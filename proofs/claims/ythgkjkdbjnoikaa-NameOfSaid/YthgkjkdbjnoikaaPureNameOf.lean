/- The pure statement of the law NameOf: what the printed functions answer, each by its plain law, and that the law's answer is true. -/
import Derived.Test.YthgkjkdbjnoikaaPNameOfx0
import Derived.Test.YthgkjkdbjnoikaaPNameOfx1
import Derived.Test.YthgkjkdbjnoikaaPNameOfx2
import Derived.Test.YthgkjkdbjnoikaaPNameOfx3
import Derived.Test.YthgkjkdbjnoikaaPNameOfx4
import Derived.Test.YthgkjkdbjnoikaaStNameOf
import Derived.Test.YthgkjkdbjnoikaaSz
import Derived.Test.YthgkjkdbjnoikaaV02
import Derived.Test.YthgkjkdbjnoikaaV07
namespace Go.Proofs.Ythgkjkdbjnoikaa.Pure
open Go.RowKit Go.Proofs.Ythgkjkdbjnoikaa.PNameOf Go.Proofs.Ythgkjkdbjnoikaa.U Go.Proofs.YthgkjkdbjnoikaaW.PrintWords Go.Proofs.YthgkjkdbjnoikaaW.PrintLast Go.Proofs.YthgkjkdbjnoikaaW.PrintMore
set_option linter.unusedVariables false
set_option linter.unusedSimpArgs false
set_option maxRecDepth 4000

theorem set_hole (v : Int) : ∀ (i : Nat) (done : List Int), (List.replicate (i + 1) 0 ++ done).set i v = List.replicate i 0 ++ v :: done := by
  intro i
  induction i with
  | zero => intro done; rfl
  | succ i ih =>
    intro done
    rw [List.replicate_succ, List.cons_append, List.set_cons_succ, ih]
    rfl
theorem name_Of_l0_ev (c : Int) : ∀ (i n : Nat) (done : List Int), i ≤ 10 → n ≤ 2147483647 →
    Ev (fun k => name_Of.l0 k (c :: (List.replicate i 0 ++ done)) (n : Int) (i : Int)) (strOfNums (c :: (digs i n ++ done)), 0) := by
  intro i
  induction i with
  | zero =>
    intro n done hi hn
    rw [ev_succ]
    simp only [name_Of.l0, ev_ite]
    rw [if_neg (by omega), ev_some]
    rfl
  | succ i ih =>
    intro n done hi hn
    rw [ev_succ]
    simp only [name_Of.l0, ev_ite]
    have e1 : wrap64 (48 + Int.tmod (n : Int) 10) % 256 = ((48 + n % 10 : Nat) : Int) := by
      rw [Int.tmod_eq_emod_of_nonneg (by omega), w64 (by omega) (by omega)]
      omega
    have e2 : wrap64 (Int.tdiv (n : Int) 10) = ((n / 10 : Nat) : Int) := by
      rw [Int.tdiv_eq_ediv_of_nonneg (by omega), w64 (by omega) (by omega)]
      rfl
    have e3 : wrap64 (((i + 1 : Nat) : Int) - 1) = (i : Int) := by
      rw [w64 (by omega) (by omega)]
      omega
    rw [if_pos (by omega), if_pos (by omega), if_pos (by simp only [List.length_cons, List.length_append, List.length_replicate]; omega), e1, e2, e3, Int.toNat_natCast, List.set_cons_succ, set_hole]
    refine ev_eq (ih (n / 10) (((48 + n % 10 : Nat) : Int) :: done) (by omega) (by omega)) ?_
    rw [digs, List.append_assoc]
    rfl
theorem name_Of_ev (kind n : Int) (hk : -9223372036854775808 ≤ kind ∧ kind ≤ 9223372036854775807) : Ev (fun k => name_Of.f k kind n) (nameR kind n) := by
  simp only [name_Of.f, ev_ite, nameR, Option.bind_some]
  by_cases h1 : kind = 1 ∧ n = 0
  · rw [if_pos (by simp [h1]), if_pos h1, ev_some]
  · rw [if_neg (by simpa using h1), if_neg h1]
    by_cases h2 : kind = 2 ∧ n = 0
    · rw [if_pos (by simp [h2]), if_pos h2, ev_some]
    · rw [if_neg (by simpa using h2), if_neg h2]
      by_cases h3 : kind < 3 ∨ 7 < kind ∨ n < 1 ∨ 2147483647 < n
      · rw [if_pos h3]
        repeat' split
        all_goals first | (rw [ev_some]) | omega
      · rw [if_neg h3, if_neg (by omega), if_neg (by omega), if_neg (by omega), if_neg (by omega), if_pos (by omega), w64 (by omega) (by omega), if_pos (by omega), if_pos (by omega), if_pos (by simp)]
        have e : (n.toNat : Int) = n := by omega
        have := name_Of_l0_ev (bt (⟨#[118, 119, 116, 115, 109]⟩ : ByteArray) (kind - 3)) 10 n.toNat [] (by omega) (by omega)
        rw [e, List.append_nil, List.append_nil] at this
        exact this

theorem garnerlaw07_awake_ev : Ev (fun k => garnerlaw07_awake.f k) true := Ev.of (fun k => garnerlaw07_awake.mono k) (k := 40) (by decide +kernel)

theorem digit_str : ∀ d : Fin 10, rdOf ByteArray.empty ([(⟨#[48]⟩ : ByteArray), (⟨#[49]⟩ : ByteArray), (⟨#[50]⟩ : ByteArray), (⟨#[51]⟩ : ByteArray), (⟨#[52]⟩ : ByteArray), (⟨#[53]⟩ : ByteArray), (⟨#[54]⟩ : ByteArray), (⟨#[55]⟩ : ByteArray), (⟨#[56]⟩ : ByteArray), (⟨#[57]⟩ : ByteArray)] : List ByteArray) (d.val : Int) = strOfNums [((48 + d.val : Nat) : Int)] := by decide +kernel
theorem letter_str : ∀ d : Fin 5, rdOf ByteArray.empty ([(⟨#[118]⟩ : ByteArray), (⟨#[119]⟩ : ByteArray), (⟨#[116]⟩ : ByteArray), (⟨#[115]⟩ : ByteArray), (⟨#[109]⟩ : ByteArray)] : List ByteArray) (d.val : Int) = strOfNums [bt (⟨#[118, 119, 116, 115, 109]⟩ : ByteArray) (d.val : Int)] := by decide +kernel
theorem garnerref07_Of_l0_ev (kind num : Int) (hk : 3 ≤ kind ∧ kind ≤ 7) (n : Nat) (hn : n ≤ 2147483647) : ∀ (d i : Nat), i + d = 10 →
    Ev (fun k => garnerref07_Of.l0 k (strOfNums (digs i n)) ((n / 10 ^ i : Nat) : Int) (i : Int) kind num) (strOfNums (bt (⟨#[118, 119, 116, 115, 109]⟩ : ByteArray) (kind - 3) :: digs 10 n)) := by
  intro d
  induction d with
  | zero =>
    intro i hi
    have : i = 10 := by omega
    subst this
    rw [ev_succ]
    simp only [garnerref07_Of.l0, ev_ite, Option.bind_some]
    have hl := letter_str ⟨(kind - 3).toNat, by omega⟩
    simp only [Int.toNat_of_nonneg (show 0 ≤ kind - 3 by omega)] at hl
    rw [if_neg (by omega), w64 (by omega) (by omega), if_pos (by omega), if_pos (by simp; omega), hl, if_pos (by rw [str_size, str_size, digs_len]; simp), ev_some, str_append]
    rfl
  | succ d ih =>
    intro i hi
    have hle : n / 10 ^ i ≤ n := Nat.div_le_self _ _
    have hnx : n / 10 ^ (i + 1) = n / 10 ^ i / 10 := by rw [Nat.pow_succ, ← Nat.div_div_eq_div_mul]
    have := ih (i + 1) (by omega)
    rw [digs_front, hnx] at this
    generalize n / 10 ^ i = q at hle this ⊢
    rw [ev_succ]
    simp only [garnerref07_Of.l0, ev_ite, Option.bind_some]
    have hd := digit_str ⟨q % 10, by omega⟩
    simp only at hd
    have e1 : Int.tmod (q : Int) 10 = ((q % 10 : Nat) : Int) := by
      rw [Int.tmod_eq_emod_of_nonneg (by omega)]
      rfl
    have e2 : Int.tdiv (q : Int) 10 = ((q / 10 : Nat) : Int) := by
      rw [Int.tdiv_eq_ediv_of_nonneg (by omega)]
      rfl
    rw [if_pos (by omega), e1, e2, if_pos (by omega), if_pos (by simp; omega), hd, if_pos (by rw [str_size, str_size, digs_len]; simp; omega), w64 (by omega) (by omega), w64 (by omega) (by omega), str_append]
    exact this
theorem garnerref07_Of_ev (kind n : Int) (hk : -9223372036854775808 ≤ kind ∧ kind ≤ 9223372036854775807) : Ev (fun k => garnerref07_Of.f k kind n) (nameR kind n).1 := by
  have h2 : ∀ b : Bool, b = decide (kind < 3 ∨ 7 < kind ∨ n < 1 ∨ 2147483647 < n) → Ev (fun k => garnerref07_Of.j2 k b kind n) (if kind < 3 ∨ 7 < kind ∨ n < 1 ∨ 2147483647 < n then (⟨#[]⟩ : ByteArray) else strOfNums (bt (⟨#[118, 119, 116, 115, 109]⟩ : ByteArray) (kind - 3) :: digs 10 n.toNat)) := by
    intro b hb
    rw [ev_succ]
    simp only [garnerref07_Of.j2, ev_ite, hb, decide_eq_true_eq]
    by_cases h : kind < 3 ∨ 7 < kind ∨ n < 1 ∨ 2147483647 < n
    · rw [if_pos h, if_pos h, ev_some]
    · rw [if_neg h, if_neg h]
      have := garnerref07_Of_l0_ev kind n (by omega) n.toNat (by omega) 10 0 (by omega)
      simp only [Nat.pow_zero, Nat.div_one] at this
      rw [Int.toNat_of_nonneg (by omega)] at this
      exact this
  have h1 : ∀ b : Bool, b = decide (kind = 2 ∧ n = 0) → Ev (fun k => garnerref07_Of.j1 k b kind n) (if kind = 2 ∧ n = 0 then (⟨#[114, 111, 115, 116, 101, 114, 46, 110, 101, 119]⟩ : ByteArray) else if kind < 3 ∨ 7 < kind ∨ n < 1 ∨ 2147483647 < n then (⟨#[]⟩ : ByteArray) else strOfNums (bt (⟨#[118, 119, 116, 115, 109]⟩ : ByteArray) (kind - 3) :: digs 10 n.toNat)) := by
    intro b hb
    rw [ev_succ]
    simp only [garnerref07_Of.j1, ev_ite, hb, decide_eq_true_eq]
    by_cases h : kind = 2 ∧ n = 0
    · rw [if_pos h, if_pos h, ev_some]
    · rw [if_neg h, if_neg h]
      by_cases c1 : kind < 3
      · rw [if_pos c1]; exact h2 true (by simp [c1])
      · rw [if_neg c1]
        by_cases c2 : kind > 7
        · rw [if_pos c2]; exact h2 true (by simp; omega)
        · rw [if_neg c2]
          by_cases c3 : n < 1
          · rw [if_pos c3]; exact h2 true (by simp [c3])
          · rw [if_neg c3]; exact h2 _ (by rw [Bool.eq_iff_iff]; simp only [decide_eq_true_eq]; omega)
  have h0 : ∀ b : Bool, b = decide (kind = 1 ∧ n = 0) → Ev (fun k => garnerref07_Of.j0 k b kind n) (nameR kind n).1 := by
    intro b hb
    rw [ev_succ]
    simp only [garnerref07_Of.j0, ev_ite, hb, decide_eq_true_eq, nameR]
    by_cases h : kind = 1 ∧ n = 0
    · rw [if_pos h, if_pos h, ev_some]
    · rw [if_neg h, if_neg h]
      have hfin : ∀ b : Bool, b = decide (kind = 2 ∧ n = 0) → Ev (fun k => garnerref07_Of.j1 k b kind n) (if kind = 2 ∧ n = 0 then ((⟨#[114, 111, 115, 116, 101, 114, 46, 110, 101, 119]⟩ : ByteArray), (0 : Int)) else if kind < 3 ∨ 7 < kind ∨ n < 1 ∨ 2147483647 < n then ((⟨#[]⟩ : ByteArray), (1 : Int)) else (strOfNums (bt (⟨#[118, 119, 116, 115, 109]⟩ : ByteArray) (kind - 3) :: digs 10 n.toNat), (0 : Int))).1 := by
        intro b hb
        refine ev_eq (h1 b hb) ?_
        repeat' split
        all_goals rfl
      by_cases c : kind = 2
      · rw [if_pos c]
        exact hfin _ (by rw [Bool.eq_iff_iff]; simp [c])
      · rw [if_neg c]
        exact hfin false (by simp [c])
  simp only [garnerref07_Of.f, ev_ite]
  by_cases c : kind = 1
  · rw [if_pos c]
    exact h0 _ (by rw [Bool.eq_iff_iff]; simp [c])
  · rw [if_neg c]
    exact h0 false (by simp [c])

theorem letIdx_all : ∀ c : Fin 256, Lib.indexByte [118, 119, 116, 115, 109] (c.val.toUInt8) = letIdx (c.val : Int) := by decide +kernel
theorem strings_IndexByte_letters {c : Int} (h0 : 0 ≤ c) (h1 : c ≤ 255) : strings_IndexByte.f (⟨#[118, 119, 116, 115, 109]⟩ : ByteArray) c = some (letIdx c) := by
  unfold strings_IndexByte.f
  obtain ⟨n, rfl⟩ := Int.eq_ofNat_of_zero_le h0
  have := letIdx_all ⟨n, by omega⟩
  simp only at this
  rw [← this]
  rfl

theorem name_Parse_l0_ev (s : ByteArray) (hs : s.size = 11) (x : Int) (hx : -1 ≤ x ∧ x ≤ 4) : ∀ (d i acc : Nat), i + d = 11 → 1 ≤ i → acc < 10 ^ (i - 1) →
    Ev (fun k => name_Parse.l0 k s x (acc : Int) (i : Int)) (match numAcc acc ((bytesOf s).drop i) with
      | none => (0, 0, false)
      | some n => if x < 0 ∨ n < 1 ∨ 2147483647 < n then (0, 0, false) else (3 + x, (n : Int), true)) := by
  have hl : (bytesOf s).length = 11 := by rw [bytesOf_length, hs]
  intro d
  induction d with
  | zero =>
    intro i acc hd hi hacc
    have : i = 11 := by omega
    subst this
    rw [ev_succ]
    simp only [name_Parse.l0, ev_ite]
    rw [if_neg (by omega), List.drop_eq_nil_of_le (by omega)]
    simp only [numAcc]
    rw [w64 (by omega) (by omega)]
    simp only [ev_some]
    repeat' split
    all_goals first | rfl | omega
  | succ d ih =>
    intro i acc hd hi hacc
    have hb := (bytesOf_range s).rd (i := (i : Int)) (by omega) (by omega)
    have hp : 10 ^ (i - 1) ≤ 10 ^ 9 := Nat.pow_le_pow_right (by omega) (by omega)
    have hp2 : 10 ^ (i + 1 - 1) = 10 * 10 ^ (i - 1) := by
      obtain ⟨m, rfl⟩ : ∃ m, i = m + 1 := ⟨i - 1, by omega⟩
      simp only [Nat.add_sub_cancel]
      rw [Nat.pow_succ, Nat.mul_comm]
    rw [ev_succ]
    simp only [name_Parse.l0, ev_ite]
    rw [if_pos (by omega), if_pos (by omega), if_pos (by omega), drop_eq (xs := bytesOf s) (i := i) (by omega), numAcc, ← rd_bytesOf]
    by_cases h1 : rd (bytesOf s) (i : Int) < 48
    · rw [if_pos h1, if_pos (.inl h1), ev_some]
    · by_cases h2 : rd (bytesOf s) (i : Int) > 57
      · rw [if_neg h1, if_pos h2, if_pos (.inr h2), ev_some]
      · have e : wrap64 (wrap64 (10 * (acc : Int)) + (rd (bytesOf s) (i : Int) - 48) % 256) = ((10 * acc + (rd (bytesOf s) (i : Int) - 48).toNat : Nat) : Int) := by
          rw [w64 (x := 10 * (acc : Int)) (by omega) (by omega), w64 (by omega) (by omega)]
          omega
        rw [if_neg h1, if_neg h2, if_neg (by omega), e, w64 (by omega) (by omega)]
        exact ih (i + 1) _ (by omega) (by omega) (by omega)
theorem letIdx_range (c : Int) : -1 ≤ letIdx c ∧ letIdx c ≤ 4 := by
  unfold letIdx
  repeat' split
  all_goals omega
theorem name_Parse_ev (s : ByteArray) (hs : s.size ≤ 140737488351232) : Ev (fun k => name_Parse.f k s) ((parseR (bytesOf s)).1, (parseR (bytesOf s)).2, decide (0 < (parseR (bytesOf s)).1)) := by
  have hl : (bytesOf s).length = s.size := bytesOf_length s
  have e1 : (s.toList = ([114, 111, 115, 116, 101, 114] : List UInt8)) ↔ bytesOf s = rosterB := toList_lit s rosterB (by intro x hx; simp [rosterB] at hx; omega)
  have e2 : (s.toList = ([114, 111, 115, 116, 101, 114, 46, 110, 101, 119] : List UInt8)) ↔ bytesOf s = freshB := toList_lit s freshB (by intro x hx; simp [freshB] at hx; omega)
  simp only [name_Parse.f, ev_ite, e1, e2]
  by_cases h1 : bytesOf s = rosterB
  · have e : parseR (bytesOf s) = (1, 0) := by rw [parseR, if_pos h1]
    simp only [e]
    rw [if_pos h1, ev_some]
    rfl
  · rw [if_neg h1]
    by_cases h2 : bytesOf s = freshB
    · have e : parseR (bytesOf s) = (2, 0) := by rw [parseR, if_neg h1, if_pos h2]
      simp only [e]
      rw [if_pos h2, ev_some]
      rfl
    · rw [if_neg h2]
      by_cases h11 : s.size = 11
      · have hb := (bytesOf_range s).rd (i := 0) (by omega) (by omega)
        rw [if_pos (by omega), if_pos (by omega), ← rd_bytesOf, ev_bind_c (strings_IndexByte_letters hb.1 hb.2)]
        have hr := letIdx_range (rd (bytesOf s) 0)
        refine ev_eq (name_Parse_l0_ev s h11 _ hr 10 1 0 (by omega) (by omega) (by omega)) ?_
        have e : parseR (bytesOf s) = parse11 (bytesOf s) := by
          rw [parseR, if_neg h1, if_neg h2, if_pos (by omega)]
        simp only [e, parse11]
        cases numAcc 0 ((bytesOf s).drop 1) with
        | none => rfl
        | some n =>
          simp only
          split
          · rfl
          · simp only [Prod.mk.injEq, true_and]
            symm
            rw [decide_eq_true_eq]
            omega
      · have e : parseR (bytesOf s) = (0, 0) := by rw [parseR, if_neg h1, if_neg h2, if_neg (by omega)]
        simp only [e]
        rw [if_neg (by omega), ev_some]
        rfl

theorem parseR_name {kind n : Int} (h : (nameR kind n).2 = 0) : parseR (bytesOf (nameR kind n).1) = (kind, n) := by
  unfold nameR at h ⊢
  by_cases h1 : kind = 1 ∧ n = 0
  · rw [if_pos h1]
    have e : bytesOf (⟨#[114, 111, 115, 116, 101, 114]⟩ : ByteArray) = rosterB := by decide
    rw [e, parseR, if_pos rfl, h1.1, h1.2]
  · rw [if_neg h1] at h ⊢
    by_cases h2 : kind = 2 ∧ n = 0
    · rw [if_pos h2]
      have e : bytesOf (⟨#[114, 111, 115, 116, 101, 114, 46, 110, 101, 119]⟩ : ByteArray) = freshB := by decide
      rw [e, parseR, if_neg (by decide), if_pos rfl, h2.1, h2.2]
    · rw [if_neg h2] at h ⊢
      by_cases h3 : kind < 3 ∨ 7 < kind ∨ n < 1 ∨ 2147483647 < n
      · rw [if_pos h3] at h
        simp at h
      · rw [if_neg h3]
        have hbr := bt_range (⟨#[118, 119, 116, 115, 109]⟩ : ByteArray) (kind - 3)
        have hbytes : Bytes (bt (⟨#[118, 119, 116, 115, 109]⟩ : ByteArray) (kind - 3) :: digs 10 n.toNat) := by
          intro y hy
          rcases List.mem_cons.1 hy with rfl | hy
          · exact hbr
          · exact digs_bytes 10 _ y hy
        simp only [bytes_str hbytes]
        have hl : (bt (⟨#[118, 119, 116, 115, 109]⟩ : ByteArray) (kind - 3) :: digs 10 n.toNat).length = 11 := by rw [List.length_cons, digs_len]
        have l1 : rosterB.length = 6 := rfl
        have l2 : freshB.length = 10 := rfl
        have hli : letIdx (bt (⟨#[118, 119, 116, 115, 109]⟩ : ByteArray) (kind - 3)) = kind - 3 := (letter_iff (by omega) hbr).1 rfl
        have hacc : ∀ (k m a : Nat), m < 10 ^ k → numAcc a (digs k m) = some (a * 10 ^ k + m) := by
          intro k
          induction k with
          | zero => intro m a hm; simp [digs, numAcc]; simp at hm; omega
          | succ k ih =>
            intro m a hm
            have hlt : m % 10 ^ k < 10 ^ k := Nat.mod_lt _ (Nat.pow_pos (by omega))
            have hdm : ∀ k m : Nat, digs k (m % 10 ^ k) = digs k m := by
              intro k
              induction k with
              | zero => intro m; rfl
              | succ k ih2 =>
                intro m
                rw [digs, digs, ← ih2 (m / 10), ← ih2 (m % 10 ^ (k + 1) / 10)]
                have e1 : m % 10 ^ (k + 1) / 10 % 10 ^ k = m / 10 % 10 ^ k := by
                  rw [Nat.pow_succ, Nat.mul_comm, Nat.mod_mul_right_div_self, Nat.mod_mod]
                have e2 : m % 10 ^ (k + 1) % 10 = m % 10 := by
                  rw [Nat.pow_succ, Nat.mod_mul_left_mod]
                rw [e1, e2]
            have hq : m / 10 ^ k < 10 := by
              rw [Nat.div_lt_iff_lt_mul (Nat.pow_pos (by omega)), Nat.mul_comm, ← Nat.pow_succ]
              exact hm
            rw [digs_front, numAcc, if_neg (by generalize m / 10 ^ k = q; omega), ← hdm k m, ih _ _ hlt]
            congr 1
            have e3 : (((48 + m / 10 ^ k % 10 : Nat) : Int) - 48).toNat = m / 10 ^ k := by
              generalize m / 10 ^ k = q at hq ⊢
              omega
            rw [e3, Nat.add_mul, Nat.pow_succ]
            have h4 := Nat.div_add_mod m (10 ^ k)
            have h5 : 10 * a * 10 ^ k = a * (10 ^ k * 10) := by
              rw [Nat.mul_comm 10 a, Nat.mul_assoc, Nat.mul_comm 10]
            rw [h5, Nat.mul_comm (m / 10 ^ k)]
            omega
        unfold parseR
        rw [if_neg (fun h => by rw [h] at hl; omega), if_neg (fun h => by rw [h] at hl; omega), if_pos hl]
        have ed : (bt (⟨#[118, 119, 116, 115, 109]⟩ : ByteArray) (kind - 3) :: digs 10 n.toNat).drop 1 = digs 10 n.toNat := rfl
        have er : rd (bt (⟨#[118, 119, 116, 115, 109]⟩ : ByteArray) (kind - 3) :: digs 10 n.toNat) 0 = bt (⟨#[118, 119, 116, 115, 109]⟩ : ByteArray) (kind - 3) := rfl
        rw [parse11, ed, er, hacc 10 n.toNat 0 (by omega), hli]
        simp only
        rw [if_neg (by omega)]
        simp only [Prod.mk.injEq]
        omega
theorem nameR_err (kind n : Int) : ((nameR kind n).2 = 0 ∧ (nameR kind n).1.size ≤ 11 ∧ 6 ≤ (nameR kind n).1.size) ∨ ((nameR kind n).2 = 1 ∧ (nameR kind n).1 = ⟨#[]⟩) := by
  unfold nameR
  repeat' split
  · exact .inl ⟨rfl, by simp [ByteArray.size], by simp [ByteArray.size]⟩
  · exact .inl ⟨rfl, by simp [ByteArray.size], by simp [ByteArray.size]⟩
  · exact .inr ⟨rfl, rfl⟩
  · refine .inl ⟨rfl, ?_, ?_⟩ <;> (simp only [str_size, List.length_cons, digs_len]; omega)
theorem NameOf : StNameOf.Pure := by
  intro kind n hk hn
  have hk := wf_i64 hk
  have hn := wf_i64 hn
  refine Ev.rounds (g := fun k => garnerlaw07_NameOf.f k kind n) ?_
  simp only [garnerlaw07_NameOf.f]
  rw [ev_bind (name_Of_ev kind n hk), ev_bind (garnerref07_Of_ev kind n hk), ev_ite]
  rcases nameR_err kind n with ⟨h1, h2, h3⟩ | ⟨h1, h2⟩
  · have hne : ¬ (nameR kind n).1.toList = ([] : List UInt8) := by
      intro h
      rw [ByteArray.toList_eq] at h
      have := congrArg List.length h
      rw [data_length, List.length_nil] at this
      omega
    have hp := parseR_name h1
    have hev : Ev (fun k => name_Parse.f k (nameR kind n).1) (kind, n, true) := by
      refine ev_eq (name_Parse_ev _ (by omega)) ?_
      rw [hp]
      have : 0 < kind := by
        unfold nameR at h1
        by_cases c1 : kind = 1 ∧ n = 0
        · omega
        · rw [if_neg c1] at h1
          by_cases c2 : kind = 2 ∧ n = 0
          · omega
          · rw [if_neg c2] at h1
            by_cases c3 : kind < 3 ∨ 7 < kind ∨ n < 1 ∨ 2147483647 < n
            · rw [if_pos c3] at h1; simp at h1
            · omega
      simp [this]
    rw [if_neg hne, ev_bind hev, ev_ite, if_pos h1, ev_ite, if_pos rfl, ev_ite, if_pos rfl, ev_ite, if_pos (by simp), ev_bind garnerlaw07_awake_ev, ev_some]
  · have hnil : (⟨#[]⟩ : ByteArray).toList = ([] : List UInt8) := by
      rw [ByteArray.toList_eq]
    rw [h2, if_pos hnil, ev_ite, if_pos h1, ev_ite, if_pos hnil, ev_bind garnerlaw07_awake_ev, ev_some]

end Go.Proofs.Ythgkjkdbjnoikaa.Pure
