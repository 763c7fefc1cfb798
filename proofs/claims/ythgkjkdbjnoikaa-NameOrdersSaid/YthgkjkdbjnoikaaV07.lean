/- The plain law of layer 7: a number's digits, and their order; no program in sight. -/
import Derived.Test.YthgkjkdbjnoikaaEv
import Derived.Tactics
namespace Go.Proofs.Ythgkjkdbjnoikaa.U
open Go.RowKit Go.Proofs.YthgkjkdbjnoikaaW.PrintWords

/-- A number's last digits, so many. -/
def digs : Nat → Nat → List Int
  | 0, _ => []
  | k + 1, n => digs k (n / 10) ++ [((48 + n % 10 : Nat) : Int)]
theorem digs_len (k : Nat) : ∀ n, (digs k n).length = k := by
  induction k with
  | zero => intro n; rfl
  | succ k ih => intro n; rw [digs, List.length_append, ih]; rfl
theorem digs_range (k : Nat) : ∀ n, ∀ c ∈ digs k n, 48 ≤ c ∧ c ≤ 57 := by
  induction k with
  | zero => intro n c h; simp [digs] at h
  | succ k ih =>
    intro n c h
    rw [digs] at h
    rcases List.mem_append.1 h with h | h
    · exact ih _ c h
    · rw [List.mem_singleton.1 h]
      omega
/-- The same, as bytes. -/
def u8s (l : List Int) : List UInt8 := l.map fun n => UInt8.ofNat n.toNat
theorem u8s_append (a b : List Int) : u8s (a ++ b) = u8s a ++ u8s b := by simp [u8s]
theorem less_snoc : ∀ (x y : List UInt8) (a b : UInt8), x.length = y.length → Op.bytesLess (x ++ [a]) (y ++ [b]) = (Op.bytesLess x y || (x == y && decide (a < b))) := by
  intro x
  induction x with
  | nil =>
    intro y a b h
    have : y = [] := List.eq_nil_of_length_eq_zero (by simpa using h.symm)
    subst this
    simp [Op.bytesLess]
  | cons c x ih =>
    intro y a b h
    match y, h with
    | d :: y, h =>
      simp only [List.cons_append, Op.bytesLess]
      rw [ih y a b (by simpa using h)]
      by_cases hcd : c = d
      · subst hcd
        simp
      · have : (c == d) = false := by simpa using hcd
        simp [this]
theorem u8_lt {a b : Nat} (ha : a < 256) (hb : b < 256) : (UInt8.ofNat a < UInt8.ofNat b) ↔ a < b := by
  rw [UInt8.lt_iff_toNat_lt, UInt8.toNat_ofNat', UInt8.toNat_ofNat', Nat.mod_eq_of_lt ha, Nat.mod_eq_of_lt hb]
theorem u8_eq {a b : Nat} (ha : a < 256) (hb : b < 256) : (UInt8.ofNat a = UInt8.ofNat b) ↔ a = b := by
  rw [← UInt8.toNat_inj, UInt8.toNat_ofNat', UInt8.toNat_ofNat', Nat.mod_eq_of_lt ha, Nat.mod_eq_of_lt hb]
theorem snoc_inj (x y : List UInt8) (a b : UInt8) : x ++ [a] = y ++ [b] ↔ x = y ∧ a = b := by
  constructor
  · intro h
    have := List.append_inj' h rfl
    exact ⟨this.1, by simpa using this.2⟩
  · rintro ⟨rfl, rfl⟩
    rfl
theorem digs_eq (k : Nat) : ∀ n m, n < 10 ^ k → m < 10 ^ k → (u8s (digs k n) = u8s (digs k m) ↔ n = m) := by
  induction k with
  | zero => intro n m hn hm; simp [digs, u8s]; omega
  | succ k ih =>
    intro n m hn hm
    rw [digs, digs, u8s_append, u8s_append]
    rw [Nat.pow_succ] at hn hm
    have h := ih (n / 10) (m / 10) (by omega) (by omega)
    have e : ∀ c : Nat, u8s [((48 + c % 10 : Nat) : Int)] = [UInt8.ofNat (48 + c % 10)] := fun c => rfl
    rw [e, e, snoc_inj, h, u8_eq (by omega) (by omega)]
    omega
theorem digs_less (k : Nat) : ∀ n m, n < 10 ^ k → m < 10 ^ k → Op.bytesLess (u8s (digs k n)) (u8s (digs k m)) = decide (n < m) := by
  induction k with
  | zero => intro n m hn hm; simp [digs, u8s, Op.bytesLess]; omega
  | succ k ih =>
    intro n m hn hm
    rw [digs, digs, u8s_append, u8s_append]
    rw [Nat.pow_succ] at hn hm
    have e : ∀ c : Nat, u8s [((48 + c % 10 : Nat) : Int)] = [UInt8.ofNat (48 + c % 10)] := fun c => rfl
    rw [e, e, less_snoc _ _ _ _ (by simp [u8s, digs_len]), ih (n / 10) (m / 10) (by omega) (by omega), Bool.eq_iff_iff]
    simp only [Bool.or_eq_true, Bool.and_eq_true, decide_eq_true_eq, beq_iff_eq]
    rw [digs_eq k _ _ (by omega) (by omega), u8_lt (by omega) (by omega)]
    omega
theorem bytesLess_cons (c : UInt8) (x y : List UInt8) : Op.bytesLess (c :: x) (c :: y) = Op.bytesLess x y := by
  simp [Op.bytesLess]
theorem bytesLess_self (x : List UInt8) : Op.bytesLess x x = false := by
  induction x with
  | nil => rfl
  | cons c x ih => rw [bytesLess_cons, ih]
/-- A name: its letter, and its number's ten digits. -/
def nameR (kind n : Int) : ByteArray × Int :=
  if kind = 1 ∧ n = 0 then (⟨#[114, 111, 115, 116, 101, 114]⟩, 0)
  else if kind = 2 ∧ n = 0 then (⟨#[114, 111, 115, 116, 101, 114, 46, 110, 101, 119]⟩, 0)
  else if kind < 3 ∨ 7 < kind ∨ n < 1 ∨ 2147483647 < n then (⟨#[]⟩, 1)
  else (strOfNums (bt (⟨#[118, 119, 116, 115, 109]⟩ : ByteArray) (kind - 3) :: digs 10 n.toNat), 0)
theorem strOfNums_toList (l : List Int) : (strOfNums l).toList = u8s l := by
  rw [ByteArray.toList_eq]
  simp [strOfNums, u8s]
end Go.Proofs.Ythgkjkdbjnoikaa.U
