/- The plain law of layer 7: a number's digits, and their order; no program in sight. -/
import Derived.Test.YtlcajceefhgalaaQEv
import Derived.Tactics
namespace Go.Proofs.Ytlcajceefhgalaa.U
open Go.RowKit Go.Proofs.YtlcajceefhgalaaW.PrintWords
def digs : Nat → Nat → List Int
  | 0, _ => []
  | k + 1, n => digs k (n / 10) ++ [((48 + n % 10 : Nat) : Int)]
theorem digs_len (k : Nat) : ∀ n, (digs k n).length = k := by
  induction k with
  | zero => intro n; rfl
  | succ k ih => intro n; rw [digs, List.length_append, ih]; rfl
theorem digs_range (k : Nat) : ∀ n, ∀ c ∈ digs k n, 48 ≤ c ∧ c ≤ 57 := by
  induction k with
  | zero => intro n c h; simp [digs] at h
  | succ k ih =>
    intro n c h
    rw [digs] at h
    rcases List.mem_append.1 h with h | h
    · exact ih _ c h
    · rw [List.mem_singleton.1 h]
      omega
def u8s (l : List Int) : List UInt8 := l.map fun n => UInt8.ofNat n.toNat
def nameR (kind n : Int) : ByteArray × Int :=
  if kind = 1 ∧ n = 0 then (⟨#[114, 111, 115, 116, 101, 114]⟩, 0)
  else if kind = 2 ∧ n = 0 then (⟨#[114, 111, 115, 116, 101, 114, 46, 110, 101, 119]⟩, 0)
  else if kind < 3 ∨ 7 < kind ∨ n < 1 ∨ 2147483647 < n then (⟨#[]⟩, 1)
  else (strOfNums (bt (⟨#[118, 119, 116, 115, 109]⟩ : ByteArray) (kind - 3) :: digs 10 n.toNat), 0)
theorem strOfNums_toList (l : List Int) : (strOfNums l).toList = u8s l := by
  rw [ByteArray.toList_eq]
  simp [strOfNums, u8s]
theorem strOfNums_data (l : List Int) : (strOfNums l).data.toList = u8s l := by
  simp [strOfNums, u8s]
theorem u8s_bytes (s : ByteArray) : u8s (bytesOf s) = s.data.toList := by
  unfold u8s bytesOf
  rw [List.map_map]
  conv => rhs; rw [← List.map_id s.data.toList]
  apply List.map_congr_left
  intro b _
  simp
theorem bytesOf_range (s : ByteArray) : Bytes (bytesOf s) := by
  intro x hx
  unfold bytesOf at hx
  obtain ⟨b, _, rfl⟩ := List.mem_map.1 hx
  have := b.toNat_lt
  omega
theorem bytes_str {l : List Int} (h : Bytes l) : bytesOf (strOfNums l) = l := by
  unfold bytesOf
  rw [strOfNums_data]
  unfold u8s
  rw [List.map_map]
  conv => rhs; rw [← List.map_id l]
  apply List.map_congr_left
  intro x hx
  have := h x hx
  simp
  omega
theorem str_size (l : List Int) : (strOfNums l).size = l.length := by
  rw [← data_length, strOfNums_data]
  simp [u8s]
theorem str_append (a b : List Int) : strOfNums a ++ strOfNums b = strOfNums (a ++ b) := by
  have : (strOfNums a ++ strOfNums b).data = (strOfNums (a ++ b)).data := by
    rw [ByteArray.data_append]
    simp [strOfNums]
  exact ByteArray.ext this
theorem toList_eq_iff (s t : ByteArray) : s.toList = t.toList ↔ bytesOf s = bytesOf t := by
  rw [ByteArray.toList_eq, ByteArray.toList_eq]
  constructor
  · intro h
    unfold bytesOf
    rw [h]
  · intro h
    have := congrArg u8s h
    rw [u8s_bytes, u8s_bytes] at this
    exact this
theorem toList_lit (s : ByteArray) (l : List Int) (h : Bytes l) : s.toList = u8s l ↔ bytesOf s = l := by
  have := toList_eq_iff s (strOfNums l)
  rw [strOfNums_toList, bytes_str h] at this
  exact this
theorem digs_front (k : Nat) : ∀ n, digs (k + 1) n = ((48 + n / 10 ^ k % 10 : Nat) : Int) :: digs k n := by
  induction k with
  | zero => intro n; simp [digs]
  | succ k ih =>
    intro n
    rw [digs, ih (n / 10)]
    conv => rhs; rw [digs]
    rw [List.cons_append, Nat.div_div_eq_div_mul, Nat.pow_succ, Nat.mul_comm 10]
theorem digs_bytes (k n : Nat) : Bytes (digs k n) := fun c h => by have := digs_range k n c h; omega
def numAcc : Nat → List Int → Option Nat
  | a, [] => some a
  | a, c :: r => if c < 48 ∨ 57 < c then none else numAcc (10 * a + (c - 48).toNat) r
theorem numAcc_digs : ∀ (d : List Int) (a n : Nat), numAcc a d = some n → digs d.length n = d ∧ n / 10 ^ d.length = a := by
  intro d
  induction d with
  | nil => intro a n h; simp [numAcc] at h; simp [digs, h]
  | cons c r ih =>
    intro a n h
    rw [numAcc] at h
    split at h
    · cases h
    · obtain ⟨h1, h2⟩ := ih _ _ h
      rw [List.length_cons, digs_front, h1, h2, Nat.pow_succ, ← Nat.div_div_eq_div_mul, h2]
      refine ⟨?_, by omega⟩
      congr 1
      omega
def letIdx (c : Int) : Int := if c = 118 then 0 else if c = 119 then 1 else if c = 116 then 2 else if c = 115 then 3 else if c = 109 then 4 else -1
theorem letter_idx : ∀ (d : Fin 5) (x : Fin 256), bt (⟨#[118, 119, 116, 115, 109]⟩ : ByteArray) (d.val : Int) = (x.val : Int) ↔ letIdx (x.val : Int) = (d.val : Int) := by decide +kernel
theorem letter_iff {c x : Int} (h : 3 ≤ c ∧ c ≤ 7) (hx : 0 ≤ x ∧ x ≤ 255) : bt (⟨#[118, 119, 116, 115, 109]⟩ : ByteArray) (c - 3) = x ↔ letIdx x = c - 3 := by
  have := letter_idx ⟨(c - 3).toNat, by omega⟩ ⟨x.toNat, by omega⟩
  simp only [Int.toNat_of_nonneg (show 0 ≤ c - 3 by omega), Int.toNat_of_nonneg hx.1] at this
  exact this
def rosterB : List Int := [114, 111, 115, 116, 101, 114]
def freshB : List Int := [114, 111, 115, 116, 101, 114, 46, 110, 101, 119]
def parse11 (b : List Int) : Int × Int := match numAcc 0 (b.drop 1) with
  | none => (0, 0)
  | some n => if letIdx (rd b 0) < 0 ∨ n < 1 ∨ 2147483647 < n then (0, 0) else (3 + letIdx (rd b 0), (n : Int))
def parseR (b : List Int) : Int × Int :=
  if b = rosterB then (1, 0) else if b = freshB then (2, 0)
  else if b.length = 11 then parse11 b else (0, 0)
theorem parseR_kind (b : List Int) : (parseR b).1 = 0 ∨ 0 < (parseR b).1 := by
  unfold parseR parse11
  repeat' split
  all_goals first | exact Or.inl rfl | (right; simp only; omega)
end Go.Proofs.Ytlcajceefhgalaa.U
