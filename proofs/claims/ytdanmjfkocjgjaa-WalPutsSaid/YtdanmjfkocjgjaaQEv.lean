/- Own words for the pure side: what it is that a printed function answers from some number of rounds on, as a plain statement; whole numbers' wraps within bounds. -/
import Derived.Test.YtdanmjfkocjgjaaZ0
import Derived.Laws.BitsLemmas
namespace Go.Proofs.Ytdanmjfkocjgjaa.U
open Go.RowKit Go.Proofs.YtdanmjfkocjgjaaW.PrintWords Go.Proofs.YtdanmjfkocjgjaaW.PrintMore
section
variable {α β : Type}
theorem ev_succ {g : Nat → Option α} {r : α} : Ev g r ↔ Ev (fun k => g (k + 1)) r := by
 constructor
 ·rintro ⟨K, h⟩; exact ⟨K, fun k hk => h (k + 1) (by omega)⟩
 ·rintro ⟨K, h⟩; exact Ev.step (fun k => rfl) ⟨K, h⟩
theorem ev_some {a r : α} : Ev (fun _ => some a) r ↔ a = r := by
 constructor
 ·rintro ⟨K, h⟩; exact Option.some.inj (h K (Nat.le_refl _))
 ·rintro rfl; exact Ev.now _
theorem ev_ite {c : Prop} [Decidable c] {f g : Nat → Option α} {r : α} : Ev (fun k => if c then f k else g k) r ↔ if c then Ev f r else Ev g r := by
 by_cases h : c
 ·simp only [if_pos h]
 ·simp only [if_neg h]
theorem ev_bind {g : Nat → Option α} {f : Nat → α → Option β} {a : α} {r : β} (h : Ev g a) : Ev (fun k => (g k).bind (f k)) r ↔ Ev (fun k => f k a) r := by
 constructor
 ·rintro ⟨K', k⟩
  obtain ⟨K, h⟩ := h
  refine ⟨max K K', fun n hn => ?_⟩
  have h1 := h n (by omega)
  have h2 := k n (by omega)
  simp only [h1, Option.bind_some] at h2
  exact h2
 ·exact Ev.bind h
theorem ev_bind_c {o : Option α} {f : Nat → α → Option β} {a : α} {r : β} (h : o = some a) : Ev (fun k => o.bind (f k)) r ↔ Ev (fun k => f k a) r := by
 subst h
 exact Iff.rfl
theorem ev_eq {g : Nat → Option α} {r s : α} (h : Ev g r) (e : r = s) : Ev g s := e ▸ h
end
theorem w64 {x : Int} (h0 : -9223372036854775808 ≤ x) (h1 : x ≤ 9223372036854775807) : wrap64 x = x := by
 unfold wrap64
 omega
theorem wu64 {x : Int} (h0 : 0 ≤ x) (h1 : x < 18446744073709551616) : IntKind.u64.wrap x = x := by
 simp [IntKind.wrap, IntKind.bits, IntKind.signed]
 omega
theorem wu32 {x : Int} (h0 : 0 ≤ x) (h1 : x < 4294967296) : IntKind.u32.wrap x = x := by
 simp [IntKind.wrap, IntKind.bits, IntKind.signed]
 omega
theorem wf_i64 {x : Int} (h : (Lit.int .i64 x).wf = true) : -9223372036854775808 ≤ x ∧ x ≤ 9223372036854775807 := by
 simp [Lit.wf, IntKind.min, IntKind.max, IntKind.bits, IntKind.signed] at h
 omega
theorem wf_u8 {x : Int} (h : (Lit.int .u8 x).wf = true) : 0 ≤ x ∧ x ≤ 255 := by
 simp [Lit.wf, IntKind.min, IntKind.max, IntKind.bits, IntKind.signed] at h
 omega
theorem wf_u32 {x : Int} (h : (Lit.int .u32 x).wf = true) : 0 ≤ x ∧ x ≤ 4294967295 := by
 simp [Lit.wf, IntKind.min, IntKind.max, IntKind.bits, IntKind.signed] at h
 omega
theorem maxLen_le {n : Nat} (h : n ≤ maxLen) : (n : Int) ≤ 9223372036854775807 := by
 unfold maxLen at h
 omega
theorem rd_nat (xs : List Int) (i : Nat) : rd xs (i : Int) = xs.getD i 0 := rfl
theorem rd_get {xs : List Int} {i : Nat} (h : i < xs.length) : rd xs (i : Int) = xs[i] := by
 simp [rd, h]
theorem rd_mem {xs : List Int} {i : Int} (h0 : 0 ≤ i) (h : i < xs.length) : rd xs i ∈ xs := by
 obtain ⟨n, rfl⟩ := Int.eq_ofNat_of_zero_le h0
 rw [rd_get (by omega)]
 exact List.getElem_mem _
theorem drop_eq {xs : List Int} {i : Nat} (h : i < xs.length) : xs.drop i = rd xs (i : Int) :: xs.drop (i + 1) := by
 rw [rd_get h]
 exact List.drop_eq_getElem_cons h
def Bytes (b : List Int) : Prop := ∀ x ∈ b, 0 ≤ x ∧ x ≤ 255
theorem Bytes.nil : Bytes [] := fun x h => by simp at h
theorem Bytes.drop {b : List Int} (h : Bytes b) (n : Nat) : Bytes (b.drop n) := fun x hx => h x (List.mem_of_mem_drop hx)
theorem Bytes.take {b : List Int} (h : Bytes b) (n : Nat) : Bytes (b.take n) := fun x hx => h x (List.mem_of_mem_take hx)
theorem Bytes.append {a b : List Int} (h : Bytes a) (k : Bytes b) : Bytes (a ++ b) := fun x hx => by
 rcases List.mem_append.1 hx with hx | hx
 ·exact h x hx
 ·exact k x hx
theorem Bytes.of_wf {b : List Int} (h : ∀ x ∈ b, (Lit.int .u8 x).wf = true) : Bytes b := fun x hx => wf_u8 (h x hx)
theorem Bytes.rd {b : List Int} (h : Bytes b) {i : Int} (h0 : 0 ≤ i) (h1 : i < b.length) : 0 ≤ rd b i ∧ rd b i ≤ 255 := h _ (rd_mem h0 h1)
theorem or_u64 {j : Nat} {x y : Int} (hj : j ≤ 64) (hx0 : 0 ≤ x) (hx : x < 2 ^ j) (hy0 : 0 ≤ y) (hy : y * 2 ^ j < 18446744073709551616) : Go.bits .or .u64 x (y * 2 ^ j) = x + y * 2 ^ j := by
 obtain ⟨a, rfl⟩ := Int.eq_ofNat_of_zero_le hx0
 obtain ⟨b, rfl⟩ := Int.eq_ofNat_of_zero_le hy0
 have ha : a < 2 ^ j := by exact_mod_cast hx
 have e0 : ((b : Int) * 2 ^ j) = ((b * 2 ^ j : Nat) : Int) := by rw [Int.natCast_mul, Int.natCast_pow]; rfl
 have hb : b * 2 ^ j < 2 ^ 64 := by
  rw [e0] at hy
  have h3 : ((b * 2 ^ j : Nat) : Int) < ((2 ^ 64 : Nat) : Int) := hy
  exact Int.ofNat_lt.1 h3
 have ha' : a < 2 ^ 64 := Nat.lt_of_lt_of_le ha (Nat.pow_le_pow_right (by omega) hj)
 have e1 : ((b : Int) * 2 ^ j) = ((b * 2 ^ j : Nat) : Int) := by rw [Int.natCast_mul, Int.natCast_pow]; rfl
 rw [e1]
 unfold Go.bits
 have e2 : (BitVec.ofInt IntKind.u64.bits (a : Int)).toNat = a := by
  show (BitVec.ofInt 64 (a : Int)).toNat = a
  rw [BitVec.ofInt_natCast, BitVec.toNat_ofNat, Nat.mod_eq_of_lt ha']
 have e3 : (BitVec.ofInt IntKind.u64.bits ((b * 2 ^ j : Nat) : Int)).toNat = b * 2 ^ j := by
  show (BitVec.ofInt 64 ((b * 2 ^ j : Nat) : Int)).toNat = b * 2 ^ j
  rw [BitVec.ofInt_natCast, BitVec.toNat_ofNat, Nat.mod_eq_of_lt hb]
 have e4 : (BitVec.ofInt IntKind.u64.bits (a : Int) ||| BitVec.ofInt IntKind.u64.bits ((b * 2 ^ j : Nat) : Int)).toNat = a + b * 2 ^ j := by
  rw [BitVec.toNat_or, e2, e3, Nat.or_comm, Nat.mul_comm b, ← Nat.two_pow_add_eq_or_of_lt ha, Nat.add_comm]
 simp only [e4]
 have hs : a + b * 2 ^ j < 2 ^ 64 := by
  have h1 : 2 ^ 64 = 2 ^ (64 - j) * 2 ^ j := by rw [← Nat.pow_add]; congr 1; omega
  have h2 : b < 2 ^ (64 - j) := by
   rw [h1] at hb
   exact Nat.lt_of_mul_lt_mul_right hb
  calc a + b * 2 ^ j < 2 ^ j + b * 2 ^ j := by omega
   _ = (b + 1) * 2 ^ j := by rw [Nat.add_mul]; omega
   _ ≤ 2 ^ (64 - j) * 2 ^ j := Nat.mul_le_mul_right _ (by omega)
   _ = 2 ^ 64 := h1.symm
 have hs' : ((a + b * 2 ^ j : Nat) : Int) < 18446744073709551616 := by
  have h3 : ((a + b * 2 ^ j : Nat) : Int) < ((2 ^ 64 : Nat) : Int) := Int.ofNat_lt.2 hs
  exact h3
 rw [wu64 (Int.natCast_nonneg _) hs', Int.natCast_add]
theorem or_u32 {j : Nat} {x y : Int} (hj : j ≤ 32) (hx0 : 0 ≤ x) (hx : x < 2 ^ j) (hy0 : 0 ≤ y) (hy : y * 2 ^ j < 4294967296) : Go.bits .or .u32 x (y * 2 ^ j) = x + y * 2 ^ j := by
 obtain ⟨a, rfl⟩ := Int.eq_ofNat_of_zero_le hx0
 obtain ⟨b, rfl⟩ := Int.eq_ofNat_of_zero_le hy0
 have ha : a < 2 ^ j := by exact_mod_cast hx
 have e0 : ((b : Int) * 2 ^ j) = ((b * 2 ^ j : Nat) : Int) := by rw [Int.natCast_mul, Int.natCast_pow]; rfl
 have hb : b * 2 ^ j < 2 ^ 32 := by
  rw [e0] at hy
  have h3 : ((b * 2 ^ j : Nat) : Int) < ((2 ^ 32 : Nat) : Int) := hy
  exact Int.ofNat_lt.1 h3
 have ha' : a < 2 ^ 32 := Nat.lt_of_lt_of_le ha (Nat.pow_le_pow_right (by omega) hj)
 have e1 : ((b : Int) * 2 ^ j) = ((b * 2 ^ j : Nat) : Int) := by rw [Int.natCast_mul, Int.natCast_pow]; rfl
 rw [e1]
 unfold Go.bits
 have e2 : (BitVec.ofInt IntKind.u32.bits (a : Int)).toNat = a := by
  show (BitVec.ofInt 32 (a : Int)).toNat = a
  rw [BitVec.ofInt_natCast, BitVec.toNat_ofNat, Nat.mod_eq_of_lt ha']
 have e3 : (BitVec.ofInt IntKind.u32.bits ((b * 2 ^ j : Nat) : Int)).toNat = b * 2 ^ j := by
  show (BitVec.ofInt 32 ((b * 2 ^ j : Nat) : Int)).toNat = b * 2 ^ j
  rw [BitVec.ofInt_natCast, BitVec.toNat_ofNat, Nat.mod_eq_of_lt hb]
 have e4 : (BitVec.ofInt IntKind.u32.bits (a : Int) ||| BitVec.ofInt IntKind.u32.bits ((b * 2 ^ j : Nat) : Int)).toNat = a + b * 2 ^ j := by
  rw [BitVec.toNat_or, e2, e3, Nat.or_comm, Nat.mul_comm b, ← Nat.two_pow_add_eq_or_of_lt ha, Nat.add_comm]
 simp only [e4]
 have hs : a + b * 2 ^ j < 2 ^ 32 := by
  have h1 : 2 ^ 32 = 2 ^ (32 - j) * 2 ^ j := by rw [← Nat.pow_add]; congr 1; omega
  have h2 : b < 2 ^ (32 - j) := by
   rw [h1] at hb
   exact Nat.lt_of_mul_lt_mul_right hb
  calc a + b * 2 ^ j < 2 ^ j + b * 2 ^ j := by omega
   _ = (b + 1) * 2 ^ j := by rw [Nat.add_mul]; omega
   _ ≤ 2 ^ (32 - j) * 2 ^ j := Nat.mul_le_mul_right _ (by omega)
   _ = 2 ^ 32 := h1.symm
 have hs' : ((a + b * 2 ^ j : Nat) : Int) < 4294967296 := by
  have h3 : ((a + b * 2 ^ j : Nat) : Int) < ((2 ^ 32 : Nat) : Int) := Int.ofNat_lt.2 hs
  exact h3
 rw [wu32 (Int.natCast_nonneg _) hs', Int.natCast_add]
theorem andNot128 : ∀ c : Fin 256, Go.bits .andNot .u64 (c.val : Int) 128 = ((c.val % 128 : Nat) : Int) := by decide +kernel
theorem andNot_u64 {c : Int} (h0 : 0 ≤ c) (h1 : c ≤ 255) : Go.bits .andNot .u64 c 128 = c % 128 := by
 obtain ⟨n, rfl⟩ := Int.eq_ofNat_of_zero_le h0
 have := andNot128 ⟨n, by omega⟩
 simp only at this
 rw [this]
 rfl
theorem or128 : ∀ c : Fin 256, Go.bits .or .u8 (c.val : Int) 128 = ((c.val % 128 + 128 : Nat) : Int) := by decide +kernel
theorem or_u8 {c : Int} (h0 : 0 ≤ c) (h1 : c ≤ 255) : Go.bits .or .u8 c 128 = c % 128 + 128 := by
 obtain ⟨n, rfl⟩ := Int.eq_ofNat_of_zero_le h0
 have := or128 ⟨n, by omega⟩
 simp only at this
 rw [this]
 rfl
end Go.Proofs.Ytdanmjfkocjgjaa.U
