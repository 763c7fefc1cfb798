/- The plain law of layers 1 and 3: a sum of bytes, how many bytes a number has, a frame's bytes; no program in sight. -/
import Derived.Test.YtjebpaahpehfnaaQV04
namespace Go.Proofs.Ytjebpaahpehfnaa.U
open Go.RowKit Go.Proofs.YtjebpaahpehfnaaW.PrintWords Go.Proofs.YtjebpaahpehfnaaW.PrintMore
def IsLen (n u : Nat) : Prop := u < 2 ^ n ∧ (n = 0 ∨ 2 ^ (n - 1) ≤ u)
theorem isLen_div {n u k : Nat} (hu : 2 ^ k ≤ u) (h : IsLen n (u / 2 ^ k)) : IsLen (n + k) u := by
  have hp : 0 < 2 ^ k := Nat.pow_pos (by omega)
  have h1 : 1 ≤ u / 2 ^ k := by rw [Nat.le_div_iff_mul_le hp]; omega
  obtain ⟨h2, h3⟩ := h
  have hn : n ≠ 0 := by
    rintro rfl
    simp at h2
    have := Nat.pow_pos (n := k) (show 0 < 2 by omega)
    omega
  refine ⟨?_, .inr ?_⟩
  · rw [Nat.pow_add]
    exact (Nat.div_lt_iff_lt_mul hp).1 h2
  · have h4 : 2 ^ (n - 1) ≤ u / 2 ^ k := by
      rcases h3 with h3 | h3
      · exact absurd h3 hn
      · exact h3
    have e : n + k - 1 = (n - 1) + k := by omega
    rw [e, Nat.pow_add]
    exact (Nat.le_div_iff_mul_le hp).1 h4
theorem one_long {j u : Nat} (h : 2 ^ (7 * j) ≤ u) : j < (one u).length := by
  induction j generalizing u with
  | zero => exact one_pos u
  | succ j ih =>
    have hp : 2 ^ (7 * (j + 1)) = 2 ^ (7 * j) * 128 := by rw [Nat.mul_add, Nat.pow_add]
    have h0 : 0 < 2 ^ (7 * j) := Nat.pow_pos (by omega)
    rw [hp] at h
    rw [one_ge (by omega), List.length_cons]
    have := ih (u := u / 128) (by rw [Nat.le_div_iff_mul_le (by omega)]; exact h)
    omega
theorem one_size {n u : Nat} (h : IsLen n u) : (one u).length = max 1 ((n + 6) / 7) := by
  obtain ⟨h1, h2⟩ := h
  have hle : (one u).length ≤ max 1 ((n + 6) / 7) := by
    refine one_len (by omega) (Nat.lt_of_lt_of_le h1 (Nat.pow_le_pow_right (by omega) (by omega)))
  have hge : max 1 ((n + 6) / 7) ≤ (one u).length := by
    rcases Nat.lt_or_ge ((n + 6) / 7) 2 with h | h
    · have := one_pos u
      omega
    · have h3 : 2 ^ (n - 1) ≤ u := by
        rcases h2 with h2 | h2
        · omega
        · exact h2
      have := one_long (j := (n + 6) / 7 - 1) (u := u) (Nat.le_trans (Nat.pow_le_pow_right (by omega) (by omega)) h3)
      omega
  omega
def poly : Nat := 2197175160
def crcBit (r b : Nat) : Nat := if r % 2 = b then r / 2 else r / 2 ^^^ poly
def crcBits (r c : Nat) : Nat → Nat → Nat
  | _, 0 => r
  | j, d + 1 => crcBits (crcBit r (c >>> j % 2)) c (j + 1) d
def crcByte (r c : Nat) : Nat := crcBits r c 0 8
def crcRun (r : Nat) (l : List Int) : Nat := l.foldl (fun r c => crcByte r c.toNat) r
def crcOf (l : List Int) : Nat := 4294967295 ^^^ crcRun 4294967295 l
theorem xor_lt32 {a b : Nat} (ha : a < 4294967296) (hb : b < 4294967296) : a ^^^ b < 4294967296 := Nat.xor_lt_two_pow (n := 32) ha hb
theorem crcBit_lt {r b : Nat} (h : r < 4294967296) : crcBit r b < 4294967296 := by
  unfold crcBit
  split
  · omega
  · exact xor_lt32 (by omega) (by unfold poly; omega)
theorem crcBits_lt {c : Nat} : ∀ {d j r : Nat}, r < 4294967296 → crcBits r c j d < 4294967296 := by
  intro d
  induction d with
  | zero => intro j r h; exact h
  | succ d ih => intro j r h; exact ih (crcBit_lt h)
theorem crcByte_lt {r c : Nat} (h : r < 4294967296) : crcByte r c < 4294967296 := crcBits_lt h
theorem crcRun_lt {l : List Int} : ∀ {r : Nat}, r < 4294967296 → crcRun r l < 4294967296 := by
  induction l with
  | nil => intro r h; exact h
  | cons c l ih => intro r h; exact ih (crcByte_lt h)
theorem crcOf_lt (l : List Int) : crcOf l < 4294967296 := xor_lt32 (by omega) (crcRun_lt (by omega))
theorem crcRun_append (r : Nat) (a b : List Int) : crcRun r (a ++ b) = crcRun (crcRun r a) b := by
  unfold crcRun
  rw [List.foldl_append]
def mixStep (x : Nat) : Nat := x / 2 ^^^ (if x % 2 = 1 then poly else 0)
def mixSteps : Nat → Nat → Nat
  | 0, x => x
  | d + 1, x => mixSteps d (mixStep x)
theorem xor_div2 (a b : Nat) : (a ^^^ b) / 2 = a / 2 ^^^ b / 2 := by
  have := Nat.shiftRight_xor_distrib (a := a) (b := b) (i := 1)
  simpa [Nat.shiftRight_succ] using this
theorem xor_mod2 (a b : Nat) : (a ^^^ b) % 2 = if a % 2 = b % 2 then 0 else 1 := by
  have h := Nat.xor_mod_two_pow (a := a) (b := b) (n := 1)
  rw [Nat.pow_one] at h
  rw [h]
  rcases Nat.mod_two_eq_zero_or_one a with ha | ha <;> rcases Nat.mod_two_eq_zero_or_one b with hb | hb <;> rw [ha, hb] <;> rfl
theorem mix_bits (c : Nat) : ∀ (d j r : Nat), mixSteps d (r ^^^ c >>> j) = crcBits r c j d ^^^ c >>> (j + d) := by
  intro d
  induction d with
  | zero => intro j r; rfl
  | succ d ih =>
    intro j r
    have e : mixStep (r ^^^ c >>> j) = crcBit r (c >>> j % 2) ^^^ c >>> (j + 1) := by
      unfold mixStep crcBit
      rw [xor_div2, xor_mod2, Nat.shiftRight_succ]
      by_cases h : r % 2 = c >>> j % 2
      · rw [if_pos h, if_pos h, if_neg (by omega), Nat.xor_zero]
      · rw [if_neg h, if_neg h, if_pos rfl, Nat.xor_assoc, Nat.xor_comm (c >>> j / 2), ← Nat.xor_assoc]
    rw [mixSteps, e, ih (j + 1), crcBits]
    congr 2
    omega
theorem mix_byte {r c : Nat} (hc : c < 256) : mixSteps 8 (r ^^^ c) = crcByte r c := by
  have := mix_bits c 8 0 r
  rw [Nat.shiftRight_zero] at this
  have e : c >>> (0 + 8) = 0 := by
    rw [Nat.shiftRight_eq_div_pow]
    omega
  rw [this, e, Nat.xor_zero]
  rfl
theorem xor32 {a b : Nat} (ha : a < 4294967296) (hb : b < 4294967296) : Go.bits .xor .u32 (a : Int) (b : Int) = ((a ^^^ b : Nat) : Int) := by
  have e1 : BitVec.ofInt IntKind.u32.bits (a : Int) = BitVec.ofNat 32 a := BitVec.ofInt_natCast ..
  have e2 : BitVec.ofInt IntKind.u32.bits (b : Int) = BitVec.ofNat 32 b := BitVec.ofInt_natCast ..
  have ha' : (BitVec.ofNat 32 a).toNat = a := by rw [BitVec.toNat_ofNat, Nat.mod_eq_of_lt ha]
  have hb' : (BitVec.ofNat 32 b).toNat = b := by rw [BitVec.toNat_ofNat, Nat.mod_eq_of_lt hb]
  have h := (BitVec.ofNat 32 a ^^^ BitVec.ofNat 32 b).isLt
  have e3 : (BitVec.ofNat 32 a ^^^ BitVec.ofNat 32 b).toNat = a ^^^ b := by rw [BitVec.toNat_xor, ha', hb']
  unfold Go.bits
  simp only [e1, e2]
  show IntKind.u32.wrap (((BitVec.ofNat 32 a ^^^ BitVec.ofNat 32 b).toNat : Nat) : Int) = _
  rw [e3] at h ⊢
  exact wu32 (by omega) (by omega)
theorem and32 {a b : Nat} (ha : a < 4294967296) (hb : b < 4294967296) : Go.bits .and .u32 (a : Int) (b : Int) = ((a &&& b : Nat) : Int) := by
  have e1 : BitVec.ofInt IntKind.u32.bits (a : Int) = BitVec.ofNat 32 a := BitVec.ofInt_natCast ..
  have e2 : BitVec.ofInt IntKind.u32.bits (b : Int) = BitVec.ofNat 32 b := BitVec.ofInt_natCast ..
  have ha' : (BitVec.ofNat 32 a).toNat = a := by rw [BitVec.toNat_ofNat, Nat.mod_eq_of_lt ha]
  have hb' : (BitVec.ofNat 32 b).toNat = b := by rw [BitVec.toNat_ofNat, Nat.mod_eq_of_lt hb]
  have h := (BitVec.ofNat 32 a &&& BitVec.ofNat 32 b).isLt
  have e3 : (BitVec.ofNat 32 a &&& BitVec.ofNat 32 b).toNat = a &&& b := by rw [BitVec.toNat_and, ha', hb']
  unfold Go.bits
  simp only [e1, e2]
  show IntKind.u32.wrap (((BitVec.ofNat 32 a &&& BitVec.ofNat 32 b).toNat : Nat) : Int) = _
  rw [e3] at h ⊢
  exact wu32 (by omega) (by omega)
def mayF (kind : Int) (body : List Int) : Bool := decide (1 ≤ kind ∧ kind ≤ 250 ∧ body.length ≤ 1048576)
theorem mayF_iff {kind : Int} {body : List Int} : mayF kind body = true ↔ 1 ≤ kind ∧ kind ≤ 250 ∧ body.length ≤ 1048576 := by
  unfold mayF
  exact decide_eq_true_iff
def sumF (kind : Int) (body : List Int) : Nat := crcOf (kind :: body)
def putF (kind : Int) (body : List Int) : List Int := one body.length ++ (kind :: (body ++ sum4 (sumF kind body)))
theorem putF_len (kind : Int) (body : List Int) : (putF kind body).length = (one body.length).length + 1 + body.length + 4 := by
  unfold putF
  have l4 : (sum4 ((sumF kind body : Nat) : Int)).length = 4 := rfl
  rw [List.length_append, List.length_cons, List.length_append, l4]
  omega
def putsF (l : List (Int × List Int)) : List Int := l.flatMap fun f => putF f.1 f.2
theorem putsF_cons (f : Int × List Int) (l : List (Int × List Int)) : putsF (f :: l) = putF f.1 f.2 ++ putsF l := rfl
def sumLen (l : List (Int × List Int)) : Nat := (l.map fun f => f.2.length).sum
theorem sumLen_cons (f : Int × List Int) (l : List (Int × List Int)) : sumLen (f :: l) = f.2.length + sumLen l := rfl
theorem putsF_len {l : List (Int × List Int)} (h : ∀ f ∈ l, f.2.length < 18446744073709551616) : (putsF l).length ≤ sumLen l + 15 * l.length := by
  induction l with
  | nil => simp [putsF, sumLen]
  | cons f l ih =>
    have h1 := ih fun g hg => h g (by simp [hg])
    have h2 := one_len10 (h f (by simp))
    rw [putsF_cons, List.length_append, putF_len, sumLen_cons, List.length_cons]
    omega
theorem sumLen_mem {l : List (Int × List Int)} {f : Int × List Int} (h : f ∈ l) : f.2.length ≤ sumLen l := by
  induction l with
  | nil => simp at h
  | cons g l ih =>
    rw [sumLen_cons]
    rcases List.mem_cons.1 h with rfl | h
    · omega
    · have := ih h
      omega
def allF (l : List (Int × List Int)) : Bool := l.all fun f => mayF f.1 f.2
end Go.Proofs.Ytjebpaahpehfnaa.U
