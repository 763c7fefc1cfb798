/- The plain law of layer 2: a number's bytes, and the number that bytes begin with; no program in sight. -/
import Derived.Test.YtohocfimdpneoaaQEv
namespace Go.Proofs.Ytohocfimdpneoaa.U
open Go.RowKit Go.Proofs.YtohocfimdpneoaaW.PrintWords
def one (u : Nat) : List Int := if h : u < 128 then [(u : Int)] else ((u % 128 + 128 : Nat) : Int) :: one (u / 128)
termination_by u
decreasing_by omega
theorem one_lt {u : Nat} (h : u < 128) : one u = [(u : Int)] := by
  rw [one, dif_pos h]
theorem one_ge {u : Nat} (h : 128 ≤ u) : one u = ((u % 128 + 128 : Nat) : Int) :: one (u / 128) := by
  rw [one, dif_neg (by omega)]
theorem one_len {j u : Nat} (hj : 1 ≤ j) (h : u < 2 ^ (7 * j)) : (one u).length ≤ j := by
  induction u using Nat.strongRecOn generalizing j with
  | _ u ih =>
    by_cases hl : u < 128
    · rw [one_lt hl]; simpa using hj
    · rw [one_ge (by omega), List.length_cons]
      have h2 : 2 ≤ j := by
        rcases Nat.lt_or_ge j 2 with h2 | h2
        · have : j = 1 := by omega
          subst this
          omega
        · exact h2
      obtain ⟨i, rfl⟩ : ∃ i, j = i + 1 := ⟨j - 1, by omega⟩
      have h3 : u / 128 < 2 ^ (7 * i) := by
        rw [Nat.div_lt_iff_lt_mul (by omega)]
        calc u < 2 ^ (7 * (i + 1)) := h
          _ = 2 ^ (7 * i) * 128 := by rw [Nat.mul_add, Nat.pow_add]
      have := ih (u / 128) (by omega) (j := i) (by omega) h3
      omega
theorem one_len10 {u : Nat} (h : u < 18446744073709551616) : (one u).length ≤ 10 :=
  one_len (by omega) (by have : (2 : Nat) ^ (7 * 10) = 1180591620717411303424 := by decide
                         omega)
def cap (i : Nat) : Nat := 2 ^ (64 - 7 * i)
def puts (l : List Int) : List Int := l.flatMap fun u => one u.toNat
theorem puts_nil : puts [] = [] := rfl
theorem puts_cons (u : Int) (l : List Int) : puts (u :: l) = one u.toNat ++ puts l := rfl
theorem puts_len {l : List Int} (h : ∀ u ∈ l, 0 ≤ u ∧ u < 18446744073709551616) : (puts l).length ≤ 10 * l.length := by
  induction l with
  | nil => exact Nat.le_refl _
  | cons u l ih =>
    have h1 := ih fun v hv => h v (by simp [hv])
    have h2 := h u (by simp)
    have h3 := one_len10 (u := u.toNat) (by omega)
    rw [puts_cons, List.length_append, List.length_cons]
    omega
def val : List Int → Nat
  | [] => 0
  | c :: r => c.toNat % 128 + 128 * val r
end Go.Proofs.Ytohocfimdpneoaa.U
