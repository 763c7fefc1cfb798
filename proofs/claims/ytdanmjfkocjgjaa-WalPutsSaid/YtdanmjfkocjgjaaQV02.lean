/- The plain law of layer 2: a number's bytes, and the number that bytes begin with; no program in sight. -/
import Derived.Test.YtdanmjfkocjgjaaQEv
namespace Go.Proofs.Ytdanmjfkocjgjaa.U
open Go.RowKit Go.Proofs.YtdanmjfkocjgjaaW.PrintWords
def one (u : Nat) : List Int := if h : u < 128 then [(u : Int)] else ((u % 128 + 128 : Nat) : Int) :: one (u / 128)
termination_by u
decreasing_by omega
theorem one_lt {u : Nat} (h : u < 128) : one u = [(u : Int)] := by
 rw [one, dif_pos h]
theorem one_ge {u : Nat} (h : 128 ≤ u) : one u = ((u % 128 + 128 : Nat) : Int) :: one (u / 128) := by
 rw [one, dif_neg (by omega)]
theorem one_ne (u : Nat) : one u ≠ [] := by
 by_cases h : u < 128
 ·rw [one_lt h]; simp
 ·rw [one_ge (by omega)]; simp
theorem one_pos (u : Nat) : 0 < (one u).length := List.length_pos_iff.2 (one_ne u)
theorem one_bytes (u : Nat) : Bytes (one u) := by
 induction u using Nat.strongRecOn with
 | _ u ih =>
  intro x hx
  by_cases h : u < 128
  ·rw [one_lt h] at hx
   rw [List.mem_singleton.1 hx]
   omega
  ·rw [one_ge (by omega)] at hx
   rcases List.mem_cons.1 hx with rfl | hx
   ·omega
   ·exact ih _ (by omega) x hx
theorem one_len {j u : Nat} (hj : 1 ≤ j) (h : u < 2 ^ (7 * j)) : (one u).length ≤ j := by
 induction u using Nat.strongRecOn generalizing j with
 | _ u ih =>
  by_cases hl : u < 128
  ·rw [one_lt hl]; simpa using hj
  ·rw [one_ge (by omega), List.length_cons]
   have h2 : 2 ≤ j := by
    rcases Nat.lt_or_ge j 2 with h2 | h2
    ·have : j = 1 := by omega
     subst this
     omega
    ·exact h2
   obtain ⟨i, rfl⟩ : ∃ i, j = i + 1 := ⟨j - 1, by omega⟩
   have h3 : u / 128 < 2 ^ (7 * i) := by
    rw [Nat.div_lt_iff_lt_mul (by omega)]
    calc u < 2 ^ (7 * (i + 1)) := h
     _ = 2 ^ (7 * i) * 128 := by rw [Nat.mul_add, Nat.pow_add]
   have := ih (u / 128) (by omega) (j := i) (by omega) h3
   omega
theorem one_len10 {u : Nat} (h : u < 18446744073709551616) : (one u).length ≤ 10 :=
  one_len (by omega) (by have : (2 : Nat) ^ (7 * 10) = 1180591620717411303424 := by decide
                         omega)
def dec : Nat → List Int → Option (Nat × Nat)
 | _, [] => none
 | i, c :: r =>
  if 10 ≤ i then none
  else if i = 9 ∧ 1 < c then none
  else if c < 128 then (if c = 0 ∧ 0 < i then none else some (c.toNat, 1))
  else (dec (i + 1) r).map fun x => ((c % 128).toNat + 128 * x.1, x.2 + 1)
def cap (i : Nat) : Nat := 2 ^ (64 - 7 * i)
theorem cap_succ {i : Nat} (h : i < 9) : cap i = 128 * cap (i + 1) := by
 unfold cap
 have e : 64 - 7 * i = 7 + (64 - 7 * (i + 1)) := by omega
 rw [e, Nat.pow_add]
theorem cap_nine : cap 9 = 2 := rfl
theorem cap_zero : cap 0 = 18446744073709551616 := by decide
theorem dec_one : ∀ (u i : Nat) (m : List Int), i ≤ 9 → u < cap i → (0 < i → 0 < u) → dec i (one u ++ m) = some (u, (one u).length) := by
 intro u
 induction u using Nat.strongRecOn with
 | _ u ih =>
  intro i m hi hu h0
  by_cases hl : u < 128
  ·rw [one_lt hl, List.cons_append, List.nil_append, dec, if_neg (by omega)]
   rw [if_neg (fun h => ?_), if_pos (by omega), if_neg (fun h => ?_)]
   ·simp
   ·have := h0 h.2
    omega
   ·obtain ⟨rfl, h⟩ := h
    rw [cap_nine] at hu
    omega
  ·rw [one_ge (by omega), List.cons_append, dec, if_neg (by omega)]
   have h9 : i ≠ 9 := by
    rintro rfl
    rw [cap_nine] at hu
    omega
   rw [if_neg (fun h => h9 h.1), if_neg (by omega)]
   have hc := cap_succ (i := i) (by omega)
   rw [ih (u / 128) (by omega) (i + 1) m (by omega) (by omega) (by omega)]
   simp only [Option.map_some, List.length_cons]
   congr 2
   omega
theorem dec_some : ∀ (b : List Int) (i u n : Nat), Bytes b → dec i b = some (u, n) → ∃ m, b = one u ++ m ∧ n = (one u).length ∧ u < cap i ∧ i ≤ 9 ∧ (0 < i → 0 < u) := by
 intro b
 induction b with
 | nil => intro i u n _ h; simp [dec] at h
 | cons c r ih =>
  intro i u n hb h
  have hc := hb c (by simp)
  rw [dec] at h
  split at h
  ·simp at h
  ·rename_i h1
   split at h
   ·simp at h
   ·rename_i h2
    split at h
    ·rename_i h3
     split at h
     ·simp at h
     ·rename_i h4
      simp only [Option.some.injEq, Prod.mk.injEq] at h
      obtain ⟨rfl, rfl⟩ := h
      have e : one c.toNat = [c] := by
       rw [one_lt (by omega)]
       congr 1
       omega
      refine ⟨r, by rw [e]; rfl, by rw [e]; rfl, ?_, by omega, fun h => ?_⟩
      ·by_cases h9 : i = 9
       ·subst h9
        rw [cap_nine]
        omega
       ·have := cap_succ (i := i) (by omega)
        have : 0 < cap (i + 1) := Nat.pow_pos (by omega)
        omega
      ·omega
    ·rename_i h3
     rw [Option.map_eq_some_iff] at h
     obtain ⟨⟨v, k⟩, h5, h6⟩ := h
     simp only [Prod.mk.injEq] at h6
     obtain ⟨rfl, rfl⟩ := h6
     obtain ⟨m, rfl, rfl, h7, h8, h9⟩ := ih (i + 1) v k (fun x hx => hb x (by simp [hx])) h5
     have hv := h9 (by omega)
     have e : one ((c % 128).toNat + 128 * v) = c :: one v := by
      rw [one_ge (by omega)]
      congr 1
      ·omega
      ·congr 1
       omega
     refine ⟨m, by rw [e]; rfl, by rw [e]; rfl, ?_, by omega, fun _ => by omega⟩
     have := cap_succ (i := i) (by omega)
     omega
theorem dec_iff {b : List Int} (hb : Bytes b) {u n : Nat} : dec 0 b = some (u, n) ↔ u < 18446744073709551616 ∧ (∃ m, b = one u ++ m) ∧ n = (one u).length := by
 constructor
 ·intro h
  obtain ⟨m, h1, h2, h3, _⟩ := dec_some b 0 u n hb h
  exact ⟨by rw [cap_zero] at h3; exact h3, ⟨m, h1⟩, h2⟩
 ·rintro ⟨h1, ⟨m, rfl⟩, rfl⟩
  exact dec_one u 0 m (by omega) (by rw [cap_zero]; exact h1) (by omega)
theorem dec_cases (b : List Int) : dec 0 b = none ∨ ∃ u n, dec 0 b = some (u, n) := by
 cases dec 0 b with
 | none => exact .inl rfl
 | some p => exact .inr ⟨p.1, p.2, rfl⟩
theorem dec_pos {b : List Int} {u n : Nat} (hb : Bytes b) (h : dec 0 b = some (u, n)) : 0 < n ∧ n ≤ b.length ∧ n ≤ 10 ∧ u < 18446744073709551616 := by
 obtain ⟨h1, ⟨m, rfl⟩, rfl⟩ := (dec_iff hb).1 h
 exact ⟨one_pos u, by simp, one_len10 h1, h1⟩
def getR (b : List Int) : Int × Int × Int := match dec 0 b with
 | some (u, n) => ((u : Int), (n : Int), 0)
 | none => (0, 0, 2)
def decs : Nat → List Int → List Int × Nat × Bool
 | 0, _ => ([], 0, true)
 | n + 1, b => match dec 0 b with
  | none => ([], 0, false)
  | some (u, k) => ((u : Int) :: (decs n (b.drop k)).1, k + (decs n (b.drop k)).2.1, (decs n (b.drop k)).2.2)
def allR (n : Nat) (b : List Int) : List Int × Int × Int := if (decs n b).2.2 = true then ((decs n b).1, ((decs n b).2.1 : Int), 0) else ([], ((decs n b).2.1 : Int), 2)
theorem decs_len {n : Nat} : ∀ {b : List Int}, (decs n b).2.2 = true → (decs n b).1.length = n := by
 induction n with
 | zero => intro b _; rfl
 | succ n ih =>
  intro b h
  rw [decs] at h ⊢
  split at h
  ·simp at h
  ·simp only [List.length_cons]
   rw [ih h]
theorem decs_at {n : Nat} : ∀ {b : List Int}, Bytes b → (decs n b).2.1 ≤ b.length := by
 induction n with
 | zero => intro b _; exact Nat.zero_le _
 | succ n ih =>
  intro b hb
  rw [decs]
  split
  ·exact Nat.zero_le _
  ·rename_i u k h
   have h1 := dec_pos hb h
   have h2 := ih (b := b.drop k) (hb.drop k)
   rw [List.length_drop] at h2
   simp only
   omega
def puts (l : List Int) : List Int := l.flatMap fun u => one u.toNat
theorem puts_nil : puts [] = [] := rfl
theorem puts_cons (u : Int) (l : List Int) : puts (u :: l) = one u.toNat ++ puts l := rfl
theorem puts_bytes (l : List Int) : Bytes (puts l) := by
 induction l with
 | nil => exact Bytes.nil
 | cons u l ih => rw [puts_cons]; exact (one_bytes _).append ih
theorem puts_len {l : List Int} (h : ∀ u ∈ l, 0 ≤ u ∧ u < 18446744073709551616) : (puts l).length ≤ 10 * l.length := by
 induction l with
 | nil => exact Nat.le_refl _
 | cons u l ih =>
  have h1 := ih fun v hv => h v (by simp [hv])
  have h2 := h u (by simp)
  have h3 := one_len10 (u := u.toNat) (by omega)
  rw [puts_cons, List.length_append, List.length_cons]
  omega
theorem decs_puts {l : List Int} (h : ∀ u ∈ l, 0 ≤ u ∧ u < 18446744073709551616) (m : List Int) : decs l.length (puts l ++ m) = (l, (puts l).length, true) := by
 induction l with
 | nil => rfl
 | cons u l ih =>
  have h2 := h u (by simp)
  rw [List.length_cons, decs, puts_cons, List.append_assoc, dec_one u.toNat 0 _ (by omega) (by rw [cap_zero]; omega) (by omega)]
  simp only
  rw [List.drop_left, ih fun v hv => h v (by simp [hv])]
  simp only [List.length_append]
  congr 2
  omega
theorem decs_some {n : Nat} : ∀ {b : List Int}, Bytes b → (decs n b).2.2 = true → (∀ u ∈ (decs n b).1, 0 ≤ u ∧ u < 18446744073709551616) ∧ (∃ m, b = puts (decs n b).1 ++ m) ∧ (decs n b).2.1 = (puts (decs n b).1).length := by
 induction n with
 | zero => intro b _ _; exact ⟨by simp [decs], ⟨b, by simp [decs, puts]⟩, by simp [decs, puts]⟩
 | succ n ih =>
  intro b hb h
  rw [decs] at h ⊢
  split at h
  ·simp at h
  ·rename_i u k hd
   obtain ⟨h1, ⟨m, rfl⟩, rfl⟩ := (dec_iff hb).1 hd
   rw [List.drop_left] at h ⊢
   have hm : Bytes m := fun x hx => hb x (by simp [hx])
   obtain ⟨h2, ⟨m', h3⟩, h4⟩ := ih hm h
   simp only
   refine ⟨fun v hv => ?_, ⟨m', ?_⟩, ?_⟩
   ·rcases List.mem_cons.1 hv with rfl | hv
    ·omega
    ·exact h2 v hv
   ·rw [puts_cons, List.append_assoc, ← h3]
    rfl
   ·rw [puts_cons, List.length_append, h4]
    rfl
def val : List Int → Nat
 | [] => 0
 | c :: r => c.toNat % 128 + 128 * val r
theorem decs_three {b : List Int} (hb : Bytes b) (h : (decs 3 b).2.2 = true) : ∃ x y z : Int, (decs 3 b).1 = [x, y, z] ∧ (0 ≤ x ∧ x < 18446744073709551616) ∧ (0 ≤ y ∧ y < 18446744073709551616) ∧ (0 ≤ z ∧ z < 18446744073709551616) := by
 have hl := decs_len h
 have hs := (decs_some hb h).1
 match hm : (decs 3 b).1, hl with
 | [x, y, z], _ =>
  rw [hm] at hs
  exact ⟨x, y, z, rfl, hs x (by simp), hs y (by simp), hs z (by simp)⟩
end Go.Proofs.Ytdanmjfkocjgjaa.U
