/- The plain law of reading cells, entries and batches: which ones bytes begin with; no program in sight. -/
import Derived.Test.YtdanmjfkocjgjaaQF06
namespace Go.Proofs.Ytdanmjfkocjgjaa.U
open Go.RowKit Go.Proofs.YtdanmjfkocjgjaaW.PrintWords Go.Proofs.YtdanmjfkocjgjaaW.PrintMore
theorem w64n {a : Int} (n : Nat) (h : a = (n : Int)) (h2 : n ≤ 9223372036854775807) : wrap64 a = (n : Int) := by
 subst h
 exact w64 (by omega) (by omega)
def numR (most : Nat) (b : List Int) : Option (Nat × Nat) := match dec 0 b with
 | none => none
 | some (u, n) => if u ≤ most then some (u, n) else none
abbrev Cel := Bool × List Int × Int × Int × Int × Int
def cellR (b : List Int) : Option (Cel × Nat) :=
 if b.length = 0 then none else
 if rd b 0 = 1 then (if (pointR (b.drop 1)).2.2.2.2 = 0 then none else some ((true, [], (pointR (b.drop 1)).1, (pointR (b.drop 1)).2.1, (pointR (b.drop 1)).2.2.1, (pointR (b.drop 1)).2.2.2.1), (pointR (b.drop 1)).2.2.2.2.toNat + 1)) else
 if rd b 0 = 0 then (match numR 32 (b.drop 1) with
  | none => none
  | some (u, n) => if 1 + n + u ≤ b.length then some ((false, (b.drop (1 + n)).take u, 0, 0, 0, 0), 1 + n + u) else none) else none
def entR (i : Int) (b : List Int) : Option (Ent × Nat) := match numR 2147483647 b with
 | none => none
 | some (t, n) => if n = b.length then none else match numR 64 (b.drop (n + 1)) with
  | none => none
  | some (u, k) => if n + 1 + k + u ≤ b.length then
   (if rd b (n : Int) = 2 then some (⟨i, t, rd b (n : Int), strOfNums ((b.drop (n + 1 + k)).take u), false, [], 0, 0, 0, 0⟩, n + 1 + k + u) else match cellR (b.drop (n + 1 + k + u)) with
    | none => none
    | some (c, m) => some (⟨i, t, rd b (n : Int), strOfNums ((b.drop (n + 1 + k)).take u), c.1, c.2.1, c.2.2.1, c.2.2.2.1, c.2.2.2.2.1, c.2.2.2.2.2⟩, n + 1 + k + u + m)) else none
def entsR : Nat → Int → List Int → Option (List Ent × List Int)
 | 0, _, b => some ([], b)
 | d + 1, i, b => match entR i b with
  | none => none
  | some (e, m) => match entsR d (i + 1) (b.drop m) with
   | none => none
   | some (l, r) => some (e :: l, r)
def headR (b : List Int) : Option (Nat × Nat × Nat) := match numR 16 b with
 | none => none
 | some (n, k) => match numR 2147483647 (b.drop k) with
  | none => none
  | some (f, m) => some (n, f, k + m)
def getB (b : List Int) : List Ent := match headR b with
 | none => []
 | some (n, f, k) => match entsR n f (b.drop k) with
  | none => []
  | some (l, r) => if r = [] ∧ batchB l = true then l else []
theorem numR_le {most : Nat} {b : List Int} (hb : Bytes b) {u n : Nat} (h : numR most b = some (u, n)) : u ≤ most ∧ 0 < n ∧ n ≤ b.length ∧ n ≤ 10 ∧ dec 0 b = some (u, n) := by
 unfold numR at h
 cases hd : dec 0 b with
 | none => rw [hd] at h; cases h
 | some x =>
  obtain ⟨u', n'⟩ := x
  rw [hd] at h
  simp only at h
  by_cases hu : u' ≤ most
  ·rw [if_pos hu] at h
   cases h
   have := dec_pos hb hd
   exact ⟨hu, this.1, this.2.1, this.2.2.1, rfl⟩
  ·rw [if_neg hu] at h
   cases h
theorem pointR_le6 (b : List Int) : 0 ≤ (pointR b).2.2.2.2 ∧ (pointR b).2.2.2.2 ≤ (b.length : Int) := by
 unfold pointR
 split
 ·rename_i h
  simp only
  omega
 ·simp
theorem cellR_le {b : List Int} (hb : Bytes b) {c : Cel} {m : Nat} (h : cellR b = some (c, m)) : 0 < m ∧ m ≤ b.length ∧ c.2.1.length ≤ 32 ∧ Bytes c.2.1 ∧ (0 ≤ c.2.2.2.2.2 ∧ c.2.2.2.2.2 < 4294967296) := by
 unfold cellR at h
 by_cases h0 : b.length = 0
 ·rw [if_pos h0] at h; cases h
 rw [if_neg h0] at h
 by_cases h1 : rd b 0 = 1
 ·rw [if_pos h1] at h
  by_cases h2 : (pointR (b.drop 1)).2.2.2.2 = 0
  ·rw [if_pos h2] at h; cases h
  rw [if_neg h2] at h
  cases h
  have h3 := pointR_le6 (b.drop 1)
  have h4 : (b.drop 1).length = b.length - 1 := List.length_drop
  refine ⟨by omega, by omega, by simp, Bytes.nil, ?_⟩
  simp only
  unfold pointR
  split
  ·rename_i h5
   simp only
   exact sumAt_range (hb.drop 1) h5.2.1
  ·simp
 rw [if_neg h1] at h
 by_cases h2 : rd b 0 = 0
 ·rw [if_pos h2] at h
  cases hn : numR 32 (b.drop 1) with
  | none => rw [hn] at h; cases h
  | some x =>
   obtain ⟨u, n⟩ := x
   rw [hn] at h
   simp only at h
   obtain ⟨h3, h4, h5, h6, _⟩ := numR_le (hb.drop 1) hn
   by_cases h7 : 1 + n + u ≤ b.length
   ·rw [if_pos h7] at h
    cases h
    refine ⟨by omega, h7, by simp only [List.length_take]; omega, (hb.drop _).take _, by simp⟩
   ·rw [if_neg h7] at h
    cases h
 ·rw [if_neg h2] at h
  cases h
theorem entR_le {b : List Int} (hb : Bytes b) {i : Int} {e : Ent} {m : Nat} (h : entR i b = some (e, m)) :
 0 < m ∧ m ≤ b.length ∧ e.i = i ∧ (0 ≤ e.t ∧ e.t ≤ 2147483647) ∧ (0 ≤ e.k ∧ e.k ≤ 255) ∧ e.key.size ≤ 64 ∧ e.b.length ≤ 32 ∧ Bytes e.b ∧ (0 ≤ e.u ∧ e.u < 4294967296) := by
 unfold entR at h
 cases hn : numR 2147483647 b with
 | none => rw [hn] at h; cases h
 | some x =>
  obtain ⟨t, n⟩ := x
  rw [hn] at h
  simp only at h
  obtain ⟨h1, h2, h3, h4, _⟩ := numR_le hb hn
  by_cases h5 : n = b.length
  ·rw [if_pos h5] at h; cases h
  rw [if_neg h5] at h
  have hk := hb.rd (i := (n : Int)) (by omega) (by omega)
  cases hm : numR 64 (b.drop (n + 1)) with
  | none => rw [hm] at h; cases h
  | some y =>
   obtain ⟨u, k⟩ := y
   rw [hm] at h
   simp only at h
   obtain ⟨g1, g2, g3, g4, _⟩ := numR_le (hb.drop (n + 1)) hm
   by_cases h6 : n + 1 + k + u ≤ b.length
   ·rw [if_pos h6] at h
    have hs : (strOfNums ((b.drop (n + 1 + k)).take u)).size ≤ 64 := by
     have : (strOfNums ((b.drop (n + 1 + k)).take u)).size = ((b.drop (n + 1 + k)).take u).length := strOfNums_size _
     rw [this, List.length_take]
     omega
    by_cases h7 : rd b (n : Int) = 2
    ·rw [if_pos h7] at h
     cases h
     exact ⟨by omega, h6, rfl, ⟨by simp only; omega, by simp only; omega⟩, hk, hs, by simp, Bytes.nil, by simp⟩
    ·rw [if_neg h7] at h
     cases hc : cellR (b.drop (n + 1 + k + u)) with
     | none => rw [hc] at h; cases h
     | some z =>
      obtain ⟨c, m'⟩ := z
      rw [hc] at h
      cases h
      obtain ⟨c1, c2, c3, c4, c5⟩ := cellR_le (hb.drop _) hc
      have : (b.drop (n + 1 + k + u)).length = b.length - (n + 1 + k + u) := List.length_drop
      exact ⟨by omega, by omega, rfl, ⟨by simp only; omega, by simp only; omega⟩, hk, hs, c3, c4, c5⟩
   ·rw [if_neg h6] at h
    cases h
end Go.Proofs.Ytdanmjfkocjgjaa.U
