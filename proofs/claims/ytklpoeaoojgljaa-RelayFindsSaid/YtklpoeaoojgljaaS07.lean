/- The plain law of sorting whole numbers: one by one behind those that are not greater; a sorted row is one alone. -/
import Derived.Test.YtklpoeaoojgljaaQV02
namespace Go.Proofs.Ytklpoeaoojgljaa.U
open Go.RowKit Go.Proofs.YtklpoeaoojgljaaW.PrintWords Go.Proofs.YtklpoeaoojgljaaW.PrintMore
/-- Behind which one of a row's first k a number goes. -/
def posZ (x : Int) (out : List Int) : Nat → Nat
 | 0 => 0
 | k + 1 => if rd out (k : Int) > x then posZ x out k else k + 1
def insZ (out : List Int) (x : Int) : List Int := out.take (posZ x out out.length) ++ x :: out.drop (posZ x out out.length)
def sortZ (l : List Int) : List Int := l.foldl insZ []
theorem posZ_le (x : Int) (out : List Int) : ∀ k, posZ x out k ≤ k
 | 0 => Nat.le_refl _
 | k + 1 => by
  rw [posZ]
  split
  ·exact Nat.le_trans (posZ_le x out k) (Nat.le_succ _)
  ·exact Nat.le_refl _
theorem posZ_gt (x : Int) (out : List Int) : ∀ k j, posZ x out k ≤ j → j < k → rd out (j : Int) > x
 | 0, j, _, h => by omega
 | k + 1, j, h1, h2 => by
  rw [posZ] at h1
  split at h1
  ·rename_i h
   by_cases e : j = k
   ·rw [e]; exact h
   ·exact posZ_gt x out k j h1 (by omega)
  ·omega
theorem posZ_not (x : Int) (out : List Int) : ∀ k, 0 < posZ x out k → ¬ rd out ((posZ x out k - 1 : Nat) : Int) > x
 | 0, h => by simp [posZ] at h
 | k + 1, h => by
  rw [posZ] at h ⊢
  split
  ·rename_i h1
   rw [if_pos h1] at h
   exact posZ_not x out k h
  ·rename_i h1
   simpa using h1
theorem insZ_perm (out : List Int) (x : Int) : (insZ out x).Perm (x :: out) := by
 unfold insZ
 refine List.perm_middle.trans ?_
 rw [List.take_append_drop]
theorem insZ_sorted {out : List Int} (h : out.Pairwise (· ≤ ·)) (x : Int) : (insZ out x).Pairwise (· ≤ ·) := by
 unfold insZ
 have hp := posZ_le x out out.length
 have hg := posZ_gt x out out.length
 have hn := posZ_not x out out.length
 generalize posZ x out out.length = p at hp hg hn
 have h0 := h
 rw [← List.take_append_drop p out, List.pairwise_append] at h
 obtain ⟨h1, h2, h3⟩ := h
 have hd : ∀ y ∈ out.drop p, x ≤ y := by
  intro y hy
  obtain ⟨j, hj, rfl⟩ := List.mem_iff_getElem.1 hy
  rw [List.length_drop] at hj
  have := hg (p + j) (by omega) (by omega)
  rw [rd_get (by omega)] at this
  rw [List.getElem_drop]
  omega
 have ht : ∀ y ∈ out.take p, y ≤ x := by
  intro y hy
  obtain ⟨j, hj, rfl⟩ := List.mem_iff_getElem.1 hy
  rw [List.length_take] at hj
  have hl := hn (by omega)
  rw [rd_get (by omega)] at hl
  rw [List.getElem_take]
  by_cases e : j = p - 1
  ·subst e; omega
  ·have := List.pairwise_iff_getElem.1 h0 j (p - 1) (by omega) (by omega) (by omega)
   omega
 rw [List.pairwise_append]
 refine ⟨h1, List.pairwise_cons.2 ⟨hd, h2⟩, fun a ha b hb => ?_⟩
 rcases List.mem_cons.1 hb with rfl | hb
 ·exact ht a ha
 ·exact h3 a ha b hb
theorem foldZ (l : List Int) : ∀ acc : List Int, acc.Pairwise (· ≤ ·) → (l.foldl insZ acc).Pairwise (· ≤ ·) ∧ (l.foldl insZ acc).Perm (acc ++ l) := by
 induction l with
 | nil => intro acc h; exact ⟨h, by simp⟩
 | cons x l ih =>
  intro acc h
  obtain ⟨h1, h2⟩ := ih (insZ acc x) (insZ_sorted h x)
  refine ⟨h1, h2.trans ?_⟩
  exact ((insZ_perm acc x).append_right l).trans (List.perm_middle.symm)
theorem sorted_one : ∀ {l m : List Int}, l.Perm m → l.Pairwise (· ≤ ·) → m.Pairwise (· ≤ ·) → l = m
 | [], m, h, _, _ => (List.nil_perm.1 h).symm
 | x :: l, [], h, _, _ => absurd h.length_eq (by simp)
 | x :: l, y :: m, h, h1, h2 => by
  have hx : x ∈ y :: m := h.subset (List.mem_cons_self)
  have hy : y ∈ x :: l := h.symm.subset (List.mem_cons_self)
  obtain ⟨a1, a2⟩ := List.pairwise_cons.1 h1
  obtain ⟨b1, b2⟩ := List.pairwise_cons.1 h2
  have e : x = y := by
   rcases List.mem_cons.1 hx with e | hx
   ·exact e
   ·rcases List.mem_cons.1 hy with e | hy
    ·exact e.symm
    ·have := a1 y hy
     have := b1 x hx
     omega
  subst e
  rw [sorted_one ((List.perm_cons x).1 h) a2 b2]
theorem sortZ_merge (l : List Int) : l.mergeSort (fun x y => decide (x ≤ y)) = sortZ l := by
 obtain ⟨h1, h2⟩ := foldZ l [] List.Pairwise.nil
 refine sorted_one ((List.mergeSort_perm l _).trans (by simpa [sortZ] using h2.symm)) ?_ h1
 have := List.pairwise_mergeSort (le := fun x y : Int => decide (x ≤ y)) (by intro a b c; simp; omega) (by intro a b; simp; omega) l
 simpa using this
end Go.Proofs.Ytklpoeaoojgljaa.U
