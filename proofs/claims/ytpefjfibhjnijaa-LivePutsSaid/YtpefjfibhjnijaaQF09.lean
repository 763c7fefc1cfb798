/- The plain law of layers 9 and 29: which tallies there may be, how many bytes a segment has, which segments are sparse, and the victim; no program in sight. -/
import Derived.Test.YtpefjfibhjnijaaQEv
namespace Go.Proofs.Ytpefjfibhjnijaa.U
open Go.RowKit Go.Proofs.YtpefjfibhjnijaaW.PrintWords Go.Proofs.YtpefjfibhjnijaaW.PrintMore
def sortT : Int → List (Int × Int) → Bool
 | _, [] => true
 | last, p :: l => decide (last < p.1 ∧ p.1 ≤ 2147483647 ∧ 1 ≤ p.2 ∧ p.2 ≤ 1099511627776) && sortT p.1 l
def mayT (l : List (Int × Int)) : Bool := decide (l.length ≤ 4096) && sortT 0 l
def getT : List (Int × Int) → Int → Int
 | [], _ => 0
 | p :: l, s => if p.1 = s then p.2 else getT l s
theorem sortT_cons {last : Int} {p : Int × Int} {l : List (Int × Int)} : sortT last (p :: l) = true ↔ (last < p.1 ∧ p.1 ≤ 2147483647 ∧ 1 ≤ p.2 ∧ p.2 ≤ 1099511627776) ∧ sortT p.1 l = true := by
 rw [sortT, Bool.and_eq_true, decide_eq_true_eq]
theorem sortT_mem {l : List (Int × Int)} : ∀ {last : Int}, sortT last l = true → ∀ p ∈ l, last < p.1 ∧ p.1 ≤ 2147483647 ∧ 1 ≤ p.2 ∧ p.2 ≤ 1099511627776 := by
 induction l with
 | nil => intro last _ p hp; simp at hp
 | cons q l ih =>
  intro last h p hp
  have h' := sortT_cons.1 h
  rcases List.mem_cons.1 hp with rfl | hp
  ·exact h'.1
  ·have := ih h'.2 p hp
   omega
theorem sortT_pair {l : List (Int × Int)} : ∀ {last : Int}, sortT last l = true → l.Pairwise fun a b => a.1 < b.1 := by
 induction l with
 | nil => intro last _; exact List.Pairwise.nil
 | cons q l ih =>
  intro last h
  have h' := sortT_cons.1 h
  exact List.Pairwise.cons (fun p hp => (sortT_mem h'.2 p hp).1) (ih h'.2)
theorem mayT_iff {l : List (Int × Int)} : mayT l = true ↔ l.length ≤ 4096 ∧ sortT 0 l = true := by
 unfold mayT
 rw [Bool.and_eq_true, decide_eq_true_eq]
theorem getT_none {l : List (Int × Int)} {s : Int} (h : ∀ p ∈ l, p.1 ≠ s) : getT l s = 0 := by
 induction l with
 | nil => rfl
 | cons q l ih =>
  rw [getT, if_neg (h q (by simp))]
  exact ih fun p hp => h p (by simp [hp])
theorem getT_mem {l : List (Int × Int)} {s : Int} {p : Int × Int} (hs : l.Pairwise fun a b => a.1 < b.1) (hp : p ∈ l) (h : p.1 = s) : getT l s = p.2 := by
 induction l with
 | nil => simp at hp
 | cons q l ih =>
  rw [List.pairwise_cons] at hs
  rcases List.mem_cons.1 hp with rfl | hp
  ·rw [getT, if_pos h]
  ·have := hs.1 p hp
   rw [getT, if_neg (by omega)]
   exact ih hs.2 hp
def partV (segs sizes : List Int) (l : List (Int × Int)) (x : Int) : Int × Int := if rd sizes x = 0 then (0, 1) else (getT l (rd segs x), rd sizes x)
def lessV (segs sizes : List Int) (l : List (Int × Int)) (x b : Int) : Prop := (partV segs sizes l x).1 * (partV segs sizes l b).2 < (partV segs sizes l b).1 * (partV segs sizes l x).2
instance (segs sizes : List Int) (l : List (Int × Int)) (x b : Int) : Decidable (lessV segs sizes l x b) := by
 unfold lessV
 exact inferInstance
end Go.Proofs.Ytpefjfibhjnijaa.U
