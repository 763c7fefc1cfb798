/- The plain law of layer 9's sums: a tally with a segment's bytes set, with points added, without points; no program in sight. -/
import Derived.Test.YtpefjfibhjnijaaQF09
namespace Go.Proofs.Ytpefjfibhjnijaa.U
open Go.RowKit Go.Proofs.YtpefjfibhjnijaaW.PrintWords Go.Proofs.YtpefjfibhjnijaaW.PrintMore
def SortP (l : List (Int × Int)) : Prop := l.Pairwise fun a b => a.1 < b.1
def setT : List (Int × Int) → Int → Int → List (Int × Int)
 | [], s, n => if n = 0 then [] else [(s, n)]
 | p :: l, s, n => if p.1 < s then p :: setT l s n else if p.1 = s then (if n = 0 then l else (s, n) :: l) else (if n = 0 then p :: l else (s, n) :: p :: l)
theorem setT_mem {l : List (Int × Int)} {s n : Int} {p : Int × Int} (h : p ∈ setT l s n) : (p = (s, n) ∧ n ≠ 0) ∨ p ∈ l := by
 induction l with
 | nil =>
  rw [setT] at h
  split at h
  ·exact absurd h (by simp)
  ·rename_i hn
   exact .inl ⟨List.mem_singleton.1 h, hn⟩
 | cons q l ih =>
  rw [setT] at h
  split at h
  ·rcases List.mem_cons.1 h with rfl | h
   ·exact .inr (by simp)
   ·rcases ih h with h | h
    ·exact .inl h
    ·exact .inr (by simp [h])
  ·split at h
   ·split at h
    ·exact .inr (by simp [h])
    ·rename_i hn
     rcases List.mem_cons.1 h with rfl | h
     ·exact .inl ⟨rfl, hn⟩
     ·exact .inr (by simp [h])
   ·split at h
    ·exact .inr h
    ·rename_i hn
     rcases List.mem_cons.1 h with rfl | h
     ·exact .inl ⟨rfl, hn⟩
     ·exact .inr h
theorem setT_sort {l : List (Int × Int)} (hs : SortP l) (s n : Int) : SortP (setT l s n) := by
 induction l with
 | nil =>
  rw [setT]
  split
  ·exact List.Pairwise.nil
  ·exact List.pairwise_singleton _ _
 | cons q l ih =>
  have hq := List.pairwise_cons.1 hs
  rw [setT]
  split
  ·rename_i h1
   refine List.Pairwise.cons (fun p hp => ?_) (ih hq.2)
   rcases setT_mem hp with ⟨rfl, _⟩ | hp
   ·exact h1
   ·exact hq.1 p hp
  ·rename_i h1
   split
   ·rename_i h2
    split
    ·exact hq.2
    ·exact List.Pairwise.cons (fun p hp => by have := hq.1 p hp; simp only; omega) hq.2
   ·rename_i h2
    split
    ·exact hs
    ·refine List.Pairwise.cons (fun p hp => ?_) hs
     rcases List.mem_cons.1 hp with rfl | hp
     ·simp only; omega
     ·have := hq.1 p hp
      simp only
      omega
theorem setT_len (l : List (Int × Int)) (s n : Int) : (setT l s n).length ≤ l.length + 1 := by
 induction l with
 | nil => rw [setT]; split <;> simp
 | cons q l ih =>
  rw [setT]
  split
  ·simp only [List.length_cons]; omega
  ·split
   ·split <;> simp only [List.length_cons] <;> omega
   ·split <;> simp only [List.length_cons] <;> omega
theorem getT_setT {l : List (Int × Int)} (hs : SortP l) (s n t : Int) : getT (setT l s n) t = if t = s then n else getT l t := by
 induction l with
 | nil =>
  rw [setT]
  split
  ·rename_i h; subst h; simp [getT]
  ·show (if s = t then n else 0) = if t = s then n else 0
   by_cases h : s = t
   ·rw [if_pos h, if_pos h.symm]
   ·rw [if_neg h, if_neg (fun e => h e.symm)]
 | cons q l ih =>
  have hq := List.pairwise_cons.1 hs
  have hno : ∀ u, u ≤ q.1 → getT l u = 0 := fun u hu => getT_none (fun p hp => by have := hq.1 p hp; omega)
  rw [setT]
  split
  ·rename_i h1
   rw [getT, getT, ih hq.2]
   by_cases h : t = s
   ·rw [if_neg (show ¬ q.1 = t by omega), if_pos h, if_pos h]
   ·rw [if_neg h, if_neg h]
  ·rename_i h1
   split
   ·rename_i h2
    split
    ·rename_i h3
     by_cases h : t = s
     ·rw [if_pos h, hno t (by omega), h3]
     ·rw [if_neg h, getT, if_neg (by omega)]
    ·rw [getT]
     by_cases h : t = s
     ·rw [if_pos h, if_pos h.symm]
     ·rw [if_neg h, if_neg (fun e => h e.symm), getT, if_neg (by omega)]
   ·rename_i h2
    split
    ·rename_i h3
     by_cases h : t = s
     ·rw [if_pos h, getT, if_neg (by omega), hno t (by omega), h3]
     ·rw [if_neg h]
    ·rw [getT]
     by_cases h : t = s
     ·rw [if_pos h, if_pos h.symm]
     ·rw [if_neg h, if_neg (fun e => h e.symm)]
theorem extT {l : List (Int × Int)} : ∀ {m : List (Int × Int)}, SortP l → SortP m → (∀ p ∈ l, p.2 ≠ 0) → (∀ p ∈ m, p.2 ≠ 0) → (∀ t, getT l t = getT m t) → l = m := by
 induction l with
 | nil =>
  intro m _ _ _ hm h
  cases m with
  | nil => rfl
  | cons q m =>
   have := h q.1
   rw [getT, getT, if_pos rfl] at this
   exact absurd this.symm (hm q (by simp))
 | cons p l ih =>
  intro m hl hm' hp hm h
  cases m with
  | nil =>
   have := h p.1
   rw [getT, getT, if_pos rfl] at this
   exact absurd this (hp p (by simp))
  | cons q m =>
   have h1 := List.pairwise_cons.1 hl
   have h2 := List.pairwise_cons.1 hm'
   have n1 : ∀ u, u ≤ p.1 → getT l u = 0 := fun u hu => getT_none (fun x hx => by have := h1.1 x hx; omega)
   have n2 : ∀ u, u ≤ q.1 → getT m u = 0 := fun u hu => getT_none (fun x hx => by have := h2.1 x hx; omega)
   have e1 := h p.1
   have e2 := h q.1
   rw [getT, getT, if_pos rfl] at e1
   rw [getT, getT, if_pos rfl] at e2
   have hpq : p.1 = q.1 := by
    rcases Int.lt_trichotomy p.1 q.1 with hlt | he | hgt
    ·rw [if_neg (by omega), n2 p.1 (by omega)] at e1
     exact absurd e1 (hp p (by simp))
    ·exact he
    ·rw [if_neg (by omega), n1 q.1 (by omega)] at e2
     exact absurd e2.symm (hm q (by simp))
   rw [if_pos hpq.symm] at e1
   have e : p = q := Prod.ext hpq e1
   subst e
   congr 1
   refine ih h1.2 h2.2 (fun x hx => hp x (by simp [hx])) (fun x hx => hm x (by simp [hx])) (fun t => ?_)
   by_cases ht : p.1 = t
   ·rw [n1 t (by omega), n2 t (by omega)]
   ·have := h t
    rw [getT, getT, if_neg ht, if_neg ht] at this
    exact this
def OkT (l : List (Int × Int)) : Prop := SortP l ∧ ∀ p ∈ l, 1 ≤ p.1 ∧ p.1 ≤ 2147483647 ∧ 1 ≤ p.2
theorem mayT_ok {l : List (Int × Int)} (h : mayT l = true) : OkT l ∧ l.length ≤ 4096 ∧ ∀ p ∈ l, p.2 ≤ 1099511627776 := by
 obtain ⟨h1, h2⟩ := mayT_iff.1 h
 have h3 := sortT_mem h2
 exact ⟨⟨sortT_pair h2, fun p hp => by have := h3 p hp; omega⟩, h1, fun p hp => (h3 p hp).2.2.2⟩
theorem ok_sortT {l : List (Int × Int)} : ∀ {last : Int}, SortP l → (∀ p ∈ l, last < p.1 ∧ p.1 ≤ 2147483647 ∧ 1 ≤ p.2 ∧ p.2 ≤ 1099511627776) → sortT last l = true := by
 induction l with
 | nil => intro last _ _; rfl
 | cons q l ih =>
  intro last hs h
  have hq := List.pairwise_cons.1 hs
  exact sortT_cons.2 ⟨h q (by simp), ih hq.2 (fun p hp => ⟨hq.1 p hp, (h p (by simp [hp])).2⟩)⟩
theorem ok_mayT {l : List (Int × Int)} (h : OkT l) (hl : l.length ≤ 4096) (hb : ∀ p ∈ l, p.2 ≤ 1099511627776) : mayT l = true :=
 mayT_iff.2 ⟨hl, ok_sortT h.1 (fun p hp => by have := h.2 p hp; have := hb p hp; omega)⟩
theorem ok_nil : OkT [] := ⟨List.Pairwise.nil, fun p hp => absurd hp (by simp)⟩
theorem getT_in {l : List (Int × Int)} {s : Int} (h : getT l s ≠ 0) : ∃ p ∈ l, p.1 = s ∧ p.2 = getT l s := by
 induction l with
 | nil => exact absurd rfl h
 | cons q l ih =>
  rw [getT] at h ⊢
  split at h
  ·rename_i he
   rw [if_pos he]
   exact ⟨q, by simp, he, rfl⟩
  ·rename_i he
   rw [if_neg he]
   obtain ⟨p, hp, h2⟩ := ih h
   exact ⟨p, by simp [hp], h2⟩
theorem ok_get {l : List (Int × Int)} (h : OkT l) (s : Int) : 0 ≤ getT l s := by
 by_cases h0 : getT l s = 0
 ·omega
 ·obtain ⟨p, hp, _, e⟩ := getT_in h0
  have := (h.2 p hp).2.2
  omega
theorem get_le {l : List (Int × Int)} {B : Int} (hB : 0 ≤ B) (h : ∀ p ∈ l, p.2 ≤ B) (s : Int) : getT l s ≤ B := by
 by_cases h0 : getT l s = 0
 ·omega
 ·obtain ⟨p, hp, _, e⟩ := getT_in h0
  have := h p hp
  omega
theorem le_of_get {l : List (Int × Int)} {B : Int} (hl : OkT l) (h : ∀ s, getT l s ≤ B) : ∀ p ∈ l, p.2 ≤ B := fun p hp => by
 have := h p.1
 rwa [getT_mem hl.1 hp rfl] at this
theorem ok_set {l : List (Int × Int)} (h : OkT l) {s n : Int} (hs : 1 ≤ s ∧ s ≤ 2147483647) (hn : 0 ≤ n) : OkT (setT l s n) :=
 ⟨setT_sort h.1 s n, fun p hp => by
  rcases setT_mem hp with ⟨rfl, h0⟩ | hp
  ·simp only; omega
  ·exact h.2 p hp⟩
theorem ok_ext {l m : List (Int × Int)} (hl : OkT l) (hm : OkT m) (h : ∀ t, getT l t = getT m t) : l = m :=
 extT hl.1 hm.1 (fun p hp => by have := (hl.2 p hp).2.2; omega) (fun p hp => by have := (hm.2 p hp).2.2; omega) h
theorem setT_self {l : List (Int × Int)} (h : OkT l) {s : Int} (hs : 1 ≤ s ∧ s ≤ 2147483647) : setT l s (getT l s) = l :=
 ok_ext (ok_set h hs (ok_get h s)) h (fun t => by
  rw [getT_setT h.1]
  split
  ·rename_i e; rw [e]
  ·rfl)
theorem setT_bound {l : List (Int × Int)} {s n B : Int} (h : ∀ p ∈ l, p.2 ≤ B) (hn : n ≤ B) : ∀ p ∈ setT l s n, p.2 ≤ B := fun p hp => by
 rcases setT_mem hp with ⟨rfl, _⟩ | hp
 ·exact hn
 ·exact h p hp
theorem setT_at {s n : Int} : ∀ (i : Nat) (l : List (Int × Int)), i ≤ l.length → (∀ p ∈ l.take i, p.1 < s) → setT l s n = l.take i ++ setT (l.drop i) s n
 | 0, l, _, _ => by simp
 | i + 1, [], h, _ => absurd h (by simp)
 | i + 1, q :: l, h, hlt => by
  rw [setT, if_pos (hlt q (by simp)), setT_at i l (by simpa using h) (fun p hp => hlt p (by simp [hp]))]
  simp
theorem getT_at {s : Int} : ∀ (i : Nat) (l : List (Int × Int)), i ≤ l.length → (∀ p ∈ l.take i, p.1 < s) → getT l s = getT (l.drop i) s
 | 0, l, _, _ => by simp
 | i + 1, [], h, _ => absurd h (by simp)
 | i + 1, q :: l, h, hlt => by
  have := hlt q (by simp)
  rw [getT, if_neg (by omega), getT_at i l (by simpa using h) (fun p hp => hlt p (by simp [hp]))]
  simp
theorem setT_filter {l : List (Int × Int)} (hs : SortP l) (s : Int) : setT l s 0 = l.filter (fun p => decide (p.1 ≠ s)) := by
 induction l with
 | nil => simp [setT]
 | cons q l ih =>
  have hq := List.pairwise_cons.1 hs
  have hall : s ≤ q.1 → l.filter (fun p => decide (p.1 ≠ s)) = l := fun h => List.filter_eq_self.2 (fun p hp => by have := hq.1 p hp; simp; omega)
  rw [setT, List.filter_cons]
  by_cases h1 : q.1 < s
  ·rw [if_pos h1, if_pos (by simp; omega), ih hq.2]
  ·rw [if_neg h1]
   by_cases h2 : q.1 = s
   ·rw [if_pos h2, if_pos rfl, if_neg (by simp [h2]), hall (by omega)]
   ·rw [if_neg h2, if_pos rfl, if_pos (by simp [h2]), hall (by omega)]
def addT : List (Int × Int) → List (Int × Int) → List (Int × Int)
 | l, [] => l
 | l, q :: ps => addT (setT l q.1 (getT l q.1 + q.2)) ps
def sumT : List (Int × Int) → Int → Int
 | [], _ => 0
 | q :: ps, t => (if q.1 = t then q.2 else 0) + sumT ps t
def GoodP (ps : List (Int × Int)) : Prop := ∀ q ∈ ps, 1 ≤ q.1 ∧ q.1 ≤ 2147483647 ∧ 0 ≤ q.2
theorem good_tail {q : Int × Int} {ps : List (Int × Int)} (h : GoodP (q :: ps)) : (1 ≤ q.1 ∧ q.1 ≤ 2147483647 ∧ 0 ≤ q.2) ∧ GoodP ps := ⟨h q (by simp), fun p hp => h p (by simp [hp])⟩
theorem sum_le {ps : List (Int × Int)} {M : Int} (h : ∀ q ∈ ps, q.2 ≤ M) (hM : 0 ≤ M) (t : Int) : sumT ps t ≤ ps.length * M := by
 induction ps with
 | nil => simp [sumT]
 | cons q ps ih =>
  have h1 := h q (by simp)
  have h2 := ih (fun p hp => h p (by simp [hp]))
  have e : ((q :: ps).length : Int) * M = ps.length * M + M := by
   rw [List.length_cons, Int.natCast_succ, Int.add_mul, Int.one_mul]
  rw [sumT, e]
  split <;> omega
theorem addT_spec {ps : List (Int × Int)} : ∀ {l : List (Int × Int)}, OkT l → GoodP ps → OkT (addT l ps) ∧ (∀ t, getT (addT l ps) t = getT l t + sumT ps t) ∧ (addT l ps).length ≤ l.length + ps.length := by
 induction ps with
 | nil => intro l hl _; exact ⟨hl, fun t => by rw [addT, sumT]; omega, by simp [addT]⟩
 | cons q ps ih =>
  intro l hl hp
  obtain ⟨h1, h2⟩ := good_tail hp
  have hg := ok_get hl q.1
  obtain ⟨i1, i2, i3⟩ := ih (ok_set hl (s := q.1) (n := getT l q.1 + q.2) ⟨h1.1, h1.2.1⟩ (by omega)) h2
  refine ⟨i1, fun t => ?_, ?_⟩
  ·rw [addT, i2, getT_setT hl.1, sumT]
   by_cases h : t = q.1
   ·rw [if_pos h, if_pos h.symm, h]; omega
   ·rw [if_neg h, if_neg (fun e => h e.symm)]; omega
  ·have := setT_len l q.1 (getT l q.1 + q.2)
   rw [addT, List.length_cons]
   omega
end Go.Proofs.Ytpefjfibhjnijaa.U
