/- The plain law of layer 23: logs, and what they are with more entries; no program in sight. Entries are told by their indexes and terms alone. -/
import Derived.Test.YtmcijphmcobjlaaQV22
namespace Go.Proofs.Ytmcijphmcobjlaa.U
section
variable {α : Type} (ix tm : α → Int)
def RowsP (l : List α) : Prop := (∀ j (h : j < l.length), 1 ≤ ix l[j] ∧ ix l[j] ≤ 2147483647 ∧ 1 ≤ tm l[j] ∧ tm l[j] ≤ 2147483647) ∧ ∀ j (h : j + 1 < l.length), ix l[j + 1] = ix l[j] + 1 ∧ tm l[j] ≤ tm l[j + 1]
def CheckP (i t : Int) (l : List α) (h1 h2 commit applied : Int) : Prop :=
 ((i = 0 ∧ t = 0) ∨ (1 ≤ i ∧ i ≤ 2147483647 ∧ 1 ≤ t ∧ t ≤ 2147483647)) ∧ l.length ≤ 1000 ∧ RowsP ix tm l ∧ mayH h1 h2 commit = true ∧ (∀ h : 0 < l.length, ix l[0] = i + 1 ∧ t ≤ tm l[0]) ∧ i ≤ applied ∧ applied ≤ commit ∧ commit ≤ i + l.length
def comm : List α → List α → Nat
 | x :: xs, y :: ys => if tm x = tm y then comm xs ys + 1 else 0
 | _, _ => 0
variable {ix tm}
theorem rows_ix {l : List α} (h : RowsP ix tm l) : ∀ (j : Nat) (hj : j < l.length), ix l[j] = ix (l[0]'(by omega)) + j := by
 intro j
 induction j with
 | zero => intro hj; simp
 | succ j ih =>
  intro hj
  rw [(h.2 j hj).1, ih (by omega)]
  omega
theorem check_ix {i t : Int} {l : List α} {h1 h2 c a : Int} (h : CheckP ix tm i t l h1 h2 c a) (j : Nat) (hj : j < l.length) : ix l[j] = i + 1 + j := by
 rw [rows_ix h.2.2.1 j hj, (h.2.2.2.2.1 (by omega)).1]
theorem rows_take {l : List α} (h : RowsP ix tm l) (k : Nat) : RowsP ix tm (l.take k) := by
 constructor
 ·intro j hj
  rw [List.length_take] at hj
  rw [List.getElem_take]
  exact h.1 j (by omega)
 ·intro j hj
  rw [List.length_take] at hj
  rw [List.getElem_take, List.getElem_take]
  exact h.2 j (by omega)
theorem rows_drop {l : List α} (h : RowsP ix tm l) (k : Nat) : RowsP ix tm (l.drop k) := by
 constructor
 ·intro j hj
  rw [List.length_drop] at hj
  rw [List.getElem_drop]
  exact h.1 (k + j) (by omega)
 ·intro j hj
  rw [List.length_drop] at hj
  rw [List.getElem_drop, List.getElem_drop]
  exact h.2 (k + j) (by omega)
theorem rows_append {a b : List α} (ha : RowsP ix tm a) (hb : RowsP ix tm b) (hj : ∀ (h1 : 0 < a.length) (h2 : 0 < b.length), ix b[0] = ix (a[a.length - 1]'(by omega)) + 1 ∧ tm (a[a.length - 1]'(by omega)) ≤ tm b[0]) : RowsP ix tm (a ++ b) := by
 constructor
 ·intro j h
  rw [List.length_append] at h
  by_cases hc : j < a.length
  ·rw [List.getElem_append_left hc]
   exact ha.1 j hc
  ·rw [List.getElem_append_right (by omega)]
   exact hb.1 (j - a.length) (by omega)
 ·intro j h
  rw [List.length_append] at h
  by_cases hc : j + 1 < a.length
  ·rw [List.getElem_append_left hc, List.getElem_append_left (by omega)]
   exact ha.2 j hc
  ·by_cases hd : j < a.length
   ·have e : j = a.length - 1 := by omega
    subst e
    rw [List.getElem_append_right (by omega), List.getElem_append_left (by omega)]
    have h3 := hj (by omega) (by omega)
    have e2 : a.length - 1 + 1 - a.length = 0 := by omega
    simp only [e2]
    exact h3
   ·rw [List.getElem_append_right (by omega), List.getElem_append_right (by omega)]
    have h3 := hb.2 (j - a.length) (by omega)
    have e2 : j + 1 - a.length = j - a.length + 1 := by omega
    simp only [e2]
    exact h3
theorem comm_le (x y : List α) : comm tm x y ≤ x.length ∧ comm tm x y ≤ y.length := by
 induction x generalizing y with
 | nil => simp [comm]
 | cons a x ih =>
  cases y with
  | nil => simp [comm]
  | cons b y =>
   rw [comm]
   split
   ·have := ih y
    simp only [List.length_cons]
    omega
   ·simp
theorem comm_eq (x y : List α) : ∀ (j : Nat) (h : j < comm tm x y), tm (x[j]'(by have := comm_le (tm := tm) x y; omega)) = tm (y[j]'(by have := comm_le (tm := tm) x y; omega)) := by
 induction x generalizing y with
 | nil => intro j h; simp [comm] at h
 | cons a x ih =>
  cases y with
  | nil => intro j h; simp [comm] at h
  | cons b y =>
   intro j h
   rw [comm] at h
   split at h
   ·rename_i he
    cases j with
    | zero => exact he
    | succ j => exact ih y j (by omega)
   ·omega
theorem comm_nil (y : List α) : comm tm [] y = 0 := by simp [comm]
variable (ix tm)
def termR (t : Int) (l : List α) (o : Nat) : Int := match l[o - 1]? with
 | some e => if o = 0 then t else tm e
 | none => t
def OkP (i t : Int) (l : List α) (h1 h2 commit applied : Int) (m : List α) (o : Nat) : Prop :=
 CheckP ix tm i t l h1 h2 commit applied ∧ RowsP ix tm m ∧ (∃ h : 0 < m.length, ix m[0] = i + 1 + o ∧ termR tm t l o ≤ tm m[0]) ∧ o ≤ l.length ∧
  (comm tm (l.drop o) m = m.length ∨ (commit < i + 1 + o + comm tm (l.drop o) m ∧ o + m.length ≤ 1000))
def putL (l m : List α) (o : Nat) : List α := if comm tm (l.drop o) m = m.length then l else l.take (o + comm tm (l.drop o) m) ++ m.drop (comm tm (l.drop o) m)
variable {ix tm}
theorem termR_zero (t : Int) (l : List α) : termR tm t l 0 = t := by
 unfold termR
 split <;> simp
theorem termR_pos (t : Int) (l : List α) {o : Nat} (h0 : 0 < o) (ho : o ≤ l.length) : termR tm t l o = tm (l[o - 1]'(by omega)) := by
 unfold termR
 rw [List.getElem?_eq_getElem (by omega)]
 simp only
 rw [if_neg (by omega)]
theorem put_check {i t h1 h2 c a : Int} {l m : List α} {o : Nat} (hx : OkP ix tm i t l h1 h2 c a m o) : CheckP ix tm i t (putL tm l m o) h1 h2 c a := by
 obtain ⟨hc, hr, ⟨hm0, hi0, ht0⟩, hol, hcase⟩ := hx
 have hmi := rows_ix hr
 have hs := comm_le (tm := tm) (l.drop o) m
 have hse : ∀ j, j < comm tm (l.drop o) m → ∀ (q1 : j < (l.drop o).length) (q2 : j < m.length), tm (l.drop o)[j] = tm m[j] := fun j h _ _ => comm_eq (tm := tm) (l.drop o) m j h
 unfold putL
 rw [List.length_drop] at hs
 generalize hS : comm tm (l.drop o) m = s at *
 split
 ·exact hc
 rename_i hsm
 have hcase2 : c < i + 1 + o + s ∧ o + m.length ≤ 1000 := by
  rcases hcase with h | h
  ·exact absurd h hsm
  ·exact h
 have hyl : (l.take (o + s) ++ m.drop s).length = o + m.length := by
  rw [List.length_append, List.length_take, List.length_drop]
  omega
 have hj0 : ∀ h : s < m.length, termR tm t l (o + s) ≤ tm (m[s]'h) := by
  intro h
  by_cases hs0 : s = 0
  ·subst hs0
   exact ht0
  ·rw [termR_pos t l (by omega) (by omega)]
   have h3 := hse (s - 1) (by omega) (by rw [List.length_drop]; omega) (by omega)
   rw [List.getElem_drop] at h3
   have e : o + (s - 1) = o + s - 1 := by omega
   simp only [e] at h3
   have h4 := (hr.2 (s - 1) (by omega)).2
   have e2 : s - 1 + 1 = s := by omega
   simp only [e2] at h4
   omega
 refine ⟨hc.1, by omega, rows_append (rows_take hc.2.2.1 _) (rows_drop hr s) ?_, hc.2.2.2.1, ?_, hc.2.2.2.2.2.1, hc.2.2.2.2.2.2.1, by rw [hyl]; omega⟩
 ·intro q1 q2
  rw [List.length_take] at q1
  have el : (l.take (o + s)).length = o + s := by rw [List.length_take]; omega
  have h5 := hj0 (by omega)
  rw [termR_pos t l (by omega) (by omega)] at h5
  simp only [el, List.getElem_drop, List.getElem_take]
  have h6 := check_ix hc (o + s - 1) (by omega)
  have h7 := hmi s (by omega)
  rw [h6]
  simp only [Nat.add_zero]
  refine ⟨by rw [h7, hi0]; omega, h5⟩
 ·intro q
  by_cases hos : 0 < o + s
  ·rw [List.getElem_append_left (by rw [List.length_take]; omega), List.getElem_take]
   exact hc.2.2.2.2.1 (by omega)
  ·have ho : o = 0 := by omega
   have hs0 : s = 0 := by omega
   subst ho
   subst hs0
   have h5 := hj0 (by omega)
   rw [termR_zero] at h5
   simp only [List.take_zero, List.nil_append, List.drop_zero, Nat.add_zero]
   exact ⟨by rw [hi0]; omega, h5⟩
end
end Go.Proofs.Ytmcijphmcobjlaa.U
