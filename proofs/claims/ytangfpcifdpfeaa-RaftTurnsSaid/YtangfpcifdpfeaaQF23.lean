/- The plain law of layer 23: logs, and what they are with more entries; no program in sight. Entries are told by their indexes and terms alone. -/
import Derived.Test.YtangfpcifdpfeaaQV22
namespace Go.Proofs.Ytangfpcifdpfeaa.U
section
variable {α : Type} (ix tm : α → Int)
def RowsP (l : List α) : Prop := (∀ j (h : j < l.length), 1 ≤ ix l[j] ∧ ix l[j] ≤ 2147483647 ∧ 1 ≤ tm l[j] ∧ tm l[j] ≤ 2147483647) ∧ ∀ j (h : j + 1 < l.length), ix l[j + 1] = ix l[j] + 1 ∧ tm l[j] ≤ tm l[j + 1]
def CheckP (i t : Int) (l : List α) (h1 h2 commit applied : Int) : Prop :=
  ((i = 0 ∧ t = 0) ∨ (1 ≤ i ∧ i ≤ 2147483647 ∧ 1 ≤ t ∧ t ≤ 2147483647)) ∧ l.length ≤ 1000 ∧ RowsP ix tm l ∧ mayH h1 h2 commit = true ∧ (∀ h : 0 < l.length, ix l[0] = i + 1 ∧ t ≤ tm l[0]) ∧ i ≤ applied ∧ applied ≤ commit ∧ commit ≤ i + l.length
variable {ix tm}
theorem rows_ix {l : List α} (h : RowsP ix tm l) : ∀ (j : Nat) (hj : j < l.length), ix l[j] = ix (l[0]'(by omega)) + j := by
  intro j
  induction j with
  | zero => intro hj; simp
  | succ j ih =>
    intro hj
    rw [(h.2 j hj).1, ih (by omega)]
    omega
theorem check_ix {i t : Int} {l : List α} {h1 h2 c a : Int} (h : CheckP ix tm i t l h1 h2 c a) (j : Nat) (hj : j < l.length) : ix l[j] = i + 1 + j := by
  rw [rows_ix h.2.2.1 j hj, (h.2.2.2.2.1 (by omega)).1]
variable (ix tm)
def termR (t : Int) (l : List α) (o : Nat) : Int := match l[o - 1]? with
  | some e => if o = 0 then t else tm e
  | none => t
variable {ix tm}
theorem termR_zero (t : Int) (l : List α) : termR tm t l 0 = t := by
  unfold termR
  split <;> simp
theorem termR_pos (t : Int) (l : List α) {o : Nat} (h0 : 0 < o) (ho : o ≤ l.length) : termR tm t l o = tm (l[o - 1]'(by omega)) := by
  unfold termR
  rw [List.getElem?_eq_getElem (by omega)]
  simp only
  rw [if_neg (by omega)]
end
end Go.Proofs.Ytangfpcifdpfeaa.U
