/- The plain law of layer 21: a move's hops, its bytes, and the move whose bytes they are; no program in sight. -/
import Derived.Test.YtjebpaahpehfnaaQF03
import Derived.Test.YtjebpaahpehfnaaQV04
namespace Go.Proofs.Ytjebpaahpehfnaa.U
open Go.RowKit Go.Proofs.YtjebpaahpehfnaaW.PrintWords Go.Proofs.YtjebpaahpehfnaaW.PrintMore
abbrev Hp := Int × Int × Int × Int × Int
def mayHs (seg : Int) : Int → List Hp → Bool
  | _, [] => true
  | last, h :: l => decide (last < h.1 ∧ h.1 ≤ 2147483647 ∧ seg < h.2.1) && (mayP h.2.1 h.2.2.1 h.2.2.2.1 && mayHs seg h.1 l)
def mayV (seg : Int) (l : List Hp) : Bool := decide (1 ≤ seg ∧ seg ≤ 2147483647 ∧ l.length ≤ 16384) && mayHs seg (-1) l
def hopR (b : List Int) : Option (Hp × List Int) :=
  if (getR b).2.1 = 0 ∨ 2147483647 < (getR b).1 ∨ (pointR (b.drop (getR b).2.1.toNat)).2.2.2.2 = 0 then none
  else some (((getR b).1, (pointR (b.drop (getR b).2.1.toNat)).1, (pointR (b.drop (getR b).2.1.toNat)).2.1, (pointR (b.drop (getR b).2.1.toNat)).2.2.1, (pointR (b.drop (getR b).2.1.toNat)).2.2.2.1), b.drop ((getR b).2.1 + (pointR (b.drop (getR b).2.1.toNat)).2.2.2.2).toNat)
def hopsR : Nat → List Int → Option (List Hp × List Int)
  | 0, b => some ([], b)
  | d + 1, b => match hopR b with
    | none => none
    | some x => (hopsR d x.2).map fun y => (x.1 :: y.1, y.2)
def moveR (b : List Int) : Int × List Hp × Bool :=
  if (firstR b).2.2.2 = 0 ∧ (firstR b).2.2.1 = (b.length : Int) ∧ (firstR b).1 = 4 ∧ (decs 2 (firstR b).2.1).2.2 = true ∧ rd (decs 2 (firstR b).2.1).1 0 ≤ 2147483647 ∧ rd (decs 2 (firstR b).2.1).1 1 ≤ 16384 then
    match hopsR (rd (decs 2 (firstR b).2.1).1 1).toNat ((firstR b).2.1.drop (decs 2 (firstR b).2.1).2.1) with
    | none => (0, [], false)
    | some x => if x.2 = [] ∧ mayV (rd (decs 2 (firstR b).2.1).1 0) x.1 = true then (rd (decs 2 (firstR b).2.1).1 0, x.1, true) else (0, [], false)
  else (0, [], false)
theorem moveR_cases (b : List Int) : moveR b = (0, [], false) ∨ ∃ u l, moveR b = (u, l, true) ∧ mayV u l = true := by
  unfold moveR
  split
  · split
    · exact .inl rfl
    · split
      · rename_i h
        exact .inr ⟨_, _, rfl, h.2⟩
      · exact .inl rfl
  · exact .inl rfl
theorem mayV_iff {s : Int} {l : List Hp} : mayV s l = true ↔ (1 ≤ s ∧ s ≤ 2147483647 ∧ l.length ≤ 16384) ∧ mayHs s (-1) l = true := by
  unfold mayV
  rw [Bool.and_eq_true, decide_eq_true_eq]
theorem pointR_le (b : List Int) : 0 ≤ (pointR b).2.2.2.2 ∧ (pointR b).2.2.2.2 ≤ (b.length : Int) := by
  unfold pointR
  split
  · rename_i h
    simp only
    omega
  · simp
theorem getR_le {b : List Int} (hb : Bytes b) : 0 ≤ (getR b).1 ∧ (getR b).1 < 18446744073709551616 ∧ 0 ≤ (getR b).2.1 ∧ (getR b).2.1 ≤ 10 ∧ (getR b).2.1 ≤ (b.length : Int) ∧ ((getR b).2.2 = 0 ↔ (getR b).2.1 ≠ 0) := by
  unfold getR
  rcases dec_cases b with h | ⟨u, n, h⟩
  · rw [h]
    simp
  · rw [h]
    have := dec_pos hb h
    simp only
    refine ⟨by omega, by omega, by omega, by omega, by omega, by simp; omega⟩
theorem hopR_bytes {b : List Int} (hb : Bytes b) {x : Hp × List Int} (h : hopR b = some x) : Bytes x.2 ∧ x.2.length ≤ b.length := by
  unfold hopR at h
  split at h
  · cases h
  · cases h
    exact ⟨hb.drop _, by simp⟩
end Go.Proofs.Ytjebpaahpehfnaa.U
