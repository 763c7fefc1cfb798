/- The plain law of layer 4: which points there may be, their bytes, and which point bytes begin with; no program in sight. -/
import Derived.Test.YtapamplgajkjlaaQV02
namespace Go.Proofs.Ytapamplgajkjlaa.U
open Go.RowKit Go.Proofs.YtapamplgajkjlaaW.PrintWords Go.Proofs.YtapamplgajkjlaaW.PrintMore
def sum4 (s : Int) : List Int := [s % 256, s / 256 % 256, s / 65536 % 256, s / 16777216 % 256]
def sumAt (b : List Int) (i : Nat) : Int := rd b (i : Int) + 256 * rd b ((i : Int) + 1) + 65536 * rd b ((i : Int) + 2) + 16777216 * rd b ((i : Int) + 3)
theorem sum4_bytes (s : Int) : Bytes (sum4 s) := by
  intro x hx
  simp [sum4] at hx
  omega
theorem rd_at (a b : List Int) (n : Int) (i : Nat) (h : n = (a.length : Int) + i) : rd (a ++ b) n = b.getD i 0 := by
  subst h
  have e : ((a.length : Int) + (i : Int)) = ((a.length + i : Nat) : Int) := by omega
  rw [e, rd_nat]
  simp only [List.getD_eq_getElem?_getD]
  rw [List.getElem?_append_right (by omega), Nat.add_sub_cancel_left]
theorem sumAt_sum4 (a m : List Int) (s : Int) (h0 : 0 ≤ s) (h1 : s < 4294967296) : sumAt (a ++ (sum4 s ++ m)) a.length = s := by
  unfold sumAt
  rw [rd_at a _ _ 0 (by omega), rd_at a _ _ 1 (by omega), rd_at a _ _ 2 (by omega), rd_at a _ _ 3 (by omega)]
  simp [sum4]
  omega
end Go.Proofs.Ytapamplgajkjlaa.U
