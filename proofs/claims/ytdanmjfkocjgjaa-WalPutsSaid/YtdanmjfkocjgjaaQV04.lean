/- The plain law of layer 4: which points there may be, their bytes, and which point bytes begin with; no program in sight. -/
import Derived.Test.YtdanmjfkocjgjaaQV02
namespace Go.Proofs.Ytdanmjfkocjgjaa.U
open Go.RowKit Go.Proofs.YtdanmjfkocjgjaaW.PrintWords Go.Proofs.YtdanmjfkocjgjaaW.PrintMore
def mayP (seg at_ len : Int) : Bool := decide (1 ≤ seg ∧ seg ≤ 2147483647 ∧ 0 ≤ at_ ∧ at_ ≤ 2147483647 ∧ 0 ≤ len ∧ len ≤ 4096)
theorem mayP_iff {seg at_ len : Int} : mayP seg at_ len = true ↔ 1 ≤ seg ∧ seg ≤ 2147483647 ∧ 0 ≤ at_ ∧ at_ ≤ 2147483647 ∧ 0 ≤ len ∧ len ≤ 4096 := by
 unfold mayP
 exact decide_eq_true_iff
def sum4 (s : Int) : List Int := [s % 256, s / 256 % 256, s / 65536 % 256, s / 16777216 % 256]
def sumAt (b : List Int) (i : Nat) : Int := rd b (i : Int) + 256 * rd b ((i : Int) + 1) + 65536 * rd b ((i : Int) + 2) + 16777216 * rd b ((i : Int) + 3)
theorem sum4_bytes (s : Int) : Bytes (sum4 s) := by
 intro x hx
 simp [sum4] at hx
 omega
theorem rd_at (a b : List Int) (n : Int) (i : Nat) (h : n = (a.length : Int) + i) : rd (a ++ b) n = b.getD i 0 := by
 subst h
 have e : ((a.length : Int) + (i : Int)) = ((a.length + i : Nat) : Int) := by omega
 rw [e, rd_nat]
 simp only [List.getD_eq_getElem?_getD]
 rw [List.getElem?_append_right (by omega), Nat.add_sub_cancel_left]
theorem sumAt_sum4 (a m : List Int) (s : Int) (h0 : 0 ≤ s) (h1 : s < 4294967296) : sumAt (a ++ (sum4 s ++ m)) a.length = s := by
 unfold sumAt
 rw [rd_at a _ _ 0 (by omega), rd_at a _ _ 1 (by omega), rd_at a _ _ 2 (by omega), rd_at a _ _ 3 (by omega)]
 simp [sum4]
 omega
theorem sumAt_range {b : List Int} (hb : Bytes b) {i : Nat} (h : i + 4 ≤ b.length) : 0 ≤ sumAt b i ∧ sumAt b i < 4294967296 := by
 have h0 := hb.rd (i := (i : Int)) (by omega) (by omega)
 have h1 := hb.rd (i := (i : Int) + 1) (by omega) (by omega)
 have h2 := hb.rd (i := (i : Int) + 2) (by omega) (by omega)
 have h3 := hb.rd (i := (i : Int) + 3) (by omega) (by omega)
 unfold sumAt
 omega
def putP (seg at_ len sum : Int) : List Int := puts [seg, at_, len] ++ sum4 sum
def pointR (b : List Int) : Int × Int × Int × Int × Int :=
 if (decs 3 b).2.2 = true ∧ (decs 3 b).2.1 + 4 ≤ b.length ∧ mayP (rd (decs 3 b).1 0) (rd (decs 3 b).1 1) (rd (decs 3 b).1 2) = true then
  (rd (decs 3 b).1 0, rd (decs 3 b).1 1, rd (decs 3 b).1 2, sumAt b (decs 3 b).2.1, ((decs 3 b).2.1 : Int) + 4)
 else (0, 0, 0, 0, 0)
theorem pointR_put {seg at_ len sum : Int} (h : mayP seg at_ len = true) (h0 : 0 ≤ sum) (h1 : sum < 4294967296) (m : List Int) : pointR (putP seg at_ len sum ++ m) = (seg, at_, len, sum, ((putP seg at_ len sum).length : Int)) := by
 have hm := mayP_iff.1 h
 have hd := decs_puts (l := [seg, at_, len]) (by
  intro u hu
  simp at hu
  omega) (sum4 sum ++ m)
 have e : putP seg at_ len sum ++ m = puts [seg, at_, len] ++ (sum4 sum ++ m) := by
  unfold putP
  rw [List.append_assoc]
 rw [e]
 unfold pointR
 simp only [List.length_cons, List.length_nil] at hd
 rw [hd]
 simp only
 have r0 : rd [seg, at_, len] 0 = seg := rfl
 have r1 : rd [seg, at_, len] 1 = at_ := rfl
 have r2 : rd [seg, at_, len] 2 = len := rfl
 have l4 : (sum4 sum).length = 4 := rfl
 rw [r0, r1, r2, sumAt_sum4 _ _ _ h0 h1, if_pos ⟨trivial, by rw [List.length_append, List.length_append, l4]; omega, h⟩]
 unfold putP
 rw [List.length_append, l4]
 rfl
def maxl : List Int → Int
 | [] => 0
 | x :: r => r.foldl mx x
end Go.Proofs.Ytdanmjfkocjgjaa.U
