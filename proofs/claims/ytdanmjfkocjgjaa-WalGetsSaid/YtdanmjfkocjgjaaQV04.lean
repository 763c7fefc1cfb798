/- The plain law of layer 4: which points there may be, their bytes, and which point bytes begin with; no program in sight. -/
import Derived.Test.YtdanmjfkocjgjaaQV02
namespace Go.Proofs.Ytdanmjfkocjgjaa.U
open Go.RowKit Go.Proofs.YtdanmjfkocjgjaaW.PrintWords Go.Proofs.YtdanmjfkocjgjaaW.PrintMore
def mayP (seg at_ len : Int) : Bool := decide (1 ≤ seg ∧ seg ≤ 2147483647 ∧ 0 ≤ at_ ∧ at_ ≤ 2147483647 ∧ 0 ≤ len ∧ len ≤ 4096)
theorem mayP_iff {seg at_ len : Int} : mayP seg at_ len = true ↔ 1 ≤ seg ∧ seg ≤ 2147483647 ∧ 0 ≤ at_ ∧ at_ ≤ 2147483647 ∧ 0 ≤ len ∧ len ≤ 4096 := by
  unfold mayP
  exact decide_eq_true_iff
def sumAt (b : List Int) (i : Nat) : Int := rd b (i : Int) + 256 * rd b ((i : Int) + 1) + 65536 * rd b ((i : Int) + 2) + 16777216 * rd b ((i : Int) + 3)
theorem sumAt_range {b : List Int} (hb : Bytes b) {i : Nat} (h : i + 4 ≤ b.length) : 0 ≤ sumAt b i ∧ sumAt b i < 4294967296 := by
  have h0 := hb.rd (i := (i : Int)) (by omega) (by omega)
  have h1 := hb.rd (i := (i : Int) + 1) (by omega) (by omega)
  have h2 := hb.rd (i := (i : Int) + 2) (by omega) (by omega)
  have h3 := hb.rd (i := (i : Int) + 3) (by omega) (by omega)
  unfold sumAt
  omega
def pointR (b : List Int) : Int × Int × Int × Int × Int :=
  if (decs 3 b).2.2 = true ∧ (decs 3 b).2.1 + 4 ≤ b.length ∧ mayP (rd (decs 3 b).1 0) (rd (decs 3 b).1 1) (rd (decs 3 b).1 2) = true then
    (rd (decs 3 b).1 0, rd (decs 3 b).1 1, rd (decs 3 b).1 2, sumAt b (decs 3 b).2.1, ((decs 3 b).2.1 : Int) + 4)
  else (0, 0, 0, 0, 0)
def maxl : List Int → Int
  | [] => 0
  | x :: r => r.foldl mx x
end Go.Proofs.Ytdanmjfkocjgjaa.U
