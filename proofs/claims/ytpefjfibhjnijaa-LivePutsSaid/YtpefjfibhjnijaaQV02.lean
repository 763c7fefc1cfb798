/- The plain law of layer 2: a number's bytes, and the number that bytes begin with; no program in sight. -/
import Derived.Test.YtpefjfibhjnijaaQEv
namespace Go.Proofs.Ytpefjfibhjnijaa.U
open Go.RowKit Go.Proofs.YtpefjfibhjnijaaW.PrintWords
def one (u : Nat) : List Int := if h : u < 128 then [(u : Int)] else ((u % 128 + 128 : Nat) : Int) :: one (u / 128)
termination_by u
decreasing_by omega
def cap (i : Nat) : Nat := 2 ^ (64 - 7 * i)
def puts (l : List Int) : List Int := l.flatMap fun u => one u.toNat
def val : List Int → Nat
 | [] => 0
 | c :: r => c.toNat % 128 + 128 * val r
end Go.Proofs.Ytpefjfibhjnijaa.U
