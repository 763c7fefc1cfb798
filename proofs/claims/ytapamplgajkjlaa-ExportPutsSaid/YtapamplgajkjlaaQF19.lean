/- The plain law of layer 19: values behind one another as frames, the points of what stands in bytes; no program in sight. -/
import Derived.Test.YtapamplgajkjlaaQF03
namespace Go.Proofs.Ytapamplgajkjlaa.U
open Go.RowKit Go.Proofs.YtapamplgajkjlaaW.PrintWords Go.Proofs.YtapamplgajkjlaaW.PrintMore
theorem putF_bytes {k : Int} {body : List Int} (h : mayF k body = true) (hb : Bytes body) : Bytes (putF k body) := by
  have hm := mayF_iff.1 h
  intro x hx
  unfold putF at hx
  rw [List.mem_append, List.mem_cons, List.mem_append] at hx
  rcases hx with hx | rfl | hx | hx
  · exact one_bytes _ x hx
  · omega
  · exact hb x hx
  · exact sum4_bytes _ x hx
end Go.Proofs.Ytapamplgajkjlaa.U
