/- The plain law of layer 7: a number's digits, and their order; no program in sight. -/
import Derived.Test.YtmcijphmcobjlaaQEv
import Derived.Tactics
namespace Go.Proofs.Ytmcijphmcobjlaa.U
open Go.RowKit Go.Proofs.YtmcijphmcobjlaaW.PrintWords
def u8s (l : List Int) : List UInt8 := l.map fun n => UInt8.ofNat n.toNat
theorem strOfNums_toList (l : List Int) : (strOfNums l).toList = u8s l := by
 rw [ByteArray.toList_eq]
 simp [strOfNums, u8s]
theorem strOfNums_data (l : List Int) : (strOfNums l).data.toList = u8s l := by
 simp [strOfNums, u8s]
theorem u8s_bytes (s : ByteArray) : u8s (bytesOf s) = s.data.toList := by
 unfold u8s bytesOf
 rw [List.map_map]
 conv => rhs; rw [← List.map_id s.data.toList]
 apply List.map_congr_left
 intro b _
 simp
theorem bytes_str {l : List Int} (h : Bytes l) : bytesOf (strOfNums l) = l := by
 unfold bytesOf
 rw [strOfNums_data]
 unfold u8s
 rw [List.map_map]
 conv => rhs; rw [← List.map_id l]
 apply List.map_congr_left
 intro x hx
 have := h x hx
 simp
 omega
theorem toList_eq_iff (s t : ByteArray) : s.toList = t.toList ↔ bytesOf s = bytesOf t := by
 rw [ByteArray.toList_eq, ByteArray.toList_eq]
 constructor
 ·intro h
  unfold bytesOf
  rw [h]
 ·intro h
  have := congrArg u8s h
  rw [u8s_bytes, u8s_bytes] at this
  exact this
theorem toList_lit (s : ByteArray) (l : List Int) (h : Bytes l) : s.toList = u8s l ↔ bytesOf s = l := by
 have := toList_eq_iff s (strOfNums l)
 rw [strOfNums_toList, bytes_str h] at this
 exact this
def freshB : List Int := [114, 111, 115, 116, 101, 114, 46, 110, 101, 119]
end Go.Proofs.Ytmcijphmcobjlaa.U
