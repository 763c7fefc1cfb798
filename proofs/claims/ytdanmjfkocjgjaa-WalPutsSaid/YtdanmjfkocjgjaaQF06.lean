/- The plain law of layers 5 and 6: cells, entries and batches, which there may be, and their bytes; no program in sight. -/
import Derived.Test.YtdanmjfkocjgjaaQV04
import Derived.Test.YtdanmjfkocjgjaaQV07
namespace Go.Proofs.Ytdanmjfkocjgjaa.U
open Go.RowKit Go.Proofs.YtdanmjfkocjgjaaW.PrintWords Go.Proofs.YtdanmjfkocjgjaaW.PrintMore
structure Ent where
 i : Int
 t : Int
 k : Int
 key : ByteArray
 far : Bool
 b : List Int
 s : Int
 a : Int
 n : Int
 u : Int
def zeroP (s a n u : Int) : Bool := decide (s = 0 ∧ a = 0 ∧ n = 0 ∧ u = 0)
def mayC (far : Bool) (b : List Int) (s a n u : Int) : Bool := if far = true then decide (b.length = 0) && mayP s a n else decide (b.length ≤ 32) && zeroP s a n u
def plainC (far : Bool) (b : List Int) (s a n u : Int) : Bool := !far && (decide (b.length = 0) && zeroP s a n u)
def headN (e : Ent) : Bool := decide (1 ≤ e.i ∧ e.i ≤ 2147483647 ∧ 1 ≤ e.t ∧ e.t ≤ 2147483647 ∧ 0 ≤ e.k ∧ e.k ≤ 2 ∧ e.key.size ≤ 64 ∧ (e.key.size = 0 ↔ e.k = 0))
def mayN (e : Ent) : Bool := headN e && ((decide (e.k ≠ 2) || plainC e.far e.b e.s e.a e.n e.u) && mayC e.far e.b e.s e.a e.n e.u)
def batchFrom : Option (Int × Int) → List Ent → Bool
 | _, [] => true
 | none, e :: l => mayN e && batchFrom (some (e.i, e.t)) l
 | some (i, t), e :: l => mayN e && (decide (e.i = i + 1 ∧ t ≤ e.t) && batchFrom (some (e.i, e.t)) l)
def batchB (l : List Ent) : Bool := decide (1 ≤ l.length ∧ l.length ≤ 16) && batchFrom none l
def lightN (l : List Ent) : Bool := decide (l.length ≤ 40) && l.all fun e => decide (e.key.size ≤ 200 ∧ e.b.length ≤ 200)
def putC (far : Bool) (b : List Int) (s a n u : Int) : List Int := if far = true then 1 :: putP s a n u else 0 :: (one b.length ++ b)
def putN (e : Ent) : List Int := one e.t.toNat ++ (e.k :: (one e.key.size ++ (bytesOf e.key ++ (if e.k = 2 then [] else putC e.far e.b e.s e.a e.n e.u))))
def putNs (l : List Ent) : List Int := l.flatMap putN
def firstI : List Ent → Int
 | [] => 0
 | e :: _ => e.i
def putB (l : List Ent) : List Int := puts [(l.length : Int), firstI l] ++ putNs l
theorem putNs_cons (e : Ent) (l : List Ent) : putNs (e :: l) = putN e ++ putNs l := rfl
theorem zero_isr (s a n u : Int) : (s == 0 && (a == 0 && (n == 0 && (u == 0)))) = zeroP s a n u := by
 unfold zeroP
 rw [Bool.eq_iff_iff]
 simp only [Bool.and_eq_true, beq_iff_eq, decide_eq_true_eq]
theorem putN_del {e : Ent} (h : e.k = 2) : putN e = one e.t.toNat ++ (e.k :: (one e.key.size ++ (bytesOf e.key ++ []))) := by
 unfold putN
 rw [if_pos h]
theorem putN_cell {e : Ent} (h : ¬ e.k = 2) : putN e = one e.t.toNat ++ (e.k :: (one e.key.size ++ (bytesOf e.key ++ putC e.far e.b e.s e.a e.n e.u))) := by
 unfold putN
 rw [if_neg h]
theorem headN_iff {e : Ent} : headN e = true ↔ 1 ≤ e.i ∧ e.i ≤ 2147483647 ∧ 1 ≤ e.t ∧ e.t ≤ 2147483647 ∧ 0 ≤ e.k ∧ e.k ≤ 2 ∧ e.key.size ≤ 64 ∧ (e.key.size = 0 ↔ e.k = 0) := by
 unfold headN
 exact decide_eq_true_iff
theorem mayN_iff {e : Ent} : mayN e = true ↔ (1 ≤ e.i ∧ e.i ≤ 2147483647 ∧ 1 ≤ e.t ∧ e.t ≤ 2147483647 ∧ 0 ≤ e.k ∧ e.k ≤ 2 ∧ e.key.size ≤ 64 ∧ (e.key.size = 0 ↔ e.k = 0)) ∧ (e.k ≠ 2 ∨ plainC e.far e.b e.s e.a e.n e.u = true) ∧ mayC e.far e.b e.s e.a e.n e.u = true := by
 unfold mayN
 rw [Bool.and_eq_true, Bool.and_eq_true, Bool.or_eq_true, headN_iff, decide_eq_true_iff]
theorem mayC_len {far : Bool} {b : List Int} {s a n u : Int} (h : mayC far b s a n u = true) : b.length ≤ 32 := by
 unfold mayC at h
 split at h
 ·rw [Bool.and_eq_true, decide_eq_true_iff] at h
  omega
 ·rw [Bool.and_eq_true, decide_eq_true_iff] at h
  omega
theorem mayC_far {b : List Int} {s a n u : Int} (h : mayC true b s a n u = true) : mayP s a n = true := by
 unfold mayC at h
 rw [if_pos rfl, Bool.and_eq_true] at h
 exact h.2
theorem batchFrom_mem {l : List Ent} : ∀ {p : Option (Int × Int)}, batchFrom p l = true → ∀ e ∈ l, mayN e = true := by
 induction l with
 | nil => intro p _ e he; simp at he
 | cons x l ih =>
  intro p h e he
  have h2 : mayN x = true ∧ batchFrom (some (x.i, x.t)) l = true := by
   cases p with
   | none =>
    rw [batchFrom, Bool.and_eq_true] at h
    exact h
   | some q =>
    obtain ⟨i, t⟩ := q
    rw [batchFrom, Bool.and_eq_true, Bool.and_eq_true] at h
    exact ⟨h.1, h.2.2⟩
  rcases List.mem_cons.1 he with rfl | he
  ·exact h2.1
  ·exact ih h2.2 e he
theorem batchB_iff {l : List Ent} : batchB l = true ↔ (1 ≤ l.length ∧ l.length ≤ 16) ∧ batchFrom none l = true := by
 unfold batchB
 rw [Bool.and_eq_true, decide_eq_true_iff]
theorem putP_len {s a n u : Int} (h : mayP s a n = true) : (putP s a n u).length ≤ 34 := by
 have h1 := mayP_iff.1 h
 have := puts_len (l := [s, a, n]) (by
  intro x hx
  simp only [List.mem_cons, List.not_mem_nil, or_false] at hx
  omega)
 unfold putP
 rw [List.length_append]
 have e : (sum4 u).length = 4 := rfl
 simp only [List.length_cons, List.length_nil] at this
 omega
theorem putC_len {far : Bool} {b : List Int} {s a n u : Int} (h : mayC far b s a n u = true) : (putC far b s a n u).length ≤ 43 := by
 have h1 := mayC_len h
 unfold putC
 cases far with
 | true =>
  have := putP_len (u := u) (mayC_far h)
  rw [if_pos rfl, List.length_cons]
  omega
 | false =>
  have := one_len10 (u := b.length) (by omega)
  rw [if_neg (by simp), List.length_cons, List.length_append]
  omega
theorem putN_len {e : Ent} (h : mayN e = true) : (putN e).length ≤ 128 := by
 have h1 := mayN_iff.1 h
 have h2 := putC_len h1.2.2
 have h3 := one_len10 (u := e.t.toNat) (by omega)
 have h4 := one_len10 (u := e.key.size) (by omega)
 unfold putN
 rw [List.length_append, List.length_cons, List.length_append, List.length_append, bytesOf_length]
 split
 ·simp only [List.length_nil]
  omega
 ·omega
end Go.Proofs.Ytdanmjfkocjgjaa.U
