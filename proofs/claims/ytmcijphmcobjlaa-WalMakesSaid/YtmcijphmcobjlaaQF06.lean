/- The plain law of layers 5 and 6: cells, entries and batches, which there may be, and their bytes; no program in sight. -/
import Derived.Test.YtmcijphmcobjlaaQV04
import Derived.Test.YtmcijphmcobjlaaQV07
namespace Go.Proofs.Ytmcijphmcobjlaa.U
open Go.RowKit Go.Proofs.YtmcijphmcobjlaaW.PrintWords Go.Proofs.YtmcijphmcobjlaaW.PrintMore
structure Ent where
 i : Int
 t : Int
 k : Int
 key : ByteArray
 far : Bool
 b : List Int
 s : Int
 a : Int
 n : Int
 u : Int
def zeroP (s a n u : Int) : Bool := decide (s = 0 ∧ a = 0 ∧ n = 0 ∧ u = 0)
def mayC (far : Bool) (b : List Int) (s a n u : Int) : Bool := if far = true then decide (b.length = 0) && mayP s a n else decide (b.length ≤ 32) && zeroP s a n u
def plainC (far : Bool) (b : List Int) (s a n u : Int) : Bool := !far && (decide (b.length = 0) && zeroP s a n u)
def headN (e : Ent) : Bool := decide (1 ≤ e.i ∧ e.i ≤ 2147483647 ∧ 1 ≤ e.t ∧ e.t ≤ 2147483647 ∧ 0 ≤ e.k ∧ e.k ≤ 2 ∧ e.key.size ≤ 64 ∧ (e.key.size = 0 ↔ e.k = 0))
def mayN (e : Ent) : Bool := headN e && ((decide (e.k ≠ 2) || plainC e.far e.b e.s e.a e.n e.u) && mayC e.far e.b e.s e.a e.n e.u)
def batchFrom : Option (Int × Int) → List Ent → Bool
 | _, [] => true
 | none, e :: l => mayN e && batchFrom (some (e.i, e.t)) l
 | some (i, t), e :: l => mayN e && (decide (e.i = i + 1 ∧ t ≤ e.t) && batchFrom (some (e.i, e.t)) l)
def batchB (l : List Ent) : Bool := decide (1 ≤ l.length ∧ l.length ≤ 16) && batchFrom none l
def lightN (l : List Ent) : Bool := decide (l.length ≤ 40) && l.all fun e => decide (e.key.size ≤ 200 ∧ e.b.length ≤ 200)
theorem zero_isr (s a n u : Int) : (s == 0 && (a == 0 && (n == 0 && (u == 0)))) = zeroP s a n u := by
 unfold zeroP
 rw [Bool.eq_iff_iff]
 simp only [Bool.and_eq_true, beq_iff_eq, decide_eq_true_eq]
theorem headN_iff {e : Ent} : headN e = true ↔ 1 ≤ e.i ∧ e.i ≤ 2147483647 ∧ 1 ≤ e.t ∧ e.t ≤ 2147483647 ∧ 0 ≤ e.k ∧ e.k ≤ 2 ∧ e.key.size ≤ 64 ∧ (e.key.size = 0 ↔ e.k = 0) := by
 unfold headN
 exact decide_eq_true_iff
theorem mayN_iff {e : Ent} : mayN e = true ↔ (1 ≤ e.i ∧ e.i ≤ 2147483647 ∧ 1 ≤ e.t ∧ e.t ≤ 2147483647 ∧ 0 ≤ e.k ∧ e.k ≤ 2 ∧ e.key.size ≤ 64 ∧ (e.key.size = 0 ↔ e.k = 0)) ∧ (e.k ≠ 2 ∨ plainC e.far e.b e.s e.a e.n e.u = true) ∧ mayC e.far e.b e.s e.a e.n e.u = true := by
 unfold mayN
 rw [Bool.and_eq_true, Bool.and_eq_true, Bool.or_eq_true, headN_iff, decide_eq_true_iff]
theorem batchFrom_mem {l : List Ent} : ∀ {p : Option (Int × Int)}, batchFrom p l = true → ∀ e ∈ l, mayN e = true := by
 induction l with
 | nil => intro p _ e he; simp at he
 | cons x l ih =>
  intro p h e he
  have h2 : mayN x = true ∧ batchFrom (some (x.i, x.t)) l = true := by
   cases p with
   | none =>
    rw [batchFrom, Bool.and_eq_true] at h
    exact h
   | some q =>
    obtain ⟨i, t⟩ := q
    rw [batchFrom, Bool.and_eq_true, Bool.and_eq_true] at h
    exact ⟨h.1, h.2.2⟩
  rcases List.mem_cons.1 he with rfl | he
  ·exact h2.1
  ·exact ih h2.2 e he
theorem batchB_iff {l : List Ent} : batchB l = true ↔ (1 ≤ l.length ∧ l.length ≤ 16) ∧ batchFrom none l = true := by
 unfold batchB
 rw [Bool.and_eq_true, decide_eq_true_iff]
end Go.Proofs.Ytmcijphmcobjlaa.U
