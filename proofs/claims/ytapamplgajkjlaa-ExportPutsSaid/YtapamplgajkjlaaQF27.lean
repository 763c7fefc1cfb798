/- The plain law of layer 27: a stream of pairs as frames; no program in sight. -/
import Derived.Test.YtapamplgajkjlaaQF19
import Derived.Test.YtapamplgajkjlaaQV07
namespace Go.Proofs.Ytapamplgajkjlaa.U
open Go.RowKit Go.Proofs.YtapamplgajkjlaaW.PrintWords Go.Proofs.YtapamplgajkjlaaW.PrintMore
abbrev PairT := ByteArray × List Int
def bodyP (p : PairT) : List Int := one p.1.size ++ (bytesOf p.1 ++ p.2)
def sortedFrom : List UInt8 → List PairT → Bool
  | _, [] => true
  | last, p :: l => Op.bytesLess last p.1.toList && (decide (p.1.size ≤ 64) && (decide (p.2.length ≤ 4096) && sortedFrom p.1.toList l))
def sortedP (l : List PairT) : Bool := decide (l.length ≤ 4096) && sortedFrom [] l
def mayE (i t : Int) (l : List PairT) : Bool := decide (1 ≤ i ∧ i ≤ 2147483647 ∧ 1 ≤ t ∧ t ≤ 2147483647) && sortedP l
theorem mayE_iff {i t : Int} {l : List PairT} : mayE i t l = true ↔ (1 ≤ i ∧ i ≤ 2147483647 ∧ 1 ≤ t ∧ t ≤ 2147483647) ∧ sortedP l = true := by
  unfold mayE
  rw [Bool.and_eq_true, decide_eq_true_eq]
theorem sortedFrom_mem {l : List PairT} : ∀ {last : List UInt8}, sortedFrom last l = true → ∀ p ∈ l, p.1.size ≤ 64 ∧ p.2.length ≤ 4096 := by
  induction l with
  | nil => intro last _ p hp; simp at hp
  | cons q l ih =>
    intro last h p hp
    rw [sortedFrom, Bool.and_eq_true, Bool.and_eq_true, Bool.and_eq_true, decide_eq_true_eq, decide_eq_true_eq] at h
    rcases List.mem_cons.1 hp with rfl | hp
    · exact ⟨h.2.1, h.2.2.1⟩
    · exact ih h.2.2.2 p hp
theorem sortedP_mem {l : List PairT} (h : sortedP l = true) : l.length ≤ 4096 ∧ ∀ p ∈ l, p.1.size ≤ 64 ∧ p.2.length ≤ 4096 := by
  unfold sortedP at h
  rw [Bool.and_eq_true, decide_eq_true_eq] at h
  exact ⟨h.1, sortedFrom_mem h.2⟩
def framesE (i t : Int) (l : List PairT) : List (Int × List Int) := (21, puts [i, t, (l.length : Int)]) :: l.map fun p => (22, bodyP p)
def footF (b : List Int) : Int × List Int := (23, sum4 (crcOf b : Int))
def allE (i t : Int) (l : List PairT) : List (Int × List Int) := framesE i t l ++ [footF (putsF (framesE i t l))]
def putE (i t : Int) (l : List PairT) : List Int := putsF (allE i t l)
theorem bodyP_len (p : PairT) (h : p.1.size ≤ 64) : (bodyP p).length ≤ 74 + p.2.length := by
  have := one_len10 (u := p.1.size) (by omega)
  unfold bodyP
  rw [List.length_append, List.length_append, bytesOf_length]
  omega
theorem bodyP_bytes {p : PairT} (h : Bytes p.2) : Bytes (bodyP p) := (one_bytes _).append ((bytesOf_range _).append h)
theorem head_len (i t : Int) (n : Nat) (hi : 0 ≤ i ∧ i ≤ 2147483647) (ht : 0 ≤ t ∧ t ≤ 2147483647) (hn : n ≤ 4096) : (puts [i, t, (n : Int)]).length ≤ 30 := by
  have := puts_len (l := [i, t, (n : Int)]) (by
    intro u hu
    simp only [List.mem_cons, List.not_mem_nil, or_false] at hu
    omega)
  simpa using this
theorem allF_all {l : List (Int × List Int)} (h : ∀ f ∈ l, mayF f.1 f.2 = true) : allF l = true := by
  unfold allF
  rw [List.all_eq_true]
  exact h
theorem allF_mem {l : List (Int × List Int)} (h : allF l = true) : ∀ f ∈ l, mayF f.1 f.2 = true := by
  unfold allF at h
  rw [List.all_eq_true] at h
  exact h
theorem allE_may {i t : Int} {l : List PairT} (h : mayE i t l = true) : allF (allE i t l) = true := by
  obtain ⟨h1, h2⟩ := mayE_iff.1 h
  obtain ⟨h3, h4⟩ := sortedP_mem h2
  have h5 := head_len i t l.length (by omega) (by omega) h3
  refine allF_all fun f hf => ?_
  unfold allE framesE at hf
  simp only [List.cons_append, List.mem_cons, List.mem_append, List.mem_map, List.not_mem_nil, or_false] at hf
  rcases hf with rfl | ⟨p, hp, rfl⟩ | rfl
  · exact mayF_iff.2 ⟨by omega, by omega, by simp only; omega⟩
  · have := bodyP_len p (h4 p hp).1
    have := (h4 p hp).2
    exact mayF_iff.2 ⟨by omega, by omega, by simp only; omega⟩
  · exact mayF_iff.2 ⟨by simp [footF], by simp [footF], by simp [footF, sum4]⟩
def pairR (b : List Int) : Option PairT := match dec 0 b with
  | none => none
  | some (u, n) => if 64 < u then none else if b.length < n + u then none else some (strOfNums ((b.drop n).take u), b.drop (n + u))
def pairsR : List (Int × List Int) → Option (List PairT)
  | [] => some []
  | f :: fs => match pairR f.2 with
    | none => none
    | some p => (pairsR fs).map fun l => p :: l
def getE (b : List Int) : Int × Int × List PairT × Int :=
  match (scanR (b.length + 1) 0 b).1 with
  | [] => (0, 0, [], 2)
  | f :: fs =>
    if fs = [] ∨ f.1 ≠ 21 ∨ (decs 3 f.2).2.2 = false ∨ 2147483647 < rd (decs 3 f.2).1 0 ∨ 2147483647 < rd (decs 3 f.2).1 1 then (0, 0, [], 2)
    else match pairsR fs.dropLast with
      | none => (0, 0, [], 2)
      | some l => if mayE (rd (decs 3 f.2).1 0) (rd (decs 3 f.2).1 1) l = true ∧ putE (rd (decs 3 f.2).1 0) (rd (decs 3 f.2).1 1) l = b then (rd (decs 3 f.2).1 0, rd (decs 3 f.2).1 1, l, 0) else (0, 0, [], 2)
theorem pairR_body {p : PairT} (h : p.1.size ≤ 64) : pairR (bodyP p) = some p := by
  have hd := dec_one p.1.size 0 (bytesOf p.1 ++ p.2) (by omega) (by rw [cap_zero]; omega) (by omega)
  unfold pairR bodyP
  rw [hd]
  simp only
  rw [if_neg (by omega), if_neg (by rw [List.length_append, List.length_append, bytesOf_length]; omega)]
  have e1 : ((one p.1.size ++ (bytesOf p.1 ++ p.2)).drop (one p.1.size).length).take p.1.size = bytesOf p.1 := by
    rw [List.drop_left]
    have := bytesOf_length p.1
    rw [← this, List.take_left]
  have e2 : (one p.1.size ++ (bytesOf p.1 ++ p.2)).drop ((one p.1.size).length + p.1.size) = p.2 := by
    rw [← List.drop_drop, List.drop_left]
    have := bytesOf_length p.1
    rw [← this, List.drop_left]
  rw [e1, e2, str_bytes]
theorem pairsR_bodies {l : List PairT} (h : ∀ p ∈ l, p.1.size ≤ 64) : pairsR (l.map fun p => (22, bodyP p)) = some l := by
  induction l with
  | nil => rfl
  | cons p l ih =>
    rw [List.map_cons, pairsR]
    simp only
    rw [pairR_body (h p (by simp)), ih fun q hq => h q (by simp [hq])]
    rfl
theorem getE_put {i t : Int} {l : List PairT} (h : mayE i t l = true) : getE (putE i t l) = (i, t, l, 0) := by
  obtain ⟨h1, h2⟩ := mayE_iff.1 h
  obtain ⟨h3, h4⟩ := sortedP_mem h2
  have hcnt : ∀ l : List (Int × List Int), l.length ≤ (putsF l).length := by
    intro l
    induction l with
    | nil => simp
    | cons f l ih =>
      rw [putsF_cons, List.length_append, List.length_cons]
      have := putF_pos f.1 f.2
      omega
  have hs := scanR_puts (allE i t l) ((putE i t l).length + 1) 0 [] (allE_may h) (by have := hcnt (allE i t l); unfold putE; omega) (by rw [firstR_nil]; simp)
  rw [List.append_nil] at hs
  have hd := decs_puts (l := [i, t, (l.length : Int)]) (by
    intro u hu
    simp only [List.mem_cons, List.not_mem_nil, or_false] at hu
    omega) []
  rw [List.append_nil] at hd
  have hd : decs 3 (puts [i, t, (l.length : Int)]) = ([i, t, (l.length : Int)], (puts [i, t, (l.length : Int)]).length, true) := hd
  have e1 : allE i t l = (21, puts [i, t, (l.length : Int)]) :: ((l.map fun p => (22, bodyP p)) ++ [footF (putsF (framesE i t l))]) := rfl
  have e2 : (scanR ((putE i t l).length + 1) 0 (putE i t l)).1 = (21, puts [i, t, (l.length : Int)]) :: ((l.map fun p => (22, bodyP p)) ++ [footF (putsF (framesE i t l))]) := by
    have : (scanR ((putE i t l).length + 1) 0 (putE i t l)).1 = allE i t l := congrArg Prod.fst hs
    rw [this, e1]
  have r0 : rd [i, t, (l.length : Int)] 0 = i := rfl
  have r1 : rd [i, t, (l.length : Int)] 1 = t := rfl
  unfold getE
  rw [e2]
  simp only
  rw [hd]
  simp only
  rw [r0, r1, if_neg (by simp; omega), List.dropLast_concat, pairsR_bodies fun p hp => (h4 p hp).1]
  simp only
  rw [if_pos ⟨h, trivial⟩]
theorem putsF_count (l : List (Int × List Int)) : l.length ≤ (putsF l).length := by
  induction l with
  | nil => simp
  | cons f l ih =>
    rw [putsF_cons, List.length_append, List.length_cons]
    have := putF_pos f.1 f.2
    omega
theorem putE_len {i t : Int} {l : List PairT} (h : mayE i t l = true) : (putE i t l).length ≤ 20000000 := by
  obtain ⟨h1, h2⟩ := mayE_iff.1 h
  obtain ⟨h3, h4⟩ := sortedP_mem h2
  have h5 := head_len i t l.length (by omega) (by omega) h3
  have key : ∀ l : List PairT, (∀ p ∈ l, p.1.size ≤ 64 ∧ p.2.length ≤ 4096) → (putsF (l.map fun p => (22, bodyP p))).length ≤ 4190 * l.length := by
    intro l
    induction l with
    | nil => intro _; simp [putsF_nil]
    | cons p l ih =>
      intro h
      have hp := h p (by simp)
      have := ih fun q hq => h q (by simp [hq])
      have hb := bodyP_len p hp.1
      have h10 := one_len10 (u := (bodyP p).length) (by omega)
      rw [List.map_cons, putsF_cons, List.length_append, putF_len, List.length_cons]
      simp only
      omega
  have hk := key l h4
  have e1 : putE i t l = putF 21 (puts [i, t, (l.length : Int)]) ++ (putsF (l.map fun p => (22, bodyP p)) ++ putF 23 (sum4 (crcOf (putsF (framesE i t l)) : Int))) := by
    unfold putE allE framesE footF
    rw [List.cons_append, putsF_cons, putsF_append, putsF_cons, putsF_nil, List.append_nil]
  have h10 := one_len10 (u := (puts [i, t, (l.length : Int)]).length) (by omega)
  have e4 : (sum4 (crcOf (putsF (framesE i t l)) : Int)).length = 4 := rfl
  have h11 := one_len10 (u := 4) (by omega)
  rw [e1, List.length_append, List.length_append, putF_len, putF_len, e4]
  omega
theorem empty_toList : (⟨#[]⟩ : ByteArray).toList = [] := strOfNums_toList []
theorem bytesLess_nil (x : List UInt8) : Op.bytesLess x [] = false := by cases x <;> simp [Op.bytesLess]
theorem nil_bytesLess (x : List UInt8) : Op.bytesLess [] x = true ↔ x ≠ [] := by cases x <;> simp [Op.bytesLess]
theorem scan_good : ∀ (d : Nat) (p : Int) (c : List Int), Bytes c → (scanR d p c).1.length ≤ c.length ∧ ∀ f ∈ (scanR d p c).1, Bytes f.2 ∧ f.2.length ≤ c.length := by
  intro d
  induction d with
  | zero => intro p c _; simp [scanR]
  | succ d ih =>
    intro p c hc
    rw [scanR]
    by_cases hf : (firstR c).2.2.2 = 0
    · rw [if_pos hf]
      rcases firstR_cases hc with ⟨k, body, m, e1, e2, e3⟩ | e | e
      · have hp := putF_pos k body
        have hl := putF_len k body
        have h1 := congrArg List.length e1
        rw [List.length_append] at h1
        rw [e3]
        simp only [Int.toNat_natCast]
        obtain ⟨i1, i2⟩ := ih (p + ((putF k body).length : Int)) (c.drop (putF k body).length) (hc.drop _)
        rw [List.length_drop] at i1 i2
        refine ⟨by rw [List.length_cons]; omega, fun f hf => ?_⟩
        rcases List.mem_cons.1 hf with rfl | hf
        · refine ⟨fun x hx => hc x ?_, by simp only; omega⟩
          rw [e1]
          unfold putF
          simp only at hx
          simp [hx]
        · have := i2 f hf
          exact ⟨this.1, by omega⟩
      · rw [e] at hf; simp at hf
      · rw [e] at hf; simp at hf
    · rw [if_neg hf]
      simp
theorem pairR_good {b : List Int} (hb : Bytes b) {p : PairT} (h : pairR b = some p) : p.1.size ≤ b.length ∧ p.2.length ≤ b.length ∧ Bytes p.2 := by
  unfold pairR at h
  split at h
  · cases h
  · rename_i u n hd
    split at h
    · cases h
    · split at h
      · cases h
      · cases h
        refine ⟨?_, ?_, hb.drop _⟩
        · simp only [str_size]
          rw [List.length_take, List.length_drop]
          omega
        · simp only
          rw [List.length_drop]
          omega
def weighE (l : List PairT) : Nat := (l.map fun p => p.1.size + p.2.length).sum
def lightE (l : List PairT) : Bool := decide (l.length ≤ 40 ∧ weighE l ≤ 20000)
theorem putsF_bytesE {L : List (Int × List Int)} (ha : allF L = true) (hb : ∀ f ∈ L, Bytes f.2) : Bytes (putsF L) := by
  intro x hx
  obtain ⟨p, hp, hx⟩ := List.mem_flatMap.1 hx
  exact putF_bytes (allF_mem ha p hp) (hb p hp) x hx
theorem putE_bytes {i t : Int} {l : List PairT} (h : mayE i t l = true) (hb : ∀ p ∈ l, Bytes p.2) : Bytes (putE i t l) := by
  refine putsF_bytesE (allE_may h) fun f hf => ?_
  unfold allE framesE at hf
  simp only [List.cons_append, List.mem_cons, List.mem_append, List.mem_map, List.not_mem_nil, or_false] at hf
  rcases hf with rfl | ⟨p, hp, rfl⟩ | rfl
  · exact puts_bytes _
  · exact bodyP_bytes (hb p hp)
  · exact sum4_bytes _
end Go.Proofs.Ytapamplgajkjlaa.U
