/- The pure statement of the law EntryPuts: what the printed functions answer, each by its plain law, and that the law's answer is true. -/
import Derived.Test.YtohocfimdpneoaaPEntryPutsx0
import Derived.Test.YtohocfimdpneoaaPEntryPutsx1
import Derived.Test.YtohocfimdpneoaaPEntryPutsx2
import Derived.Test.YtohocfimdpneoaaPEntryPutsx3
import Derived.Test.YtohocfimdpneoaaPEntryPutsx4
import Derived.Test.YtohocfimdpneoaaPEntryPutsx5
import Derived.Test.YtohocfimdpneoaaPEntryPutsx6
import Derived.Test.YtohocfimdpneoaaPEntryPutsx7
import Derived.Test.YtohocfimdpneoaaPEntryPutsx8
import Derived.Test.YtohocfimdpneoaaPEntryPutsx9
import Derived.Test.YtohocfimdpneoaaPEntryPutsx10
import Derived.Test.YtohocfimdpneoaaPEntryPutsx11
import Derived.Test.YtohocfimdpneoaaStEntryPuts
import Derived.Test.YtohocfimdpneoaaQSz
import Derived.Test.YtohocfimdpneoaaQV02
import Derived.Test.YtohocfimdpneoaaQF06
import Derived.Test.YtohocfimdpneoaaQV07
import Derived.Test.YtohocfimdpneoaaQV04
namespace Go.Proofs.Ytohocfimdpneoaa.Pure
open Go.RowKit Go.Proofs.Ytohocfimdpneoaa.PEntryPuts Go.Proofs.Ytohocfimdpneoaa.U Go.Proofs.YtohocfimdpneoaaW.PrintWords Go.Proofs.YtohocfimdpneoaaW.PrintLast Go.Proofs.YtohocfimdpneoaaW.PrintMore
set_option linter.unusedVariables false
set_option linter.unusedSimpArgs false
set_option maxRecDepth 4000

/-- An entry, told as one. -/
def prN (e : S78) : Ent := ⟨e.f0, e.f1, e.f2, e.f3, e.f4.f0, e.f4.f1, e.f4.f2.f0, e.f4.f2.f1, e.f4.f2.f2, e.f4.f2.f3⟩
def prsN (l : List S78) : List Ent := l.map prN
theorem prsN_len (l : List S78) : (prsN l).length = l.length := by simp [prsN]
theorem rdN_get {l : List S78} {i : Nat} (h : i < l.length) : rd_T78 l (i : Int) = l[i] := by
  simp [rd_T78, h]
theorem dropN_eq {l : List S78} {i : Nat} (h : i < l.length) : l.drop i = rd_T78 l (i : Int) :: l.drop (i + 1) := by
  rw [rdN_get h]
  exact List.drop_eq_getElem_cons h
theorem rdN_mem {l : List S78} {i : Nat} (h : i < l.length) : rd_T78 l (i : Int) ∈ l := by
  rw [rdN_get h]
  exact List.getElem_mem _
/-- What is told of an entry that came in. -/
def goodN (e : S78) : Prop := (-9223372036854775808 ≤ e.f0 ∧ e.f0 ≤ 9223372036854775807) ∧ (-9223372036854775808 ≤ e.f1 ∧ e.f1 ≤ 9223372036854775807) ∧ e.f3.size ≤ 140737488351232 ∧ e.f4.f1.length ≤ 140737488351232 ∧ Bytes e.f4.f1 ∧ (0 ≤ e.f4.f2.f3 ∧ e.f4.f2.f3 < 4294967296)

theorem garnerref02_same_l0_ev (x y : List Int) (hxy : x.length = y.length) (hl : x.length ≤ maxLen) : ∀ (d i : Nat), x.length - i = d → i ≤ x.length → Ev (fun k => garnerref02_same.l0 k x y (i : Int)) (decide (x.drop i = y.drop i)) := by
  have hlm := maxLen_le hl
  intro d
  induction d with
  | zero =>
    intro i hd hi
    rw [ev_succ]
    simp only [garnerref02_same.l0, ev_ite]
    rw [if_neg (by omega), ev_some, List.drop_eq_nil_of_le (by omega), List.drop_eq_nil_of_le (by omega)]
    simp
  | succ d ih =>
    intro i hd hi
    rw [ev_succ]
    simp only [garnerref02_same.l0, ev_ite]
    rw [if_pos (by omega), if_pos (by omega), if_pos (by omega), w64 (by omega) (by omega), drop_eq (xs := x) (by omega), drop_eq (xs := y) (by omega)]
    by_cases h : rd x (i : Int) = rd y (i : Int)
    · rw [if_pos h, h]
      refine ev_eq (ih (i + 1) (by omega) (by omega)) ?_
      simp
    · rw [if_neg h, ev_some]
      simp [h]
theorem garnerref02_same_ev {x y : List Int} (hl : x.length ≤ maxLen) : Ev (fun k => garnerref02_same.f k x y) (decide (x = y)) := by
  simp only [garnerref02_same.f, ev_ite]
  by_cases h : x.length = y.length
  · rw [if_pos (by omega)]
    exact garnerref02_same_l0_ev x y h hl (x.length - 0) 0 rfl (by omega)
  · rw [if_neg (by omega), ev_some]
    symm
    simp only [decide_eq_false_iff_not]
    rintro rfl
    exact h rfl

theorem garnerref02_Bytes_ev {x y : List Int} (hl : x.length ≤ maxLen) : Ev (fun k => garnerref02_Bytes.f k x y) (decide (x = y)) := by
  simp only [garnerref02_Bytes.f]
  rw [ev_bind (garnerref02_same_ev hl), ev_some]

theorem garnerlaw06_Light_ev (l : List S78) (hl : l.length ≤ 140737488351232) : Ev (fun k => garnerlaw06_Light.f k l) (lightN (prsN l)) := by
  have main : ∀ (d i : Nat), l.length - i = d → i ≤ l.length → i ≤ 41 → lightN (prsN l) = (decide (l.length ≤ 40) && (prsN (l.drop i)).all fun e => decide (e.key.size ≤ 200 ∧ e.b.length ≤ 200)) → Ev (fun k => garnerlaw06_Light.l0 k l (i : Int)) (lightN (prsN l)) := by
    intro d
    induction d with
    | zero =>
      intro i hd hi h41 he
      rw [List.drop_eq_nil_of_le (by omega)] at he
      rw [he, ev_succ]
      simp only [garnerlaw06_Light.l0, ev_ite]
      rw [if_neg (by omega), ev_succ]
      simp only [garnerlaw06_Light.j1, ev_ite]
      rw [if_neg (by simp), ev_some]
      have e : (prsN []).all (fun e => decide (e.key.size ≤ 200 ∧ e.b.length ≤ 200)) = true := rfl
      rw [e, Bool.and_true, decide_eq_decide]
      omega
    | succ d ih =>
      intro i hd hi h41 he
      have hil : i < l.length := by omega
      rw [dropN_eq hil] at he
      have hw : wrap64 ((i : Int) + 1) = ((i + 1 : Nat) : Int) := w64 (by omega) (by omega)
      have ih' := ih (i + 1) (by omega) (by omega)
      rw [ev_succ]
      simp only [garnerlaw06_Light.l0, ev_ite]
      rw [if_pos (by omega), ev_succ]
      simp only [garnerlaw06_Light.j1, ev_ite, hw]
      generalize rd_T78 l (i : Int) = f at he ⊢
      have e1 : (prsN (f :: l.drop (i + 1))).all (fun e => decide (e.key.size ≤ 200 ∧ e.b.length ≤ 200)) = (decide (f.f3.size ≤ 200 ∧ f.f4.f1.length ≤ 200) && (prsN (l.drop (i + 1))).all fun e => decide (e.key.size ≤ 200 ∧ e.b.length ≤ 200)) := rfl
      rw [e1] at he
      by_cases h1 : i ≤ 40
      · rw [if_pos (by rw [decide_eq_true_eq]; omega), if_pos (by omega), if_pos (by omega)]
        by_cases h2 : f.f3.size > 200
        · rw [if_pos (by omega), ev_some, he, decide_eq_false (show ¬ (f.f3.size ≤ 200 ∧ f.f4.f1.length ≤ 200) by omega), Bool.false_and, Bool.and_false]
        · rw [if_neg (by omega)]
          by_cases h3 : f.f4.f1.length > 200
          · rw [if_pos (by omega), ev_some, he, decide_eq_false (show ¬ (f.f3.size ≤ 200 ∧ f.f4.f1.length ≤ 200) by omega), Bool.false_and, Bool.and_false]
          · rw [if_neg (by omega)]
            refine ih' (by omega) ?_
            rw [he, decide_eq_true (show f.f3.size ≤ 200 ∧ f.f4.f1.length ≤ 200 by omega), Bool.true_and]
      · rw [if_neg (by rw [decide_eq_true_eq]; omega), ev_some, he, decide_eq_false (show ¬ l.length ≤ 40 by omega), Bool.false_and, decide_eq_false (by omega)]
  refine main (l.length - 0) 0 rfl (by omega) (by omega) ?_
  unfold lightN
  rw [prsN_len, List.drop_zero]

theorem entry_counts_ev (n : Int) : entry_counts.f n = some (decide (1 ≤ n ∧ n ≤ 2147483647)) := by
  unfold entry_counts.f
  split
  · congr 1
    rw [decide_eq_decide]
    omega
  · congr 1
    symm
    rw [decide_eq_false_iff_not]
    omega

theorem bytes_Equal_ev {a b : List Int} (ha : Bytes a) (hb : Bytes b) : bytes_Equal.f a b = some (decide (a = b)) := by
  unfold bytes_Equal.f
  congr 1
  rw [Bool.eq_iff_iff, beq_iff_eq, decide_eq_true_eq, toList_eq_iff, bytes_str ha, bytes_str hb]

theorem zero_is (s a n u : Int) : (s == 0 && (a == 0 && (n == 0 && (u == 0)))) = zeroP s a n u := by
  unfold zeroP
  rw [Bool.eq_iff_iff]
  simp only [Bool.and_eq_true, beq_iff_eq, decide_eq_true_eq]
theorem cell_Same_plain {far : Bool} {b : List Int} (hb : Bytes b) (s a n u : Int) : cell_Same.f far b s a n u false ([] : List Int) 0 0 0 0 = some (plainC far b s a n u) := by
  unfold cell_Same.f plainC
  rw [zero_is, bytes_Equal_ev hb Bytes.nil]
  cases far with
  | true =>
    rw [if_neg (by simp)]
    rfl
  | false =>
    rw [if_pos (by simp)]
    by_cases h : zeroP s a n u = true
    · rw [if_pos h, h]
      simp
    · rw [if_neg h, Bool.not_eq_true] at *
      rw [h]
      simp

theorem point_Check_ev (s a l u : Int) : point_Check.f s a l u = some (if mayP s a l = true then 0 else 1) := by
  simp only [point_Check.f, mayP_iff]
  repeat' split
  all_goals first | rfl | omega

theorem zero_not (s a n u : Int) : (!(s == 0) || (!(a == 0) || (!(n == 0) || (!(u == 0))))) = !zeroP s a n u := by
  unfold zeroP
  rw [Bool.eq_iff_iff]
  simp only [Bool.or_eq_true, Bool.not_eq_true', beq_eq_false_iff_ne, decide_eq_false_iff_not]
  omega
theorem cell_Check_ev (far : Bool) (b : List Int) (s a n u : Int) : cell_Check.f far b s a n u = some (if mayC far b s a n u = true then 0 else 1) := by
  unfold cell_Check.f mayC
  cases far with
  | true =>
    rw [if_pos rfl, if_pos rfl]
    by_cases h : b.length = 0
    · rw [if_neg (by omega), point_Check_ev, decide_eq_true h, Bool.true_and]
      rfl
    · rw [if_pos (by omega), decide_eq_false h]
      rfl
  | false =>
    simp only [Bool.false_eq_true, if_false]
    rw [zero_not]
    by_cases h : b.length ≤ 32
    · rw [if_neg (by omega), decide_eq_true h, Bool.true_and]
      cases zeroP s a n u <;> rfl
    · rw [if_pos (by omega), decide_eq_false h]
      rfl

theorem toList_nil (s : ByteArray) : s.toList = [] ↔ s.size = 0 := by
  have h := toList_lit s [] Bytes.nil
  have e : u8s [] = [] := rfl
  rw [e] at h
  rw [h, ← List.length_eq_zero_iff, bytesOf_length]
theorem key_bool (s : ByteArray) (n : Int) : ((s.toList == ([] : List UInt8)) != (n == 0)) = !decide (s.size = 0 ↔ n = 0) := by
  have h := toList_nil s
  by_cases h1 : s.size = 0
  · rw [h.2 h1]
    by_cases h2 : n = 0
    · simp [h1, h2]
    · simp [h1, h2]
  · have h3 : ¬ s.toList = [] := fun e => h1 (h.1 e)
    have e1 : (s.toList == ([] : List UInt8)) = false := beq_eq_false_iff_ne.2 h3
    rw [e1]
    by_cases h2 : n = 0
    · simp [h1, h2]
    · simp [h1, h2]
theorem entry_Check_ev {e : Ent} (hb : Bytes e.b) : Ev (fun k => entry_Check.f k e.i e.t e.k e.key e.far e.b e.s e.a e.n e.u) (if mayN e = true then 0 else 1) := by
  have hno : headN e = false → mayN e = false := fun h => by
    unfold mayN
    rw [h, Bool.false_and]
  have hnot : ¬ (1 ≤ e.i ∧ e.i ≤ 2147483647 ∧ 1 ≤ e.t ∧ e.t ≤ 2147483647 ∧ 0 ≤ e.k ∧ e.k ≤ 2 ∧ e.key.size ≤ 64 ∧ (e.key.size = 0 ↔ e.k = 0)) → mayN e = false := fun h => hno (by
    unfold headN
    exact decide_eq_false h)
  have bad1 : mayN e = false → Ev (fun k => entry_Check.j1 k true e.i e.t e.k e.key e.far e.b e.s e.a e.n e.u) (if mayN e = true then (0 : Int) else 1) := by
    intro h
    rw [h, ev_succ]
    simp only [entry_Check.j1, ev_ite]
    rw [if_pos (by trivial), ev_some]
    rfl
  have bad0 : mayN e = false → Ev (fun k => entry_Check.j0 k true e.i e.t e.k e.key e.far e.b e.s e.a e.n e.u) (if mayN e = true then (0 : Int) else 1) := by
    intro h
    rw [h, ev_succ]
    simp only [entry_Check.j0, ev_ite]
    rw [if_pos (by trivial), ev_some]
    rfl
  simp only [entry_Check.f]
  rw [ev_bind_c (entry_counts_ev _), ev_ite]
  by_cases h1 : 1 ≤ e.i ∧ e.i ≤ 2147483647
  · rw [if_pos (by simpa using h1), ev_bind_c (entry_counts_ev _), ev_ite]
    by_cases h2 : 1 ≤ e.t ∧ e.t ≤ 2147483647
    · rw [if_pos (by simpa using h2), ev_ite]
      by_cases h3 : e.k < 0
      · rw [if_pos h3]
        exact bad0 (hnot (by omega))
      · rw [if_neg h3]
        by_cases h4 : e.k > 2
        · rw [decide_eq_true h4]
          exact bad0 (hnot (by omega))
        · rw [decide_eq_false h4, ev_succ]
          simp only [entry_Check.j0, ev_ite]
          rw [if_neg (by simp)]
          by_cases h5 : e.key.size > 64
          · rw [if_pos (by omega)]
            exact bad1 (hnot (by omega))
          · rw [if_neg (by omega), key_bool]
            by_cases h6 : e.key.size = 0 ↔ e.k = 0
            · have hh : headN e = true := headN_iff.2 ⟨h1.1, h1.2, h2.1, h2.2, by omega, by omega, by omega, h6⟩
              rw [decide_eq_true h6, ev_succ]
              simp only [entry_Check.j1, ev_ite]
              rw [if_neg (by simp)]
              unfold mayN
              rw [hh, Bool.true_and]
              by_cases h7 : e.k = 2
              · rw [if_pos h7, decide_eq_false (by omega), Bool.false_or, ev_bind_c (cell_Same_plain hb _ _ _ _), ev_ite]
                by_cases h8 : plainC e.far e.b e.s e.a e.n e.u = true
                · rw [if_pos h8, h8, Bool.true_and, ev_bind_c (cell_Check_ev _ _ _ _ _ _), ev_some]
                · rw [if_neg h8, ev_some]
                  rw [Bool.not_eq_true] at h8
                  rw [h8]
                  rfl
              · rw [if_neg h7, decide_eq_true h7, Bool.true_or, Bool.true_and, ev_bind_c (cell_Check_ev _ _ _ _ _ _), ev_some]
            · rw [decide_eq_false h6]
              exact bad1 (hnot (by omega))
    · rw [if_neg (by simpa using h2)]
      exact bad0 (hnot (by omega))
  · rw [if_neg (by simpa using h1)]
    exact bad0 (hnot (by omega))

theorem batch_none (e : Ent) (l : List Ent) : batchFrom none (e :: l) = (mayN e && batchFrom (some (e.i, e.t)) l) := rfl
theorem batch_some (i t : Int) (e : Ent) (l : List Ent) : batchFrom (some (i, t)) (e :: l) = (mayN e && (decide (e.i = i + 1 ∧ t ≤ e.t) && batchFrom (some (e.i, e.t)) l)) := rfl
theorem entry_Batch_ev (l : List S78) (hl : l.length ≤ 140737488351232) (hg : ∀ e ∈ l, goodN e) : Ev (fun k => entry_Batch.f k l) (if batchB (prsN l) = true then 0 else 1) := by
  have main : ∀ (d j : Nat) (p : Option (Int × Int)), l.length - j = d → j ≤ l.length → (j = 0 → p = none) → (∀ i : Nat, j = i + 1 → p = some ((rd_T78 l (i : Int)).f0, (rd_T78 l (i : Int)).f1) ∧ 1 ≤ (rd_T78 l (i : Int)).f0 ∧ (rd_T78 l (i : Int)).f0 ≤ 2147483647) →
      Ev (fun k => entry_Batch.l0 k l l (l.length : Int) (j : Int)) (if batchFrom p (prsN (l.drop j)) = true then (0 : Int) else 1) := by
    intro d
    induction d with
    | zero =>
      intro j p hd hj _ _
      rw [ev_succ]
      simp only [entry_Batch.l0, ev_ite]
      rw [if_neg (by omega), ev_some, List.drop_eq_nil_of_le (by omega)]
      cases p <;> rfl
    | succ d ih =>
      intro j p hd hj h0 hs
      have hjl : j < l.length := by omega
      have hgj := hg _ (rdN_mem hjl)
      have ih' := fun (hr : 1 ≤ (rd_T78 l (j : Int)).f0 ∧ (rd_T78 l (j : Int)).f0 ≤ 2147483647) => ih (j + 1) (some ((rd_T78 l (j : Int)).f0, (rd_T78 l (j : Int)).f1)) (by omega) (by omega) (by omega) (fun i hi => by rw [show i = j by omega]; exact ⟨rfl, hr⟩)
      have hw : wrap64 ((j : Int) + 1) = ((j + 1 : Nat) : Int) := w64 (by omega) (by omega)
      rw [dropN_eq hjl]
      rw [ev_succ]
      simp only [entry_Batch.l0, ev_ite, hw]
      generalize hE : rd_T78 l (j : Int) = e at hgj ih' ⊢
      have hc : Ev (fun k => entry_Check.f k e.f0 e.f1 e.f2 e.f3 e.f4.f0 e.f4.f1 e.f4.f2.f0 e.f4.f2.f1 e.f4.f2.f2 e.f4.f2.f3) (if mayN (prN e) = true then 0 else 1) := entry_Check_ev (e := prN e) hgj.2.2.2.2.1
      have el : prsN (e :: l.drop (j + 1)) = prN e :: prsN (l.drop (j + 1)) := rfl
      have e0 : (prN e).i = e.f0 := rfl
      have e1 : (prN e).t = e.f1 := rfl
      rw [el, if_pos (by omega), if_pos (by omega), if_pos (by omega), ev_bind hc, ev_ite]
      by_cases hm : mayN (prN e) = true
      · have hm' := (mayN_iff.1 hm).1
        rw [e0, e1] at hm'
        have ih'' := ih' ⟨hm'.1, hm'.2.1⟩
        rw [if_pos hm, if_pos (by trivial), ev_ite]
        by_cases hj0 : j = 0
        · rw [if_neg (by omega), h0 hj0, batch_none, hm, Bool.true_and, e0, e1]
          exact ih''
        · obtain ⟨hp, hr1, hr2⟩ := hs (j - 1) (by omega)
          have e2 : wrap64 ((j : Int) - 1) = ((j - 1 : Nat) : Int) := by
            rw [w64 (by omega) (by omega)]
            omega
          rw [if_pos (by omega), e2, ev_ite, if_pos (by omega), ev_ite, if_pos (by omega), ev_ite, hp, batch_some, hm, Bool.true_and, e0, e1, w64 (by omega) (by omega)]
          by_cases h1 : e.f0 = (rd_T78 l ((j - 1 : Nat) : Int)).f0 + 1
          · rw [if_pos h1, ev_ite]
            by_cases h2 : e.f1 < (rd_T78 l ((j - 1 : Nat) : Int)).f1
            · rw [if_pos h2, ev_some, decide_eq_false (by omega), Bool.false_and]
              rfl
            · rw [if_neg h2, decide_eq_true (by omega), Bool.true_and]
              exact ih''
          · rw [if_neg h1, ev_some, decide_eq_false (by omega), Bool.false_and]
            rfl
      · rw [if_neg hm, if_neg (by omega), ev_some]
        rw [Bool.not_eq_true] at hm
        have hf : batchFrom p (prN e :: prsN (l.drop (j + 1))) = false := by
          cases p with
          | none => rw [batch_none, hm, Bool.false_and]
          | some q =>
            obtain ⟨i, t⟩ := q
            rw [batch_some, hm, Bool.false_and]
        rw [hf]
        rfl
  have bad : ¬ (1 ≤ l.length ∧ l.length ≤ 16) → Ev (fun k => entry_Batch.j0 k l true) (if batchB (prsN l) = true then (0 : Int) else 1) := by
    intro h
    have e : batchB (prsN l) = false := by
      unfold batchB
      rw [prsN_len, decide_eq_false h, Bool.false_and]
    rw [e, ev_succ]
    simp only [entry_Batch.j0, ev_ite]
    rw [if_pos (by trivial), ev_some]
    rfl
  simp only [entry_Batch.f, ev_ite]
  by_cases h1 : l.length < 1
  · rw [if_pos (by omega)]
    exact bad (by omega)
  · rw [if_neg (by omega)]
    by_cases h2 : l.length > 16
    · rw [decide_eq_true (by omega)]
      exact bad (by omega)
    · have e : batchB (prsN l) = batchFrom none (prsN l) := by
        unfold batchB
        rw [prsN_len, decide_eq_true (by omega), Bool.true_and]
      rw [decide_eq_false (by omega), ev_succ, e]
      simp only [entry_Batch.j0, ev_ite]
      rw [if_neg (by simp)]
      exact main (l.length - 0) 0 none rfl (by omega) (fun _ => rfl) (fun i hi => by omega)

theorem varint_Put_l1_ev (l : List Int) (hl : l.length ≤ 10000000000000) (j : Nat) : ∀ (u : Nat) (b : List Int), u < 18446744073709551616 → b.length + (one u).length ≤ 10 * (j + 1) → j < l.length → ∀ r : List Int,
    Ev (fun k => varint_Put.l0 k (b ++ one u) l (l.length : Int) ((j + 1 : Nat) : Int)) r → Ev (fun k => varint_Put.l1 k b (u : Int) l (l.length : Int) (j : Int)) r := by
  intro u
  induction u using Nat.strongRecOn with
  | _ u ih =>
    intro b hu hlen hj r hr
    rw [ev_succ]
    simp only [varint_Put.l1, ev_ite]
    by_cases h : u < 128
    · rw [if_neg (by omega), if_pos (by omega), w64 (by omega) (by omega)]
      rw [one_lt h] at hr
      have e : (u : Int) % 256 = u := by omega
      rw [e]
      exact hr
    · have e : Go.bits .or .u8 ((u : Int) % 256) 128 = ((u % 128 + 128 : Nat) : Int) := by
        rw [or_u8 (by omega) (by omega)]
        omega
      have e2 : (u : Int) / 128 = ((u / 128 : Nat) : Int) := by omega
      rw [if_pos (by omega), if_pos (by omega), e, e2]
      rw [one_ge (u := u) (by omega), List.length_cons] at hlen
      refine ih (u / 128) (by omega) _ (by omega) (by rw [List.length_append, List.length_singleton]; omega) hj r ?_
      rw [one_ge (u := u) (by omega)] at hr
      rw [List.append_assoc, List.singleton_append]
      exact hr
theorem varint_Put_l0_ev (l : List Int) (hl : l.length ≤ 10000000000000) (hu : ∀ u ∈ l, 0 ≤ u ∧ u < 18446744073709551616) : ∀ (d j : Nat) (b : List Int), l.length - j = d → j ≤ l.length → b.length ≤ 10 * j →
    Ev (fun k => varint_Put.l0 k b l (l.length : Int) (j : Int)) (b ++ puts (l.drop j)) := by
  intro d
  induction d with
  | zero =>
    intro j b hd hj hb
    rw [ev_succ]
    simp only [varint_Put.l0, ev_ite]
    rw [if_neg (by omega), ev_some, List.drop_eq_nil_of_le (by omega), puts_nil, List.append_nil]
  | succ d ih =>
    intro j b hd hj hb
    rw [ev_succ]
    simp only [varint_Put.l0, ev_ite]
    rw [if_pos (by omega), if_pos (by omega), if_pos (by omega)]
    have h := hu _ (rd_mem (xs := l) (i := (j : Int)) (by omega) (by omega))
    have e : rd l (j : Int) = ((rd l (j : Int)).toNat : Int) := by omega
    have h10 := one_len10 (u := (rd l (j : Int)).toNat) (by omega)
    rw [e]
    refine varint_Put_l1_ev l hl j _ b (by omega) (by omega) (by omega) _ ?_
    have := ih (j + 1) (b ++ one (rd l (j : Int)).toNat) (by omega) (by omega) (by rw [List.length_append]; omega)
    refine ev_eq this ?_
    rw [drop_eq (xs := l) (i := j) (by omega), puts_cons, List.append_assoc]
theorem varint_Put_ev {l : List Int} (hl : l.length ≤ 10000000000000) (hu : ∀ u ∈ l, 0 ≤ u ∧ u < 18446744073709551616) : Ev (fun k => varint_Put.f k l) (puts l) :=
  varint_Put_l0_ev l hl hu (l.length - 0) 0 [] rfl (by omega) (by simp)

theorem point_Put_ev {s a l u : Int} (h0 : 0 ≤ u) (h1 : u < 4294967296) : Ev (fun k => point_Put.f k s a l u) (if mayP s a l = true then (putP s a l u, 0) else ([], 1)) := by
  simp only [point_Put.f]
  rw [ev_bind_c (point_Check_ev _ _ _ _), ev_ite]
  by_cases h : mayP s a l = true
  · have hm := mayP_iff.1 h
    have hb : ∀ v ∈ [s, a, l], 0 ≤ v ∧ v < 18446744073709551616 := by
      intro v hv
      simp at hv
      omega
    rw [if_pos h, if_pos h, if_pos (by trivial), wu64 (x := s) (by omega) (by omega), wu64 (x := a) (by omega) (by omega), wu64 (x := l) (by omega) (by omega), ev_bind (varint_Put_ev (l := [s, a, l]) (by simp) hb)]
    have hl := puts_len hb
    simp only [List.length_cons, List.length_nil] at hl
    simp only [Option.bind_some, ev_ite, ev_some, List.length_cons, List.length_nil]
    rw [if_pos (by omega)]
    rfl
  · rw [if_neg h, if_neg h, if_neg (by omega), ev_some]

theorem cell_Put_ev {far : Bool} {b : List Int} {s a n u : Int} (h : mayC far b s a n u = true) (hu : 0 ≤ u ∧ u < 4294967296) : Ev (fun k => cell_Put.f k far b s a n u) (putC far b s a n u, 0) := by
  have hl := mayC_len h
  simp only [cell_Put.f]
  rw [ev_bind_c (cell_Check_ev _ _ _ _ _ _), h, if_pos rfl, ev_ite, if_pos (by trivial), ev_ite]
  unfold putC
  cases far with
  | true =>
    have hp := point_Put_ev (s := s) (a := a) (l := n) hu.1 hu.2
    have hm := mayC_far h
    have hpl := putP_len (u := u) hm
    rw [if_pos hm] at hp
    rw [if_pos rfl, if_pos rfl, ev_bind hp]
    simp only [Option.bind_some, ev_ite]
    rw [if_pos (by simp only [List.length_cons, List.length_nil]; omega), ev_some]
    rfl
  | false =>
    have h10 := one_len10 (u := b.length) (by omega)
    have hput : Ev (fun k => varint_Put.f k [(b.length : Int)]) (one b.length) := by
      have := varint_Put_ev (l := [(b.length : Int)]) (by simp) (by intro v hv; rw [List.mem_singleton.1 hv]; omega)
      rw [puts_cons, puts_nil, List.append_nil, Int.toNat_natCast] at this
      exact this
    rw [if_neg (by simp), if_neg (by simp), wu64 (by omega) (by omega)]
    simp only [Option.bind_some]
    rw [ev_bind hput, ev_ite, if_pos (by simp only [List.length_cons, List.length_nil]; omega), ev_ite, if_pos (by simp only [List.length_append, List.length_cons, List.length_nil]; omega), ev_some, List.append_assoc]
    rfl

theorem entry_Put_l0_ev (l : List S78) (hl : l.length ≤ 16) (hg : ∀ e ∈ l, goodN e) (hm : ∀ e ∈ prsN l, mayN e = true) : ∀ (d j : Nat) (b : List Int), l.length - j = d → j ≤ l.length → b.length ≤ 30 + 128 * j →
    Ev (fun k => entry_Put.l0 k b l (l.length : Int) (j : Int)) (b ++ putNs (prsN (l.drop j)), 0) := by
  intro d
  induction d with
  | zero =>
    intro j b hd hj hb
    rw [ev_succ]
    simp only [entry_Put.l0, ev_ite]
    rw [if_neg (by omega), ev_some, List.drop_eq_nil_of_le (by omega)]
    have e : putNs (prsN []) = [] := rfl
    rw [e, List.append_nil]
  | succ d ih =>
    intro j b hd hj hb
    have hjl : j < l.length := by omega
    have hgj := hg _ (rdN_mem hjl)
    have hmj := hm _ (List.mem_map.2 ⟨_, rdN_mem hjl, rfl⟩)
    have hw : wrap64 ((j : Int) + 1) = ((j + 1 : Nat) : Int) := w64 (by omega) (by omega)
    rw [dropN_eq hjl]
    rw [ev_succ]
    simp only [entry_Put.l0, ev_ite, hw]
    generalize rd_T78 l (j : Int) = e at hgj hmj ⊢
    have el : prsN (e :: l.drop (j + 1)) = prN e :: prsN (l.drop (j + 1)) := rfl
    have hr := (mayN_iff.1 hmj).1
    have hc := (mayN_iff.1 hmj).2.2
    have hnl := putN_len hmj
    unfold putN at hnl
    simp only [prN] at hr hc hnl
    have hone : ∀ v : Int, 0 ≤ v → v < 18446744073709551616 → Ev (fun k => varint_Put.f k [v]) (one v.toNat) := by
      intro v h0 h1
      have := varint_Put_ev (l := [v]) (by simp) (by intro u hu; rw [List.mem_singleton.1 hu]; omega)
      rw [puts_cons, puts_nil, List.append_nil] at this
      exact this
    have h1 := hone e.f1 (by omega) (by omega)
    have h2 := hone (e.f3.size : Int) (by omega) (by omega)
    rw [Int.toNat_natCast] at h2
    have hb1 := one_len10 (u := e.f1.toNat) (by omega)
    have hb2 := one_len10 (u := e.f3.size) (by omega)
    have ek : e.f2 % 256 = e.f2 := by omega
    rw [if_pos (by omega), if_pos (by omega), if_pos (by omega), wu64 (by omega) (by omega), ev_bind h1, ev_ite, if_pos (by omega)]
    simp only [Option.bind_some, ev_ite]
    rw [if_pos (by rw [List.length_append]; omega), wu64 (by omega) (by omega), ev_bind h2, ev_ite, if_pos (by simp only [List.length_append, List.length_singleton]; omega), ev_ite, if_pos (by simp only [List.length_append, List.length_singleton]; omega), ek, ev_ite]
    have hbl : (bytesOf e.f3).length = e.f3.size := bytesOf_length _
    by_cases hk : e.f2 = 2
    · rw [if_pos hk]
      refine ev_eq (ih (j + 1) _ (by omega) (by omega) (by simp only [List.length_append, List.length_singleton]; omega)) ?_
      rw [el, putNs_cons, putN_del (e := prN e) hk]
      simp only [prN, List.nil_append, List.append_assoc, List.singleton_append, List.append_nil, List.cons_append]
    · have hcl := putC_len hc
      rw [if_neg hk, ev_bind (cell_Put_ev hc hgj.2.2.2.2.2), ev_ite, if_pos (by simp only [List.length_append, List.length_singleton]; omega)]
      refine ev_eq (ih (j + 1) _ (by omega) (by omega) (by simp only [List.length_append, List.length_singleton]; omega)) ?_
      rw [el, putNs_cons, putN_cell (e := prN e) hk]
      simp only [prN, List.nil_append, List.append_assoc, List.singleton_append, List.cons_append]
theorem firstI_rd {l : List S78} (h : 0 < l.length) : (rd_T78 l 0).f0 = firstI (prsN l) := by
  cases l with
  | nil => simp at h
  | cons e l => rfl
theorem firstI_range {l : List Ent} (h : ∀ e ∈ l, mayN e = true) : 0 ≤ firstI l ∧ firstI l ≤ 2147483647 := by
  cases l with
  | nil => simp [firstI]
  | cons e l =>
    have := (mayN_iff.1 (h e (by simp))).1
    simp only [firstI]
    omega
theorem entry_Put_ev (l : List S78) (hl : l.length ≤ 140737488351232) (hg : ∀ e ∈ l, goodN e) : Ev (fun k => entry_Put.f k l) (if batchB (prsN l) = true then (putB (prsN l), 0) else ([], 1)) := by
  simp only [entry_Put.f]
  rw [ev_bind (entry_Batch_ev l hl hg), ev_ite]
  by_cases h : batchB (prsN l) = true
  · obtain ⟨h1, h2⟩ := batchB_iff.1 h
    rw [prsN_len] at h1
    have hm := batchFrom_mem h2
    have hf := firstI_range hm
    rw [if_pos h, if_pos (by trivial), if_pos h, ev_ite, if_pos (by omega), firstI_rd (by omega), wu64 (by omega) (by omega), wu64 (by omega) (by omega)]
    have hu : ∀ u ∈ [(l.length : Int), firstI (prsN l)], 0 ≤ u ∧ u < 18446744073709551616 := by
      intro u hu
      simp only [List.mem_cons, List.not_mem_nil, or_false] at hu
      omega
    have hp := varint_Put_ev (l := [(l.length : Int), firstI (prsN l)]) (by simp) hu
    have hpl := puts_len hu
    simp only [List.length_cons, List.length_nil] at hpl
    rw [ev_bind hp]
    refine ev_eq (entry_Put_l0_ev l h1.2 hg hm (l.length - 0) 0 (puts [(l.length : Int), firstI (prsN l)]) rfl (by omega) (by omega)) ?_
    unfold putB
    rw [prsN_len, List.drop_zero]
  · rw [if_neg h, if_neg (by omega), if_neg h, ev_some]

theorem garnerlaw06_awake_ev : Ev (fun k => garnerlaw06_awake.f k) true := by
  have hg : ∀ e ∈ [(⟨3, 2, 1, (⟨#[107]⟩ : ByteArray), (⟨false, ([9] : List Int), (⟨0, 0, 0, 0⟩ : S24)⟩ : S76)⟩ : S78)], goodN e := by
    intro e he
    rw [List.mem_singleton.1 he]
    refine ⟨by decide, by decide, by decide, by decide, ?_, by decide⟩
    intro x hx
    rw [List.mem_singleton.1 hx]
    omega
  have hp := entry_Put_ev _ (by simp) hg
  have hm : batchB (prsN [(⟨3, 2, 1, (⟨#[107]⟩ : ByteArray), (⟨false, ([9] : List Int), (⟨0, 0, 0, 0⟩ : S24)⟩ : S76)⟩ : S78)]) = true := by decide +kernel
  have hv : putB (prsN [(⟨3, 2, 1, (⟨#[107]⟩ : ByteArray), (⟨false, ([9] : List Int), (⟨0, 0, 0, 0⟩ : S24)⟩ : S76)⟩ : S78)]) = [1, 3, 2, 1, 1, 107, 0, 1, 9] := by
    have o1 : one 1 = [1] := one_lt (by omega)
    have o2 : one 2 = [2] := one_lt (by omega)
    have o3 : one 3 = [3] := one_lt (by omega)
    have oz : (⟨#[107]⟩ : ByteArray).size = 1 := rfl
    have ob : bytesOf (⟨#[107]⟩ : ByteArray) = [107] := by decide +kernel
    simp [putB, prsN, prN, putNs, putN, putC, puts, firstI, o1, o2, o3, oz, ob]
  rw [if_pos hm, hv] at hp
  have hb := entry_Batch_ev [] (by simp) (by simp)
  have hbe : batchB (prsN []) = false := rfl
  rw [hbe, if_neg (by simp)] at hb
  simp only [garnerlaw06_awake.f]
  rw [ev_bind hp, ev_ite, if_pos (by trivial), ev_bind (garnerref02_Bytes_ev (by simp [maxLen])), ev_ite, if_pos (by simp), ev_bind hb, ev_some]
  rfl

theorem garnerref04_May_ev (s a l u : Int) : garnerref04_May.f s a l u = some (mayP s a l) := by
  unfold garnerref04_May.f mayP
  repeat' split
  all_goals (congr 1; first | (symm; rw [decide_eq_false_iff_not]; omega) | (rw [Bool.eq_iff_iff]; simp only [decide_eq_true_eq]; omega))

theorem zero_isr (s a n u : Int) : (s == 0 && (a == 0 && (n == 0 && (u == 0)))) = zeroP s a n u := by
  unfold zeroP
  rw [Bool.eq_iff_iff]
  simp only [Bool.and_eq_true, beq_iff_eq, decide_eq_true_eq]
theorem garnerref05_May_ev (far : Bool) (b : List Int) (s a n u : Int) : garnerref05_May.f far b s a n u = some (mayC far b s a n u) := by
  unfold garnerref05_May.f mayC
  cases far with
  | true =>
    rw [if_pos rfl, if_pos rfl]
    by_cases h : b.length = 0
    · rw [if_pos (by omega), garnerref04_May_ev, decide_eq_true h, Bool.true_and]
      rfl
    · rw [if_neg (by omega), decide_eq_false h, Bool.false_and]
  | false =>
    simp only [Bool.false_eq_true, if_false]
    rw [zero_isr]
    by_cases h : b.length ≤ 32
    · rw [if_pos (by omega), decide_eq_true h, Bool.true_and]
    · rw [if_neg (by omega), decide_eq_false h, Bool.false_and]

theorem garnerref05_Same_plain {far : Bool} {b : List Int} (hb : b.length ≤ maxLen) (s a n u : Int) : Ev (fun k => garnerref05_Same.f k far b s a n u false ([] : List Int) 0 0 0 0) (plainC far b s a n u) := by
  simp only [garnerref05_Same.f, ev_ite]
  unfold plainC
  rw [zero_isr]
  cases far with
  | true =>
    rw [if_neg (by simp), ev_some]
    rfl
  | false =>
    rw [if_pos (by simp)]
    by_cases h : zeroP s a n u = true
    · rw [if_pos h, ev_bind (garnerref02_Bytes_ev hb), ev_some, h]
      simp
    · rw [if_neg h, ev_some]
      rw [Bool.not_eq_true] at h
      rw [h]
      simp

theorem garnerref06_May_ev {e : Ent} (hb : e.b.length ≤ maxLen) : Ev (fun k => garnerref06_May.f k e.i e.t e.k e.key e.far e.b e.s e.a e.n e.u) (mayN e) := by
  have hnot : ¬ (1 ≤ e.i ∧ e.i ≤ 2147483647 ∧ 1 ≤ e.t ∧ e.t ≤ 2147483647 ∧ 0 ≤ e.k ∧ e.k ≤ 2 ∧ e.key.size ≤ 64 ∧ (e.key.size = 0 ↔ e.k = 0)) → mayN e = false := fun h => by
    unfold mayN headN
    rw [decide_eq_false h, Bool.false_and]
  have bad : mayN e = false → Ev (fun k => garnerref06_May.j0 k true e.i e.t e.k e.key e.far e.b e.s e.a e.n e.u) (mayN e) := by
    intro h
    rw [h, ev_succ]
    simp only [garnerref06_May.j0, ev_ite]
    rw [if_pos (by trivial), ev_some]
  have hz := toList_nil e.key
  simp only [garnerref06_May.f, ev_ite]
  by_cases h1 : e.i < 1
  · rw [if_pos h1]; exact bad (hnot (by omega))
  rw [if_neg h1]
  by_cases h2 : e.i > 2147483647
  · rw [if_pos h2]; exact bad (hnot (by omega))
  rw [if_neg h2]
  by_cases h3 : e.t < 1
  · rw [if_pos h3]; exact bad (hnot (by omega))
  rw [if_neg h3]
  by_cases h4 : e.t > 2147483647
  · rw [if_pos h4]; exact bad (hnot (by omega))
  rw [if_neg h4, ev_bind_c (garnerref05_May_ev _ _ _ _ _ _), ev_ite]
  by_cases hc : mayC e.far e.b e.s e.a e.n e.u = true
  · rw [if_pos hc]
    by_cases h5 : e.key.size > 64
    · rw [decide_eq_true (by omega)]; exact bad (hnot (by omega))
    rw [decide_eq_false (by omega), ev_succ]
    simp only [garnerref06_May.j0, ev_ite]
    rw [if_neg (by simp)]
    have hmk : ∀ q : Bool, (e.k ≠ 2 ∨ plainC e.far e.b e.s e.a e.n e.u = true) → (q = true ↔ (0 ≤ e.k ∧ e.k ≤ 2 ∧ (e.key.size = 0 ↔ e.k = 0))) → q = mayN e := by
      intro q hp hq
      rw [Bool.eq_iff_iff, hq, mayN_iff]
      constructor
      · intro h
        exact ⟨by omega, hp, hc⟩
      · intro h
        omega
    by_cases k0 : e.k = 0
    · rw [if_pos k0, ev_some]
      refine hmk _ (.inl (by omega)) ?_
      rw [beq_iff_eq, hz]
      omega
    rw [if_neg k0]
    by_cases k2 : e.k = 2
    · rw [if_pos k2]
      by_cases hs : e.key.size = 0
      · rw [if_pos (hz.2 hs), ev_some]
        exact (hnot (by omega)).symm
      · rw [if_neg (fun h => hs (hz.1 h)), ev_bind (garnerref05_Same_plain hb _ _ _ _), ev_some]
        rw [Bool.eq_iff_iff, mayN_iff]
        constructor
        · intro h
          exact ⟨by omega, .inr h, hc⟩
        · intro h
          rcases h.2.1 with h | h
          · exact absurd k2 h
          · exact h
    rw [if_neg k2]
    by_cases k1 : e.k = 1
    · rw [if_pos k1, ev_some]
      refine hmk _ (.inl (by omega)) ?_
      rw [bne_iff_ne, ne_eq, hz]
      omega
    · rw [if_neg k1, ev_some]
      exact (hnot (by omega)).symm
  · rw [if_neg hc]
    refine bad ?_
    unfold mayN
    rw [Bool.not_eq_true] at hc
    rw [hc, Bool.and_false, Bool.and_false]

theorem garnerref06_Batch_ev (l : List S78) (hl : l.length ≤ 140737488351232) (hg : ∀ e ∈ l, goodN e) : Ev (fun k => garnerref06_Batch.f k l) (batchB (prsN l)) := by
  have main : ∀ (d j : Nat) (p : Option (Int × Int)), l.length - j = d → j ≤ l.length → (j = 0 → p = none) → (∀ i : Nat, j = i + 1 → p = some ((rd_T78 l (i : Int)).f0, (rd_T78 l (i : Int)).f1)) →
      Ev (fun k => garnerref06_Batch.l0 k l (j : Int)) (decide (1 ≤ l.length ∧ l.length ≤ 16) && batchFrom p (prsN (l.drop j))) := by
    intro d
    induction d with
    | zero =>
      intro j p hd hj _ _
      rw [ev_succ]
      simp only [garnerref06_Batch.l0, ev_ite]
      have e : batchFrom p (prsN (l.drop j)) = true := by
        rw [List.drop_eq_nil_of_le (by omega)]
        cases p <;> rfl
      rw [if_neg (by omega), e, Bool.and_true]
      split
      · rw [ev_some, decide_eq_decide]
        omega
      · rw [ev_some]
        symm
        rw [decide_eq_false_iff_not]
        omega
    | succ d ih =>
      intro j p hd hj h0 hs
      have hjl : j < l.length := by omega
      have hgj := hg _ (rdN_mem hjl)
      have ih' := ih (j + 1) (some ((rd_T78 l (j : Int)).f0, (rd_T78 l (j : Int)).f1)) (by omega) (by omega) (by omega) (fun i hi => by rw [show i = j by omega])
      have hw : wrap64 ((j : Int) + 1) = ((j + 1 : Nat) : Int) := w64 (by omega) (by omega)
      rw [dropN_eq hjl]
      rw [ev_succ]
      simp only [garnerref06_Batch.l0, ev_ite, hw]
      generalize hE : rd_T78 l (j : Int) = e at hgj ih' ⊢
      have hc : Ev (fun k => garnerref06_May.f k e.f0 e.f1 e.f2 e.f3 e.f4.f0 e.f4.f1 e.f4.f2.f0 e.f4.f2.f1 e.f4.f2.f2 e.f4.f2.f3) (mayN (prN e)) := garnerref06_May_ev (e := prN e) (by have := hgj.2.2.2.1; simp only [prN]; unfold maxLen; omega)
      have el : prsN (e :: l.drop (j + 1)) = prN e :: prsN (l.drop (j + 1)) := rfl
      have e0 : (prN e).i = e.f0 := rfl
      have e1 : (prN e).t = e.f1 := rfl
      rw [el, if_pos (by omega), if_pos (by omega), ev_bind hc, ev_ite]
      by_cases hm : mayN (prN e) = true
      · have hm' := (mayN_iff.1 hm).1
        rw [e0, e1] at hm'
        rw [if_pos hm, ev_ite]
        by_cases hj0 : j = 0
        · rw [if_neg (by omega), h0 hj0, batch_none, hm, Bool.true_and, e0, e1]
          exact ih'
        · have hp := hs (j - 1) (by omega)
          have e2 : wrap64 ((j : Int) - 1) = ((j - 1 : Nat) : Int) := by
            rw [w64 (by omega) (by omega)]
            omega
          rw [if_pos (by omega), e2, ev_ite, if_pos (by omega), ev_ite, if_pos (by omega), ev_ite, hp, batch_some, hm, Bool.true_and, e0, e1, w64 (by omega) (by omega)]
          by_cases h1 : e.f0 = (rd_T78 l ((j - 1 : Nat) : Int)).f0 + 1
          · rw [if_pos (by omega), ev_ite]
            by_cases h2 : e.f1 < (rd_T78 l ((j - 1 : Nat) : Int)).f1
            · rw [if_pos h2, ev_some, decide_eq_false (show ¬ (e.f0 = (rd_T78 l ((j - 1 : Nat) : Int)).f0 + 1 ∧ (rd_T78 l ((j - 1 : Nat) : Int)).f1 ≤ e.f1) by omega), Bool.false_and, Bool.and_false]
            · rw [if_neg h2, decide_eq_true (show e.f0 = (rd_T78 l ((j - 1 : Nat) : Int)).f0 + 1 ∧ (rd_T78 l ((j - 1 : Nat) : Int)).f1 ≤ e.f1 by omega), Bool.true_and]
              exact ih'
          · rw [if_neg (by omega), ev_some, decide_eq_false (show ¬ (e.f0 = (rd_T78 l ((j - 1 : Nat) : Int)).f0 + 1 ∧ (rd_T78 l ((j - 1 : Nat) : Int)).f1 ≤ e.f1) by omega), Bool.false_and, Bool.and_false]
      · rw [if_neg hm, ev_some]
        rw [Bool.not_eq_true] at hm
        have hf : batchFrom p (prN e :: prsN (l.drop (j + 1))) = false := by
          cases p with
          | none => rw [batch_none, hm, Bool.false_and]
          | some q =>
            obtain ⟨i, t⟩ := q
            rw [batch_some, hm, Bool.false_and]
        rw [hf, Bool.and_false]
  have := main (l.length - 0) 0 none rfl (by omega) (fun _ => rfl) (fun i hi => by omega)
  unfold batchB
  rw [prsN_len]
  exact this

theorem garnerref02_One_ev : ∀ u : Nat, u < 18446744073709551616 → Ev (fun k => garnerref02_One.f k (u : Int)) (one u) := by
  intro u
  induction u using Nat.strongRecOn with
  | _ u ih =>
    intro hu
    rw [ev_succ]
    simp only [garnerref02_One.f, ev_ite, Option.bind_some]
    by_cases h : u < 128
    · rw [if_pos (by omega), ev_some, one_lt h]
      congr 1
      omega
    · have e : IntKind.u64.wrap (Int.tdiv (u : Int) 128) = ((u / 128 : Nat) : Int) := by
        rw [Int.tdiv_eq_ediv_of_nonneg (by omega), wu64 (by omega) (by omega)]
        rfl
      have e2 : ((Int.tmod (u : Int) 128) % 256 + 128) % 256 = ((u % 128 + 128 : Nat) : Int) := by
        rw [Int.tmod_eq_emod_of_nonneg (by omega)]
        omega
      rw [if_neg (by omega), e, e2, ev_bind (ih (u / 128) (by omega) (by omega)), ev_ite]
      have hl := one_len10 (u := u / 128) (by omega)
      rw [if_pos (by simp only [List.length_singleton]; omega), ev_some, one_ge (u := u) (by omega)]
      rfl

theorem garnerref02_Put_l0_ev (l : List Int) (hl : l.length ≤ 10000000000000) (hu : ∀ u ∈ l, 0 ≤ u ∧ u < 18446744073709551616) : ∀ (d j : Nat) (b : List Int), l.length - j = d → j ≤ l.length → b.length ≤ 10 * j →
    Ev (fun k => garnerref02_Put.l0 k l b (j : Int)) (b ++ puts (l.drop j)) := by
  intro d
  induction d with
  | zero =>
    intro j b hd hj hb
    rw [ev_succ]
    simp only [garnerref02_Put.l0, ev_ite]
    rw [if_neg (by omega), ev_some, List.drop_eq_nil_of_le (by omega), puts_nil, List.append_nil]
  | succ d ih =>
    intro j b hd hj hb
    rw [ev_succ]
    simp only [garnerref02_Put.l0, ev_ite]
    rw [if_pos (by omega), if_pos (by omega), w64 (by omega) (by omega)]
    have h := hu _ (rd_mem (xs := l) (i := (j : Int)) (by omega) (by omega))
    have h1 : Ev (fun k => garnerref02_One.f k (rd l (j : Int))) (one (rd l (j : Int)).toNat) := by
      have := garnerref02_One_ev (rd l (j : Int)).toNat (by omega)
      rw [Int.toNat_of_nonneg h.1] at this
      exact this
    have h10 := one_len10 (u := (rd l (j : Int)).toNat) (by omega)
    rw [ev_bind h1, ev_ite, if_pos (by omega)]
    refine ev_eq (ih (j + 1) (b ++ one (rd l (j : Int)).toNat) (by omega) (by omega) (by rw [List.length_append]; omega)) ?_
    rw [drop_eq (xs := l) (i := j) (by omega), puts_cons, List.append_assoc]
theorem garnerref02_Put_ev {l : List Int} (hl : l.length ≤ 10000000000000) (hu : ∀ u ∈ l, 0 ≤ u ∧ u < 18446744073709551616) : Ev (fun k => garnerref02_Put.f k l) (puts l) :=
  garnerref02_Put_l0_ev l hl hu (l.length - 0) 0 [] rfl (by omega) (by simp)

theorem garnerref04_Sum_ev (s : Int) (h0 : 0 ≤ s) (h1 : s < 4294967296) : Ev (fun k => garnerref04_Sum.f k s) (sum4 s) := by
  have step : ∀ (i : Nat) (s : Int) (b : List Int) r, 0 ≤ s → s < 4294967296 → i < 4 → b.length ≤ 4 → Ev (fun k => garnerref04_Sum.l0 k (s / 256) (b ++ [s % 256]) ((i + 1 : Nat) : Int)) r → Ev (fun k => garnerref04_Sum.l0 k s b (i : Int)) r := by
    intro i s b r h0 h1 hi hb hr
    rw [ev_succ]
    simp only [garnerref04_Sum.l0, ev_ite]
    rw [if_pos (by omega), if_pos (by omega), Int.tdiv_eq_ediv_of_nonneg h0, Int.tmod_eq_emod_of_nonneg h0, w64 (by omega) (by omega)]
    have e1 : s / 256 % 4294967296 = s / 256 := by omega
    have e2 : s % 256 % 256 = s % 256 := by omega
    rw [e1, e2]
    exact hr
  show Ev (fun k => garnerref04_Sum.l0 k s [] ((0 : Nat) : Int)) (sum4 s)
  refine step 0 s [] _ h0 h1 (by omega) (by simp) ?_
  refine step 1 _ _ _ (by omega) (by omega) (by omega) (by simp) ?_
  refine step 2 _ _ _ (by omega) (by omega) (by omega) (by simp) ?_
  refine step 3 _ _ _ (by omega) (by omega) (by omega) (by simp) ?_
  rw [ev_succ]
  simp only [garnerref04_Sum.l0, ev_ite]
  rw [if_neg (by omega), ev_some]
  unfold sum4
  simp only [List.nil_append, List.cons_append, List.cons.injEq, and_true, true_and]
  omega

theorem garnerref04_Put_ev {s a l u : Int} (h : mayP s a l = true) (h0 : 0 ≤ u) (h1 : u < 4294967296) : Ev (fun k => garnerref04_Put.f k s a l u) (putP s a l u) := by
  have hm := mayP_iff.1 h
  simp only [garnerref04_Put.f]
  have hb : ∀ v ∈ [s, a, l], 0 ≤ v ∧ v < 18446744073709551616 := by
    intro v hv
    simp at hv
    omega
  rw [wu64 (x := s) (by omega) (by omega), wu64 (x := a) (by omega) (by omega), wu64 (x := l) (by omega) (by omega), ev_bind (garnerref02_Put_ev (l := [s, a, l]) (by simp) hb), ev_bind (garnerref04_Sum_ev u h0 h1)]
  have hl := puts_len hb
  have l4 : (sum4 u).length = 4 := rfl
  simp only [List.length_cons, List.length_nil] at hl
  rw [ev_ite, if_pos (by omega), ev_some]
  rfl

theorem garnerref05_Put_ev {far : Bool} {b : List Int} {s a n u : Int} (h : mayC far b s a n u = true) (hu : 0 ≤ u ∧ u < 4294967296) : Ev (fun k => garnerref05_Put.f k far b s a n u) (putC far b s a n u) := by
  have hl := mayC_len h
  simp only [garnerref05_Put.f, ev_ite]
  unfold putC
  cases far with
  | true =>
    have hm := mayC_far h
    have hpl := putP_len (u := u) hm
    rw [if_pos rfl, if_pos rfl]
    simp only [Option.bind_some]
    rw [ev_bind (garnerref04_Put_ev hm hu.1 hu.2), ev_ite, if_pos (by simp only [List.length_cons, List.length_nil]; omega), ev_some]
    rfl
  | false =>
    have h10 := one_len10 (u := b.length) (by omega)
    rw [if_neg (by simp), if_neg (by simp), wu64 (by omega) (by omega)]
    simp only [Option.bind_some]
    rw [ev_bind (garnerref02_One_ev b.length (by omega)), ev_ite, if_pos (by simp only [List.length_cons, List.length_nil]; omega), ev_ite, if_pos (by simp only [List.length_append, List.length_cons, List.length_nil]; omega), ev_some, List.append_assoc]
    rfl

theorem garnerref06_Put_l0_ev (l : List S78) (hl : l.length ≤ 16) (hg : ∀ e ∈ l, goodN e) (hm : ∀ e ∈ prsN l, mayN e = true) : ∀ (d j : Nat) (b : List Int), l.length - j = d → j ≤ l.length → b.length ≤ 30 + 128 * j →
    Ev (fun k => garnerref06_Put.l0 k l b (j : Int)) (b ++ putNs (prsN (l.drop j))) := by
  intro d
  induction d with
  | zero =>
    intro j b hd hj hb
    rw [ev_succ]
    simp only [garnerref06_Put.l0, ev_ite]
    rw [if_neg (by omega), ev_some, List.drop_eq_nil_of_le (by omega)]
    have e : putNs (prsN []) = [] := rfl
    rw [e, List.append_nil]
  | succ d ih =>
    intro j b hd hj hb
    have hjl : j < l.length := by omega
    have hgj := hg _ (rdN_mem hjl)
    have hmj := hm _ (List.mem_map.2 ⟨_, rdN_mem hjl, rfl⟩)
    have hw : wrap64 ((j : Int) + 1) = ((j + 1 : Nat) : Int) := w64 (by omega) (by omega)
    rw [dropN_eq hjl]
    rw [ev_succ]
    simp only [garnerref06_Put.l0, ev_ite, hw]
    generalize rd_T78 l (j : Int) = e at hgj hmj ⊢
    have el : prsN (e :: l.drop (j + 1)) = prN e :: prsN (l.drop (j + 1)) := rfl
    have hr := (mayN_iff.1 hmj).1
    have hc := (mayN_iff.1 hmj).2.2
    have hnl := putN_len hmj
    unfold putN at hnl
    simp only [prN] at hr hc hnl
    have h1 := garnerref02_One_ev e.f1.toNat (by omega)
    rw [Int.toNat_of_nonneg (by omega)] at h1
    have h2 := garnerref02_One_ev e.f3.size (by omega)
    have hb1 := one_len10 (u := e.f1.toNat) (by omega)
    have hb2 := one_len10 (u := e.f3.size) (by omega)
    have ek : e.f2 % 256 = e.f2 := by omega
    rw [if_pos (by omega), if_pos (by omega), wu64 (by omega) (by omega), ev_bind h1, ev_ite, if_pos (by omega)]
    simp only [Option.bind_some, ev_ite]
    rw [if_pos (by rw [List.length_append]; omega), wu64 (by omega) (by omega), ev_bind h2, ev_ite, if_pos (by simp only [List.length_append, List.length_singleton]; omega), ev_ite, if_pos (by simp only [List.length_append, List.length_singleton]; omega), ek, ev_ite]
    have hbl : (bytesOf e.f3).length = e.f3.size := bytesOf_length _
    by_cases hk : e.f2 = 2
    · rw [if_pos hk]
      refine ev_eq (ih (j + 1) _ (by omega) (by omega) (by simp only [List.length_append, List.length_singleton]; omega)) ?_
      rw [el, putNs_cons, putN_del (e := prN e) hk]
      simp only [prN, List.nil_append, List.append_assoc, List.singleton_append, List.append_nil, List.cons_append]
    · have hcl := putC_len hc
      rw [if_neg hk, ev_bind (garnerref05_Put_ev hc hgj.2.2.2.2.2), ev_ite, if_pos (by simp only [List.length_append, List.length_singleton]; omega)]
      refine ev_eq (ih (j + 1) _ (by omega) (by omega) (by simp only [List.length_append, List.length_singleton]; omega)) ?_
      rw [el, putNs_cons, putN_cell (e := prN e) hk]
      simp only [prN, List.nil_append, List.append_assoc, List.singleton_append, List.cons_append]
theorem garnerref06_Put_ev (l : List S78) (hg : ∀ e ∈ l, goodN e) (h : batchB (prsN l) = true) : Ev (fun k => garnerref06_Put.f k l) (putB (prsN l)) := by
  obtain ⟨h1, h2⟩ := batchB_iff.1 h
  rw [prsN_len] at h1
  have hm := batchFrom_mem h2
  have hf := firstI_range hm
  simp only [garnerref06_Put.f, ev_ite]
  rw [if_pos (by omega), firstI_rd (by omega), wu64 (by omega) (by omega), wu64 (by omega) (by omega)]
  have hu : ∀ u ∈ [(l.length : Int), firstI (prsN l)], 0 ≤ u ∧ u < 18446744073709551616 := by
    intro u hu
    simp only [List.mem_cons, List.not_mem_nil, or_false] at hu
    omega
  have hp := garnerref02_Put_ev (l := [(l.length : Int), firstI (prsN l)]) (by simp) hu
  have hpl := puts_len hu
  simp only [List.length_cons, List.length_nil] at hpl
  rw [ev_bind hp]
  refine ev_eq (garnerref06_Put_l0_ev l h1.2 hg hm (l.length - 0) 0 (puts [(l.length : Int), firstI (prsN l)]) rfl (by omega) (by omega)) ?_
  unfold putB
  rw [prsN_len, List.drop_zero]

theorem EntryPuts : StEntryPuts.Pure := by
  intro l _ hl hg0
  have hg : ∀ e ∈ l, goodN e := fun e he => by
    obtain ⟨h1, h2, h3, h4, h5⟩ := hg0 e he
    obtain ⟨_, ⟨h6, h7, h8⟩, h9⟩ := h5
    obtain ⟨_, _, _, h10⟩ := h9
    have h10 := wf_u32 h10
    exact ⟨wf_i64 h1, wf_i64 h2, h4, by omega, Bytes.of_wf h8, h10.1, by omega⟩
  have hl' : l.length ≤ 140737488351232 := by omega
  refine Ev.rounds (g := fun k => garnerlaw06_EntryPuts.f k l) ?_
  have fin : Ev (fun k => (garnerlaw06_awake.f k).bind fun t => some t) true := by rw [ev_bind garnerlaw06_awake_ev, ev_some]
  have main : ∀ (d i : Nat), l.length - i = d → i ≤ l.length → Ev (fun k => garnerlaw06_EntryPuts.l0 k l (i : Int)) true := by
    intro d
    induction d with
    | zero =>
      intro i hd hi
      have hp := entry_Put_ev l hl' hg
      rw [ev_succ]
      simp only [garnerlaw06_EntryPuts.l0, ev_ite]
      rw [if_neg (by omega), ev_bind hp, ev_bind (garnerref06_Batch_ev l hl' hg), ev_ite]
      by_cases h : batchB (prsN l) = true
      · have hlen : (putB (prsN l)).length ≤ 3000 := by
          obtain ⟨h1, h2⟩ := batchB_iff.1 h
          have hm := batchFrom_mem h2
          have hf := firstI_range hm
          have hpl := puts_len (l := [((prsN l).length : Int), firstI (prsN l)]) (by
            intro u hu
            simp only [List.mem_cons, List.not_mem_nil, or_false] at hu
            omega)
          have key : ∀ l : List Ent, (∀ e ∈ l, mayN e = true) → (putNs l).length ≤ 128 * l.length := by
            intro l
            induction l with
            | nil => intro _; simp [putNs]
            | cons e l ih =>
              intro h
              have h3 := putN_len (h e (by simp))
              have h4 := ih fun x hx => h x (by simp [hx])
              rw [putNs_cons, List.length_append, List.length_cons]
              omega
          have hk := key _ hm
          unfold putB
          rw [List.length_append]
          simp only [List.length_cons, List.length_nil] at hpl
          omega
        rw [if_pos h, ev_bind (entry_Batch_ev l hl' hg), ev_ite, if_pos h, if_pos (by trivial), if_pos h, ev_ite, if_pos (by trivial), ev_bind (garnerref06_Put_ev l hg h), ev_bind (garnerref02_Bytes_ev (by simp only; unfold maxLen; omega)), ev_ite, if_pos (by simp)]
        exact fin
      · rw [if_neg h, ev_bind (entry_Batch_ev l hl' hg), ev_ite, if_neg h, if_pos (by trivial), if_neg h, ev_ite, if_pos (by trivial), ev_ite, if_pos (by simp)]
        exact fin
    | succ d ih =>
      intro i hd hi
      have hil : i < l.length := by omega
      have hgi := hg _ (rdN_mem hil)
      have hw : wrap64 ((i : Int) + 1) = ((i + 1 : Nat) : Int) := w64 (by omega) (by omega)
      rw [ev_succ]
      simp only [garnerlaw06_EntryPuts.l0, ev_ite, hw]
      generalize rd_T78 l (i : Int) = e at hgi ⊢
      have h1 : Ev (fun k => entry_Check.f k e.f0 e.f1 e.f2 e.f3 e.f4.f0 e.f4.f1 e.f4.f2.f0 e.f4.f2.f1 e.f4.f2.f2 e.f4.f2.f3) (if mayN (prN e) = true then 0 else 1) := entry_Check_ev (e := prN e) hgi.2.2.2.2.1
      have h2 : Ev (fun k => garnerref06_May.f k e.f0 e.f1 e.f2 e.f3 e.f4.f0 e.f4.f1 e.f4.f2.f0 e.f4.f2.f1 e.f4.f2.f2 e.f4.f2.f3) (mayN (prN e)) := garnerref06_May_ev (e := prN e) (by have := hgi.2.2.2.1; simp only [prN]; unfold maxLen; omega)
      have h3 : (((if mayN (prN e) = true then (0 : Int) else 1) == 0) != mayN (prN e)) = false := by
        cases mayN (prN e) <;> rfl
      rw [if_pos (by omega), if_pos (by omega), ev_bind h1, ev_bind h2, ev_ite, h3, if_neg (by simp)]
      exact ih (i + 1) (by omega) (by omega)
  simp only [garnerlaw06_EntryPuts.f]
  rw [ev_bind (garnerlaw06_Light_ev l hl'), ev_ite]
  by_cases hL : lightN (prsN l) = true
  · rw [if_pos hL]
    exact main (l.length - 0) 0 rfl (by omega)
  · rw [if_neg hL]
    exact fin

end Go.Proofs.Ytohocfimdpneoaa.Pure
