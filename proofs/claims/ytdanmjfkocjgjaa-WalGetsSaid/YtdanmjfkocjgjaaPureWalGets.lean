/- The pure statement of the law WalGets: what the printed functions answer, each by its plain law, and that the law's answer is true. -/
import Derived.Test.YtdanmjfkocjgjaaPWalGetsx0
import Derived.Test.YtdanmjfkocjgjaaPWalGetsx1
import Derived.Test.YtdanmjfkocjgjaaPWalGetsx2
import Derived.Test.YtdanmjfkocjgjaaPWalGetsx3
import Derived.Test.YtdanmjfkocjgjaaPWalGetsx4
import Derived.Test.YtdanmjfkocjgjaaPWalGetsx5
import Derived.Test.YtdanmjfkocjgjaaPWalGetsx6
import Derived.Test.YtdanmjfkocjgjaaPWalGetsx7
import Derived.Test.YtdanmjfkocjgjaaPWalGetsx8
import Derived.Test.YtdanmjfkocjgjaaPWalGetsx9
import Derived.Test.YtdanmjfkocjgjaaPWalGetsx10
import Derived.Test.YtdanmjfkocjgjaaPWalGetsx11
import Derived.Test.YtdanmjfkocjgjaaPWalGetsx12
import Derived.Test.YtdanmjfkocjgjaaPWalGetsx13
import Derived.Test.YtdanmjfkocjgjaaPWalGetsx14
import Derived.Test.YtdanmjfkocjgjaaPWalGetsx15
import Derived.Test.YtdanmjfkocjgjaaPWalGetsx16
import Derived.Test.YtdanmjfkocjgjaaPWalGetsx17
import Derived.Test.YtdanmjfkocjgjaaPWalGetsx18
import Derived.Test.YtdanmjfkocjgjaaPWalGetsx19
import Derived.Test.YtdanmjfkocjgjaaPWalGetsx20
import Derived.Test.YtdanmjfkocjgjaaPWalGetsx21
import Derived.Test.YtdanmjfkocjgjaaPWalGetsx22
import Derived.Test.YtdanmjfkocjgjaaPWalGetsx23
import Derived.Test.YtdanmjfkocjgjaaPWalGetsx24
import Derived.Test.YtdanmjfkocjgjaaStWalGets
import Derived.Test.YtdanmjfkocjgjaaQSz
import Derived.Test.YtdanmjfkocjgjaaQV02
import Derived.Test.YtdanmjfkocjgjaaQV22
import Derived.Test.YtdanmjfkocjgjaaQV07
import Derived.Test.YtdanmjfkocjgjaaQF06
import Derived.Test.YtdanmjfkocjgjaaQV04
import Derived.Test.YtdanmjfkocjgjaaQG06
namespace Go.Proofs.Ytdanmjfkocjgjaa.Pure
open Go.RowKit Go.Proofs.Ytdanmjfkocjgjaa.PWalGets Go.Proofs.Ytdanmjfkocjgjaa.U Go.Proofs.YtdanmjfkocjgjaaW.PrintWords Go.Proofs.YtdanmjfkocjgjaaW.PrintLast Go.Proofs.YtdanmjfkocjgjaaW.PrintMore
set_option linter.unusedVariables false
set_option linter.unusedSimpArgs false
set_option maxRecDepth 4000
def prN (e : S52) : Ent := ⟨e.f0, e.f1, e.f2, e.f3, e.f4.f0, e.f4.f1, e.f4.f2.f0, e.f4.f2.f1, e.f4.f2.f2, e.f4.f2.f3⟩
def prsN (l : List S52) : List Ent := l.map prN
theorem prsN_len (l : List S52) : (prsN l).length = l.length := by simp [prsN]
theorem rdN_get {l : List S52} {i : Nat} (h : i < l.length) : rd_T52 l (i : Int) = l[i] := by
  simp [rd_T52, h]
theorem dropN_eq {l : List S52} {i : Nat} (h : i < l.length) : l.drop i = rd_T52 l (i : Int) :: l.drop (i + 1) := by
  rw [rdN_get h]
  exact List.drop_eq_getElem_cons h
theorem rdN_mem {l : List S52} {i : Nat} (h : i < l.length) : rd_T52 l (i : Int) ∈ l := by
  rw [rdN_get h]
  exact List.getElem_mem _
def goodN (e : S52) : Prop := (-9223372036854775808 ≤ e.f0 ∧ e.f0 ≤ 9223372036854775807) ∧ (-9223372036854775808 ≤ e.f1 ∧ e.f1 ≤ 9223372036854775807) ∧ e.f3.size ≤ 140737488351232 ∧ e.f4.f1.length ≤ 140737488351232 ∧ Bytes e.f4.f1 ∧ (0 ≤ e.f4.f2.f3 ∧ e.f4.f2.f3 < 4294967296)
def mkN (e : Ent) : S52 := ⟨e.i, e.t, e.k, e.key, ⟨e.far, e.b, ⟨e.s, e.a, e.n, e.u⟩⟩⟩
theorem prN_mkN (e : Ent) : prN (mkN e) = e := rfl
theorem prsN_mkN (l : List Ent) : prsN (l.map mkN) = l := by
  unfold prsN
  rw [List.map_map]
  exact (List.map_congr_left (fun e _ => prN_mkN e)).trans (List.map_id' l)
theorem entR_good {b : List Int} (hb : Bytes b) {i : Int} {e : Ent} {m : Nat} (h : entR i b = some (e, m)) (hi : 0 ≤ i ∧ i ≤ 9223372036854775807) : goodN (mkN e) := by
  obtain ⟨h1, h2, rfl, h4, h5, h6, h7, h8, h9⟩ := entR_le hb h
  exact ⟨⟨by simp only [mkN]; omega, hi.2⟩, ⟨by simp only [mkN]; omega, by simp only [mkN]; omega⟩, by simp only [mkN]; omega, by simp only [mkN]; omega, h8, h9⟩
theorem getB_batch {b : List Int} (h : getB b ≠ []) : batchB (getB b) = true := by
  generalize hL : getB b = L at h ⊢
  unfold getB at hL
  cases hh : headR b with
  | none => rw [hh] at hL; exact absurd hL.symm h
  | some y =>
    obtain ⟨n, f, k⟩ := y
    rw [hh] at hL
    simp only at hL
    cases hE : entsR n f (b.drop k) with
    | none => rw [hE] at hL; exact absurd hL.symm h
    | some z =>
      obtain ⟨l, r⟩ := z
      rw [hE] at hL
      simp only at hL
      by_cases hc : r = [] ∧ batchB l = true
      · rw [if_pos hc] at hL
        rw [← hL]
        exact hc.2
      · rw [if_neg hc] at hL
        exact absurd hL.symm h
theorem hardR_may (b : List Int) : (hardR b).2.2.2 = 0 ∧ mayH (hardR b).1 (hardR b).2.1 (hardR b).2.2.1 = true ∨ hardR b = (0, 0, 0, 2) := by
  unfold hardR
  split
  · rename_i h
    exact .inl ⟨rfl, h.2.2⟩
  · exact .inr rfl
theorem entsR_goods {b : List Int} : ∀ {d : Nat} {i : Int} {b : List Int} {l : List Ent} {r : List Int}, Bytes b → 0 ≤ i → i + d ≤ 9223372036854775807 → entsR d i b = some (l, r) → (∀ e ∈ l, goodN (mkN e)) ∧ l.length = d := by
  intro d
  induction d with
  | zero =>
    intro i b l r hb hi hd h
    rw [entsR] at h
    cases h
    exact ⟨by simp, rfl⟩
  | succ d ih =>
    intro i b l r hb hi hd h
    rw [entsR] at h
    cases he : entR i b with
    | none => rw [he] at h; cases h
    | some y =>
      obtain ⟨e, m⟩ := y
      rw [he] at h
      simp only at h
      cases hE : entsR d (i + 1) (b.drop m) with
      | none => rw [hE] at h; cases h
      | some z =>
        obtain ⟨l', r'⟩ := z
        rw [hE] at h
        cases h
        obtain ⟨h1, h2⟩ := ih (hb.drop m) (by omega) (by omega) hE
        refine ⟨fun z hz => ?_, by rw [List.length_cons, h2]⟩
        rcases List.mem_cons.1 hz with rfl | hz
        · exact entR_good hb he (by omega)
        · exact h1 z hz
theorem getB_good {b : List Int} (hb : Bytes b) : (∀ e ∈ getB b, goodN (mkN e)) ∧ (getB b).length ≤ 16 := by
  generalize hL : getB b = L
  unfold getB headR at hL
  cases hn : numR 16 b with
  | none =>
    rw [hn] at hL
    subst hL
    exact ⟨by simp, by simp⟩
  | some y =>
    obtain ⟨n, k0⟩ := y
    obtain ⟨a1, _⟩ := numR_le hb hn
    rw [hn] at hL
    simp only at hL
    cases h3 : numR 2147483647 (b.drop k0) with
    | none =>
      rw [h3] at hL
      subst hL
      exact ⟨by simp, by simp⟩
    | some z =>
      obtain ⟨f, m⟩ := z
      obtain ⟨b1, _⟩ := numR_le (hb.drop k0) h3
      rw [h3] at hL
      simp only at hL
      cases hE : entsR n (f : Int) (b.drop (k0 + m)) with
      | none =>
        rw [hE] at hL
        subst hL
        exact ⟨by simp, by simp⟩
      | some z =>
        obtain ⟨l, r⟩ := z
        rw [hE] at hL
        simp only at hL
        obtain ⟨h1, h2⟩ := entsR_goods (b := b) (hb.drop _) (by omega) (by omega) hE
        by_cases hc : r = [] ∧ batchB l = true
        · rw [if_pos hc] at hL
          subst hL
          exact ⟨h1, by omega⟩
        · rw [if_neg hc] at hL
          subst hL
          exact ⟨by simp, by simp⟩
theorem hard_counts_ev (n : Int) : hard_counts.f n = some (decide (0 ≤ n ∧ n ≤ 2147483647)) := by
  unfold hard_counts.f
  by_cases h : n ≥ 0
  · rw [if_pos h]
    simp [h]
  · rw [if_neg h]
    congr 1
    symm
    rw [decide_eq_false_iff_not]
    omega
theorem hard_Check_ev (t v c : Int) : hard_Check.f t v c = some (if mayH t v c = true then 0 else 1) := by
  simp only [hard_Check.f, hard_counts_ev, Option.bind_some, decide_eq_true_eq, mayH_iff]
  repeat' split
  all_goals first | rfl | omega
theorem bytes_Equal_ev {a b : List Int} (ha : Bytes a) (hb : Bytes b) : bytes_Equal.f a b = some (decide (a = b)) := by
  unfold bytes_Equal.f
  congr 1
  rw [Bool.eq_iff_iff, beq_iff_eq, decide_eq_true_eq, toList_eq_iff, bytes_str ha, bytes_str hb]
theorem zero_is (s a n u : Int) : (s == 0 && (a == 0 && (n == 0 && (u == 0)))) = zeroP s a n u := by
  unfold zeroP
  rw [Bool.eq_iff_iff]
  simp only [Bool.and_eq_true, beq_iff_eq, decide_eq_true_eq]
theorem cell_Same_plain {far : Bool} {b : List Int} (hb : Bytes b) (s a n u : Int) : cell_Same.f far b s a n u false ([] : List Int) 0 0 0 0 = some (plainC far b s a n u) := by
  unfold cell_Same.f plainC
  rw [zero_is, bytes_Equal_ev hb Bytes.nil]
  cases far with
  | true =>
    rw [if_neg (by simp)]
    rfl
  | false =>
    rw [if_pos (by simp)]
    by_cases h : zeroP s a n u = true
    · rw [if_pos h, h]
      simp
    · rw [if_neg h, Bool.not_eq_true] at *
      rw [h]
      simp
theorem point_Check_ev (s a l u : Int) : point_Check.f s a l u = some (if mayP s a l = true then 0 else 1) := by
  simp only [point_Check.f, mayP_iff]
  repeat' split
  all_goals first | rfl | omega
theorem zero_not (s a n u : Int) : (!(s == 0) || (!(a == 0) || (!(n == 0) || (!(u == 0))))) = !zeroP s a n u := by
  unfold zeroP
  rw [Bool.eq_iff_iff]
  simp only [Bool.or_eq_true, Bool.not_eq_true', beq_eq_false_iff_ne, decide_eq_false_iff_not]
  omega
theorem cell_Check_ev (far : Bool) (b : List Int) (s a n u : Int) : cell_Check.f far b s a n u = some (if mayC far b s a n u = true then 0 else 1) := by
  unfold cell_Check.f mayC
  cases far with
  | true =>
    rw [if_pos rfl, if_pos rfl]
    by_cases h : b.length = 0
    · rw [if_neg (by omega), point_Check_ev, decide_eq_true h, Bool.true_and]
      rfl
    · rw [if_pos (by omega), decide_eq_false h]
      rfl
  | false =>
    simp only [Bool.false_eq_true, if_false]
    rw [zero_not]
    by_cases h : b.length ≤ 32
    · rw [if_neg (by omega), decide_eq_true h, Bool.true_and]
      cases zeroP s a n u <;> rfl
    · rw [if_pos (by omega), decide_eq_false h]
      rfl
theorem entry_counts_ev (n : Int) : entry_counts.f n = some (decide (1 ≤ n ∧ n ≤ 2147483647)) := by
  unfold entry_counts.f
  split
  · congr 1
    rw [decide_eq_decide]
    omega
  · congr 1
    symm
    rw [decide_eq_false_iff_not]
    omega
theorem toList_nil (s : ByteArray) : s.toList = [] ↔ s.size = 0 := by
  have h := toList_lit s [] Bytes.nil
  have e : u8s [] = [] := rfl
  rw [e] at h
  rw [h, ← List.length_eq_zero_iff, bytesOf_length]
theorem key_bool (s : ByteArray) (n : Int) : ((s.toList == ([] : List UInt8)) != (n == 0)) = !decide (s.size = 0 ↔ n = 0) := by
  have h := toList_nil s
  by_cases h1 : s.size = 0
  · rw [h.2 h1]
    by_cases h2 : n = 0
    · simp [h1, h2]
    · simp [h1, h2]
  · have h3 : ¬ s.toList = [] := fun e => h1 (h.1 e)
    have e1 : (s.toList == ([] : List UInt8)) = false := beq_eq_false_iff_ne.2 h3
    rw [e1]
    by_cases h2 : n = 0
    · simp [h1, h2]
    · simp [h1, h2]
theorem entry_Check_ev {e : Ent} (hb : Bytes e.b) : Ev (fun k => entry_Check.f k e.i e.t e.k e.key e.far e.b e.s e.a e.n e.u) (if mayN e = true then 0 else 1) := by
  have hno : headN e = false → mayN e = false := fun h => by
    unfold mayN
    rw [h, Bool.false_and]
  have hnot : ¬ (1 ≤ e.i ∧ e.i ≤ 2147483647 ∧ 1 ≤ e.t ∧ e.t ≤ 2147483647 ∧ 0 ≤ e.k ∧ e.k ≤ 2 ∧ e.key.size ≤ 64 ∧ (e.key.size = 0 ↔ e.k = 0)) → mayN e = false := fun h => hno (by
    unfold headN
    exact decide_eq_false h)
  have bad1 : mayN e = false → Ev (fun k => entry_Check.j1 k true e.i e.t e.k e.key e.far e.b e.s e.a e.n e.u) (if mayN e = true then (0 : Int) else 1) := by
    intro h
    rw [h, ev_succ]
    simp only [entry_Check.j1, ev_ite]
    rw [if_pos (by trivial), ev_some]
    rfl
  have bad0 : mayN e = false → Ev (fun k => entry_Check.j0 k true e.i e.t e.k e.key e.far e.b e.s e.a e.n e.u) (if mayN e = true then (0 : Int) else 1) := by
    intro h
    rw [h, ev_succ]
    simp only [entry_Check.j0, ev_ite]
    rw [if_pos (by trivial), ev_some]
    rfl
  simp only [entry_Check.f]
  rw [ev_bind_c (entry_counts_ev _), ev_ite]
  by_cases h1 : 1 ≤ e.i ∧ e.i ≤ 2147483647
  · rw [if_pos (by simpa using h1), ev_bind_c (entry_counts_ev _), ev_ite]
    by_cases h2 : 1 ≤ e.t ∧ e.t ≤ 2147483647
    · rw [if_pos (by simpa using h2), ev_ite]
      by_cases h3 : e.k < 0
      · rw [if_pos h3]
        exact bad0 (hnot (by omega))
      · rw [if_neg h3]
        by_cases h4 : e.k > 2
        · rw [decide_eq_true h4]
          exact bad0 (hnot (by omega))
        · rw [decide_eq_false h4, ev_succ]
          simp only [entry_Check.j0, ev_ite]
          rw [if_neg (by simp)]
          by_cases h5 : e.key.size > 64
          · rw [if_pos (by omega)]
            exact bad1 (hnot (by omega))
          · rw [if_neg (by omega), key_bool]
            by_cases h6 : e.key.size = 0 ↔ e.k = 0
            · have hh : headN e = true := headN_iff.2 ⟨h1.1, h1.2, h2.1, h2.2, by omega, by omega, by omega, h6⟩
              rw [decide_eq_true h6, ev_succ]
              simp only [entry_Check.j1, ev_ite]
              rw [if_neg (by simp)]
              unfold mayN
              rw [hh, Bool.true_and]
              by_cases h7 : e.k = 2
              · rw [if_pos h7, decide_eq_false (by omega), Bool.false_or, ev_bind_c (cell_Same_plain hb _ _ _ _), ev_ite]
                by_cases h8 : plainC e.far e.b e.s e.a e.n e.u = true
                · rw [if_pos h8, h8, Bool.true_and, ev_bind_c (cell_Check_ev _ _ _ _ _ _), ev_some]
                · rw [if_neg h8, ev_some]
                  rw [Bool.not_eq_true] at h8
                  rw [h8]
                  rfl
              · rw [if_neg h7, decide_eq_true h7, Bool.true_or, Bool.true_and, ev_bind_c (cell_Check_ev _ _ _ _ _ _), ev_some]
            · rw [decide_eq_false h6]
              exact bad1 (hnot (by omega))
    · rw [if_neg (by simpa using h2)]
      exact bad0 (hnot (by omega))
  · rw [if_neg (by simpa using h1)]
    exact bad0 (hnot (by omega))
theorem batch_none (e : Ent) (l : List Ent) : batchFrom none (e :: l) = (mayN e && batchFrom (some (e.i, e.t)) l) := rfl
theorem batch_some (i t : Int) (e : Ent) (l : List Ent) : batchFrom (some (i, t)) (e :: l) = (mayN e && (decide (e.i = i + 1 ∧ t ≤ e.t) && batchFrom (some (e.i, e.t)) l)) := rfl
theorem entry_Batch_ev (l : List S52) (hl : l.length ≤ 140737488351232) (hg : ∀ e ∈ l, goodN e) : Ev (fun k => entry_Batch.f k l) (if batchB (prsN l) = true then 0 else 1) := by
  have main : ∀ (d j : Nat) (p : Option (Int × Int)), l.length - j = d → j ≤ l.length → (j = 0 → p = none) → (∀ i : Nat, j = i + 1 → p = some ((rd_T52 l (i : Int)).f0, (rd_T52 l (i : Int)).f1) ∧ 1 ≤ (rd_T52 l (i : Int)).f0 ∧ (rd_T52 l (i : Int)).f0 ≤ 2147483647) →
      Ev (fun k => entry_Batch.l0 k l l (l.length : Int) (j : Int)) (if batchFrom p (prsN (l.drop j)) = true then (0 : Int) else 1) := by
    intro d
    induction d with
    | zero =>
      intro j p hd hj _ _
      rw [ev_succ]
      simp only [entry_Batch.l0, ev_ite]
      rw [if_neg (by omega), ev_some, List.drop_eq_nil_of_le (by omega)]
      cases p <;> rfl
    | succ d ih =>
      intro j p hd hj h0 hs
      have hjl : j < l.length := by omega
      have hgj := hg _ (rdN_mem hjl)
      have ih' := fun (hr : 1 ≤ (rd_T52 l (j : Int)).f0 ∧ (rd_T52 l (j : Int)).f0 ≤ 2147483647) => ih (j + 1) (some ((rd_T52 l (j : Int)).f0, (rd_T52 l (j : Int)).f1)) (by omega) (by omega) (by omega) (fun i hi => by rw [show i = j by omega]; exact ⟨rfl, hr⟩)
      have hw : wrap64 ((j : Int) + 1) = ((j + 1 : Nat) : Int) := w64 (by omega) (by omega)
      rw [dropN_eq hjl]
      rw [ev_succ]
      simp only [entry_Batch.l0, ev_ite, hw]
      generalize hE : rd_T52 l (j : Int) = e at hgj ih' ⊢
      have hc : Ev (fun k => entry_Check.f k e.f0 e.f1 e.f2 e.f3 e.f4.f0 e.f4.f1 e.f4.f2.f0 e.f4.f2.f1 e.f4.f2.f2 e.f4.f2.f3) (if mayN (prN e) = true then 0 else 1) := entry_Check_ev (e := prN e) hgj.2.2.2.2.1
      have el : prsN (e :: l.drop (j + 1)) = prN e :: prsN (l.drop (j + 1)) := rfl
      have e0 : (prN e).i = e.f0 := rfl
      have e1 : (prN e).t = e.f1 := rfl
      rw [el, if_pos (by omega), if_pos (by omega), if_pos (by omega), ev_bind hc, ev_ite]
      by_cases hm : mayN (prN e) = true
      · have hm' := (mayN_iff.1 hm).1
        rw [e0, e1] at hm'
        have ih'' := ih' ⟨hm'.1, hm'.2.1⟩
        rw [if_pos hm, if_pos (by trivial), ev_ite]
        by_cases hj0 : j = 0
        · rw [if_neg (by omega), h0 hj0, batch_none, hm, Bool.true_and, e0, e1]
          exact ih''
        · obtain ⟨hp, hr1, hr2⟩ := hs (j - 1) (by omega)
          have e2 : wrap64 ((j : Int) - 1) = ((j - 1 : Nat) : Int) := by
            rw [w64 (by omega) (by omega)]
            omega
          rw [if_pos (by omega), e2, ev_ite, if_pos (by omega), ev_ite, if_pos (by omega), ev_ite, hp, batch_some, hm, Bool.true_and, e0, e1, w64 (by omega) (by omega)]
          by_cases h1 : e.f0 = (rd_T52 l ((j - 1 : Nat) : Int)).f0 + 1
          · rw [if_pos h1, ev_ite]
            by_cases h2 : e.f1 < (rd_T52 l ((j - 1 : Nat) : Int)).f1
            · rw [if_pos h2, ev_some, decide_eq_false (by omega), Bool.false_and]
              rfl
            · rw [if_neg h2, decide_eq_true (by omega), Bool.true_and]
              exact ih''
          · rw [if_neg h1, ev_some, decide_eq_false (by omega), Bool.false_and]
            rfl
      · rw [if_neg hm, if_neg (by omega), ev_some]
        rw [Bool.not_eq_true] at hm
        have hf : batchFrom p (prN e :: prsN (l.drop (j + 1))) = false := by
          cases p with
          | none => rw [batch_none, hm, Bool.false_and]
          | some q =>
            obtain ⟨i, t⟩ := q
            rw [batch_some, hm, Bool.false_and]
        rw [hf]
        rfl
  have bad : ¬ (1 ≤ l.length ∧ l.length ≤ 16) → Ev (fun k => entry_Batch.j0 k l true) (if batchB (prsN l) = true then (0 : Int) else 1) := by
    intro h
    have e : batchB (prsN l) = false := by
      unfold batchB
      rw [prsN_len, decide_eq_false h, Bool.false_and]
    rw [e, ev_succ]
    simp only [entry_Batch.j0, ev_ite]
    rw [if_pos (by trivial), ev_some]
    rfl
  simp only [entry_Batch.f, ev_ite]
  by_cases h1 : l.length < 1
  · rw [if_pos (by omega)]
    exact bad (by omega)
  · rw [if_neg (by omega)]
    by_cases h2 : l.length > 16
    · rw [decide_eq_true (by omega)]
      exact bad (by omega)
    · have e : batchB (prsN l) = batchFrom none (prsN l) := by
        unfold batchB
        rw [prsN_len, decide_eq_true (by omega), Bool.true_and]
      rw [decide_eq_false (by omega), ev_succ, e]
      simp only [entry_Batch.j0, ev_ite]
      rw [if_neg (by simp)]
      exact main (l.length - 0) 0 none rfl (by omega) (fun _ => rfl) (fun i hi => by omega)
theorem wal_Check_put (l : List S52) (hl : l.length ≤ 140737488351232) (hg : ∀ e ∈ l, goodN e) : Ev (fun k => wal_Check.f k 1 l 0 0 0 0) (if batchB (prsN l) = true then 0 else 1) := by
  have h2 : Ev (fun k => wal_Check.j2 k true false false 1 l 0 0 0 0) (if batchB (prsN l) = true then 0 else 1) := by
    rw [ev_succ]
    simp only [wal_Check.j2, ev_ite, Bool.false_eq_true, if_false, if_true]
    rw [ev_bind (entry_Batch_ev l hl hg), ev_some]
  have h1 : Ev (fun k => wal_Check.j1 k true false false false 1 l 0 0 0 0) (if batchB (prsN l) = true then 0 else 1) := by
    rw [ev_succ]
    simpa [wal_Check.j1, ev_ite] using h2
  have h0 : Ev (fun k => wal_Check.j0 k true false false false 1 l 0 0 0 0) (if batchB (prsN l) = true then 0 else 1) := by
    rw [ev_succ]
    simpa [wal_Check.j0, ev_ite] using h1
  simpa [wal_Check.f, ev_ite] using h0
theorem wal_Check_hard (t v c : Int) : Ev (fun k => wal_Check.f k 2 [] t v c 0) (if mayH t v c = true then 0 else 1) := by
  have h2 : Ev (fun k => wal_Check.j2 k false true false 2 [] t v c 0) (if mayH t v c = true then 0 else 1) := by
    rw [ev_succ]
    simp only [wal_Check.j2, ev_ite, Bool.false_eq_true, if_false, if_true, hard_Check_ev, Option.bind_some]
    rw [ev_some]
  have h1 : Ev (fun k => wal_Check.j1 k false true false false 2 [] t v c 0) (if mayH t v c = true then 0 else 1) := by
    rw [ev_succ]
    simpa [wal_Check.j1, ev_ite] using h2
  have h0 : Ev (fun k => wal_Check.j0 k false true false false 2 [] t v c 0) (if mayH t v c = true then 0 else 1) := by
    rw [ev_succ]
    simpa [wal_Check.j0, ev_ite] using h1
  simpa [wal_Check.f, ev_ite] using h0
theorem wal_Check_apply (i : Int) : Ev (fun k => wal_Check.f k 3 [] 0 0 0 i) (if 1 ≤ i ∧ i ≤ 2147483647 then 0 else 1) := by
  have h2 : Ev (fun k => wal_Check.j2 k false false false 3 [] 0 0 0 i) (if 1 ≤ i ∧ i ≤ 2147483647 then 0 else 1) := by
    rw [ev_succ]
    simp only [wal_Check.j2, ev_ite, Bool.false_eq_true, if_false]
    by_cases h : i < 1
    · rw [if_pos h, if_neg (by omega), ev_some]
    · rw [if_neg h]
      by_cases h2 : i > 2147483647
      · rw [if_pos h2, if_neg (by omega), ev_some]
      · rw [if_neg h2, if_pos (by omega), ev_some]
  have h1 : Ev (fun k => wal_Check.j1 k false false true false 3 [] 0 0 0 i) (if 1 ≤ i ∧ i ≤ 2147483647 then 0 else 1) := by
    rw [ev_succ]
    simpa [wal_Check.j1, ev_ite] using h2
  have h0 : Ev (fun k => wal_Check.j0 k false false true false 3 [] 0 0 0 i) (if 1 ≤ i ∧ i ≤ 2147483647 then 0 else 1) := by
    rw [ev_succ]
    simpa [wal_Check.j0, ev_ite] using h1
  simpa [wal_Check.f, ev_ite] using h0
theorem garnerlaw24_awake_ev : Ev (fun k => garnerlaw24_awake.f k) true := Ev.of (fun k => garnerlaw24_awake.mono k) (k := 40) (by decide +kernel)
theorem varint_Get_l0_ev (x : List Int) (hb : Bytes x) (hl : x.length ≤ maxLen) : ∀ (d i : Nat) (u : Int), x.length - i = d → i ≤ 10 → i ≤ x.length → 0 ≤ u → u < 2 ^ (7 * i) →
    Ev (fun k => varint_Get.l0 k x u (i : Int)) (match dec i (x.drop i) with | some (v, n) => (u + v * 2 ^ (7 * i), (i : Int) + n, 0) | none => (0, 0, 2)) := by
  have hlm := maxLen_le hl
  intro d
  induction d with
  | zero =>
    intro i u hd hi hix hu0 hu
    rw [ev_succ]
    simp only [varint_Get.l0, ev_ite]
    rw [if_neg (by omega), ev_succ]
    simp only [varint_Get.j1, ev_ite]
    rw [if_neg (by simp), ev_some, List.drop_eq_nil_of_le (by omega)]
    rfl
  | succ d ih =>
    intro i u hd hi hix hu0 hu
    have hlt : i < x.length := by omega
    have hc := hb.rd (i := (i : Int)) (by omega) (by omega)
    rw [ev_succ]
    simp only [varint_Get.l0, ev_ite]
    rw [if_pos (by omega), ev_succ, drop_eq hlt]
    simp only [varint_Get.j1, ev_ite, decide_eq_true_eq]
    generalize hcc : rd x (i : Int) = c at hc ⊢
    by_cases h10 : i = 10
    · subst h10
      rw [if_neg (by omega), ev_some, dec, if_pos (by omega)]
    · rw [if_pos (by omega), if_pos (by omega), if_pos (by omega), wu64 (by omega) (by omega)]
      have hj2 : ∀ b : Bool, b = decide (i = 9 ∧ 1 < c) → Ev (fun k => varint_Get.j2 k x u (i : Int) c b) (match dec i (c :: x.drop (i + 1)) with | some (v, n) => (u + v * 2 ^ (7 * i), (i : Int) + n, 0) | none => (0, 0, 2)) := by
        intro b hbb
        rw [ev_succ]
        simp only [varint_Get.j2, ev_ite, dec]
        rw [if_neg (show ¬ 10 ≤ i by omega)]
        by_cases h9 : i = 9 ∧ 1 < c
        · rw [if_pos (by rw [hbb]; simpa using h9), if_pos h9, ev_some]
        · rw [if_neg (by rw [hbb]; simpa using h9), if_neg h9, w64 (by omega) (by omega), if_pos (by omega)]
          have hsh : ∀ y : Int, 0 ≤ y → y ≤ 127 → (i = 9 → y ≤ 1) → Go.bits .or .u64 u (shl .u64 y (7 * (i : Int))) = u + y * 2 ^ (7 * i) ∧ y * 2 ^ (7 * i) + 2 ^ (7 * i) ≤ (18446744073709551616 : Int) := by
            intro y hy0 hy1 hy9
            have hi' : i = 0 ∨ i = 1 ∨ i = 2 ∨ i = 3 ∨ i = 4 ∨ i = 5 ∨ i = 6 ∨ i = 7 ∨ i = 8 ∨ i = 9 := by omega
            have hs : y * 2 ^ (7 * i) + 2 ^ (7 * i) ≤ (18446744073709551616 : Int) := by
              rcases hi' with rfl | rfl | rfl | rfl | rfl | rfl | rfl | rfl | rfl | rfl <;> simp <;> omega
            have hp : (0 : Int) < 2 ^ (7 * i) := Int.pow_pos (by omega)
            have hm : 0 ≤ y * 2 ^ (7 * i) := Int.mul_nonneg hy0 (by omega)
            have e : (7 * (i : Int)).toNat = 7 * i := by omega
            refine ⟨?_, hs⟩
            unfold shl
            rw [e, Nat.min_eq_left (show 7 * i ≤ IntKind.u64.bits by show 7 * i ≤ 64; omega), wu64 hm (by omega)]
            exact or_u64 (by omega) hu0 hu hy0 (by omega)
          by_cases h128 : c < 128
          · have hm : c % 128 = c := by omega
            rw [if_pos h128, if_pos h128]
            obtain ⟨h1, h2⟩ := hsh c (by omega) (by omega) (fun h => by omega)
            have hr : Ev (fun _ => some (Go.bits .or .u64 u (shl .u64 (Go.bits .andNot .u64 c 128) (7 * (i : Int))), wrap64 ((i : Int) + 1), (0 : Int))) (u + c * 2 ^ (7 * i), (i : Int) + 1, 0) := by
              rw [ev_some, andNot_u64 hc.1 hc.2, hm, h1, w64 (by omega) (by omega)]
            by_cases h0 : c = 0
            · rw [if_pos h0]
              by_cases hi0 : 0 < i
              · rw [if_pos (by omega), if_pos ⟨h0, hi0⟩, ev_some]
              · rw [if_neg (by omega), if_neg (by omega)]
                simp only
                rw [Int.toNat_of_nonneg hc.1]
                exact hr
            · rw [if_neg h0, if_neg (fun h => h0 h.1)]
              simp only
              rw [Int.toNat_of_nonneg hc.1]
              exact hr
          · have hx9 : i ≠ 9 := by omega
            rw [if_neg h128, if_neg h128, andNot_u64 hc.1 hc.2, w64 (by omega) (by omega)]
            obtain ⟨h1, h2⟩ := hsh (c % 128) (by omega) (by omega) (fun h => by omega)
            rw [h1]
            have hp : (0 : Int) < 2 ^ (7 * i) := Int.pow_pos (by omega)
            have hm : 0 ≤ c % 128 * 2 ^ (7 * i) := Int.mul_nonneg (by omega) (by omega)
            have hpow : (2 : Int) ^ (7 * (i + 1)) = 128 * 2 ^ (7 * i) := by
              rw [Nat.mul_add, Int.pow_add]
              omega
            have hlt2 : c % 128 * 2 ^ (7 * i) ≤ 127 * 2 ^ (7 * i) := Int.mul_le_mul_of_nonneg_right (by omega) (by omega)
            have := ih (i + 1) (u + c % 128 * 2 ^ (7 * i)) (by omega) (by omega) (by omega) (by omega) (by omega)
            refine ev_eq this ?_
            cases dec (i + 1) (x.drop (i + 1)) with
            | none => rfl
            | some p =>
              obtain ⟨v, n⟩ := p
              simp only [Option.map_some]
              have e2 : (((c % 128).toNat + 128 * v : Nat) : Int) = c % 128 + 128 * v := by omega
              rw [e2, hpow, Int.add_mul, Int.mul_comm 128 (2 ^ (7 * i)), Int.mul_comm (128 : Int) (v : Int), Int.mul_assoc, Int.mul_comm (128 : Int) (2 ^ (7 * i)), ← Int.add_assoc]
              congr 2
              omega
      by_cases h9 : i = 9
      · rw [if_pos (by omega)]
        exact hj2 _ (by simp [h9])
      · rw [if_neg (by omega)]
        exact hj2 _ (by simp [h9])
theorem varint_Get_ev {x : List Int} (hb : Bytes x) (hl : x.length ≤ maxLen) : Ev (fun k => varint_Get.f k x) (getR x) := by
  have h := varint_Get_l0_ev x hb hl (x.length - 0) 0 0 rfl (by omega) (by omega) (by omega) (by simp)
  refine ev_eq h ?_
  unfold getR
  simp only [List.drop_zero]
  cases dec 0 x with
  | none => rfl
  | some p => simp
theorem varint_All_l0_ev (x : List Int) (hb : Bytes x) (hl : x.length ≤ maxLen) (n : Nat) (hn : n ≤ 1000) : ∀ (d j at_ : Nat) (l : List Int), d + j = n → l.length = j → at_ ≤ x.length →
    Ev (fun k => varint_All.l0 k x l (at_ : Int) (n : Int) (j : Int)) (if (decs d (x.drop at_)).2.2 = true then (l ++ (decs d (x.drop at_)).1, (at_ : Int) + ((decs d (x.drop at_)).2.1 : Int), 0) else ([], (at_ : Int) + ((decs d (x.drop at_)).2.1 : Int), 2)) := by
  have hlm := maxLen_le hl
  intro d
  induction d with
  | zero =>
    intro j at_ l hd hj ha
    rw [ev_succ]
    simp only [varint_All.l0, ev_ite]
    rw [if_neg (by omega), ev_some]
    simp [decs]
  | succ d ih =>
    intro j at_ l hd hj ha
    have hb' := hb.drop at_
    rw [ev_succ]
    simp only [varint_All.l0, ev_ite]
    rw [if_pos (by omega), if_pos (by omega), if_pos (by omega), Int.toNat_natCast, ev_bind (varint_Get_ev hb' (by rw [List.length_drop]; omega))]
    simp only [ev_ite, decs, getR]
    rcases dec_cases (x.drop at_) with hdec | ⟨u, k, hdec⟩
    · simp only [hdec, ev_ite]
      rw [if_neg (by omega), ev_some, if_neg (by simp)]
      simp
    · have hk := dec_pos hb' hdec
      rw [List.length_drop] at hk
      simp only [hdec, ev_ite]
      rw [if_pos (by trivial), if_pos (by omega), w64 (by omega) (by omega), w64 (by omega) (by omega)]
      have := ih (j + 1) (at_ + k) (l ++ [(u : Int)]) (by omega) (by simp [hj]) (by omega)
      rw [Int.natCast_add, Int.natCast_add] at this
      refine ev_eq this ?_
      rw [List.drop_drop]
      simp only [List.append_assoc, List.singleton_append]
      split <;> (congr 2; omega)
theorem varint_All_ev {x : List Int} (hb : Bytes x) (hl : x.length ≤ maxLen) (n : Nat) (hn : n ≤ 1000) : Ev (fun k => varint_All.f k x (n : Int)) (allR n x) := by
  simp only [varint_All.f, ev_ite]
  rw [if_neg (by omega), ev_succ]
  simp only [varint_All.j0, ev_ite, decide_eq_true_eq]
  rw [if_neg (by omega)]
  have := varint_All_l0_ev x hb hl n hn n 0 0 [] (by omega) rfl (by omega)
  refine ev_eq this ?_
  unfold allR
  simp
theorem slices_Max_uint64_uint64_l0_ev (x : List Int) (hl : x.length ≤ maxLen) : ∀ (d i : Nat) (m : Int), x.length - i = d → i ≤ x.length → Ev (fun k => slices_Max_uint64_uint64.l0 k x m (i : Int)) ((x.drop i).foldl mx m) := by
  have hlm := maxLen_le hl
  intro d
  induction d with
  | zero =>
    intro i m hd hi
    rw [ev_succ]
    simp only [slices_Max_uint64_uint64.l0, ev_ite]
    rw [if_neg (by omega), ev_some, List.drop_eq_nil_of_le (by omega)]
    rfl
  | succ d ih =>
    intro i m hd hi
    rw [ev_succ]
    simp only [slices_Max_uint64_uint64.l0, ev_ite]
    rw [if_pos (by omega), if_pos (by omega), w64 (by omega) (by omega), drop_eq (xs := x) (by omega)]
    exact ih (i + 1) _ (by omega) (by omega)
theorem slices_Max_uint64_uint64_ev {x : List Int} (hl : x.length ≤ maxLen) (h0 : 0 < x.length) : Ev (fun k => slices_Max_uint64_uint64.f k x) (maxl x) := by
  simp only [slices_Max_uint64_uint64.f, ev_ite]
  rw [if_neg (by omega), if_pos (by omega)]
  refine ev_eq (slices_Max_uint64_uint64_l0_ev x hl (x.length - 1) 1 (rd x 0) rfl (by omega)) ?_
  match x, h0 with
  | y :: r, _ => rfl
theorem point_sumOf_ev {x : List Int} (hb : Bytes x) (h : 4 ≤ x.length) : point_sumOf.f x = some (sumAt x 0) := by
  have h0 := hb.rd (i := 0) (by omega) (by omega)
  have h1 := hb.rd (i := 1) (by omega) (by omega)
  have h2 := hb.rd (i := 2) (by omega) (by omega)
  have h3 := hb.rd (i := 3) (by omega) (by omega)
  unfold point_sumOf.f
  rw [if_pos (by omega), if_pos (by omega), if_pos (by omega), if_pos (by omega)]
  have e : sumAt x 0 = rd x 0 + 256 * rd x 1 + 65536 * rd x 2 + 16777216 * rd x 3 := rfl
  rw [e]
  generalize rd x 0 = a at *
  generalize rd x 1 = b at *
  generalize rd x 2 = c at *
  generalize rd x 3 = d at *
  have e1 : a % 4294967296 = a := by omega
  have e2 : b % 4294967296 * 256 % 4294967296 = b * 2 ^ 8 := by omega
  have e3 : c % 4294967296 * 65536 % 4294967296 = c * 2 ^ 16 := by omega
  have e4 : d % 4294967296 * 16777216 % 4294967296 = d * 2 ^ 24 := by omega
  have e5 := or_u32 (j := 8) (x := a) (y := b) (by omega) (by omega) (by omega) (by omega) (by omega)
  have e6 := or_u32 (j := 16) (x := a + b * 2 ^ 8) (y := c) (by omega) (by omega) (by omega) (by omega) (by omega)
  have e7 := or_u32 (j := 24) (x := a + b * 2 ^ 8 + c * 2 ^ 16) (y := d) (by omega) (by omega) (by omega) (by omega) (by omega)
  rw [e1, e2, e3, e4, e5, e6, e7]
  congr 1
  omega
theorem point_Get_ev {x : List Int} (hb : Bytes x) (hl : x.length ≤ maxLen) : Ev (fun k => point_Get.f k x) ((pointR x).1, (pointR x).2.1, (pointR x).2.2.1, (pointR x).2.2.2.1, (pointR x).2.2.2.2, if (pointR x).2.2.2.2 = 0 then 2 else 0) := by
  have hlm := maxLen_le hl
  have hbad : ∀ l a, Ev (fun k => point_Get.j0 k x l a true) (0, 0, 0, 0, 0, 2) := by
    intro l a
    rw [ev_succ]
    simp [point_Get.j0, ev_ite, ev_some]
  simp only [point_Get.f]
  have h3 : Ev (fun k => varint_All.f k x 3) (allR 3 x) := varint_All_ev hb hl 3 (by omega)
  rw [ev_bind h3]
  simp only [allR]
  by_cases h : (decs 3 x).2.2 = true
  · obtain ⟨u, v, w, h1, h2, h3, h4⟩ := decs_three hb h
    have hat := decs_at (n := 3) hb
    simp only [pointR, h, if_true, h1, ev_ite, true_and]
    have r0 : rd [u, v, w] 0 = u := rfl
    have r1 : rd [u, v, w] 1 = v := rfl
    have r2 : rd [u, v, w] 2 = w := rfl
    have l3 : (([u, v, w] : List Int).length : Int) = 3 := rfl
    have hm : Ev (fun k => slices_Max_uint64_uint64.f k [u, v, w]) (mx (mx u v) w) := slices_Max_uint64_uint64_ev (x := [u, v, w]) (by simp [maxLen]) (by simp)
    have hmx : (mx (mx u v) w > 2147483647) ↔ (2147483647 < u ∨ 2147483647 < v ∨ 2147483647 < w) := by unfold mx; repeat' split <;> omega
    rw [ev_bind hm]
    simp only [ev_ite, r0, r1, r2, hmx]
    by_cases hbig : 2147483647 < u ∨ 2147483647 < v ∨ 2147483647 < w
    · have hn : ¬ mayP u v w = true := by rw [mayP_iff]; omega
      rw [if_pos hbig, if_neg (fun hh => hn hh.2)]
      exact hbad _ _
    · rw [if_neg hbig, w64 (by omega) (by omega)]
      by_cases h4 : (decs 3 x).2.1 + 4 ≤ x.length
      · have e : decide ((x.length : Int) - ((decs 3 x).2.1 : Int) < 4) = false := by rw [decide_eq_false_iff_not]; omega
        rw [e, ev_succ]
        simp only [point_Get.j0, ev_ite, l3, Int.reduceLT, if_true, Bool.false_eq_true, if_false, r0, r1, r2, Int.toNat_natCast]
        rw [if_pos (by omega), if_pos (by omega), ev_bind_c (point_sumOf_ev (hb.drop _) (by rw [List.length_drop]; omega))]
        rw [ev_bind_c (point_Check_ev _ _ _ _), ev_ite, ev_some, ev_some, w64 (x := u) (by omega) (by omega), w64 (x := v) (by omega) (by omega), w64 (x := w) (by omega) (by omega), w64 (by omega) (by omega)]
        have es : sumAt (x.drop (decs 3 x).2.1) 0 = sumAt x (decs 3 x).2.1 := by
          have er : ∀ (j : Nat) (n : Int), n = ((decs 3 x).2.1 : Int) + j → rd (x.drop (decs 3 x).2.1) (j : Int) = rd x n := by
            intro j n hn
            subst hn
            have : ((decs 3 x).2.1 : Int) + (j : Int) = (((decs 3 x).2.1 + j : Nat) : Int) := by omega
            rw [this, rd_nat, rd_nat]
            simp [List.getD_eq_getElem?_getD]
          unfold sumAt
          rw [← er 0 _ (by omega), ← er 1 _ (by omega), ← er 2 _ (by omega), ← er 3 _ (by omega)]
          rfl
        rw [es]
        by_cases hm : mayP u v w = true
        · rw [if_pos hm, if_pos (by trivial), if_pos ⟨h4, hm⟩]
          simp only
          rw [if_neg (by omega)]
        · rw [if_neg hm, if_neg (by omega), if_neg (fun hh => hm hh.2)]
          rfl
      · have e : decide ((x.length : Int) - ((decs 3 x).2.1 : Int) < 4) = true := by rw [decide_eq_true_eq]; omega
        rw [e, if_neg (fun hh => h4 hh.1)]
        exact hbad _ _
  · have hf : (decs 3 x).2.2 = false := by simpa using h
    simp only [pointR, hf, ev_ite, Bool.false_eq_true, if_false, false_and]
    rw [if_neg (by omega)]
    exact hbad _ _
theorem bytes_Clone_ev {b : List Int} (h : b.length < 140737488355328) : bytes_Clone.f b = some b := by
  unfold bytes_Clone.f
  rw [if_pos h]
theorem cell_Get_ev {x : List Int} (hb : Bytes x) (hl : x.length ≤ 1000000000000) : Ev (fun k => cell_Get.f k x) (match cellR x with
    | none => (false, ([] : List Int), (0 : Int), (0 : Int), (0 : Int), (0 : Int), (0 : Int), (2 : Int))
    | some (c, m) => (c.1, c.2.1, c.2.2.1, c.2.2.2.1, c.2.2.2.2.1, c.2.2.2.2.2, (m : Int), 0)) := by
  have hl' : x.length ≤ maxLen := by unfold maxLen; omega
  have bad : Ev (fun k => cell_Get.j0 k x true) (false, ([] : List Int), (0 : Int), (0 : Int), (0 : Int), (0 : Int), (0 : Int), (2 : Int)) := by
    rw [ev_succ]
    simp only [cell_Get.j0, ev_ite]
    rw [if_pos (by trivial), ev_some]
  simp only [cell_Get.f, ev_ite, cellR]
  by_cases h0 : x.length = 0
  · rw [if_pos (by omega), if_pos h0]
    exact bad
  rw [if_neg (by omega), if_pos (by omega), if_neg h0]
  have hr := hb.rd (i := 0) (by omega) (by omega)
  have h4 : (x.drop 1).length = x.length - 1 := List.length_drop
  have hd1 : x.drop (1 : Nat) = x.drop 1 := rfl
  by_cases hgt : rd x 0 > 1
  · rw [decide_eq_true hgt, if_neg (by omega), if_neg (by omega)]
    exact bad
  rw [decide_eq_false hgt, ev_succ]
  simp only [cell_Get.j0, ev_ite]
  rw [if_neg (by simp), if_pos (by omega)]
  by_cases h1 : rd x 0 = 1
  · rw [if_pos h1, if_pos (by omega), ev_bind (point_Get_ev (hb.drop 1) (by omega)), ev_ite, if_pos h1]
    have h3 := pointR_le6 (x.drop 1)
    by_cases h2 : (pointR (x.drop 1)).2.2.2.2 = 0
    · simp only [h2, if_true]
      rw [if_neg (by simp), ev_some]
    · simp only [h2, if_false]
      rw [if_pos (by trivial), ev_some, w64 (by omega) (by omega)]
      simp only [Prod.mk.injEq, true_and, and_true]
      omega
  · rw [if_neg h1, if_pos (by omega), ev_bind (varint_Get_ev (hb.drop 1) (by omega)), ev_ite, if_neg h1, if_pos (show rd x 0 = 0 by omega)]
    unfold numR getR
    cases hd : dec 0 (x.drop 1) with
    | none =>
      simp only
      rw [if_neg (by simp), ev_some]
    | some y =>
      obtain ⟨u, n⟩ := y
      obtain ⟨d1, d2, d3, d4⟩ := dec_pos (hb.drop 1) hd
      simp only
      rw [if_pos (by trivial), ev_ite]
      by_cases h5 : u ≤ 32
      · rw [if_neg (by omega), if_pos h5, ev_ite]
        simp only
        rw [w64 (x := (x.length : Int) - 1) (by omega) (by omega), w64 (x := (x.length : Int) - 1 - n) (by omega) (by omega), w64n (a := (u : Int)) u rfl (by omega), w64n (a := 1 + (n : Int)) (1 + n) (by omega) (by omega), w64n (a := ((1 + n : Nat) : Int) + u) (1 + n + u) (by omega) (by omega)]
        by_cases h6 : 1 + n + u ≤ x.length
        · rw [if_neg (by omega), if_pos h6, ev_ite, if_pos (by omega), ev_ite, if_pos (by omega), ev_ite, if_pos (by omega)]
          simp only [Int.toNat_natCast]
          rw [ev_bind_c (bytes_Clone_ev (by rw [List.length_drop, List.length_take]; omega)), ev_some]
          have e5 : (x.take (1 + n + u)).drop (1 + n) = (x.drop (1 + n)).take u := by
            rw [List.drop_take, show 1 + n + u - (1 + n) = u by omega]
          rw [e5]
        · rw [if_pos (by omega), if_neg h6, ev_some]
      · rw [if_pos (by omega), if_neg h5, ev_some]
theorem entry_Get_number_ev {x : List Int} (hb : Bytes x) (hl : x.length ≤ 1000000000) (most : Nat) (mi : Int) (hmi : mi = (most : Int)) (hm : most ≤ 2147483647) : Ev (fun k => entry_Get.t_number.f k x false mi) (match numR most x with
    | none => ((0 : Int), x, true)
    | some (u, n) => ((u : Int), x.drop n, false)) := by
  subst hmi
  simp only [entry_Get.t_number.f]
  rw [ev_bind (varint_Get_ev hb (by unfold maxLen; omega))]
  simp only [ev_ite]
  rw [if_neg (by simp), wu64 (by omega) (by omega)]
  unfold numR getR
  cases hd : dec 0 x with
  | none =>
    simp only
    rw [if_neg (by omega), ev_some]
  | some y =>
    obtain ⟨u, n⟩ := y
    obtain ⟨d1, d2, d3, d4⟩ := dec_pos hb hd
    simp only
    rw [if_pos (by trivial)]
    by_cases h : u ≤ most
    · rw [if_neg (by omega), if_pos h, if_pos (by omega), ev_some, w64n (a := (u : Int)) u rfl (by omega), Int.toNat_natCast]
    · rw [if_pos (by omega), if_neg h, ev_some]
theorem entry_Get_number_bad {x : List Int} (hb : Bytes x) (hl : x.length ≤ 1000000000) (mi : Int) : Ev (fun k => entry_Get.t_number.f k x true mi) ((0 : Int), x, true) := by
  simp only [entry_Get.t_number.f]
  rw [ev_bind (varint_Get_ev hb (by unfold maxLen; omega))]
  simp only [ev_ite]
  rw [if_pos (by trivial), ev_some]
theorem entry_Get_bytes_bad (x : List Int) (n : Int) : entry_Get.t_bytes.f x true n = some ([], x, true) := by
  unfold entry_Get.t_bytes.f
  rw [if_pos rfl]
theorem entry_Get_cell_ev {x : List Int} (hb : Bytes x) (hl : x.length ≤ 1000000000) : Ev (fun k => entry_Get.t_cell.f k x false) (match cellR x with
    | none => (false, ([] : List Int), (0 : Int), (0 : Int), (0 : Int), (0 : Int), x, true)
    | some (c, m) => (c.1, c.2.1, c.2.2.1, c.2.2.2.1, c.2.2.2.2.1, c.2.2.2.2.2, x.drop m, false)) := by
  simp only [entry_Get.t_cell.f]
  rw [ev_bind (cell_Get_ev hb (by omega))]
  simp only [ev_ite]
  rw [if_neg (by simp)]
  cases hc : cellR x with
  | none =>
    simp only
    rw [if_neg (by omega), ev_some]
  | some y =>
    obtain ⟨c, m⟩ := y
    obtain ⟨c1, c2, _⟩ := cellR_le hb hc
    simp only
    rw [if_pos (by trivial), if_pos (by omega), ev_some, Int.toNat_natCast]
theorem entry_Get_cell_bad {x : List Int} (hb : Bytes x) (hl : x.length ≤ 1000000000) : Ev (fun k => entry_Get.t_cell.f k x true) (false, ([] : List Int), (0 : Int), (0 : Int), (0 : Int), (0 : Int), x, true) := by
  simp only [entry_Get.t_cell.f]
  rw [ev_bind (cell_Get_ev hb (by omega))]
  simp only [ev_ite]
  rw [if_pos (by trivial), ev_some]
theorem entry_Get_tail_bad {x : List Int} (hb : Bytes x) (hl : x.length ≤ 1000000000) (i t kd : Int) (key : ByteArray) : ∃ r : S52 × List Int × Bool, Ev (fun k => if kd = 2 then some ((⟨i, t, kd, key, ⟨false, [], ⟨0, 0, 0, 0⟩⟩⟩ : S52), x, true) else
    (entry_Get.t_cell.f k x true).bind fun (g1, g2, g3, g4, g5, g6, l5, b5) => some ((⟨i, t, kd, key, ⟨g1, g2, ⟨g3, g4, g5, g6⟩⟩⟩ : S52), l5, b5)) r ∧ r.2.2 = true := by
  simp only [ev_ite]
  by_cases h : kd = 2
  · exact ⟨_, by rw [if_pos h, ev_some], rfl⟩
  · exact ⟨_, by rw [if_neg h, ev_bind (entry_Get_cell_bad hb hl), ev_some], rfl⟩
theorem entry_Get_entry_ev {x : List Int} (hb : Bytes x) (hl : x.length ≤ 1000000000) (i : Int) : ∃ r, Ev (fun k => entry_Get.t_entry.f k x false i) r ∧ (match entR i x with
    | none => r.2.2 = true
    | some (e, m) => r = (mkN e, x.drop m, false)) := by
  simp only [entry_Get.t_entry.f]
  unfold entR
  have h1 := entry_Get_number_ev hb hl 2147483647 2147483647 rfl (by omega)
  cases hd : numR 2147483647 x with
  | none =>
    rw [hd] at h1
    simp only at h1
    obtain ⟨r, hr, hr2⟩ := entry_Get_tail_bad hb hl i 0 0 (strOfNums [])
    refine ⟨r, ?_, hr2⟩
    rw [ev_bind h1]
    simp only
    rw [ev_bind_c (entry_Get_bytes_bad _ _)]
    simp only
    rw [ev_bind (entry_Get_number_bad hb hl _)]
    simp only
    rw [ev_bind_c (entry_Get_bytes_bad _ _)]
    simp only [List.length_nil]
    rw [if_neg (by omega)]
    exact hr
  | some y =>
    obtain ⟨t, n⟩ := y
    rw [hd] at h1
    simp only at h1
    obtain ⟨a1, a2, a3, a4, _⟩ := numR_le hb hd
    have hl1 : (x.drop n).length = x.length - n := List.length_drop
    have hb1 := hb.drop n
    by_cases h5 : n = x.length
    · simp only [if_pos h5]
      obtain ⟨r, hr, hr2⟩ := entry_Get_tail_bad hb1 (by omega) i t 0 (strOfNums [])
      refine ⟨r, ?_, hr2⟩
      have e1 : entry_Get.t_bytes.f (x.drop n) false 1 = some ([], x.drop n, true) := by
        unfold entry_Get.t_bytes.f
        rw [if_neg (by simp), if_pos (by omega)]
      rw [ev_bind h1]
      simp only
      rw [ev_bind_c e1]
      simp only
      rw [ev_bind (entry_Get_number_bad hb1 (by omega) _)]
      simp only
      rw [ev_bind_c (entry_Get_bytes_bad _ _)]
      simp only [List.length_nil]
      rw [if_neg (by omega)]
      exact hr
    simp only [if_neg h5]
    have e1 : entry_Get.t_bytes.f (x.drop n) false 1 = some ([rd x (n : Int)], x.drop (n + 1), false) := by
      unfold entry_Get.t_bytes.f
      rw [if_neg (by simp), if_neg (by omega), if_pos (by omega), drop_eq (show n < x.length by omega)]
      rfl
    have hk := hb.rd (i := (n : Int)) (by omega) (by omega)
    have hkd : (if ([rd x (n : Int)] : List Int).length = 1 then wrap64 (rd [rd x (n : Int)] 0) else 0) = rd x (n : Int) := by
      exact (if_pos (show ([rd x (n : Int)] : List Int).length = 1 from rfl)).trans (w64 (x := rd x (n : Int)) (by omega) (by omega))
    have hl2 : (x.drop (n + 1)).length = x.length - (n + 1) := List.length_drop
    have hb2 := hb.drop (n + 1)
    have h2 := entry_Get_number_ev hb2 (by omega) 64 64 rfl (by omega)
    cases hm : numR 64 (x.drop (n + 1)) with
    | none =>
      rw [hm] at h2
      simp only at h2
      obtain ⟨r, hr, hr2⟩ := entry_Get_tail_bad hb2 (by omega) i t (rd x (n : Int)) (strOfNums [])
      refine ⟨r, ?_, hr2⟩
      rw [ev_bind h1]
      simp only
      rw [ev_bind_c e1]
      simp only
      rw [ev_bind h2]
      simp only
      rw [ev_bind_c (entry_Get_bytes_bad _ _)]
      simp only
      rw [hkd]
      exact hr
    | some z =>
      obtain ⟨u, k⟩ := z
      rw [hm] at h2
      simp only at h2
      obtain ⟨g1, g2, g3, g4, _⟩ := numR_le hb2 hm
      rw [List.drop_drop] at h2
      have hl3 : (x.drop (n + 1 + k)).length = x.length - (n + 1 + k) := List.length_drop
      have hb3 := hb.drop (n + 1 + k)
      by_cases h6 : n + 1 + k + u ≤ x.length
      · simp only [if_pos h6]
        have e2 : entry_Get.t_bytes.f (x.drop (n + 1 + k)) false (u : Int) = some ((x.drop (n + 1 + k)).take u, x.drop (n + 1 + k + u), false) := by
          unfold entry_Get.t_bytes.f
          rw [if_neg (by simp), if_neg (by omega), if_pos (by omega), Int.toNat_natCast, List.drop_drop]
        by_cases h7 : rd x (n : Int) = 2
        · simp only [if_pos h7]
          refine ⟨_, ?_, rfl⟩
          rw [ev_bind h1]
          simp only
          rw [ev_bind_c e1]
          simp only
          rw [ev_bind h2]
          simp only
          rw [ev_bind_c e2]
          simp only
          rw [hkd]
          simp only [ev_ite]
          rw [if_pos h7, ev_some]
          rfl
        · simp only [if_neg h7]
          have hl4 : (x.drop (n + 1 + k + u)).length = x.length - (n + 1 + k + u) := List.length_drop
          have hc := entry_Get_cell_ev (hb.drop (n + 1 + k + u)) (by omega)
          have step : ∀ v r, Ev (fun k_ => entry_Get.t_cell.f k_ (x.drop (n + 1 + k + u)) false) v → r = ((⟨i, t, rd x (n : Int), strOfNums ((x.drop (n + 1 + k)).take u), ⟨v.1, v.2.1, ⟨v.2.2.1, v.2.2.2.1, v.2.2.2.2.1, v.2.2.2.2.2.1⟩⟩⟩ : S52), v.2.2.2.2.2.2.1, v.2.2.2.2.2.2.2) → Ev (fun k => (entry_Get.t_number.f k x false 2147483647).bind fun x_1 => (entry_Get.t_bytes.f x_1.2.1 x_1.2.2 1).bind fun x_2 => (entry_Get.t_number.f k x_2.2.1 x_2.2.2 64).bind fun x_3 => (entry_Get.t_bytes.f x_3.2.1 x_3.2.2 x_3.1).bind fun x_4 => if (if x_2.1.length = 1 then wrap64 (rd x_2.1 0) else 0) = 2 then some ((⟨i, x_1.1, (if x_2.1.length = 1 then wrap64 (rd x_2.1 0) else 0), strOfNums x_4.1, ⟨false, [], ⟨0, 0, 0, 0⟩⟩⟩ : S52), x_4.2.1, x_4.2.2) else (entry_Get.t_cell.f k x_4.2.1 x_4.2.2).bind fun x_5 => some ((⟨i, x_1.1, (if x_2.1.length = 1 then wrap64 (rd x_2.1 0) else 0), strOfNums x_4.1, ⟨x_5.1, x_5.2.1, ⟨x_5.2.2.1, x_5.2.2.2.1, x_5.2.2.2.2.1, x_5.2.2.2.2.2.1⟩⟩⟩ : S52), x_5.2.2.2.2.2.2.1, x_5.2.2.2.2.2.2.2)) r := by
            intro v r hv hr
            rw [ev_bind h1, ev_bind_c e1, ev_bind h2, ev_bind_c e2]
            simp only
            rw [hkd]
            simp only [ev_ite]
            rw [if_neg h7, ev_bind hv, ev_some]
            exact hr.symm
          cases hcc : cellR (x.drop (n + 1 + k + u)) with
          | none =>
            rw [hcc] at hc
            exact ⟨_, step _ _ hc rfl, rfl⟩
          | some c =>
            obtain ⟨c, m⟩ := c
            rw [hcc] at hc
            simp only at hc
            rw [List.drop_drop] at hc
            exact ⟨_, step _ _ hc rfl, rfl⟩
      · simp only [if_neg h6]
        have e2 : entry_Get.t_bytes.f (x.drop (n + 1 + k)) false (u : Int) = some ([], x.drop (n + 1 + k), true) := by
          unfold entry_Get.t_bytes.f
          rw [if_neg (by simp), if_pos (by omega)]
        obtain ⟨r, hr, hr2⟩ := entry_Get_tail_bad hb3 (by omega) i t (rd x (n : Int)) (strOfNums [])
        refine ⟨r, ?_, hr2⟩
        rw [ev_bind h1]
        simp only
        rw [ev_bind_c e1]
        simp only
        rw [ev_bind h2]
        simp only
        rw [ev_bind_c e2]
        simp only
        rw [hkd]
        exact hr
theorem entry_Get_l0_ev {n f : Nat} (hn : n ≤ 16) (hf : f ≤ 2147483647) : ∀ (d j : Nat) (x : List Int) (acc : List S52), Bytes x → x.length ≤ 1000000000 → j + d = n → acc.length = j → (∀ e ∈ acc, goodN e) →
    Ev (fun k => entry_Get.l0 k (n : Int) (f : Int) x false acc (j : Int)) (match entsR d ((f : Int) + j) x with
      | none => ([], 2)
      | some (l, r) => if r = [] ∧ batchB (prsN acc ++ l) = true then (acc ++ l.map mkN, 0) else ([], 2)) := by
  intro d
  induction d with
  | zero =>
    intro j x acc hb hl hj hacc hg
    rw [ev_succ, entsR]
    simp only [entry_Get.l0, ev_ite]
    rw [if_neg (by omega), if_neg (by simp)]
    by_cases h : x = []
    · subst h
      rw [if_neg (by simp), ev_bind (entry_Batch_ev acc (by omega) hg), ev_ite, List.append_nil, List.map_nil, List.append_nil]
      by_cases hB : batchB (prsN acc) = true
      · rw [if_pos hB, if_pos (by trivial), if_pos ⟨rfl, hB⟩, ev_some]
      · rw [if_neg hB, if_neg (by omega), if_neg (fun h_ => hB h_.2), ev_some]
    · have := List.length_pos_iff.2 h
      rw [if_pos (by omega), if_neg (fun h_ => h h_.1), ev_some]
  | succ d ih =>
    intro j x acc hb hl hj hacc hg
    obtain ⟨r, hr, hr2⟩ := entry_Get_entry_ev hb hl ((f : Int) + j)
    rw [ev_succ, entsR]
    simp only [entry_Get.l0, ev_ite]
    rw [if_pos (by omega), if_neg (by simp), w64 (x := (f : Int) + j) (by omega) (by omega), ev_bind hr]
    cases he : entR ((f : Int) + j) x with
    | none =>
      rw [he] at hr2
      obtain ⟨r1, r2, r3⟩ := r
      simp only at hr2
      subst hr2
      simp only [ev_ite]
      rw [if_pos (by omega), ev_succ]
      simp only [entry_Get.l0, ev_ite]
      split
      · rw [if_pos (by trivial), ev_some]
      · rw [if_pos (by trivial), ev_some]
    | some y =>
      obtain ⟨e, m⟩ := y
      rw [he] at hr2
      simp only at hr2
      subst hr2
      obtain ⟨h1, h2, _⟩ := entR_le hb he
      have hge := entR_good hb he (by omega)
      simp only [ev_ite]
      rw [if_pos (by omega), w64n (a := (j : Int) + 1) (j + 1) (by omega) (by omega)]
      have := ih (j + 1) (x.drop m) (acc ++ [mkN e]) (hb.drop m) (by rw [List.length_drop]; omega) (by omega) (by rw [List.length_append, hacc]; rfl) (by
        intro z hz
        rcases List.mem_append.1 hz with hz | hz
        · exact hg z hz
        · rw [List.mem_singleton.1 hz]
          exact hge)
      refine ev_eq this ?_
      rw [show (f : Int) + ((j + 1 : Nat) : Int) = (f : Int) + j + 1 by omega]
      cases entsR d ((f : Int) + j + 1) (x.drop m) with
      | none => rfl
      | some z =>
        obtain ⟨l, r⟩ := z
        simp only
        have e1 : prsN (acc ++ [mkN e]) ++ l = prsN acc ++ (e :: l) := by
          unfold prsN
          rw [List.map_append, List.append_assoc]
          rfl
        have e2 : acc ++ [mkN e] ++ l.map mkN = acc ++ (e :: l).map mkN := by
          rw [List.append_assoc]
          rfl
        rw [e1, e2]
theorem batchB_ne {l : List Ent} (h : batchB l = true) : l ≠ [] := by
  intro h_
  subst h_
  have := (batchB_iff.1 h).1
  simp only [List.length_nil] at this
  omega
theorem entry_Get_ev {x : List Int} (hb : Bytes x) (hl : x.length ≤ 1000000000) : Ev (fun k => entry_Get.f k x) ((getB x).map mkN, if getB x = [] then 2 else 0) := by
  have bad : ∀ (n f : Int) (y : List Int), Ev (fun k => entry_Get.l0 k n f y true [] 0) (([] : List S52), (2 : Int)) := by
    intro n f y
    rw [ev_succ]
    simp only [entry_Get.l0, ev_ite]
    split
    · rw [if_pos (by trivial), ev_some]
    · rw [if_pos (by trivial), ev_some]
  simp only [entry_Get.f]
  have h1 := entry_Get_number_ev hb hl 16 16 rfl (by omega)
  generalize hL : getB x = L
  unfold getB headR at hL
  cases hn : numR 16 x with
  | none =>
    rw [hn] at h1 hL
    simp only at h1 hL
    subst hL
    rw [ev_bind h1]
    simp only
    rw [ev_bind (entry_Get_number_bad hb hl _)]
    exact bad _ _ _
  | some y =>
    obtain ⟨n, k0⟩ := y
    rw [hn] at h1 hL
    simp only at h1 hL
    obtain ⟨a1, a2, a3, a4, _⟩ := numR_le hb hn
    have hlen : (x.drop k0).length = x.length - k0 := List.length_drop
    have h2 := entry_Get_number_ev (hb.drop k0) (by omega) 2147483647 2147483647 rfl (by omega)
    rw [ev_bind h1]
    simp only
    cases h3 : numR 2147483647 (x.drop k0) with
    | none =>
      rw [h3] at h2 hL
      simp only at h2 hL
      subst hL
      rw [ev_bind h2]
      exact bad _ _ _
    | some z =>
      obtain ⟨f, m⟩ := z
      rw [h3] at h2 hL
      simp only at h2 hL
      rw [List.drop_drop] at h2
      obtain ⟨b1, b2, b3, b4, _⟩ := numR_le (hb.drop k0) h3
      rw [ev_bind h2]
      simp only
      refine ev_eq (entry_Get_l0_ev a1 b1 n 0 (x.drop (k0 + m)) [] (hb.drop _) (by rw [List.length_drop]; omega) (by omega) rfl (by simp)) ?_
      rw [show (f : Int) + ((0 : Nat) : Int) = (f : Int) by omega]
      subst hL
      generalize entsR n (f : Int) (x.drop (k0 + m)) = E
      cases E with
      | none => rfl
      | some z =>
        obtain ⟨l, r⟩ := z
        simp only
        rw [show prsN ([] : List S52) ++ l = l from rfl]
        by_cases hc : r = [] ∧ batchB l = true
        · simp only [if_pos hc]
          rw [if_neg (batchB_ne hc.2)]
          rfl
        · simp only [if_neg hc]
          rfl
theorem hard_Get_ev {x : List Int} (hb : Bytes x) (hl : x.length ≤ maxLen) : Ev (fun k => hard_Get.f k x) (hardR x) := by
  simp only [hard_Get.f]
  have h3 : Ev (fun k => varint_All.f k x 3) (allR 3 x) := varint_All_ev hb hl 3 (by omega)
  rw [ev_bind h3]
  simp only [allR, hardR]
  by_cases h : (decs 3 x).2.2 = true
  · obtain ⟨u, v, w, h1, h2, h3, h4⟩ := decs_three hb h
    have l3 : (([u, v, w] : List Int).length : Int) = 3 := rfl
    simp only [h, if_true, h1, ev_ite, true_and, l3, Int.reduceLT]
    have r0 : rd [u, v, w] 0 = u := rfl
    have r1 : rd [u, v, w] 1 = v := rfl
    have r2 : rd [u, v, w] 2 = w := rfl
    have hj : ∀ b : Bool, Ev (fun k => hard_Get.j0 k [u, v, w] b) (if b = true then (0, 0, 0, 2) else (if mayH (wrap64 u) (wrap64 v) (wrap64 w) = true then (wrap64 u, wrap64 v, wrap64 w, 0) else (0, 0, 0, 2))) := by
      intro b
      rw [ev_succ]
      simp only [hard_Get.j0, ev_ite, ev_some, l3, Int.reduceLT, if_true, r0, r1, r2, hard_Check_ev, Option.bind_some]
      cases b
      · simp only [Bool.false_eq_true, if_false]
        cases mayH (wrap64 u) (wrap64 v) (wrap64 w) <;> simp
      · simp
    simp only [r0, r1, r2]
    by_cases hn : (decs 3 x).2.1 = x.length
    · rw [if_pos (by omega)]
      refine ev_eq (hj _) ?_
      have hmx : (mx (mx u v) w > 2147483647) ↔ (2147483647 < u ∨ 2147483647 < v ∨ 2147483647 < w) := by unfold mx; repeat' split <;> omega
      simp only [decide_eq_true_eq, hmx]
      by_cases hbig : 2147483647 < u ∨ 2147483647 < v ∨ 2147483647 < w
      · rw [if_pos hbig, if_neg]
        rintro ⟨_, hm⟩
        rw [mayH_iff] at hm
        omega
      · rw [if_neg hbig, w64 (by omega) (by omega), w64 (by omega) (by omega), w64 (by omega) (by omega)]
        simp only [hn, true_and]
    · rw [if_neg (by omega), if_neg (fun hh => hn hh.1)]
      exact hj true
  · have hf : (decs 3 x).2.2 = false := by simpa using h
    simp only [hf, ev_ite, Bool.false_eq_true, if_false, false_and]
    rw [if_neg (by omega), ev_succ]
    simp [hard_Get.j0, ev_ite, ev_some]
def walR (a : Int) (x : List Int) : Int × List S52 × Int × Int × Int × Int :=
  if a = 11 then (if getB x = [] then (0, [], 0, 0, 0, 0) else (1, (getB x).map mkN, 0, 0, 0, 0))
  else if a = 12 then (if (hardR x).2.2.2 = 0 then (2, [], (hardR x).1, (hardR x).2.1, (hardR x).2.2.1, 0) else (0, [], 0, 0, 0, 0))
  else if a = 13 then (if (getR x).2.2 = 0 ∧ (getR x).2.1 = x.length ∧ 1 ≤ (getR x).1 ∧ (getR x).1 ≤ 2147483647 then (3, [], 0, 0, 0, (getR x).1) else (0, [], 0, 0, 0, 0))
  else (0, [], 0, 0, 0, 0)
theorem getR_cases {x : List Int} (hb : Bytes x) : (getR x = (0, 0, 2)) ∨ ∃ u n : Nat, getR x = ((u : Int), (n : Int), 0) ∧ 0 < n ∧ u < 18446744073709551616 := by
  unfold getR
  cases hd : dec 0 x with
  | none => exact .inl rfl
  | some y =>
    obtain ⟨u, n⟩ := y
    obtain ⟨d1, d2, d3, d4⟩ := dec_pos hb hd
    exact .inr ⟨u, n, rfl, by omega, by omega⟩
theorem wal_Get_ev (a : Int) {x : List Int} (hb : Bytes x) (hl : x.length ≤ 1000000000) : Ev (fun k => wal_Get.f k a x) ((walR a x).1, (walR a x).2.1, (walR a x).2.2.1, (walR a x).2.2.2.1, (walR a x).2.2.2.2.1, (walR a x).2.2.2.2.2, if (walR a x).1 = 0 then 2 else 0) := by
  have hml : x.length ≤ maxLen := by unfold maxLen; omega
  unfold walR
  simp only [wal_Get.f, ev_ite]
  by_cases h1 : a = 11
  · subst h1
    have hw : wrap64 (11 - 10) = 1 := by rw [w64 (by omega) (by omega)]; rfl
    rw [if_pos rfl, if_pos rfl, ev_bind (entry_Get_ev hb hl)]
    simp only [ev_ite, hw]
    by_cases h : getB x = []
    · simp only [h, if_true]
      rw [if_neg (by omega), ev_some]
    · obtain ⟨g1, g2⟩ := getB_good hb
      simp only [h, if_false]
      rw [if_pos (by trivial), ev_bind (wal_Check_put _ (by rw [List.length_map]; omega) (by
        intro e he
        obtain ⟨y, hy, rfl⟩ := List.mem_map.1 he
        exact g1 y hy)), prsN_mkN, if_pos (getB_batch h), ev_ite, if_pos (by trivial), ev_some]
      simp
  · rw [if_neg h1, if_neg h1]
    by_cases h2 : a = 12
    · subst h2
      have hw : wrap64 (12 - 10) = 2 := by rw [w64 (by omega) (by omega)]; rfl
      rw [if_pos rfl, if_pos rfl, ev_bind (hard_Get_ev hb hml)]
      simp only [ev_ite, hw]
      rcases hardR_may x with ⟨h, hm⟩ | h
      · rw [if_pos h, if_pos h, ev_bind (wal_Check_hard _ _ _), if_pos hm, ev_ite, if_pos (by trivial), ev_some]
        simp
      · simp only [h]
        rw [if_neg (by omega), if_neg (by omega), ev_some]
        simp
    · rw [if_neg h2, if_neg h2]
      by_cases h3 : a = 13
      · subst h3
        have hw : wrap64 (13 - 10) = 3 := by rw [w64 (by omega) (by omega)]; rfl
        rw [if_pos rfl, if_pos rfl, ev_bind (varint_Get_ev hb hml)]
        simp only [ev_ite, hw]
        have hj : ∀ (u : Int) (c : Bool), Ev (fun k => wal_Get.j0 k 2 u c 3 0 0 0 0) (if c = true ∧ 1 ≤ wrap64 u ∧ wrap64 u ≤ 2147483647 then (3, [], 0, 0, 0, wrap64 u, 0) else (0, [], 0, 0, 0, 0, 2)) := by
          intro u c
          rw [ev_succ]
          simp only [wal_Get.j0, ev_ite]
          cases c
          · rw [if_neg (by simp), if_neg (by omega), if_neg (by simp), ev_some]
          · rw [if_pos rfl, ev_bind (wal_Check_apply _), ev_ite]
            by_cases h : 1 ≤ wrap64 u ∧ wrap64 u ≤ 2147483647
            · rw [if_pos h, if_pos (by trivial), if_pos ⟨rfl, h⟩, ev_some]
            · rw [if_neg h, if_neg (by omega), if_neg (fun h_ => h h_.2), ev_some]
        rcases getR_cases hb with h | ⟨u, n, h, hn, hu⟩
        · simp only [h]
          rw [if_neg (by omega), if_neg (by omega)]
          simpa using hj 0 false
        · simp only [h]
          rw [if_pos (by trivial)]
          by_cases hl : (n : Int) = x.length
          · rw [if_pos hl]
            refine ev_eq (hj _ _) ?_
            by_cases hc : 1 ≤ (u : Int) ∧ (u : Int) ≤ 2147483647
            · rw [w64n u rfl (by omega), if_pos ⟨by simpa using hc.2, hc⟩, if_pos ⟨trivial, hl, hc⟩]
              simp
            · rw [if_neg (c := _ ∧ _ ∧ _ ∧ _) (fun h_ => hc h_.2.2), if_neg]
              · simp
              · rintro ⟨h1, h2, h3⟩
                have h1 : (u : Int) ≤ 2147483647 := by simpa using h1
                rw [w64n u rfl (by omega)] at h2
                exact hc ⟨h2, h1⟩
          · rw [if_neg hl, if_neg (fun h_ => hl h_.2.1)]
            simpa using hj u false
      · rw [if_neg h3, if_neg h3, ev_some]
        simp
theorem garnerref02_same_l0_ev (x y : List Int) (hxy : x.length = y.length) (hl : x.length ≤ maxLen) : ∀ (d i : Nat), x.length - i = d → i ≤ x.length → Ev (fun k => garnerref02_same.l0 k x y (i : Int)) (decide (x.drop i = y.drop i)) := by
  have hlm := maxLen_le hl
  intro d
  induction d with
  | zero =>
    intro i hd hi
    rw [ev_succ]
    simp only [garnerref02_same.l0, ev_ite]
    rw [if_neg (by omega), ev_some, List.drop_eq_nil_of_le (by omega), List.drop_eq_nil_of_le (by omega)]
    simp
  | succ d ih =>
    intro i hd hi
    rw [ev_succ]
    simp only [garnerref02_same.l0, ev_ite]
    rw [if_pos (by omega), if_pos (by omega), if_pos (by omega), w64 (by omega) (by omega), drop_eq (xs := x) (by omega), drop_eq (xs := y) (by omega)]
    by_cases h : rd x (i : Int) = rd y (i : Int)
    · rw [if_pos h, h]
      refine ev_eq (ih (i + 1) (by omega) (by omega)) ?_
      simp
    · rw [if_neg h, ev_some]
      simp [h]
theorem garnerref02_same_ev {x y : List Int} (hl : x.length ≤ maxLen) : Ev (fun k => garnerref02_same.f k x y) (decide (x = y)) := by
  simp only [garnerref02_same.f, ev_ite]
  by_cases h : x.length = y.length
  · rw [if_pos (by omega)]
    exact garnerref02_same_l0_ev x y h hl (x.length - 0) 0 rfl (by omega)
  · rw [if_neg (by omega), ev_some]
    symm
    simp only [decide_eq_false_iff_not]
    rintro rfl
    exact h rfl
theorem garnerref02_Bytes_ev {x y : List Int} (hl : x.length ≤ maxLen) : Ev (fun k => garnerref02_Bytes.f k x y) (decide (x = y)) := by
  simp only [garnerref02_Bytes.f]
  rw [ev_bind (garnerref02_same_ev hl), ev_some]
theorem garnerref05_Same_plain {far : Bool} {b : List Int} (hb : b.length ≤ maxLen) (s a n u : Int) : Ev (fun k => garnerref05_Same.f k far b s a n u false ([] : List Int) 0 0 0 0) (plainC far b s a n u) := by
  simp only [garnerref05_Same.f, ev_ite]
  unfold plainC
  rw [zero_isr]
  cases far with
  | true =>
    rw [if_neg (by simp), ev_some]
    rfl
  | false =>
    rw [if_pos (by simp)]
    by_cases h : zeroP s a n u = true
    · rw [if_pos h, ev_bind (garnerref02_Bytes_ev hb), ev_some, h]
      simp
    · rw [if_neg h, ev_some]
      rw [Bool.not_eq_true] at h
      rw [h]
      simp
theorem garnerref04_May_ev (s a l u : Int) : garnerref04_May.f s a l u = some (mayP s a l) := by
  unfold garnerref04_May.f mayP
  repeat' split
  all_goals (congr 1; first | (symm; rw [decide_eq_false_iff_not]; omega) | (rw [Bool.eq_iff_iff]; simp only [decide_eq_true_eq]; omega))
theorem garnerref05_May_ev (far : Bool) (b : List Int) (s a n u : Int) : garnerref05_May.f far b s a n u = some (mayC far b s a n u) := by
  unfold garnerref05_May.f mayC
  cases far with
  | true =>
    rw [if_pos rfl, if_pos rfl]
    by_cases h : b.length = 0
    · rw [if_pos (by omega), garnerref04_May_ev, decide_eq_true h, Bool.true_and]
      rfl
    · rw [if_neg (by omega), decide_eq_false h, Bool.false_and]
  | false =>
    simp only [Bool.false_eq_true, if_false]
    rw [zero_isr]
    by_cases h : b.length ≤ 32
    · rw [if_pos (by omega), decide_eq_true h, Bool.true_and]
    · rw [if_neg (by omega), decide_eq_false h, Bool.false_and]
theorem garnerref06_May_ev {e : Ent} (hb : e.b.length ≤ maxLen) : Ev (fun k => garnerref06_May.f k e.i e.t e.k e.key e.far e.b e.s e.a e.n e.u) (mayN e) := by
  have hnot : ¬ (1 ≤ e.i ∧ e.i ≤ 2147483647 ∧ 1 ≤ e.t ∧ e.t ≤ 2147483647 ∧ 0 ≤ e.k ∧ e.k ≤ 2 ∧ e.key.size ≤ 64 ∧ (e.key.size = 0 ↔ e.k = 0)) → mayN e = false := fun h => by
    unfold mayN headN
    rw [decide_eq_false h, Bool.false_and]
  have bad : mayN e = false → Ev (fun k => garnerref06_May.j0 k true e.i e.t e.k e.key e.far e.b e.s e.a e.n e.u) (mayN e) := by
    intro h
    rw [h, ev_succ]
    simp only [garnerref06_May.j0, ev_ite]
    rw [if_pos (by trivial), ev_some]
  have hz := toList_nil e.key
  simp only [garnerref06_May.f, ev_ite]
  by_cases h1 : e.i < 1
  · rw [if_pos h1]; exact bad (hnot (by omega))
  rw [if_neg h1]
  by_cases h2 : e.i > 2147483647
  · rw [if_pos h2]; exact bad (hnot (by omega))
  rw [if_neg h2]
  by_cases h3 : e.t < 1
  · rw [if_pos h3]; exact bad (hnot (by omega))
  rw [if_neg h3]
  by_cases h4 : e.t > 2147483647
  · rw [if_pos h4]; exact bad (hnot (by omega))
  rw [if_neg h4, ev_bind_c (garnerref05_May_ev _ _ _ _ _ _), ev_ite]
  by_cases hc : mayC e.far e.b e.s e.a e.n e.u = true
  · rw [if_pos hc]
    by_cases h5 : e.key.size > 64
    · rw [decide_eq_true (by omega)]; exact bad (hnot (by omega))
    rw [decide_eq_false (by omega), ev_succ]
    simp only [garnerref06_May.j0, ev_ite]
    rw [if_neg (by simp)]
    have hmk : ∀ q : Bool, (e.k ≠ 2 ∨ plainC e.far e.b e.s e.a e.n e.u = true) → (q = true ↔ (0 ≤ e.k ∧ e.k ≤ 2 ∧ (e.key.size = 0 ↔ e.k = 0))) → q = mayN e := by
      intro q hp hq
      rw [Bool.eq_iff_iff, hq, mayN_iff]
      constructor
      · intro h
        exact ⟨by omega, hp, hc⟩
      · intro h
        omega
    by_cases k0 : e.k = 0
    · rw [if_pos k0, ev_some]
      refine hmk _ (.inl (by omega)) ?_
      rw [beq_iff_eq, hz]
      omega
    rw [if_neg k0]
    by_cases k2 : e.k = 2
    · rw [if_pos k2]
      by_cases hs : e.key.size = 0
      · rw [if_pos (hz.2 hs), ev_some]
        exact (hnot (by omega)).symm
      · rw [if_neg (fun h => hs (hz.1 h)), ev_bind (garnerref05_Same_plain hb _ _ _ _), ev_some]
        rw [Bool.eq_iff_iff, mayN_iff]
        constructor
        · intro h
          exact ⟨by omega, .inr h, hc⟩
        · intro h
          rcases h.2.1 with h | h
          · exact absurd k2 h
          · exact h
    rw [if_neg k2]
    by_cases k1 : e.k = 1
    · rw [if_pos k1, ev_some]
      refine hmk _ (.inl (by omega)) ?_
      rw [bne_iff_ne, ne_eq, hz]
      omega
    · rw [if_neg k1, ev_some]
      exact (hnot (by omega)).symm
  · rw [if_neg hc]
    refine bad ?_
    unfold mayN
    rw [Bool.not_eq_true] at hc
    rw [hc, Bool.and_false, Bool.and_false]
theorem garnerref06_Batch_ev (l : List S52) (hl : l.length ≤ 140737488351232) (hg : ∀ e ∈ l, goodN e) : Ev (fun k => garnerref06_Batch.f k l) (batchB (prsN l)) := by
  have main : ∀ (d j : Nat) (p : Option (Int × Int)), l.length - j = d → j ≤ l.length → (j = 0 → p = none) → (∀ i : Nat, j = i + 1 → p = some ((rd_T52 l (i : Int)).f0, (rd_T52 l (i : Int)).f1)) →
      Ev (fun k => garnerref06_Batch.l0 k l (j : Int)) (decide (1 ≤ l.length ∧ l.length ≤ 16) && batchFrom p (prsN (l.drop j))) := by
    intro d
    induction d with
    | zero =>
      intro j p hd hj _ _
      rw [ev_succ]
      simp only [garnerref06_Batch.l0, ev_ite]
      have e : batchFrom p (prsN (l.drop j)) = true := by
        rw [List.drop_eq_nil_of_le (by omega)]
        cases p <;> rfl
      rw [if_neg (by omega), e, Bool.and_true]
      split
      · rw [ev_some, decide_eq_decide]
        omega
      · rw [ev_some]
        symm
        rw [decide_eq_false_iff_not]
        omega
    | succ d ih =>
      intro j p hd hj h0 hs
      have hjl : j < l.length := by omega
      have hgj := hg _ (rdN_mem hjl)
      have ih' := ih (j + 1) (some ((rd_T52 l (j : Int)).f0, (rd_T52 l (j : Int)).f1)) (by omega) (by omega) (by omega) (fun i hi => by rw [show i = j by omega])
      have hw : wrap64 ((j : Int) + 1) = ((j + 1 : Nat) : Int) := w64 (by omega) (by omega)
      rw [dropN_eq hjl]
      rw [ev_succ]
      simp only [garnerref06_Batch.l0, ev_ite, hw]
      generalize hE : rd_T52 l (j : Int) = e at hgj ih' ⊢
      have hc : Ev (fun k => garnerref06_May.f k e.f0 e.f1 e.f2 e.f3 e.f4.f0 e.f4.f1 e.f4.f2.f0 e.f4.f2.f1 e.f4.f2.f2 e.f4.f2.f3) (mayN (prN e)) := garnerref06_May_ev (e := prN e) (by have := hgj.2.2.2.1; simp only [prN]; unfold maxLen; omega)
      have el : prsN (e :: l.drop (j + 1)) = prN e :: prsN (l.drop (j + 1)) := rfl
      have e0 : (prN e).i = e.f0 := rfl
      have e1 : (prN e).t = e.f1 := rfl
      rw [el, if_pos (by omega), if_pos (by omega), ev_bind hc, ev_ite]
      by_cases hm : mayN (prN e) = true
      · have hm' := (mayN_iff.1 hm).1
        rw [e0, e1] at hm'
        rw [if_pos hm, ev_ite]
        by_cases hj0 : j = 0
        · rw [if_neg (by omega), h0 hj0, batch_none, hm, Bool.true_and, e0, e1]
          exact ih'
        · have hp := hs (j - 1) (by omega)
          have e2 : wrap64 ((j : Int) - 1) = ((j - 1 : Nat) : Int) := by
            rw [w64 (by omega) (by omega)]
            omega
          rw [if_pos (by omega), e2, ev_ite, if_pos (by omega), ev_ite, if_pos (by omega), ev_ite, hp, batch_some, hm, Bool.true_and, e0, e1, w64 (by omega) (by omega)]
          by_cases h1 : e.f0 = (rd_T52 l ((j - 1 : Nat) : Int)).f0 + 1
          · rw [if_pos (by omega), ev_ite]
            by_cases h2 : e.f1 < (rd_T52 l ((j - 1 : Nat) : Int)).f1
            · rw [if_pos h2, ev_some, decide_eq_false (show ¬ (e.f0 = (rd_T52 l ((j - 1 : Nat) : Int)).f0 + 1 ∧ (rd_T52 l ((j - 1 : Nat) : Int)).f1 ≤ e.f1) by omega), Bool.false_and, Bool.and_false]
            · rw [if_neg h2, decide_eq_true (show e.f0 = (rd_T52 l ((j - 1 : Nat) : Int)).f0 + 1 ∧ (rd_T52 l ((j - 1 : Nat) : Int)).f1 ≤ e.f1 by omega), Bool.true_and]
              exact ih'
          · rw [if_neg (by omega), ev_some, decide_eq_false (show ¬ (e.f0 = (rd_T52 l ((j - 1 : Nat) : Int)).f0 + 1 ∧ (rd_T52 l ((j - 1 : Nat) : Int)).f1 ≤ e.f1) by omega), Bool.false_and, Bool.and_false]
      · rw [if_neg hm, ev_some]
        rw [Bool.not_eq_true] at hm
        have hf : batchFrom p (prN e :: prsN (l.drop (j + 1))) = false := by
          cases p with
          | none => rw [batch_none, hm, Bool.false_and]
          | some q =>
            obtain ⟨i, t⟩ := q
            rw [batch_some, hm, Bool.false_and]
        rw [hf, Bool.and_false]
  have := main (l.length - 0) 0 none rfl (by omega) (fun _ => rfl) (fun i hi => by omega)
  unfold batchB
  rw [prsN_len]
  exact this
theorem garnerref02_One_ev : ∀ u : Nat, u < 18446744073709551616 → Ev (fun k => garnerref02_One.f k (u : Int)) (one u) := by
  intro u
  induction u using Nat.strongRecOn with
  | _ u ih =>
    intro hu
    rw [ev_succ]
    simp only [garnerref02_One.f, ev_ite, Option.bind_some]
    by_cases h : u < 128
    · rw [if_pos (by omega), ev_some, one_lt h]
      congr 1
      omega
    · have e : IntKind.u64.wrap (Int.tdiv (u : Int) 128) = ((u / 128 : Nat) : Int) := by
        rw [Int.tdiv_eq_ediv_of_nonneg (by omega), wu64 (by omega) (by omega)]
        rfl
      have e2 : ((Int.tmod (u : Int) 128) % 256 + 128) % 256 = ((u % 128 + 128 : Nat) : Int) := by
        rw [Int.tmod_eq_emod_of_nonneg (by omega)]
        omega
      rw [if_neg (by omega), e, e2, ev_bind (ih (u / 128) (by omega) (by omega)), ev_ite]
      have hl := one_len10 (u := u / 128) (by omega)
      rw [if_pos (by simp only [List.length_singleton]; omega), ev_some, one_ge (u := u) (by omega)]
      rfl
theorem garnerref02_value_l0_ev (x : List Int) (hb : Bytes x) (hl : x.length ≤ maxLen) : ∀ (i : Nat), i ≤ x.length → Ev (fun k => garnerref02_value.l0 k x (val (x.drop i) % 18446744073709551616 : Nat) ((i : Int) - 1)) (val x % 18446744073709551616 : Nat) := by
  have hlm := maxLen_le hl
  intro i
  induction i with
  | zero =>
    intro _
    rw [ev_succ]
    simp only [garnerref02_value.l0, ev_ite]
    rw [if_neg (by omega), ev_some, List.drop_zero]
  | succ i ih =>
    intro hi
    have hc := hb.rd (i := (i : Int)) (by omega) (by omega)
    rw [ev_succ]
    simp only [garnerref02_value.l0, ev_ite]
    have e : ((i + 1 : Nat) : Int) - 1 = (i : Int) := by omega
    rw [e, if_pos (by omega), if_pos (by omega), if_pos (by omega), w64 (by omega) (by omega)]
    have := ih (by omega)
    rw [drop_eq (xs := x) (i := i) (by omega), val] at this
    have e2 : IntKind.u64.wrap (IntKind.u64.wrap (((val (x.drop (i + 1)) % 18446744073709551616 : Nat) : Int) * 128) + IntKind.u64.wrap (Int.tmod (rd x (i : Int)) 128)) = (((rd x (i : Int)).toNat % 128 + 128 * val (x.drop (i + 1))) % 18446744073709551616 : Nat) := by
      rw [Int.tmod_eq_emod_of_nonneg hc.1]
      simp only [wu64_mod]
      omega
    rw [e2]
    exact this
theorem garnerref02_value_ev {x : List Int} (hb : Bytes x) (hl : x.length ≤ maxLen) : Ev (fun k => garnerref02_value.f k x) (val x % 18446744073709551616 : Nat) := by
  have hlm := maxLen_le hl
  simp only [garnerref02_value.f]
  rw [w64 (by omega) (by omega)]
  have := garnerref02_value_l0_ev x hb hl x.length (Nat.le_refl _)
  rw [List.drop_length] at this
  exact this
theorem garnerref02_Get_l0_ev (x : List Int) (hb : Bytes x) (hl : x.length ≤ maxLen) : ∀ (d i : Nat), x.length - i = d → i ≤ x.length → i ≤ 10 → (∀ c ∈ x.take i, 128 ≤ c) → Ev (fun k => garnerref02_Get.l0 k x ((i : Int) + 1)) ((getR x).1, (getR x).2.1) := by
  have hlm := maxLen_le hl
  intro d
  induction d with
  | zero =>
    intro i hd hi hi10 hh
    rw [ev_succ]
    simp only [garnerref02_Get.l0, ev_ite]
    rw [if_neg (by omega), ev_succ]
    simp only [garnerref02_Get.j1, ev_ite]
    rw [if_neg (by simp), ev_some]
    unfold getR
    rw [dec_none_high (n := i) hb hh (.inl (by omega))]
  | succ d ih =>
    intro i hd hi hi10 hh
    have hc := hb.rd (i := (i : Int)) (by omega) (by omega)
    rw [ev_succ]
    simp only [garnerref02_Get.l0, ev_ite]
    rw [if_pos (by omega), ev_succ]
    simp only [garnerref02_Get.j1, ev_ite, decide_eq_true_eq]
    by_cases h10 : i = 10
    · rw [if_neg (by omega), ev_some]
      unfold getR
      rw [dec_none_high (n := i) hb hh (.inr h10)]
    · rw [if_pos (by omega), w64 (x := (i : Int) + 1 - 1) (by omega) (by omega)]
      have e : (i : Int) + 1 - 1 = (i : Int) := by omega
      have e2 : ((i : Int) + 1).toNat = i + 1 := by omega
      rw [e, e2, if_pos (by omega), if_pos (by omega)]
      have ht : x.take (i + 1) = x.take i ++ [rd x (i : Int)] := by
        rw [rd_get (by omega), List.take_succ_eq_append_getElem (by omega)]
      have htl : (x.take (i + 1)).length ≤ maxLen := by rw [List.length_take]; omega
      by_cases h128 : rd x (i : Int) < 128
      · rw [if_pos h128, if_pos (by omega), if_pos (by omega), ev_bind (garnerref02_value_ev (hb.take _) htl)]
        have hlt : val (x.take (i + 1)) % 18446744073709551616 < 18446744073709551616 := Nat.mod_lt _ (by omega)
        rw [ev_bind (garnerref02_One_ev _ hlt), ev_bind (garnerref02_same_ev (by have := one_len10 hlt; unfold maxLen; omega)), ev_ite, ev_some, ev_some]
        have hd1 : i < x.length := by omega
        have := dec_at hb hd1 hh h128
        unfold getR
        by_cases he : one (val (x.take (i + 1)) % 18446744073709551616) = x.take (i + 1)
        · rw [if_pos (by simpa using he), this.1 he]
          rfl
        · rw [if_neg (by simpa using he), this.2 he]
      · rw [if_neg h128, w64 (by omega) (by omega)]
        have := ih (i + 1) (by omega) (by omega) (by omega) (by
          intro c hc'
          rw [ht] at hc'
          rcases List.mem_append.1 hc' with hc' | hc'
          · exact hh c hc'
          · rw [List.mem_singleton.1 hc']; omega)
        rw [Int.natCast_add] at this
        exact this
theorem garnerref02_Get_ev {x : List Int} (hb : Bytes x) (hl : x.length ≤ maxLen) : Ev (fun k => garnerref02_Get.f k x) ((getR x).1, (getR x).2.1) :=
  garnerref02_Get_l0_ev x hb hl (x.length - 0) 0 rfl (by omega) (by omega) (by simp)
theorem garnerref06_number_ev {x : List Int} (hb : Bytes x) (hl : x.length ≤ 1000000000000) (most : Nat) (mi : Int) (hmi : mi = (most : Int)) (hm : most ≤ 2147483647) : Ev (fun k => garnerref06_number.f k x mi) (match numR most x with
    | none => ((0 : Int), (0 : Int))
    | some (u, n) => ((u : Int), (n : Int))) := by
  subst hmi
  simp only [garnerref06_number.f]
  rw [ev_bind (garnerref02_Get_ev hb (by unfold maxLen; omega)), ev_ite]
  unfold numR getR
  cases hd : dec 0 x with
  | none =>
    simp only
    rw [if_pos (by trivial), ev_some]
  | some y =>
    obtain ⟨u, n⟩ := y
    obtain ⟨d1, d2, d3, d4⟩ := dec_pos hb hd
    simp only
    rw [if_neg (by omega), ev_ite]
    by_cases h : u ≤ most
    · rw [if_neg (by omega), if_pos h, ev_some, w64 (by omega) (by omega)]
    · rw [if_pos (by omega), if_neg h, ev_some]
theorem garnerref02_All_l0_ev (x : List Int) (hb : Bytes x) (hl : x.length ≤ maxLen) (n : Nat) (hn : n ≤ 1000) : ∀ (d j at_ : Nat) (l : List Int), d + j = n → l.length = j → at_ ≤ x.length →
    Ev (fun k => garnerref02_All.l0 k x (n : Int) l (at_ : Int) (j : Int)) (if (decs d (x.drop at_)).2.2 = true then (l ++ (decs d (x.drop at_)).1, (at_ : Int) + ((decs d (x.drop at_)).2.1 : Int), 0) else ([], (at_ : Int) + ((decs d (x.drop at_)).2.1 : Int), 2)) := by
  have hlm := maxLen_le hl
  intro d
  induction d with
  | zero =>
    intro j at_ l hd hj ha
    rw [ev_succ]
    simp only [garnerref02_All.l0, ev_ite]
    rw [if_neg (by omega), ev_some]
    simp [decs]
  | succ d ih =>
    intro j at_ l hd hj ha
    have hb' := hb.drop at_
    rw [ev_succ]
    simp only [garnerref02_All.l0, ev_ite]
    rw [if_pos (by omega), if_pos (by omega), if_pos (by omega), Int.toNat_natCast, ev_bind (garnerref02_Get_ev hb' (by rw [List.length_drop]; omega))]
    simp only [ev_ite, decs, getR]
    rcases dec_cases (x.drop at_) with hdec | ⟨u, k, hdec⟩
    · simp only [hdec, ev_ite]
      rw [if_pos (by trivial), ev_some, if_neg (by simp)]
      simp
    · have hk := dec_pos hb' hdec
      rw [List.length_drop] at hk
      simp only [hdec, ev_ite]
      rw [if_neg (by omega), if_pos (by omega), w64 (by omega) (by omega), w64 (by omega) (by omega)]
      have := ih (j + 1) (at_ + k) (l ++ [(u : Int)]) (by omega) (by simp [hj]) (by omega)
      rw [Int.natCast_add, Int.natCast_add] at this
      refine ev_eq this ?_
      rw [List.drop_drop]
      simp only [List.append_assoc, List.singleton_append]
      split <;> (congr 2; omega)
theorem garnerref02_All_ev {x : List Int} (hb : Bytes x) (hl : x.length ≤ maxLen) (n : Nat) (hn : n ≤ 1000) : Ev (fun k => garnerref02_All.f k x (n : Int)) (allR n x) := by
  simp only [garnerref02_All.f]
  have := garnerref02_All_l0_ev x hb hl n hn n 0 0 [] (by omega) rfl (by omega)
  refine ev_eq this ?_
  unfold allR
  simp
theorem garnerref04_Get_ev {x : List Int} (hb : Bytes x) (hl : x.length ≤ 4611686018427387904) : Ev (fun k => garnerref04_Get.f k x) (pointR x) := by
  have hl0 := hl
  have hl : x.length ≤ maxLen := by unfold maxLen; omega
  have hlm := maxLen_le hl
  have hbad : ∀ l a, Ev (fun k => garnerref04_Get.j0 k x l a true) (0, 0, 0, 0, 0) := by
    intro l a
    rw [ev_succ]
    simp [garnerref04_Get.j0, ev_ite, ev_some]
  simp only [garnerref04_Get.f]
  have h3 : Ev (fun k => garnerref02_All.f k x 3) (allR 3 x) := garnerref02_All_ev hb hl 3 (by omega)
  rw [ev_bind h3]
  simp only [allR]
  by_cases h : (decs 3 x).2.2 = true
  · obtain ⟨u, v, w, h1, h2, h3, h4⟩ := decs_three hb h
    have hat := decs_at (n := 3) hb
    simp only [pointR, h, if_true, h1, ev_ite, true_and]
    have r0 : rd [u, v, w] 0 = u := rfl
    have r1 : rd [u, v, w] 1 = v := rfl
    have r2 : rd [u, v, w] 2 = w := rfl
    have l3 : (([u, v, w] : List Int).length : Int) = 3 := rfl
    simp only [r0, r1, r2, l3, Int.reduceLT, if_true]
    rw [w64 (by omega) (by omega)]
    by_cases h4 : (decs 3 x).2.1 + 4 ≤ x.length
    · rw [if_neg (by omega)]
      by_cases hbig : 2147483647 < u ∨ 2147483647 < v ∨ 4096 < w
      · have hn : ¬ mayP u v w = true := by rw [mayP_iff]; omega
        rw [if_neg (c := _ ∧ _) (fun hh => hn hh.2)]
        by_cases hu : u > 2147483647
        · rw [if_pos hu]; exact hbad _ _
        · rw [if_neg hu]
          by_cases hv : v > 2147483647
          · rw [if_pos hv]; exact hbad _ _
          · rw [if_neg hv]
            have e : decide (w > 4096) = true := by rw [decide_eq_true_eq]; omega
            rw [e]
            exact hbad _ _
      · have e : decide (w > 4096) = false := by rw [decide_eq_false_iff_not]; omega
        rw [if_neg (by omega), if_neg (by omega), e, ev_succ]
        simp only [garnerref04_Get.j0, ev_ite, l3, Int.reduceLT, if_true, Bool.false_eq_true, if_false, r0, r1, r2]
        rw [w64 (x := u) (by omega) (by omega), w64 (x := v) (by omega) (by omega), w64 (x := w) (by omega) (by omega)]
        have k0 := hb.rd (i := ((decs 3 x).2.1 : Int)) (by omega) (by omega)
        have k1 := hb.rd (i := ((decs 3 x).2.1 : Int) + 1) (by omega) (by omega)
        have k2 := hb.rd (i := ((decs 3 x).2.1 : Int) + 2) (by omega) (by omega)
        have k3 := hb.rd (i := ((decs 3 x).2.1 : Int) + 3) (by omega) (by omega)
        have step : ∀ (i : Int) (s : Int) r, 0 ≤ i → i ≤ 3 → Ev (fun k => garnerref04_Get.l0 k x ((decs 3 x).2.1 : Int) (i - 1) u v w (((s * 256) % 4294967296 + (rd x (((decs 3 x).2.1 : Int) + i)) % 4294967296) % 4294967296)) r → Ev (fun k => garnerref04_Get.l0 k x ((decs 3 x).2.1 : Int) i u v w s) r := by
          intro i s r hi0 hi3 hr
          rw [ev_succ]
          simp only [garnerref04_Get.l0, ev_ite]
          rw [if_pos (by omega), w64 (x := ((decs 3 x).2.1 : Int) + i) (by omega) (by omega), if_pos (by omega), if_pos (by omega), w64 (x := i - 1) (by omega) (by omega)]
          exact hr
        refine step 3 0 _ (by omega) (by omega) ?_
        refine step (3 - 1) _ _ (by omega) (by omega) ?_
        refine step (3 - 1 - 1) _ _ (by omega) (by omega) ?_
        refine step (3 - 1 - 1 - 1) _ _ (by omega) (by omega) ?_
        rw [ev_succ]
        simp only [garnerref04_Get.l0, ev_ite]
        rw [if_neg (by omega), ev_bind_c (garnerref04_May_ev _ _ _ _), ev_ite, ev_some, ev_some, w64 (by omega) (by omega)]
        by_cases hm : mayP u v w = true
        · rw [if_pos hm, if_pos ⟨h4, hm⟩]
          congr 4
          unfold sumAt
          have e2 : (3 : Int) - 1 = 2 := rfl
          have e1 : (2 : Int) - 1 = 1 := rfl
          have e0 : (1 : Int) - 1 = 0 := rfl
          rw [e2, e1, e0, Int.add_zero]
          omega
        · rw [if_neg hm, if_neg (fun hh => hm hh.2)]
    · rw [if_pos (by omega), if_neg (fun hh => h4 hh.1)]
      exact hbad _ _
  · have hf : (decs 3 x).2.2 = false := by simpa using h
    simp only [pointR, hf, ev_ite, Bool.false_eq_true, if_false, false_and]
    rw [if_neg (by omega)]
    exact hbad _ _
theorem garnerref05_Get_ev {x : List Int} (hb : Bytes x) (hl : x.length ≤ 1000000000000) : Ev (fun k => garnerref05_Get.f k x) (match cellR x with
    | none => (false, ([] : List Int), (0 : Int), (0 : Int), (0 : Int), (0 : Int), (0 : Int))
    | some (c, m) => (c.1, c.2.1, c.2.2.1, c.2.2.2.1, c.2.2.2.2.1, c.2.2.2.2.2, (m : Int))) := by
  have hl' : x.length ≤ maxLen := by unfold maxLen; omega
  have bad : Ev (fun k => garnerref05_Get.j0 k x true) (false, ([] : List Int), (0 : Int), (0 : Int), (0 : Int), (0 : Int), (0 : Int)) := by
    rw [ev_succ]
    simp only [garnerref05_Get.j0, ev_ite]
    rw [if_pos (by trivial), ev_some]
  simp only [garnerref05_Get.f, ev_ite, cellR]
  by_cases h0 : x.length = 0
  · rw [if_pos (by omega), if_pos h0]
    exact bad
  rw [if_neg (by omega), if_pos (by omega), if_neg h0]
  have hr := hb.rd (i := 0) (by omega) (by omega)
  have h4 : (x.drop 1).length = x.length - 1 := List.length_drop
  by_cases hgt : rd x 0 > 1
  · rw [decide_eq_true hgt, if_neg (by omega), if_neg (by omega)]
    exact bad
  rw [decide_eq_false hgt, ev_succ]
  simp only [garnerref05_Get.j0, ev_ite]
  rw [if_neg (by simp), if_pos (by omega)]
  by_cases h1 : rd x 0 = 1
  · rw [if_pos h1, if_pos (by omega), ev_bind (garnerref04_Get_ev (hb.drop 1) (by omega)), ev_ite, if_pos h1]
    have h3 := pointR_le6 (x.drop 1)
    by_cases h2 : (pointR (x.drop 1)).2.2.2.2 = 0
    · rw [if_pos h2, if_pos h2, ev_some]
    · rw [if_neg h2, if_neg h2, ev_some, w64 (by omega) (by omega)]
      simp only [Prod.mk.injEq, true_and]
      omega
  · rw [if_neg h1, if_pos (by omega), ev_bind (garnerref02_Get_ev (hb.drop 1) (by omega)), ev_ite, if_neg h1, if_pos (show rd x 0 = 0 by omega)]
    unfold numR getR
    cases hd : dec 0 (x.drop 1) with
    | none =>
      simp only
      rw [if_pos (by trivial), ev_some]
    | some y =>
      obtain ⟨u, n⟩ := y
      obtain ⟨d1, d2, d3, d4⟩ := dec_pos (hb.drop 1) hd
      simp only
      rw [if_neg (by omega), ev_ite]
      by_cases h5 : u ≤ 32
      · rw [if_neg (by omega), if_pos h5, ev_ite]
        simp only
        rw [w64n (a := (u : Int)) u rfl (by omega), w64n (a := 1 + (n : Int)) (1 + n) (by omega) (by omega), w64n (a := ((1 + n : Nat) : Int) + u) (1 + n + u) (by omega) (by omega)]
        by_cases h6 : 1 + n + u ≤ x.length
        · rw [if_neg (by omega), if_pos h6]
          simp only [Option.bind_some, ev_ite, List.nil_append, Int.toNat_natCast]
          rw [if_pos (by omega), if_pos (by omega), if_pos (by omega), if_pos (by rw [List.length_drop, List.length_take]; simp only [List.length_nil]; omega), ev_some]
          have e5 : (x.take (1 + n + u)).drop (1 + n) = (x.drop (1 + n)).take u := by
            rw [List.drop_take, show 1 + n + u - (1 + n) = u by omega]
          rw [e5]
        · rw [if_pos (by omega), if_neg h6, ev_some]
      · rw [if_pos (by omega), if_neg h5, ev_some]
theorem garnerref06_one_ev {x : List Int} (hb : Bytes x) (hl : x.length ≤ 1000000000000) (i : Int) : Ev (fun k => garnerref06_one.f k x i) (match entR i x with
    | none => ((0 : Int), (0 : Int), (0 : Int), (⟨#[]⟩ : ByteArray), false, ([] : List Int), (0 : Int), (0 : Int), (0 : Int), (0 : Int), (0 : Int))
    | some (e, m) => (e.i, e.t, e.k, e.key, e.far, e.b, e.s, e.a, e.n, e.u, (m : Int))) := by
  have bad0 : ∀ a b, Ev (fun k => garnerref06_one.j0 k x i a b true) ((0 : Int), (0 : Int), (0 : Int), (⟨#[]⟩ : ByteArray), false, ([] : List Int), (0 : Int), (0 : Int), (0 : Int), (0 : Int), (0 : Int)) := by
    intro a b
    rw [ev_succ]
    simp only [garnerref06_one.j0, ev_ite]
    rw [if_pos (by trivial), ev_some]
  have bad1 : ∀ x9 x11 a b c d e f g h j, Ev (fun k => garnerref06_one.j1 k x x9 x11 true a b c d e f g h j) ((0 : Int), (0 : Int), (0 : Int), (⟨#[]⟩ : ByteArray), false, ([] : List Int), (0 : Int), (0 : Int), (0 : Int), (0 : Int), (0 : Int)) := by
    intro x9 x11 a b c d e f g h j
    rw [ev_succ]
    simp only [garnerref06_one.j1, ev_ite]
    rw [if_pos (by trivial), ev_some]
  simp only [garnerref06_one.f]
  have hn := garnerref06_number_ev hb hl 2147483647 2147483647 rfl (by omega)
  rw [ev_bind hn, ev_ite]
  unfold entR
  cases hd : numR 2147483647 x with
  | none =>
    simp only
    rw [if_pos (by trivial)]
    exact bad0 _ _
  | some y =>
    obtain ⟨t, n⟩ := y
    obtain ⟨h1, h2, h3, h4, _⟩ := numR_le hb hd
    simp only
    rw [if_neg (by omega)]
    by_cases h5 : n = x.length
    · rw [if_pos h5, h5, beq_self_eq_true]
      exact bad0 _ _
    rw [if_neg h5, beq_eq_false_iff_ne.mpr (show (n : Int) ≠ (x.length : Int) by omega), ev_succ]
    simp only [garnerref06_one.j0, ev_ite]
    rw [if_neg (by simp), if_pos (by omega), if_pos (by omega), w64n (a := (n : Int) + 1) (n + 1) (by omega) (by omega), if_pos (by omega), if_pos (by omega)]
    have hm := garnerref06_number_ev (hb.drop (n + 1)) (by rw [List.length_drop]; omega) 64 64 rfl (by omega)
    simp only [Int.toNat_natCast]
    rw [ev_bind hm, ev_ite]
    cases hk : numR 64 (x.drop (n + 1)) with
    | none =>
      simp only
      rw [if_pos (by trivial)]
      exact bad1 _ _ _ _ _ _ _ _ _ _ _
    | some z =>
      obtain ⟨u, k⟩ := z
      obtain ⟨g1, g2, g3, g4, _⟩ := numR_le (hb.drop (n + 1)) hk
      have hld : (x.drop (n + 1)).length = x.length - (n + 1) := List.length_drop
      simp only
      rw [if_neg (by omega), w64n (a := ((n + 1 : Nat) : Int) + k) (n + 1 + k) (by omega) (by omega), w64n (a := ((n + 1 + k : Nat) : Int) + u) (n + 1 + k + u) (by omega) (by omega)]
      by_cases h6 : n + 1 + k + u ≤ x.length
      · rw [if_pos h6, decide_eq_false (by omega), ev_succ]
        simp only [garnerref06_one.j1, ev_ite]
        rw [w64n (a := ((n + 1 + k : Nat) : Int) + u) (n + 1 + k + u) (by omega) (by omega), if_neg (by simp), if_pos (by omega), if_pos (by omega), if_pos (by omega)]
        simp only [Int.toNat_natCast]
        have hr := hb.rd (i := (n : Int)) (by omega) (by omega)
        have e5 : (x.take (n + 1 + k + u)).drop (n + 1 + k) = (x.drop (n + 1 + k)).take u := by
          rw [List.drop_take, show n + 1 + k + u - (n + 1 + k) = u by omega]
        rw [w64 (x := rd x (n : Int)) (by omega) (by omega), e5]
        by_cases h7 : rd x (n : Int) = 2
        · rw [if_pos h7, if_pos h7, ev_some]
        · have hc := garnerref05_Get_ev (hb.drop (n + 1 + k + u)) (by rw [List.length_drop]; omega)
          rw [if_neg h7, if_neg h7, if_pos (by omega), ev_bind hc, ev_ite]
          cases hcc : cellR (x.drop (n + 1 + k + u)) with
          | none =>
            simp only
            rw [if_pos (by trivial), ev_some]
          | some c =>
            obtain ⟨c, m⟩ := c
            obtain ⟨c1, c2, _⟩ := cellR_le (hb.drop _) hcc
            have hlc : (x.drop (n + 1 + k + u)).length = x.length - (n + 1 + k + u) := List.length_drop
            simp only
            rw [if_neg (by omega), ev_some]
            rw [w64n (a := ((n + 1 + k + u : Nat) : Int) + m) (n + 1 + k + u + m) (by omega) (by omega)]
      · rw [if_neg h6, decide_eq_true (by omega)]
        exact bad1 _ _ _ _ _ _ _ _ _ _ _
theorem garnerref06_Get_l0_ev {x : List Int} (hb : Bytes x) (hl : x.length ≤ 1000000000) {n f : Nat} (hn : n ≤ 16) (hf : f ≤ 2147483647) : ∀ (d j at_ : Nat) (acc : List S52), at_ ≤ x.length → j + d = n → acc.length = j → (∀ e ∈ acc, goodN e) →
    Ev (fun k => garnerref06_Get.l0 k x (n : Int) (f : Int) (at_ : Int) acc (j : Int)) (match entsR d ((f : Int) + j) (x.drop at_) with
      | none => []
      | some (l, r) => if r = [] ∧ batchB (prsN acc ++ l) = true then acc ++ l.map mkN else []) := by
  intro d
  induction d with
  | zero =>
    intro j at_ acc ha hj hacc hg
    rw [ev_succ, entsR]
    simp only [garnerref06_Get.l0, ev_ite]
    rw [if_neg (by omega)]
    by_cases h : at_ = x.length
    · have e : x.drop at_ = [] := by rw [h]; exact List.drop_length
      rw [if_pos (by omega), ev_bind (garnerref06_Batch_ev acc (by omega) hg), ev_ite, List.append_nil, List.map_nil, List.append_nil]
      by_cases hB : batchB (prsN acc) = true
      · rw [if_pos hB, if_pos ⟨e, hB⟩, ev_some]
      · rw [if_neg hB, if_neg (fun h_ => hB h_.2), ev_some]
    · have e : ¬ x.drop at_ = [] := fun h_ => by
        have := congrArg List.length h_
        rw [List.length_drop] at this
        simp only [List.length_nil] at this
        omega
      rw [if_neg (by omega), if_neg (fun h_ => e h_.1), ev_some]
  | succ d ih =>
    intro j at_ acc ha hj hacc hg
    have hlen : (x.drop at_).length = x.length - at_ := List.length_drop
    have ho := garnerref06_one_ev (hb.drop at_) (by omega) ((f : Int) + j)
    rw [ev_succ, entsR]
    simp only [garnerref06_Get.l0, ev_ite]
    rw [if_pos (by omega), if_pos (by omega), if_pos (by omega), w64 (x := (f : Int) + j) (by omega) (by omega)]
    simp only [Int.toNat_natCast]
    rw [ev_bind ho, ev_ite]
    cases he : entR ((f : Int) + j) (x.drop at_) with
    | none =>
      simp only
      rw [if_pos (by trivial), ev_some]
    | some y =>
      obtain ⟨e, m⟩ := y
      obtain ⟨h1, h2, _⟩ := entR_le (hb.drop at_) he
      have hge := entR_good (hb.drop at_) he (by omega)
      simp only
      rw [if_neg (by omega), ev_ite, if_pos (by omega), w64n (a := (at_ : Int) + m) (at_ + m) (by omega) (by omega), w64n (a := (j : Int) + 1) (j + 1) (by omega) (by omega)]
      have := ih (j + 1) (at_ + m) (acc ++ [mkN e]) (by omega) (by omega) (by rw [List.length_append, hacc]; rfl) (by
        intro z hz
        rcases List.mem_append.1 hz with hz | hz
        · exact hg z hz
        · rw [List.mem_singleton.1 hz]
          exact hge)
      refine ev_eq this ?_
      rw [List.drop_drop, show (f : Int) + ((j + 1 : Nat) : Int) = (f : Int) + j + 1 by omega]
      cases entsR d ((f : Int) + j + 1) (x.drop (at_ + m)) with
      | none => rfl
      | some z =>
        obtain ⟨l, r⟩ := z
        simp only
        have e1 : prsN (acc ++ [mkN e]) ++ l = prsN acc ++ (e :: l) := by
          unfold prsN
          rw [List.map_append, List.append_assoc]
          rfl
        have e2 : acc ++ [mkN e] ++ l.map mkN = acc ++ (e :: l).map mkN := by
          rw [List.append_assoc]
          rfl
        rw [e1, e2]
theorem garnerref06_Get_ev {x : List Int} (hb : Bytes x) (hl : x.length ≤ 1000000000) : Ev (fun k => garnerref06_Get.f k x) ((getB x).map mkN) := by
  have bad : ∀ a b c e, Ev (fun k => garnerref06_Get.j0 k x a b c e true) ([] : List S52) := by
    intro a b c e
    rw [ev_succ]
    simp only [garnerref06_Get.j0, ev_ite]
    rw [if_pos (by trivial), ev_some]
  simp only [garnerref06_Get.f]
  rw [ev_bind (garnerref06_number_ev hb (by omega) 16 16 rfl (by omega))]
  unfold getB headR
  cases h1 : numR 16 x with
  | none =>
    simp only
    have h2 := garnerref06_number_ev (hb.drop 0) (by rw [List.length_drop]; omega) 2147483647 2147483647 rfl (by omega)
    simp only [ev_ite]
    rw [if_pos (by omega), if_pos (by omega)]
    simp only [Int.toNat_zero]
    rw [ev_bind h2, ev_ite, if_pos (by trivial)]
    exact bad _ _ _ _
  | some y =>
    obtain ⟨n, k0⟩ := y
    obtain ⟨a1, a2, a3, a4, _⟩ := numR_le hb h1
    have hlen : (x.drop k0).length = x.length - k0 := List.length_drop
    have h2 := garnerref06_number_ev (hb.drop k0) (by omega) 2147483647 2147483647 rfl (by omega)
    simp only [ev_ite]
    rw [if_pos (by omega), if_pos (by omega)]
    simp only [Int.toNat_natCast]
    rw [ev_bind h2, ev_ite, if_neg (by omega)]
    cases h3 : numR 2147483647 (x.drop k0) with
    | none =>
      simp only
      exact bad _ _ _ _
    | some z =>
      obtain ⟨f, m⟩ := z
      obtain ⟨b1, b2, b3, b4, _⟩ := numR_le (hb.drop k0) h3
      simp only
      rw [beq_eq_false_iff_ne.mpr (show (m : Int) ≠ 0 by omega), ev_succ]
      simp only [garnerref06_Get.j0, ev_ite]
      rw [if_neg (by simp), w64n (a := (k0 : Int) + m) (k0 + m) (by omega) (by omega)]
      refine ev_eq (garnerref06_Get_l0_ev hb hl a1 b1 n 0 (k0 + m) [] (by omega) (by omega) rfl (by simp)) ?_
      rw [show (f : Int) + ((0 : Nat) : Int) = (f : Int) by omega]
      cases entsR n (f : Int) (x.drop (k0 + m)) with
      | none => rfl
      | some z =>
        obtain ⟨l, r⟩ := z
        simp only
        rw [show prsN ([] : List S52) ++ l = l from rfl]
        by_cases hc : r = [] ∧ batchB l = true
        · rw [if_pos hc, if_pos hc]
          rfl
        · rw [if_neg hc, if_neg hc]
          rfl
theorem garnerref22_May_ev (t v c : Int) : garnerref22_May.f t v c = some (mayH t v c) := by
  unfold garnerref22_May.f mayH
  repeat' split
  all_goals (congr 1; first | (symm; rw [decide_eq_false_iff_not]; omega) | (symm; rw [decide_eq_true_eq]; omega) | (rw [Bool.eq_iff_iff]; simp only [decide_eq_true_eq, beq_iff_eq]; omega))
theorem garnerref22_Get_ev {x : List Int} (hb : Bytes x) (hl : x.length ≤ maxLen) : Ev (fun k => garnerref22_Get.f k x) ((hardR x).1, (hardR x).2.1, (hardR x).2.2.1, (hardR x).2.2.2 == 0) := by
  simp only [garnerref22_Get.f]
  have h3 : Ev (fun k => garnerref02_All.f k x 3) (allR 3 x) := garnerref02_All_ev hb hl 3 (by omega)
  rw [ev_bind h3]
  simp only [allR, hardR]
  by_cases h : (decs 3 x).2.2 = true
  · obtain ⟨u, v, w, h1, h2, h3, h4⟩ := decs_three hb h
    have l3 : (([u, v, w] : List Int).length : Int) = 3 := rfl
    simp only [h, if_true, h1, ev_ite, true_and, l3, Int.reduceLT]
    have r0 : rd [u, v, w] 0 = u := rfl
    have r1 : rd [u, v, w] 1 = v := rfl
    have r2 : rd [u, v, w] 2 = w := rfl
    have hj : ∀ b : Bool, Ev (fun k => garnerref22_Get.j0 k [u, v, w] b) (if b = true then (0, 0, 0, false) else (if mayH (wrap64 u) (wrap64 v) (wrap64 w) = true then (wrap64 u, wrap64 v, wrap64 w, true) else (0, 0, 0, false))) := by
      intro b
      rw [ev_succ]
      simp only [garnerref22_Get.j0, ev_ite, ev_some, l3, Int.reduceLT, if_true, r0, r1, r2, garnerref22_May_ev, Option.bind_some]
      cases b
      · simp only [Bool.false_eq_true, if_false]
        cases mayH (wrap64 u) (wrap64 v) (wrap64 w) <;> simp
      · simp
    simp only [r0, r1, r2]
    by_cases hn : (decs 3 x).2.1 = x.length
    · rw [if_pos (by omega)]
      by_cases hbig : 2147483647 < u ∨ 2147483647 < v ∨ 2147483647 < w
      · rw [if_neg (c := _ ∧ _)]
        · by_cases hu : u > 2147483647
          · rw [if_pos hu]; exact hj true
          · rw [if_neg hu]
            by_cases hv : v > 2147483647
            · rw [if_pos hv]; exact hj true
            · rw [if_neg hv]
              refine ev_eq (hj _) ?_
              rw [if_pos (by simp; omega)]
              rfl
        · rintro ⟨_, hm⟩
          rw [mayH_iff] at hm
          omega
      · rw [if_neg (by omega), if_neg (by omega)]
        refine ev_eq (hj _) ?_
        rw [if_neg (by simp; omega), w64 (by omega) (by omega), w64 (by omega) (by omega), w64 (by omega) (by omega)]
        simp only [hn, true_and]
        split <;> rfl
    · rw [if_neg (by omega), if_neg (fun hh => hn hh.1)]
      exact hj true
  · have hf : (decs 3 x).2.2 = false := by simpa using h
    simp only [hf, ev_ite, Bool.false_eq_true, if_false, false_and]
    rw [if_neg (by omega), ev_succ]
    simp [garnerref22_Get.j0, ev_ite, ev_some]
theorem garnerref24_Get_ev (a : Int) {x : List Int} (hb : Bytes x) (hl : x.length ≤ 1000000000) : Ev (fun k => garnerref24_Get.f k a x) (walR a x) := by
  have hml : x.length ≤ maxLen := by unfold maxLen; omega
  have j1 : a ≠ 13 → Ev (fun k => garnerref24_Get.j1 k a x) (0, [], 0, 0, 0, 0) := by
    intro h
    rw [ev_succ]
    simp only [garnerref24_Get.j1, ev_ite]
    rw [if_neg h, ev_some]
  have j0 : a ≠ 12 → a ≠ 13 → Ev (fun k => garnerref24_Get.j0 k a x) (0, [], 0, 0, 0, 0) := by
    intro h h'
    rw [ev_succ]
    simp only [garnerref24_Get.j0, ev_ite]
    rw [if_neg h]
    exact j1 h'
  unfold walR
  simp only [garnerref24_Get.f, ev_ite]
  by_cases h1 : a = 11
  · rw [if_pos h1, if_pos h1, ev_bind (garnerref06_Get_ev hb hl), ev_ite, List.length_map]
    by_cases h : getB x = []
    · rw [if_neg (by rw [h]; simp), if_pos h]
      exact j0 (by omega) (by omega)
    · have hp := List.length_pos_iff.2 h
      rw [if_pos (by omega), if_neg h, ev_some]
  · rw [if_neg h1, if_neg h1, ev_succ]
    simp only [garnerref24_Get.j0, ev_ite]
    by_cases h2 : a = 12
    · rw [if_pos h2, if_pos h2, ev_bind (garnerref22_Get_ev hb hml), ev_ite]
      simp only [beq_iff_eq]
      by_cases h : (hardR x).2.2.2 = 0
      · rw [if_pos h, if_pos h, ev_some]
      · rw [if_neg h, if_neg h]
        exact j1 (by omega)
    · rw [if_neg h2, if_neg h2, ev_succ]
      simp only [garnerref24_Get.j1, ev_ite]
      by_cases h3 : a = 13
      · rw [if_pos h3, if_pos h3, ev_bind (garnerref02_Get_ev hb hml)]
        simp only [ev_ite]
        rcases getR_cases hb with h | ⟨u, n, h, hn, hu⟩
        · simp only [h]
          rw [if_neg (by omega), if_neg (by omega), ev_some]
        · simp only [h]
          rw [if_pos (by omega)]
          by_cases c1 : (n : Int) = x.length
          · rw [if_pos c1]
            by_cases c2 : (u : Int) ≥ 1
            · rw [if_pos c2]
              by_cases c3 : (u : Int) ≤ 2147483647
              · rw [if_pos c3, if_pos ⟨trivial, c1, c2, c3⟩, w64n u rfl (by omega), ev_some]
              · rw [if_neg c3, if_neg (fun h_ => c3 h_.2.2.2), ev_some]
            · rw [if_neg c2, if_neg (fun h_ => c2 h_.2.2.1), ev_some]
          · rw [if_neg c1, if_neg (fun h_ => c1 h_.2.1), ev_some]
      · rw [if_neg h3, if_neg h3, ev_some]
theorem garnerref06_Same_self (l : List S52) (hl : l.length ≤ 140737488351232) (hg : ∀ e ∈ l, e.f4.f1.length ≤ maxLen) : Ev (fun k => garnerref06_Same.f k l l) true := by
  have main : ∀ (d j : Nat), l.length - j = d → j ≤ l.length → Ev (fun k => garnerref06_Same.l0 k l l (j : Int)) true := by
    intro d
    induction d with
    | zero =>
      intro j hd hj
      rw [ev_succ]
      simp only [garnerref06_Same.l0, ev_ite]
      rw [if_neg (by omega), ev_some]
    | succ d ih =>
      intro j hd hj
      have hjl : j < l.length := by omega
      have e : rd_T52 l (j : Int) = l[j] := by simp [rd_T52, hjl]
      have hgj := hg _ (List.getElem_mem hjl)
      have hw : wrap64 ((j : Int) + 1) = ((j + 1 : Nat) : Int) := w64 (by omega) (by omega)
      rw [ev_succ]
      simp only [garnerref06_Same.l0, ev_ite, hw, e]
      generalize l[j] = x at hgj ⊢
      have hs : Ev (fun k => garnerref05_Same.f k x.f4.f0 x.f4.f1 x.f4.f2.f0 x.f4.f2.f1 x.f4.f2.f2 x.f4.f2.f3 x.f4.f0 x.f4.f1 x.f4.f2.f0 x.f4.f2.f1 x.f4.f2.f2 x.f4.f2.f3) true := by
        simp only [garnerref05_Same.f, ev_ite]
        rw [if_pos (by simp), if_pos (by simp), ev_bind (garnerref02_Bytes_ev hgj), ev_some]
        simp
      rw [if_pos (by omega), if_pos (by omega), if_pos (by omega), if_pos (by trivial), if_pos (by trivial), if_pos (by trivial), if_pos (by trivial), ev_bind hs, ev_ite, if_pos (by trivial)]
      exact ih (j + 1) (by omega) (by omega)
  simp only [garnerref06_Same.f, ev_ite]
  rw [if_pos (by trivial)]
  exact main (l.length - 0) 0 rfl (by omega)
theorem WalGets : StWalGets.Pure := by
  intro a b _ hl _ hb
  have hb := Bytes.of_wf hb
  have fin : Ev (fun k => (garnerlaw24_awake.f k).bind fun t => some t) true := by rw [ev_bind garnerlaw24_awake_ev, ev_some]
  refine Ev.rounds (g := fun k => garnerlaw24_WalGets.f k a b) ?_
  simp only [garnerlaw24_WalGets.f, ev_ite, Option.bind_some]
  split
  · exact fin
  · rename_i h3
    have hlen : b.length ≤ 3000 := by omega
    rw [ev_bind (wal_Get_ev a hb (by omega)), ev_bind (garnerref24_Get_ev a hb (by omega))]
    simp only
    obtain ⟨g1, g2⟩ := getB_good hb
    have hq : ((walR a b).1 = 0 ∨ 0 < (walR a b).1) ∧ (∀ e ∈ (walR a b).2.1, goodN e) ∧ (walR a b).2.1.length ≤ 16 := by
      refine ⟨?_, ?_, ?_⟩
      · unfold walR
        repeat' split
        all_goals first | exact .inl rfl | exact .inr (by decide : (0 : Int) < 1) | exact .inr (by decide : (0 : Int) < 2) | exact .inr (by decide : (0 : Int) < 3)
      · intro e he
        unfold walR at he
        repeat' split at he
        all_goals first | exact absurd he List.not_mem_nil | (obtain ⟨y, hy, rfl⟩ := List.mem_map.1 he; exact g1 y hy)
      · unfold walR
        repeat' split
        all_goals first | exact Nat.zero_le _ | (simp only [List.length_map]; exact g2)
    generalize walR a b = r at hq
    obtain ⟨q1, q2, q3, q4, q5, q6⟩ := r
    obtain ⟨p1, p2, p3⟩ := hq
    simp only at p1 p2 p3 ⊢
    have hs := garnerref06_Same_self q2 (by omega) (by
      intro e he
      have := (p2 e he).2.2.2.1
      unfold maxLen
      omega)
    have hs24 : Ev (fun k => garnerref24_Same.f k q1 q2 q3 q4 q5 q6 q1 q2 q3 q4 q5 q6) true := by
      simp only [garnerref24_Same.f, ev_ite]
      rw [if_pos (by trivial), if_pos (by simp), if_pos (by trivial), ev_bind hs, ev_some]
    rw [ev_bind hs24]
    simp only [ev_ite]
    rw [if_pos (by trivial)]
    rcases p1 with rfl | p1
    · rw [if_pos (by simp), if_pos (by simp)]
      exact fin
    · have hne : ¬ q1 = 0 := by omega
      simp only [hne, if_false]
      rw [if_pos (by simp; omega), if_pos (by simp; omega)]
      exact fin
end Go.Proofs.Ytdanmjfkocjgjaa.Pure
