/- The pure statement of the law WalPuts: what the printed functions answer, each by its plain law, and that the law's answer is true. -/
import Derived.Test.YtdanmjfkocjgjaaPWalPutsx0
import Derived.Test.YtdanmjfkocjgjaaPWalPutsx5
import Derived.Test.YtdanmjfkocjgjaaPWalPutsx7
import Derived.Test.YtdanmjfkocjgjaaPWalPutsx10
import Derived.Test.YtdanmjfkocjgjaaPWalPutsx13
import Derived.Test.YtdanmjfkocjgjaaPWalPutsx15
import Derived.Test.YtdanmjfkocjgjaaPWalPutsx16
import Derived.Test.YtdanmjfkocjgjaaPWalPutsx18
import Derived.Test.YtdanmjfkocjgjaaPWalPutsx21
import Derived.Test.YtdanmjfkocjgjaaPWalPutsx22
import Derived.Test.YtdanmjfkocjgjaaPWalPutsx23
import Derived.Test.YtdanmjfkocjgjaaStWalPuts
import Derived.Test.YtdanmjfkocjgjaaQSz
import Derived.Test.YtdanmjfkocjgjaaQV02
import Derived.Test.YtdanmjfkocjgjaaQV22
import Derived.Test.YtdanmjfkocjgjaaQV07
import Derived.Test.YtdanmjfkocjgjaaQF06
import Derived.Test.YtdanmjfkocjgjaaQV04
import Derived.Test.YtdanmjfkocjgjaaQG06
import Derived.Test.YtdanmjfkocjgjaaQV03
import Derived.Test.YtdanmjfkocjgjaaQH06
namespace Go.Proofs.Ytdanmjfkocjgjaa.Pure
open Go.RowKit Go.Proofs.Ytdanmjfkocjgjaa.PWalPuts Go.Proofs.Ytdanmjfkocjgjaa.U Go.Proofs.YtdanmjfkocjgjaaW.PrintWords Go.Proofs.YtdanmjfkocjgjaaW.PrintLast Go.Proofs.YtdanmjfkocjgjaaW.PrintMore
set_option linter.unusedVariables false
set_option linter.unusedSimpArgs false
set_option maxRecDepth 4000
def prN (e : S52) : Ent := ⟨e.f0, e.f1, e.f2, e.f3, e.f4.f0, e.f4.f1, e.f4.f2.f0, e.f4.f2.f1, e.f4.f2.f2, e.f4.f2.f3⟩
def prsN (l : List S52) : List Ent := l.map prN
theorem prsN_len (l : List S52) : (prsN l).length = l.length := by simp [prsN]
theorem rdN_get {l : List S52} {i : Nat} (h : i < l.length) : rd_T52 l (i : Int) = l[i] := by
 simp [rd_T52, h]
theorem dropN_eq {l : List S52} {i : Nat} (h : i < l.length) : l.drop i = rd_T52 l (i : Int) :: l.drop (i + 1) := by
 rw [rdN_get h]
 exact List.drop_eq_getElem_cons h
theorem rdN_mem {l : List S52} {i : Nat} (h : i < l.length) : rd_T52 l (i : Int) ∈ l := by
 rw [rdN_get h]
 exact List.getElem_mem _
def goodN (e : S52) : Prop := (-9223372036854775808 ≤ e.f0 ∧ e.f0 ≤ 9223372036854775807) ∧ (-9223372036854775808 ≤ e.f1 ∧ e.f1 ≤ 9223372036854775807) ∧ e.f3.size ≤ 140737488351232 ∧ e.f4.f1.length ≤ 140737488351232 ∧ Bytes e.f4.f1 ∧ (0 ≤ e.f4.f2.f3 ∧ e.f4.f2.f3 < 4294967296)
def mkN (e : Ent) : S52 := ⟨e.i, e.t, e.k, e.key, ⟨e.far, e.b, ⟨e.s, e.a, e.n, e.u⟩⟩⟩
theorem prN_mkN (e : Ent) : prN (mkN e) = e := rfl
theorem mkN_prN (e : S52) : mkN (prN e) = e := rfl
theorem prsN_mkN (l : List Ent) : prsN (l.map mkN) = l := by
 unfold prsN
 rw [List.map_map]
 exact (List.map_congr_left (fun e _ => prN_mkN e)).trans (List.map_id' l)
theorem mkN_prsN (l : List S52) : (prsN l).map mkN = l := by
 unfold prsN
 rw [List.map_map]
 exact (List.map_congr_left (fun e _ => mkN_prN e)).trans (List.map_id' l)
theorem entR_good {b : List Int} (hb : Bytes b) {i : Int} {e : Ent} {m : Nat} (h : entR i b = some (e, m)) (hi : 0 ≤ i ∧ i ≤ 9223372036854775807) : goodN (mkN e) := by
 obtain ⟨h1, h2, rfl, h4, h5, h6, h7, h8, h9⟩ := entR_le hb h
 exact ⟨⟨by simp only [mkN]; omega, hi.2⟩, ⟨by simp only [mkN]; omega, by simp only [mkN]; omega⟩, by simp only [mkN]; omega, by simp only [mkN]; omega, h8, h9⟩
theorem getB_batch {b : List Int} (h : getB b ≠ []) : batchB (getB b) = true := by
 generalize hL : getB b = L at h ⊢
 unfold getB at hL
 cases hh : headR b with
 | none => rw [hh] at hL; exact absurd hL.symm h
 | some y =>
  obtain ⟨n, f, k⟩ := y
  rw [hh] at hL
  simp only at hL
  cases hE : entsR n f (b.drop k) with
  | none => rw [hE] at hL; exact absurd hL.symm h
  | some z =>
   obtain ⟨l, r⟩ := z
   rw [hE] at hL
   simp only at hL
   by_cases hc : r = [] ∧ batchB l = true
   ·rw [if_pos hc] at hL
    rw [← hL]
    exact hc.2
   ·rw [if_neg hc] at hL
    exact absurd hL.symm h
theorem hardR_may (b : List Int) : (hardR b).2.2.2 = 0 ∧ mayH (hardR b).1 (hardR b).2.1 (hardR b).2.2.1 = true ∨ hardR b = (0, 0, 0, 2) := by
 unfold hardR
 split
 ·rename_i h
  exact .inl ⟨rfl, h.2.2⟩
 ·exact .inr rfl
theorem entsR_goods {b : List Int} : ∀ {d : Nat} {i : Int} {b : List Int} {l : List Ent} {r : List Int}, Bytes b → 0 ≤ i → i + d ≤ 9223372036854775807 → entsR d i b = some (l, r) → (∀ e ∈ l, goodN (mkN e)) ∧ l.length = d := by
 intro d
 induction d with
 | zero =>
  intro i b l r hb hi hd h
  rw [entsR] at h
  cases h
  exact ⟨by simp, rfl⟩
 | succ d ih =>
  intro i b l r hb hi hd h
  rw [entsR] at h
  cases he : entR i b with
  | none => rw [he] at h; cases h
  | some y =>
   obtain ⟨e, m⟩ := y
   rw [he] at h
   simp only at h
   cases hE : entsR d (i + 1) (b.drop m) with
   | none => rw [hE] at h; cases h
   | some z =>
    obtain ⟨l', r'⟩ := z
    rw [hE] at h
    cases h
    obtain ⟨h1, h2⟩ := ih (hb.drop m) (by omega) (by omega) hE
    refine ⟨fun z hz => ?_, by rw [List.length_cons, h2]⟩
    rcases List.mem_cons.1 hz with rfl | hz
    ·exact entR_good hb he (by omega)
    ·exact h1 z hz
theorem getB_good {b : List Int} (hb : Bytes b) : (∀ e ∈ getB b, goodN (mkN e)) ∧ (getB b).length ≤ 16 := by
 generalize hL : getB b = L
 unfold getB headR at hL
 cases hn : numR 16 b with
 | none =>
  rw [hn] at hL
  subst hL
  exact ⟨by simp, by simp⟩
 | some y =>
  obtain ⟨n, k0⟩ := y
  obtain ⟨a1, _⟩ := numR_le hb hn
  rw [hn] at hL
  simp only at hL
  cases h3 : numR 2147483647 (b.drop k0) with
  | none =>
   rw [h3] at hL
   subst hL
   exact ⟨by simp, by simp⟩
  | some z =>
   obtain ⟨f, m⟩ := z
   obtain ⟨b1, _⟩ := numR_le (hb.drop k0) h3
   rw [h3] at hL
   simp only at hL
   cases hE : entsR n (f : Int) (b.drop (k0 + m)) with
   | none =>
    rw [hE] at hL
    subst hL
    exact ⟨by simp, by simp⟩
   | some z =>
    obtain ⟨l, r⟩ := z
    rw [hE] at hL
    simp only at hL
    obtain ⟨h1, h2⟩ := entsR_goods (b := b) (hb.drop _) (by omega) (by omega) hE
    by_cases hc : r = [] ∧ batchB l = true
    ·rw [if_pos hc] at hL
     subst hL
     exact ⟨h1, by omega⟩
    ·rw [if_neg hc] at hL
     subst hL
     exact ⟨by simp, by simp⟩
def prF (f : S24) : Int × List Int := (f.f0, f.f1)
def prsF (l : List S24) : List (Int × List Int) := l.map prF
theorem prsF_len (l : List S24) : (prsF l).length = l.length := by simp [prsF]
theorem rdF_get {l : List S24} {i : Nat} (h : i < l.length) : rd_T24 l (i : Int) = l[i] := by
 simp [rd_T24, h]
theorem dropF_eq {l : List S24} {i : Nat} (h : i < l.length) : l.drop i = rd_T24 l (i : Int) :: l.drop (i + 1) := by
 rw [rdF_get h]
 exact List.drop_eq_getElem_cons h
theorem rdF_mem {l : List S24} {i : Nat} (h : i < l.length) : rd_T24 l (i : Int) ∈ l := by
 rw [rdF_get h]
 exact List.getElem_mem _
theorem hard_counts_ev (n : Int) : hard_counts.f n = some (decide (0 ≤ n ∧ n ≤ 2147483647)) := by
 unfold hard_counts.f
 by_cases h : n ≥ 0
 ·rw [if_pos h]
  simp [h]
 ·rw [if_neg h]
  congr 1
  symm
  rw [decide_eq_false_iff_not]
  omega
theorem hard_Check_ev (t v c : Int) : hard_Check.f t v c = some (if mayH t v c = true then 0 else 1) := by
 simp only [hard_Check.f, hard_counts_ev, Option.bind_some, decide_eq_true_eq, mayH_iff]
 repeat' split
 all_goals first | rfl | omega
theorem bytes_Equal_ev {a b : List Int} (ha : Bytes a) (hb : Bytes b) : bytes_Equal.f a b = some (decide (a = b)) := by
 unfold bytes_Equal.f
 congr 1
 rw [Bool.eq_iff_iff, beq_iff_eq, decide_eq_true_eq, toList_eq_iff, bytes_str ha, bytes_str hb]
theorem zero_is (s a n u : Int) : (s == 0 && (a == 0 && (n == 0 && (u == 0)))) = zeroP s a n u := by
 unfold zeroP
 rw [Bool.eq_iff_iff]
 simp only [Bool.and_eq_true, beq_iff_eq, decide_eq_true_eq]
theorem cell_Same_plain {far : Bool} {b : List Int} (hb : Bytes b) (s a n u : Int) : cell_Same.f far b s a n u false ([] : List Int) 0 0 0 0 = some (plainC far b s a n u) := by
 unfold cell_Same.f plainC
 rw [zero_is, bytes_Equal_ev hb Bytes.nil]
 cases far with
 | true =>
  rw [if_neg (by simp)]
  rfl
 | false =>
  rw [if_pos (by simp)]
  by_cases h : zeroP s a n u = true
  ·rw [if_pos h, h]
   simp
  ·rw [if_neg h, Bool.not_eq_true] at *
   rw [h]
   simp
theorem point_Check_ev (s a l u : Int) : point_Check.f s a l u = some (if mayP s a l = true then 0 else 1) := by
 simp only [point_Check.f, mayP_iff]
 repeat' split
 all_goals first | rfl | omega
theorem zero_not (s a n u : Int) : (!(s == 0) || (!(a == 0) || (!(n == 0) || (!(u == 0))))) = !zeroP s a n u := by
 unfold zeroP
 rw [Bool.eq_iff_iff]
 simp only [Bool.or_eq_true, Bool.not_eq_true', beq_eq_false_iff_ne, decide_eq_false_iff_not]
 omega
theorem cell_Check_ev (far : Bool) (b : List Int) (s a n u : Int) : cell_Check.f far b s a n u = some (if mayC far b s a n u = true then 0 else 1) := by
 unfold cell_Check.f mayC
 cases far with
 | true =>
  rw [if_pos rfl, if_pos rfl]
  by_cases h : b.length = 0
  ·rw [if_neg (by omega), point_Check_ev, decide_eq_true h, Bool.true_and]
   rfl
  ·rw [if_pos (by omega), decide_eq_false h]
   rfl
 | false =>
  simp only [Bool.false_eq_true, if_false]
  rw [zero_not]
  by_cases h : b.length ≤ 32
  ·rw [if_neg (by omega), decide_eq_true h, Bool.true_and]
   cases zeroP s a n u <;> rfl
  ·rw [if_pos (by omega), decide_eq_false h]
   rfl
theorem entry_counts_ev (n : Int) : entry_counts.f n = some (decide (1 ≤ n ∧ n ≤ 2147483647)) := by
 unfold entry_counts.f
 split
 ·congr 1
  rw [decide_eq_decide]
  omega
 ·congr 1
  symm
  rw [decide_eq_false_iff_not]
  omega
theorem toList_nil (s : ByteArray) : s.toList = [] ↔ s.size = 0 := by
 have h := toList_lit s [] Bytes.nil
 have e : u8s [] = [] := rfl
 rw [e] at h
 rw [h, ← List.length_eq_zero_iff, bytesOf_length]
theorem key_bool (s : ByteArray) (n : Int) : ((s.toList == ([] : List UInt8)) != (n == 0)) = !decide (s.size = 0 ↔ n = 0) := by
 have h := toList_nil s
 by_cases h1 : s.size = 0
 ·rw [h.2 h1]
  by_cases h2 : n = 0
  ·simp [h1, h2]
  ·simp [h1, h2]
 ·have h3 : ¬ s.toList = [] := fun e => h1 (h.1 e)
  have e1 : (s.toList == ([] : List UInt8)) = false := beq_eq_false_iff_ne.2 h3
  rw [e1]
  by_cases h2 : n = 0
  ·simp [h1, h2]
  ·simp [h1, h2]
theorem entry_Check_ev {e : Ent} (hb : Bytes e.b) : Ev (fun k => entry_Check.f k e.i e.t e.k e.key e.far e.b e.s e.a e.n e.u) (if mayN e = true then 0 else 1) := by
 have hno : headN e = false → mayN e = false := fun h => by
  unfold mayN
  rw [h, Bool.false_and]
 have hnot : ¬ (1 ≤ e.i ∧ e.i ≤ 2147483647 ∧ 1 ≤ e.t ∧ e.t ≤ 2147483647 ∧ 0 ≤ e.k ∧ e.k ≤ 2 ∧ e.key.size ≤ 64 ∧ (e.key.size = 0 ↔ e.k = 0)) → mayN e = false := fun h => hno (by
  unfold headN
  exact decide_eq_false h)
 have bad1 : mayN e = false → Ev (fun k => entry_Check.j1 k true e.i e.t e.k e.key e.far e.b e.s e.a e.n e.u) (if mayN e = true then (0 : Int) else 1) := by
  intro h
  rw [h, ev_succ]
  simp only [entry_Check.j1, ev_ite]
  rw [if_pos (by trivial), ev_some]
  rfl
 have bad0 : mayN e = false → Ev (fun k => entry_Check.j0 k true e.i e.t e.k e.key e.far e.b e.s e.a e.n e.u) (if mayN e = true then (0 : Int) else 1) := by
  intro h
  rw [h, ev_succ]
  simp only [entry_Check.j0, ev_ite]
  rw [if_pos (by trivial), ev_some]
  rfl
 simp only [entry_Check.f]
 rw [ev_bind_c (entry_counts_ev _), ev_ite]
 by_cases h1 : 1 ≤ e.i ∧ e.i ≤ 2147483647
 ·rw [if_pos (by simpa using h1), ev_bind_c (entry_counts_ev _), ev_ite]
  by_cases h2 : 1 ≤ e.t ∧ e.t ≤ 2147483647
  ·rw [if_pos (by simpa using h2), ev_ite]
   by_cases h3 : e.k < 0
   ·rw [if_pos h3]
    exact bad0 (hnot (by omega))
   ·rw [if_neg h3]
    by_cases h4 : e.k > 2
    ·rw [decide_eq_true h4]
     exact bad0 (hnot (by omega))
    ·rw [decide_eq_false h4, ev_succ]
     simp only [entry_Check.j0, ev_ite]
     rw [if_neg (by simp)]
     by_cases h5 : e.key.size > 64
     ·rw [if_pos (by omega)]
      exact bad1 (hnot (by omega))
     ·rw [if_neg (by omega), key_bool]
      by_cases h6 : e.key.size = 0 ↔ e.k = 0
      ·have hh : headN e = true := headN_iff.2 ⟨h1.1, h1.2, h2.1, h2.2, by omega, by omega, by omega, h6⟩
       rw [decide_eq_true h6, ev_succ]
       simp only [entry_Check.j1, ev_ite]
       rw [if_neg (by simp)]
       unfold mayN
       rw [hh, Bool.true_and]
       by_cases h7 : e.k = 2
       ·rw [if_pos h7, decide_eq_false (by omega), Bool.false_or, ev_bind_c (cell_Same_plain hb _ _ _ _), ev_ite]
        by_cases h8 : plainC e.far e.b e.s e.a e.n e.u = true
        ·rw [if_pos h8, h8, Bool.true_and, ev_bind_c (cell_Check_ev _ _ _ _ _ _), ev_some]
        ·rw [if_neg h8, ev_some]
         rw [Bool.not_eq_true] at h8
         rw [h8]
         rfl
       ·rw [if_neg h7, decide_eq_true h7, Bool.true_or, Bool.true_and, ev_bind_c (cell_Check_ev _ _ _ _ _ _), ev_some]
      ·rw [decide_eq_false h6]
       exact bad1 (hnot (by omega))
  ·rw [if_neg (by simpa using h2)]
   exact bad0 (hnot (by omega))
 ·rw [if_neg (by simpa using h1)]
  exact bad0 (hnot (by omega))
theorem batch_none (e : Ent) (l : List Ent) : batchFrom none (e :: l) = (mayN e && batchFrom (some (e.i, e.t)) l) := rfl
theorem batch_some (i t : Int) (e : Ent) (l : List Ent) : batchFrom (some (i, t)) (e :: l) = (mayN e && (decide (e.i = i + 1 ∧ t ≤ e.t) && batchFrom (some (e.i, e.t)) l)) := rfl
theorem entry_Batch_ev (l : List S52) (hl : l.length ≤ 140737488351232) (hg : ∀ e ∈ l, goodN e) : Ev (fun k => entry_Batch.f k l) (if batchB (prsN l) = true then 0 else 1) := by
 have main : ∀ (d j : Nat) (p : Option (Int × Int)), l.length - j = d → j ≤ l.length → (j = 0 → p = none) → (∀ i : Nat, j = i + 1 → p = some ((rd_T52 l (i : Int)).f0, (rd_T52 l (i : Int)).f1) ∧ 1 ≤ (rd_T52 l (i : Int)).f0 ∧ (rd_T52 l (i : Int)).f0 ≤ 2147483647) →
  Ev (fun k => entry_Batch.l0 k l l (l.length : Int) (j : Int)) (if batchFrom p (prsN (l.drop j)) = true then (0 : Int) else 1) := by
  intro d
  induction d with
  | zero =>
   intro j p hd hj _ _
   rw [ev_succ]
   simp only [entry_Batch.l0, ev_ite]
   rw [if_neg (by omega), ev_some, List.drop_eq_nil_of_le (by omega)]
   cases p <;> rfl
  | succ d ih =>
   intro j p hd hj h0 hs
   have hjl : j < l.length := by omega
   have hgj := hg _ (rdN_mem hjl)
   have ih' := fun (hr : 1 ≤ (rd_T52 l (j : Int)).f0 ∧ (rd_T52 l (j : Int)).f0 ≤ 2147483647) => ih (j + 1) (some ((rd_T52 l (j : Int)).f0, (rd_T52 l (j : Int)).f1)) (by omega) (by omega) (by omega) (fun i hi => by rw [show i = j by omega]; exact ⟨rfl, hr⟩)
   have hw : wrap64 ((j : Int) + 1) = ((j + 1 : Nat) : Int) := w64 (by omega) (by omega)
   rw [dropN_eq hjl]
   rw [ev_succ]
   simp only [entry_Batch.l0, ev_ite, hw]
   generalize hE : rd_T52 l (j : Int) = e at hgj ih' ⊢
   have hc : Ev (fun k => entry_Check.f k e.f0 e.f1 e.f2 e.f3 e.f4.f0 e.f4.f1 e.f4.f2.f0 e.f4.f2.f1 e.f4.f2.f2 e.f4.f2.f3) (if mayN (prN e) = true then 0 else 1) := entry_Check_ev (e := prN e) hgj.2.2.2.2.1
   have el : prsN (e :: l.drop (j + 1)) = prN e :: prsN (l.drop (j + 1)) := rfl
   have e0 : (prN e).i = e.f0 := rfl
   have e1 : (prN e).t = e.f1 := rfl
   rw [el, if_pos (by omega), if_pos (by omega), if_pos (by omega), ev_bind hc, ev_ite]
   by_cases hm : mayN (prN e) = true
   ·have hm' := (mayN_iff.1 hm).1
    rw [e0, e1] at hm'
    have ih'' := ih' ⟨hm'.1, hm'.2.1⟩
    rw [if_pos hm, if_pos (by trivial), ev_ite]
    by_cases hj0 : j = 0
    ·rw [if_neg (by omega), h0 hj0, batch_none, hm, Bool.true_and, e0, e1]
     exact ih''
    ·obtain ⟨hp, hr1, hr2⟩ := hs (j - 1) (by omega)
     have e2 : wrap64 ((j : Int) - 1) = ((j - 1 : Nat) : Int) := by
      rw [w64 (by omega) (by omega)]
      omega
     rw [if_pos (by omega), e2, ev_ite, if_pos (by omega), ev_ite, if_pos (by omega), ev_ite, hp, batch_some, hm, Bool.true_and, e0, e1, w64 (by omega) (by omega)]
     by_cases h1 : e.f0 = (rd_T52 l ((j - 1 : Nat) : Int)).f0 + 1
     ·rw [if_pos h1, ev_ite]
      by_cases h2 : e.f1 < (rd_T52 l ((j - 1 : Nat) : Int)).f1
      ·rw [if_pos h2, ev_some, decide_eq_false (by omega), Bool.false_and]
       rfl
      ·rw [if_neg h2, decide_eq_true (by omega), Bool.true_and]
       exact ih''
     ·rw [if_neg h1, ev_some, decide_eq_false (by omega), Bool.false_and]
      rfl
   ·rw [if_neg hm, if_neg (by omega), ev_some]
    rw [Bool.not_eq_true] at hm
    have hf : batchFrom p (prN e :: prsN (l.drop (j + 1))) = false := by
     cases p with
     | none => rw [batch_none, hm, Bool.false_and]
     | some q =>
      obtain ⟨i, t⟩ := q
      rw [batch_some, hm, Bool.false_and]
    rw [hf]
    rfl
 have bad : ¬ (1 ≤ l.length ∧ l.length ≤ 16) → Ev (fun k => entry_Batch.j0 k l true) (if batchB (prsN l) = true then (0 : Int) else 1) := by
  intro h
  have e : batchB (prsN l) = false := by
   unfold batchB
   rw [prsN_len, decide_eq_false h, Bool.false_and]
  rw [e, ev_succ]
  simp only [entry_Batch.j0, ev_ite]
  rw [if_pos (by trivial), ev_some]
  rfl
 simp only [entry_Batch.f, ev_ite]
 by_cases h1 : l.length < 1
 ·rw [if_pos (by omega)]
  exact bad (by omega)
 ·rw [if_neg (by omega)]
  by_cases h2 : l.length > 16
  ·rw [decide_eq_true (by omega)]
   exact bad (by omega)
  ·have e : batchB (prsN l) = batchFrom none (prsN l) := by
    unfold batchB
    rw [prsN_len, decide_eq_true (by omega), Bool.true_and]
   rw [decide_eq_false (by omega), ev_succ, e]
   simp only [entry_Batch.j0, ev_ite]
   rw [if_neg (by simp)]
   exact main (l.length - 0) 0 none rfl (by omega) (fun _ => rfl) (fun i hi => by omega)
theorem wal_Check_put (l : List S52) (hl : l.length ≤ 140737488351232) (hg : ∀ e ∈ l, goodN e) : Ev (fun k => wal_Check.f k 1 l 0 0 0 0) (if batchB (prsN l) = true then 0 else 1) := by
 have h2 : Ev (fun k => wal_Check.j2 k true false false 1 l 0 0 0 0) (if batchB (prsN l) = true then 0 else 1) := by
  rw [ev_succ]
  simp only [wal_Check.j2, ev_ite, Bool.false_eq_true, if_false, if_true]
  rw [ev_bind (entry_Batch_ev l hl hg), ev_some]
 have h1 : Ev (fun k => wal_Check.j1 k true false false false 1 l 0 0 0 0) (if batchB (prsN l) = true then 0 else 1) := by
  rw [ev_succ]
  simpa [wal_Check.j1, ev_ite] using h2
 have h0 : Ev (fun k => wal_Check.j0 k true false false false 1 l 0 0 0 0) (if batchB (prsN l) = true then 0 else 1) := by
  rw [ev_succ]
  simpa [wal_Check.j0, ev_ite] using h1
 simpa [wal_Check.f, ev_ite] using h0
theorem wal_Check_hard (t v c : Int) : Ev (fun k => wal_Check.f k 2 [] t v c 0) (if mayH t v c = true then 0 else 1) := by
 have h2 : Ev (fun k => wal_Check.j2 k false true false 2 [] t v c 0) (if mayH t v c = true then 0 else 1) := by
  rw [ev_succ]
  simp only [wal_Check.j2, ev_ite, Bool.false_eq_true, if_false, if_true, hard_Check_ev, Option.bind_some]
  rw [ev_some]
 have h1 : Ev (fun k => wal_Check.j1 k false true false false 2 [] t v c 0) (if mayH t v c = true then 0 else 1) := by
  rw [ev_succ]
  simpa [wal_Check.j1, ev_ite] using h2
 have h0 : Ev (fun k => wal_Check.j0 k false true false false 2 [] t v c 0) (if mayH t v c = true then 0 else 1) := by
  rw [ev_succ]
  simpa [wal_Check.j0, ev_ite] using h1
 simpa [wal_Check.f, ev_ite] using h0
theorem wal_Check_apply (i : Int) : Ev (fun k => wal_Check.f k 3 [] 0 0 0 i) (if 1 ≤ i ∧ i ≤ 2147483647 then 0 else 1) := by
 have h2 : Ev (fun k => wal_Check.j2 k false false false 3 [] 0 0 0 i) (if 1 ≤ i ∧ i ≤ 2147483647 then 0 else 1) := by
  rw [ev_succ]
  simp only [wal_Check.j2, ev_ite, Bool.false_eq_true, if_false]
  by_cases h : i < 1
  ·rw [if_pos h, if_neg (by omega), ev_some]
  ·rw [if_neg h]
   by_cases h2 : i > 2147483647
   ·rw [if_pos h2, if_neg (by omega), ev_some]
   ·rw [if_neg h2, if_pos (by omega), ev_some]
 have h1 : Ev (fun k => wal_Check.j1 k false false true false 3 [] 0 0 0 i) (if 1 ≤ i ∧ i ≤ 2147483647 then 0 else 1) := by
  rw [ev_succ]
  simpa [wal_Check.j1, ev_ite] using h2
 have h0 : Ev (fun k => wal_Check.j0 k false false true false 3 [] 0 0 0 i) (if 1 ≤ i ∧ i ≤ 2147483647 then 0 else 1) := by
  rw [ev_succ]
  simpa [wal_Check.j0, ev_ite] using h1
 simpa [wal_Check.f, ev_ite] using h0
theorem garnerlaw24_awake_ev : Ev (fun k => garnerlaw24_awake.f k) true := Ev.of (fun k => garnerlaw24_awake.mono k) (k := 40) (by decide +kernel)
theorem varint_Get_l0_ev (x : List Int) (hb : Bytes x) (hl : x.length ≤ maxLen) : ∀ (d i : Nat) (u : Int), x.length - i = d → i ≤ 10 → i ≤ x.length → 0 ≤ u → u < 2 ^ (7 * i) →
 Ev (fun k => varint_Get.l0 k x u (i : Int)) (match dec i (x.drop i) with | some (v, n) => (u + v * 2 ^ (7 * i), (i : Int) + n, 0) | none => (0, 0, 2)) := by
 have hlm := maxLen_le hl
 intro d
 induction d with
 | zero =>
  intro i u hd hi hix hu0 hu
  rw [ev_succ]
  simp only [varint_Get.l0, ev_ite]
  rw [if_neg (by omega), ev_succ]
  simp only [varint_Get.j1, ev_ite]
  rw [if_neg (by simp), ev_some, List.drop_eq_nil_of_le (by omega)]
  rfl
 | succ d ih =>
  intro i u hd hi hix hu0 hu
  have hlt : i < x.length := by omega
  have hc := hb.rd (i := (i : Int)) (by omega) (by omega)
  rw [ev_succ]
  simp only [varint_Get.l0, ev_ite]
  rw [if_pos (by omega), ev_succ, drop_eq hlt]
  simp only [varint_Get.j1, ev_ite, decide_eq_true_eq]
  generalize hcc : rd x (i : Int) = c at hc ⊢
  by_cases h10 : i = 10
  ·subst h10
   rw [if_neg (by omega), ev_some, dec, if_pos (by omega)]
  ·rw [if_pos (by omega), if_pos (by omega), if_pos (by omega), wu64 (by omega) (by omega)]
   have hj2 : ∀ b : Bool, b = decide (i = 9 ∧ 1 < c) → Ev (fun k => varint_Get.j2 k x u (i : Int) c b) (match dec i (c :: x.drop (i + 1)) with | some (v, n) => (u + v * 2 ^ (7 * i), (i : Int) + n, 0) | none => (0, 0, 2)) := by
    intro b hbb
    rw [ev_succ]
    simp only [varint_Get.j2, ev_ite, dec]
    rw [if_neg (show ¬ 10 ≤ i by omega)]
    by_cases h9 : i = 9 ∧ 1 < c
    ·rw [if_pos (by rw [hbb]; simpa using h9), if_pos h9, ev_some]
    ·rw [if_neg (by rw [hbb]; simpa using h9), if_neg h9, w64 (by omega) (by omega), if_pos (by omega)]
     have hsh : ∀ y : Int, 0 ≤ y → y ≤ 127 → (i = 9 → y ≤ 1) → Go.bits .or .u64 u (shl .u64 y (7 * (i : Int))) = u + y * 2 ^ (7 * i) ∧ y * 2 ^ (7 * i) + 2 ^ (7 * i) ≤ (18446744073709551616 : Int) := by
      intro y hy0 hy1 hy9
      have hi' : i = 0 ∨ i = 1 ∨ i = 2 ∨ i = 3 ∨ i = 4 ∨ i = 5 ∨ i = 6 ∨ i = 7 ∨ i = 8 ∨ i = 9 := by omega
      have hs : y * 2 ^ (7 * i) + 2 ^ (7 * i) ≤ (18446744073709551616 : Int) := by
       rcases hi' with rfl | rfl | rfl | rfl | rfl | rfl | rfl | rfl | rfl | rfl <;> simp <;> omega
      have hp : (0 : Int) < 2 ^ (7 * i) := Int.pow_pos (by omega)
      have hm : 0 ≤ y * 2 ^ (7 * i) := Int.mul_nonneg hy0 (by omega)
      have e : (7 * (i : Int)).toNat = 7 * i := by omega
      refine ⟨?_, hs⟩
      unfold shl
      rw [e, Nat.min_eq_left (show 7 * i ≤ IntKind.u64.bits by show 7 * i ≤ 64; omega), wu64 hm (by omega)]
      exact or_u64 (by omega) hu0 hu hy0 (by omega)
     by_cases h128 : c < 128
     ·have hm : c % 128 = c := by omega
      rw [if_pos h128, if_pos h128]
      obtain ⟨h1, h2⟩ := hsh c (by omega) (by omega) (fun h => by omega)
      have hr : Ev (fun _ => some (Go.bits .or .u64 u (shl .u64 (Go.bits .andNot .u64 c 128) (7 * (i : Int))), wrap64 ((i : Int) + 1), (0 : Int))) (u + c * 2 ^ (7 * i), (i : Int) + 1, 0) := by
       rw [ev_some, andNot_u64 hc.1 hc.2, hm, h1, w64 (by omega) (by omega)]
      by_cases h0 : c = 0
      ·rw [if_pos h0]
       by_cases hi0 : 0 < i
       ·rw [if_pos (by omega), if_pos ⟨h0, hi0⟩, ev_some]
       ·rw [if_neg (by omega), if_neg (by omega)]
        simp only
        rw [Int.toNat_of_nonneg hc.1]
        exact hr
      ·rw [if_neg h0, if_neg (fun h => h0 h.1)]
       simp only
       rw [Int.toNat_of_nonneg hc.1]
       exact hr
     ·have hx9 : i ≠ 9 := by omega
      rw [if_neg h128, if_neg h128, andNot_u64 hc.1 hc.2, w64 (by omega) (by omega)]
      obtain ⟨h1, h2⟩ := hsh (c % 128) (by omega) (by omega) (fun h => by omega)
      rw [h1]
      have hp : (0 : Int) < 2 ^ (7 * i) := Int.pow_pos (by omega)
      have hm : 0 ≤ c % 128 * 2 ^ (7 * i) := Int.mul_nonneg (by omega) (by omega)
      have hpow : (2 : Int) ^ (7 * (i + 1)) = 128 * 2 ^ (7 * i) := by
       rw [Nat.mul_add, Int.pow_add]
       omega
      have hlt2 : c % 128 * 2 ^ (7 * i) ≤ 127 * 2 ^ (7 * i) := Int.mul_le_mul_of_nonneg_right (by omega) (by omega)
      have := ih (i + 1) (u + c % 128 * 2 ^ (7 * i)) (by omega) (by omega) (by omega) (by omega) (by omega)
      refine ev_eq this ?_
      cases dec (i + 1) (x.drop (i + 1)) with
      | none => rfl
      | some p =>
       obtain ⟨v, n⟩ := p
       simp only [Option.map_some]
       have e2 : (((c % 128).toNat + 128 * v : Nat) : Int) = c % 128 + 128 * v := by omega
       rw [e2, hpow, Int.add_mul, Int.mul_comm 128 (2 ^ (7 * i)), Int.mul_comm (128 : Int) (v : Int), Int.mul_assoc, Int.mul_comm (128 : Int) (2 ^ (7 * i)), ← Int.add_assoc]
       congr 2
       omega
   by_cases h9 : i = 9
   ·rw [if_pos (by omega)]
    exact hj2 _ (by simp [h9])
   ·rw [if_neg (by omega)]
    exact hj2 _ (by simp [h9])
theorem varint_Get_ev {x : List Int} (hb : Bytes x) (hl : x.length ≤ maxLen) : Ev (fun k => varint_Get.f k x) (getR x) := by
 have h := varint_Get_l0_ev x hb hl (x.length - 0) 0 0 rfl (by omega) (by omega) (by omega) (by simp)
 refine ev_eq h ?_
 unfold getR
 simp only [List.drop_zero]
 cases dec 0 x with
 | none => rfl
 | some p => simp
theorem varint_All_l0_ev (x : List Int) (hb : Bytes x) (hl : x.length ≤ maxLen) (n : Nat) (hn : n ≤ 1000) : ∀ (d j at_ : Nat) (l : List Int), d + j = n → l.length = j → at_ ≤ x.length →
 Ev (fun k => varint_All.l0 k x l (at_ : Int) (n : Int) (j : Int)) (if (decs d (x.drop at_)).2.2 = true then (l ++ (decs d (x.drop at_)).1, (at_ : Int) + ((decs d (x.drop at_)).2.1 : Int), 0) else ([], (at_ : Int) + ((decs d (x.drop at_)).2.1 : Int), 2)) := by
 have hlm := maxLen_le hl
 intro d
 induction d with
 | zero =>
  intro j at_ l hd hj ha
  rw [ev_succ]
  simp only [varint_All.l0, ev_ite]
  rw [if_neg (by omega), ev_some]
  simp [decs]
 | succ d ih =>
  intro j at_ l hd hj ha
  have hb' := hb.drop at_
  rw [ev_succ]
  simp only [varint_All.l0, ev_ite]
  rw [if_pos (by omega), if_pos (by omega), if_pos (by omega), Int.toNat_natCast, ev_bind (varint_Get_ev hb' (by rw [List.length_drop]; omega))]
  simp only [ev_ite, decs, getR]
  rcases dec_cases (x.drop at_) with hdec | ⟨u, k, hdec⟩
  ·simp only [hdec, ev_ite]
   rw [if_neg (by omega), ev_some, if_neg (by simp)]
   simp
  ·have hk := dec_pos hb' hdec
   rw [List.length_drop] at hk
   simp only [hdec, ev_ite]
   rw [if_pos (by trivial), if_pos (by omega), w64 (by omega) (by omega), w64 (by omega) (by omega)]
   have := ih (j + 1) (at_ + k) (l ++ [(u : Int)]) (by omega) (by simp [hj]) (by omega)
   rw [Int.natCast_add, Int.natCast_add] at this
   refine ev_eq this ?_
   rw [List.drop_drop]
   simp only [List.append_assoc, List.singleton_append]
   split <;> (congr 2; omega)
theorem varint_All_ev {x : List Int} (hb : Bytes x) (hl : x.length ≤ maxLen) (n : Nat) (hn : n ≤ 1000) : Ev (fun k => varint_All.f k x (n : Int)) (allR n x) := by
 simp only [varint_All.f, ev_ite]
 rw [if_neg (by omega), ev_succ]
 simp only [varint_All.j0, ev_ite, decide_eq_true_eq]
 rw [if_neg (by omega)]
 have := varint_All_l0_ev x hb hl n hn n 0 0 [] (by omega) rfl (by omega)
 refine ev_eq this ?_
 unfold allR
 simp
theorem slices_Max_uint64_uint64_l0_ev (x : List Int) (hl : x.length ≤ maxLen) : ∀ (d i : Nat) (m : Int), x.length - i = d → i ≤ x.length → Ev (fun k => slices_Max_uint64_uint64.l0 k x m (i : Int)) ((x.drop i).foldl mx m) := by
 have hlm := maxLen_le hl
 intro d
 induction d with
 | zero =>
  intro i m hd hi
  rw [ev_succ]
  simp only [slices_Max_uint64_uint64.l0, ev_ite]
  rw [if_neg (by omega), ev_some, List.drop_eq_nil_of_le (by omega)]
  rfl
 | succ d ih =>
  intro i m hd hi
  rw [ev_succ]
  simp only [slices_Max_uint64_uint64.l0, ev_ite]
  rw [if_pos (by omega), if_pos (by omega), w64 (by omega) (by omega), drop_eq (xs := x) (by omega)]
  exact ih (i + 1) _ (by omega) (by omega)
theorem slices_Max_uint64_uint64_ev {x : List Int} (hl : x.length ≤ maxLen) (h0 : 0 < x.length) : Ev (fun k => slices_Max_uint64_uint64.f k x) (maxl x) := by
 simp only [slices_Max_uint64_uint64.f, ev_ite]
 rw [if_neg (by omega), if_pos (by omega)]
 refine ev_eq (slices_Max_uint64_uint64_l0_ev x hl (x.length - 1) 1 (rd x 0) rfl (by omega)) ?_
 match x, h0 with
 | y :: r, _ => rfl
theorem point_sumOf_ev {x : List Int} (hb : Bytes x) (h : 4 ≤ x.length) : point_sumOf.f x = some (sumAt x 0) := by
 have h0 := hb.rd (i := 0) (by omega) (by omega)
 have h1 := hb.rd (i := 1) (by omega) (by omega)
 have h2 := hb.rd (i := 2) (by omega) (by omega)
 have h3 := hb.rd (i := 3) (by omega) (by omega)
 unfold point_sumOf.f
 rw [if_pos (by omega), if_pos (by omega), if_pos (by omega), if_pos (by omega)]
 have e : sumAt x 0 = rd x 0 + 256 * rd x 1 + 65536 * rd x 2 + 16777216 * rd x 3 := rfl
 rw [e]
 generalize rd x 0 = a at *
 generalize rd x 1 = b at *
 generalize rd x 2 = c at *
 generalize rd x 3 = d at *
 have e1 : a % 4294967296 = a := by omega
 have e2 : b % 4294967296 * 256 % 4294967296 = b * 2 ^ 8 := by omega
 have e3 : c % 4294967296 * 65536 % 4294967296 = c * 2 ^ 16 := by omega
 have e4 : d % 4294967296 * 16777216 % 4294967296 = d * 2 ^ 24 := by omega
 have e5 := or_u32 (j := 8) (x := a) (y := b) (by omega) (by omega) (by omega) (by omega) (by omega)
 have e6 := or_u32 (j := 16) (x := a + b * 2 ^ 8) (y := c) (by omega) (by omega) (by omega) (by omega) (by omega)
 have e7 := or_u32 (j := 24) (x := a + b * 2 ^ 8 + c * 2 ^ 16) (y := d) (by omega) (by omega) (by omega) (by omega) (by omega)
 rw [e1, e2, e3, e4, e5, e6, e7]
 congr 1
 omega
theorem point_Get_ev {x : List Int} (hb : Bytes x) (hl : x.length ≤ maxLen) : Ev (fun k => point_Get.f k x) ((pointR x).1, (pointR x).2.1, (pointR x).2.2.1, (pointR x).2.2.2.1, (pointR x).2.2.2.2, if (pointR x).2.2.2.2 = 0 then 2 else 0) := by
 have hlm := maxLen_le hl
 have hbad : ∀ l a, Ev (fun k => point_Get.j0 k x l a true) (0, 0, 0, 0, 0, 2) := by
  intro l a
  rw [ev_succ]
  simp [point_Get.j0, ev_ite, ev_some]
 simp only [point_Get.f]
 have h3 : Ev (fun k => varint_All.f k x 3) (allR 3 x) := varint_All_ev hb hl 3 (by omega)
 rw [ev_bind h3]
 simp only [allR]
 by_cases h : (decs 3 x).2.2 = true
 ·obtain ⟨u, v, w, h1, h2, h3, h4⟩ := decs_three hb h
  have hat := decs_at (n := 3) hb
  simp only [pointR, h, if_true, h1, ev_ite, true_and]
  have r0 : rd [u, v, w] 0 = u := rfl
  have r1 : rd [u, v, w] 1 = v := rfl
  have r2 : rd [u, v, w] 2 = w := rfl
  have l3 : (([u, v, w] : List Int).length : Int) = 3 := rfl
  have hm : Ev (fun k => slices_Max_uint64_uint64.f k [u, v, w]) (mx (mx u v) w) := slices_Max_uint64_uint64_ev (x := [u, v, w]) (by simp [maxLen]) (by simp)
  have hmx : (mx (mx u v) w > 2147483647) ↔ (2147483647 < u ∨ 2147483647 < v ∨ 2147483647 < w) := by unfold mx; repeat' split <;> omega
  rw [ev_bind hm]
  simp only [ev_ite, r0, r1, r2, hmx]
  by_cases hbig : 2147483647 < u ∨ 2147483647 < v ∨ 2147483647 < w
  ·have hn : ¬ mayP u v w = true := by rw [mayP_iff]; omega
   rw [if_pos hbig, if_neg (fun hh => hn hh.2)]
   exact hbad _ _
  ·rw [if_neg hbig, w64 (by omega) (by omega)]
   by_cases h4 : (decs 3 x).2.1 + 4 ≤ x.length
   ·have e : decide ((x.length : Int) - ((decs 3 x).2.1 : Int) < 4) = false := by rw [decide_eq_false_iff_not]; omega
    rw [e, ev_succ]
    simp only [point_Get.j0, ev_ite, l3, Int.reduceLT, if_true, Bool.false_eq_true, if_false, r0, r1, r2, Int.toNat_natCast]
    rw [if_pos (by omega), if_pos (by omega), ev_bind_c (point_sumOf_ev (hb.drop _) (by rw [List.length_drop]; omega))]
    rw [ev_bind_c (point_Check_ev _ _ _ _), ev_ite, ev_some, ev_some, w64 (x := u) (by omega) (by omega), w64 (x := v) (by omega) (by omega), w64 (x := w) (by omega) (by omega), w64 (by omega) (by omega)]
    have es : sumAt (x.drop (decs 3 x).2.1) 0 = sumAt x (decs 3 x).2.1 := by
     have er : ∀ (j : Nat) (n : Int), n = ((decs 3 x).2.1 : Int) + j → rd (x.drop (decs 3 x).2.1) (j : Int) = rd x n := by
      intro j n hn
      subst hn
      have : ((decs 3 x).2.1 : Int) + (j : Int) = (((decs 3 x).2.1 + j : Nat) : Int) := by omega
      rw [this, rd_nat, rd_nat]
      simp [List.getD_eq_getElem?_getD]
     unfold sumAt
     rw [← er 0 _ (by omega), ← er 1 _ (by omega), ← er 2 _ (by omega), ← er 3 _ (by omega)]
     rfl
    rw [es]
    by_cases hm : mayP u v w = true
    ·rw [if_pos hm, if_pos (by trivial), if_pos ⟨h4, hm⟩]
     simp only
     rw [if_neg (by omega)]
    ·rw [if_neg hm, if_neg (by omega), if_neg (fun hh => hm hh.2)]
     rfl
   ·have e : decide ((x.length : Int) - ((decs 3 x).2.1 : Int) < 4) = true := by rw [decide_eq_true_eq]; omega
    rw [e, if_neg (fun hh => h4 hh.1)]
    exact hbad _ _
 ·have hf : (decs 3 x).2.2 = false := by simpa using h
  simp only [pointR, hf, ev_ite, Bool.false_eq_true, if_false, false_and]
  rw [if_neg (by omega)]
  exact hbad _ _
theorem bytes_Clone_ev {b : List Int} (h : b.length < 140737488355328) : bytes_Clone.f b = some b := by
 unfold bytes_Clone.f
 rw [if_pos h]
theorem cell_Get_ev {x : List Int} (hb : Bytes x) (hl : x.length ≤ 1000000000000) : Ev (fun k => cell_Get.f k x) (match cellR x with
 | none => (false, ([] : List Int), (0 : Int), (0 : Int), (0 : Int), (0 : Int), (0 : Int), (2 : Int))
 | some (c, m) => (c.1, c.2.1, c.2.2.1, c.2.2.2.1, c.2.2.2.2.1, c.2.2.2.2.2, (m : Int), 0)) := by
 have hl' : x.length ≤ maxLen := by unfold maxLen; omega
 have bad : Ev (fun k => cell_Get.j0 k x true) (false, ([] : List Int), (0 : Int), (0 : Int), (0 : Int), (0 : Int), (0 : Int), (2 : Int)) := by
  rw [ev_succ]
  simp only [cell_Get.j0, ev_ite]
  rw [if_pos (by trivial), ev_some]
 simp only [cell_Get.f, ev_ite, cellR]
 by_cases h0 : x.length = 0
 ·rw [if_pos (by omega), if_pos h0]
  exact bad
 rw [if_neg (by omega), if_pos (by omega), if_neg h0]
 have hr := hb.rd (i := 0) (by omega) (by omega)
 have h4 : (x.drop 1).length = x.length - 1 := List.length_drop
 have hd1 : x.drop (1 : Nat) = x.drop 1 := rfl
 by_cases hgt : rd x 0 > 1
 ·rw [decide_eq_true hgt, if_neg (by omega), if_neg (by omega)]
  exact bad
 rw [decide_eq_false hgt, ev_succ]
 simp only [cell_Get.j0, ev_ite]
 rw [if_neg (by simp), if_pos (by omega)]
 by_cases h1 : rd x 0 = 1
 ·rw [if_pos h1, if_pos (by omega), ev_bind (point_Get_ev (hb.drop 1) (by omega)), ev_ite, if_pos h1]
  have h3 := pointR_le6 (x.drop 1)
  by_cases h2 : (pointR (x.drop 1)).2.2.2.2 = 0
  ·simp only [h2, if_true]
   rw [if_neg (by simp), ev_some]
  ·simp only [h2, if_false]
   rw [if_pos (by trivial), ev_some, w64 (by omega) (by omega)]
   simp only [Prod.mk.injEq, true_and, and_true]
   omega
 ·rw [if_neg h1, if_pos (by omega), ev_bind (varint_Get_ev (hb.drop 1) (by omega)), ev_ite, if_neg h1, if_pos (show rd x 0 = 0 by omega)]
  unfold numR getR
  cases hd : dec 0 (x.drop 1) with
  | none =>
   simp only
   rw [if_neg (by simp), ev_some]
  | some y =>
   obtain ⟨u, n⟩ := y
   obtain ⟨d1, d2, d3, d4⟩ := dec_pos (hb.drop 1) hd
   simp only
   rw [if_pos (by trivial), ev_ite]
   by_cases h5 : u ≤ 32
   ·rw [if_neg (by omega), if_pos h5, ev_ite]
    simp only
    rw [w64 (x := (x.length : Int) - 1) (by omega) (by omega), w64 (x := (x.length : Int) - 1 - n) (by omega) (by omega), w64n (a := (u : Int)) u rfl (by omega), w64n (a := 1 + (n : Int)) (1 + n) (by omega) (by omega), w64n (a := ((1 + n : Nat) : Int) + u) (1 + n + u) (by omega) (by omega)]
    by_cases h6 : 1 + n + u ≤ x.length
    ·rw [if_neg (by omega), if_pos h6, ev_ite, if_pos (by omega), ev_ite, if_pos (by omega), ev_ite, if_pos (by omega)]
     simp only [Int.toNat_natCast]
     rw [ev_bind_c (bytes_Clone_ev (by rw [List.length_drop, List.length_take]; omega)), ev_some]
     have e5 : (x.take (1 + n + u)).drop (1 + n) = (x.drop (1 + n)).take u := by
      rw [List.drop_take, show 1 + n + u - (1 + n) = u by omega]
     rw [e5]
    ·rw [if_pos (by omega), if_neg h6, ev_some]
   ·rw [if_pos (by omega), if_neg h5, ev_some]
theorem entry_Get_number_ev {x : List Int} (hb : Bytes x) (hl : x.length ≤ 1000000000) (most : Nat) (mi : Int) (hmi : mi = (most : Int)) (hm : most ≤ 2147483647) : Ev (fun k => entry_Get.t_number.f k x false mi) (match numR most x with
 | none => ((0 : Int), x, true)
 | some (u, n) => ((u : Int), x.drop n, false)) := by
 subst hmi
 simp only [entry_Get.t_number.f]
 rw [ev_bind (varint_Get_ev hb (by unfold maxLen; omega))]
 simp only [ev_ite]
 rw [if_neg (by simp), wu64 (by omega) (by omega)]
 unfold numR getR
 cases hd : dec 0 x with
 | none =>
  simp only
  rw [if_neg (by omega), ev_some]
 | some y =>
  obtain ⟨u, n⟩ := y
  obtain ⟨d1, d2, d3, d4⟩ := dec_pos hb hd
  simp only
  rw [if_pos (by trivial)]
  by_cases h : u ≤ most
  ·rw [if_neg (by omega), if_pos h, if_pos (by omega), ev_some, w64n (a := (u : Int)) u rfl (by omega), Int.toNat_natCast]
  ·rw [if_pos (by omega), if_neg h, ev_some]
theorem entry_Get_number_bad {x : List Int} (hb : Bytes x) (hl : x.length ≤ 1000000000) (mi : Int) : Ev (fun k => entry_Get.t_number.f k x true mi) ((0 : Int), x, true) := by
 simp only [entry_Get.t_number.f]
 rw [ev_bind (varint_Get_ev hb (by unfold maxLen; omega))]
 simp only [ev_ite]
 rw [if_pos (by trivial), ev_some]
theorem entry_Get_bytes_bad (x : List Int) (n : Int) : entry_Get.t_bytes.f x true n = some ([], x, true) := by
 unfold entry_Get.t_bytes.f
 rw [if_pos rfl]
theorem entry_Get_cell_ev {x : List Int} (hb : Bytes x) (hl : x.length ≤ 1000000000) : Ev (fun k => entry_Get.t_cell.f k x false) (match cellR x with
 | none => (false, ([] : List Int), (0 : Int), (0 : Int), (0 : Int), (0 : Int), x, true)
 | some (c, m) => (c.1, c.2.1, c.2.2.1, c.2.2.2.1, c.2.2.2.2.1, c.2.2.2.2.2, x.drop m, false)) := by
 simp only [entry_Get.t_cell.f]
 rw [ev_bind (cell_Get_ev hb (by omega))]
 simp only [ev_ite]
 rw [if_neg (by simp)]
 cases hc : cellR x with
 | none =>
  simp only
  rw [if_neg (by omega), ev_some]
 | some y =>
  obtain ⟨c, m⟩ := y
  obtain ⟨c1, c2, _⟩ := cellR_le hb hc
  simp only
  rw [if_pos (by trivial), if_pos (by omega), ev_some, Int.toNat_natCast]
theorem entry_Get_cell_bad {x : List Int} (hb : Bytes x) (hl : x.length ≤ 1000000000) : Ev (fun k => entry_Get.t_cell.f k x true) (false, ([] : List Int), (0 : Int), (0 : Int), (0 : Int), (0 : Int), x, true) := by
 simp only [entry_Get.t_cell.f]
 rw [ev_bind (cell_Get_ev hb (by omega))]
 simp only [ev_ite]
 rw [if_pos (by trivial), ev_some]
theorem entry_Get_tail_bad {x : List Int} (hb : Bytes x) (hl : x.length ≤ 1000000000) (i t kd : Int) (key : ByteArray) : ∃ r : S52 × List Int × Bool, Ev (fun k => if kd = 2 then some ((⟨i, t, kd, key, ⟨false, [], ⟨0, 0, 0, 0⟩⟩⟩ : S52), x, true) else
 (entry_Get.t_cell.f k x true).bind fun (g1, g2, g3, g4, g5, g6, l5, b5) => some ((⟨i, t, kd, key, ⟨g1, g2, ⟨g3, g4, g5, g6⟩⟩⟩ : S52), l5, b5)) r ∧ r.2.2 = true := by
 simp only [ev_ite]
 by_cases h : kd = 2
 ·exact ⟨_, by rw [if_pos h, ev_some], rfl⟩
 ·exact ⟨_, by rw [if_neg h, ev_bind (entry_Get_cell_bad hb hl), ev_some], rfl⟩
theorem entry_Get_entry_ev {x : List Int} (hb : Bytes x) (hl : x.length ≤ 1000000000) (i : Int) : ∃ r, Ev (fun k => entry_Get.t_entry.f k x false i) r ∧ (match entR i x with
 | none => r.2.2 = true
 | some (e, m) => r = (mkN e, x.drop m, false)) := by
 simp only [entry_Get.t_entry.f]
 unfold entR
 have h1 := entry_Get_number_ev hb hl 2147483647 2147483647 rfl (by omega)
 cases hd : numR 2147483647 x with
 | none =>
  rw [hd] at h1
  simp only at h1
  obtain ⟨r, hr, hr2⟩ := entry_Get_tail_bad hb hl i 0 0 (strOfNums [])
  refine ⟨r, ?_, hr2⟩
  rw [ev_bind h1]
  simp only
  rw [ev_bind_c (entry_Get_bytes_bad _ _)]
  simp only
  rw [ev_bind (entry_Get_number_bad hb hl _)]
  simp only
  rw [ev_bind_c (entry_Get_bytes_bad _ _)]
  simp only [List.length_nil]
  rw [if_neg (by omega)]
  exact hr
 | some y =>
  obtain ⟨t, n⟩ := y
  rw [hd] at h1
  simp only at h1
  obtain ⟨a1, a2, a3, a4, _⟩ := numR_le hb hd
  have hl1 : (x.drop n).length = x.length - n := List.length_drop
  have hb1 := hb.drop n
  by_cases h5 : n = x.length
  ·simp only [if_pos h5]
   obtain ⟨r, hr, hr2⟩ := entry_Get_tail_bad hb1 (by omega) i t 0 (strOfNums [])
   refine ⟨r, ?_, hr2⟩
   have e1 : entry_Get.t_bytes.f (x.drop n) false 1 = some ([], x.drop n, true) := by
    unfold entry_Get.t_bytes.f
    rw [if_neg (by simp), if_pos (by omega)]
   rw [ev_bind h1]
   simp only
   rw [ev_bind_c e1]
   simp only
   rw [ev_bind (entry_Get_number_bad hb1 (by omega) _)]
   simp only
   rw [ev_bind_c (entry_Get_bytes_bad _ _)]
   simp only [List.length_nil]
   rw [if_neg (by omega)]
   exact hr
  simp only [if_neg h5]
  have e1 : entry_Get.t_bytes.f (x.drop n) false 1 = some ([rd x (n : Int)], x.drop (n + 1), false) := by
   unfold entry_Get.t_bytes.f
   rw [if_neg (by simp), if_neg (by omega), if_pos (by omega), drop_eq (show n < x.length by omega)]
   rfl
  have hk := hb.rd (i := (n : Int)) (by omega) (by omega)
  have hkd : (if ([rd x (n : Int)] : List Int).length = 1 then wrap64 (rd [rd x (n : Int)] 0) else 0) = rd x (n : Int) := by
   exact (if_pos (show ([rd x (n : Int)] : List Int).length = 1 from rfl)).trans (w64 (x := rd x (n : Int)) (by omega) (by omega))
  have hl2 : (x.drop (n + 1)).length = x.length - (n + 1) := List.length_drop
  have hb2 := hb.drop (n + 1)
  have h2 := entry_Get_number_ev hb2 (by omega) 64 64 rfl (by omega)
  cases hm : numR 64 (x.drop (n + 1)) with
  | none =>
   rw [hm] at h2
   simp only at h2
   obtain ⟨r, hr, hr2⟩ := entry_Get_tail_bad hb2 (by omega) i t (rd x (n : Int)) (strOfNums [])
   refine ⟨r, ?_, hr2⟩
   rw [ev_bind h1]
   simp only
   rw [ev_bind_c e1]
   simp only
   rw [ev_bind h2]
   simp only
   rw [ev_bind_c (entry_Get_bytes_bad _ _)]
   simp only
   rw [hkd]
   exact hr
  | some z =>
   obtain ⟨u, k⟩ := z
   rw [hm] at h2
   simp only at h2
   obtain ⟨g1, g2, g3, g4, _⟩ := numR_le hb2 hm
   rw [List.drop_drop] at h2
   have hl3 : (x.drop (n + 1 + k)).length = x.length - (n + 1 + k) := List.length_drop
   have hb3 := hb.drop (n + 1 + k)
   by_cases h6 : n + 1 + k + u ≤ x.length
   ·simp only [if_pos h6]
    have e2 : entry_Get.t_bytes.f (x.drop (n + 1 + k)) false (u : Int) = some ((x.drop (n + 1 + k)).take u, x.drop (n + 1 + k + u), false) := by
     unfold entry_Get.t_bytes.f
     rw [if_neg (by simp), if_neg (by omega), if_pos (by omega), Int.toNat_natCast, List.drop_drop]
    by_cases h7 : rd x (n : Int) = 2
    ·simp only [if_pos h7]
     refine ⟨_, ?_, rfl⟩
     rw [ev_bind h1]
     simp only
     rw [ev_bind_c e1]
     simp only
     rw [ev_bind h2]
     simp only
     rw [ev_bind_c e2]
     simp only
     rw [hkd]
     simp only [ev_ite]
     rw [if_pos h7, ev_some]
     rfl
    ·simp only [if_neg h7]
     have hl4 : (x.drop (n + 1 + k + u)).length = x.length - (n + 1 + k + u) := List.length_drop
     have hc := entry_Get_cell_ev (hb.drop (n + 1 + k + u)) (by omega)
     have step : ∀ v r, Ev (fun k_ => entry_Get.t_cell.f k_ (x.drop (n + 1 + k + u)) false) v → r = ((⟨i, t, rd x (n : Int), strOfNums ((x.drop (n + 1 + k)).take u), ⟨v.1, v.2.1, ⟨v.2.2.1, v.2.2.2.1, v.2.2.2.2.1, v.2.2.2.2.2.1⟩⟩⟩ : S52), v.2.2.2.2.2.2.1, v.2.2.2.2.2.2.2) → Ev (fun k => (entry_Get.t_number.f k x false 2147483647).bind fun x_1 => (entry_Get.t_bytes.f x_1.2.1 x_1.2.2 1).bind fun x_2 => (entry_Get.t_number.f k x_2.2.1 x_2.2.2 64).bind fun x_3 => (entry_Get.t_bytes.f x_3.2.1 x_3.2.2 x_3.1).bind fun x_4 => if (if x_2.1.length = 1 then wrap64 (rd x_2.1 0) else 0) = 2 then some ((⟨i, x_1.1, (if x_2.1.length = 1 then wrap64 (rd x_2.1 0) else 0), strOfNums x_4.1, ⟨false, [], ⟨0, 0, 0, 0⟩⟩⟩ : S52), x_4.2.1, x_4.2.2) else (entry_Get.t_cell.f k x_4.2.1 x_4.2.2).bind fun x_5 => some ((⟨i, x_1.1, (if x_2.1.length = 1 then wrap64 (rd x_2.1 0) else 0), strOfNums x_4.1, ⟨x_5.1, x_5.2.1, ⟨x_5.2.2.1, x_5.2.2.2.1, x_5.2.2.2.2.1, x_5.2.2.2.2.2.1⟩⟩⟩ : S52), x_5.2.2.2.2.2.2.1, x_5.2.2.2.2.2.2.2)) r := by
      intro v r hv hr
      rw [ev_bind h1, ev_bind_c e1, ev_bind h2, ev_bind_c e2]
      simp only
      rw [hkd]
      simp only [ev_ite]
      rw [if_neg h7, ev_bind hv, ev_some]
      exact hr.symm
     cases hcc : cellR (x.drop (n + 1 + k + u)) with
     | none =>
      rw [hcc] at hc
      exact ⟨_, step _ _ hc rfl, rfl⟩
     | some c =>
      obtain ⟨c, m⟩ := c
      rw [hcc] at hc
      simp only at hc
      rw [List.drop_drop] at hc
      exact ⟨_, step _ _ hc rfl, rfl⟩
   ·simp only [if_neg h6]
    have e2 : entry_Get.t_bytes.f (x.drop (n + 1 + k)) false (u : Int) = some ([], x.drop (n + 1 + k), true) := by
     unfold entry_Get.t_bytes.f
     rw [if_neg (by simp), if_pos (by omega)]
    obtain ⟨r, hr, hr2⟩ := entry_Get_tail_bad hb3 (by omega) i t (rd x (n : Int)) (strOfNums [])
    refine ⟨r, ?_, hr2⟩
    rw [ev_bind h1]
    simp only
    rw [ev_bind_c e1]
    simp only
    rw [ev_bind h2]
    simp only
    rw [ev_bind_c e2]
    simp only
    rw [hkd]
    exact hr
theorem entry_Get_l0_ev {n f : Nat} (hn : n ≤ 16) (hf : f ≤ 2147483647) : ∀ (d j : Nat) (x : List Int) (acc : List S52), Bytes x → x.length ≤ 1000000000 → j + d = n → acc.length = j → (∀ e ∈ acc, goodN e) →
 Ev (fun k => entry_Get.l0 k (n : Int) (f : Int) x false acc (j : Int)) (match entsR d ((f : Int) + j) x with
  | none => ([], 2)
  | some (l, r) => if r = [] ∧ batchB (prsN acc ++ l) = true then (acc ++ l.map mkN, 0) else ([], 2)) := by
 intro d
 induction d with
 | zero =>
  intro j x acc hb hl hj hacc hg
  rw [ev_succ, entsR]
  simp only [entry_Get.l0, ev_ite]
  rw [if_neg (by omega), if_neg (by simp)]
  by_cases h : x = []
  ·subst h
   rw [if_neg (by simp), ev_bind (entry_Batch_ev acc (by omega) hg), ev_ite, List.append_nil, List.map_nil, List.append_nil]
   by_cases hB : batchB (prsN acc) = true
   ·rw [if_pos hB, if_pos (by trivial), if_pos ⟨rfl, hB⟩, ev_some]
   ·rw [if_neg hB, if_neg (by omega), if_neg (fun h_ => hB h_.2), ev_some]
  ·have := List.length_pos_iff.2 h
   rw [if_pos (by omega), if_neg (fun h_ => h h_.1), ev_some]
 | succ d ih =>
  intro j x acc hb hl hj hacc hg
  obtain ⟨r, hr, hr2⟩ := entry_Get_entry_ev hb hl ((f : Int) + j)
  rw [ev_succ, entsR]
  simp only [entry_Get.l0, ev_ite]
  rw [if_pos (by omega), if_neg (by simp), w64 (x := (f : Int) + j) (by omega) (by omega), ev_bind hr]
  cases he : entR ((f : Int) + j) x with
  | none =>
   rw [he] at hr2
   obtain ⟨r1, r2, r3⟩ := r
   simp only at hr2
   subst hr2
   simp only [ev_ite]
   rw [if_pos (by omega), ev_succ]
   simp only [entry_Get.l0, ev_ite]
   split
   ·rw [if_pos (by trivial), ev_some]
   ·rw [if_pos (by trivial), ev_some]
  | some y =>
   obtain ⟨e, m⟩ := y
   rw [he] at hr2
   simp only at hr2
   subst hr2
   obtain ⟨h1, h2, _⟩ := entR_le hb he
   have hge := entR_good hb he (by omega)
   simp only [ev_ite]
   rw [if_pos (by omega), w64n (a := (j : Int) + 1) (j + 1) (by omega) (by omega)]
   have := ih (j + 1) (x.drop m) (acc ++ [mkN e]) (hb.drop m) (by rw [List.length_drop]; omega) (by omega) (by rw [List.length_append, hacc]; rfl) (by
    intro z hz
    rcases List.mem_append.1 hz with hz | hz
    ·exact hg z hz
    ·rw [List.mem_singleton.1 hz]
     exact hge)
   refine ev_eq this ?_
   rw [show (f : Int) + ((j + 1 : Nat) : Int) = (f : Int) + j + 1 by omega]
   cases entsR d ((f : Int) + j + 1) (x.drop m) with
   | none => rfl
   | some z =>
    obtain ⟨l, r⟩ := z
    simp only
    have e1 : prsN (acc ++ [mkN e]) ++ l = prsN acc ++ (e :: l) := by
     unfold prsN
     rw [List.map_append, List.append_assoc]
     rfl
    have e2 : acc ++ [mkN e] ++ l.map mkN = acc ++ (e :: l).map mkN := by
     rw [List.append_assoc]
     rfl
    rw [e1, e2]
theorem batchB_ne {l : List Ent} (h : batchB l = true) : l ≠ [] := by
 intro h_
 subst h_
 have := (batchB_iff.1 h).1
 simp only [List.length_nil] at this
 omega
theorem entry_Get_ev {x : List Int} (hb : Bytes x) (hl : x.length ≤ 1000000000) : Ev (fun k => entry_Get.f k x) ((getB x).map mkN, if getB x = [] then 2 else 0) := by
 have bad : ∀ (n f : Int) (y : List Int), Ev (fun k => entry_Get.l0 k n f y true [] 0) (([] : List S52), (2 : Int)) := by
  intro n f y
  rw [ev_succ]
  simp only [entry_Get.l0, ev_ite]
  split
  ·rw [if_pos (by trivial), ev_some]
  ·rw [if_pos (by trivial), ev_some]
 simp only [entry_Get.f]
 have h1 := entry_Get_number_ev hb hl 16 16 rfl (by omega)
 generalize hL : getB x = L
 unfold getB headR at hL
 cases hn : numR 16 x with
 | none =>
  rw [hn] at h1 hL
  simp only at h1 hL
  subst hL
  rw [ev_bind h1]
  simp only
  rw [ev_bind (entry_Get_number_bad hb hl _)]
  exact bad _ _ _
 | some y =>
  obtain ⟨n, k0⟩ := y
  rw [hn] at h1 hL
  simp only at h1 hL
  obtain ⟨a1, a2, a3, a4, _⟩ := numR_le hb hn
  have hlen : (x.drop k0).length = x.length - k0 := List.length_drop
  have h2 := entry_Get_number_ev (hb.drop k0) (by omega) 2147483647 2147483647 rfl (by omega)
  rw [ev_bind h1]
  simp only
  cases h3 : numR 2147483647 (x.drop k0) with
  | none =>
   rw [h3] at h2 hL
   simp only at h2 hL
   subst hL
   rw [ev_bind h2]
   exact bad _ _ _
  | some z =>
   obtain ⟨f, m⟩ := z
   rw [h3] at h2 hL
   simp only at h2 hL
   rw [List.drop_drop] at h2
   obtain ⟨b1, b2, b3, b4, _⟩ := numR_le (hb.drop k0) h3
   rw [ev_bind h2]
   simp only
   refine ev_eq (entry_Get_l0_ev a1 b1 n 0 (x.drop (k0 + m)) [] (hb.drop _) (by rw [List.length_drop]; omega) (by omega) rfl (by simp)) ?_
   rw [show (f : Int) + ((0 : Nat) : Int) = (f : Int) by omega]
   subst hL
   generalize entsR n (f : Int) (x.drop (k0 + m)) = E
   cases E with
   | none => rfl
   | some z =>
    obtain ⟨l, r⟩ := z
    simp only
    rw [show prsN ([] : List S52) ++ l = l from rfl]
    by_cases hc : r = [] ∧ batchB l = true
    ·simp only [if_pos hc]
     rw [if_neg (batchB_ne hc.2)]
     rfl
    ·simp only [if_neg hc]
     rfl
theorem hard_Get_ev {x : List Int} (hb : Bytes x) (hl : x.length ≤ maxLen) : Ev (fun k => hard_Get.f k x) (hardR x) := by
 simp only [hard_Get.f]
 have h3 : Ev (fun k => varint_All.f k x 3) (allR 3 x) := varint_All_ev hb hl 3 (by omega)
 rw [ev_bind h3]
 simp only [allR, hardR]
 by_cases h : (decs 3 x).2.2 = true
 ·obtain ⟨u, v, w, h1, h2, h3, h4⟩ := decs_three hb h
  have l3 : (([u, v, w] : List Int).length : Int) = 3 := rfl
  simp only [h, if_true, h1, ev_ite, true_and, l3, Int.reduceLT]
  have r0 : rd [u, v, w] 0 = u := rfl
  have r1 : rd [u, v, w] 1 = v := rfl
  have r2 : rd [u, v, w] 2 = w := rfl
  have hj : ∀ b : Bool, Ev (fun k => hard_Get.j0 k [u, v, w] b) (if b = true then (0, 0, 0, 2) else (if mayH (wrap64 u) (wrap64 v) (wrap64 w) = true then (wrap64 u, wrap64 v, wrap64 w, 0) else (0, 0, 0, 2))) := by
   intro b
   rw [ev_succ]
   simp only [hard_Get.j0, ev_ite, ev_some, l3, Int.reduceLT, if_true, r0, r1, r2, hard_Check_ev, Option.bind_some]
   cases b
   ·simp only [Bool.false_eq_true, if_false]
    cases mayH (wrap64 u) (wrap64 v) (wrap64 w) <;> simp
   ·simp
  simp only [r0, r1, r2]
  by_cases hn : (decs 3 x).2.1 = x.length
  ·rw [if_pos (by omega)]
   refine ev_eq (hj _) ?_
   have hmx : (mx (mx u v) w > 2147483647) ↔ (2147483647 < u ∨ 2147483647 < v ∨ 2147483647 < w) := by unfold mx; repeat' split <;> omega
   simp only [decide_eq_true_eq, hmx]
   by_cases hbig : 2147483647 < u ∨ 2147483647 < v ∨ 2147483647 < w
   ·rw [if_pos hbig, if_neg]
    rintro ⟨_, hm⟩
    rw [mayH_iff] at hm
    omega
   ·rw [if_neg hbig, w64 (by omega) (by omega), w64 (by omega) (by omega), w64 (by omega) (by omega)]
    simp only [hn, true_and]
  ·rw [if_neg (by omega), if_neg (fun hh => hn hh.1)]
   exact hj true
 ·have hf : (decs 3 x).2.2 = false := by simpa using h
  simp only [hf, ev_ite, Bool.false_eq_true, if_false, false_and]
  rw [if_neg (by omega), ev_succ]
  simp [hard_Get.j0, ev_ite, ev_some]
def walR (a : Int) (x : List Int) : Int × List S52 × Int × Int × Int × Int :=
 if a = 11 then (if getB x = [] then (0, [], 0, 0, 0, 0) else (1, (getB x).map mkN, 0, 0, 0, 0))
 else if a = 12 then (if (hardR x).2.2.2 = 0 then (2, [], (hardR x).1, (hardR x).2.1, (hardR x).2.2.1, 0) else (0, [], 0, 0, 0, 0))
 else if a = 13 then (if (getR x).2.2 = 0 ∧ (getR x).2.1 = x.length ∧ 1 ≤ (getR x).1 ∧ (getR x).1 ≤ 2147483647 then (3, [], 0, 0, 0, (getR x).1) else (0, [], 0, 0, 0, 0))
 else (0, [], 0, 0, 0, 0)
theorem getR_cases {x : List Int} (hb : Bytes x) : (getR x = (0, 0, 2)) ∨ ∃ u n : Nat, getR x = ((u : Int), (n : Int), 0) ∧ 0 < n ∧ u < 18446744073709551616 := by
 unfold getR
 cases hd : dec 0 x with
 | none => exact .inl rfl
 | some y =>
  obtain ⟨u, n⟩ := y
  obtain ⟨d1, d2, d3, d4⟩ := dec_pos hb hd
  exact .inr ⟨u, n, rfl, by omega, by omega⟩
theorem wal_Get_ev (a : Int) {x : List Int} (hb : Bytes x) (hl : x.length ≤ 1000000000) : Ev (fun k => wal_Get.f k a x) ((walR a x).1, (walR a x).2.1, (walR a x).2.2.1, (walR a x).2.2.2.1, (walR a x).2.2.2.2.1, (walR a x).2.2.2.2.2, if (walR a x).1 = 0 then 2 else 0) := by
 have hml : x.length ≤ maxLen := by unfold maxLen; omega
 unfold walR
 simp only [wal_Get.f, ev_ite]
 by_cases h1 : a = 11
 ·subst h1
  have hw : wrap64 (11 - 10) = 1 := by rw [w64 (by omega) (by omega)]; rfl
  rw [if_pos rfl, if_pos rfl, ev_bind (entry_Get_ev hb hl)]
  simp only [ev_ite, hw]
  by_cases h : getB x = []
  ·simp only [h, if_true]
   rw [if_neg (by omega), ev_some]
  ·obtain ⟨g1, g2⟩ := getB_good hb
   simp only [h, if_false]
   rw [if_pos (by trivial), ev_bind (wal_Check_put _ (by rw [List.length_map]; omega) (by
    intro e he
    obtain ⟨y, hy, rfl⟩ := List.mem_map.1 he
    exact g1 y hy)), prsN_mkN, if_pos (getB_batch h), ev_ite, if_pos (by trivial), ev_some]
   simp
 ·rw [if_neg h1, if_neg h1]
  by_cases h2 : a = 12
  ·subst h2
   have hw : wrap64 (12 - 10) = 2 := by rw [w64 (by omega) (by omega)]; rfl
   rw [if_pos rfl, if_pos rfl, ev_bind (hard_Get_ev hb hml)]
   simp only [ev_ite, hw]
   rcases hardR_may x with ⟨h, hm⟩ | h
   ·rw [if_pos h, if_pos h, ev_bind (wal_Check_hard _ _ _), if_pos hm, ev_ite, if_pos (by trivial), ev_some]
    simp
   ·simp only [h]
    rw [if_neg (by omega), if_neg (by omega), ev_some]
    simp
  ·rw [if_neg h2, if_neg h2]
   by_cases h3 : a = 13
   ·subst h3
    have hw : wrap64 (13 - 10) = 3 := by rw [w64 (by omega) (by omega)]; rfl
    rw [if_pos rfl, if_pos rfl, ev_bind (varint_Get_ev hb hml)]
    simp only [ev_ite, hw]
    have hj : ∀ (u : Int) (c : Bool), Ev (fun k => wal_Get.j0 k 2 u c 3 0 0 0 0) (if c = true ∧ 1 ≤ wrap64 u ∧ wrap64 u ≤ 2147483647 then (3, [], 0, 0, 0, wrap64 u, 0) else (0, [], 0, 0, 0, 0, 2)) := by
     intro u c
     rw [ev_succ]
     simp only [wal_Get.j0, ev_ite]
     cases c
     ·rw [if_neg (by simp), if_neg (by omega), if_neg (by simp), ev_some]
     ·rw [if_pos rfl, ev_bind (wal_Check_apply _), ev_ite]
      by_cases h : 1 ≤ wrap64 u ∧ wrap64 u ≤ 2147483647
      ·rw [if_pos h, if_pos (by trivial), if_pos ⟨rfl, h⟩, ev_some]
      ·rw [if_neg h, if_neg (by omega), if_neg (fun h_ => h h_.2), ev_some]
    rcases getR_cases hb with h | ⟨u, n, h, hn, hu⟩
    ·simp only [h]
     rw [if_neg (by omega), if_neg (by omega)]
     simpa using hj 0 false
    ·simp only [h]
     rw [if_pos (by trivial)]
     by_cases hl : (n : Int) = x.length
     ·rw [if_pos hl]
      refine ev_eq (hj _ _) ?_
      by_cases hc : 1 ≤ (u : Int) ∧ (u : Int) ≤ 2147483647
      ·rw [w64n u rfl (by omega), if_pos ⟨by simpa using hc.2, hc⟩, if_pos ⟨trivial, hl, hc⟩]
       simp
      ·rw [if_neg (c := _ ∧ _ ∧ _ ∧ _) (fun h_ => hc h_.2.2), if_neg]
       ·simp
       ·rintro ⟨h1, h2, h3⟩
        have h1 : (u : Int) ≤ 2147483647 := by simpa using h1
        rw [w64n u rfl (by omega)] at h2
        exact hc ⟨h2, h1⟩
     ·rw [if_neg hl, if_neg (fun h_ => hl h_.2.1)]
      simpa using hj u false
   ·rw [if_neg h3, if_neg h3, ev_some]
    simp
theorem garnerref02_same_l0_ev (x y : List Int) (hxy : x.length = y.length) (hl : x.length ≤ maxLen) : ∀ (d i : Nat), x.length - i = d → i ≤ x.length → Ev (fun k => garnerref02_same.l0 k x y (i : Int)) (decide (x.drop i = y.drop i)) := by
 have hlm := maxLen_le hl
 intro d
 induction d with
 | zero =>
  intro i hd hi
  rw [ev_succ]
  simp only [garnerref02_same.l0, ev_ite]
  rw [if_neg (by omega), ev_some, List.drop_eq_nil_of_le (by omega), List.drop_eq_nil_of_le (by omega)]
  simp
 | succ d ih =>
  intro i hd hi
  rw [ev_succ]
  simp only [garnerref02_same.l0, ev_ite]
  rw [if_pos (by omega), if_pos (by omega), if_pos (by omega), w64 (by omega) (by omega), drop_eq (xs := x) (by omega), drop_eq (xs := y) (by omega)]
  by_cases h : rd x (i : Int) = rd y (i : Int)
  ·rw [if_pos h, h]
   refine ev_eq (ih (i + 1) (by omega) (by omega)) ?_
   simp
  ·rw [if_neg h, ev_some]
   simp [h]
theorem garnerref02_same_ev {x y : List Int} (hl : x.length ≤ maxLen) : Ev (fun k => garnerref02_same.f k x y) (decide (x = y)) := by
 simp only [garnerref02_same.f, ev_ite]
 by_cases h : x.length = y.length
 ·rw [if_pos (by omega)]
  exact garnerref02_same_l0_ev x y h hl (x.length - 0) 0 rfl (by omega)
 ·rw [if_neg (by omega), ev_some]
  symm
  simp only [decide_eq_false_iff_not]
  rintro rfl
  exact h rfl
theorem garnerref02_Bytes_ev {x y : List Int} (hl : x.length ≤ maxLen) : Ev (fun k => garnerref02_Bytes.f k x y) (decide (x = y)) := by
 simp only [garnerref02_Bytes.f]
 rw [ev_bind (garnerref02_same_ev hl), ev_some]
theorem garnerref05_Same_plain {far : Bool} {b : List Int} (hb : b.length ≤ maxLen) (s a n u : Int) : Ev (fun k => garnerref05_Same.f k far b s a n u false ([] : List Int) 0 0 0 0) (plainC far b s a n u) := by
 simp only [garnerref05_Same.f, ev_ite]
 unfold plainC
 rw [zero_isr]
 cases far with
 | true =>
  rw [if_neg (by simp), ev_some]
  rfl
 | false =>
  rw [if_pos (by simp)]
  by_cases h : zeroP s a n u = true
  ·rw [if_pos h, ev_bind (garnerref02_Bytes_ev hb), ev_some, h]
   simp
  ·rw [if_neg h, ev_some]
   rw [Bool.not_eq_true] at h
   rw [h]
   simp
theorem garnerlaw06_Light_ev (l : List S52) (hl : l.length ≤ 140737488351232) : Ev (fun k => garnerlaw06_Light.f k l) (lightN (prsN l)) := by
 have main : ∀ (d i : Nat), l.length - i = d → i ≤ l.length → i ≤ 41 → lightN (prsN l) = (decide (l.length ≤ 40) && (prsN (l.drop i)).all fun e => decide (e.key.size ≤ 200 ∧ e.b.length ≤ 200)) → Ev (fun k => garnerlaw06_Light.l0 k l (i : Int)) (lightN (prsN l)) := by
  intro d
  induction d with
  | zero =>
   intro i hd hi h41 he
   rw [List.drop_eq_nil_of_le (by omega)] at he
   rw [he, ev_succ]
   simp only [garnerlaw06_Light.l0, ev_ite]
   rw [if_neg (by omega), ev_succ]
   simp only [garnerlaw06_Light.j1, ev_ite]
   rw [if_neg (by simp), ev_some]
   have e : (prsN []).all (fun e => decide (e.key.size ≤ 200 ∧ e.b.length ≤ 200)) = true := rfl
   rw [e, Bool.and_true, decide_eq_decide]
   omega
  | succ d ih =>
   intro i hd hi h41 he
   have hil : i < l.length := by omega
   rw [dropN_eq hil] at he
   have hw : wrap64 ((i : Int) + 1) = ((i + 1 : Nat) : Int) := w64 (by omega) (by omega)
   have ih' := ih (i + 1) (by omega) (by omega)
   rw [ev_succ]
   simp only [garnerlaw06_Light.l0, ev_ite]
   rw [if_pos (by omega), ev_succ]
   simp only [garnerlaw06_Light.j1, ev_ite, hw]
   generalize rd_T52 l (i : Int) = f at he ⊢
   have e1 : (prsN (f :: l.drop (i + 1))).all (fun e => decide (e.key.size ≤ 200 ∧ e.b.length ≤ 200)) = (decide (f.f3.size ≤ 200 ∧ f.f4.f1.length ≤ 200) && (prsN (l.drop (i + 1))).all fun e => decide (e.key.size ≤ 200 ∧ e.b.length ≤ 200)) := rfl
   rw [e1] at he
   by_cases h1 : i ≤ 40
   ·rw [if_pos (by rw [decide_eq_true_eq]; omega), if_pos (by omega), if_pos (by omega)]
    by_cases h2 : f.f3.size > 200
    ·rw [if_pos (by omega), ev_some, he, decide_eq_false (show ¬ (f.f3.size ≤ 200 ∧ f.f4.f1.length ≤ 200) by omega), Bool.false_and, Bool.and_false]
    ·rw [if_neg (by omega)]
     by_cases h3 : f.f4.f1.length > 200
     ·rw [if_pos (by omega), ev_some, he, decide_eq_false (show ¬ (f.f3.size ≤ 200 ∧ f.f4.f1.length ≤ 200) by omega), Bool.false_and, Bool.and_false]
     ·rw [if_neg (by omega)]
      refine ih' (by omega) ?_
      rw [he, decide_eq_true (show f.f3.size ≤ 200 ∧ f.f4.f1.length ≤ 200 by omega), Bool.true_and]
   ·rw [if_neg (by rw [decide_eq_true_eq]; omega), ev_some, he, decide_eq_false (show ¬ l.length ≤ 40 by omega), Bool.false_and, decide_eq_false (by omega)]
 refine main (l.length - 0) 0 rfl (by omega) (by omega) ?_
 unfold lightN
 rw [prsN_len, List.drop_zero]
theorem varint_Put_l1_ev (l : List Int) (hl : l.length ≤ 10000000000000) (j : Nat) : ∀ (u : Nat) (b : List Int), u < 18446744073709551616 → b.length + (one u).length ≤ 10 * (j + 1) → j < l.length → ∀ r : List Int,
 Ev (fun k => varint_Put.l0 k (b ++ one u) l (l.length : Int) ((j + 1 : Nat) : Int)) r → Ev (fun k => varint_Put.l1 k b (u : Int) l (l.length : Int) (j : Int)) r := by
 intro u
 induction u using Nat.strongRecOn with
 | _ u ih =>
  intro b hu hlen hj r hr
  rw [ev_succ]
  simp only [varint_Put.l1, ev_ite]
  by_cases h : u < 128
  ·rw [if_neg (by omega), if_pos (by omega), w64 (by omega) (by omega)]
   rw [one_lt h] at hr
   have e : (u : Int) % 256 = u := by omega
   rw [e]
   exact hr
  ·have e : Go.bits .or .u8 ((u : Int) % 256) 128 = ((u % 128 + 128 : Nat) : Int) := by
    rw [or_u8 (by omega) (by omega)]
    omega
   have e2 : (u : Int) / 128 = ((u / 128 : Nat) : Int) := by omega
   rw [if_pos (by omega), if_pos (by omega), e, e2]
   rw [one_ge (u := u) (by omega), List.length_cons] at hlen
   refine ih (u / 128) (by omega) _ (by omega) (by rw [List.length_append, List.length_singleton]; omega) hj r ?_
   rw [one_ge (u := u) (by omega)] at hr
   rw [List.append_assoc, List.singleton_append]
   exact hr
theorem varint_Put_l0_ev (l : List Int) (hl : l.length ≤ 10000000000000) (hu : ∀ u ∈ l, 0 ≤ u ∧ u < 18446744073709551616) : ∀ (d j : Nat) (b : List Int), l.length - j = d → j ≤ l.length → b.length ≤ 10 * j →
 Ev (fun k => varint_Put.l0 k b l (l.length : Int) (j : Int)) (b ++ puts (l.drop j)) := by
 intro d
 induction d with
 | zero =>
  intro j b hd hj hb
  rw [ev_succ]
  simp only [varint_Put.l0, ev_ite]
  rw [if_neg (by omega), ev_some, List.drop_eq_nil_of_le (by omega), puts_nil, List.append_nil]
 | succ d ih =>
  intro j b hd hj hb
  rw [ev_succ]
  simp only [varint_Put.l0, ev_ite]
  rw [if_pos (by omega), if_pos (by omega), if_pos (by omega)]
  have h := hu _ (rd_mem (xs := l) (i := (j : Int)) (by omega) (by omega))
  have e : rd l (j : Int) = ((rd l (j : Int)).toNat : Int) := by omega
  have h10 := one_len10 (u := (rd l (j : Int)).toNat) (by omega)
  rw [e]
  refine varint_Put_l1_ev l hl j _ b (by omega) (by omega) (by omega) _ ?_
  have := ih (j + 1) (b ++ one (rd l (j : Int)).toNat) (by omega) (by omega) (by rw [List.length_append]; omega)
  refine ev_eq this ?_
  rw [drop_eq (xs := l) (i := j) (by omega), puts_cons, List.append_assoc]
theorem varint_Put_ev {l : List Int} (hl : l.length ≤ 10000000000000) (hu : ∀ u ∈ l, 0 ≤ u ∧ u < 18446744073709551616) : Ev (fun k => varint_Put.f k l) (puts l) :=
 varint_Put_l0_ev l hl hu (l.length - 0) 0 [] rfl (by omega) (by simp)
theorem point_Put_ev {s a l u : Int} (h0 : 0 ≤ u) (h1 : u < 4294967296) : Ev (fun k => point_Put.f k s a l u) (if mayP s a l = true then (putP s a l u, 0) else ([], 1)) := by
 simp only [point_Put.f]
 rw [ev_bind_c (point_Check_ev _ _ _ _), ev_ite]
 by_cases h : mayP s a l = true
 ·have hm := mayP_iff.1 h
  have hb : ∀ v ∈ [s, a, l], 0 ≤ v ∧ v < 18446744073709551616 := by
   intro v hv
   simp at hv
   omega
  rw [if_pos h, if_pos h, if_pos (by trivial), wu64 (x := s) (by omega) (by omega), wu64 (x := a) (by omega) (by omega), wu64 (x := l) (by omega) (by omega), ev_bind (varint_Put_ev (l := [s, a, l]) (by simp) hb)]
  have hl := puts_len hb
  simp only [List.length_cons, List.length_nil] at hl
  simp only [Option.bind_some, ev_ite, ev_some, List.length_cons, List.length_nil]
  rw [if_pos (by omega)]
  rfl
 ·rw [if_neg h, if_neg h, if_neg (by omega), ev_some]
theorem cell_Put_ev {far : Bool} {b : List Int} {s a n u : Int} (h : mayC far b s a n u = true) (hu : 0 ≤ u ∧ u < 4294967296) : Ev (fun k => cell_Put.f k far b s a n u) (putC far b s a n u, 0) := by
 have hl := mayC_len h
 simp only [cell_Put.f]
 rw [ev_bind_c (cell_Check_ev _ _ _ _ _ _), h, if_pos rfl, ev_ite, if_pos (by trivial), ev_ite]
 unfold putC
 cases far with
 | true =>
  have hp := point_Put_ev (s := s) (a := a) (l := n) hu.1 hu.2
  have hm := mayC_far h
  have hpl := putP_len (u := u) hm
  rw [if_pos hm] at hp
  rw [if_pos rfl, if_pos rfl, ev_bind hp]
  simp only [Option.bind_some, ev_ite]
  rw [if_pos (by simp only [List.length_cons, List.length_nil]; omega), ev_some]
  rfl
 | false =>
  have h10 := one_len10 (u := b.length) (by omega)
  have hput : Ev (fun k => varint_Put.f k [(b.length : Int)]) (one b.length) := by
   have := varint_Put_ev (l := [(b.length : Int)]) (by simp) (by intro v hv; rw [List.mem_singleton.1 hv]; omega)
   rw [puts_cons, puts_nil, List.append_nil, Int.toNat_natCast] at this
   exact this
  rw [if_neg (by simp), if_neg (by simp), wu64 (by omega) (by omega)]
  simp only [Option.bind_some]
  rw [ev_bind hput, ev_ite, if_pos (by simp only [List.length_cons, List.length_nil]; omega), ev_ite, if_pos (by simp only [List.length_append, List.length_cons, List.length_nil]; omega), ev_some, List.append_assoc]
  rfl
theorem entry_Put_l0_ev (l : List S52) (hl : l.length ≤ 16) (hg : ∀ e ∈ l, goodN e) (hm : ∀ e ∈ prsN l, mayN e = true) : ∀ (d j : Nat) (b : List Int), l.length - j = d → j ≤ l.length → b.length ≤ 30 + 128 * j →
 Ev (fun k => entry_Put.l0 k b l (l.length : Int) (j : Int)) (b ++ putNs (prsN (l.drop j)), 0) := by
 intro d
 induction d with
 | zero =>
  intro j b hd hj hb
  rw [ev_succ]
  simp only [entry_Put.l0, ev_ite]
  rw [if_neg (by omega), ev_some, List.drop_eq_nil_of_le (by omega)]
  have e : putNs (prsN []) = [] := rfl
  rw [e, List.append_nil]
 | succ d ih =>
  intro j b hd hj hb
  have hjl : j < l.length := by omega
  have hgj := hg _ (rdN_mem hjl)
  have hmj := hm _ (List.mem_map.2 ⟨_, rdN_mem hjl, rfl⟩)
  have hw : wrap64 ((j : Int) + 1) = ((j + 1 : Nat) : Int) := w64 (by omega) (by omega)
  rw [dropN_eq hjl]
  rw [ev_succ]
  simp only [entry_Put.l0, ev_ite, hw]
  generalize rd_T52 l (j : Int) = e at hgj hmj ⊢
  have el : prsN (e :: l.drop (j + 1)) = prN e :: prsN (l.drop (j + 1)) := rfl
  have hr := (mayN_iff.1 hmj).1
  have hc := (mayN_iff.1 hmj).2.2
  have hnl := putN_len hmj
  unfold putN at hnl
  simp only [prN] at hr hc hnl
  have hone : ∀ v : Int, 0 ≤ v → v < 18446744073709551616 → Ev (fun k => varint_Put.f k [v]) (one v.toNat) := by
   intro v h0 h1
   have := varint_Put_ev (l := [v]) (by simp) (by intro u hu; rw [List.mem_singleton.1 hu]; omega)
   rw [puts_cons, puts_nil, List.append_nil] at this
   exact this
  have h1 := hone e.f1 (by omega) (by omega)
  have h2 := hone (e.f3.size : Int) (by omega) (by omega)
  rw [Int.toNat_natCast] at h2
  have hb1 := one_len10 (u := e.f1.toNat) (by omega)
  have hb2 := one_len10 (u := e.f3.size) (by omega)
  have ek : e.f2 % 256 = e.f2 := by omega
  rw [if_pos (by omega), if_pos (by omega), if_pos (by omega), wu64 (by omega) (by omega), ev_bind h1, ev_ite, if_pos (by omega)]
  simp only [Option.bind_some, ev_ite]
  rw [if_pos (by rw [List.length_append]; omega), wu64 (by omega) (by omega), ev_bind h2, ev_ite, if_pos (by simp only [List.length_append, List.length_singleton]; omega), ev_ite, if_pos (by simp only [List.length_append, List.length_singleton]; omega), ek, ev_ite]
  have hbl : (bytesOf e.f3).length = e.f3.size := bytesOf_length _
  by_cases hk : e.f2 = 2
  ·rw [if_pos hk]
   refine ev_eq (ih (j + 1) _ (by omega) (by omega) (by simp only [List.length_append, List.length_singleton]; omega)) ?_
   rw [el, putNs_cons, putN_del (e := prN e) hk]
   simp only [prN, List.nil_append, List.append_assoc, List.singleton_append, List.append_nil, List.cons_append]
  ·have hcl := putC_len hc
   rw [if_neg hk, ev_bind (cell_Put_ev hc hgj.2.2.2.2.2), ev_ite, if_pos (by simp only [List.length_append, List.length_singleton]; omega)]
   refine ev_eq (ih (j + 1) _ (by omega) (by omega) (by simp only [List.length_append, List.length_singleton]; omega)) ?_
   rw [el, putNs_cons, putN_cell (e := prN e) hk]
   simp only [prN, List.nil_append, List.append_assoc, List.singleton_append, List.cons_append]
theorem firstI_rd {l : List S52} (h : 0 < l.length) : (rd_T52 l 0).f0 = firstI (prsN l) := by
 cases l with
 | nil => simp at h
 | cons e l => rfl
theorem firstI_range {l : List Ent} (h : ∀ e ∈ l, mayN e = true) : 0 ≤ firstI l ∧ firstI l ≤ 2147483647 := by
 cases l with
 | nil => simp [firstI]
 | cons e l =>
  have := (mayN_iff.1 (h e (by simp))).1
  simp only [firstI]
  omega
theorem entry_Put_ev (l : List S52) (hl : l.length ≤ 140737488351232) (hg : ∀ e ∈ l, goodN e) : Ev (fun k => entry_Put.f k l) (if batchB (prsN l) = true then (putB (prsN l), 0) else ([], 1)) := by
 simp only [entry_Put.f]
 rw [ev_bind (entry_Batch_ev l hl hg), ev_ite]
 by_cases h : batchB (prsN l) = true
 ·obtain ⟨h1, h2⟩ := batchB_iff.1 h
  rw [prsN_len] at h1
  have hm := batchFrom_mem h2
  have hf := firstI_range hm
  rw [if_pos h, if_pos (by trivial), if_pos h, ev_ite, if_pos (by omega), firstI_rd (by omega), wu64 (by omega) (by omega), wu64 (by omega) (by omega)]
  have hu : ∀ u ∈ [(l.length : Int), firstI (prsN l)], 0 ≤ u ∧ u < 18446744073709551616 := by
   intro u hu
   simp only [List.mem_cons, List.not_mem_nil, or_false] at hu
   omega
  have hp := varint_Put_ev (l := [(l.length : Int), firstI (prsN l)]) (by simp) hu
  have hpl := puts_len hu
  simp only [List.length_cons, List.length_nil] at hpl
  rw [ev_bind hp]
  refine ev_eq (entry_Put_l0_ev l h1.2 hg hm (l.length - 0) 0 (puts [(l.length : Int), firstI (prsN l)]) rfl (by omega) (by omega)) ?_
  unfold putB
  rw [prsN_len, List.drop_zero]
 ·rw [if_neg h, if_neg (by omega), if_neg h, ev_some]
theorem hard_Put_ev (t v c : Int) : Ev (fun k => hard_Put.f k t v c) (if mayH t v c = true then (puts [t, v, c], 0) else ([], 1)) := by
 simp only [hard_Put.f]
 rw [ev_bind_c (hard_Check_ev _ _ _), ev_ite]
 by_cases h : mayH t v c = true
 ·have hm := mayH_iff.1 h
  have hb : ∀ x ∈ [t, v, c], 0 ≤ x ∧ x < 18446744073709551616 := by
   intro x hx
   simp at hx
   omega
  rw [if_pos h, if_pos h, if_pos (by trivial), wu64 (x := t) (by omega) (by omega), wu64 (x := v) (by omega) (by omega), wu64 (x := c) (by omega) (by omega), ev_bind (varint_Put_ev (l := [t, v, c]) (by simp) hb), ev_some]
 ·rw [if_neg h, if_neg h, if_neg (by omega), ev_some]
theorem garnerref04_May_ev (s a l u : Int) : garnerref04_May.f s a l u = some (mayP s a l) := by
 unfold garnerref04_May.f mayP
 repeat' split
 all_goals (congr 1; first | (symm; rw [decide_eq_false_iff_not]; omega) | (rw [Bool.eq_iff_iff]; simp only [decide_eq_true_eq]; omega))
theorem garnerref05_May_ev (far : Bool) (b : List Int) (s a n u : Int) : garnerref05_May.f far b s a n u = some (mayC far b s a n u) := by
 unfold garnerref05_May.f mayC
 cases far with
 | true =>
  rw [if_pos rfl, if_pos rfl]
  by_cases h : b.length = 0
  ·rw [if_pos (by omega), garnerref04_May_ev, decide_eq_true h, Bool.true_and]
   rfl
  ·rw [if_neg (by omega), decide_eq_false h, Bool.false_and]
 | false =>
  simp only [Bool.false_eq_true, if_false]
  rw [zero_isr]
  by_cases h : b.length ≤ 32
  ·rw [if_pos (by omega), decide_eq_true h, Bool.true_and]
  ·rw [if_neg (by omega), decide_eq_false h, Bool.false_and]
theorem garnerref06_May_ev {e : Ent} (hb : e.b.length ≤ maxLen) : Ev (fun k => garnerref06_May.f k e.i e.t e.k e.key e.far e.b e.s e.a e.n e.u) (mayN e) := by
 have hnot : ¬ (1 ≤ e.i ∧ e.i ≤ 2147483647 ∧ 1 ≤ e.t ∧ e.t ≤ 2147483647 ∧ 0 ≤ e.k ∧ e.k ≤ 2 ∧ e.key.size ≤ 64 ∧ (e.key.size = 0 ↔ e.k = 0)) → mayN e = false := fun h => by
  unfold mayN headN
  rw [decide_eq_false h, Bool.false_and]
 have bad : mayN e = false → Ev (fun k => garnerref06_May.j0 k true e.i e.t e.k e.key e.far e.b e.s e.a e.n e.u) (mayN e) := by
  intro h
  rw [h, ev_succ]
  simp only [garnerref06_May.j0, ev_ite]
  rw [if_pos (by trivial), ev_some]
 have hz := toList_nil e.key
 simp only [garnerref06_May.f, ev_ite]
 by_cases h1 : e.i < 1
 ·rw [if_pos h1]; exact bad (hnot (by omega))
 rw [if_neg h1]
 by_cases h2 : e.i > 2147483647
 ·rw [if_pos h2]; exact bad (hnot (by omega))
 rw [if_neg h2]
 by_cases h3 : e.t < 1
 ·rw [if_pos h3]; exact bad (hnot (by omega))
 rw [if_neg h3]
 by_cases h4 : e.t > 2147483647
 ·rw [if_pos h4]; exact bad (hnot (by omega))
 rw [if_neg h4, ev_bind_c (garnerref05_May_ev _ _ _ _ _ _), ev_ite]
 by_cases hc : mayC e.far e.b e.s e.a e.n e.u = true
 ·rw [if_pos hc]
  by_cases h5 : e.key.size > 64
  ·rw [decide_eq_true (by omega)]; exact bad (hnot (by omega))
  rw [decide_eq_false (by omega), ev_succ]
  simp only [garnerref06_May.j0, ev_ite]
  rw [if_neg (by simp)]
  have hmk : ∀ q : Bool, (e.k ≠ 2 ∨ plainC e.far e.b e.s e.a e.n e.u = true) → (q = true ↔ (0 ≤ e.k ∧ e.k ≤ 2 ∧ (e.key.size = 0 ↔ e.k = 0))) → q = mayN e := by
   intro q hp hq
   rw [Bool.eq_iff_iff, hq, mayN_iff]
   constructor
   ·intro h
    exact ⟨by omega, hp, hc⟩
   ·intro h
    omega
  by_cases k0 : e.k = 0
  ·rw [if_pos k0, ev_some]
   refine hmk _ (.inl (by omega)) ?_
   rw [beq_iff_eq, hz]
   omega
  rw [if_neg k0]
  by_cases k2 : e.k = 2
  ·rw [if_pos k2]
   by_cases hs : e.key.size = 0
   ·rw [if_pos (hz.2 hs), ev_some]
    exact (hnot (by omega)).symm
   ·rw [if_neg (fun h => hs (hz.1 h)), ev_bind (garnerref05_Same_plain hb _ _ _ _), ev_some]
    rw [Bool.eq_iff_iff, mayN_iff]
    constructor
    ·intro h
     exact ⟨by omega, .inr h, hc⟩
    ·intro h
     rcases h.2.1 with h | h
     ·exact absurd k2 h
     ·exact h
  rw [if_neg k2]
  by_cases k1 : e.k = 1
  ·rw [if_pos k1, ev_some]
   refine hmk _ (.inl (by omega)) ?_
   rw [bne_iff_ne, ne_eq, hz]
   omega
  ·rw [if_neg k1, ev_some]
   exact (hnot (by omega)).symm
 ·rw [if_neg hc]
  refine bad ?_
  unfold mayN
  rw [Bool.not_eq_true] at hc
  rw [hc, Bool.and_false, Bool.and_false]
theorem garnerref06_Batch_ev (l : List S52) (hl : l.length ≤ 140737488351232) (hg : ∀ e ∈ l, goodN e) : Ev (fun k => garnerref06_Batch.f k l) (batchB (prsN l)) := by
 have main : ∀ (d j : Nat) (p : Option (Int × Int)), l.length - j = d → j ≤ l.length → (j = 0 → p = none) → (∀ i : Nat, j = i + 1 → p = some ((rd_T52 l (i : Int)).f0, (rd_T52 l (i : Int)).f1)) →
  Ev (fun k => garnerref06_Batch.l0 k l (j : Int)) (decide (1 ≤ l.length ∧ l.length ≤ 16) && batchFrom p (prsN (l.drop j))) := by
  intro d
  induction d with
  | zero =>
   intro j p hd hj _ _
   rw [ev_succ]
   simp only [garnerref06_Batch.l0, ev_ite]
   have e : batchFrom p (prsN (l.drop j)) = true := by
    rw [List.drop_eq_nil_of_le (by omega)]
    cases p <;> rfl
   rw [if_neg (by omega), e, Bool.and_true]
   split
   ·rw [ev_some, decide_eq_decide]
    omega
   ·rw [ev_some]
    symm
    rw [decide_eq_false_iff_not]
    omega
  | succ d ih =>
   intro j p hd hj h0 hs
   have hjl : j < l.length := by omega
   have hgj := hg _ (rdN_mem hjl)
   have ih' := ih (j + 1) (some ((rd_T52 l (j : Int)).f0, (rd_T52 l (j : Int)).f1)) (by omega) (by omega) (by omega) (fun i hi => by rw [show i = j by omega])
   have hw : wrap64 ((j : Int) + 1) = ((j + 1 : Nat) : Int) := w64 (by omega) (by omega)
   rw [dropN_eq hjl]
   rw [ev_succ]
   simp only [garnerref06_Batch.l0, ev_ite, hw]
   generalize hE : rd_T52 l (j : Int) = e at hgj ih' ⊢
   have hc : Ev (fun k => garnerref06_May.f k e.f0 e.f1 e.f2 e.f3 e.f4.f0 e.f4.f1 e.f4.f2.f0 e.f4.f2.f1 e.f4.f2.f2 e.f4.f2.f3) (mayN (prN e)) := garnerref06_May_ev (e := prN e) (by have := hgj.2.2.2.1; simp only [prN]; unfold maxLen; omega)
   have el : prsN (e :: l.drop (j + 1)) = prN e :: prsN (l.drop (j + 1)) := rfl
   have e0 : (prN e).i = e.f0 := rfl
   have e1 : (prN e).t = e.f1 := rfl
   rw [el, if_pos (by omega), if_pos (by omega), ev_bind hc, ev_ite]
   by_cases hm : mayN (prN e) = true
   ·have hm' := (mayN_iff.1 hm).1
    rw [e0, e1] at hm'
    rw [if_pos hm, ev_ite]
    by_cases hj0 : j = 0
    ·rw [if_neg (by omega), h0 hj0, batch_none, hm, Bool.true_and, e0, e1]
     exact ih'
    ·have hp := hs (j - 1) (by omega)
     have e2 : wrap64 ((j : Int) - 1) = ((j - 1 : Nat) : Int) := by
      rw [w64 (by omega) (by omega)]
      omega
     rw [if_pos (by omega), e2, ev_ite, if_pos (by omega), ev_ite, if_pos (by omega), ev_ite, hp, batch_some, hm, Bool.true_and, e0, e1, w64 (by omega) (by omega)]
     by_cases h1 : e.f0 = (rd_T52 l ((j - 1 : Nat) : Int)).f0 + 1
     ·rw [if_pos (by omega), ev_ite]
      by_cases h2 : e.f1 < (rd_T52 l ((j - 1 : Nat) : Int)).f1
      ·rw [if_pos h2, ev_some, decide_eq_false (show ¬ (e.f0 = (rd_T52 l ((j - 1 : Nat) : Int)).f0 + 1 ∧ (rd_T52 l ((j - 1 : Nat) : Int)).f1 ≤ e.f1) by omega), Bool.false_and, Bool.and_false]
      ·rw [if_neg h2, decide_eq_true (show e.f0 = (rd_T52 l ((j - 1 : Nat) : Int)).f0 + 1 ∧ (rd_T52 l ((j - 1 : Nat) : Int)).f1 ≤ e.f1 by omega), Bool.true_and]
       exact ih'
     ·rw [if_neg (by omega), ev_some, decide_eq_false (show ¬ (e.f0 = (rd_T52 l ((j - 1 : Nat) : Int)).f0 + 1 ∧ (rd_T52 l ((j - 1 : Nat) : Int)).f1 ≤ e.f1) by omega), Bool.false_and, Bool.and_false]
   ·rw [if_neg hm, ev_some]
    rw [Bool.not_eq_true] at hm
    have hf : batchFrom p (prN e :: prsN (l.drop (j + 1))) = false := by
     cases p with
     | none => rw [batch_none, hm, Bool.false_and]
     | some q =>
      obtain ⟨i, t⟩ := q
      rw [batch_some, hm, Bool.false_and]
    rw [hf, Bool.and_false]
 have := main (l.length - 0) 0 none rfl (by omega) (fun _ => rfl) (fun i hi => by omega)
 unfold batchB
 rw [prsN_len]
 exact this
theorem garnerref22_May_ev (t v c : Int) : garnerref22_May.f t v c = some (mayH t v c) := by
 unfold garnerref22_May.f mayH
 repeat' split
 all_goals (congr 1; first | (symm; rw [decide_eq_false_iff_not]; omega) | (symm; rw [decide_eq_true_eq]; omega) | (rw [Bool.eq_iff_iff]; simp only [decide_eq_true_eq, beq_iff_eq]; omega))
theorem garnerref03_Same_ev {a b : List S24} (hl : a.length ≤ maxLen) (hg : ∀ f ∈ a, f.f1.length ≤ maxLen) : Ev (fun k => garnerref03_Same.f k a b) (decide (prsF a = prsF b)) := by
 have hlm := maxLen_le hl
 simp only [garnerref03_Same.f, ev_ite]
 by_cases h : a.length = b.length
 ·rw [if_pos (by omega)]
  have main : ∀ (d i : Nat), a.length - i = d → i ≤ a.length → Ev (fun k => garnerref03_Same.l0 k a b (i : Int)) (decide (prsF (a.drop i) = prsF (b.drop i))) := by
   intro d
   induction d with
   | zero =>
    intro i hd hi
    rw [ev_succ]
    simp only [garnerref03_Same.l0, ev_ite]
    rw [if_neg (by omega), ev_some, List.drop_eq_nil_of_le (by omega), List.drop_eq_nil_of_le (by omega)]
    simp
   | succ d ih =>
    intro i hd hi
    have hi' : i < a.length := by omega
    have hgi := hg _ (rdF_mem hi')
    rw [ev_succ]
    simp only [garnerref03_Same.l0, ev_ite]
    rw [if_pos (by omega), if_pos (by omega), if_pos (by omega), dropF_eq (l := a) (by omega), dropF_eq (l := b) (by omega)]
    have e : ∀ (f g : S24) (l m : List S24), prsF (f :: l) = prsF (g :: m) ↔ (f.f0 = g.f0 ∧ f.f1 = g.f1) ∧ prsF l = prsF m := by
     intro f g l m
     simp [prsF, prF]
    by_cases h0 : (rd_T24 a (i : Int)).f0 = (rd_T24 b (i : Int)).f0
    ·rw [if_pos h0, ev_bind (garnerref02_Bytes_ev hgi), ev_ite]
     by_cases h1 : (rd_T24 a (i : Int)).f1 = (rd_T24 b (i : Int)).f1
     ·rw [if_pos (by simpa using h1), w64 (by omega) (by omega)]
      refine ev_eq (ih (i + 1) (by omega) (by omega)) ?_
      rw [decide_eq_decide, e]
      exact ⟨fun h => ⟨⟨h0, h1⟩, h⟩, fun h => h.2⟩
     ·rw [if_neg (by simpa using h1), ev_some]
      symm
      rw [decide_eq_false_iff_not, e]
      exact fun h => h1 h.1.2
    ·rw [if_neg h0, ev_some]
     symm
     rw [decide_eq_false_iff_not, e]
     exact fun h => h0 h.1.1
  exact main (a.length - 0) 0 rfl (by omega)
 ·rw [if_neg (by omega), ev_some]
  symm
  rw [decide_eq_false_iff_not]
  intro e
  have := congrArg List.length e
  rw [prsF_len, prsF_len] at this
  exact h this
theorem garnerref02_One_ev : ∀ u : Nat, u < 18446744073709551616 → Ev (fun k => garnerref02_One.f k (u : Int)) (one u) := by
 intro u
 induction u using Nat.strongRecOn with
 | _ u ih =>
  intro hu
  rw [ev_succ]
  simp only [garnerref02_One.f, ev_ite, Option.bind_some]
  by_cases h : u < 128
  ·rw [if_pos (by omega), ev_some, one_lt h]
   congr 1
   omega
  ·have e : IntKind.u64.wrap (Int.tdiv (u : Int) 128) = ((u / 128 : Nat) : Int) := by
    rw [Int.tdiv_eq_ediv_of_nonneg (by omega), wu64 (by omega) (by omega)]
    rfl
   have e2 : ((Int.tmod (u : Int) 128) % 256 + 128) % 256 = ((u % 128 + 128 : Nat) : Int) := by
    rw [Int.tmod_eq_emod_of_nonneg (by omega)]
    omega
   rw [if_neg (by omega), e, e2, ev_bind (ih (u / 128) (by omega) (by omega)), ev_ite]
   have hl := one_len10 (u := u / 128) (by omega)
   rw [if_pos (by simp only [List.length_singleton]; omega), ev_some, one_ge (u := u) (by omega)]
   rfl
theorem garnerref02_Put_l0_ev (l : List Int) (hl : l.length ≤ 10000000000000) (hu : ∀ u ∈ l, 0 ≤ u ∧ u < 18446744073709551616) : ∀ (d j : Nat) (b : List Int), l.length - j = d → j ≤ l.length → b.length ≤ 10 * j →
 Ev (fun k => garnerref02_Put.l0 k l b (j : Int)) (b ++ puts (l.drop j)) := by
 intro d
 induction d with
 | zero =>
  intro j b hd hj hb
  rw [ev_succ]
  simp only [garnerref02_Put.l0, ev_ite]
  rw [if_neg (by omega), ev_some, List.drop_eq_nil_of_le (by omega), puts_nil, List.append_nil]
 | succ d ih =>
  intro j b hd hj hb
  rw [ev_succ]
  simp only [garnerref02_Put.l0, ev_ite]
  rw [if_pos (by omega), if_pos (by omega), w64 (by omega) (by omega)]
  have h := hu _ (rd_mem (xs := l) (i := (j : Int)) (by omega) (by omega))
  have h1 : Ev (fun k => garnerref02_One.f k (rd l (j : Int))) (one (rd l (j : Int)).toNat) := by
   have := garnerref02_One_ev (rd l (j : Int)).toNat (by omega)
   rw [Int.toNat_of_nonneg h.1] at this
   exact this
  have h10 := one_len10 (u := (rd l (j : Int)).toNat) (by omega)
  rw [ev_bind h1, ev_ite, if_pos (by omega)]
  refine ev_eq (ih (j + 1) (b ++ one (rd l (j : Int)).toNat) (by omega) (by omega) (by rw [List.length_append]; omega)) ?_
  rw [drop_eq (xs := l) (i := j) (by omega), puts_cons, List.append_assoc]
theorem garnerref02_Put_ev {l : List Int} (hl : l.length ≤ 10000000000000) (hu : ∀ u ∈ l, 0 ≤ u ∧ u < 18446744073709551616) : Ev (fun k => garnerref02_Put.f k l) (puts l) :=
 garnerref02_Put_l0_ev l hl hu (l.length - 0) 0 [] rfl (by omega) (by simp)
theorem garnerref04_Sum_ev (s : Int) (h0 : 0 ≤ s) (h1 : s < 4294967296) : Ev (fun k => garnerref04_Sum.f k s) (sum4 s) := by
 have step : ∀ (i : Nat) (s : Int) (b : List Int) r, 0 ≤ s → s < 4294967296 → i < 4 → b.length ≤ 4 → Ev (fun k => garnerref04_Sum.l0 k (s / 256) (b ++ [s % 256]) ((i + 1 : Nat) : Int)) r → Ev (fun k => garnerref04_Sum.l0 k s b (i : Int)) r := by
  intro i s b r h0 h1 hi hb hr
  rw [ev_succ]
  simp only [garnerref04_Sum.l0, ev_ite]
  rw [if_pos (by omega), if_pos (by omega), Int.tdiv_eq_ediv_of_nonneg h0, Int.tmod_eq_emod_of_nonneg h0, w64 (by omega) (by omega)]
  have e1 : s / 256 % 4294967296 = s / 256 := by omega
  have e2 : s % 256 % 256 = s % 256 := by omega
  rw [e1, e2]
  exact hr
 show Ev (fun k => garnerref04_Sum.l0 k s [] ((0 : Nat) : Int)) (sum4 s)
 refine step 0 s [] _ h0 h1 (by omega) (by simp) ?_
 refine step 1 _ _ _ (by omega) (by omega) (by omega) (by simp) ?_
 refine step 2 _ _ _ (by omega) (by omega) (by omega) (by simp) ?_
 refine step 3 _ _ _ (by omega) (by omega) (by omega) (by simp) ?_
 rw [ev_succ]
 simp only [garnerref04_Sum.l0, ev_ite]
 rw [if_neg (by omega), ev_some]
 unfold sum4
 simp only [List.nil_append, List.cons_append, List.cons.injEq, and_true, true_and]
 omega
theorem garnerref04_Put_ev {s a l u : Int} (h : mayP s a l = true) (h0 : 0 ≤ u) (h1 : u < 4294967296) : Ev (fun k => garnerref04_Put.f k s a l u) (putP s a l u) := by
 have hm := mayP_iff.1 h
 simp only [garnerref04_Put.f]
 have hb : ∀ v ∈ [s, a, l], 0 ≤ v ∧ v < 18446744073709551616 := by
  intro v hv
  simp at hv
  omega
 rw [wu64 (x := s) (by omega) (by omega), wu64 (x := a) (by omega) (by omega), wu64 (x := l) (by omega) (by omega), ev_bind (garnerref02_Put_ev (l := [s, a, l]) (by simp) hb), ev_bind (garnerref04_Sum_ev u h0 h1)]
 have hl := puts_len hb
 have l4 : (sum4 u).length = 4 := rfl
 simp only [List.length_cons, List.length_nil] at hl
 rw [ev_ite, if_pos (by omega), ev_some]
 rfl
theorem garnerref05_Put_ev {far : Bool} {b : List Int} {s a n u : Int} (h : mayC far b s a n u = true) (hu : 0 ≤ u ∧ u < 4294967296) : Ev (fun k => garnerref05_Put.f k far b s a n u) (putC far b s a n u) := by
 have hl := mayC_len h
 simp only [garnerref05_Put.f, ev_ite]
 unfold putC
 cases far with
 | true =>
  have hm := mayC_far h
  have hpl := putP_len (u := u) hm
  rw [if_pos rfl, if_pos rfl]
  simp only [Option.bind_some]
  rw [ev_bind (garnerref04_Put_ev hm hu.1 hu.2), ev_ite, if_pos (by simp only [List.length_cons, List.length_nil]; omega), ev_some]
  rfl
 | false =>
  have h10 := one_len10 (u := b.length) (by omega)
  rw [if_neg (by simp), if_neg (by simp), wu64 (by omega) (by omega)]
  simp only [Option.bind_some]
  rw [ev_bind (garnerref02_One_ev b.length (by omega)), ev_ite, if_pos (by simp only [List.length_cons, List.length_nil]; omega), ev_ite, if_pos (by simp only [List.length_append, List.length_cons, List.length_nil]; omega), ev_some, List.append_assoc]
  rfl
theorem garnerref06_Put_l0_ev (l : List S52) (hl : l.length ≤ 16) (hg : ∀ e ∈ l, goodN e) (hm : ∀ e ∈ prsN l, mayN e = true) : ∀ (d j : Nat) (b : List Int), l.length - j = d → j ≤ l.length → b.length ≤ 30 + 128 * j →
 Ev (fun k => garnerref06_Put.l0 k l b (j : Int)) (b ++ putNs (prsN (l.drop j))) := by
 intro d
 induction d with
 | zero =>
  intro j b hd hj hb
  rw [ev_succ]
  simp only [garnerref06_Put.l0, ev_ite]
  rw [if_neg (by omega), ev_some, List.drop_eq_nil_of_le (by omega)]
  have e : putNs (prsN []) = [] := rfl
  rw [e, List.append_nil]
 | succ d ih =>
  intro j b hd hj hb
  have hjl : j < l.length := by omega
  have hgj := hg _ (rdN_mem hjl)
  have hmj := hm _ (List.mem_map.2 ⟨_, rdN_mem hjl, rfl⟩)
  have hw : wrap64 ((j : Int) + 1) = ((j + 1 : Nat) : Int) := w64 (by omega) (by omega)
  rw [dropN_eq hjl]
  rw [ev_succ]
  simp only [garnerref06_Put.l0, ev_ite, hw]
  generalize rd_T52 l (j : Int) = e at hgj hmj ⊢
  have el : prsN (e :: l.drop (j + 1)) = prN e :: prsN (l.drop (j + 1)) := rfl
  have hr := (mayN_iff.1 hmj).1
  have hc := (mayN_iff.1 hmj).2.2
  have hnl := putN_len hmj
  unfold putN at hnl
  simp only [prN] at hr hc hnl
  have h1 := garnerref02_One_ev e.f1.toNat (by omega)
  rw [Int.toNat_of_nonneg (by omega)] at h1
  have h2 := garnerref02_One_ev e.f3.size (by omega)
  have hb1 := one_len10 (u := e.f1.toNat) (by omega)
  have hb2 := one_len10 (u := e.f3.size) (by omega)
  have ek : e.f2 % 256 = e.f2 := by omega
  rw [if_pos (by omega), if_pos (by omega), wu64 (by omega) (by omega), ev_bind h1, ev_ite, if_pos (by omega)]
  simp only [Option.bind_some, ev_ite]
  rw [if_pos (by rw [List.length_append]; omega), wu64 (by omega) (by omega), ev_bind h2, ev_ite, if_pos (by simp only [List.length_append, List.length_singleton]; omega), ev_ite, if_pos (by simp only [List.length_append, List.length_singleton]; omega), ek, ev_ite]
  have hbl : (bytesOf e.f3).length = e.f3.size := bytesOf_length _
  by_cases hk : e.f2 = 2
  ·rw [if_pos hk]
   refine ev_eq (ih (j + 1) _ (by omega) (by omega) (by simp only [List.length_append, List.length_singleton]; omega)) ?_
   rw [el, putNs_cons, putN_del (e := prN e) hk]
   simp only [prN, List.nil_append, List.append_assoc, List.singleton_append, List.append_nil, List.cons_append]
  ·have hcl := putC_len hc
   rw [if_neg hk, ev_bind (garnerref05_Put_ev hc hgj.2.2.2.2.2), ev_ite, if_pos (by simp only [List.length_append, List.length_singleton]; omega)]
   refine ev_eq (ih (j + 1) _ (by omega) (by omega) (by simp only [List.length_append, List.length_singleton]; omega)) ?_
   rw [el, putNs_cons, putN_cell (e := prN e) hk]
   simp only [prN, List.nil_append, List.append_assoc, List.singleton_append, List.cons_append]
theorem garnerref06_Put_ev (l : List S52) (hg : ∀ e ∈ l, goodN e) (h : batchB (prsN l) = true) : Ev (fun k => garnerref06_Put.f k l) (putB (prsN l)) := by
 obtain ⟨h1, h2⟩ := batchB_iff.1 h
 rw [prsN_len] at h1
 have hm := batchFrom_mem h2
 have hf := firstI_range hm
 simp only [garnerref06_Put.f, ev_ite]
 rw [if_pos (by omega), firstI_rd (by omega), wu64 (by omega) (by omega), wu64 (by omega) (by omega)]
 have hu : ∀ u ∈ [(l.length : Int), firstI (prsN l)], 0 ≤ u ∧ u < 18446744073709551616 := by
  intro u hu
  simp only [List.mem_cons, List.not_mem_nil, or_false] at hu
  omega
 have hp := garnerref02_Put_ev (l := [(l.length : Int), firstI (prsN l)]) (by simp) hu
 have hpl := puts_len hu
 simp only [List.length_cons, List.length_nil] at hpl
 rw [ev_bind hp]
 refine ev_eq (garnerref06_Put_l0_ev l h1.2 hg hm (l.length - 0) 0 (puts [(l.length : Int), firstI (prsN l)]) rfl (by omega) (by omega)) ?_
 unfold putB
 rw [prsN_len, List.drop_zero]
theorem garnerref22_Put_ev {t v c : Int} (h : mayH t v c = true) : Ev (fun k => garnerref22_Put.f k t v c) (puts [t, v, c]) := by
 have hm := mayH_iff.1 h
 have hb : ∀ x ∈ [t, v, c], 0 ≤ x ∧ x < 18446744073709551616 := by
  intro x hx
  simp at hx
  omega
 simp only [garnerref22_Put.f]
 rw [wu64 (x := t) (by omega) (by omega), wu64 (x := v) (by omega) (by omega), wu64 (x := c) (by omega) (by omega), ev_bind (garnerref02_Put_ev (l := [t, v, c]) (by simp) hb), ev_some]
theorem hardR_puts {t v c : Int} (h : mayH t v c = true) : hardR (puts [t, v, c]) = (t, v, c, 0) := by
 have hm := mayH_iff.1 h
 have hb : ∀ x ∈ [t, v, c], 0 ≤ x ∧ x < 18446744073709551616 := by
  intro x hx
  simp at hx
  omega
 have hd := decs_puts hb []
 rw [List.append_nil] at hd
 simp only [List.length_cons, List.length_nil] at hd
 unfold hardR
 rw [hd]
 have r0 : rd [t, v, c] 0 = t := rfl
 have r1 : rd [t, v, c] 1 = v := rfl
 have r2 : rd [t, v, c] 2 = c := rfl
 simp only [r0, r1, r2]
 rw [if_pos ⟨trivial, trivial, h⟩]
theorem getR_one {u : Nat} (h : u < 18446744073709551616) (m : List Int) : getR (one u ++ m) = ((u : Int), ((one u).length : Int), 0) := by
 unfold getR
 rw [dec_one u 0 m (by omega) (by rw [cap_zero]; exact h) (by omega)]
def mayRec (kd : Int) (l : List Ent) (t v c i : Int) : Bool :=
 if kd = 1 then decide (t = 0 ∧ v = 0 ∧ c = 0 ∧ i = 0) && batchB l
 else if kd = 2 then decide (l.length = 0 ∧ i = 0) && mayH t v c
 else if kd = 3 then decide (l.length = 0 ∧ t = 0 ∧ v = 0 ∧ c = 0 ∧ 1 ≤ i ∧ i ≤ 2147483647)
 else false
theorem nz_is (t v c : Int) : (!(t == 0) || (!(v == 0) || (!(c == 0)))) = !decide (t = 0 ∧ v = 0 ∧ c = 0) := by
 rw [Bool.eq_iff_iff]
 simp only [Bool.or_eq_true, Bool.not_eq_true', beq_eq_false_iff_ne, decide_eq_false_iff_not]
 omega
def chkV (b p v : Bool) (l : List S52) (t w c i : Int) : Int :=
 if b = true then 1 else if p = true then (if batchB (prsN l) = true then 0 else 1) else if v = true then (if mayH t w c = true then 0 else 1) else if 1 ≤ i ∧ i ≤ 2147483647 then 0 else 1
theorem wal_Check_j2 (p v b : Bool) (kd : Int) (l : List S52) (t w c i : Int) (hl : l.length ≤ 140737488351232) (hg : ∀ e ∈ l, goodN e) : Ev (fun k => wal_Check.j2 k p v b kd l t w c i) (chkV b p v l t w c i) := by
 unfold chkV
 rw [ev_succ]
 simp only [wal_Check.j2, ev_ite]
 cases b
 ·simp only [Bool.false_eq_true, if_false]
  cases p
  ·simp only [Bool.false_eq_true, if_false]
   cases v
   ·simp only [Bool.false_eq_true, if_false]
    by_cases h : i < 1
    ·rw [if_pos h, if_neg (by omega), ev_some]
    ·rw [if_neg h]
     by_cases h2 : i > 2147483647
     ·rw [if_pos h2, if_neg (by omega), ev_some]
     ·rw [if_neg h2, if_pos (by omega), ev_some]
   ·simp only [if_true, hard_Check_ev, Option.bind_some]
    rw [ev_some]
  ·simp only [if_true]
   rw [ev_bind (entry_Batch_ev l hl hg), ev_some]
 ·simp only [if_true]
  rw [ev_some]
theorem wal_Check_j1 (p v a b : Bool) (kd : Int) (l : List S52) (t w c i : Int) (hl : l.length ≤ 140737488351232) (hg : ∀ e ∈ l, goodN e) : Ev (fun k => wal_Check.j1 k p v a b kd l t w c i) (chkV (b || (if v = true then false else !decide (t = 0 ∧ w = 0 ∧ c = 0)) || (if a = true then false else !decide (i = 0))) p v l t w c i) := by
 have h2 := fun b => wal_Check_j2 p v b kd l t w c i hl hg
 have hi : (i != 0) = !decide (i = 0) := by
  rw [Bool.eq_iff_iff]
  simp
 rw [ev_succ]
 simp only [wal_Check.j1, ev_ite, nz_is, hi]
 generalize (!decide (t = 0 ∧ w = 0 ∧ c = 0)) = q
 generalize (!decide (i = 0)) = r
 have h2t := h2 true
 have h2f := h2 false
 have h2r := h2 r
 cases b <;> cases v <;> cases q <;> cases a <;> simp only [Bool.false_eq_true, if_false, if_true, Bool.or_false, Bool.false_or, Bool.true_or, Bool.or_true] <;> assumption
theorem wal_Check_j0 (p v a b : Bool) (kd : Int) (l : List S52) (t w c i : Int) (hl : l.length ≤ 140737488351232) (hg : ∀ e ∈ l, goodN e) : Ev (fun k => wal_Check.j0 k p v a b kd l t w c i) (chkV (b || (if p = true then false else decide (0 < l.length)) || (if v = true then false else !decide (t = 0 ∧ w = 0 ∧ c = 0)) || (if a = true then false else !decide (i = 0))) p v l t w c i) := by
 have h1 := fun b => wal_Check_j1 p v a b kd l t w c i hl hg
 have h2 := fun b => wal_Check_j2 p v b kd l t w c i hl hg
 have hi : decide ((l.length : Int) > 0) = decide (0 < l.length) := by
  rw [Bool.eq_iff_iff, decide_eq_true_eq, decide_eq_true_eq]
  omega
 rw [ev_succ]
 simp only [wal_Check.j0, ev_ite, hi]
 cases b
 ·simp only [Bool.false_eq_true, if_false, Bool.false_or]
  cases p
  ·simp only [Bool.false_eq_true, if_false]
   exact h1 _
  ·simp only [if_true]
   exact h1 _
 ·simp only [if_true, Bool.true_or]
  exact h2 _
theorem wal_Check_ev (kd : Int) (l : List S52) (t v c i : Int) (hl : l.length ≤ 140737488351232) (hg : ∀ e ∈ l, goodN e) : Ev (fun k => wal_Check.f k kd l t v c i) (if mayRec kd (prsN l) t v c i = true then 0 else 1) := by
 have h0 := fun p w a b => wal_Check_j0 p w a b kd l t v c i hl hg
 simp only [wal_Check.f, ev_ite]
 unfold mayRec
 by_cases h1 : kd = 1
 ·subst h1
  rw [if_pos rfl, if_pos rfl]
  refine ev_eq (h0 _ _ _ _) ?_
  unfold chkV
  by_cases hz : t = 0 ∧ v = 0 ∧ c = 0 <;> by_cases hi : i = 0 <;> cases batchB (prsN l) <;> simp [hz, hi]
 ·rw [if_neg h1, if_neg h1]
  by_cases h2 : kd = 2
  ·subst h2
   rw [if_pos rfl, if_pos rfl]
   refine ev_eq (h0 _ _ _ _) ?_
   unfold chkV
   rw [prsN_len]
   by_cases hz : l.length = 0 <;> by_cases hi : i = 0 <;> cases mayH t v c <;> simp [hz, hi, Nat.pos_iff_ne_zero]
  ·rw [if_neg h2, if_neg h2]
   refine ev_eq (h0 _ _ _ _) ?_
   unfold chkV
   rw [prsN_len]
   by_cases h3 : kd = 3
   ·subst h3
    rw [if_pos rfl]
    by_cases hl : l.length = 0 <;> by_cases hz : t = 0 ∧ v = 0 ∧ c = 0 <;> by_cases hi : 1 ≤ i ∧ i ≤ 2147483647 <;> simp [hl, hz, hi, Nat.pos_iff_ne_zero] <;> omega
   ·rw [if_neg h3]
    simp [h3]
theorem garnerref24_May_ev (kd : Int) (l : List S52) (t v c i : Int) (hl : l.length ≤ 140737488351232) (hg : ∀ e ∈ l, goodN e) : Ev (fun k => garnerref24_May.f k kd l t v c i) (mayRec kd (prsN l) t v c i) := by
 have hj : ∀ b : Bool, Ev (fun k => garnerref24_May.j0 k b kd l t v c i) (if b = true then false else if kd = 1 then batchB (prsN l) else if kd = 2 then mayH t v c else if kd = 3 then decide (1 ≤ i ∧ i ≤ 2147483647) else false) := by
  intro b
  rw [ev_succ]
  simp only [garnerref24_May.j0, ev_ite, garnerref22_May_ev, Option.bind_some]
  cases b
  ·simp only [Bool.false_eq_true, if_false]
   by_cases h1 : kd = 1
   ·rw [if_pos h1, if_pos h1, ev_bind (garnerref06_Batch_ev l hl hg), ev_some]
   ·rw [if_neg h1, if_neg h1]
    by_cases h2 : kd = 2
    ·rw [if_pos h2, if_pos h2, ev_some]
    ·rw [if_neg h2, if_neg h2]
     by_cases h3 : kd = 3
     ·rw [if_pos h3, if_pos h3]
      by_cases hi : i ≥ 1
      ·rw [if_pos hi, ev_some, decide_eq_decide]
       omega
      ·rw [if_neg hi, ev_some]
       symm
       rw [decide_eq_false_iff_not]
       omega
     ·rw [if_neg h3, if_neg h3, ev_some]
  ·simp only [if_true]
   rw [ev_some]
 have hi : (i != 0) = !decide (i = 0) := by
  rw [Bool.eq_iff_iff]
  simp
 simp only [garnerref24_May.f, ev_ite, nz_is, hi]
 unfold mayRec
 rw [prsN_len]
 by_cases h1 : kd = 1
 ·subst h1
  simp only [if_true, if_neg (show ¬ (1 : Int) = 2 by decide), if_neg (show ¬ (1 : Int) = 3 by decide)]
  by_cases hz : t = 0 ∧ v = 0 ∧ c = 0
  ·rw [if_neg (by simp [hz])]
   refine ev_eq (hj _) ?_
   by_cases hi : i = 0 <;> simp [hz, hi]
  ·rw [if_pos (by rw [decide_eq_false hz]; rfl)]
   refine ev_eq (hj _) ?_
   have hz' : ¬ (t = 0 ∧ v = 0 ∧ c = 0 ∧ i = 0) := fun h => hz ⟨h.1, h.2.1, h.2.2.1⟩
   simp [hz']
 ·rw [if_neg h1, if_neg h1]
  by_cases hl : l.length = 0
  ·rw [if_neg (by omega)]
   by_cases h2 : kd = 2
   ·subst h2
    simp only [if_true, if_neg (show ¬ (2 : Int) = 3 by decide)]
    refine ev_eq (hj _) ?_
    by_cases hi : i = 0 <;> simp [hl, hi]
   ·rw [if_neg h2, if_neg h2]
    by_cases hz : t = 0 ∧ v = 0 ∧ c = 0
    ·rw [if_neg (by simp [hz])]
     by_cases h3 : kd = 3
     ·rw [if_pos h3, if_pos h3]
      refine ev_eq (hj _) ?_
      simp [h1, h2, h3, hl, hz]
     ·rw [if_neg h3, if_neg h3]
      refine ev_eq (hj _) ?_
      simp [h1, h2, h3]
    ·rw [if_pos (by rw [decide_eq_false hz]; rfl)]
     refine ev_eq (hj _) ?_
     have hz' : ¬ (l.length = 0 ∧ t = 0 ∧ v = 0 ∧ c = 0 ∧ 1 ≤ i ∧ i ≤ 2147483647) := fun h => hz ⟨h.2.1, h.2.2.1, h.2.2.2.1⟩
     simp only [hz', decide_false, if_true, ite_self]
  ·rw [if_pos (by omega)]
   refine ev_eq (hj _) ?_
   simp [hl]
def bodyRec (kd : Int) (l : List Ent) (t v c i : Int) : List Int := if kd = 1 then putB l else if kd = 2 then puts [t, v, c] else one i.toNat
theorem wal_Put_ev (kd : Int) (l : List S52) (t v c i : Int) (hl : l.length ≤ 140737488351232) (hg : ∀ e ∈ l, goodN e) : Ev (fun k => wal_Put.f k kd l t v c i) (if mayRec kd (prsN l) t v c i = true then (kd + 10, bodyRec kd (prsN l) t v c i, 0) else (0, [], 1)) := by
 simp only [wal_Put.f]
 rw [ev_bind (wal_Check_ev kd l t v c i hl hg)]
 simp only [ev_ite]
 by_cases h : mayRec kd (prsN l) t v c i = true
 ·rw [if_pos h, if_pos (by trivial), if_pos h]
  unfold bodyRec
  unfold mayRec at h
  by_cases h1 : kd = 1
  ·subst h1
   rw [if_pos rfl] at h
   rw [if_pos rfl, if_pos rfl, ev_bind (entry_Put_ev l hl hg), if_pos (by simp at h; exact h.2), ev_some, w64 (by omega) (by omega)]
   rfl
  ·rw [if_neg h1] at h
   rw [if_neg h1, if_neg h1]
   by_cases h2 : kd = 2
   ·subst h2
    rw [if_pos rfl] at h
    rw [if_pos rfl, if_pos rfl, ev_bind (hard_Put_ev t v c), if_pos (by simp at h; exact h.2), ev_some, w64 (by omega) (by omega)]
    rfl
   ·rw [if_neg h2] at h
    rw [if_neg h2, if_neg h2]
    by_cases h3 : kd = 3
    ·subst h3
     rw [if_pos rfl, decide_eq_true_eq] at h
     have hu : IntKind.u64.wrap i = i := wu64 (by omega) (by omega)
     rw [hu, ev_bind (varint_Put_ev (l := [i]) (by simp) (by intro u hu; simp at hu; omega)), ev_some, w64 (by omega) (by omega), puts_cons, puts_nil, List.append_nil]
     rfl
    ·rw [if_neg h3] at h
     exact absurd h (by simp)
 ·rw [if_neg h, if_neg (by omega), if_neg h, ev_some]
theorem garnerref24_Put_ev (kd : Int) (l : List S52) (t v c i : Int) (hl : l.length ≤ 140737488351232) (hg : ∀ e ∈ l, goodN e) (h : mayRec kd (prsN l) t v c i = true) : Ev (fun k => garnerref24_Put.f k kd l t v c i) (kd + 10, bodyRec kd (prsN l) t v c i) := by
 simp only [garnerref24_Put.f, ev_ite]
 unfold bodyRec
 unfold mayRec at h
 by_cases h1 : kd = 1
 ·subst h1
  rw [if_pos rfl] at h
  rw [if_pos rfl, if_pos rfl, ev_bind (garnerref06_Put_ev l hg (by simp at h; exact h.2)), ev_succ]
  simp only [garnerref24_Put.j0, ev_ite]
  rw [if_neg (by decide), if_neg (by decide), ev_some, w64 (by omega) (by omega)]
  rfl
 ·rw [if_neg h1] at h
  rw [if_neg h1, if_neg h1, ev_succ]
  simp only [garnerref24_Put.j0, ev_ite]
  by_cases h2 : kd = 2
  ·subst h2
   rw [if_pos rfl] at h
   rw [if_pos rfl, if_pos rfl, ev_bind (garnerref22_Put_ev (by simp at h; exact h.2)), ev_ite, if_neg (by decide), ev_some, w64 (by omega) (by omega)]
   rfl
  ·rw [if_neg h2] at h
   rw [if_neg h2, if_neg h2]
   by_cases h3 : kd = 3
   ·subst h3
    rw [if_pos rfl, decide_eq_true_eq] at h
    have hu : IntKind.u64.wrap i = i := wu64 (by omega) (by omega)
    have ho := garnerref02_One_ev i.toNat (by omega)
    rw [show ((i.toNat : Nat) : Int) = i by omega] at ho
    rw [if_pos rfl, hu, ev_bind ho, ev_some, w64 (by omega) (by omega)]
    rfl
   ·rw [if_neg h3] at h
    exact absurd h (by simp)
def sameE (x y : S52) : Bool := decide (x.f0 = y.f0 ∧ x.f1 = y.f1 ∧ x.f2 = y.f2 ∧ x.f3.toList = y.f3.toList ∧ (x.f4.f0 == y.f4.f0) = true ∧ (x.f4.f2.f0 == y.f4.f2.f0 && (x.f4.f2.f1 == y.f4.f2.f1 && (x.f4.f2.f2 == y.f4.f2.f2 && (x.f4.f2.f3 == y.f4.f2.f3)))) = true ∧ x.f4.f1 = y.f4.f1)
def sameL (a b : List S52) : Bool := decide (a.length = b.length) && (a.zip b).all fun p => sameE p.1 p.2
theorem sameE_self (x : S52) : sameE x x = true := by
 unfold sameE
 simp
theorem sameL_self (a : List S52) : sameL a a = true := by
 unfold sameL
 rw [decide_eq_true rfl, Bool.true_and]
 induction a with
 | nil => rfl
 | cons x a ih =>
  rw [List.zip_cons_cons, List.all_cons, ih, sameE_self]
  rfl
theorem zip_drop {a b : List S52} (h : a.length = b.length) {j : Nat} (hj : j < a.length) : (a.drop j).zip (b.drop j) = (rd_T52 a (j : Int), rd_T52 b (j : Int)) :: (a.drop (j + 1)).zip (b.drop (j + 1)) := by
 rw [dropN_eq (l := a) hj, dropN_eq (l := b) (by omega), List.zip_cons_cons]
theorem entry_Same_1_ev {x y : S52} (hx : Bytes x.f4.f1) (hy : Bytes y.f4.f1) : entry_Same_1.f x.f0 x.f1 x.f2 x.f3 x.f4.f0 x.f4.f1 x.f4.f2.f0 x.f4.f2.f1 x.f4.f2.f2 x.f4.f2.f3 y.f0 y.f1 y.f2 y.f3 y.f4.f0 y.f4.f1 y.f4.f2.f0 y.f4.f2.f1 y.f4.f2.f2 y.f4.f2.f3 = some (sameE x y) := by
 unfold entry_Same_1.f sameE cell_Same.f
 rw [bytes_Equal_ev hx hy]
 repeat' split
 all_goals simp_all
theorem entry_Same_ev (a b : List S52) (ha : a.length ≤ 140737488351232) (hga : ∀ e ∈ a, goodN e) (hgb : ∀ e ∈ b, goodN e) : Ev (fun k => entry_Same.f k a b) (sameL a b) := by
 have main : a.length = b.length → ∀ (d j : Nat), a.length - j = d → j ≤ a.length → Ev (fun k => slices_EqualFunc_api_Entry.l0 k b a (a.length : Int) (j : Int)) (((a.drop j).zip (b.drop j)).all fun p => sameE p.1 p.2) := by
  intro hab d
  induction d with
  | zero =>
   intro j hd hj
   rw [ev_succ]
   simp only [slices_EqualFunc_api_Entry.l0, ev_ite]
   rw [if_neg (by omega), ev_some, List.drop_eq_nil_of_le (by omega)]
   rfl
  | succ d ih =>
   intro j hd hj
   have hjl : j < a.length := by omega
   have g1 := hga _ (rdN_mem hjl)
   have g2 := hgb _ (rdN_mem (show j < b.length by omega))
   have hw : wrap64 ((j : Int) + 1) = ((j + 1 : Nat) : Int) := w64 (by omega) (by omega)
   rw [zip_drop hab hjl, List.all_cons, ev_succ]
   simp only [slices_EqualFunc_api_Entry.l0, ev_ite, hw, entry_Same_1_ev g1.2.2.2.2.1 g2.2.2.2.2.1, Option.bind_some]
   rw [if_pos (by omega), if_pos (by omega), if_pos (by omega), if_pos (by omega)]
   by_cases h : sameE (rd_T52 a (j : Int)) (rd_T52 b (j : Int)) = true
   ·rw [if_pos h, h, Bool.true_and]
    exact ih (j + 1) (by omega) (by omega)
   ·rw [if_neg h, ev_some, Bool.not_eq_true] at *
    rw [h, Bool.false_and]
 simp only [entry_Same.f]
 have hs : Ev (fun k => slices_EqualFunc_api_Entry.f k a b) (sameL a b) := by
  simp only [slices_EqualFunc_api_Entry.f, ev_ite]
  unfold sameL
  by_cases h : a.length = b.length
  ·rw [if_pos (by omega), decide_eq_true h, Bool.true_and]
   exact main h (a.length - 0) 0 rfl (by omega)
  ·rw [if_neg (by omega), ev_some, decide_eq_false h, Bool.false_and]
 rw [ev_bind hs, ev_some]
theorem garnerref06_Same_ev (a b : List S52) (ha : a.length ≤ 140737488351232) (hga : ∀ e ∈ a, goodN e) : Ev (fun k => garnerref06_Same.f k a b) (sameL a b) := by
 have main : a.length = b.length → ∀ (d j : Nat), a.length - j = d → j ≤ a.length → Ev (fun k => garnerref06_Same.l0 k a b (j : Int)) (((a.drop j).zip (b.drop j)).all fun p => sameE p.1 p.2) := by
  intro hab d
  induction d with
  | zero =>
   intro j hd hj
   rw [ev_succ]
   simp only [garnerref06_Same.l0, ev_ite]
   rw [if_neg (by omega), ev_some, List.drop_eq_nil_of_le (by omega)]
   rfl
  | succ d ih =>
   intro j hd hj
   have hjl : j < a.length := by omega
   have g1 := hga _ (rdN_mem hjl)
   have hw : wrap64 ((j : Int) + 1) = ((j + 1 : Nat) : Int) := w64 (by omega) (by omega)
   rw [zip_drop hab hjl, List.all_cons, ev_succ]
   simp only [garnerref06_Same.l0, ev_ite, hw]
   generalize rd_T52 a (j : Int) = x at g1 ⊢
   generalize rd_T52 b (j : Int) = y
   rw [if_pos (by omega), if_pos (by omega), if_pos (by omega)]
   have hc : Ev (fun k => garnerref05_Same.f k x.f4.f0 x.f4.f1 x.f4.f2.f0 x.f4.f2.f1 x.f4.f2.f2 x.f4.f2.f3 y.f4.f0 y.f4.f1 y.f4.f2.f0 y.f4.f2.f1 y.f4.f2.f2 y.f4.f2.f3) (decide ((x.f4.f0 == y.f4.f0) = true ∧ (x.f4.f2.f0 == y.f4.f2.f0 && (x.f4.f2.f1 == y.f4.f2.f1 && (x.f4.f2.f2 == y.f4.f2.f2 && (x.f4.f2.f3 == y.f4.f2.f3)))) = true ∧ x.f4.f1 = y.f4.f1)) := by
    have hlx : x.f4.f1.length ≤ maxLen := by have := g1.2.2.2.1; unfold maxLen; omega
    simp only [garnerref05_Same.f, ev_ite]
    by_cases h1 : (x.f4.f0 == y.f4.f0) = true
    ·rw [if_pos h1]
     by_cases h2 : (x.f4.f2.f0 == y.f4.f2.f0 && (x.f4.f2.f1 == y.f4.f2.f1 && (x.f4.f2.f2 == y.f4.f2.f2 && (x.f4.f2.f3 == y.f4.f2.f3)))) = true
     ·rw [if_pos h2, ev_bind (garnerref02_Bytes_ev hlx), ev_some, decide_eq_decide]
      exact ⟨fun h => ⟨h1, h2, h⟩, fun h => h.2.2⟩
     ·rw [if_neg h2, ev_some]
      symm
      rw [decide_eq_false_iff_not]
      exact fun h => h2 h.2.1
    ·rw [if_neg h1, ev_some]
     symm
     rw [decide_eq_false_iff_not]
     exact fun h => h1 h.1
   have hih := ih (j + 1) (by omega) (by omega)
   by_cases c1 : x.f0 = y.f0
   ·rw [if_pos c1]
    by_cases c2 : x.f1 = y.f1
    ·rw [if_pos c2]
     by_cases c3 : x.f2 = y.f2
     ·rw [if_pos c3]
      by_cases c4 : x.f3.toList = y.f3.toList
      ·rw [if_pos c4, ev_bind hc, ev_ite]
       by_cases c5 : (x.f4.f0 == y.f4.f0) = true ∧ (x.f4.f2.f0 == y.f4.f2.f0 && (x.f4.f2.f1 == y.f4.f2.f1 && (x.f4.f2.f2 == y.f4.f2.f2 && (x.f4.f2.f3 == y.f4.f2.f3)))) = true ∧ x.f4.f1 = y.f4.f1
       ·rw [if_pos (decide_eq_true c5), show sameE x y = true from decide_eq_true ⟨c1, c2, c3, c4, c5⟩, Bool.true_and]
        exact hih
       ·rw [if_neg (by rw [decide_eq_true_eq]; exact c5), ev_some, show sameE x y = false from decide_eq_false fun h => c5 h.2.2.2.2, Bool.false_and]
      ·rw [if_neg c4, ev_some, show sameE x y = false from decide_eq_false fun h => c4 h.2.2.2.1, Bool.false_and]
     ·rw [if_neg c3, ev_some, show sameE x y = false from decide_eq_false fun h => c3 h.2.2.1, Bool.false_and]
    ·rw [if_neg c2, ev_some, show sameE x y = false from decide_eq_false fun h => c2 h.2.1, Bool.false_and]
   ·rw [if_neg c1, ev_some, show sameE x y = false from decide_eq_false fun h => c1 h.1, Bool.false_and]
 simp only [garnerref06_Same.f, ev_ite]
 unfold sameL
 by_cases h : a.length = b.length
 ·rw [if_pos (by omega), decide_eq_true h, Bool.true_and]
  exact main h (a.length - 0) 0 rfl (by omega)
 ·rw [if_neg (by omega), ev_some, decide_eq_false h, Bool.false_and]
def sameR (kd : Int) (l : List S52) (t v c i kd' : Int) (l' : List S52) (t' v' c' i' : Int) : Bool :=
 if kd = kd' then (if (t == t' && (v == v' && (c == c'))) = true then (if i = i' then sameL l l' else false) else false) else false
theorem wal_Same_ev (kd : Int) (l : List S52) (t v c i kd' : Int) (l' : List S52) (t' v' c' i' : Int) (ha : l.length ≤ 140737488351232) (hga : ∀ e ∈ l, goodN e) (hgb : ∀ e ∈ l', goodN e) : Ev (fun k => wal_Same.f k kd l t v c i kd' l' t' v' c' i') (sameR kd l t v c i kd' l' t' v' c' i') := by
 simp only [wal_Same.f, ev_ite]
 unfold sameR
 repeat' split
 ·rw [ev_bind (entry_Same_ev l l' ha hga hgb), ev_some]
 all_goals rw [ev_some]
theorem garnerref24_Same_ev (kd : Int) (l : List S52) (t v c i kd' : Int) (l' : List S52) (t' v' c' i' : Int) (ha : l.length ≤ 140737488351232) (hga : ∀ e ∈ l, goodN e) : Ev (fun k => garnerref24_Same.f k kd l t v c i kd' l' t' v' c' i') (sameR kd l t v c i kd' l' t' v' c' i') := by
 simp only [garnerref24_Same.f, ev_ite]
 unfold sameR
 repeat' split
 ·rw [ev_bind (garnerref06_Same_ev l l' ha hga), ev_some]
 all_goals rw [ev_some]
theorem garnerlaw24_Light_two (x y : S30) (hx : x.f1.length ≤ 140737488351232) (hy : y.f1.length ≤ 140737488351232) : Ev (fun k => garnerlaw24_Light.f k [x, y]) (lightN (prsN x.f1) && lightN (prsN y.f1)) := by
 have r0 : rd_T30 [x, y] 0 = x := rfl
 have r1 : rd_T30 [x, y] 1 = y := rfl
 have ll : (([x, y] : List S30).length : Int) = 2 := rfl
 have w1 : wrap64 (0 + 1) = 1 := by rw [w64 (by omega) (by omega)]; rfl
 have w2 : wrap64 (1 + 1) = 2 := by rw [w64 (by omega) (by omega)]; rfl
 have e2 : Ev (fun k => garnerlaw24_Light.l0 k [x, y] 2) true := by
  rw [ev_succ]
  simp only [garnerlaw24_Light.l0, ev_ite, ll]
  rw [if_neg (by decide), ev_succ]
  simp only [garnerlaw24_Light.j1, ev_ite, ll]
  rw [if_neg (by decide), ev_some]
  rfl
 have e1 : Ev (fun k => garnerlaw24_Light.l0 k [x, y] 1) (lightN (prsN y.f1)) := by
  rw [ev_succ]
  simp only [garnerlaw24_Light.l0, ev_ite, ll]
  rw [if_pos (by decide), ev_succ]
  simp only [garnerlaw24_Light.j1, ev_ite, ll, r1, w2]
  rw [if_pos (by decide), if_pos (by decide), if_pos (by decide), ev_bind (garnerlaw06_Light_ev y.f1 hy), ev_ite]
  cases lightN (prsN y.f1)
  ·rw [if_neg (by decide), ev_some]
  ·rw [if_pos rfl]
   exact e2
 simp only [garnerlaw24_Light.f]
 rw [ev_succ]
 simp only [garnerlaw24_Light.l0, ev_ite, ll]
 rw [if_pos (by decide), ev_succ]
 simp only [garnerlaw24_Light.j1, ev_ite, ll, r0, w1]
 rw [if_pos (by decide), if_pos (by decide), if_pos (by decide), ev_bind (garnerlaw06_Light_ev x.f1 hx), ev_ite]
 cases lightN (prsN x.f1)
 ·rw [if_neg (by decide), ev_some, Bool.false_and]
 ·rw [if_pos rfl, Bool.true_and]
  exact e1
theorem walR_body {kd : Int} {l : List S52} {t v c i : Int} (hg : ∀ e ∈ l, goodN e) (h : mayRec kd (prsN l) t v c i = true) : walR (kd + 10) (bodyRec kd (prsN l) t v c i) = (kd, l, t, v, c, i) := by
 have hu : ∀ e ∈ prsN l, 0 ≤ e.u ∧ e.u < 4294967296 := by
  intro e he
  obtain ⟨x, hx, rfl⟩ := List.mem_map.1 he
  exact (hg x hx).2.2.2.2.2
 unfold mayRec at h
 unfold walR bodyRec
 by_cases h1 : kd = 1
 ·subst h1
  rw [if_pos rfl, Bool.and_eq_true, decide_eq_true_eq] at h
  obtain ⟨⟨rfl, rfl, rfl, rfl⟩, hb⟩ := h
  have hne : prsN l ≠ [] := by
   have := (batchB_iff.1 hb).1
   intro e
   rw [e] at this
   simp at this
  rw [if_pos (by decide), if_pos rfl, getB_put hb hu, if_neg hne, mkN_prsN]
 ·rw [if_neg h1] at h
  rw [if_neg (by omega), if_neg h1]
  by_cases h2 : kd = 2
  ·subst h2
   rw [if_pos rfl, Bool.and_eq_true, decide_eq_true_eq, prsN_len] at h
   obtain ⟨⟨hl, rfl⟩, hb⟩ := h
   rw [if_pos (by decide), if_pos rfl, hardR_puts hb, if_pos rfl, List.length_eq_zero_iff.1 hl]
  ·rw [if_neg h2] at h
   rw [if_neg (by omega), if_neg h2]
   by_cases h3 : kd = 3
   ·subst h3
    rw [if_pos rfl, decide_eq_true_eq, prsN_len] at h
    obtain ⟨hl, rfl, rfl, rfl, hi1, hi2⟩ := h
    have hr := getR_one (u := i.toNat) (by omega) []
    rw [List.append_nil] at hr
    rw [if_pos (by decide), hr, if_pos ⟨rfl, rfl, by omega, by omega⟩, List.length_eq_zero_iff.1 hl, show ((i.toNat : Nat) : Int) = i by omega]
   ·rw [if_neg h3] at h
    exact absurd h (by simp)
theorem body_good {kd : Int} {l : List S52} {t v c i : Int} (hg : ∀ e ∈ l, goodN e) (h : mayRec kd (prsN l) t v c i = true) : Bytes (bodyRec kd (prsN l) t v c i) ∧ (bodyRec kd (prsN l) t v c i).length ≤ 3000 := by
 unfold mayRec at h
 unfold bodyRec
 by_cases h1 : kd = 1
 ·subst h1
  rw [if_pos rfl, Bool.and_eq_true] at h
  obtain ⟨hb1, hb2⟩ := batchB_iff.1 h.2
  have hmem := batchFrom_mem hb2
  have hbb : ∀ e ∈ prsN l, Bytes e.b := by
   intro e he
   obtain ⟨x, hx, rfl⟩ := List.mem_map.1 he
   exact (hg x hx).2.2.2.2.1
  rw [if_pos rfl]
  refine ⟨putB_bytes hmem hbb, ?_⟩
  have hf := firstI_range hmem
  have hpl := puts_len (l := [((prsN l).length : Int), firstI (prsN l)]) (by
   intro u hu
   simp only [List.mem_cons, List.not_mem_nil, or_false] at hu
   omega)
  have key : ∀ l : List Ent, (∀ e ∈ l, mayN e = true) → (putNs l).length ≤ 128 * l.length := by
   intro l
   induction l with
   | nil => intro _; simp [putNs]
   | cons e l ih =>
    intro h
    have h3 := putN_len (h e (by simp))
    have h4 := ih fun x hx => h x (by simp [hx])
    rw [putNs_cons, List.length_append, List.length_cons]
    omega
  have hk := key _ hmem
  unfold putB
  rw [List.length_append]
  simp only [List.length_cons, List.length_nil] at hpl
  omega
 ·rw [if_neg h1] at h
  rw [if_neg h1]
  by_cases h2 : kd = 2
  ·subst h2
   rw [if_pos rfl, Bool.and_eq_true] at h
   have hm := mayH_iff.1 h.2
   rw [if_pos rfl]
   refine ⟨puts_bytes _, ?_⟩
   have hpl := puts_len (l := [t, v, c]) (by
    intro u hu
    simp only [List.mem_cons, List.not_mem_nil, or_false] at hu
    omega)
   simp only [List.length_cons, List.length_nil] at hpl
   omega
  ·rw [if_neg h2] at h
   rw [if_neg h2]
   by_cases h3 : kd = 3
   ·rw [if_pos h3, decide_eq_true_eq] at h
    have := one_len10 (u := i.toNat) (by omega)
    exact ⟨one_bytes _, by omega⟩
   ·rw [if_neg h3] at h
    exact absurd h (by simp)
theorem WalPuts : StWalPuts.Pure := by
 intro kd l t v c i kd' l' t' v' c' i' hk hl hl2 hg0 ht hv hc hi hk' hl' hl2' hg0' ht' hv' hc' hi'
 have conv : ∀ l : List S52, (∀ y ∈ l, StWalPuts.g52 y) → ∀ e ∈ l, goodN e := fun l hg0 e he => by
  obtain ⟨h1, h2, h3, h4, h5⟩ := hg0 e he
  obtain ⟨_, ⟨h6, h7, h8⟩, h9⟩ := h5
  obtain ⟨_, _, _, h10⟩ := h9
  have h10 := wf_u32 h10
  exact ⟨wf_i64 h1, wf_i64 h2, h4, by omega, Bytes.of_wf h8, h10.1, by omega⟩
 have hg := conv l hg0
 have hg' := conv l' hg0'
 have hll : l.length ≤ 140737488351232 := by omega
 have hll' : l'.length ≤ 140737488351232 := by omega
 have fin : Ev (fun k => (garnerlaw24_awake.f k).bind fun t => some t) true := by rw [ev_bind garnerlaw24_awake_ev, ev_some]
 refine Ev.rounds (g := fun k => garnerlaw24_WalPuts.f k kd l t v c i kd' l' t' v' c' i') ?_
 simp only [garnerlaw24_WalPuts.f]
 rw [ev_bind (garnerlaw24_Light_two _ _ hll hll'), ev_ite]
 by_cases hL : (lightN (prsN l) && lightN (prsN l')) = true
 ·rw [if_pos hL, ev_bind (wal_Same_ev kd l t v c i kd' l' t' v' c' i' hll hg hg'), ev_bind (garnerref24_Same_ev kd l t v c i kd' l' t' v' c' i' hll hg), ev_ite, if_neg (by simp), ev_bind (wal_Put_ev kd l t v c i hll hg), ev_bind (garnerref24_May_ev kd l t v c i hll hg), ev_ite]
  by_cases hm : mayRec kd (prsN l) t v c i = true
  ·obtain ⟨hb, hbl⟩ := body_good hg hm
   have hwal := walR_body hg hm
   have hk0 : kd ≠ 0 := by
    intro e
    rw [e] at hm
    unfold mayRec at hm
    simp at hm
   have hget := wal_Get_ev (kd + 10) hb (by omega)
   rw [hwal] at hget
   simp only [hk0, if_false] at hget
   have hfs : Ev (fun k => garnerref03_Same.f k [(⟨kd + 10, bodyRec kd (prsN l) t v c i⟩ : S24)] [(⟨kd + 10, bodyRec kd (prsN l) t v c i⟩ : S24)]) true := by
    refine ev_eq (garnerref03_Same_ev (by unfold maxLen; simp) (by
     intro f hf
     rw [List.mem_singleton.1 hf]
     unfold maxLen
     simp only
     omega)) ?_
    exact decide_eq_true rfl
   have hss := garnerref24_Same_ev kd l t v c i kd l t v c i hll hg
   have hsr : sameR kd l t v c i kd l t v c i = true := by
    unfold sameR
    simp [sameL_self]
   rw [hsr] at hss
   rw [if_pos hm, if_pos hm]
   simp only
   rw [ev_bind hget, ev_bind (wal_Check_ev kd l t v c i hll hg), if_pos hm, ev_ite, if_pos (by trivial), ev_ite, if_pos (by trivial), ev_bind (garnerref24_Put_ev kd l t v c i hll hg hm), ev_bind hfs, ev_ite, if_pos (by trivial), ev_ite, if_pos (by trivial), ev_bind hss, ev_ite, if_pos (by trivial)]
   exact fin
  ·have hfs : Ev (fun k => garnerref03_Same.f k [(⟨0, []⟩ : S24)] [(⟨0, []⟩ : S24)]) true := by
    refine ev_eq (garnerref03_Same_ev (by unfold maxLen; simp) (by
     intro f hf
     rw [List.mem_singleton.1 hf]
     exact Nat.zero_le _)) ?_
    exact decide_eq_true rfl
   rw [if_neg hm, if_neg hm]
   simp only
   rw [ev_bind (wal_Check_ev kd l t v c i hll hg), if_neg hm, ev_ite, if_pos (by trivial), ev_ite, if_pos (by trivial), ev_bind hfs, ev_ite, if_pos (by trivial)]
   exact fin
 ·rw [if_neg hL]
  exact fin
end Go.Proofs.Ytdanmjfkocjgjaa.Pure
