/- The pure statement of the law EntryReads: what the printed functions answer, each by its plain law, and that the law's answer is true. -/
import Derived.Test.YtpplclcgkcjmpaaPEntryReadsx0
import Derived.Test.YtpplclcgkcjmpaaPEntryReadsx1
import Derived.Test.YtpplclcgkcjmpaaPEntryReadsx2
import Derived.Test.YtpplclcgkcjmpaaPEntryReadsx3
import Derived.Test.YtpplclcgkcjmpaaPEntryReadsx4
import Derived.Test.YtpplclcgkcjmpaaPEntryReadsx5
import Derived.Test.YtpplclcgkcjmpaaPEntryReadsx6
import Derived.Test.YtpplclcgkcjmpaaPEntryReadsx7
import Derived.Test.YtpplclcgkcjmpaaPEntryReadsx8
import Derived.Test.YtpplclcgkcjmpaaPEntryReadsx9
import Derived.Test.YtpplclcgkcjmpaaPEntryReadsx10
import Derived.Test.YtpplclcgkcjmpaaPEntryReadsx11
import Derived.Test.YtpplclcgkcjmpaaPEntryReadsx12
import Derived.Test.YtpplclcgkcjmpaaStEntryReads
import Derived.Test.YtpplclcgkcjmpaaQSz
import Derived.Test.YtpplclcgkcjmpaaQV02
import Derived.Test.YtpplclcgkcjmpaaQV07
import Derived.Test.YtpplclcgkcjmpaaQF06
import Derived.Test.YtpplclcgkcjmpaaQV04
import Derived.Test.YtpplclcgkcjmpaaQG06
import Derived.Test.YtpplclcgkcjmpaaQH06
namespace Go.Proofs.Ytpplclcgkcjmpaa.Pure
open Go.RowKit Go.Proofs.Ytpplclcgkcjmpaa.PEntryReads Go.Proofs.Ytpplclcgkcjmpaa.U Go.Proofs.YtpplclcgkcjmpaaW.PrintWords Go.Proofs.YtpplclcgkcjmpaaW.PrintLast Go.Proofs.YtpplclcgkcjmpaaW.PrintMore
set_option linter.unusedVariables false
set_option linter.unusedSimpArgs false
set_option maxRecDepth 4000
def prN (e : S42) : Ent := ⟨e.f0, e.f1, e.f2, e.f3, e.f4.f0, e.f4.f1, e.f4.f2.f0, e.f4.f2.f1, e.f4.f2.f2, e.f4.f2.f3⟩
def prsN (l : List S42) : List Ent := l.map prN
theorem prsN_len (l : List S42) : (prsN l).length = l.length := by simp [prsN]
theorem rdN_get {l : List S42} {i : Nat} (h : i < l.length) : rd_T42 l (i : Int) = l[i] := by
  simp [rd_T42, h]
theorem dropN_eq {l : List S42} {i : Nat} (h : i < l.length) : l.drop i = rd_T42 l (i : Int) :: l.drop (i + 1) := by
  rw [rdN_get h]
  exact List.drop_eq_getElem_cons h
theorem rdN_mem {l : List S42} {i : Nat} (h : i < l.length) : rd_T42 l (i : Int) ∈ l := by
  rw [rdN_get h]
  exact List.getElem_mem _
def goodN (e : S42) : Prop := (-9223372036854775808 ≤ e.f0 ∧ e.f0 ≤ 9223372036854775807) ∧ (-9223372036854775808 ≤ e.f1 ∧ e.f1 ≤ 9223372036854775807) ∧ e.f3.size ≤ 140737488351232 ∧ e.f4.f1.length ≤ 140737488351232 ∧ Bytes e.f4.f1 ∧ (0 ≤ e.f4.f2.f3 ∧ e.f4.f2.f3 < 4294967296)
def mkN (e : Ent) : S42 := ⟨e.i, e.t, e.k, e.key, ⟨e.far, e.b, ⟨e.s, e.a, e.n, e.u⟩⟩⟩
theorem mkN_prN (e : S42) : mkN (prN e) = e := rfl
theorem mkN_prsN (l : List S42) : (prsN l).map mkN = l := by
  unfold prsN
  rw [List.map_map]
  exact (List.map_congr_left (fun e _ => mkN_prN e)).trans (List.map_id' l)
theorem entR_good {b : List Int} (hb : Bytes b) {i : Int} {e : Ent} {m : Nat} (h : entR i b = some (e, m)) (hi : 0 ≤ i ∧ i ≤ 9223372036854775807) : goodN (mkN e) := by
  obtain ⟨h1, h2, rfl, h4, h5, h6, h7, h8, h9⟩ := entR_le hb h
  exact ⟨⟨by simp only [mkN]; omega, hi.2⟩, ⟨by simp only [mkN]; omega, by simp only [mkN]; omega⟩, by simp only [mkN]; omega, by simp only [mkN]; omega, h8, h9⟩
theorem bytes_Equal_ev {a b : List Int} (ha : Bytes a) (hb : Bytes b) : bytes_Equal.f a b = some (decide (a = b)) := by
  unfold bytes_Equal.f
  congr 1
  rw [Bool.eq_iff_iff, beq_iff_eq, decide_eq_true_eq, toList_eq_iff, bytes_str ha, bytes_str hb]
theorem zero_is (s a n u : Int) : (s == 0 && (a == 0 && (n == 0 && (u == 0)))) = zeroP s a n u := by
  unfold zeroP
  rw [Bool.eq_iff_iff]
  simp only [Bool.and_eq_true, beq_iff_eq, decide_eq_true_eq]
theorem cell_Same_plain {far : Bool} {b : List Int} (hb : Bytes b) (s a n u : Int) : cell_Same.f far b s a n u false ([] : List Int) 0 0 0 0 = some (plainC far b s a n u) := by
  unfold cell_Same.f plainC
  rw [zero_is, bytes_Equal_ev hb Bytes.nil]
  cases far with
  | true =>
    rw [if_neg (by simp)]
    rfl
  | false =>
    rw [if_pos (by simp)]
    by_cases h : zeroP s a n u = true
    · rw [if_pos h, h]
      simp
    · rw [if_neg h, Bool.not_eq_true] at *
      rw [h]
      simp
theorem point_Check_ev (s a l u : Int) : point_Check.f s a l u = some (if mayP s a l = true then 0 else 1) := by
  simp only [point_Check.f, mayP_iff]
  repeat' split
  all_goals first | rfl | omega
theorem zero_not (s a n u : Int) : (!(s == 0) || (!(a == 0) || (!(n == 0) || (!(u == 0))))) = !zeroP s a n u := by
  unfold zeroP
  rw [Bool.eq_iff_iff]
  simp only [Bool.or_eq_true, Bool.not_eq_true', beq_eq_false_iff_ne, decide_eq_false_iff_not]
  omega
theorem cell_Check_ev (far : Bool) (b : List Int) (s a n u : Int) : cell_Check.f far b s a n u = some (if mayC far b s a n u = true then 0 else 1) := by
  unfold cell_Check.f mayC
  cases far with
  | true =>
    rw [if_pos rfl, if_pos rfl]
    by_cases h : b.length = 0
    · rw [if_neg (by omega), point_Check_ev, decide_eq_true h, Bool.true_and]
      rfl
    · rw [if_pos (by omega), decide_eq_false h]
      rfl
  | false =>
    simp only [Bool.false_eq_true, if_false]
    rw [zero_not]
    by_cases h : b.length ≤ 32
    · rw [if_neg (by omega), decide_eq_true h, Bool.true_and]
      cases zeroP s a n u <;> rfl
    · rw [if_pos (by omega), decide_eq_false h]
      rfl
theorem entry_counts_ev (n : Int) : entry_counts.f n = some (decide (1 ≤ n ∧ n ≤ 2147483647)) := by
  unfold entry_counts.f
  split
  · congr 1
    rw [decide_eq_decide]
    omega
  · congr 1
    symm
    rw [decide_eq_false_iff_not]
    omega
theorem toList_nil (s : ByteArray) : s.toList = [] ↔ s.size = 0 := by
  have h := toList_lit s [] Bytes.nil
  have e : u8s [] = [] := rfl
  rw [e] at h
  rw [h, ← List.length_eq_zero_iff, bytesOf_length]
theorem key_bool (s : ByteArray) (n : Int) : ((s.toList == ([] : List UInt8)) != (n == 0)) = !decide (s.size = 0 ↔ n = 0) := by
  have h := toList_nil s
  by_cases h1 : s.size = 0
  · rw [h.2 h1]
    by_cases h2 : n = 0
    · simp [h1, h2]
    · simp [h1, h2]
  · have h3 : ¬ s.toList = [] := fun e => h1 (h.1 e)
    have e1 : (s.toList == ([] : List UInt8)) = false := beq_eq_false_iff_ne.2 h3
    rw [e1]
    by_cases h2 : n = 0
    · simp [h1, h2]
    · simp [h1, h2]
theorem entry_Check_ev {e : Ent} (hb : Bytes e.b) : Ev (fun k => entry_Check.f k e.i e.t e.k e.key e.far e.b e.s e.a e.n e.u) (if mayN e = true then 0 else 1) := by
  have hno : headN e = false → mayN e = false := fun h => by
    unfold mayN
    rw [h, Bool.false_and]
  have hnot : ¬ (1 ≤ e.i ∧ e.i ≤ 2147483647 ∧ 1 ≤ e.t ∧ e.t ≤ 2147483647 ∧ 0 ≤ e.k ∧ e.k ≤ 2 ∧ e.key.size ≤ 64 ∧ (e.key.size = 0 ↔ e.k = 0)) → mayN e = false := fun h => hno (by
    unfold headN
    exact decide_eq_false h)
  have bad1 : mayN e = false → Ev (fun k => entry_Check.j1 k true e.i e.t e.k e.key e.far e.b e.s e.a e.n e.u) (if mayN e = true then (0 : Int) else 1) := by
    intro h
    rw [h, ev_succ]
    simp only [entry_Check.j1, ev_ite]
    rw [if_pos (by trivial), ev_some]
    rfl
  have bad0 : mayN e = false → Ev (fun k => entry_Check.j0 k true e.i e.t e.k e.key e.far e.b e.s e.a e.n e.u) (if mayN e = true then (0 : Int) else 1) := by
    intro h
    rw [h, ev_succ]
    simp only [entry_Check.j0, ev_ite]
    rw [if_pos (by trivial), ev_some]
    rfl
  simp only [entry_Check.f]
  rw [ev_bind_c (entry_counts_ev _), ev_ite]
  by_cases h1 : 1 ≤ e.i ∧ e.i ≤ 2147483647
  · rw [if_pos (by simpa using h1), ev_bind_c (entry_counts_ev _), ev_ite]
    by_cases h2 : 1 ≤ e.t ∧ e.t ≤ 2147483647
    · rw [if_pos (by simpa using h2), ev_ite]
      by_cases h3 : e.k < 0
      · rw [if_pos h3]
        exact bad0 (hnot (by omega))
      · rw [if_neg h3]
        by_cases h4 : e.k > 2
        · rw [decide_eq_true h4]
          exact bad0 (hnot (by omega))
        · rw [decide_eq_false h4, ev_succ]
          simp only [entry_Check.j0, ev_ite]
          rw [if_neg (by simp)]
          by_cases h5 : e.key.size > 64
          · rw [if_pos (by omega)]
            exact bad1 (hnot (by omega))
          · rw [if_neg (by omega), key_bool]
            by_cases h6 : e.key.size = 0 ↔ e.k = 0
            · have hh : headN e = true := headN_iff.2 ⟨h1.1, h1.2, h2.1, h2.2, by omega, by omega, by omega, h6⟩
              rw [decide_eq_true h6, ev_succ]
              simp only [entry_Check.j1, ev_ite]
              rw [if_neg (by simp)]
              unfold mayN
              rw [hh, Bool.true_and]
              by_cases h7 : e.k = 2
              · rw [if_pos h7, decide_eq_false (by omega), Bool.false_or, ev_bind_c (cell_Same_plain hb _ _ _ _), ev_ite]
                by_cases h8 : plainC e.far e.b e.s e.a e.n e.u = true
                · rw [if_pos h8, h8, Bool.true_and, ev_bind_c (cell_Check_ev _ _ _ _ _ _), ev_some]
                · rw [if_neg h8, ev_some]
                  rw [Bool.not_eq_true] at h8
                  rw [h8]
                  rfl
              · rw [if_neg h7, decide_eq_true h7, Bool.true_or, Bool.true_and, ev_bind_c (cell_Check_ev _ _ _ _ _ _), ev_some]
            · rw [decide_eq_false h6]
              exact bad1 (hnot (by omega))
    · rw [if_neg (by simpa using h2)]
      exact bad0 (hnot (by omega))
  · rw [if_neg (by simpa using h1)]
    exact bad0 (hnot (by omega))
theorem batch_none (e : Ent) (l : List Ent) : batchFrom none (e :: l) = (mayN e && batchFrom (some (e.i, e.t)) l) := rfl
theorem batch_some (i t : Int) (e : Ent) (l : List Ent) : batchFrom (some (i, t)) (e :: l) = (mayN e && (decide (e.i = i + 1 ∧ t ≤ e.t) && batchFrom (some (e.i, e.t)) l)) := rfl
theorem entry_Batch_ev (l : List S42) (hl : l.length ≤ 140737488351232) (hg : ∀ e ∈ l, goodN e) : Ev (fun k => entry_Batch.f k l) (if batchB (prsN l) = true then 0 else 1) := by
  have main : ∀ (d j : Nat) (p : Option (Int × Int)), l.length - j = d → j ≤ l.length → (j = 0 → p = none) → (∀ i : Nat, j = i + 1 → p = some ((rd_T42 l (i : Int)).f0, (rd_T42 l (i : Int)).f1) ∧ 1 ≤ (rd_T42 l (i : Int)).f0 ∧ (rd_T42 l (i : Int)).f0 ≤ 2147483647) →
      Ev (fun k => entry_Batch.l0 k l l (l.length : Int) (j : Int)) (if batchFrom p (prsN (l.drop j)) = true then (0 : Int) else 1) := by
    intro d
    induction d with
    | zero =>
      intro j p hd hj _ _
      rw [ev_succ]
      simp only [entry_Batch.l0, ev_ite]
      rw [if_neg (by omega), ev_some, List.drop_eq_nil_of_le (by omega)]
      cases p <;> rfl
    | succ d ih =>
      intro j p hd hj h0 hs
      have hjl : j < l.length := by omega
      have hgj := hg _ (rdN_mem hjl)
      have ih' := fun (hr : 1 ≤ (rd_T42 l (j : Int)).f0 ∧ (rd_T42 l (j : Int)).f0 ≤ 2147483647) => ih (j + 1) (some ((rd_T42 l (j : Int)).f0, (rd_T42 l (j : Int)).f1)) (by omega) (by omega) (by omega) (fun i hi => by rw [show i = j by omega]; exact ⟨rfl, hr⟩)
      have hw : wrap64 ((j : Int) + 1) = ((j + 1 : Nat) : Int) := w64 (by omega) (by omega)
      rw [dropN_eq hjl]
      rw [ev_succ]
      simp only [entry_Batch.l0, ev_ite, hw]
      generalize hE : rd_T42 l (j : Int) = e at hgj ih' ⊢
      have hc : Ev (fun k => entry_Check.f k e.f0 e.f1 e.f2 e.f3 e.f4.f0 e.f4.f1 e.f4.f2.f0 e.f4.f2.f1 e.f4.f2.f2 e.f4.f2.f3) (if mayN (prN e) = true then 0 else 1) := entry_Check_ev (e := prN e) hgj.2.2.2.2.1
      have el : prsN (e :: l.drop (j + 1)) = prN e :: prsN (l.drop (j + 1)) := rfl
      have e0 : (prN e).i = e.f0 := rfl
      have e1 : (prN e).t = e.f1 := rfl
      rw [el, if_pos (by omega), if_pos (by omega), if_pos (by omega), ev_bind hc, ev_ite]
      by_cases hm : mayN (prN e) = true
      · have hm' := (mayN_iff.1 hm).1
        rw [e0, e1] at hm'
        have ih'' := ih' ⟨hm'.1, hm'.2.1⟩
        rw [if_pos hm, if_pos (by trivial), ev_ite]
        by_cases hj0 : j = 0
        · rw [if_neg (by omega), h0 hj0, batch_none, hm, Bool.true_and, e0, e1]
          exact ih''
        · obtain ⟨hp, hr1, hr2⟩ := hs (j - 1) (by omega)
          have e2 : wrap64 ((j : Int) - 1) = ((j - 1 : Nat) : Int) := by
            rw [w64 (by omega) (by omega)]
            omega
          rw [if_pos (by omega), e2, ev_ite, if_pos (by omega), ev_ite, if_pos (by omega), ev_ite, hp, batch_some, hm, Bool.true_and, e0, e1, w64 (by omega) (by omega)]
          by_cases h1 : e.f0 = (rd_T42 l ((j - 1 : Nat) : Int)).f0 + 1
          · rw [if_pos h1, ev_ite]
            by_cases h2 : e.f1 < (rd_T42 l ((j - 1 : Nat) : Int)).f1
            · rw [if_pos h2, ev_some, decide_eq_false (by omega), Bool.false_and]
              rfl
            · rw [if_neg h2, decide_eq_true (by omega), Bool.true_and]
              exact ih''
          · rw [if_neg h1, ev_some, decide_eq_false (by omega), Bool.false_and]
            rfl
      · rw [if_neg hm, if_neg (by omega), ev_some]
        rw [Bool.not_eq_true] at hm
        have hf : batchFrom p (prN e :: prsN (l.drop (j + 1))) = false := by
          cases p with
          | none => rw [batch_none, hm, Bool.false_and]
          | some q =>
            obtain ⟨i, t⟩ := q
            rw [batch_some, hm, Bool.false_and]
        rw [hf]
        rfl
  have bad : ¬ (1 ≤ l.length ∧ l.length ≤ 16) → Ev (fun k => entry_Batch.j0 k l true) (if batchB (prsN l) = true then (0 : Int) else 1) := by
    intro h
    have e : batchB (prsN l) = false := by
      unfold batchB
      rw [prsN_len, decide_eq_false h, Bool.false_and]
    rw [e, ev_succ]
    simp only [entry_Batch.j0, ev_ite]
    rw [if_pos (by trivial), ev_some]
    rfl
  simp only [entry_Batch.f, ev_ite]
  by_cases h1 : l.length < 1
  · rw [if_pos (by omega)]
    exact bad (by omega)
  · rw [if_neg (by omega)]
    by_cases h2 : l.length > 16
    · rw [decide_eq_true (by omega)]
      exact bad (by omega)
    · have e : batchB (prsN l) = batchFrom none (prsN l) := by
        unfold batchB
        rw [prsN_len, decide_eq_true (by omega), Bool.true_and]
      rw [decide_eq_false (by omega), ev_succ, e]
      simp only [entry_Batch.j0, ev_ite]
      rw [if_neg (by simp)]
      exact main (l.length - 0) 0 none rfl (by omega) (fun _ => rfl) (fun i hi => by omega)
theorem varint_Put_l1_ev (l : List Int) (hl : l.length ≤ 10000000000000) (j : Nat) : ∀ (u : Nat) (b : List Int), u < 18446744073709551616 → b.length + (one u).length ≤ 10 * (j + 1) → j < l.length → ∀ r : List Int,
    Ev (fun k => varint_Put.l0 k (b ++ one u) l (l.length : Int) ((j + 1 : Nat) : Int)) r → Ev (fun k => varint_Put.l1 k b (u : Int) l (l.length : Int) (j : Int)) r := by
  intro u
  induction u using Nat.strongRecOn with
  | _ u ih =>
    intro b hu hlen hj r hr
    rw [ev_succ]
    simp only [varint_Put.l1, ev_ite]
    by_cases h : u < 128
    · rw [if_neg (by omega), if_pos (by omega), w64 (by omega) (by omega)]
      rw [one_lt h] at hr
      have e : (u : Int) % 256 = u := by omega
      rw [e]
      exact hr
    · have e : Go.bits .or .u8 ((u : Int) % 256) 128 = ((u % 128 + 128 : Nat) : Int) := by
        rw [or_u8 (by omega) (by omega)]
        omega
      have e2 : (u : Int) / 128 = ((u / 128 : Nat) : Int) := by omega
      rw [if_pos (by omega), if_pos (by omega), e, e2]
      rw [one_ge (u := u) (by omega), List.length_cons] at hlen
      refine ih (u / 128) (by omega) _ (by omega) (by rw [List.length_append, List.length_singleton]; omega) hj r ?_
      rw [one_ge (u := u) (by omega)] at hr
      rw [List.append_assoc, List.singleton_append]
      exact hr
theorem varint_Put_l0_ev (l : List Int) (hl : l.length ≤ 10000000000000) (hu : ∀ u ∈ l, 0 ≤ u ∧ u < 18446744073709551616) : ∀ (d j : Nat) (b : List Int), l.length - j = d → j ≤ l.length → b.length ≤ 10 * j →
    Ev (fun k => varint_Put.l0 k b l (l.length : Int) (j : Int)) (b ++ puts (l.drop j)) := by
  intro d
  induction d with
  | zero =>
    intro j b hd hj hb
    rw [ev_succ]
    simp only [varint_Put.l0, ev_ite]
    rw [if_neg (by omega), ev_some, List.drop_eq_nil_of_le (by omega), puts_nil, List.append_nil]
  | succ d ih =>
    intro j b hd hj hb
    rw [ev_succ]
    simp only [varint_Put.l0, ev_ite]
    rw [if_pos (by omega), if_pos (by omega), if_pos (by omega)]
    have h := hu _ (rd_mem (xs := l) (i := (j : Int)) (by omega) (by omega))
    have e : rd l (j : Int) = ((rd l (j : Int)).toNat : Int) := by omega
    have h10 := one_len10 (u := (rd l (j : Int)).toNat) (by omega)
    rw [e]
    refine varint_Put_l1_ev l hl j _ b (by omega) (by omega) (by omega) _ ?_
    have := ih (j + 1) (b ++ one (rd l (j : Int)).toNat) (by omega) (by omega) (by rw [List.length_append]; omega)
    refine ev_eq this ?_
    rw [drop_eq (xs := l) (i := j) (by omega), puts_cons, List.append_assoc]
theorem varint_Put_ev {l : List Int} (hl : l.length ≤ 10000000000000) (hu : ∀ u ∈ l, 0 ≤ u ∧ u < 18446744073709551616) : Ev (fun k => varint_Put.f k l) (puts l) :=
  varint_Put_l0_ev l hl hu (l.length - 0) 0 [] rfl (by omega) (by simp)
theorem point_Put_ev {s a l u : Int} (h0 : 0 ≤ u) (h1 : u < 4294967296) : Ev (fun k => point_Put.f k s a l u) (if mayP s a l = true then (putP s a l u, 0) else ([], 1)) := by
  simp only [point_Put.f]
  rw [ev_bind_c (point_Check_ev _ _ _ _), ev_ite]
  by_cases h : mayP s a l = true
  · have hm := mayP_iff.1 h
    have hb : ∀ v ∈ [s, a, l], 0 ≤ v ∧ v < 18446744073709551616 := by
      intro v hv
      simp at hv
      omega
    rw [if_pos h, if_pos h, if_pos (by trivial), wu64 (x := s) (by omega) (by omega), wu64 (x := a) (by omega) (by omega), wu64 (x := l) (by omega) (by omega), ev_bind (varint_Put_ev (l := [s, a, l]) (by simp) hb)]
    have hl := puts_len hb
    simp only [List.length_cons, List.length_nil] at hl
    simp only [Option.bind_some, ev_ite, ev_some, List.length_cons, List.length_nil]
    rw [if_pos (by omega)]
    rfl
  · rw [if_neg h, if_neg h, if_neg (by omega), ev_some]
theorem cell_Put_ev {far : Bool} {b : List Int} {s a n u : Int} (h : mayC far b s a n u = true) (hu : 0 ≤ u ∧ u < 4294967296) : Ev (fun k => cell_Put.f k far b s a n u) (putC far b s a n u, 0) := by
  have hl := mayC_len h
  simp only [cell_Put.f]
  rw [ev_bind_c (cell_Check_ev _ _ _ _ _ _), h, if_pos rfl, ev_ite, if_pos (by trivial), ev_ite]
  unfold putC
  cases far with
  | true =>
    have hp := point_Put_ev (s := s) (a := a) (l := n) hu.1 hu.2
    have hm := mayC_far h
    have hpl := putP_len (u := u) hm
    rw [if_pos hm] at hp
    rw [if_pos rfl, if_pos rfl, ev_bind hp]
    simp only [Option.bind_some, ev_ite]
    rw [if_pos (by simp only [List.length_cons, List.length_nil]; omega), ev_some]
    rfl
  | false =>
    have h10 := one_len10 (u := b.length) (by omega)
    have hput : Ev (fun k => varint_Put.f k [(b.length : Int)]) (one b.length) := by
      have := varint_Put_ev (l := [(b.length : Int)]) (by simp) (by intro v hv; rw [List.mem_singleton.1 hv]; omega)
      rw [puts_cons, puts_nil, List.append_nil, Int.toNat_natCast] at this
      exact this
    rw [if_neg (by simp), if_neg (by simp), wu64 (by omega) (by omega)]
    simp only [Option.bind_some]
    rw [ev_bind hput, ev_ite, if_pos (by simp only [List.length_cons, List.length_nil]; omega), ev_ite, if_pos (by simp only [List.length_append, List.length_cons, List.length_nil]; omega), ev_some, List.append_assoc]
    rfl
theorem entry_Put_l0_ev (l : List S42) (hl : l.length ≤ 16) (hg : ∀ e ∈ l, goodN e) (hm : ∀ e ∈ prsN l, mayN e = true) : ∀ (d j : Nat) (b : List Int), l.length - j = d → j ≤ l.length → b.length ≤ 30 + 128 * j →
    Ev (fun k => entry_Put.l0 k b l (l.length : Int) (j : Int)) (b ++ putNs (prsN (l.drop j)), 0) := by
  intro d
  induction d with
  | zero =>
    intro j b hd hj hb
    rw [ev_succ]
    simp only [entry_Put.l0, ev_ite]
    rw [if_neg (by omega), ev_some, List.drop_eq_nil_of_le (by omega)]
    have e : putNs (prsN []) = [] := rfl
    rw [e, List.append_nil]
  | succ d ih =>
    intro j b hd hj hb
    have hjl : j < l.length := by omega
    have hgj := hg _ (rdN_mem hjl)
    have hmj := hm _ (List.mem_map.2 ⟨_, rdN_mem hjl, rfl⟩)
    have hw : wrap64 ((j : Int) + 1) = ((j + 1 : Nat) : Int) := w64 (by omega) (by omega)
    rw [dropN_eq hjl]
    rw [ev_succ]
    simp only [entry_Put.l0, ev_ite, hw]
    generalize rd_T42 l (j : Int) = e at hgj hmj ⊢
    have el : prsN (e :: l.drop (j + 1)) = prN e :: prsN (l.drop (j + 1)) := rfl
    have hr := (mayN_iff.1 hmj).1
    have hc := (mayN_iff.1 hmj).2.2
    have hnl := putN_len hmj
    unfold putN at hnl
    simp only [prN] at hr hc hnl
    have hone : ∀ v : Int, 0 ≤ v → v < 18446744073709551616 → Ev (fun k => varint_Put.f k [v]) (one v.toNat) := by
      intro v h0 h1
      have := varint_Put_ev (l := [v]) (by simp) (by intro u hu; rw [List.mem_singleton.1 hu]; omega)
      rw [puts_cons, puts_nil, List.append_nil] at this
      exact this
    have h1 := hone e.f1 (by omega) (by omega)
    have h2 := hone (e.f3.size : Int) (by omega) (by omega)
    rw [Int.toNat_natCast] at h2
    have hb1 := one_len10 (u := e.f1.toNat) (by omega)
    have hb2 := one_len10 (u := e.f3.size) (by omega)
    have ek : e.f2 % 256 = e.f2 := by omega
    rw [if_pos (by omega), if_pos (by omega), if_pos (by omega), wu64 (by omega) (by omega), ev_bind h1, ev_ite, if_pos (by omega)]
    simp only [Option.bind_some, ev_ite]
    rw [if_pos (by rw [List.length_append]; omega), wu64 (by omega) (by omega), ev_bind h2, ev_ite, if_pos (by simp only [List.length_append, List.length_singleton]; omega), ev_ite, if_pos (by simp only [List.length_append, List.length_singleton]; omega), ek, ev_ite]
    have hbl : (bytesOf e.f3).length = e.f3.size := bytesOf_length _
    by_cases hk : e.f2 = 2
    · rw [if_pos hk]
      refine ev_eq (ih (j + 1) _ (by omega) (by omega) (by simp only [List.length_append, List.length_singleton]; omega)) ?_
      rw [el, putNs_cons, putN_del (e := prN e) hk]
      simp only [prN, List.nil_append, List.append_assoc, List.singleton_append, List.append_nil, List.cons_append]
    · have hcl := putC_len hc
      rw [if_neg hk, ev_bind (cell_Put_ev hc hgj.2.2.2.2.2), ev_ite, if_pos (by simp only [List.length_append, List.length_singleton]; omega)]
      refine ev_eq (ih (j + 1) _ (by omega) (by omega) (by simp only [List.length_append, List.length_singleton]; omega)) ?_
      rw [el, putNs_cons, putN_cell (e := prN e) hk]
      simp only [prN, List.nil_append, List.append_assoc, List.singleton_append, List.cons_append]
theorem firstI_rd {l : List S42} (h : 0 < l.length) : (rd_T42 l 0).f0 = firstI (prsN l) := by
  cases l with
  | nil => simp at h
  | cons e l => rfl
theorem firstI_range {l : List Ent} (h : ∀ e ∈ l, mayN e = true) : 0 ≤ firstI l ∧ firstI l ≤ 2147483647 := by
  cases l with
  | nil => simp [firstI]
  | cons e l =>
    have := (mayN_iff.1 (h e (by simp))).1
    simp only [firstI]
    omega
theorem entry_Put_ev (l : List S42) (hl : l.length ≤ 140737488351232) (hg : ∀ e ∈ l, goodN e) : Ev (fun k => entry_Put.f k l) (if batchB (prsN l) = true then (putB (prsN l), 0) else ([], 1)) := by
  simp only [entry_Put.f]
  rw [ev_bind (entry_Batch_ev l hl hg), ev_ite]
  by_cases h : batchB (prsN l) = true
  · obtain ⟨h1, h2⟩ := batchB_iff.1 h
    rw [prsN_len] at h1
    have hm := batchFrom_mem h2
    have hf := firstI_range hm
    rw [if_pos h, if_pos (by trivial), if_pos h, ev_ite, if_pos (by omega), firstI_rd (by omega), wu64 (by omega) (by omega), wu64 (by omega) (by omega)]
    have hu : ∀ u ∈ [(l.length : Int), firstI (prsN l)], 0 ≤ u ∧ u < 18446744073709551616 := by
      intro u hu
      simp only [List.mem_cons, List.not_mem_nil, or_false] at hu
      omega
    have hp := varint_Put_ev (l := [(l.length : Int), firstI (prsN l)]) (by simp) hu
    have hpl := puts_len hu
    simp only [List.length_cons, List.length_nil] at hpl
    rw [ev_bind hp]
    refine ev_eq (entry_Put_l0_ev l h1.2 hg hm (l.length - 0) 0 (puts [(l.length : Int), firstI (prsN l)]) rfl (by omega) (by omega)) ?_
    unfold putB
    rw [prsN_len, List.drop_zero]
  · rw [if_neg h, if_neg (by omega), if_neg h, ev_some]
theorem garnerref02_same_l0_ev (x y : List Int) (hxy : x.length = y.length) (hl : x.length ≤ maxLen) : ∀ (d i : Nat), x.length - i = d → i ≤ x.length → Ev (fun k => garnerref02_same.l0 k x y (i : Int)) (decide (x.drop i = y.drop i)) := by
  have hlm := maxLen_le hl
  intro d
  induction d with
  | zero =>
    intro i hd hi
    rw [ev_succ]
    simp only [garnerref02_same.l0, ev_ite]
    rw [if_neg (by omega), ev_some, List.drop_eq_nil_of_le (by omega), List.drop_eq_nil_of_le (by omega)]
    simp
  | succ d ih =>
    intro i hd hi
    rw [ev_succ]
    simp only [garnerref02_same.l0, ev_ite]
    rw [if_pos (by omega), if_pos (by omega), if_pos (by omega), w64 (by omega) (by omega), drop_eq (xs := x) (by omega), drop_eq (xs := y) (by omega)]
    by_cases h : rd x (i : Int) = rd y (i : Int)
    · rw [if_pos h, h]
      refine ev_eq (ih (i + 1) (by omega) (by omega)) ?_
      simp
    · rw [if_neg h, ev_some]
      simp [h]
theorem garnerref02_same_ev {x y : List Int} (hl : x.length ≤ maxLen) : Ev (fun k => garnerref02_same.f k x y) (decide (x = y)) := by
  simp only [garnerref02_same.f, ev_ite]
  by_cases h : x.length = y.length
  · rw [if_pos (by omega)]
    exact garnerref02_same_l0_ev x y h hl (x.length - 0) 0 rfl (by omega)
  · rw [if_neg (by omega), ev_some]
    symm
    simp only [decide_eq_false_iff_not]
    rintro rfl
    exact h rfl
theorem garnerref02_Bytes_ev {x y : List Int} (hl : x.length ≤ maxLen) : Ev (fun k => garnerref02_Bytes.f k x y) (decide (x = y)) := by
  simp only [garnerref02_Bytes.f]
  rw [ev_bind (garnerref02_same_ev hl), ev_some]
theorem garnerlaw06_awake_ev : Ev (fun k => garnerlaw06_awake.f k) true := by
  have hg : ∀ e ∈ [(⟨3, 2, 1, (⟨#[107]⟩ : ByteArray), (⟨false, ([9] : List Int), (⟨0, 0, 0, 0⟩ : S38)⟩ : S40)⟩ : S42)], goodN e := by
    intro e he
    rw [List.mem_singleton.1 he]
    refine ⟨by decide, by decide, by decide, by decide, ?_, by decide⟩
    intro x hx
    rw [List.mem_singleton.1 hx]
    omega
  have hp := entry_Put_ev _ (by simp) hg
  have hm : batchB (prsN [(⟨3, 2, 1, (⟨#[107]⟩ : ByteArray), (⟨false, ([9] : List Int), (⟨0, 0, 0, 0⟩ : S38)⟩ : S40)⟩ : S42)]) = true := by decide +kernel
  have hv : putB (prsN [(⟨3, 2, 1, (⟨#[107]⟩ : ByteArray), (⟨false, ([9] : List Int), (⟨0, 0, 0, 0⟩ : S38)⟩ : S40)⟩ : S42)]) = [1, 3, 2, 1, 1, 107, 0, 1, 9] := by
    have o1 : one 1 = [1] := one_lt (by omega)
    have o2 : one 2 = [2] := one_lt (by omega)
    have o3 : one 3 = [3] := one_lt (by omega)
    have oz : (⟨#[107]⟩ : ByteArray).size = 1 := rfl
    have ob : bytesOf (⟨#[107]⟩ : ByteArray) = [107] := by decide +kernel
    simp [putB, prsN, prN, putNs, putN, putC, puts, firstI, o1, o2, o3, oz, ob]
  rw [if_pos hm, hv] at hp
  have hb := entry_Batch_ev [] (by simp) (by simp)
  have hbe : batchB (prsN []) = false := rfl
  rw [hbe, if_neg (by simp)] at hb
  simp only [garnerlaw06_awake.f]
  rw [ev_bind hp, ev_ite, if_pos (by trivial), ev_bind (garnerref02_Bytes_ev (by simp [maxLen])), ev_ite, if_pos (by simp), ev_bind hb, ev_some]
  rfl
theorem varint_Get_l0_ev (x : List Int) (hb : Bytes x) (hl : x.length ≤ maxLen) : ∀ (d i : Nat) (u : Int), x.length - i = d → i ≤ 10 → i ≤ x.length → 0 ≤ u → u < 2 ^ (7 * i) →
    Ev (fun k => varint_Get.l0 k x u (i : Int)) (match dec i (x.drop i) with | some (v, n) => (u + v * 2 ^ (7 * i), (i : Int) + n, 0) | none => (0, 0, 2)) := by
  have hlm := maxLen_le hl
  intro d
  induction d with
  | zero =>
    intro i u hd hi hix hu0 hu
    rw [ev_succ]
    simp only [varint_Get.l0, ev_ite]
    rw [if_neg (by omega), ev_succ]
    simp only [varint_Get.j1, ev_ite]
    rw [if_neg (by simp), ev_some, List.drop_eq_nil_of_le (by omega)]
    rfl
  | succ d ih =>
    intro i u hd hi hix hu0 hu
    have hlt : i < x.length := by omega
    have hc := hb.rd (i := (i : Int)) (by omega) (by omega)
    rw [ev_succ]
    simp only [varint_Get.l0, ev_ite]
    rw [if_pos (by omega), ev_succ, drop_eq hlt]
    simp only [varint_Get.j1, ev_ite, decide_eq_true_eq]
    generalize hcc : rd x (i : Int) = c at hc ⊢
    by_cases h10 : i = 10
    · subst h10
      rw [if_neg (by omega), ev_some, dec, if_pos (by omega)]
    · rw [if_pos (by omega), if_pos (by omega), if_pos (by omega), wu64 (by omega) (by omega)]
      have hj2 : ∀ b : Bool, b = decide (i = 9 ∧ 1 < c) → Ev (fun k => varint_Get.j2 k x u (i : Int) c b) (match dec i (c :: x.drop (i + 1)) with | some (v, n) => (u + v * 2 ^ (7 * i), (i : Int) + n, 0) | none => (0, 0, 2)) := by
        intro b hbb
        rw [ev_succ]
        simp only [varint_Get.j2, ev_ite, dec]
        rw [if_neg (show ¬ 10 ≤ i by omega)]
        by_cases h9 : i = 9 ∧ 1 < c
        · rw [if_pos (by rw [hbb]; simpa using h9), if_pos h9, ev_some]
        · rw [if_neg (by rw [hbb]; simpa using h9), if_neg h9, w64 (by omega) (by omega), if_pos (by omega)]
          have hsh : ∀ y : Int, 0 ≤ y → y ≤ 127 → (i = 9 → y ≤ 1) → Go.bits .or .u64 u (shl .u64 y (7 * (i : Int))) = u + y * 2 ^ (7 * i) ∧ y * 2 ^ (7 * i) + 2 ^ (7 * i) ≤ (18446744073709551616 : Int) := by
            intro y hy0 hy1 hy9
            have hi' : i = 0 ∨ i = 1 ∨ i = 2 ∨ i = 3 ∨ i = 4 ∨ i = 5 ∨ i = 6 ∨ i = 7 ∨ i = 8 ∨ i = 9 := by omega
            have hs : y * 2 ^ (7 * i) + 2 ^ (7 * i) ≤ (18446744073709551616 : Int) := by
              rcases hi' with rfl | rfl | rfl | rfl | rfl | rfl | rfl | rfl | rfl | rfl <;> simp <;> omega
            have hp : (0 : Int) < 2 ^ (7 * i) := Int.pow_pos (by omega)
            have hm : 0 ≤ y * 2 ^ (7 * i) := Int.mul_nonneg hy0 (by omega)
            have e : (7 * (i : Int)).toNat = 7 * i := by omega
            refine ⟨?_, hs⟩
            unfold shl
            rw [e, Nat.min_eq_left (show 7 * i ≤ IntKind.u64.bits by show 7 * i ≤ 64; omega), wu64 hm (by omega)]
            exact or_u64 (by omega) hu0 hu hy0 (by omega)
          by_cases h128 : c < 128
          · have hm : c % 128 = c := by omega
            rw [if_pos h128, if_pos h128]
            obtain ⟨h1, h2⟩ := hsh c (by omega) (by omega) (fun h => by omega)
            have hr : Ev (fun _ => some (Go.bits .or .u64 u (shl .u64 (Go.bits .andNot .u64 c 128) (7 * (i : Int))), wrap64 ((i : Int) + 1), (0 : Int))) (u + c * 2 ^ (7 * i), (i : Int) + 1, 0) := by
              rw [ev_some, andNot_u64 hc.1 hc.2, hm, h1, w64 (by omega) (by omega)]
            by_cases h0 : c = 0
            · rw [if_pos h0]
              by_cases hi0 : 0 < i
              · rw [if_pos (by omega), if_pos ⟨h0, hi0⟩, ev_some]
              · rw [if_neg (by omega), if_neg (by omega)]
                simp only
                rw [Int.toNat_of_nonneg hc.1]
                exact hr
            · rw [if_neg h0, if_neg (fun h => h0 h.1)]
              simp only
              rw [Int.toNat_of_nonneg hc.1]
              exact hr
          · have hx9 : i ≠ 9 := by omega
            rw [if_neg h128, if_neg h128, andNot_u64 hc.1 hc.2, w64 (by omega) (by omega)]
            obtain ⟨h1, h2⟩ := hsh (c % 128) (by omega) (by omega) (fun h => by omega)
            rw [h1]
            have hp : (0 : Int) < 2 ^ (7 * i) := Int.pow_pos (by omega)
            have hm : 0 ≤ c % 128 * 2 ^ (7 * i) := Int.mul_nonneg (by omega) (by omega)
            have hpow : (2 : Int) ^ (7 * (i + 1)) = 128 * 2 ^ (7 * i) := by
              rw [Nat.mul_add, Int.pow_add]
              omega
            have hlt2 : c % 128 * 2 ^ (7 * i) ≤ 127 * 2 ^ (7 * i) := Int.mul_le_mul_of_nonneg_right (by omega) (by omega)
            have := ih (i + 1) (u + c % 128 * 2 ^ (7 * i)) (by omega) (by omega) (by omega) (by omega) (by omega)
            refine ev_eq this ?_
            cases dec (i + 1) (x.drop (i + 1)) with
            | none => rfl
            | some p =>
              obtain ⟨v, n⟩ := p
              simp only [Option.map_some]
              have e2 : (((c % 128).toNat + 128 * v : Nat) : Int) = c % 128 + 128 * v := by omega
              rw [e2, hpow, Int.add_mul, Int.mul_comm 128 (2 ^ (7 * i)), Int.mul_comm (128 : Int) (v : Int), Int.mul_assoc, Int.mul_comm (128 : Int) (2 ^ (7 * i)), ← Int.add_assoc]
              congr 2
              omega
      by_cases h9 : i = 9
      · rw [if_pos (by omega)]
        exact hj2 _ (by simp [h9])
      · rw [if_neg (by omega)]
        exact hj2 _ (by simp [h9])
theorem varint_Get_ev {x : List Int} (hb : Bytes x) (hl : x.length ≤ maxLen) : Ev (fun k => varint_Get.f k x) (getR x) := by
  have h := varint_Get_l0_ev x hb hl (x.length - 0) 0 0 rfl (by omega) (by omega) (by omega) (by simp)
  refine ev_eq h ?_
  unfold getR
  simp only [List.drop_zero]
  cases dec 0 x with
  | none => rfl
  | some p => simp
theorem varint_All_l0_ev (x : List Int) (hb : Bytes x) (hl : x.length ≤ maxLen) (n : Nat) (hn : n ≤ 1000) : ∀ (d j at_ : Nat) (l : List Int), d + j = n → l.length = j → at_ ≤ x.length →
    Ev (fun k => varint_All.l0 k x l (at_ : Int) (n : Int) (j : Int)) (if (decs d (x.drop at_)).2.2 = true then (l ++ (decs d (x.drop at_)).1, (at_ : Int) + ((decs d (x.drop at_)).2.1 : Int), 0) else ([], (at_ : Int) + ((decs d (x.drop at_)).2.1 : Int), 2)) := by
  have hlm := maxLen_le hl
  intro d
  induction d with
  | zero =>
    intro j at_ l hd hj ha
    rw [ev_succ]
    simp only [varint_All.l0, ev_ite]
    rw [if_neg (by omega), ev_some]
    simp [decs]
  | succ d ih =>
    intro j at_ l hd hj ha
    have hb' := hb.drop at_
    rw [ev_succ]
    simp only [varint_All.l0, ev_ite]
    rw [if_pos (by omega), if_pos (by omega), if_pos (by omega), Int.toNat_natCast, ev_bind (varint_Get_ev hb' (by rw [List.length_drop]; omega))]
    simp only [ev_ite, decs, getR]
    rcases dec_cases (x.drop at_) with hdec | ⟨u, k, hdec⟩
    · simp only [hdec, ev_ite]
      rw [if_neg (by omega), ev_some, if_neg (by simp)]
      simp
    · have hk := dec_pos hb' hdec
      rw [List.length_drop] at hk
      simp only [hdec, ev_ite]
      rw [if_pos (by trivial), if_pos (by omega), w64 (by omega) (by omega), w64 (by omega) (by omega)]
      have := ih (j + 1) (at_ + k) (l ++ [(u : Int)]) (by omega) (by simp [hj]) (by omega)
      rw [Int.natCast_add, Int.natCast_add] at this
      refine ev_eq this ?_
      rw [List.drop_drop]
      simp only [List.append_assoc, List.singleton_append]
      split <;> (congr 2; omega)
theorem varint_All_ev {x : List Int} (hb : Bytes x) (hl : x.length ≤ maxLen) (n : Nat) (hn : n ≤ 1000) : Ev (fun k => varint_All.f k x (n : Int)) (allR n x) := by
  simp only [varint_All.f, ev_ite]
  rw [if_neg (by omega), ev_succ]
  simp only [varint_All.j0, ev_ite, decide_eq_true_eq]
  rw [if_neg (by omega)]
  have := varint_All_l0_ev x hb hl n hn n 0 0 [] (by omega) rfl (by omega)
  refine ev_eq this ?_
  unfold allR
  simp
theorem slices_Max_uint64_uint64_l0_ev (x : List Int) (hl : x.length ≤ maxLen) : ∀ (d i : Nat) (m : Int), x.length - i = d → i ≤ x.length → Ev (fun k => slices_Max_uint64_uint64.l0 k x m (i : Int)) ((x.drop i).foldl mx m) := by
  have hlm := maxLen_le hl
  intro d
  induction d with
  | zero =>
    intro i m hd hi
    rw [ev_succ]
    simp only [slices_Max_uint64_uint64.l0, ev_ite]
    rw [if_neg (by omega), ev_some, List.drop_eq_nil_of_le (by omega)]
    rfl
  | succ d ih =>
    intro i m hd hi
    rw [ev_succ]
    simp only [slices_Max_uint64_uint64.l0, ev_ite]
    rw [if_pos (by omega), if_pos (by omega), w64 (by omega) (by omega), drop_eq (xs := x) (by omega)]
    exact ih (i + 1) _ (by omega) (by omega)
theorem slices_Max_uint64_uint64_ev {x : List Int} (hl : x.length ≤ maxLen) (h0 : 0 < x.length) : Ev (fun k => slices_Max_uint64_uint64.f k x) (maxl x) := by
  simp only [slices_Max_uint64_uint64.f, ev_ite]
  rw [if_neg (by omega), if_pos (by omega)]
  refine ev_eq (slices_Max_uint64_uint64_l0_ev x hl (x.length - 1) 1 (rd x 0) rfl (by omega)) ?_
  match x, h0 with
  | y :: r, _ => rfl
theorem point_sumOf_ev {x : List Int} (hb : Bytes x) (h : 4 ≤ x.length) : point_sumOf.f x = some (sumAt x 0) := by
  have h0 := hb.rd (i := 0) (by omega) (by omega)
  have h1 := hb.rd (i := 1) (by omega) (by omega)
  have h2 := hb.rd (i := 2) (by omega) (by omega)
  have h3 := hb.rd (i := 3) (by omega) (by omega)
  unfold point_sumOf.f
  rw [if_pos (by omega), if_pos (by omega), if_pos (by omega), if_pos (by omega)]
  have e : sumAt x 0 = rd x 0 + 256 * rd x 1 + 65536 * rd x 2 + 16777216 * rd x 3 := rfl
  rw [e]
  generalize rd x 0 = a at *
  generalize rd x 1 = b at *
  generalize rd x 2 = c at *
  generalize rd x 3 = d at *
  have e1 : a % 4294967296 = a := by omega
  have e2 : b % 4294967296 * 256 % 4294967296 = b * 2 ^ 8 := by omega
  have e3 : c % 4294967296 * 65536 % 4294967296 = c * 2 ^ 16 := by omega
  have e4 : d % 4294967296 * 16777216 % 4294967296 = d * 2 ^ 24 := by omega
  have e5 := or_u32 (j := 8) (x := a) (y := b) (by omega) (by omega) (by omega) (by omega) (by omega)
  have e6 := or_u32 (j := 16) (x := a + b * 2 ^ 8) (y := c) (by omega) (by omega) (by omega) (by omega) (by omega)
  have e7 := or_u32 (j := 24) (x := a + b * 2 ^ 8 + c * 2 ^ 16) (y := d) (by omega) (by omega) (by omega) (by omega) (by omega)
  rw [e1, e2, e3, e4, e5, e6, e7]
  congr 1
  omega
theorem point_Get_ev {x : List Int} (hb : Bytes x) (hl : x.length ≤ maxLen) : Ev (fun k => point_Get.f k x) ((pointR x).1, (pointR x).2.1, (pointR x).2.2.1, (pointR x).2.2.2.1, (pointR x).2.2.2.2, if (pointR x).2.2.2.2 = 0 then 2 else 0) := by
  have hlm := maxLen_le hl
  have hbad : ∀ l a, Ev (fun k => point_Get.j0 k x l a true) (0, 0, 0, 0, 0, 2) := by
    intro l a
    rw [ev_succ]
    simp [point_Get.j0, ev_ite, ev_some]
  simp only [point_Get.f]
  have h3 : Ev (fun k => varint_All.f k x 3) (allR 3 x) := varint_All_ev hb hl 3 (by omega)
  rw [ev_bind h3]
  simp only [allR]
  by_cases h : (decs 3 x).2.2 = true
  · obtain ⟨u, v, w, h1, h2, h3, h4⟩ := decs_three hb h
    have hat := decs_at (n := 3) hb
    simp only [pointR, h, if_true, h1, ev_ite, true_and]
    have r0 : rd [u, v, w] 0 = u := rfl
    have r1 : rd [u, v, w] 1 = v := rfl
    have r2 : rd [u, v, w] 2 = w := rfl
    have l3 : (([u, v, w] : List Int).length : Int) = 3 := rfl
    have hm : Ev (fun k => slices_Max_uint64_uint64.f k [u, v, w]) (mx (mx u v) w) := slices_Max_uint64_uint64_ev (x := [u, v, w]) (by simp [maxLen]) (by simp)
    have hmx : (mx (mx u v) w > 2147483647) ↔ (2147483647 < u ∨ 2147483647 < v ∨ 2147483647 < w) := by unfold mx; repeat' split <;> omega
    rw [ev_bind hm]
    simp only [ev_ite, r0, r1, r2, hmx]
    by_cases hbig : 2147483647 < u ∨ 2147483647 < v ∨ 2147483647 < w
    · have hn : ¬ mayP u v w = true := by rw [mayP_iff]; omega
      rw [if_pos hbig, if_neg (fun hh => hn hh.2)]
      exact hbad _ _
    · rw [if_neg hbig, w64 (by omega) (by omega)]
      by_cases h4 : (decs 3 x).2.1 + 4 ≤ x.length
      · have e : decide ((x.length : Int) - ((decs 3 x).2.1 : Int) < 4) = false := by rw [decide_eq_false_iff_not]; omega
        rw [e, ev_succ]
        simp only [point_Get.j0, ev_ite, l3, Int.reduceLT, if_true, Bool.false_eq_true, if_false, r0, r1, r2, Int.toNat_natCast]
        rw [if_pos (by omega), if_pos (by omega), ev_bind_c (point_sumOf_ev (hb.drop _) (by rw [List.length_drop]; omega))]
        rw [ev_bind_c (point_Check_ev _ _ _ _), ev_ite, ev_some, ev_some, w64 (x := u) (by omega) (by omega), w64 (x := v) (by omega) (by omega), w64 (x := w) (by omega) (by omega), w64 (by omega) (by omega)]
        have es : sumAt (x.drop (decs 3 x).2.1) 0 = sumAt x (decs 3 x).2.1 := by
          have er : ∀ (j : Nat) (n : Int), n = ((decs 3 x).2.1 : Int) + j → rd (x.drop (decs 3 x).2.1) (j : Int) = rd x n := by
            intro j n hn
            subst hn
            have : ((decs 3 x).2.1 : Int) + (j : Int) = (((decs 3 x).2.1 + j : Nat) : Int) := by omega
            rw [this, rd_nat, rd_nat]
            simp [List.getD_eq_getElem?_getD]
          unfold sumAt
          rw [← er 0 _ (by omega), ← er 1 _ (by omega), ← er 2 _ (by omega), ← er 3 _ (by omega)]
          rfl
        rw [es]
        by_cases hm : mayP u v w = true
        · rw [if_pos hm, if_pos (by trivial), if_pos ⟨h4, hm⟩]
          simp only
          rw [if_neg (by omega)]
        · rw [if_neg hm, if_neg (by omega), if_neg (fun hh => hm hh.2)]
          rfl
      · have e : decide ((x.length : Int) - ((decs 3 x).2.1 : Int) < 4) = true := by rw [decide_eq_true_eq]; omega
        rw [e, if_neg (fun hh => h4 hh.1)]
        exact hbad _ _
  · have hf : (decs 3 x).2.2 = false := by simpa using h
    simp only [pointR, hf, ev_ite, Bool.false_eq_true, if_false, false_and]
    rw [if_neg (by omega)]
    exact hbad _ _
theorem bytes_Clone_ev {b : List Int} (h : b.length < 140737488355328) : bytes_Clone.f b = some b := by
  unfold bytes_Clone.f
  rw [if_pos h]
theorem cell_Get_ev {x : List Int} (hb : Bytes x) (hl : x.length ≤ 1000000000000) : Ev (fun k => cell_Get.f k x) (match cellR x with
    | none => (false, ([] : List Int), (0 : Int), (0 : Int), (0 : Int), (0 : Int), (0 : Int), (2 : Int))
    | some (c, m) => (c.1, c.2.1, c.2.2.1, c.2.2.2.1, c.2.2.2.2.1, c.2.2.2.2.2, (m : Int), 0)) := by
  have hl' : x.length ≤ maxLen := by unfold maxLen; omega
  have bad : Ev (fun k => cell_Get.j0 k x true) (false, ([] : List Int), (0 : Int), (0 : Int), (0 : Int), (0 : Int), (0 : Int), (2 : Int)) := by
    rw [ev_succ]
    simp only [cell_Get.j0, ev_ite]
    rw [if_pos (by trivial), ev_some]
  simp only [cell_Get.f, ev_ite, cellR]
  by_cases h0 : x.length = 0
  · rw [if_pos (by omega), if_pos h0]
    exact bad
  rw [if_neg (by omega), if_pos (by omega), if_neg h0]
  have hr := hb.rd (i := 0) (by omega) (by omega)
  have h4 : (x.drop 1).length = x.length - 1 := List.length_drop
  have hd1 : x.drop (1 : Nat) = x.drop 1 := rfl
  by_cases hgt : rd x 0 > 1
  · rw [decide_eq_true hgt, if_neg (by omega), if_neg (by omega)]
    exact bad
  rw [decide_eq_false hgt, ev_succ]
  simp only [cell_Get.j0, ev_ite]
  rw [if_neg (by simp), if_pos (by omega)]
  by_cases h1 : rd x 0 = 1
  · rw [if_pos h1, if_pos (by omega), ev_bind (point_Get_ev (hb.drop 1) (by omega)), ev_ite, if_pos h1]
    have h3 := pointR_le6 (x.drop 1)
    by_cases h2 : (pointR (x.drop 1)).2.2.2.2 = 0
    · simp only [h2, if_true]
      rw [if_neg (by simp), ev_some]
    · simp only [h2, if_false]
      rw [if_pos (by trivial), ev_some, w64 (by omega) (by omega)]
      simp only [Prod.mk.injEq, true_and, and_true]
      omega
  · rw [if_neg h1, if_pos (by omega), ev_bind (varint_Get_ev (hb.drop 1) (by omega)), ev_ite, if_neg h1, if_pos (show rd x 0 = 0 by omega)]
    unfold numR getR
    cases hd : dec 0 (x.drop 1) with
    | none =>
      simp only
      rw [if_neg (by simp), ev_some]
    | some y =>
      obtain ⟨u, n⟩ := y
      obtain ⟨d1, d2, d3, d4⟩ := dec_pos (hb.drop 1) hd
      simp only
      rw [if_pos (by trivial), ev_ite]
      by_cases h5 : u ≤ 32
      · rw [if_neg (by omega), if_pos h5, ev_ite]
        simp only
        rw [w64 (x := (x.length : Int) - 1) (by omega) (by omega), w64 (x := (x.length : Int) - 1 - n) (by omega) (by omega), w64n (a := (u : Int)) u rfl (by omega), w64n (a := 1 + (n : Int)) (1 + n) (by omega) (by omega), w64n (a := ((1 + n : Nat) : Int) + u) (1 + n + u) (by omega) (by omega)]
        by_cases h6 : 1 + n + u ≤ x.length
        · rw [if_neg (by omega), if_pos h6, ev_ite, if_pos (by omega), ev_ite, if_pos (by omega), ev_ite, if_pos (by omega)]
          simp only [Int.toNat_natCast]
          rw [ev_bind_c (bytes_Clone_ev (by rw [List.length_drop, List.length_take]; omega)), ev_some]
          have e5 : (x.take (1 + n + u)).drop (1 + n) = (x.drop (1 + n)).take u := by
            rw [List.drop_take, show 1 + n + u - (1 + n) = u by omega]
          rw [e5]
        · rw [if_pos (by omega), if_neg h6, ev_some]
      · rw [if_pos (by omega), if_neg h5, ev_some]
theorem entry_Get_number_ev {x : List Int} (hb : Bytes x) (hl : x.length ≤ 1000000000) (most : Nat) (mi : Int) (hmi : mi = (most : Int)) (hm : most ≤ 2147483647) : Ev (fun k => entry_Get.t_number.f k x false mi) (match numR most x with
    | none => ((0 : Int), x, true)
    | some (u, n) => ((u : Int), x.drop n, false)) := by
  subst hmi
  simp only [entry_Get.t_number.f]
  rw [ev_bind (varint_Get_ev hb (by unfold maxLen; omega))]
  simp only [ev_ite]
  rw [if_neg (by simp), wu64 (by omega) (by omega)]
  unfold numR getR
  cases hd : dec 0 x with
  | none =>
    simp only
    rw [if_neg (by omega), ev_some]
  | some y =>
    obtain ⟨u, n⟩ := y
    obtain ⟨d1, d2, d3, d4⟩ := dec_pos hb hd
    simp only
    rw [if_pos (by trivial)]
    by_cases h : u ≤ most
    · rw [if_neg (by omega), if_pos h, if_pos (by omega), ev_some, w64n (a := (u : Int)) u rfl (by omega), Int.toNat_natCast]
    · rw [if_pos (by omega), if_neg h, ev_some]
theorem entry_Get_number_bad {x : List Int} (hb : Bytes x) (hl : x.length ≤ 1000000000) (mi : Int) : Ev (fun k => entry_Get.t_number.f k x true mi) ((0 : Int), x, true) := by
  simp only [entry_Get.t_number.f]
  rw [ev_bind (varint_Get_ev hb (by unfold maxLen; omega))]
  simp only [ev_ite]
  rw [if_pos (by trivial), ev_some]
theorem entry_Get_bytes_bad (x : List Int) (n : Int) : entry_Get.t_bytes.f x true n = some ([], x, true) := by
  unfold entry_Get.t_bytes.f
  rw [if_pos rfl]
theorem entry_Get_cell_ev {x : List Int} (hb : Bytes x) (hl : x.length ≤ 1000000000) : Ev (fun k => entry_Get.t_cell.f k x false) (match cellR x with
    | none => (false, ([] : List Int), (0 : Int), (0 : Int), (0 : Int), (0 : Int), x, true)
    | some (c, m) => (c.1, c.2.1, c.2.2.1, c.2.2.2.1, c.2.2.2.2.1, c.2.2.2.2.2, x.drop m, false)) := by
  simp only [entry_Get.t_cell.f]
  rw [ev_bind (cell_Get_ev hb (by omega))]
  simp only [ev_ite]
  rw [if_neg (by simp)]
  cases hc : cellR x with
  | none =>
    simp only
    rw [if_neg (by omega), ev_some]
  | some y =>
    obtain ⟨c, m⟩ := y
    obtain ⟨c1, c2, _⟩ := cellR_le hb hc
    simp only
    rw [if_pos (by trivial), if_pos (by omega), ev_some, Int.toNat_natCast]
theorem entry_Get_cell_bad {x : List Int} (hb : Bytes x) (hl : x.length ≤ 1000000000) : Ev (fun k => entry_Get.t_cell.f k x true) (false, ([] : List Int), (0 : Int), (0 : Int), (0 : Int), (0 : Int), x, true) := by
  simp only [entry_Get.t_cell.f]
  rw [ev_bind (cell_Get_ev hb (by omega))]
  simp only [ev_ite]
  rw [if_pos (by trivial), ev_some]
theorem entry_Get_tail_bad {x : List Int} (hb : Bytes x) (hl : x.length ≤ 1000000000) (i t kd : Int) (key : ByteArray) : ∃ r : S42 × List Int × Bool, Ev (fun k => if kd = 2 then some ((⟨i, t, kd, key, ⟨false, [], ⟨0, 0, 0, 0⟩⟩⟩ : S42), x, true) else
    (entry_Get.t_cell.f k x true).bind fun (g1, g2, g3, g4, g5, g6, l5, b5) => some ((⟨i, t, kd, key, ⟨g1, g2, ⟨g3, g4, g5, g6⟩⟩⟩ : S42), l5, b5)) r ∧ r.2.2 = true := by
  simp only [ev_ite]
  by_cases h : kd = 2
  · exact ⟨_, by rw [if_pos h, ev_some], rfl⟩
  · exact ⟨_, by rw [if_neg h, ev_bind (entry_Get_cell_bad hb hl), ev_some], rfl⟩
theorem entry_Get_entry_ev {x : List Int} (hb : Bytes x) (hl : x.length ≤ 1000000000) (i : Int) : ∃ r, Ev (fun k => entry_Get.t_entry.f k x false i) r ∧ (match entR i x with
    | none => r.2.2 = true
    | some (e, m) => r = (mkN e, x.drop m, false)) := by
  simp only [entry_Get.t_entry.f]
  unfold entR
  have h1 := entry_Get_number_ev hb hl 2147483647 2147483647 rfl (by omega)
  cases hd : numR 2147483647 x with
  | none =>
    rw [hd] at h1
    simp only at h1
    obtain ⟨r, hr, hr2⟩ := entry_Get_tail_bad hb hl i 0 0 (strOfNums [])
    refine ⟨r, ?_, hr2⟩
    rw [ev_bind h1]
    simp only
    rw [ev_bind_c (entry_Get_bytes_bad _ _)]
    simp only
    rw [ev_bind (entry_Get_number_bad hb hl _)]
    simp only
    rw [ev_bind_c (entry_Get_bytes_bad _ _)]
    simp only [List.length_nil]
    rw [if_neg (by omega)]
    exact hr
  | some y =>
    obtain ⟨t, n⟩ := y
    rw [hd] at h1
    simp only at h1
    obtain ⟨a1, a2, a3, a4, _⟩ := numR_le hb hd
    have hl1 : (x.drop n).length = x.length - n := List.length_drop
    have hb1 := hb.drop n
    by_cases h5 : n = x.length
    · simp only [if_pos h5]
      obtain ⟨r, hr, hr2⟩ := entry_Get_tail_bad hb1 (by omega) i t 0 (strOfNums [])
      refine ⟨r, ?_, hr2⟩
      have e1 : entry_Get.t_bytes.f (x.drop n) false 1 = some ([], x.drop n, true) := by
        unfold entry_Get.t_bytes.f
        rw [if_neg (by simp), if_pos (by omega)]
      rw [ev_bind h1]
      simp only
      rw [ev_bind_c e1]
      simp only
      rw [ev_bind (entry_Get_number_bad hb1 (by omega) _)]
      simp only
      rw [ev_bind_c (entry_Get_bytes_bad _ _)]
      simp only [List.length_nil]
      rw [if_neg (by omega)]
      exact hr
    simp only [if_neg h5]
    have e1 : entry_Get.t_bytes.f (x.drop n) false 1 = some ([rd x (n : Int)], x.drop (n + 1), false) := by
      unfold entry_Get.t_bytes.f
      rw [if_neg (by simp), if_neg (by omega), if_pos (by omega), drop_eq (show n < x.length by omega)]
      rfl
    have hk := hb.rd (i := (n : Int)) (by omega) (by omega)
    have hkd : (if ([rd x (n : Int)] : List Int).length = 1 then wrap64 (rd [rd x (n : Int)] 0) else 0) = rd x (n : Int) := by
      exact (if_pos (show ([rd x (n : Int)] : List Int).length = 1 from rfl)).trans (w64 (x := rd x (n : Int)) (by omega) (by omega))
    have hl2 : (x.drop (n + 1)).length = x.length - (n + 1) := List.length_drop
    have hb2 := hb.drop (n + 1)
    have h2 := entry_Get_number_ev hb2 (by omega) 64 64 rfl (by omega)
    cases hm : numR 64 (x.drop (n + 1)) with
    | none =>
      rw [hm] at h2
      simp only at h2
      obtain ⟨r, hr, hr2⟩ := entry_Get_tail_bad hb2 (by omega) i t (rd x (n : Int)) (strOfNums [])
      refine ⟨r, ?_, hr2⟩
      rw [ev_bind h1]
      simp only
      rw [ev_bind_c e1]
      simp only
      rw [ev_bind h2]
      simp only
      rw [ev_bind_c (entry_Get_bytes_bad _ _)]
      simp only
      rw [hkd]
      exact hr
    | some z =>
      obtain ⟨u, k⟩ := z
      rw [hm] at h2
      simp only at h2
      obtain ⟨g1, g2, g3, g4, _⟩ := numR_le hb2 hm
      rw [List.drop_drop] at h2
      have hl3 : (x.drop (n + 1 + k)).length = x.length - (n + 1 + k) := List.length_drop
      have hb3 := hb.drop (n + 1 + k)
      by_cases h6 : n + 1 + k + u ≤ x.length
      · simp only [if_pos h6]
        have e2 : entry_Get.t_bytes.f (x.drop (n + 1 + k)) false (u : Int) = some ((x.drop (n + 1 + k)).take u, x.drop (n + 1 + k + u), false) := by
          unfold entry_Get.t_bytes.f
          rw [if_neg (by simp), if_neg (by omega), if_pos (by omega), Int.toNat_natCast, List.drop_drop]
        by_cases h7 : rd x (n : Int) = 2
        · simp only [if_pos h7]
          refine ⟨_, ?_, rfl⟩
          rw [ev_bind h1]
          simp only
          rw [ev_bind_c e1]
          simp only
          rw [ev_bind h2]
          simp only
          rw [ev_bind_c e2]
          simp only
          rw [hkd]
          simp only [ev_ite]
          rw [if_pos h7, ev_some]
          rfl
        · simp only [if_neg h7]
          have hl4 : (x.drop (n + 1 + k + u)).length = x.length - (n + 1 + k + u) := List.length_drop
          have hc := entry_Get_cell_ev (hb.drop (n + 1 + k + u)) (by omega)
          have step : ∀ v r, Ev (fun k_ => entry_Get.t_cell.f k_ (x.drop (n + 1 + k + u)) false) v → r = ((⟨i, t, rd x (n : Int), strOfNums ((x.drop (n + 1 + k)).take u), ⟨v.1, v.2.1, ⟨v.2.2.1, v.2.2.2.1, v.2.2.2.2.1, v.2.2.2.2.2.1⟩⟩⟩ : S42), v.2.2.2.2.2.2.1, v.2.2.2.2.2.2.2) → Ev (fun k => (entry_Get.t_number.f k x false 2147483647).bind fun x_1 => (entry_Get.t_bytes.f x_1.2.1 x_1.2.2 1).bind fun x_2 => (entry_Get.t_number.f k x_2.2.1 x_2.2.2 64).bind fun x_3 => (entry_Get.t_bytes.f x_3.2.1 x_3.2.2 x_3.1).bind fun x_4 => if (if x_2.1.length = 1 then wrap64 (rd x_2.1 0) else 0) = 2 then some ((⟨i, x_1.1, (if x_2.1.length = 1 then wrap64 (rd x_2.1 0) else 0), strOfNums x_4.1, ⟨false, [], ⟨0, 0, 0, 0⟩⟩⟩ : S42), x_4.2.1, x_4.2.2) else (entry_Get.t_cell.f k x_4.2.1 x_4.2.2).bind fun x_5 => some ((⟨i, x_1.1, (if x_2.1.length = 1 then wrap64 (rd x_2.1 0) else 0), strOfNums x_4.1, ⟨x_5.1, x_5.2.1, ⟨x_5.2.2.1, x_5.2.2.2.1, x_5.2.2.2.2.1, x_5.2.2.2.2.2.1⟩⟩⟩ : S42), x_5.2.2.2.2.2.2.1, x_5.2.2.2.2.2.2.2)) r := by
            intro v r hv hr
            rw [ev_bind h1, ev_bind_c e1, ev_bind h2, ev_bind_c e2]
            simp only
            rw [hkd]
            simp only [ev_ite]
            rw [if_neg h7, ev_bind hv, ev_some]
            exact hr.symm
          cases hcc : cellR (x.drop (n + 1 + k + u)) with
          | none =>
            rw [hcc] at hc
            exact ⟨_, step _ _ hc rfl, rfl⟩
          | some c =>
            obtain ⟨c, m⟩ := c
            rw [hcc] at hc
            simp only at hc
            rw [List.drop_drop] at hc
            exact ⟨_, step _ _ hc rfl, rfl⟩
      · simp only [if_neg h6]
        have e2 : entry_Get.t_bytes.f (x.drop (n + 1 + k)) false (u : Int) = some ([], x.drop (n + 1 + k), true) := by
          unfold entry_Get.t_bytes.f
          rw [if_neg (by simp), if_pos (by omega)]
        obtain ⟨r, hr, hr2⟩ := entry_Get_tail_bad hb3 (by omega) i t (rd x (n : Int)) (strOfNums [])
        refine ⟨r, ?_, hr2⟩
        rw [ev_bind h1]
        simp only
        rw [ev_bind_c e1]
        simp only
        rw [ev_bind h2]
        simp only
        rw [ev_bind_c e2]
        simp only
        rw [hkd]
        exact hr
theorem entry_Get_l0_ev {n f : Nat} (hn : n ≤ 16) (hf : f ≤ 2147483647) : ∀ (d j : Nat) (x : List Int) (acc : List S42), Bytes x → x.length ≤ 1000000000 → j + d = n → acc.length = j → (∀ e ∈ acc, goodN e) →
    Ev (fun k => entry_Get.l0 k (n : Int) (f : Int) x false acc (j : Int)) (match entsR d ((f : Int) + j) x with
      | none => ([], 2)
      | some (l, r) => if r = [] ∧ batchB (prsN acc ++ l) = true then (acc ++ l.map mkN, 0) else ([], 2)) := by
  intro d
  induction d with
  | zero =>
    intro j x acc hb hl hj hacc hg
    rw [ev_succ, entsR]
    simp only [entry_Get.l0, ev_ite]
    rw [if_neg (by omega), if_neg (by simp)]
    by_cases h : x = []
    · subst h
      rw [if_neg (by simp), ev_bind (entry_Batch_ev acc (by omega) hg), ev_ite, List.append_nil, List.map_nil, List.append_nil]
      by_cases hB : batchB (prsN acc) = true
      · rw [if_pos hB, if_pos (by trivial), if_pos ⟨rfl, hB⟩, ev_some]
      · rw [if_neg hB, if_neg (by omega), if_neg (fun h_ => hB h_.2), ev_some]
    · have := List.length_pos_iff.2 h
      rw [if_pos (by omega), if_neg (fun h_ => h h_.1), ev_some]
  | succ d ih =>
    intro j x acc hb hl hj hacc hg
    obtain ⟨r, hr, hr2⟩ := entry_Get_entry_ev hb hl ((f : Int) + j)
    rw [ev_succ, entsR]
    simp only [entry_Get.l0, ev_ite]
    rw [if_pos (by omega), if_neg (by simp), w64 (x := (f : Int) + j) (by omega) (by omega), ev_bind hr]
    cases he : entR ((f : Int) + j) x with
    | none =>
      rw [he] at hr2
      obtain ⟨r1, r2, r3⟩ := r
      simp only at hr2
      subst hr2
      simp only [ev_ite]
      rw [if_pos (by omega), ev_succ]
      simp only [entry_Get.l0, ev_ite]
      split
      · rw [if_pos (by trivial), ev_some]
      · rw [if_pos (by trivial), ev_some]
    | some y =>
      obtain ⟨e, m⟩ := y
      rw [he] at hr2
      simp only at hr2
      subst hr2
      obtain ⟨h1, h2, _⟩ := entR_le hb he
      have hge := entR_good hb he (by omega)
      simp only [ev_ite]
      rw [if_pos (by omega), w64n (a := (j : Int) + 1) (j + 1) (by omega) (by omega)]
      have := ih (j + 1) (x.drop m) (acc ++ [mkN e]) (hb.drop m) (by rw [List.length_drop]; omega) (by omega) (by rw [List.length_append, hacc]; rfl) (by
        intro z hz
        rcases List.mem_append.1 hz with hz | hz
        · exact hg z hz
        · rw [List.mem_singleton.1 hz]
          exact hge)
      refine ev_eq this ?_
      rw [show (f : Int) + ((j + 1 : Nat) : Int) = (f : Int) + j + 1 by omega]
      cases entsR d ((f : Int) + j + 1) (x.drop m) with
      | none => rfl
      | some z =>
        obtain ⟨l, r⟩ := z
        simp only
        have e1 : prsN (acc ++ [mkN e]) ++ l = prsN acc ++ (e :: l) := by
          unfold prsN
          rw [List.map_append, List.append_assoc]
          rfl
        have e2 : acc ++ [mkN e] ++ l.map mkN = acc ++ (e :: l).map mkN := by
          rw [List.append_assoc]
          rfl
        rw [e1, e2]
theorem batchB_ne {l : List Ent} (h : batchB l = true) : l ≠ [] := by
  intro h_
  subst h_
  have := (batchB_iff.1 h).1
  simp only [List.length_nil] at this
  omega
theorem entry_Get_ev {x : List Int} (hb : Bytes x) (hl : x.length ≤ 1000000000) : Ev (fun k => entry_Get.f k x) ((getB x).map mkN, if getB x = [] then 2 else 0) := by
  have bad : ∀ (n f : Int) (y : List Int), Ev (fun k => entry_Get.l0 k n f y true [] 0) (([] : List S42), (2 : Int)) := by
    intro n f y
    rw [ev_succ]
    simp only [entry_Get.l0, ev_ite]
    split
    · rw [if_pos (by trivial), ev_some]
    · rw [if_pos (by trivial), ev_some]
  simp only [entry_Get.f]
  have h1 := entry_Get_number_ev hb hl 16 16 rfl (by omega)
  generalize hL : getB x = L
  unfold getB headR at hL
  cases hn : numR 16 x with
  | none =>
    rw [hn] at h1 hL
    simp only at h1 hL
    subst hL
    rw [ev_bind h1]
    simp only
    rw [ev_bind (entry_Get_number_bad hb hl _)]
    exact bad _ _ _
  | some y =>
    obtain ⟨n, k0⟩ := y
    rw [hn] at h1 hL
    simp only at h1 hL
    obtain ⟨a1, a2, a3, a4, _⟩ := numR_le hb hn
    have hlen : (x.drop k0).length = x.length - k0 := List.length_drop
    have h2 := entry_Get_number_ev (hb.drop k0) (by omega) 2147483647 2147483647 rfl (by omega)
    rw [ev_bind h1]
    simp only
    cases h3 : numR 2147483647 (x.drop k0) with
    | none =>
      rw [h3] at h2 hL
      simp only at h2 hL
      subst hL
      rw [ev_bind h2]
      exact bad _ _ _
    | some z =>
      obtain ⟨f, m⟩ := z
      rw [h3] at h2 hL
      simp only at h2 hL
      rw [List.drop_drop] at h2
      obtain ⟨b1, b2, b3, b4, _⟩ := numR_le (hb.drop k0) h3
      rw [ev_bind h2]
      simp only
      refine ev_eq (entry_Get_l0_ev a1 b1 n 0 (x.drop (k0 + m)) [] (hb.drop _) (by rw [List.length_drop]; omega) (by omega) rfl (by simp)) ?_
      rw [show (f : Int) + ((0 : Nat) : Int) = (f : Int) by omega]
      subst hL
      generalize entsR n (f : Int) (x.drop (k0 + m)) = E
      cases E with
      | none => rfl
      | some z =>
        obtain ⟨l, r⟩ := z
        simp only
        rw [show prsN ([] : List S42) ++ l = l from rfl]
        by_cases hc : r = [] ∧ batchB l = true
        · simp only [if_pos hc]
          rw [if_neg (batchB_ne hc.2)]
          rfl
        · simp only [if_neg hc]
          rfl
theorem garnerref05_Same_plain {far : Bool} {b : List Int} (hb : b.length ≤ maxLen) (s a n u : Int) : Ev (fun k => garnerref05_Same.f k far b s a n u false ([] : List Int) 0 0 0 0) (plainC far b s a n u) := by
  simp only [garnerref05_Same.f, ev_ite]
  unfold plainC
  rw [zero_isr]
  cases far with
  | true =>
    rw [if_neg (by simp), ev_some]
    rfl
  | false =>
    rw [if_pos (by simp)]
    by_cases h : zeroP s a n u = true
    · rw [if_pos h, ev_bind (garnerref02_Bytes_ev hb), ev_some, h]
      simp
    · rw [if_neg h, ev_some]
      rw [Bool.not_eq_true] at h
      rw [h]
      simp
theorem garnerref06_Same_self (l : List S42) (hl : l.length ≤ 140737488351232) (hg : ∀ e ∈ l, e.f4.f1.length ≤ maxLen) : Ev (fun k => garnerref06_Same.f k l l) true := by
  have main : ∀ (d j : Nat), l.length - j = d → j ≤ l.length → Ev (fun k => garnerref06_Same.l0 k l l (j : Int)) true := by
    intro d
    induction d with
    | zero =>
      intro j hd hj
      rw [ev_succ]
      simp only [garnerref06_Same.l0, ev_ite]
      rw [if_neg (by omega), ev_some]
    | succ d ih =>
      intro j hd hj
      have hjl : j < l.length := by omega
      have e : rd_T42 l (j : Int) = l[j] := by simp [rd_T42, hjl]
      have hgj := hg _ (List.getElem_mem hjl)
      have hw : wrap64 ((j : Int) + 1) = ((j + 1 : Nat) : Int) := w64 (by omega) (by omega)
      rw [ev_succ]
      simp only [garnerref06_Same.l0, ev_ite, hw, e]
      generalize l[j] = x at hgj ⊢
      have hs : Ev (fun k => garnerref05_Same.f k x.f4.f0 x.f4.f1 x.f4.f2.f0 x.f4.f2.f1 x.f4.f2.f2 x.f4.f2.f3 x.f4.f0 x.f4.f1 x.f4.f2.f0 x.f4.f2.f1 x.f4.f2.f2 x.f4.f2.f3) true := by
        simp only [garnerref05_Same.f, ev_ite]
        rw [if_pos (by simp), if_pos (by simp), ev_bind (garnerref02_Bytes_ev hgj), ev_some]
        simp
      rw [if_pos (by omega), if_pos (by omega), if_pos (by omega), if_pos (by trivial), if_pos (by trivial), if_pos (by trivial), if_pos (by trivial), ev_bind hs, ev_ite, if_pos (by trivial)]
      exact ih (j + 1) (by omega) (by omega)
  simp only [garnerref06_Same.f, ev_ite]
  rw [if_pos (by trivial)]
  exact main (l.length - 0) 0 rfl (by omega)
theorem garnerlaw06_Light_ev (l : List S42) (hl : l.length ≤ 140737488351232) : Ev (fun k => garnerlaw06_Light.f k l) (lightN (prsN l)) := by
  have main : ∀ (d i : Nat), l.length - i = d → i ≤ l.length → i ≤ 41 → lightN (prsN l) = (decide (l.length ≤ 40) && (prsN (l.drop i)).all fun e => decide (e.key.size ≤ 200 ∧ e.b.length ≤ 200)) → Ev (fun k => garnerlaw06_Light.l0 k l (i : Int)) (lightN (prsN l)) := by
    intro d
    induction d with
    | zero =>
      intro i hd hi h41 he
      rw [List.drop_eq_nil_of_le (by omega)] at he
      rw [he, ev_succ]
      simp only [garnerlaw06_Light.l0, ev_ite]
      rw [if_neg (by omega), ev_succ]
      simp only [garnerlaw06_Light.j1, ev_ite]
      rw [if_neg (by simp), ev_some]
      have e : (prsN []).all (fun e => decide (e.key.size ≤ 200 ∧ e.b.length ≤ 200)) = true := rfl
      rw [e, Bool.and_true, decide_eq_decide]
      omega
    | succ d ih =>
      intro i hd hi h41 he
      have hil : i < l.length := by omega
      rw [dropN_eq hil] at he
      have hw : wrap64 ((i : Int) + 1) = ((i + 1 : Nat) : Int) := w64 (by omega) (by omega)
      have ih' := ih (i + 1) (by omega) (by omega)
      rw [ev_succ]
      simp only [garnerlaw06_Light.l0, ev_ite]
      rw [if_pos (by omega), ev_succ]
      simp only [garnerlaw06_Light.j1, ev_ite, hw]
      generalize rd_T42 l (i : Int) = f at he ⊢
      have e1 : (prsN (f :: l.drop (i + 1))).all (fun e => decide (e.key.size ≤ 200 ∧ e.b.length ≤ 200)) = (decide (f.f3.size ≤ 200 ∧ f.f4.f1.length ≤ 200) && (prsN (l.drop (i + 1))).all fun e => decide (e.key.size ≤ 200 ∧ e.b.length ≤ 200)) := rfl
      rw [e1] at he
      by_cases h1 : i ≤ 40
      · rw [if_pos (by rw [decide_eq_true_eq]; omega), if_pos (by omega), if_pos (by omega)]
        by_cases h2 : f.f3.size > 200
        · rw [if_pos (by omega), ev_some, he, decide_eq_false (show ¬ (f.f3.size ≤ 200 ∧ f.f4.f1.length ≤ 200) by omega), Bool.false_and, Bool.and_false]
        · rw [if_neg (by omega)]
          by_cases h3 : f.f4.f1.length > 200
          · rw [if_pos (by omega), ev_some, he, decide_eq_false (show ¬ (f.f3.size ≤ 200 ∧ f.f4.f1.length ≤ 200) by omega), Bool.false_and, Bool.and_false]
          · rw [if_neg (by omega)]
            refine ih' (by omega) ?_
            rw [he, decide_eq_true (show f.f3.size ≤ 200 ∧ f.f4.f1.length ≤ 200 by omega), Bool.true_and]
      · rw [if_neg (by rw [decide_eq_true_eq]; omega), ev_some, he, decide_eq_false (show ¬ l.length ≤ 40 by omega), Bool.false_and, decide_eq_false (by omega)]
  refine main (l.length - 0) 0 rfl (by omega) (by omega) ?_
  unfold lightN
  rw [prsN_len, List.drop_zero]
theorem garnerref04_May_ev (s a l u : Int) : garnerref04_May.f s a l u = some (mayP s a l) := by
  unfold garnerref04_May.f mayP
  repeat' split
  all_goals (congr 1; first | (symm; rw [decide_eq_false_iff_not]; omega) | (rw [Bool.eq_iff_iff]; simp only [decide_eq_true_eq]; omega))
theorem garnerref05_May_ev (far : Bool) (b : List Int) (s a n u : Int) : garnerref05_May.f far b s a n u = some (mayC far b s a n u) := by
  unfold garnerref05_May.f mayC
  cases far with
  | true =>
    rw [if_pos rfl, if_pos rfl]
    by_cases h : b.length = 0
    · rw [if_pos (by omega), garnerref04_May_ev, decide_eq_true h, Bool.true_and]
      rfl
    · rw [if_neg (by omega), decide_eq_false h, Bool.false_and]
  | false =>
    simp only [Bool.false_eq_true, if_false]
    rw [zero_isr]
    by_cases h : b.length ≤ 32
    · rw [if_pos (by omega), decide_eq_true h, Bool.true_and]
    · rw [if_neg (by omega), decide_eq_false h, Bool.false_and]
theorem garnerref06_May_ev {e : Ent} (hb : e.b.length ≤ maxLen) : Ev (fun k => garnerref06_May.f k e.i e.t e.k e.key e.far e.b e.s e.a e.n e.u) (mayN e) := by
  have hnot : ¬ (1 ≤ e.i ∧ e.i ≤ 2147483647 ∧ 1 ≤ e.t ∧ e.t ≤ 2147483647 ∧ 0 ≤ e.k ∧ e.k ≤ 2 ∧ e.key.size ≤ 64 ∧ (e.key.size = 0 ↔ e.k = 0)) → mayN e = false := fun h => by
    unfold mayN headN
    rw [decide_eq_false h, Bool.false_and]
  have bad : mayN e = false → Ev (fun k => garnerref06_May.j0 k true e.i e.t e.k e.key e.far e.b e.s e.a e.n e.u) (mayN e) := by
    intro h
    rw [h, ev_succ]
    simp only [garnerref06_May.j0, ev_ite]
    rw [if_pos (by trivial), ev_some]
  have hz := toList_nil e.key
  simp only [garnerref06_May.f, ev_ite]
  by_cases h1 : e.i < 1
  · rw [if_pos h1]; exact bad (hnot (by omega))
  rw [if_neg h1]
  by_cases h2 : e.i > 2147483647
  · rw [if_pos h2]; exact bad (hnot (by omega))
  rw [if_neg h2]
  by_cases h3 : e.t < 1
  · rw [if_pos h3]; exact bad (hnot (by omega))
  rw [if_neg h3]
  by_cases h4 : e.t > 2147483647
  · rw [if_pos h4]; exact bad (hnot (by omega))
  rw [if_neg h4, ev_bind_c (garnerref05_May_ev _ _ _ _ _ _), ev_ite]
  by_cases hc : mayC e.far e.b e.s e.a e.n e.u = true
  · rw [if_pos hc]
    by_cases h5 : e.key.size > 64
    · rw [decide_eq_true (by omega)]; exact bad (hnot (by omega))
    rw [decide_eq_false (by omega), ev_succ]
    simp only [garnerref06_May.j0, ev_ite]
    rw [if_neg (by simp)]
    have hmk : ∀ q : Bool, (e.k ≠ 2 ∨ plainC e.far e.b e.s e.a e.n e.u = true) → (q = true ↔ (0 ≤ e.k ∧ e.k ≤ 2 ∧ (e.key.size = 0 ↔ e.k = 0))) → q = mayN e := by
      intro q hp hq
      rw [Bool.eq_iff_iff, hq, mayN_iff]
      constructor
      · intro h
        exact ⟨by omega, hp, hc⟩
      · intro h
        omega
    by_cases k0 : e.k = 0
    · rw [if_pos k0, ev_some]
      refine hmk _ (.inl (by omega)) ?_
      rw [beq_iff_eq, hz]
      omega
    rw [if_neg k0]
    by_cases k2 : e.k = 2
    · rw [if_pos k2]
      by_cases hs : e.key.size = 0
      · rw [if_pos (hz.2 hs), ev_some]
        exact (hnot (by omega)).symm
      · rw [if_neg (fun h => hs (hz.1 h)), ev_bind (garnerref05_Same_plain hb _ _ _ _), ev_some]
        rw [Bool.eq_iff_iff, mayN_iff]
        constructor
        · intro h
          exact ⟨by omega, .inr h, hc⟩
        · intro h
          rcases h.2.1 with h | h
          · exact absurd k2 h
          · exact h
    rw [if_neg k2]
    by_cases k1 : e.k = 1
    · rw [if_pos k1, ev_some]
      refine hmk _ (.inl (by omega)) ?_
      rw [bne_iff_ne, ne_eq, hz]
      omega
    · rw [if_neg k1, ev_some]
      exact (hnot (by omega)).symm
  · rw [if_neg hc]
    refine bad ?_
    unfold mayN
    rw [Bool.not_eq_true] at hc
    rw [hc, Bool.and_false, Bool.and_false]
theorem garnerref06_Batch_ev (l : List S42) (hl : l.length ≤ 140737488351232) (hg : ∀ e ∈ l, goodN e) : Ev (fun k => garnerref06_Batch.f k l) (batchB (prsN l)) := by
  have main : ∀ (d j : Nat) (p : Option (Int × Int)), l.length - j = d → j ≤ l.length → (j = 0 → p = none) → (∀ i : Nat, j = i + 1 → p = some ((rd_T42 l (i : Int)).f0, (rd_T42 l (i : Int)).f1)) →
      Ev (fun k => garnerref06_Batch.l0 k l (j : Int)) (decide (1 ≤ l.length ∧ l.length ≤ 16) && batchFrom p (prsN (l.drop j))) := by
    intro d
    induction d with
    | zero =>
      intro j p hd hj _ _
      rw [ev_succ]
      simp only [garnerref06_Batch.l0, ev_ite]
      have e : batchFrom p (prsN (l.drop j)) = true := by
        rw [List.drop_eq_nil_of_le (by omega)]
        cases p <;> rfl
      rw [if_neg (by omega), e, Bool.and_true]
      split
      · rw [ev_some, decide_eq_decide]
        omega
      · rw [ev_some]
        symm
        rw [decide_eq_false_iff_not]
        omega
    | succ d ih =>
      intro j p hd hj h0 hs
      have hjl : j < l.length := by omega
      have hgj := hg _ (rdN_mem hjl)
      have ih' := ih (j + 1) (some ((rd_T42 l (j : Int)).f0, (rd_T42 l (j : Int)).f1)) (by omega) (by omega) (by omega) (fun i hi => by rw [show i = j by omega])
      have hw : wrap64 ((j : Int) + 1) = ((j + 1 : Nat) : Int) := w64 (by omega) (by omega)
      rw [dropN_eq hjl]
      rw [ev_succ]
      simp only [garnerref06_Batch.l0, ev_ite, hw]
      generalize hE : rd_T42 l (j : Int) = e at hgj ih' ⊢
      have hc : Ev (fun k => garnerref06_May.f k e.f0 e.f1 e.f2 e.f3 e.f4.f0 e.f4.f1 e.f4.f2.f0 e.f4.f2.f1 e.f4.f2.f2 e.f4.f2.f3) (mayN (prN e)) := garnerref06_May_ev (e := prN e) (by have := hgj.2.2.2.1; simp only [prN]; unfold maxLen; omega)
      have el : prsN (e :: l.drop (j + 1)) = prN e :: prsN (l.drop (j + 1)) := rfl
      have e0 : (prN e).i = e.f0 := rfl
      have e1 : (prN e).t = e.f1 := rfl
      rw [el, if_pos (by omega), if_pos (by omega), ev_bind hc, ev_ite]
      by_cases hm : mayN (prN e) = true
      · have hm' := (mayN_iff.1 hm).1
        rw [e0, e1] at hm'
        rw [if_pos hm, ev_ite]
        by_cases hj0 : j = 0
        · rw [if_neg (by omega), h0 hj0, batch_none, hm, Bool.true_and, e0, e1]
          exact ih'
        · have hp := hs (j - 1) (by omega)
          have e2 : wrap64 ((j : Int) - 1) = ((j - 1 : Nat) : Int) := by
            rw [w64 (by omega) (by omega)]
            omega
          rw [if_pos (by omega), e2, ev_ite, if_pos (by omega), ev_ite, if_pos (by omega), ev_ite, hp, batch_some, hm, Bool.true_and, e0, e1, w64 (by omega) (by omega)]
          by_cases h1 : e.f0 = (rd_T42 l ((j - 1 : Nat) : Int)).f0 + 1
          · rw [if_pos (by omega), ev_ite]
            by_cases h2 : e.f1 < (rd_T42 l ((j - 1 : Nat) : Int)).f1
            · rw [if_pos h2, ev_some, decide_eq_false (show ¬ (e.f0 = (rd_T42 l ((j - 1 : Nat) : Int)).f0 + 1 ∧ (rd_T42 l ((j - 1 : Nat) : Int)).f1 ≤ e.f1) by omega), Bool.false_and, Bool.and_false]
            · rw [if_neg h2, decide_eq_true (show e.f0 = (rd_T42 l ((j - 1 : Nat) : Int)).f0 + 1 ∧ (rd_T42 l ((j - 1 : Nat) : Int)).f1 ≤ e.f1 by omega), Bool.true_and]
              exact ih'
          · rw [if_neg (by omega), ev_some, decide_eq_false (show ¬ (e.f0 = (rd_T42 l ((j - 1 : Nat) : Int)).f0 + 1 ∧ (rd_T42 l ((j - 1 : Nat) : Int)).f1 ≤ e.f1) by omega), Bool.false_and, Bool.and_false]
      · rw [if_neg hm, ev_some]
        rw [Bool.not_eq_true] at hm
        have hf : batchFrom p (prN e :: prsN (l.drop (j + 1))) = false := by
          cases p with
          | none => rw [batch_none, hm, Bool.false_and]
          | some q =>
            obtain ⟨i, t⟩ := q
            rw [batch_some, hm, Bool.false_and]
        rw [hf, Bool.and_false]
  have := main (l.length - 0) 0 none rfl (by omega) (fun _ => rfl) (fun i hi => by omega)
  unfold batchB
  rw [prsN_len]
  exact this
theorem entry_Same_1_self (e : S42) (hb : Bytes e.f4.f1) : entry_Same_1.f e.f0 e.f1 e.f2 e.f3 e.f4.f0 e.f4.f1 e.f4.f2.f0 e.f4.f2.f1 e.f4.f2.f2 e.f4.f2.f3 e.f0 e.f1 e.f2 e.f3 e.f4.f0 e.f4.f1 e.f4.f2.f0 e.f4.f2.f1 e.f4.f2.f2 e.f4.f2.f3 = some true := by
  have hc : cell_Same.f e.f4.f0 e.f4.f1 e.f4.f2.f0 e.f4.f2.f1 e.f4.f2.f2 e.f4.f2.f3 e.f4.f0 e.f4.f1 e.f4.f2.f0 e.f4.f2.f1 e.f4.f2.f2 e.f4.f2.f3 = some true := by
    unfold cell_Same.f
    rw [if_pos (by simp), if_pos (by simp), bytes_Equal_ev hb hb]
    simp
  unfold entry_Same_1.f
  rw [if_pos rfl, if_pos rfl, if_pos rfl, if_pos rfl, hc]
  rfl
theorem slices_EqualFunc_api_Entry_self (a : List S42) (ha : a.length ≤ 140737488351232) (hg : ∀ e ∈ a, Bytes e.f4.f1) : Ev (fun k => slices_EqualFunc_api_Entry.f k a a) true := by
  have main : ∀ (d j : Nat), a.length - j = d → j ≤ a.length → Ev (fun k => slices_EqualFunc_api_Entry.l0 k a a (a.length : Int) (j : Int)) true := by
    intro d
    induction d with
    | zero =>
      intro j hd hj
      rw [ev_succ]
      simp only [slices_EqualFunc_api_Entry.l0, ev_ite]
      rw [if_neg (by omega), ev_some]
    | succ d ih =>
      intro j hd hj
      have h1 : j < a.length := by omega
      have hgj := hg _ (rdN_mem h1)
      have ih' := ih (j + 1) (by omega) (by omega)
      rw [ev_succ]
      simp only [slices_EqualFunc_api_Entry.l0, ev_ite]
      generalize rd_T42 a (j : Int) = f at hgj ⊢
      rw [if_pos (by omega), if_pos (by omega), if_pos (by omega), if_pos (by omega), ev_bind_c (entry_Same_1_self f hgj), ev_ite, if_pos (by trivial), w64n (a := (j : Int) + 1) (j + 1) (by omega) (by omega)]
      exact ih'
  simp only [slices_EqualFunc_api_Entry.f, ev_ite]
  rw [if_pos (by trivial)]
  exact main (a.length - 0) 0 rfl (by omega)
theorem entry_Same_self (a : List S42) (ha : a.length ≤ 140737488351232) (hg : ∀ e ∈ a, Bytes e.f4.f1) : Ev (fun k => entry_Same.f k a a) true := by
  simp only [entry_Same.f]
  rw [ev_bind (slices_EqualFunc_api_Entry_self a ha hg), ev_some]
theorem EntryReads : StEntryReads.Pure := by
  intro l more cut _ hl hg0 _ _ hmb hcut
  have hg : ∀ e ∈ l, goodN e := fun e he => by
    obtain ⟨h1, h2, h3, h4, h5⟩ := hg0 e he
    obtain ⟨_, ⟨h6, h7, h8⟩, h9⟩ := h5
    obtain ⟨_, _, _, h10⟩ := h9
    have h10 := wf_u32 h10
    exact ⟨wf_i64 h1, wf_i64 h2, h4, by omega, Bytes.of_wf h8, h10.1, by omega⟩
  have hmb := Bytes.of_wf hmb
  have hcut := wf_u16 hcut
  have hl' : l.length ≤ 140737488351232 := by omega
  refine Ev.rounds (g := fun k => garnerlaw06_EntryReads.f k l more cut) ?_
  have fin : Ev (fun k => (garnerlaw06_awake.f k).bind fun t => some t) true := by rw [ev_bind garnerlaw06_awake_ev, ev_some]
  have fin0 : Ev (fun k => garnerlaw06_EntryReads.j0 k l more cut true) true := by
    rw [ev_succ]
    simp only [garnerlaw06_EntryReads.j0, ev_ite]
    rw [if_pos (by trivial)]
    exact fin
  simp only [garnerlaw06_EntryReads.f]
  rw [ev_bind (garnerlaw06_Light_ev l hl'), ev_ite]
  by_cases hL : lightN (prsN l) = true
  · rw [if_pos hL, ev_bind (garnerref06_Batch_ev l hl' hg), ev_ite]
    by_cases h : batchB (prsN l) = true
    · rw [if_pos h]
      by_cases hm : (more.length : Int) > 1000
      · rw [decide_eq_true hm]
        exact fin0
      · obtain ⟨h1, h2⟩ := batchB_iff.1 h
        have hmem := batchFrom_mem h2
        have hu : ∀ e ∈ prsN l, 0 ≤ e.u ∧ e.u < 4294967296 := by
          intro e he
          obtain ⟨x, hx, rfl⟩ := List.mem_map.1 he
          exact (hg x hx).2.2.2.2.2
        have hbb : ∀ e ∈ prsN l, Bytes e.b := by
          intro e he
          obtain ⟨x, hx, rfl⟩ := List.mem_map.1 he
          exact (hg x hx).2.2.2.2.1
        have hlen : (putB (prsN l)).length ≤ 3000 := by
          have hf := firstI_range hmem
          have hpl := puts_len (l := [((prsN l).length : Int), firstI (prsN l)]) (by
            intro u hu
            simp only [List.mem_cons, List.not_mem_nil, or_false] at hu
            omega)
          have key : ∀ l : List Ent, (∀ e ∈ l, mayN e = true) → (putNs l).length ≤ 128 * l.length := by
            intro l
            induction l with
            | nil => intro _; simp [putNs]
            | cons e l ih =>
              intro h
              have h3 := putN_len (h e (by simp))
              have h4 := ih fun x hx => h x (by simp [hx])
              rw [putNs_cons, List.length_append, List.length_cons]
              omega
          have hk := key _ hmem
          unfold putB
          rw [List.length_append]
          simp only [List.length_cons, List.length_nil] at hpl
          omega
        have hpos : 0 < (putB (prsN l)).length := by
          rw [head_puts]
          have := one_pos (prsN l).length
          simp only [List.length_append]
          omega
        have hB := putB_bytes hmem hbb
        have hp := entry_Put_ev l hl' hg
        rw [if_pos h] at hp
        have hget := entry_Get_ev hB (by omega)
        rw [getB_put h hu, if_neg (batchB_ne h), mkN_prsN] at hget
        have hget2 := entry_Get_ev (hB.append hmb) (by rw [List.length_append]; omega)
        rw [getB_put_more h hu more] at hget2
        have hs := entry_Same_self l hl' (fun e he => (hg e he).2.2.2.2.1)
        have hs2 := garnerref06_Same_self l hl' (fun e he => by have := (hg e he).2.2.2.1; unfold maxLen; omega)
        obtain ⟨c, hc⟩ : ∃ c : Nat, Int.tmod cut ((putB (prsN l)).length : Int) = (c : Int) := Int.eq_ofNat_of_zero_le (Int.tmod_nonneg _ hcut.1)
        have hclt : c < (putB (prsN l)).length := by
          have := Int.tmod_lt_of_pos cut (show (0 : Int) < ((putB (prsN l)).length : Int) by omega)
          omega
        have hget3 := entry_Get_ev (x := (putB (prsN l)).take c) (hB.take c) (by rw [List.length_take]; omega)
        rw [getB_cut h hu (hB.take c) (hB.drop c) (List.take_append_drop c _) (fun h_ => by
          have := congrArg List.length h_
          rw [List.length_drop] at this
          simp only [List.length_nil] at this
          omega), if_pos rfl] at hget3
        rw [decide_eq_false hm, ev_succ]
        simp only [garnerlaw06_EntryReads.j0, ev_ite]
        rw [if_neg (by simp), ev_bind hp]
        simp only
        rw [ev_bind hget]
        simp only [ev_ite]
        rw [if_pos (by trivial), if_pos (by trivial), ev_bind hs, ev_ite, if_pos (by trivial), ev_bind hs2, ev_ite, if_pos (by trivial), beq_eq_false_iff_ne.mpr (show ((putB (prsN l)).length : Int) ≠ 0 by omega), ev_succ]
        simp only [garnerlaw06_EntryReads.j1, ev_ite, Option.bind_some, List.nil_append]
        rw [if_neg (by simp), if_pos (by simp only [List.length_nil]; omega), if_pos (by omega), ev_bind hget2]
        simp only [ev_ite]
        rw [w64 (x := cut) (by omega) (by omega), hc, if_neg (by omega), if_pos (by omega), if_pos (by omega), Int.toNat_natCast, ev_bind hget3]
        simp only [ev_ite]
        have e1 : (((if (if more = [] then prsN l else []) = [] then (2 : Int) else 0) == 0) == ((more.length : Int) == 0)) = true := by
          by_cases hmn : more = []
          · subst hmn
            rw [if_pos rfl, if_neg (batchB_ne h)]
            rfl
          · have := List.length_pos_iff.2 hmn
            rw [if_neg hmn, if_pos rfl, beq_eq_false_iff_ne.mpr (show (more.length : Int) ≠ 0 by omega)]
            rfl
        rw [if_pos e1, if_pos (by trivial)]
        exact fin
    · rw [if_neg h]
      exact fin0
  · rw [if_neg hL]
    exact fin0
end Go.Proofs.Ytpplclcgkcjmpaa.Pure
