/- The pure statement of the law ExportPuts: what the printed functions answer, each by its plain law, and that the law's answer is true. -/
import Derived.Test.YtapamplgajkjlaaPExportPutsx0
import Derived.Test.YtapamplgajkjlaaPExportPutsx1
import Derived.Test.YtapamplgajkjlaaPExportPutsx2
import Derived.Test.YtapamplgajkjlaaPExportPutsx3
import Derived.Test.YtapamplgajkjlaaPExportPutsx4
import Derived.Test.YtapamplgajkjlaaPExportPutsx5
import Derived.Test.YtapamplgajkjlaaPExportPutsx6
import Derived.Test.YtapamplgajkjlaaPExportPutsx7
import Derived.Test.YtapamplgajkjlaaPExportPutsx8
import Derived.Test.YtapamplgajkjlaaPExportPutsx9
import Derived.Test.YtapamplgajkjlaaPExportPutsx10
import Derived.Test.YtapamplgajkjlaaPExportPutsx11
import Derived.Test.YtapamplgajkjlaaPExportPutsx12
import Derived.Test.YtapamplgajkjlaaPExportPutsx13
import Derived.Test.YtapamplgajkjlaaStExportPuts
import Derived.Test.YtapamplgajkjlaaQSz
import Derived.Test.YtapamplgajkjlaaQV02
import Derived.Test.YtapamplgajkjlaaQF27
import Derived.Test.YtapamplgajkjlaaQV03
import Derived.Test.YtapamplgajkjlaaQV04
import Derived.Test.YtapamplgajkjlaaQF03
import Derived.Test.YtapamplgajkjlaaQV07
namespace Go.Proofs.Ytapamplgajkjlaa.Pure
open Go.RowKit Go.Proofs.Ytapamplgajkjlaa.PExportPuts Go.Proofs.Ytapamplgajkjlaa.U Go.Proofs.YtapamplgajkjlaaW.PrintWords Go.Proofs.YtapamplgajkjlaaW.PrintLast Go.Proofs.YtapamplgajkjlaaW.PrintMore
set_option linter.unusedVariables false
set_option linter.unusedSimpArgs false
set_option maxRecDepth 4000
def prQ (f : S135) : PairT := (f.f0, f.f1)
def prsQ (l : List S135) : List (PairT) := l.map prQ
theorem prsQ_len (l : List S135) : (prsQ l).length = l.length := by simp [prsQ]
theorem prsQ_append (a b : List S135) : prsQ (a ++ b) = prsQ a ++ prsQ b := by simp [prsQ]
theorem rdQ_get {l : List S135} {i : Nat} (h : i < l.length) : rd_T135 l (i : Int) = l[i] := by
  simp [rd_T135, h]
theorem dropQ_eq {l : List S135} {i : Nat} (h : i < l.length) : l.drop i = rd_T135 l (i : Int) :: l.drop (i + 1) := by
  rw [rdQ_get h]
  exact List.drop_eq_getElem_cons h
theorem rdQ_mem {l : List S135} {i : Nat} (h : i < l.length) : rd_T135 l (i : Int) ∈ l := by
  rw [rdQ_get h]
  exact List.getElem_mem _
def goodQ (f : S135) : Prop := f.f0.size ≤ 140737488351232 ∧ f.f1.length ≤ 140737488351232 ∧ Bytes f.f1
def mkQ (p : PairT) : S135 := ⟨p.1, p.2⟩
theorem mk_prsQ (l : List S135) : (prsQ l).map mkQ = l := by
  unfold prsQ
  rw [List.map_map]
  simp [Function.comp_def, mkQ, prQ]
instance : DecidableEq S135 := fun a b => decidable_of_iff (prQ a = prQ b) ⟨fun h => by
  cases a
  cases b
  simp only [prQ, Prod.mk.injEq] at h
  rw [h.1, h.2], fun h => by rw [h]⟩
def prF (f : S83) : Int × List Int := (f.f0, f.f1)
def prsF (l : List S83) : List (Int × List Int) := l.map prF
theorem prsF_len (l : List S83) : (prsF l).length = l.length := by simp [prsF]
theorem prsF_append (a b : List S83) : prsF (a ++ b) = prsF a ++ prsF b := by simp [prsF]
theorem rdF_get {l : List S83} {i : Nat} (h : i < l.length) : rd_T83 l (i : Int) = l[i] := by
  simp [rd_T83, h]
theorem dropF_eq {l : List S83} {i : Nat} (h : i < l.length) : l.drop i = rd_T83 l (i : Int) :: l.drop (i + 1) := by
  rw [rdF_get h]
  exact List.drop_eq_getElem_cons h
theorem rdF_mem {l : List S83} {i : Nat} (h : i < l.length) : rd_T83 l (i : Int) ∈ l := by
  rw [rdF_get h]
  exact List.getElem_mem _
def goodF (f : S83) : Prop := (-9223372036854775808 ≤ f.f0 ∧ f.f0 ≤ 9223372036854775807) ∧ f.f1.length ≤ 140737488351232 ∧ Bytes f.f1
def mkF (p : Int × List Int) : S83 := ⟨p.1, p.2⟩
theorem prsF_mk (l : List (Int × List Int)) : prsF (l.map mkF) = l := by
  unfold prsF
  rw [List.map_map]
  simp [Function.comp_def, mkF, prF]
theorem export_Sorted_ev (l : List S135) (hl : l.length ≤ 140737488351232) : Ev (fun k => export_Sorted.f k l) (sortedP (prsQ l)) := by
  have main : ∀ (d j : Nat) (last : ByteArray), l.length - j = d → j ≤ l.length → Ev (fun k => export_Sorted.l0 k last l (l.length : Int) (j : Int)) (sortedFrom last.toList (prsQ (l.drop j))) := by
    intro d
    induction d with
    | zero =>
      intro j last hd hj
      rw [ev_succ]
      simp only [export_Sorted.l0, ev_ite]
      rw [if_neg (by omega), ev_some, List.drop_eq_nil_of_le (by omega)]
      rfl
    | succ d ih =>
      intro j last hd hj
      have hjl : j < l.length := by omega
      rw [dropQ_eq hjl]
      rw [ev_succ]
      simp only [export_Sorted.l0, ev_ite]
      generalize rd_T135 l (j : Int) = f
      have e2 : sortedFrom last.toList (prsQ (f :: l.drop (j + 1))) = (Op.bytesLess last.toList f.f0.toList && (decide (f.f0.size ≤ 64) && (decide (f.f1.length ≤ 4096) && sortedFrom f.f0.toList (prsQ (l.drop (j + 1)))))) := rfl
      rw [e2, if_pos (by omega), if_pos (by omega), if_pos (by omega)]
      by_cases h1 : Op.bytesLess last.toList f.f0.toList = true
      · rw [if_pos h1, h1]
        by_cases h2 : f.f0.size > 64
        · rw [if_pos (by omega), ev_some, decide_eq_false (by omega)]
          simp
        · rw [if_neg (by omega), decide_eq_true (by omega)]
          by_cases h3 : f.f1.length > 4096
          · rw [if_pos (by omega), ev_some, decide_eq_false (by omega)]
            simp
          · rw [if_neg (by omega), decide_eq_true (by omega), w64 (by omega) (by omega)]
            refine ev_eq (ih (j + 1) f.f0 (by omega) (by omega)) ?_
            simp
      · rw [if_neg h1, ev_some]
        simp [h1]
  simp only [export_Sorted.f, ev_ite]
  unfold sortedP
  rw [prsQ_len]
  by_cases h : l.length > 4096
  · rw [if_pos (by omega), ev_some, decide_eq_false (by omega)]
    rfl
  · rw [if_neg (by omega), decide_eq_true (by omega), Bool.true_and]
    have := main (l.length - 0) 0 ⟨#[]⟩ rfl (by omega)
    rw [empty_toList] at this
    exact this
theorem export_counts_ev (n : Int) : export_counts.f n = some (decide (1 ≤ n ∧ n ≤ 2147483647)) := by
  unfold export_counts.f
  split
  · congr 1
    rw [decide_eq_decide]
    omega
  · congr 1
    symm
    rw [decide_eq_false_iff_not]
    omega
theorem varint_Put_l1_ev (l : List Int) (hl : l.length ≤ 10000000000000) (j : Nat) : ∀ (u : Nat) (b : List Int), u < 18446744073709551616 → b.length + (one u).length ≤ 10 * (j + 1) → j < l.length → ∀ r : List Int,
    Ev (fun k => varint_Put.l0 k (b ++ one u) l (l.length : Int) ((j + 1 : Nat) : Int)) r → Ev (fun k => varint_Put.l1 k b (u : Int) l (l.length : Int) (j : Int)) r := by
  intro u
  induction u using Nat.strongRecOn with
  | _ u ih =>
    intro b hu hlen hj r hr
    rw [ev_succ]
    simp only [varint_Put.l1, ev_ite]
    by_cases h : u < 128
    · rw [if_neg (by omega), if_pos (by omega), w64 (by omega) (by omega)]
      rw [one_lt h] at hr
      have e : (u : Int) % 256 = u := by omega
      rw [e]
      exact hr
    · have e : Go.bits .or .u8 ((u : Int) % 256) 128 = ((u % 128 + 128 : Nat) : Int) := by
        rw [or_u8 (by omega) (by omega)]
        omega
      have e2 : (u : Int) / 128 = ((u / 128 : Nat) : Int) := by omega
      rw [if_pos (by omega), if_pos (by omega), e, e2]
      rw [one_ge (u := u) (by omega), List.length_cons] at hlen
      refine ih (u / 128) (by omega) _ (by omega) (by rw [List.length_append, List.length_singleton]; omega) hj r ?_
      rw [one_ge (u := u) (by omega)] at hr
      rw [List.append_assoc, List.singleton_append]
      exact hr
theorem varint_Put_l0_ev (l : List Int) (hl : l.length ≤ 10000000000000) (hu : ∀ u ∈ l, 0 ≤ u ∧ u < 18446744073709551616) : ∀ (d j : Nat) (b : List Int), l.length - j = d → j ≤ l.length → b.length ≤ 10 * j →
    Ev (fun k => varint_Put.l0 k b l (l.length : Int) (j : Int)) (b ++ puts (l.drop j)) := by
  intro d
  induction d with
  | zero =>
    intro j b hd hj hb
    rw [ev_succ]
    simp only [varint_Put.l0, ev_ite]
    rw [if_neg (by omega), ev_some, List.drop_eq_nil_of_le (by omega), puts_nil, List.append_nil]
  | succ d ih =>
    intro j b hd hj hb
    rw [ev_succ]
    simp only [varint_Put.l0, ev_ite]
    rw [if_pos (by omega), if_pos (by omega), if_pos (by omega)]
    have h := hu _ (rd_mem (xs := l) (i := (j : Int)) (by omega) (by omega))
    have e : rd l (j : Int) = ((rd l (j : Int)).toNat : Int) := by omega
    have h10 := one_len10 (u := (rd l (j : Int)).toNat) (by omega)
    rw [e]
    refine varint_Put_l1_ev l hl j _ b (by omega) (by omega) (by omega) _ ?_
    have := ih (j + 1) (b ++ one (rd l (j : Int)).toNat) (by omega) (by omega) (by rw [List.length_append]; omega)
    refine ev_eq this ?_
    rw [drop_eq (xs := l) (i := j) (by omega), puts_cons, List.append_assoc]
theorem varint_Put_ev {l : List Int} (hl : l.length ≤ 10000000000000) (hu : ∀ u ∈ l, 0 ≤ u ∧ u < 18446744073709551616) : Ev (fun k => varint_Put.f k l) (puts l) :=
  varint_Put_l0_ev l hl hu (l.length - 0) 0 [] rfl (by omega) (by simp)
theorem frame_may_ev (k : Int) (b : List Int) : frame_may.f k b = some (mayF k b) := by
  unfold frame_may.f mayF
  repeat' split
  all_goals (congr 1; first | (symm; rw [decide_eq_false_iff_not]; omega) | (rw [Bool.eq_iff_iff]; simp only [decide_eq_true_eq]; omega))
theorem frame_tail_ev {l : List Int} (s : Int) (hl : l.length ≤ 10000000000000) : frame_tail.f l s = some (l ++ sum4 s) := by
  unfold frame_tail.f
  simp only [Option.bind_some, List.length_cons, List.length_nil]
  rw [if_pos (by omega)]
  rfl
theorem mixStep_lt {x : Nat} (h : x < 4294967296) : mixStep x < 4294967296 := by
  unfold mixStep
  split
  · exact xor_lt32 (by omega) (by unfold poly; omega)
  · rw [Nat.xor_zero]; omega
theorem crc_step {x : Nat} (h : x < 4294967296) : Go.bits .xor .u32 ((x : Int) / 2) (Go.bits .and .u32 2197175160 ((-(Go.bits .and .u32 (x : Int) 1)) % 4294967296)) = (mixStep x : Int) := by
  have e1 : Go.bits .and .u32 (x : Int) 1 = ((x &&& 1 : Nat) : Int) := and32 (b := 1) h (by decide)
  rw [Nat.and_one_is_mod] at e1
  rw [e1]
  unfold mixStep
  have e2 : (x : Int) / 2 = ((x / 2 : Nat) : Int) := rfl
  rw [e2]
  rcases Nat.mod_two_eq_zero_or_one x with hx | hx
  · rw [hx]
    have e3 : (-((0 : Nat) : Int)) % 4294967296 = ((0 : Nat) : Int) := by omega
    have e4 : Go.bits .and .u32 2197175160 ((0 : Nat) : Int) = ((2197175160 &&& 0 : Nat) : Int) := and32 (a := 2197175160) (b := 0) (by decide) (by decide)
    rw [e3, e4, Nat.and_zero, xor32 (by omega) (by omega), if_neg (by omega)]
  · rw [hx]
    have e3 : (-((1 : Nat) : Int)) % 4294967296 = ((4294967295 : Nat) : Int) := by omega
    have e4 : Go.bits .and .u32 2197175160 ((4294967295 : Nat) : Int) = ((2197175160 &&& 4294967295 : Nat) : Int) := and32 (a := 2197175160) (b := 4294967295) (by decide) (by decide)
    have e5 : 2197175160 &&& 4294967295 = poly := by decide
    rw [e3, e4, e5, xor32 (by omega) (by unfold poly; omega), if_pos rfl]
theorem crc_More_l1_ev (l : List Int) (hl : l.length ≤ maxLen) (j : Nat) (hj : j < l.length) (r : Int) : ∀ (d x : Nat), d ≤ 8 → x < 4294967296 → Ev (fun k => crc_More.l0 k (mixSteps d x : Nat) l (l.length : Int) ((j : Int) + 1)) r →
    Ev (fun k => crc_More.l1 k (x : Int) l (l.length : Int) (j : Int) (8 - (d : Int))) r := by
  have hlm := maxLen_le hl
  intro d
  induction d with
  | zero =>
    intro x hd hx hr
    rw [ev_succ]
    simp only [crc_More.l1, ev_ite]
    rw [if_neg (by omega), w64 (by omega) (by omega)]
    exact hr
  | succ d ih =>
    intro x hd hx hr
    rw [ev_succ]
    simp only [crc_More.l1, ev_ite]
    rw [if_pos (by omega), crc_step hx, w64 (by omega) (by omega)]
    have e : 8 - ((d + 1 : Nat) : Int) + 1 = 8 - (d : Int) := by omega
    rw [e]
    exact ih _ (by omega) (mixStep_lt hx) hr
theorem crc_More_l0_ev (l : List Int) (hl : l.length ≤ maxLen) (hb : Bytes l) : ∀ (d j r : Nat), l.length - j = d → j ≤ l.length → r < 4294967296 → Ev (fun k => crc_More.l0 k (r : Int) l (l.length : Int) (j : Int)) ((4294967295 ^^^ crcRun r (l.drop j) : Nat) : Int) := by
  intro d
  induction d with
  | zero =>
    intro j r hd hj hr
    rw [ev_succ]
    simp only [crc_More.l0, ev_ite]
    have e : Go.bits .xor .u32 4294967295 (r : Int) = ((4294967295 ^^^ r : Nat) : Int) := xor32 (a := 4294967295) (by decide) hr
    rw [if_neg (by omega), ev_some, List.drop_eq_nil_of_le (by omega), e]
    rfl
  | succ d ih =>
    intro j r hd hj hr
    have hc := hb.rd (i := (j : Int)) (by omega) (by omega)
    rw [ev_succ]
    simp only [crc_More.l0, ev_ite]
    obtain ⟨c, hce⟩ := Int.eq_ofNat_of_zero_le hc.1
    have e : Go.bits .xor .u32 (r : Int) (rd l (j : Int) % 4294967296) = ((r ^^^ c : Nat) : Int) := by
      rw [hce]
      have : (c : Int) % 4294967296 = (c : Int) := by omega
      rw [this]
      exact xor32 hr (by omega)
    rw [if_pos (by omega), if_pos (by omega), if_pos (by omega), e]
    have e2 : (0 : Int) = 8 - ((8 : Nat) : Int) := by omega
    rw [e2]
    refine crc_More_l1_ev l hl j (by omega) _ 8 _ (by omega) (xor_lt32 hr (by omega)) ?_
    rw [mix_byte (by omega)]
    refine ev_eq (ih (j + 1) _ (by omega) (by omega) (crcByte_lt hr)) ?_
    rw [drop_eq (xs := l) (i := j) (by omega), hce]
    rfl
theorem crc_More_ev {s : Nat} {l : List Int} (hs : s < 4294967296) (hl : l.length ≤ maxLen) (hb : Bytes l) : Ev (fun k => crc_More.f k (s : Int) l) ((4294967295 ^^^ crcRun (4294967295 ^^^ s) l : Nat) : Int) := by
  simp only [crc_More.f]
  have e : Go.bits .xor .u32 4294967295 (s : Int) = ((4294967295 ^^^ s : Nat) : Int) := xor32 (a := 4294967295) (by decide) hs
  rw [e]
  exact crc_More_l0_ev l hl hb (l.length - 0) 0 _ rfl (by omega) (xor_lt32 (by omega) hs)
theorem crc_Of_ev {l : List Int} (hl : l.length ≤ maxLen) (hb : Bytes l) : Ev (fun k => crc_Of.f k l) (crcOf l : Int) := by
  simp only [crc_Of.f]
  have h : Ev (fun k => crc_More.f k 0 l) ((4294967295 ^^^ crcRun (4294967295 ^^^ 0) l : Nat) : Int) := crc_More_ev (s := 0) (by omega) hl hb
  rw [ev_bind h, ev_some, Nat.xor_zero]
  rfl
theorem frame_sum_ev {kind : Int} {body : List Int} (hk : 0 ≤ kind ∧ kind ≤ 255) (hl : body.length ≤ maxLen) (hb : Bytes body) : Ev (fun k => frame_sum.f k kind body) (sumF kind body : Int) := by
  simp only [frame_sum.f]
  have h1 : Ev (fun k => crc_Of.f k [kind]) (crcOf [kind] : Int) := crc_Of_ev (by simp [maxLen]) (by intro x hx; rw [List.mem_singleton.1 hx]; omega)
  rw [ev_bind h1, ev_bind (crc_More_ev (crcOf_lt _) hl hb), ev_some]
  have e : 4294967295 ^^^ crcOf [kind] = crcRun 4294967295 [kind] := by
    unfold crcOf
    rw [← Nat.xor_assoc, Nat.xor_self, Nat.zero_xor]
  rw [e, ← crcRun_append]
  rfl
theorem frame_Put_l0_ev (l : List S83) (hl : l.length ≤ 10000000000) (hg : ∀ f ∈ l, goodF f) (hs : sumLen (prsF l) ≤ 1000000000000) : ∀ (d j : Nat) (b : List Int), l.length - j = d → j ≤ l.length → b.length + (putsF (prsF (l.drop j))).length ≤ 2000000000000 →
    Ev (fun k => frame_Put.l0 k b l (l.length : Int) (j : Int)) (if allF (prsF (l.drop j)) = true then (b ++ putsF (prsF (l.drop j)), 0) else ([], 1)) := by
  intro d
  induction d with
  | zero =>
    intro j b hd hj hb
    rw [ev_succ]
    simp only [frame_Put.l0, ev_ite]
    rw [if_neg (by omega), ev_some, List.drop_eq_nil_of_le (by omega)]
    simp [prsF, allF, putsF]
  | succ d ih =>
    intro j b hd hj hb
    have hjl : j < l.length := by omega
    have hgj := hg _ (rdF_mem hjl)
    rw [dropF_eq hjl] at hb ⊢
    have hmemp : prF (rd_T83 l (j : Int)) ∈ prsF l := List.mem_map.2 ⟨_, rdF_mem hjl, rfl⟩
    have hlen := sumLen_mem hmemp
    generalize hF : rd_T83 l (j : Int) = f at *
    have e1 : prsF (f :: l.drop (j + 1)) = (f.f0, f.f1) :: prsF (l.drop (j + 1)) := rfl
    rw [e1, putsF_cons, List.length_append, putF_len] at hb
    simp only [prF] at hlen
    simp only at hb
    have h10 := one_len10 (u := f.f1.length) (by have := hgj.2.1; omega)
    rw [ev_succ]
    simp only [frame_Put.l0, ev_ite, hF]
    rw [if_pos (by omega), if_pos (by omega), if_pos (by omega), ev_bind_c (frame_may_ev _ _), ev_ite]
    have e2 : allF (prsF (f :: l.drop (j + 1))) = (mayF f.f0 f.f1 && allF (prsF (l.drop (j + 1)))) := rfl
    rw [e2]
    by_cases hm : mayF f.f0 f.f1 = true
    · have hm' := mayF_iff.1 hm
      have hput : Ev (fun k => varint_Put.f k [(f.f1.length : Int)]) (one f.f1.length) := by
        have := varint_Put_ev (l := [(f.f1.length : Int)]) (by simp) (by intro v hv; rw [List.mem_singleton.1 hv]; omega)
        rw [puts_cons, puts_nil, List.append_nil, Int.toNat_natCast] at this
        exact this
      have ek : f.f0 % 256 = f.f0 := by omega
      rw [if_pos hm, wu64 (by omega) (by omega), ev_bind hput, ev_ite, if_pos (by omega)]
      simp only [Option.bind_some, ev_ite]
      rw [if_pos (by rw [List.length_append]; omega), if_pos (by simp only [List.length_append, List.length_singleton]; omega), ek, ev_bind (frame_sum_ev (by omega) (by have := hgj.2.1; unfold maxLen; omega) hgj.2.2), ev_bind_c (frame_tail_ev _ (by simp only [List.length_append, List.length_singleton]; omega)), w64 (by omega) (by omega)]
      have e3 : b ++ one f.f1.length ++ [f.f0] ++ f.f1 ++ sum4 (sumF f.f0 f.f1) = b ++ putF f.f0 f.f1 := by
        unfold putF
        simp
      rw [e3]
      refine ev_eq (ih (j + 1) (b ++ putF f.f0 f.f1) (by omega) (by omega) (by rw [List.length_append, putF_len]; omega)) ?_
      rw [hm, Bool.true_and, e1, putsF_cons, List.append_assoc]
    · rw [if_neg hm, ev_some, if_neg (by simp [hm])]
theorem frame_Put_ev {l : List S83} (hl : l.length ≤ 10000000000) (hg : ∀ f ∈ l, goodF f) (hs : sumLen (prsF l) ≤ 1000000000000) : Ev (fun k => frame_Put.f k l) (if allF (prsF l) = true then (putsF (prsF l), 0) else ([], 1)) := by
  have hp := putsF_len (l := prsF l) (by
    intro f hf
    have := sumLen_mem hf
    omega)
  rw [prsF_len] at hp
  exact frame_Put_l0_ev l hl hg hs (l.length - 0) 0 [] rfl (by omega) (by simp; omega)
theorem export_foot_ev (s : Int) : export_foot.f s = some (sum4 s) := rfl
theorem frame_one_ev {kd : Int} {body : List Int} (h : mayF kd body = true) (hb : Bytes body) : Ev (fun k => frame_Put.f k [(⟨kd, body⟩ : S83)]) (putF kd body, 0) := by
  have hm := mayF_iff.1 h
  have h1 := frame_Put_ev (l := [(⟨kd, body⟩ : S83)]) (by simp) (by
    intro f hf
    rw [List.mem_singleton.1 hf]
    exact ⟨by simp only; omega, by simp only; omega, hb⟩) (by simp [prsF, prF, sumLen]; omega)
  have e1 : allF (prsF [(⟨kd, body⟩ : S83)]) = true := by simp [prsF, prF, allF, h]
  have e2 : putsF (prsF [(⟨kd, body⟩ : S83)]) = putF kd body := by simp [prsF, prF, putsF]
  rw [e1, e2, if_pos rfl] at h1
  exact h1
theorem export_Put_l0_ev (l : List S135) (hl : l.length ≤ 4096) (hg : ∀ p ∈ l, Bytes p.f1) (hs : ∀ p ∈ prsQ l, p.1.size ≤ 64 ∧ p.2.length ≤ 4096) : ∀ (d j : Nat) (b : List Int), l.length - j = d → j ≤ l.length → Bytes b → b.length ≤ 100 + 4190 * j →
    Ev (fun k => export_Put.l0 k b l (l.length : Int) (j : Int)) (b ++ putsF ((prsQ (l.drop j)).map fun p => (22, bodyP p)) ++ putF 23 (sum4 (crcOf (b ++ putsF ((prsQ (l.drop j)).map fun p => (22, bodyP p))) : Int)), 0) := by
  intro d
  induction d with
  | zero =>
    intro j b hd hj hb hbl
    have e4 : ∀ s : Int, (sum4 s).length = 4 := fun _ => rfl
    have hm : mayF 23 (sum4 (crcOf b : Int)) = true := mayF_iff.2 ⟨by omega, by omega, by rw [e4]; omega⟩
    have h10 := one_len10 (u := 4) (by omega)
    rw [List.drop_eq_nil_of_le (by omega)]
    have e : putsF ((prsQ []).map fun p => (22, bodyP p)) = [] := rfl
    rw [e, List.append_nil, ev_succ]
    simp only [export_Put.l0, ev_ite]
    rw [if_neg (by omega), ev_bind (crc_Of_ev (by unfold maxLen; omega) hb), ev_bind_c (export_foot_ev _), ev_bind (frame_one_ev hm (sum4_bytes _)), ev_ite, if_pos (by simp only [putF_len, e4]; omega), ev_some]
  | succ d ih =>
    intro j b hd hj hb hbl
    have hjl : j < l.length := by omega
    have hgj := hg _ (rdQ_mem hjl)
    have hsj := hs _ (List.mem_map.2 ⟨_, rdQ_mem hjl, rfl⟩)
    rw [dropQ_eq hjl]
    rw [ev_succ]
    simp only [export_Put.l0, ev_ite]
    generalize rd_T135 l (j : Int) = f at hgj hsj ⊢
    simp only [prQ] at hsj
    have h10 := one_len10 (u := f.f0.size) (by omega)
    have hput : Ev (fun k => varint_Put.f k [(f.f0.size : Int)]) (one f.f0.size) := by
      have := varint_Put_ev (l := [(f.f0.size : Int)]) (by simp) (by intro v hv; rw [List.mem_singleton.1 hv]; omega)
      rw [puts_cons, puts_nil, List.append_nil, Int.toNat_natCast] at this
      exact this
    have hbl2 : (bytesOf f.f0).length = f.f0.size := bytesOf_length _
    have eb : one f.f0.size ++ bytesOf f.f0 ++ f.f1 = bodyP (f.f0, f.f1) := by
      unfold bodyP
      rw [List.append_assoc]
    have hbody := bodyP_len (f.f0, f.f1) (by simp only; omega)
    simp only at hbody
    have hm : mayF 22 (bodyP (f.f0, f.f1)) = true := mayF_iff.2 ⟨by omega, by omega, by omega⟩
    have h10' := one_len10 (u := (bodyP (f.f0, f.f1)).length) (by omega)
    have hbb : Bytes (bodyP (f.f0, f.f1)) := bodyP_bytes hgj
    rw [if_pos (by omega), if_pos (by omega), if_pos (by omega), wu64 (by omega) (by omega), ev_bind hput, ev_ite, if_pos (by omega)]
    simp only [Option.bind_some, ev_ite]
    rw [if_pos (by rw [List.length_append]; omega), eb, ev_bind (frame_one_ev hm hbb), ev_ite, if_pos (by simp only [putF_len]; omega), w64 (by omega) (by omega)]
    refine ev_eq (ih (j + 1) (b ++ putF 22 (bodyP (f.f0, f.f1))) (by omega) (by omega) (hb.append (putF_bytes hm hbb)) (by rw [List.length_append, putF_len]; omega)) ?_
    have e1 : putsF ((prsQ (f :: l.drop (j + 1))).map fun p => (22, bodyP p)) = putF 22 (bodyP (f.f0, f.f1)) ++ putsF ((prsQ (l.drop (j + 1))).map fun p => (22, bodyP p)) := rfl
    rw [e1, ← List.append_assoc b]
theorem export_Put_ev (i t : Int) (l : List S135) (hl : l.length ≤ 140737488351232) (hg : ∀ p ∈ l, Bytes p.f1) : Ev (fun k => export_Put.f k i t l) (if mayE i t (prsQ l) = true then (putE i t (prsQ l), 0) else ([], 1)) := by
  have hno : mayE i t (prsQ l) = false → Ev (fun k => export_Put.j0 k i t l true) (if mayE i t (prsQ l) = true then (putE i t (prsQ l), 0) else ([], 1)) := by
    intro h
    rw [h, ev_succ]
    simp only [export_Put.j0, ev_ite]
    rw [if_pos (by trivial), ev_some]
    rfl
  simp only [export_Put.f, ev_ite]
  rw [ev_bind_c (export_counts_ev _), ev_ite]
  by_cases h1 : 1 ≤ i ∧ i ≤ 2147483647
  · rw [if_pos (by simpa using h1), ev_bind_c (export_counts_ev _), ev_ite]
    by_cases h2 : 1 ≤ t ∧ t ≤ 2147483647
    · rw [if_pos (by simpa using h2), ev_bind (export_Sorted_ev l hl)]
      by_cases h3 : sortedP (prsQ l) = true
      · have hm : mayE i t (prsQ l) = true := mayE_iff.2 ⟨⟨h1.1, h1.2, h2.1, h2.2⟩, h3⟩
        obtain ⟨h4, h5⟩ := sortedP_mem h3
        rw [prsQ_len] at h4
        have h6 := head_len i t l.length (by omega) (by omega) h4
        have hu : ∀ u ∈ [i, t, (l.length : Int)], 0 ≤ u ∧ u < 18446744073709551616 := by
          intro u hu
          simp only [List.mem_cons, List.not_mem_nil, or_false] at hu
          omega
        have hp := varint_Put_ev (l := [i, t, (l.length : Int)]) (by simp) hu
        have hmf : mayF 21 (puts [i, t, (l.length : Int)]) = true := mayF_iff.2 ⟨by omega, by omega, by omega⟩
        have h10 := one_len10 (u := (puts [i, t, (l.length : Int)]).length) (by omega)
        rw [h3, hm, if_pos rfl, ev_succ]
        simp only [export_Put.j0, ev_ite]
        rw [if_neg (by simp), wu64 (x := i) (by omega) (by omega), wu64 (x := t) (by omega) (by omega), wu64 (x := (l.length : Int)) (by omega) (by omega), ev_bind hp, ev_bind (frame_one_ev hmf (puts_bytes _))]
        have := export_Put_l0_ev l h4 hg h5 (l.length - 0) 0 (putF 21 (puts [i, t, (l.length : Int)])) rfl (by omega) (putF_bytes hmf (puts_bytes _)) (by rw [putF_len]; omega)
        refine ev_eq this ?_
        have e1 : putE i t (prsQ l) = putsF (framesE i t (prsQ l)) ++ putF 23 (sum4 (crcOf (putsF (framesE i t (prsQ l))) : Int)) := by
          unfold putE allE footF
          rw [putsF_append, putsF_cons, putsF_nil, List.append_nil]
        have e2 : putsF (framesE i t (prsQ l)) = putF 21 (puts [i, t, (l.length : Int)]) ++ putsF ((prsQ l).map fun p => (22, bodyP p)) := by
          unfold framesE
          rw [putsF_cons, prsQ_len]
        rw [e1, e2, List.drop_zero]
      · rw [Bool.not_eq_true] at h3
        have hm : mayE i t (prsQ l) = false := by unfold mayE; rw [h3, Bool.and_false]
        rw [h3]
        exact hno hm
    · rw [if_neg (by simpa using h2)]
      refine hno ?_
      unfold mayE
      rw [decide_eq_false (by omega), Bool.false_and]
  · rw [if_neg (by simpa using h1)]
    refine hno ?_
    unfold mayE
    rw [decide_eq_false (by omega), Bool.false_and]
theorem varint_Get_l0_ev (x : List Int) (hb : Bytes x) (hl : x.length ≤ maxLen) : ∀ (d i : Nat) (u : Int), x.length - i = d → i ≤ 10 → i ≤ x.length → 0 ≤ u → u < 2 ^ (7 * i) →
    Ev (fun k => varint_Get.l0 k x u (i : Int)) (match dec i (x.drop i) with | some (v, n) => (u + v * 2 ^ (7 * i), (i : Int) + n, 0) | none => (0, 0, 2)) := by
  have hlm := maxLen_le hl
  intro d
  induction d with
  | zero =>
    intro i u hd hi hix hu0 hu
    rw [ev_succ]
    simp only [varint_Get.l0, ev_ite]
    rw [if_neg (by omega), ev_succ]
    simp only [varint_Get.j1, ev_ite]
    rw [if_neg (by simp), ev_some, List.drop_eq_nil_of_le (by omega)]
    rfl
  | succ d ih =>
    intro i u hd hi hix hu0 hu
    have hlt : i < x.length := by omega
    have hc := hb.rd (i := (i : Int)) (by omega) (by omega)
    rw [ev_succ]
    simp only [varint_Get.l0, ev_ite]
    rw [if_pos (by omega), ev_succ, drop_eq hlt]
    simp only [varint_Get.j1, ev_ite, decide_eq_true_eq]
    generalize hcc : rd x (i : Int) = c at hc ⊢
    by_cases h10 : i = 10
    · subst h10
      rw [if_neg (by omega), ev_some, dec, if_pos (by omega)]
    · rw [if_pos (by omega), if_pos (by omega), if_pos (by omega), wu64 (by omega) (by omega)]
      have hj2 : ∀ b : Bool, b = decide (i = 9 ∧ 1 < c) → Ev (fun k => varint_Get.j2 k x u (i : Int) c b) (match dec i (c :: x.drop (i + 1)) with | some (v, n) => (u + v * 2 ^ (7 * i), (i : Int) + n, 0) | none => (0, 0, 2)) := by
        intro b hbb
        rw [ev_succ]
        simp only [varint_Get.j2, ev_ite, dec]
        rw [if_neg (show ¬ 10 ≤ i by omega)]
        by_cases h9 : i = 9 ∧ 1 < c
        · rw [if_pos (by rw [hbb]; simpa using h9), if_pos h9, ev_some]
        · rw [if_neg (by rw [hbb]; simpa using h9), if_neg h9, w64 (by omega) (by omega), if_pos (by omega)]
          have hsh : ∀ y : Int, 0 ≤ y → y ≤ 127 → (i = 9 → y ≤ 1) → Go.bits .or .u64 u (shl .u64 y (7 * (i : Int))) = u + y * 2 ^ (7 * i) ∧ y * 2 ^ (7 * i) + 2 ^ (7 * i) ≤ (18446744073709551616 : Int) := by
            intro y hy0 hy1 hy9
            have hi' : i = 0 ∨ i = 1 ∨ i = 2 ∨ i = 3 ∨ i = 4 ∨ i = 5 ∨ i = 6 ∨ i = 7 ∨ i = 8 ∨ i = 9 := by omega
            have hs : y * 2 ^ (7 * i) + 2 ^ (7 * i) ≤ (18446744073709551616 : Int) := by
              rcases hi' with rfl | rfl | rfl | rfl | rfl | rfl | rfl | rfl | rfl | rfl <;> simp <;> omega
            have hp : (0 : Int) < 2 ^ (7 * i) := Int.pow_pos (by omega)
            have hm : 0 ≤ y * 2 ^ (7 * i) := Int.mul_nonneg hy0 (by omega)
            have e : (7 * (i : Int)).toNat = 7 * i := by omega
            refine ⟨?_, hs⟩
            unfold shl
            rw [e, Nat.min_eq_left (show 7 * i ≤ IntKind.u64.bits by show 7 * i ≤ 64; omega), wu64 hm (by omega)]
            exact or_u64 (by omega) hu0 hu hy0 (by omega)
          by_cases h128 : c < 128
          · have hm : c % 128 = c := by omega
            rw [if_pos h128, if_pos h128]
            obtain ⟨h1, h2⟩ := hsh c (by omega) (by omega) (fun h => by omega)
            have hr : Ev (fun _ => some (Go.bits .or .u64 u (shl .u64 (Go.bits .andNot .u64 c 128) (7 * (i : Int))), wrap64 ((i : Int) + 1), (0 : Int))) (u + c * 2 ^ (7 * i), (i : Int) + 1, 0) := by
              rw [ev_some, andNot_u64 hc.1 hc.2, hm, h1, w64 (by omega) (by omega)]
            by_cases h0 : c = 0
            · rw [if_pos h0]
              by_cases hi0 : 0 < i
              · rw [if_pos (by omega), if_pos ⟨h0, hi0⟩, ev_some]
              · rw [if_neg (by omega), if_neg (by omega)]
                simp only
                rw [Int.toNat_of_nonneg hc.1]
                exact hr
            · rw [if_neg h0, if_neg (fun h => h0 h.1)]
              simp only
              rw [Int.toNat_of_nonneg hc.1]
              exact hr
          · have hx9 : i ≠ 9 := by omega
            rw [if_neg h128, if_neg h128, andNot_u64 hc.1 hc.2, w64 (by omega) (by omega)]
            obtain ⟨h1, h2⟩ := hsh (c % 128) (by omega) (by omega) (fun h => by omega)
            rw [h1]
            have hp : (0 : Int) < 2 ^ (7 * i) := Int.pow_pos (by omega)
            have hm : 0 ≤ c % 128 * 2 ^ (7 * i) := Int.mul_nonneg (by omega) (by omega)
            have hpow : (2 : Int) ^ (7 * (i + 1)) = 128 * 2 ^ (7 * i) := by
              rw [Nat.mul_add, Int.pow_add]
              omega
            have hlt2 : c % 128 * 2 ^ (7 * i) ≤ 127 * 2 ^ (7 * i) := Int.mul_le_mul_of_nonneg_right (by omega) (by omega)
            have := ih (i + 1) (u + c % 128 * 2 ^ (7 * i)) (by omega) (by omega) (by omega) (by omega) (by omega)
            refine ev_eq this ?_
            cases dec (i + 1) (x.drop (i + 1)) with
            | none => rfl
            | some p =>
              obtain ⟨v, n⟩ := p
              simp only [Option.map_some]
              have e2 : (((c % 128).toNat + 128 * v : Nat) : Int) = c % 128 + 128 * v := by omega
              rw [e2, hpow, Int.add_mul, Int.mul_comm 128 (2 ^ (7 * i)), Int.mul_comm (128 : Int) (v : Int), Int.mul_assoc, Int.mul_comm (128 : Int) (2 ^ (7 * i)), ← Int.add_assoc]
              congr 2
              omega
      by_cases h9 : i = 9
      · rw [if_pos (by omega)]
        exact hj2 _ (by simp [h9])
      · rw [if_neg (by omega)]
        exact hj2 _ (by simp [h9])
theorem varint_Get_ev {x : List Int} (hb : Bytes x) (hl : x.length ≤ maxLen) : Ev (fun k => varint_Get.f k x) (getR x) := by
  have h := varint_Get_l0_ev x hb hl (x.length - 0) 0 0 rfl (by omega) (by omega) (by omega) (by simp)
  refine ev_eq h ?_
  unfold getR
  simp only [List.drop_zero]
  cases dec 0 x with
  | none => rfl
  | some p => simp
theorem frame_within_ev (b : List Int) : frame_within.f b = some (highs b) := rfl
theorem len_tab : ∀ x : Fin 256, ∃ n : Fin 9, bt (⟨#[0, 1, 2, 2, 3, 3, 3, 3, 4, 4, 4, 4, 4, 4, 4, 4, 5, 5, 5, 5, 5, 5, 5, 5, 5, 5, 5, 5, 5, 5, 5, 5, 6, 6, 6, 6, 6, 6, 6, 6, 6, 6, 6, 6, 6, 6, 6, 6, 6, 6, 6, 6, 6, 6, 6, 6, 6, 6, 6, 6, 6, 6, 6, 6, 7, 7, 7, 7, 7, 7, 7, 7, 7, 7, 7, 7, 7, 7, 7, 7, 7, 7, 7, 7, 7, 7, 7, 7, 7, 7, 7, 7, 7, 7, 7, 7, 7, 7, 7, 7, 7, 7, 7, 7, 7, 7, 7, 7, 7, 7, 7, 7, 7, 7, 7, 7, 7, 7, 7, 7, 7, 7, 7, 7, 7, 7, 7, 7, 8, 8, 8, 8, 8, 8, 8, 8, 8, 8, 8, 8, 8, 8, 8, 8, 8, 8, 8, 8, 8, 8, 8, 8, 8, 8, 8, 8, 8, 8, 8, 8, 8, 8, 8, 8, 8, 8, 8, 8, 8, 8, 8, 8, 8, 8, 8, 8, 8, 8, 8, 8, 8, 8, 8, 8, 8, 8, 8, 8, 8, 8, 8, 8, 8, 8, 8, 8, 8, 8, 8, 8, 8, 8, 8, 8, 8, 8, 8, 8, 8, 8, 8, 8, 8, 8, 8, 8, 8, 8, 8, 8, 8, 8, 8, 8, 8, 8, 8, 8, 8, 8, 8, 8, 8, 8, 8, 8, 8, 8, 8, 8, 8, 8, 8, 8, 8, 8, 8, 8, 8, 8, 8, 8, 8, 8, 8, 8]⟩ : ByteArray) (x.val : Int) = (n.val : Int) ∧ x.val < 2 ^ n.val ∧ (n.val = 0 ∨ 2 ^ (n.val - 1) ≤ x.val) := by decide +kernel
theorem len_tab' {x : Nat} (h : x < 256) : ∃ n : Nat, n ≤ 8 ∧ bt (⟨#[0, 1, 2, 2, 3, 3, 3, 3, 4, 4, 4, 4, 4, 4, 4, 4, 5, 5, 5, 5, 5, 5, 5, 5, 5, 5, 5, 5, 5, 5, 5, 5, 6, 6, 6, 6, 6, 6, 6, 6, 6, 6, 6, 6, 6, 6, 6, 6, 6, 6, 6, 6, 6, 6, 6, 6, 6, 6, 6, 6, 6, 6, 6, 6, 7, 7, 7, 7, 7, 7, 7, 7, 7, 7, 7, 7, 7, 7, 7, 7, 7, 7, 7, 7, 7, 7, 7, 7, 7, 7, 7, 7, 7, 7, 7, 7, 7, 7, 7, 7, 7, 7, 7, 7, 7, 7, 7, 7, 7, 7, 7, 7, 7, 7, 7, 7, 7, 7, 7, 7, 7, 7, 7, 7, 7, 7, 7, 7, 8, 8, 8, 8, 8, 8, 8, 8, 8, 8, 8, 8, 8, 8, 8, 8, 8, 8, 8, 8, 8, 8, 8, 8, 8, 8, 8, 8, 8, 8, 8, 8, 8, 8, 8, 8, 8, 8, 8, 8, 8, 8, 8, 8, 8, 8, 8, 8, 8, 8, 8, 8, 8, 8, 8, 8, 8, 8, 8, 8, 8, 8, 8, 8, 8, 8, 8, 8, 8, 8, 8, 8, 8, 8, 8, 8, 8, 8, 8, 8, 8, 8, 8, 8, 8, 8, 8, 8, 8, 8, 8, 8, 8, 8, 8, 8, 8, 8, 8, 8, 8, 8, 8, 8, 8, 8, 8, 8, 8, 8, 8, 8, 8, 8, 8, 8, 8, 8, 8, 8, 8, 8, 8, 8, 8, 8, 8, 8]⟩ : ByteArray) (x : Int) = (n : Int) ∧ IsLen n x := by
  obtain ⟨n, h1, h2, h3⟩ := len_tab ⟨x, h⟩
  exact ⟨n.val, by omega, h1, h2, h3⟩
theorem bits_Len64_ev (u : Nat) (hu : u < 18446744073709551616) : ∃ n : Nat, n ≤ 64 ∧ IsLen n u ∧ Ev (fun k => bits_Len64.f k (u : Int)) (n : Int) := by
  have hj : ∀ (v m : Nat), v < 4294967296 → m ≤ 32 → ∃ n : Nat, n ≤ 32 ∧ IsLen n v ∧ Ev (fun k => bits_Len64.j0 k (v : Int) (m : Int)) ((m + n : Nat) : Int) := by
    intro v m hv hm
    by_cases h1 : 65536 ≤ v
    · have e1 : (v : Int) / 65536 = ((v / 65536 : Nat) : Int) := rfl
      by_cases h2 : 256 ≤ v / 65536
      · have e2 : ((v / 65536 : Nat) : Int) / 256 = ((v / 65536 / 256 : Nat) : Int) := rfl
        obtain ⟨n, hn, ht, hl⟩ := len_tab' (x := v / 65536 / 256) (by omega)
        have hl2 : IsLen (n + 8 + 16) v := isLen_div (k := 16) (by omega) (isLen_div (k := 8) (by omega) hl)
        refine ⟨n + 8 + 16, by omega, hl2, ?_⟩
        rw [ev_succ]
        simp only [bits_Len64.j0, ev_ite, e1, e2]
        have e3 : ((v / 65536 / 256 : Nat) : Int) % 256 = ((v / 65536 / 256 : Nat) : Int) := by omega
        rw [if_pos (by omega), if_pos (by omega), e3, if_pos (by omega), if_pos (by omega), ht, w64 (x := (n : Int)) (by omega) (by omega), w64 (x := (m : Int) + 16) (by omega) (by omega), w64 (x := (m : Int) + 16 + 8) (by omega) (by omega), w64 (by omega) (by omega), ev_some]
        omega
      · obtain ⟨n, hn, ht, hl⟩ := len_tab' (x := v / 65536) (by omega)
        have hl2 : IsLen (n + 16) v := isLen_div (k := 16) (by omega) hl
        refine ⟨n + 16, by omega, hl2, ?_⟩
        rw [ev_succ]
        simp only [bits_Len64.j0, ev_ite, e1]
        have e3 : ((v / 65536 : Nat) : Int) % 256 = ((v / 65536 : Nat) : Int) := by omega
        rw [if_pos (by omega), if_neg (by omega), e3, if_pos (by omega), if_pos (by omega), ht, w64 (x := (n : Int)) (by omega) (by omega), w64 (x := (m : Int) + 16) (by omega) (by omega), w64 (by omega) (by omega), ev_some]
        omega
    · by_cases h2 : 256 ≤ v
      · have e2 : (v : Int) / 256 = ((v / 256 : Nat) : Int) := rfl
        obtain ⟨n, hn, ht, hl⟩ := len_tab' (x := v / 256) (by omega)
        have hl2 : IsLen (n + 8) v := isLen_div (k := 8) (by omega) hl
        refine ⟨n + 8, by omega, hl2, ?_⟩
        rw [ev_succ]
        simp only [bits_Len64.j0, ev_ite, e2]
        have e3 : ((v / 256 : Nat) : Int) % 256 = ((v / 256 : Nat) : Int) := by omega
        rw [if_neg (by omega), if_pos (by omega), e3, if_pos (by omega), if_pos (by omega), ht, w64 (x := (n : Int)) (by omega) (by omega), w64 (x := (m : Int) + 8) (by omega) (by omega), w64 (by omega) (by omega), ev_some]
        omega
      · obtain ⟨n, hn, ht, hl⟩ := len_tab' (x := v) (by omega)
        refine ⟨n, by omega, hl, ?_⟩
        rw [ev_succ]
        simp only [bits_Len64.j0, ev_ite]
        have e3 : (v : Int) % 256 = (v : Int) := by omega
        rw [if_neg (by omega), if_neg (by omega), e3, if_pos (by omega), if_pos (by omega), ht, w64 (x := (n : Int)) (by omega) (by omega), w64 (by omega) (by omega), ev_some]
        omega
  simp only [bits_Len64.f, ev_ite]
  by_cases h : 4294967296 ≤ u
  · obtain ⟨n, h1, h2, h3⟩ := hj (u / 4294967296) 32 (by omega) (by omega)
    refine ⟨n + 32, by omega, isLen_div (k := 32) (by omega) h2, ?_⟩
    rw [if_pos (by omega)]
    refine ev_eq h3 ?_
    omega
  · obtain ⟨n, h1, h2, h3⟩ := hj u 0 (by omega) (by omega)
    refine ⟨n, by omega, h2, ?_⟩
    rw [if_neg (by omega)]
    refine ev_eq h3 ?_
    omega
theorem varint_Size_ev (u : Nat) (hu : u < 18446744073709551616) : Ev (fun k => varint_Size.f k (u : Int)) ((one u).length : Int) := by
  obtain ⟨n, h1, h2, h3⟩ := bits_Len64_ev u hu
  simp only [varint_Size.f]
  rw [ev_bind h3, ev_some, one_size h2, w64 (x := (n : Int) + 7) (by omega) (by omega), w64 (x := (n : Int) + 7 - 1) (by omega) (by omega), Int.tdiv_eq_ediv_of_nonneg (by omega), w64 (by omega) (by omega)]
  unfold mx
  split <;> omega
theorem frame_Head_ev (n : Int) (hn : -9223372036854775808 ≤ n ∧ n ≤ 9223372036854775807) : Ev (fun k => frame_Head.f k n) (if n < 0 ∨ 1048576 < n then 0 else ((one n.toNat).length : Int) + 1) := by
  simp only [frame_Head.f, ev_ite]
  by_cases h : n < 0 ∨ 1048576 < n
  · rw [if_pos h]
    repeat' split
    all_goals first | (rw [ev_some]) | omega
  · have h10 := one_len10 (u := n.toNat) (by omega)
    have hs := varint_Size_ev n.toNat (by omega)
    rw [Int.toNat_of_nonneg (by omega)] at hs
    rw [if_neg h, if_neg (by omega), if_neg (by omega), wu64 (by omega) (by omega), ev_bind hs, ev_some, w64 (by omega) (by omega)]
theorem frame_Size_ev (n : Int) (hn : -9223372036854775808 ≤ n ∧ n ≤ 9223372036854775807) : Ev (fun k => frame_Size.f k n) (if n < 0 ∨ 1048576 < n then 0 else ((one n.toNat).length : Int) + 1 + n + 4) := by
  simp only [frame_Size.f]
  rw [ev_bind (frame_Head_ev n hn), ev_ite]
  by_cases h : n < 0 ∨ 1048576 < n
  · rw [if_pos h, if_pos h, if_pos (by trivial), ev_some]
  · have h10 := one_len10 (u := n.toNat) (by omega)
    rw [if_neg h, if_neg h, if_neg (by omega), ev_some, w64 (x := ((one n.toNat).length : Int) + 1 + n) (by omega) (by omega), w64 (by omega) (by omega)]
theorem frame_sumOf_ev {x : List Int} (hb : Bytes x) (h : 4 ≤ x.length) : frame_sumOf.f x = some (sumAt x 0) := by
  have h0 := hb.rd (i := 0) (by omega) (by omega)
  have h1 := hb.rd (i := 1) (by omega) (by omega)
  have h2 := hb.rd (i := 2) (by omega) (by omega)
  have h3 := hb.rd (i := 3) (by omega) (by omega)
  unfold frame_sumOf.f
  rw [if_pos (by omega), if_pos (by omega), if_pos (by omega), if_pos (by omega)]
  have e : sumAt x 0 = rd x 0 + 256 * rd x 1 + 65536 * rd x 2 + 16777216 * rd x 3 := rfl
  rw [e]
  generalize rd x 0 = a at *
  generalize rd x 1 = b at *
  generalize rd x 2 = c at *
  generalize rd x 3 = d at *
  have e1 : a % 4294967296 = a := by omega
  have e2 : b % 4294967296 * 256 % 4294967296 = b * 2 ^ 8 := by omega
  have e3 : c % 4294967296 * 65536 % 4294967296 = c * 2 ^ 16 := by omega
  have e4 : d % 4294967296 * 16777216 % 4294967296 = d * 2 ^ 24 := by omega
  have e5 := or_u32 (j := 8) (x := a) (y := b) (by omega) (by omega) (by omega) (by omega) (by omega)
  have e6 := or_u32 (j := 16) (x := a + b * 2 ^ 8) (y := c) (by omega) (by omega) (by omega) (by omega) (by omega)
  have e7 := or_u32 (j := 24) (x := a + b * 2 ^ 8 + c * 2 ^ 16) (y := d) (by omega) (by omega) (by omega) (by omega) (by omega)
  rw [e1, e2, e3, e4, e5, e6, e7]
  congr 1
  omega
theorem slices_Clone_byte_byte_ev {b : List Int} (h : b.length < 140737488355328) : slices_Clone_byte_byte.f b = some b := by
  unfold slices_Clone_byte_byte.f
  rw [if_pos h]
theorem sumAt_drop (b : List Int) (i : Nat) : sumAt (b.drop i) 0 = sumAt b i := by
  have e : ∀ (n : Nat) (m k : Int), m = (n : Int) → k = ((i + n : Nat) : Int) → rd (b.drop i) m = rd b k := by
    rintro n m k rfl rfl
    rw [rd_nat, rd_nat, List.getD_eq_getElem?_getD, List.getD_eq_getElem?_getD, List.getElem?_drop]
  unfold sumAt
  rw [e 0 _ (i : Int) (by omega) (by omega), e 1 _ ((i : Int) + 1) (by omega) (by omega), e 2 _ ((i : Int) + 2) (by omega) (by omega), e 3 _ ((i : Int) + 3) (by omega) (by omega)]
theorem frame_First_ev {b : List Int} (hb : Bytes b) (hl : b.length ≤ maxLen) : Ev (fun k => frame_First.f k b) (firstR b) := by
  have hlm := maxLen_le hl
  simp only [frame_First.f]
  rw [ev_bind_c (frame_within_ev b), ev_ite]
  unfold firstR
  by_cases hh : highs b = true
  · rw [if_pos hh, if_pos hh, ev_some]
  rw [if_neg hh, if_neg hh, ev_bind (varint_Get_ev hb hl)]
  unfold getR
  rcases dec_cases b with hd | ⟨u, n, hd⟩
  · rw [hd]
    simp only
    rw [ev_ite, if_neg (by omega), ev_succ]
    simp only [frame_First.j0, ev_ite]
    rw [if_pos (by trivial), ev_some]
  · have hp := dec_pos hb hd
    obtain ⟨h1, ⟨m, h2⟩, h3⟩ := (dec_iff hb).1 hd
    rw [hd]
    simp only
    rw [ev_ite, if_pos (by trivial), ev_succ]
    simp only [frame_First.j0, ev_ite, decide_eq_true_eq]
    by_cases c1 : 1048576 < u
    · rw [if_pos (by omega), if_pos c1, ev_some]
    rw [if_neg (by omega), if_neg c1]
    by_cases c2 : b.length = n
    · rw [if_pos (by omega), if_pos c2, ev_some]
    rw [if_neg (by omega), if_neg c2, if_pos (by omega), if_pos (by omega)]
    have hr := hb.rd (i := (n : Int)) (by omega) (by omega)
    by_cases c3a : rd b (n : Int) < 1
    · rw [if_pos c3a, if_pos (.inl c3a), ev_some]
    by_cases c3b : rd b (n : Int) > 250
    · rw [if_neg c3a, if_pos c3b, if_pos (.inr c3b), ev_some]
    have hs := frame_Size_ev (u : Int) (by omega)
    rw [if_neg (by omega), Int.toNat_natCast, ← h3] at hs
    rw [if_neg c3a, if_neg c3b, if_neg (by omega), w64 (x := (u : Int)) (by omega) (by omega), ev_bind hs, ev_ite]
    by_cases c4 : b.length < n + 1 + u + 4
    · rw [if_pos (by omega), if_pos c4, ev_some]
    have t1 : ((n : Int) + 1 + (u : Int)).toNat = n + 1 + u := by omega
    have t2 : ((n : Int) + 1).toNat = n + 1 := by omega
    have t3 : n + 1 + u - (n + 1) = u := by omega
    have hlen : ((b.drop (n + 1)).take u).length = u := by rw [List.length_take, List.length_drop]; omega
    rw [if_neg (by omega), if_neg c4, w64 (x := (n : Int) + 1) (by omega) (by omega), w64 (x := (n : Int) + 1 + (u : Int)) (by omega) (by omega), ev_ite, if_pos (by omega), ev_ite, if_pos (by omega), ev_ite, if_pos (by omega), ev_ite, if_pos (by omega), t1, t2, List.drop_take, t3]
    rw [ev_bind_c (frame_sumOf_ev (hb.drop _) (by rw [List.length_drop]; omega)), ev_bind (frame_sum_ev (by omega) (by rw [hlen]; unfold maxLen; omega) ((hb.drop _).take _)), ev_ite, sumAt_drop]
    by_cases c5 : sumAt b (n + 1 + u) = (sumF (rd b (n : Int)) ((b.drop (n + 1)).take u) : Int)
    · rw [if_pos c5, if_pos c5, ev_bind_c (slices_Clone_byte_byte_ev (by rw [hlen]; omega)), ev_bind hs, ev_some, w64 (by omega) (by omega)]
      congr 3
    · rw [if_neg c5, if_neg c5, ev_some]
theorem frame_Scan_l0_ev {b : List Int} (hb : Bytes b) (hl : b.length ≤ 4000000000000) : ∀ (d p : Nat) (x5 : List S83) (x6 : List Int), p ≤ b.length → b.length - p < d → x5.length ≤ p → x6.length ≤ p →
    Ev (fun k => frame_Scan.l0 k b x5 x6 (p : Int)) (x5 ++ (scanR d p (b.drop p)).1.map mkF, x6 ++ (scanR d p (b.drop p)).2.1, (scanR d p (b.drop p)).2.2) := by
  intro d
  induction d with
  | zero => intro p x5 x6 hp hd; omega
  | succ d ih =>
    intro p x5 x6 hp hd h5 h6
    rw [ev_succ]
    simp only [frame_Scan.l0, ev_ite]
    rw [if_pos (by omega), if_pos (by omega), Int.toNat_natCast, ev_bind (frame_First_ev (hb.drop p) (by rw [List.length_drop]; unfold maxLen; omega)), ev_ite]
    by_cases hf : (firstR (b.drop p)).2.2.2 = 0
    · rcases firstR_cases (hb.drop p) with ⟨kd, body, m, e1, e2, e3⟩ | e | e
      · have hm := mayF_iff.1 e2
        have hle : (putF kd body).length + m.length = b.length - p := by
          have := congrArg List.length e1
          rw [List.length_drop, List.length_append] at this
          omega
        have h6' := putF_pos kd body
        have hpl := putF_len kd body
        have hh := frame_Head_ev (body.length : Int) (by omega)
        rw [if_neg (by omega), Int.toNat_natCast] at hh
        rw [if_pos hf, scanR, if_pos hf, e3]
        simp only
        rw [ev_ite, if_pos (by omega), ev_bind hh, ev_ite, if_pos (by omega), w64 (by omega) (by omega), w64 (by omega) (by omega), Int.toNat_natCast, List.drop_drop]
        have := ih (p + (putF kd body).length) (x5 ++ [⟨kd, body⟩]) (x6 ++ [(p : Int) + ((one body.length).length + 1)]) (by omega) (by omega) (by simp; omega) (by simp; omega)
        rw [Int.natCast_add] at this
        refine ev_eq this ?_
        rw [List.append_assoc, List.append_assoc, List.map_cons]
        have e4 : (p : Int) + ((putF kd body).length : Int) - 4 - (body.length : Int) = (p : Int) + ((one body.length).length + 1) := by omega
        rw [e4]
        rfl
      · rw [e] at hf; simp at hf
      · rw [e] at hf; simp at hf
    · rw [if_neg hf, ev_some, scanR, if_neg hf]
      simp
theorem frame_Scan_ev {b : List Int} (hb : Bytes b) (hl : b.length ≤ 4000000000000) : Ev (fun k => frame_Scan.f k b) ((scanR (b.length + 1) 0 b).1.map mkF, (scanR (b.length + 1) 0 b).2.1, (scanR (b.length + 1) 0 b).2.2) := by
  have := frame_Scan_l0_ev hb hl (b.length + 1) 0 [] [] (by omega) (by omega) (by simp) (by simp)
  simp only [List.nil_append, List.drop_zero] at this
  exact this
theorem varint_All_l0_ev (x : List Int) (hb : Bytes x) (hl : x.length ≤ maxLen) (n : Nat) (hn : n ≤ 1000) : ∀ (d j at_ : Nat) (l : List Int), d + j = n → l.length = j → at_ ≤ x.length →
    Ev (fun k => varint_All.l0 k x l (at_ : Int) (n : Int) (j : Int)) (if (decs d (x.drop at_)).2.2 = true then (l ++ (decs d (x.drop at_)).1, (at_ : Int) + ((decs d (x.drop at_)).2.1 : Int), 0) else ([], (at_ : Int) + ((decs d (x.drop at_)).2.1 : Int), 2)) := by
  have hlm := maxLen_le hl
  intro d
  induction d with
  | zero =>
    intro j at_ l hd hj ha
    rw [ev_succ]
    simp only [varint_All.l0, ev_ite]
    rw [if_neg (by omega), ev_some]
    simp [decs]
  | succ d ih =>
    intro j at_ l hd hj ha
    have hb' := hb.drop at_
    rw [ev_succ]
    simp only [varint_All.l0, ev_ite]
    rw [if_pos (by omega), if_pos (by omega), if_pos (by omega), Int.toNat_natCast, ev_bind (varint_Get_ev hb' (by rw [List.length_drop]; omega))]
    simp only [ev_ite, decs, getR]
    rcases dec_cases (x.drop at_) with hdec | ⟨u, k, hdec⟩
    · simp only [hdec, ev_ite]
      rw [if_neg (by omega), ev_some, if_neg (by simp)]
      simp
    · have hk := dec_pos hb' hdec
      rw [List.length_drop] at hk
      simp only [hdec, ev_ite]
      rw [if_pos (by trivial), if_pos (by omega), w64 (by omega) (by omega), w64 (by omega) (by omega)]
      have := ih (j + 1) (at_ + k) (l ++ [(u : Int)]) (by omega) (by simp [hj]) (by omega)
      rw [Int.natCast_add, Int.natCast_add] at this
      refine ev_eq this ?_
      rw [List.drop_drop]
      simp only [List.append_assoc, List.singleton_append]
      split <;> (congr 2; omega)
theorem varint_All_ev {x : List Int} (hb : Bytes x) (hl : x.length ≤ maxLen) (n : Nat) (hn : n ≤ 1000) : Ev (fun k => varint_All.f k x (n : Int)) (allR n x) := by
  simp only [varint_All.f, ev_ite]
  rw [if_neg (by omega), ev_succ]
  simp only [varint_All.j0, ev_ite, decide_eq_true_eq]
  rw [if_neg (by omega)]
  have := varint_All_l0_ev x hb hl n hn n 0 0 [] (by omega) rfl (by omega)
  refine ev_eq this ?_
  unfold allR
  simp
theorem bytes_Clone_ev {b : List Int} (h : b.length < 140737488355328) : bytes_Clone.f b = some b := by
  unfold bytes_Clone.f
  rw [if_pos h]
theorem export_pair_ev {b : List Int} (hb : Bytes b) (hl : b.length ≤ 4000000000000) : Ev (fun k => export_pair.f k b) (match pairR b with | none => ((⟨#[]⟩ : ByteArray), ([] : List Int), false) | some p => (p.1, p.2, true)) := by
  simp only [export_pair.f]
  rw [ev_bind (varint_Get_ev hb (by unfold maxLen; omega))]
  unfold getR pairR
  rcases dec_cases b with hd | ⟨u, n, hd⟩
  · simp only [hd, ev_ite]
    rw [if_neg (by omega), ev_some]
  · have hp := dec_pos hb hd
    simp only [hd, ev_ite]
    rw [if_pos (by trivial)]
    by_cases h1 : 64 < u
    · rw [if_pos (by omega), if_pos h1, ev_some]
    · have w1 : wrap64 ((b.length : Int) - (n : Int)) = (b.length : Int) - n := w64 (by omega) (by omega)
      have w2 : wrap64 ((n : Int) + wrap64 (u : Int)) = ((n + u : Nat) : Int) := by
        rw [w64 (x := (u : Int)) (by omega) (by omega), w64 (by omega) (by omega)]
        rfl
      rw [if_neg (by omega), if_neg h1, w1, w64 (x := (u : Int)) (by omega) (by omega)]
      by_cases h2 : b.length < n + u
      · rw [if_pos (by omega), if_pos h2, ev_some]
      · have w3 : wrap64 ((n : Int) + (u : Int)) = ((n + u : Nat) : Int) := by
          rw [w64 (by omega) (by omega)]
          rfl
        rw [if_neg (by omega), if_neg h2]
        simp only [w3, Int.toNat_natCast]
        rw [if_pos (by omega), if_pos (by omega), if_pos (by omega), if_pos (by omega), ev_bind_c (bytes_Clone_ev (by rw [List.length_drop]; omega)), ev_some, List.drop_take, Nat.add_sub_cancel_left]
theorem bytes_Equal_ev {a b : List Int} (ha : Bytes a) (hb : Bytes b) : bytes_Equal.f a b = some (decide (a = b)) := by
  unfold bytes_Equal.f
  congr 1
  rw [Bool.eq_iff_iff, beq_iff_eq, decide_eq_true_eq, toList_eq_iff, bytes_str ha, bytes_str hb]
theorem pairsR_cons (f : Int × List Int) (fs : List (Int × List Int)) : pairsR (f :: fs) = match pairR f.2 with
    | none => none
    | some p => (pairsR fs).map fun l => p :: l := rfl
theorem export_Get_l0_ev {b : List Int} (hb : Bytes b) (x y z : Int) (hx : 0 ≤ x ∧ x ≤ 2147483647) (hy : 0 ≤ y ∧ y ≤ 2147483647) (fs : List S83) (hfs : fs.length ≤ 1000000000000) (hg : ∀ f ∈ fs, Bytes f.f1 ∧ f.f1.length ≤ 4000000000000) : ∀ (d j : Nat) (x4 : List S135), fs.length - j = d → j ≤ fs.length → x4.length ≤ j → (∀ p ∈ x4, Bytes p.f1) →
    Ev (fun k => export_Get.l0 k b x4 [x, y, z] fs (fs.length : Int) (j : Int)) (match pairsR (prsF (fs.drop j)) with
      | none => (0, 0, [], 2)
      | some l => if mayE x y (prsQ x4 ++ l) = true ∧ putE x y (prsQ x4 ++ l) = b then (x, y, x4 ++ l.map mkQ, 0) else (0, 0, [], 2)) := by
  intro d
  induction d with
  | zero =>
    intro j x4 hd hj h4 hg4
    rw [List.drop_eq_nil_of_le (by omega)]
    have e : pairsR (prsF []) = some [] := rfl
    rw [e, ev_succ]
    simp only [export_Get.l0, ev_ite]
    have r0 : rd [x, y, z] 0 = x := rfl
    have r1 : rd [x, y, z] 1 = y := rfl
    rw [r0, r1, w64 (x := x) (by omega) (by omega), w64 (x := y) (by omega) (by omega), if_neg (by omega), if_pos (by simp), if_pos (by simp), ev_bind (export_Put_ev x y x4 (by omega) hg4), ev_ite]
    simp only [List.append_nil, List.map_nil]
    by_cases hm : mayE x y (prsQ x4) = true
    · have hpb : Bytes (putE x y (prsQ x4)) := putE_bytes hm (by
        intro p hp
        obtain ⟨q, hq, rfl⟩ := List.mem_map.1 hp
        exact hg4 q hq)
      rw [if_pos hm, if_pos (by trivial), ev_bind_c (bytes_Equal_ev hpb hb), ev_ite]
      by_cases he : putE x y (prsQ x4) = b
      · rw [if_pos (by simpa using he), if_pos ⟨hm, he⟩, ev_some]
      · rw [if_neg (by simpa using he), if_neg (fun h => he h.2), ev_some]
    · rw [if_neg hm, if_neg (by simp), if_neg (fun h => hm h.1), ev_some]
  | succ d ih =>
    intro j x4 hd hj h4 hg4
    have hjl : j < fs.length := by omega
    have hgj := hg _ (rdF_mem hjl)
    rw [dropF_eq hjl]
    rw [ev_succ]
    simp only [export_Get.l0, ev_ite]
    generalize rd_T83 fs (j : Int) = f at hgj ⊢
    have e : prsF (f :: fs.drop (j + 1)) = (f.f0, f.f1) :: prsF (fs.drop (j + 1)) := rfl
    rw [e, pairsR_cons, if_pos (by omega), if_pos (by omega), if_pos (by omega), ev_bind (export_pair_ev hgj.1 hgj.2), ev_ite]
    simp only
    cases hp : pairR f.f1 with
    | none =>
      simp only
      rw [if_neg (by simp), ev_some]
    | some p =>
      have hpg := pairR_good hgj.1 hp
      simp only
      rw [if_pos (by trivial), ev_ite, if_pos (by omega), w64 (by omega) (by omega)]
      refine ev_eq (ih (j + 1) (x4 ++ [⟨p.1, p.2⟩]) (by omega) (by omega) (by rw [List.length_append, List.length_singleton]; omega) (by
        intro q hq
        rcases List.mem_append.1 hq with h | h
        · exact hg4 q h
        · rw [List.mem_singleton.1 h]; exact hpg.2.2)) ?_
      cases pairsR (prsF (fs.drop (j + 1))) with
      | none => rfl
      | some l =>
        have e1 : prsQ (x4 ++ [⟨p.1, p.2⟩]) ++ l = prsQ x4 ++ (p :: l) := by
          rw [prsQ_append, List.append_assoc]
          rfl
        have e2 : x4 ++ [⟨p.1, p.2⟩] ++ l.map mkQ = x4 ++ ((p :: l).map mkQ) := by
          rw [List.append_assoc]
          rfl
        simp only [Option.map_some, e1, e2]
theorem export_Get_ev {b : List Int} (hb : Bytes b) (hl : b.length ≤ 100000000) : Ev (fun k => export_Get.f k b) ((getE b).1, (getE b).2.1, ((getE b).2.2.1).map mkQ, (getE b).2.2.2) := by
  obtain ⟨g1, g2⟩ := scan_good (b.length + 1) 0 b hb
  have bad : ∀ (x4 : List S135) (x6 : List S83), Ev (fun k => export_Get.j0 k b x4 x6 true) ((0 : Int), (0 : Int), ([] : List S135), (2 : Int)) := by
    intro x4 x6
    rw [ev_succ]
    simp only [export_Get.j0, ev_ite]
    rw [if_pos (by trivial), ev_some]
  have bad1 : ∀ (x4 : List S135) (x6 : List S83) (x9 : List Int), Ev (fun k => export_Get.j1 k b x4 x6 x9 true) ((0 : Int), (0 : Int), ([] : List S135), (2 : Int)) := by
    intro x4 x6 x9
    rw [ev_succ]
    simp only [export_Get.j1, ev_ite]
    rw [if_pos (by trivial), ev_some]
  simp only [export_Get.f]
  rw [ev_bind (frame_Scan_ev hb (by omega)), ev_ite]
  simp only [List.length_map]
  unfold getE
  generalize (scanR (b.length + 1) 0 b).1 = L at g1 g2 ⊢
  cases L with
  | nil =>
    rw [if_pos (by simp)]
    exact bad _ _
  | cons f fs =>
    simp only [List.map_cons, List.length_cons] at g1 ⊢
    have hf := g2 f (by simp)
    by_cases h0 : fs = []
    · subst h0
      rw [if_pos (by simp), if_pos (.inl rfl)]
      exact bad _ _
    · have hn : 0 < fs.length := List.length_pos_iff.2 h0
      have r0 : rd_T83 (mkF f :: fs.map mkF) 0 = mkF f := rfl
      rw [if_neg (by omega), ev_ite, if_pos (by omega), r0]
      by_cases h1 : f.1 = 21
      · have e1 : ((mkF f).f0 != 21) = false := by simp [mkF, h1]
        rw [e1, ev_succ]
        simp only [export_Get.j0, ev_ite, List.length_cons, List.length_map]
        have ha : Ev (fun k => varint_All.f k f.2 3) (allR 3 f.2) := varint_All_ev (x := f.2) hf.1 (by unfold maxLen; omega) 3 (by omega)
        have e2 : (mkF f).f1 = f.2 := rfl
        rw [if_neg (by simp), if_pos (by omega), r0, e2, ev_bind ha]
        unfold allR
        by_cases h2 : (decs 3 f.2).2.2 = true
        · obtain ⟨x, y, z, e3, hx, hy, hz⟩ := decs_three hf.1 h2
          have rx : rd [x, y, z] 0 = x := rfl
          have ry : rd [x, y, z] 1 = y := rfl
          simp only [ev_ite]
          rw [if_pos h2, if_pos (by trivial), e3, rx, ry]
          simp only [List.length_cons, List.length_nil]
          rw [if_pos (by omega)]
          by_cases h3 : 2147483647 < x
          · rw [if_pos (by omega), if_pos (by omega)]
            exact bad1 _ _ _
          · rw [if_neg (by omega), if_pos (by omega)]
            by_cases h4 : 2147483647 < y
            · rw [decide_eq_true (by omega), if_pos (by omega)]
              exact bad1 _ _ _
            · have hc : ¬ (fs = [] ∨ f.1 ≠ 21 ∨ (decs 3 f.2).2.2 = false ∨ 2147483647 < x ∨ 2147483647 < y) := by
                rintro (h | h | h | h | h)
                · exact h0 h
                · exact h h1
                · rw [h2] at h; cases h
                · exact h3 h
                · exact h4 h
              rw [decide_eq_false (by omega), if_neg hc, ev_succ]
              simp only [export_Get.j1, ev_ite, List.length_cons, List.length_map]
              have w1 : wrap64 (((fs.length + 1 : Nat) : Int) - 1) = (fs.length : Int) := by
                rw [w64 (by omega) (by omega)]
                omega
              have ecut : ((mkF f :: fs.map mkF).take fs.length).drop 1 = fs.dropLast.map mkF := by
                cases hm : fs.length with
                | zero => omega
                | succ m =>
                  rw [List.take_succ_cons, List.drop_succ_cons, List.drop_zero, List.dropLast_eq_take, hm, List.map_take]
                  rfl
              rw [if_neg (by simp)]
              simp only [w1, Int.toNat_natCast, ecut, Option.bind_some]
              rw [if_pos (by omega), if_pos (by omega)]
              have hd : (fs.dropLast.map mkF).length ≤ fs.length := by rw [List.length_map, List.length_dropLast]; omega
              have := export_Get_l0_ev hb x y z (by omega) (by omega) (fs.dropLast.map mkF) (by omega) (by
                intro q hq
                obtain ⟨p, hp, rfl⟩ := List.mem_map.1 hq
                have := g2 p (List.mem_cons_of_mem _ ((List.dropLast_sublist fs).subset hp))
                exact ⟨this.1, by have := this.2; simp only [mkF]; omega⟩) ((fs.dropLast.map mkF).length - 0) 0 [] rfl (by omega) (by simp) (by simp)
              refine ev_eq this ?_
              rw [List.drop_zero, prsF_mk]
              cases pairsR fs.dropLast with
              | none => rfl
              | some l =>
                have e9 : prsQ [] ++ l = l := rfl
                simp only [e9, List.nil_append]
                split <;> rfl
        · have h2' : (decs 3 f.2).2.2 = false := by simpa using h2
          simp only [ev_ite]
          rw [if_neg h2, if_neg (by simp), if_pos (.inr (.inr (.inl h2')))]
          exact bad1 _ _ _
      · have e1 : ((mkF f).f0 != 21) = true := by simp [mkF, h1]
        rw [e1, if_pos (.inr (.inl h1))]
        exact bad _ _
theorem garnerref02_same_l0_ev (x y : List Int) (hxy : x.length = y.length) (hl : x.length ≤ maxLen) : ∀ (d i : Nat), x.length - i = d → i ≤ x.length → Ev (fun k => garnerref02_same.l0 k x y (i : Int)) (decide (x.drop i = y.drop i)) := by
  have hlm := maxLen_le hl
  intro d
  induction d with
  | zero =>
    intro i hd hi
    rw [ev_succ]
    simp only [garnerref02_same.l0, ev_ite]
    rw [if_neg (by omega), ev_some, List.drop_eq_nil_of_le (by omega), List.drop_eq_nil_of_le (by omega)]
    simp
  | succ d ih =>
    intro i hd hi
    rw [ev_succ]
    simp only [garnerref02_same.l0, ev_ite]
    rw [if_pos (by omega), if_pos (by omega), if_pos (by omega), w64 (by omega) (by omega), drop_eq (xs := x) (by omega), drop_eq (xs := y) (by omega)]
    by_cases h : rd x (i : Int) = rd y (i : Int)
    · rw [if_pos h, h]
      refine ev_eq (ih (i + 1) (by omega) (by omega)) ?_
      simp
    · rw [if_neg h, ev_some]
      simp [h]
theorem garnerref02_same_ev {x y : List Int} (hl : x.length ≤ maxLen) : Ev (fun k => garnerref02_same.f k x y) (decide (x = y)) := by
  simp only [garnerref02_same.f, ev_ite]
  by_cases h : x.length = y.length
  · rw [if_pos (by omega)]
    exact garnerref02_same_l0_ev x y h hl (x.length - 0) 0 rfl (by omega)
  · rw [if_neg (by omega), ev_some]
    symm
    simp only [decide_eq_false_iff_not]
    rintro rfl
    exact h rfl
theorem garnerref02_Bytes_ev {x y : List Int} (hl : x.length ≤ maxLen) : Ev (fun k => garnerref02_Bytes.f k x y) (decide (x = y)) := by
  simp only [garnerref02_Bytes.f]
  rw [ev_bind (garnerref02_same_ev hl), ev_some]
theorem garnerref02_One_ev : ∀ u : Nat, u < 18446744073709551616 → Ev (fun k => garnerref02_One.f k (u : Int)) (one u) := by
  intro u
  induction u using Nat.strongRecOn with
  | _ u ih =>
    intro hu
    rw [ev_succ]
    simp only [garnerref02_One.f, ev_ite, Option.bind_some]
    by_cases h : u < 128
    · rw [if_pos (by omega), ev_some, one_lt h]
      congr 1
      omega
    · have e : IntKind.u64.wrap (Int.tdiv (u : Int) 128) = ((u / 128 : Nat) : Int) := by
        rw [Int.tdiv_eq_ediv_of_nonneg (by omega), wu64 (by omega) (by omega)]
        rfl
      have e2 : ((Int.tmod (u : Int) 128) % 256 + 128) % 256 = ((u % 128 + 128 : Nat) : Int) := by
        rw [Int.tmod_eq_emod_of_nonneg (by omega)]
        omega
      rw [if_neg (by omega), e, e2, ev_bind (ih (u / 128) (by omega) (by omega)), ev_ite]
      have hl := one_len10 (u := u / 128) (by omega)
      rw [if_pos (by simp only [List.length_singleton]; omega), ev_some, one_ge (u := u) (by omega)]
      rfl
theorem garnerref02_value_l0_ev (x : List Int) (hb : Bytes x) (hl : x.length ≤ maxLen) : ∀ (i : Nat), i ≤ x.length → Ev (fun k => garnerref02_value.l0 k x (val (x.drop i) % 18446744073709551616 : Nat) ((i : Int) - 1)) (val x % 18446744073709551616 : Nat) := by
  have hlm := maxLen_le hl
  intro i
  induction i with
  | zero =>
    intro _
    rw [ev_succ]
    simp only [garnerref02_value.l0, ev_ite]
    rw [if_neg (by omega), ev_some, List.drop_zero]
  | succ i ih =>
    intro hi
    have hc := hb.rd (i := (i : Int)) (by omega) (by omega)
    rw [ev_succ]
    simp only [garnerref02_value.l0, ev_ite]
    have e : ((i + 1 : Nat) : Int) - 1 = (i : Int) := by omega
    rw [e, if_pos (by omega), if_pos (by omega), if_pos (by omega), w64 (by omega) (by omega)]
    have := ih (by omega)
    rw [drop_eq (xs := x) (i := i) (by omega), val] at this
    have e2 : IntKind.u64.wrap (IntKind.u64.wrap (((val (x.drop (i + 1)) % 18446744073709551616 : Nat) : Int) * 128) + IntKind.u64.wrap (Int.tmod (rd x (i : Int)) 128)) = (((rd x (i : Int)).toNat % 128 + 128 * val (x.drop (i + 1))) % 18446744073709551616 : Nat) := by
      rw [Int.tmod_eq_emod_of_nonneg hc.1]
      simp only [wu64_mod]
      omega
    rw [e2]
    exact this
theorem garnerref02_value_ev {x : List Int} (hb : Bytes x) (hl : x.length ≤ maxLen) : Ev (fun k => garnerref02_value.f k x) (val x % 18446744073709551616 : Nat) := by
  have hlm := maxLen_le hl
  simp only [garnerref02_value.f]
  rw [w64 (by omega) (by omega)]
  have := garnerref02_value_l0_ev x hb hl x.length (Nat.le_refl _)
  rw [List.drop_length] at this
  exact this
theorem garnerref02_Get_l0_ev (x : List Int) (hb : Bytes x) (hl : x.length ≤ maxLen) : ∀ (d i : Nat), x.length - i = d → i ≤ x.length → i ≤ 10 → (∀ c ∈ x.take i, 128 ≤ c) → Ev (fun k => garnerref02_Get.l0 k x ((i : Int) + 1)) ((getR x).1, (getR x).2.1) := by
  have hlm := maxLen_le hl
  intro d
  induction d with
  | zero =>
    intro i hd hi hi10 hh
    rw [ev_succ]
    simp only [garnerref02_Get.l0, ev_ite]
    rw [if_neg (by omega), ev_succ]
    simp only [garnerref02_Get.j1, ev_ite]
    rw [if_neg (by simp), ev_some]
    unfold getR
    rw [dec_none_high (n := i) hb hh (.inl (by omega))]
  | succ d ih =>
    intro i hd hi hi10 hh
    have hc := hb.rd (i := (i : Int)) (by omega) (by omega)
    rw [ev_succ]
    simp only [garnerref02_Get.l0, ev_ite]
    rw [if_pos (by omega), ev_succ]
    simp only [garnerref02_Get.j1, ev_ite, decide_eq_true_eq]
    by_cases h10 : i = 10
    · rw [if_neg (by omega), ev_some]
      unfold getR
      rw [dec_none_high (n := i) hb hh (.inr h10)]
    · rw [if_pos (by omega), w64 (x := (i : Int) + 1 - 1) (by omega) (by omega)]
      have e : (i : Int) + 1 - 1 = (i : Int) := by omega
      have e2 : ((i : Int) + 1).toNat = i + 1 := by omega
      rw [e, e2, if_pos (by omega), if_pos (by omega)]
      have ht : x.take (i + 1) = x.take i ++ [rd x (i : Int)] := by
        rw [rd_get (by omega), List.take_succ_eq_append_getElem (by omega)]
      have htl : (x.take (i + 1)).length ≤ maxLen := by rw [List.length_take]; omega
      by_cases h128 : rd x (i : Int) < 128
      · rw [if_pos h128, if_pos (by omega), if_pos (by omega), ev_bind (garnerref02_value_ev (hb.take _) htl)]
        have hlt : val (x.take (i + 1)) % 18446744073709551616 < 18446744073709551616 := Nat.mod_lt _ (by omega)
        rw [ev_bind (garnerref02_One_ev _ hlt), ev_bind (garnerref02_same_ev (by have := one_len10 hlt; unfold maxLen; omega)), ev_ite, ev_some, ev_some]
        have hd1 : i < x.length := by omega
        have := dec_at hb hd1 hh h128
        unfold getR
        by_cases he : one (val (x.take (i + 1)) % 18446744073709551616) = x.take (i + 1)
        · rw [if_pos (by simpa using he), this.1 he]
          rfl
        · rw [if_neg (by simpa using he), this.2 he]
      · rw [if_neg h128, w64 (by omega) (by omega)]
        have := ih (i + 1) (by omega) (by omega) (by omega) (by
          intro c hc'
          rw [ht] at hc'
          rcases List.mem_append.1 hc' with hc' | hc'
          · exact hh c hc'
          · rw [List.mem_singleton.1 hc']; omega)
        rw [Int.natCast_add] at this
        exact this
theorem garnerref02_Get_ev {x : List Int} (hb : Bytes x) (hl : x.length ≤ maxLen) : Ev (fun k => garnerref02_Get.f k x) ((getR x).1, (getR x).2.1) :=
  garnerref02_Get_l0_ev x hb hl (x.length - 0) 0 rfl (by omega) (by omega) (by simp)
theorem garnerref01_bit_ev (b n : Nat) (hb : b < 4294967296) (hn : n ≤ 8) : Ev (fun k => garnerref01_bit.f k (b : Int) (n : Int)) ((b >>> n % 2 : Nat) : Int) := by
  have main : ∀ (d i x : Nat), d + i = n → x < 4294967296 → Ev (fun k => garnerref01_bit.l0 k (x : Int) (n : Int) (i : Int)) ((x >>> d % 2 : Nat) : Int) := by
    intro d
    induction d with
    | zero =>
      intro i x hd hx
      rw [ev_succ]
      simp only [garnerref01_bit.l0, ev_ite]
      rw [if_neg (by omega), ev_some, Int.tmod_eq_emod_of_nonneg (by omega), w64 (by omega) (by omega), Nat.shiftRight_zero]
      omega
    | succ d ih =>
      intro i x hd hx
      rw [ev_succ]
      simp only [garnerref01_bit.l0, ev_ite]
      have e : Int.tdiv (x : Int) 2 % 4294967296 = ((x / 2 : Nat) : Int) := by
        rw [Int.tdiv_eq_ediv_of_nonneg (by omega)]
        omega
      rw [if_pos (by omega), e, w64 (by omega) (by omega)]
      refine ev_eq (ih (i + 1) (x / 2) (by omega) (by omega)) ?_
      have : x >>> (d + 1) = (x / 2) >>> d := by
        rw [Nat.add_comm, Nat.shiftRight_add]
        rfl
      rw [this]
  exact main n 0 b (by omega) hb
theorem garnerref01_step_ev (r b : Nat) (hr : r < 4294967296) (hb : b ≤ 1) : Ev (fun k => garnerref01_step.f k (r : Int) (b : Int)) (crcBit r b : Int) := by
  simp only [garnerref01_step.f]
  have h := garnerref01_bit_ev r 0 hr (by omega)
  rw [Nat.shiftRight_zero] at h
  have h' : Ev (fun k => garnerref01_bit.f k (r : Int) 0) ((r % 2 : Nat) : Int) := h
  have e : Int.tdiv (r : Int) 2 % 4294967296 = ((r / 2 : Nat) : Int) := by
    rw [Int.tdiv_eq_ediv_of_nonneg (by omega)]
    omega
  have e2 : Go.bits .xor .u32 ((r / 2 : Nat) : Int) 2197175160 = ((r / 2 ^^^ poly : Nat) : Int) := xor32 (a := r / 2) (b := 2197175160) (by omega) (by omega)
  rw [ev_bind h', ev_ite, e, e2, ev_some, ev_some]
  unfold crcBit
  by_cases hrb : r % 2 = b
  · rw [if_pos (by omega), if_pos hrb]
  · rw [if_neg (by omega), if_neg hrb]
theorem garnerref01_run_l1_ev (l : List Int) (hl : l.length ≤ maxLen) (j : Nat) (hj : j < l.length) (c : Nat) (hc : rd l (j : Int) = (c : Int)) (hc2 : c < 256) (q : Int) : ∀ (d i r : Nat), d + i = 8 → r < 4294967296 → Ev (fun k => garnerref01_run.l0 k (crcBits r c i d : Nat) l ((j : Int) + 1)) q →
    Ev (fun k => garnerref01_run.l1 k (r : Int) l (j : Int) (i : Int)) q := by
  have hlm := maxLen_le hl
  intro d
  induction d with
  | zero =>
    intro i r hd hr hq
    rw [ev_succ]
    simp only [garnerref01_run.l1, ev_ite]
    rw [if_neg (by omega), w64 (by omega) (by omega)]
    exact hq
  | succ d ih =>
    intro i r hd hr hq
    have hm := Nat.mod_lt (c >>> i) (show 0 < 2 by omega)
    rw [ev_succ]
    simp only [garnerref01_run.l1, ev_ite]
    have e : rd l (j : Int) % 4294967296 = (c : Int) := by rw [hc]; omega
    rw [if_pos (by omega), if_pos (by omega), if_pos (by omega), e, ev_bind (garnerref01_bit_ev c i (by omega) (by omega)), ev_bind (garnerref01_step_ev r _ hr (by omega)), w64 (by omega) (by omega)]
    exact ih (i + 1) _ (by omega) (crcBit_lt hr) hq
theorem garnerref01_run_ev {l : List Int} (hl : l.length ≤ maxLen) (hb : Bytes l) {r : Nat} (hr : r < 4294967296) : Ev (fun k => garnerref01_run.f k (r : Int) l) (crcRun r l : Int) := by
  have main : ∀ (d j r : Nat), l.length - j = d → j ≤ l.length → r < 4294967296 → Ev (fun k => garnerref01_run.l0 k (r : Int) l (j : Int)) (crcRun r (l.drop j) : Int) := by
    intro d
    induction d with
    | zero =>
      intro j r hd hj hr
      rw [ev_succ]
      simp only [garnerref01_run.l0, ev_ite]
      rw [if_neg (by omega), ev_some, List.drop_eq_nil_of_le (by omega)]
      rfl
    | succ d ih =>
      intro j r hd hj hr
      have hc := hb.rd (i := (j : Int)) (by omega) (by omega)
      obtain ⟨c, hce⟩ := Int.eq_ofNat_of_zero_le hc.1
      rw [ev_succ]
      simp only [garnerref01_run.l0, ev_ite]
      rw [if_pos (by omega)]
      refine garnerref01_run_l1_ev l hl j (by omega) c hce (by omega) _ 8 0 r (by omega) hr ?_
      refine ev_eq (ih (j + 1) _ (by omega) (by omega) (crcByte_lt (c := c) hr)) ?_
      rw [drop_eq (xs := l) (i := j) (by omega), hce]
      rfl
  exact main (l.length - 0) 0 r rfl (by omega) hr
theorem garnerref01_Of_ev {l : List Int} (hl : l.length ≤ maxLen) (hb : Bytes l) : Ev (fun k => garnerref01_Of.f k l) (crcOf l : Int) := by
  simp only [garnerref01_Of.f]
  have h : Ev (fun k => garnerref01_run.f k 4294967295 l) (crcRun 4294967295 l : Int) := garnerref01_run_ev (r := 4294967295) hl hb (by omega)
  have e : Go.bits .xor .u32 4294967295 (crcRun 4294967295 l : Int) = ((4294967295 ^^^ crcRun 4294967295 l : Nat) : Int) := xor32 (a := 4294967295) (by decide) (crcRun_lt (by omega))
  rw [ev_bind h, ev_some, e]
  rfl
theorem garnerref03_Put_ev {kind : Int} {body : List Int} (hm : mayF kind body = true) (hb : Bytes body) : Ev (fun k => garnerref03_Put.f k kind body) (putF kind body) := by
  have hm' := mayF_iff.1 hm
  have h10 := one_len10 (u := body.length) (by omega)
  have ek : kind % 256 = kind := by omega
  have h1 := garnerref02_One_ev body.length (by omega)
  have hbk : Bytes (kind :: body) := by
    intro x hx
    rcases List.mem_cons.1 hx with rfl | hx
    · omega
    · exact hb x hx
  simp only [garnerref03_Put.f]
  rw [wu64 (by omega) (by omega), ev_bind h1]
  simp only [Option.bind_some, ev_ite, ek]
  rw [if_pos (by simp only [List.length_singleton]; omega), if_pos (by simp only [List.length_append, List.length_singleton]; omega), if_pos (by simp only [List.length_singleton]; omega)]
  have e : [kind] ++ body = kind :: body := rfl
  rw [e, ev_bind (garnerref01_Of_ev (by simp only [List.length_cons]; unfold maxLen; omega) hbk)]
  have hlt := crcOf_lt (kind :: body)
  have step : ∀ (i : Nat) (s : Int) (b : List Int) r, 0 ≤ s → s < 4294967296 → i < 4 → b.length ≤ 10000000000 → Ev (fun k => garnerref03_Put.l0 k (b ++ [s % 256]) (s / 256) ((i + 1 : Nat) : Int)) r → Ev (fun k => garnerref03_Put.l0 k b s (i : Int)) r := by
    intro i s b r h0 h1 hi hb hr
    rw [ev_succ]
    simp only [garnerref03_Put.l0, ev_ite, Option.bind_some]
    rw [if_pos (by omega), if_pos (by simp only [List.length_singleton]; omega), Int.tdiv_eq_ediv_of_nonneg h0, Int.tmod_eq_emod_of_nonneg h0, w64 (by omega) (by omega)]
    have e1 : s / 256 % 4294967296 = s / 256 := by omega
    have e2 : s % 256 % 256 = s % 256 := by omega
    rw [e1, e2]
    exact hr
  have h0 : (0 : Int) = ((0 : Nat) : Int) := rfl
  rw [h0]
  have hbase : (one body.length ++ [kind] ++ body).length ≤ 10000000000 := by
    simp only [List.length_append, List.length_singleton]
    omega
  refine step 0 _ _ _ (by omega) (by omega) (by omega) (by omega) ?_
  refine step 1 _ _ _ (by omega) (by omega) (by omega) (by simp only [List.length_append, List.length_singleton]; omega) ?_
  refine step 2 _ _ _ (by omega) (by omega) (by omega) (by simp only [List.length_append, List.length_singleton]; omega) ?_
  refine step 3 _ _ _ (by omega) (by omega) (by omega) (by simp only [List.length_append, List.length_singleton]; omega) ?_
  rw [ev_succ]
  simp only [garnerref03_Put.l0, ev_ite]
  rw [if_neg (by omega), ev_some]
  unfold putF sum4 sumF
  have d1 : (crcOf (kind :: body) : Int) / 256 / 256 = (crcOf (kind :: body) : Int) / 65536 := by omega
  have d2 : (crcOf (kind :: body) : Int) / 65536 / 256 = (crcOf (kind :: body) : Int) / 16777216 := by omega
  rw [d1, d2]
  simp
theorem putF_take {b : List Int} (hb : Bytes b) {u n : Nat} (hh : highs b = false) (hd : dec 0 b = some (u, n)) (c1 : ¬ 1048576 < u) (c2 : ¬ b.length = n) (c3 : ¬ (rd b (n : Int) < 1 ∨ 250 < rd b (n : Int))) (c4 : ¬ b.length < n + 1 + u + 4) :
    putF (rd b (n : Int)) ((b.drop (n + 1)).take u) = b.take (n + 1 + u + 4) ↔ sumAt b (n + 1 + u) = (sumF (rd b (n : Int)) ((b.drop (n + 1)).take u) : Int) := by
  have hf : firstR b = if sumAt b (n + 1 + u) = (sumF (rd b (n : Int)) ((b.drop (n + 1)).take u) : Int) then (rd b (n : Int), (b.drop (n + 1)).take u, ((n + 1 + u + 4 : Nat) : Int), 0) else (0, [], 0, 2) := by
    unfold firstR
    rw [hh, if_neg (by simp), hd]
    simp only
    rw [if_neg c1, if_neg c2, if_neg c3, if_neg c4]
  obtain ⟨h1, ⟨m, h2⟩, h3⟩ := (dec_iff hb).1 hd
  have hlen : ((b.drop (n + 1)).take u).length = u := by rw [List.length_take, List.length_drop]; have := dec_pos hb hd; omega
  constructor
  · intro e
    have eb : b = putF (rd b (n : Int)) ((b.drop (n + 1)).take u) ++ b.drop (n + 1 + u + 4) := by rw [e, List.take_append_drop]
    have := firstR_put (k := rd b (n : Int)) (body := (b.drop (n + 1)).take u) (mayF_iff.2 (by omega)) (b.drop (n + 1 + u + 4))
    rw [← eb, hf] at this
    by_cases c5 : sumAt b (n + 1 + u) = (sumF (rd b (n : Int)) ((b.drop (n + 1)).take u) : Int)
    · exact c5
    · rw [if_neg c5] at this
      simp at this
  · intro c5
    rw [if_pos c5] at hf
    rcases firstR_cases hb with ⟨k, body, m', e1, e2, e3⟩ | e | e
    · rw [hf] at e3
      simp only [Prod.mk.injEq] at e3
      obtain ⟨e4, e5, e6, _⟩ := e3
      rw [e4, e5]
      conv => rhs; rw [e1]
      have : n + 1 + u + 4 = (putF k body).length := by omega
      rw [this, List.take_left]
    · rw [hf] at e; simp at e
    · rw [hf] at e; simp at e
theorem garnerref03_First_ev {b : List Int} (hb : Bytes b) (hl : b.length ≤ maxLen) : Ev (fun k => garnerref03_First.f k b) (firstR b) := by
  have hlm := maxLen_le hl
  have fin2 : Ev (fun k => garnerref03_First.j2 k b (highs b)) (firstR b) := by
    rw [ev_succ]
    simp only [garnerref03_First.j2, ev_ite]
    by_cases hh : highs b = true
    · rw [if_pos hh, ev_some]
      unfold firstR
      rw [if_pos hh]
    · rw [if_neg hh, ev_bind (garnerref02_Get_ev hb hl)]
      have hh' : highs b = false := by simpa using hh
      unfold getR
      rcases dec_cases b with hd | ⟨u, n, hd⟩
      · unfold firstR
        rw [if_neg hh, hd]
        simp only
        rw [ev_ite, if_pos (by trivial), ev_succ]
        simp only [garnerref03_First.j3, ev_ite]
        rw [if_pos (by trivial), ev_some]
      · have hp := dec_pos hb hd
        obtain ⟨h1, ⟨m, h2⟩, h3⟩ := (dec_iff hb).1 hd
        have pt := putF_take hb hh' hd
        unfold firstR
        rw [if_neg hh, hd]
        simp only
        rw [ev_ite, if_neg (by omega), ev_succ]
        simp only [garnerref03_First.j3, ev_ite, decide_eq_true_eq]
        by_cases c1 : 1048576 < u
        · rw [if_pos (by omega), if_pos c1, ev_some]
        rw [if_neg (by omega), if_neg c1]
        by_cases c2 : b.length = n
        · rw [if_pos (by omega), if_pos c2, ev_some]
        have hr := hb.rd (i := (n : Int)) (by omega) (by omega)
        rw [if_neg (by omega), if_neg c2, if_pos (by omega), if_pos (by omega), w64 (x := rd b (n : Int)) (by omega) (by omega)]
        by_cases c3 : rd b (n : Int) < 1 ∨ 250 < rd b (n : Int)
        · rw [if_pos c3]
          have st : Ev (fun k => garnerref03_First.j4 k b (u : Int) (n : Int) true (rd b (n : Int))) (0, [], 0, 2) := by
            rw [ev_succ]
            simp only [garnerref03_First.j4, ev_ite]
            rw [if_pos (by trivial), ev_some]
          by_cases c3a : rd b (n : Int) < 1
          · rw [if_pos c3a]
            exact st
          · rw [if_neg c3a, decide_eq_true (by omega)]
            exact st
        · have pt := pt c1 c2 c3
          have hlen : b.length < n + 1 + u + 4 ∨ ((b.drop (n + 1)).take u).length = u := by rw [List.length_take, List.length_drop]; omega
          rw [if_neg c3, if_neg (by omega), decide_eq_false (by omega), ev_succ]
          simp only [garnerref03_First.j4, ev_ite]
          rw [if_neg (by simp), w64 (x := (n : Int) + 1) (by omega) (by omega), w64 (x := (u : Int)) (by omega) (by omega), w64 (x := (n : Int) + 1 + (u : Int)) (by omega) (by omega), w64 (x := (n : Int) + 1 + (u : Int) + 4) (by omega) (by omega)]
          by_cases c4 : b.length < n + 1 + u + 4
          · rw [if_pos (by omega), if_pos c4, ev_some]
          have pt := pt c4
          have hlen : ((b.drop (n + 1)).take u).length = u := by omega
          have t1 : ((n : Int) + 1 + (u : Int)).toNat = n + 1 + u := by omega
          have t2 : ((n : Int) + 1).toNat = n + 1 := by omega
          have t4 : ((n : Int) + 1 + (u : Int) + 4).toNat = n + 1 + u + 4 := by omega
          have t3 : n + 1 + u - (n + 1) = u := by omega
          have hP := garnerref03_Put_ev (kind := rd b (n : Int)) (body := (b.drop (n + 1)).take u) (mayF_iff.2 (by omega)) ((hb.drop (n + 1)).take u)
          rw [if_neg (by omega), if_neg c4]
          simp only [Option.bind_some, List.nil_append, ev_ite, List.length_nil, t1, t2, t4, List.drop_take, t3]
          rw [if_pos (by omega), if_pos (by omega), if_pos (by omega), if_pos (by omega), ev_bind hP, ev_ite, if_pos (by omega), ev_ite, if_pos (by omega)]
          have hpl : (putF (rd b (n : Int)) ((b.drop (n + 1)).take u)).length ≤ maxLen := by rw [putF_len, hlen]; have := one_len10 (u := u) (by omega); unfold maxLen; omega
          rw [ev_bind (garnerref02_Bytes_ev hpl), ev_ite]
          by_cases c5 : sumAt b (n + 1 + u) = (sumF (rd b (n : Int)) ((b.drop (n + 1)).take u) : Int)
          · rw [if_pos c5, if_pos (by rw [decide_eq_true_eq]; exact pt.2 c5), ev_some]
            congr 3
          · rw [if_neg c5, if_neg (by rw [decide_eq_true_eq]; exact fun h => c5 (pt.1 h)), ev_some]
  have fin1 : ∀ i : Nat, i ≤ b.length → (highs b = decide (i = b.length ∧ i < 3)) → Ev (fun k => garnerref03_First.j1 k b (i : Int)) (firstR b) := by
    intro i hi h
    rw [ev_succ]
    simp only [garnerref03_First.j1, ev_ite]
    rw [h] at fin2
    by_cases c : i = b.length
    · rw [if_pos (by omega)]
      have e : decide ((i : Int) < 3) = decide (i = b.length ∧ i < 3) := by rw [decide_eq_decide]; omega
      rw [e]
      exact fin2
    · rw [if_neg (by omega)]
      rw [decide_eq_false (by omega)] at fin2
      exact fin2
  have main : ∀ (d i : Nat), b.length - i = d → i ≤ b.length → i ≤ 3 → (∀ c ∈ b.take i, 128 ≤ c) → Ev (fun k => garnerref03_First.l0 k b (i : Int)) (firstR b) := by
    intro d
    induction d with
    | zero =>
      intro i hd hi h3 hh
      rw [ev_succ]
      simp only [garnerref03_First.l0, ev_ite]
      rw [if_neg (by omega)]
      refine fin1 i hi ?_
      rw [List.take_of_length_le (by omega)] at hh
      unfold highs
      rw [Bool.eq_iff_iff, Bool.and_eq_true, decide_eq_true_eq, decide_eq_true_eq, List.all_eq_true]
      exact ⟨fun h => by omega, fun h => ⟨by omega, fun c hc => by simpa using hh c hc⟩⟩
    | succ d ih =>
      intro i hd hi h3 hh
      have hil : i < b.length := by omega
      rw [ev_succ]
      simp only [garnerref03_First.l0, ev_ite]
      rw [if_pos (by omega)]
      by_cases c : i = 3
      · rw [if_neg (by omega)]
        refine fin1 i hi ?_
        unfold highs
        rw [decide_eq_false (show ¬ b.length < 3 by omega), decide_eq_false (by omega), Bool.false_and]
      · rw [if_pos (by omega), if_pos (by omega)]
        by_cases cc : rd b (i : Int) > 127
        · rw [if_pos cc, w64 (by omega) (by omega)]
          refine ih (i + 1) (by omega) (by omega) (by omega) ?_
          intro x hx
          rw [List.take_succ_eq_append_getElem hil, List.mem_append, List.mem_singleton] at hx
          rcases hx with hx | rfl
          · exact hh x hx
          · rw [← rd_get hil]
            omega
        · rw [if_neg cc]
          refine fin1 i hi ?_
          unfold highs
          rw [decide_eq_false (show ¬ (i = b.length ∧ i < 3) by omega)]
          have : (b.all fun c => decide (128 ≤ c)) = false := by
            rw [List.all_eq_false]
            exact ⟨rd b (i : Int), rd_mem (by omega) (by omega), by simp; omega⟩
          rw [this, Bool.and_false]
  exact main (b.length - 0) 0 rfl (by omega) (by omega) (by simp)
theorem garnerref03_Scan_l0_ev {b : List Int} (hb : Bytes b) (hl : b.length ≤ 4000000000000) : ∀ (d p : Nat) (x5 : List S83) (x6 : List Int), p ≤ b.length → b.length - p < d → x5.length ≤ p → x6.length ≤ p →
    Ev (fun k => garnerref03_Scan.l0 k b x5 x6 (p : Int)) (x5 ++ (scanR d p (b.drop p)).1.map mkF, x6 ++ (scanR d p (b.drop p)).2.1, (scanR d p (b.drop p)).2.2) := by
  intro d
  induction d with
  | zero => intro p x5 x6 hp hd; omega
  | succ d ih =>
    intro p x5 x6 hp hd h5 h6
    rw [ev_succ]
    simp only [garnerref03_Scan.l0, ev_ite]
    rw [if_pos (by omega), if_pos (by omega), Int.toNat_natCast, ev_bind (garnerref03_First_ev (hb.drop p) (by rw [List.length_drop]; unfold maxLen; omega)), ev_ite]
    by_cases hf : (firstR (b.drop p)).2.2.2 = 0
    · rcases firstR_cases (hb.drop p) with ⟨kd, body, m, e1, e2, e3⟩ | e | e
      · have hm := mayF_iff.1 e2
        have hle : (putF kd body).length + m.length = b.length - p := by
          have := congrArg List.length e1
          rw [List.length_drop, List.length_append] at this
          omega
        have h6' := putF_pos kd body
        have hpl := putF_len kd body
        rw [if_pos hf, scanR, if_pos hf, e3]
        simp only
        rw [ev_ite, if_pos (by omega), ev_ite, if_pos (by omega), w64 (x := (p : Int) + ((putF kd body).length : Int)) (by omega) (by omega), w64 (x := (p : Int) + ((putF kd body).length : Int) - 4) (by omega) (by omega), w64 (by omega) (by omega), Int.toNat_natCast, List.drop_drop]
        have := ih (p + (putF kd body).length) (x5 ++ [⟨kd, body⟩]) (x6 ++ [(p : Int) + ((putF kd body).length : Int) - 4 - (body.length : Int)]) (by omega) (by omega) (by simp; omega) (by simp; omega)
        rw [Int.natCast_add] at this
        refine ev_eq this ?_
        rw [List.append_assoc, List.append_assoc, List.map_cons]
        rfl
      · rw [e] at hf; simp at hf
      · rw [e] at hf; simp at hf
    · rw [if_neg hf, ev_some, scanR, if_neg hf]
      simp
theorem garnerref03_Scan_ev {b : List Int} (hb : Bytes b) (hl : b.length ≤ 4000000000000) : Ev (fun k => garnerref03_Scan.f k b) ((scanR (b.length + 1) 0 b).1.map mkF, (scanR (b.length + 1) 0 b).2.1, (scanR (b.length + 1) 0 b).2.2) := by
  have := garnerref03_Scan_l0_ev hb hl (b.length + 1) 0 [] [] (by omega) (by omega) (by simp) (by simp)
  simp only [List.nil_append, List.drop_zero] at this
  exact this
theorem garnerlaw27_awake_ev : Ev (fun k => garnerlaw27_awake.f k) true := by
  have hm : mayE 7 3 (prsQ []) = true := rfl
  have hp := export_Put_ev 7 3 [] (by simp) (by simp)
  rw [if_pos hm] at hp
  have hb := putE_bytes hm (by simp [prsQ])
  have hl := putE_len hm
  have hs := garnerref03_Scan_ev hb (by omega)
  have hc := scanR_puts (allE 7 3 (prsQ [])) ((putE 7 3 (prsQ [])).length + 1) 0 [] (allE_may hm) (by have := putsF_count (allE 7 3 (prsQ [])); unfold putE; omega) (by rw [firstR_nil]; simp)
  rw [List.append_nil] at hc
  have hc : scanR ((putE 7 3 (prsQ [])).length + 1) 0 (putE 7 3 (prsQ [])) = (allE 7 3 (prsQ []), placesF 0 (allE 7 3 (prsQ [])), 0 + ((putE 7 3 (prsQ [])).length : Int)) := hc
  have hg := export_Get_ev hb (by omega)
  rw [hc] at hs
  rw [getE_put hm] at hg
  simp only [garnerlaw27_awake.f]
  rw [ev_bind hp, ev_bind hs, ev_bind hg]
  have e : ((allE 7 3 (prsQ [])).map mkF).length = 2 := by rw [List.length_map]; rfl
  simp only [ev_ite, e]
  rw [if_pos (by trivial), if_pos (by trivial), if_pos (by omega), if_pos (by trivial), if_pos (by trivial), if_pos (by trivial), ev_some]
  rfl
theorem garnerref27_Same_ev (a c : List S135) (ha : a.length ≤ 140737488351232) (hg : ∀ p ∈ a, p.f1.length ≤ maxLen) : Ev (fun k => garnerref27_Same.f k a c) (decide (a = c)) := by
  have main : ∀ (d j : Nat), a.length - j = d → j ≤ a.length → a.length = c.length → Ev (fun k => garnerref27_Same.l0 k a c (j : Int)) (decide (a.drop j = c.drop j)) := by
    intro d
    induction d with
    | zero =>
      intro j hd hj he
      rw [ev_succ]
      simp only [garnerref27_Same.l0, ev_ite]
      rw [if_neg (by omega), ev_some, List.drop_eq_nil_of_le (by omega), List.drop_eq_nil_of_le (by omega)]
      rfl
    | succ d ih =>
      intro j hd hj he
      have h1 : j < a.length := by omega
      have h2 : j < c.length := by omega
      have hgj := hg _ (rdQ_mem h1)
      have hw : wrap64 ((j : Int) + 1) = ((j + 1 : Nat) : Int) := w64 (by omega) (by omega)
      have ih' := ih (j + 1) (by omega) (by omega) he
      rw [dropQ_eq h1, dropQ_eq h2]
      rw [ev_succ]
      simp only [garnerref27_Same.l0, ev_ite, hw]
      generalize rd_T135 a (j : Int) = f at hgj ⊢
      generalize rd_T135 c (j : Int) = g
      rw [if_pos (by omega), if_pos (by omega), if_pos (by omega)]
      have hext : f.f0.toList = g.f0.toList ↔ f.f0 = g.f0 := by
        rw [toList_eq_iff]
        refine ⟨fun h => ?_, fun h => by rw [h]⟩
        rw [← str_bytes f.f0, h, str_bytes]
      by_cases h3 : f.f0 = g.f0
      · rw [if_pos (hext.2 h3), ev_bind (garnerref02_Bytes_ev hgj), ev_ite]
        by_cases h4 : f.f1 = g.f1
        · have hfg : f = g := by
            cases f
            cases g
            simp only at h3 h4
            rw [h3, h4]
          rw [if_pos (by simpa using h4)]
          refine ev_eq ih' ?_
          rw [hfg]
          simp
        · rw [if_neg (by simpa using h4), ev_some]
          symm
          rw [decide_eq_false_iff_not]
          intro h
          exact h4 (by rw [(List.cons.inj h).1])
      · rw [if_neg (fun h => h3 (hext.1 h)), ev_some]
        symm
        rw [decide_eq_false_iff_not]
        intro h
        exact h3 (by rw [(List.cons.inj h).1])
  simp only [garnerref27_Same.f, ev_ite]
  by_cases h : a.length = c.length
  · rw [if_pos (by omega)]
    exact main (a.length - 0) 0 rfl (by omega) h
  · rw [if_neg (by omega), ev_some]
    symm
    rw [decide_eq_false_iff_not]
    intro e
    exact h (by rw [e])
theorem garnerlaw27_Light_ev (l : List S135) (hl : l.length ≤ 140737488351232) (hg : ∀ p ∈ l, goodQ p) : Ev (fun k => garnerlaw27_Light.f k l) (lightE (prsQ l)) := by
  have main : ∀ (d i n : Nat), l.length - i = d → i ≤ l.length → i ≤ 41 → n + weighE (prsQ (l.drop i)) = weighE (prsQ l) → n ≤ 300000000000000 → Ev (fun k => garnerlaw27_Light.l0 k l (n : Int) (i : Int)) (lightE (prsQ l)) := by
    intro d
    induction d with
    | zero =>
      intro i n hd hi h41 hs hn
      rw [List.drop_eq_nil_of_le (by omega)] at hs
      have : weighE (prsQ []) = 0 := rfl
      unfold lightE
      rw [prsQ_len, ev_succ]
      simp only [garnerlaw27_Light.l0, ev_ite, ev_some]
      rw [if_neg (by omega)]
      split
      · rw [decide_eq_decide]; omega
      · symm; rw [decide_eq_false_iff_not]; omega
    | succ d ih =>
      intro i n hd hi h41 hs hn
      have hil : i < l.length := by omega
      rw [dropQ_eq hil] at hs
      have e : weighE (prsQ (rd_T135 l (i : Int) :: l.drop (i + 1))) = (rd_T135 l (i : Int)).f0.size + (rd_T135 l (i : Int)).f1.length + weighE (prsQ (l.drop (i + 1))) := rfl
      rw [e] at hs
      have hgi := hg _ (rdQ_mem hil)
      rw [ev_succ]
      simp only [garnerlaw27_Light.l0, ev_ite, ev_some]
      have hfin : (n > 20000 ∨ i > 40) → (if (l.length : Int) ≤ 40 then decide ((n : Int) ≤ 20000) = lightE (prsQ l) else false = lightE (prsQ l)) := by
        intro h
        unfold lightE
        rw [prsQ_len]
        split
        · rw [decide_eq_decide]; omega
        · symm; rw [decide_eq_false_iff_not]; omega
      rw [if_pos (by omega)]
      by_cases h1 : i ≤ 40
      · rw [if_pos (by omega)]
        by_cases h2 : n ≤ 20000
        · rw [if_pos (by omega), if_pos (by omega), w64 (x := (n : Int) + ((rd_T135 l (i : Int)).f0.size : Int)) (by omega) (by have := hgi.1; omega), w64 (x := (n : Int) + ((rd_T135 l (i : Int)).f0.size : Int) + ((rd_T135 l (i : Int)).f1.length : Int)) (by omega) (by have := hgi.1; have := hgi.2.1; omega), w64 (by omega) (by omega)]
          have := ih (i + 1) (n + (rd_T135 l (i : Int)).f0.size + (rd_T135 l (i : Int)).f1.length) (by omega) (by omega) (by omega) (by omega) (by have := hgi.1; have := hgi.2.1; omega)
          rw [Int.natCast_add, Int.natCast_add, Int.natCast_add] at this
          exact this
        · rw [if_neg (by omega)]
          exact hfin (by omega)
      · rw [if_neg (by omega)]
        exact hfin (by omega)
  exact main (l.length - 0) 0 0 rfl (by omega) (by omega) (by simp) (by omega)
theorem garnerref27_Sorted_ev (l : List S135) (hl : l.length ≤ 140737488351232) : Ev (fun k => garnerref27_Sorted.f k l) (sortedP (prsQ l)) := by
  have main : ∀ (d j : Nat) (last : List UInt8), l.length - j = d → j ≤ l.length → (j = 0 → last = []) → (∀ i : Nat, j = i + 1 → last = (rd_T135 l (i : Int)).f0.toList) → Ev (fun k => garnerref27_Sorted.l0 k l (j : Int)) (decide (l.length ≤ 4096) && sortedFrom last (prsQ (l.drop j))) := by
    intro d
    induction d with
    | zero =>
      intro j last hd hj _ _
      rw [ev_succ]
      simp only [garnerref27_Sorted.l0, ev_ite]
      rw [if_neg (by omega), ev_some, List.drop_eq_nil_of_le (by omega)]
      have e : sortedFrom last (prsQ []) = true := rfl
      rw [e, Bool.and_true, decide_eq_decide]
      omega
    | succ d ih =>
      intro j last hd hj h0 hs
      have hjl : j < l.length := by omega
      have ih' := ih (j + 1) (rd_T135 l (j : Int)).f0.toList (by omega) (by omega) (by omega) (fun i hi => by rw [show i = j by omega])
      have hw : wrap64 ((j : Int) + 1) = ((j + 1 : Nat) : Int) := w64 (by omega) (by omega)
      rw [dropQ_eq hjl]
      rw [ev_succ]
      simp only [garnerref27_Sorted.l0, ev_ite, hw]
      generalize rd_T135 l (j : Int) = f at ih' ⊢
      have e2 : sortedFrom last (prsQ (f :: l.drop (j + 1))) = (Op.bytesLess last f.f0.toList && (decide (f.f0.size ≤ 64) && (decide (f.f1.length ≤ 4096) && sortedFrom f.f0.toList (prsQ (l.drop (j + 1)))))) := rfl
      rw [e2, if_pos (by omega), if_pos (by omega)]
      by_cases hn : f.f0.toList = []
      · rw [if_pos hn, ev_some, hn, bytesLess_nil]
        simp
      · rw [if_neg hn]
        by_cases h2 : f.f0.size > 64
        · rw [if_pos (by omega), ev_some, decide_eq_false (show ¬ f.f0.size ≤ 64 by omega)]
          simp
        · rw [if_neg (by omega), decide_eq_true (show f.f0.size ≤ 64 by omega)]
          by_cases h3 : f.f1.length > 4096
          · rw [if_pos (by omega), ev_some, decide_eq_false (show ¬ f.f1.length ≤ 4096 by omega)]
            simp
          · rw [if_neg (by omega), decide_eq_true (show f.f1.length ≤ 4096 by omega)]
            by_cases hj0 : j = 0
            · rw [if_neg (by omega), h0 hj0, (nil_bytesLess _).2 hn]
              exact ev_eq ih' (by simp)
            · have hp := hs (j - 1) (by omega)
              have e : wrap64 ((j : Int) - 1) = ((j - 1 : Nat) : Int) := by
                rw [w64 (by omega) (by omega)]
                omega
              rw [if_pos (by omega), e, if_pos (by omega), if_pos (by omega), ← hp]
              by_cases h1 : Op.bytesLess last f.f0.toList = true
              · rw [if_pos h1, h1]
                exact ev_eq ih' (by simp)
              · rw [if_neg h1, ev_some]
                simp [h1]
  have := main (l.length - 0) 0 [] rfl (by omega) (fun _ => rfl) (fun i hi => by omega)
  unfold sortedP
  rw [prsQ_len]
  exact this
theorem garnerref27_May_ev (i t : Int) (l : List S135) (hl : l.length ≤ 140737488351232) : Ev (fun k => garnerref27_May.f k i t l) (mayE i t (prsQ l)) := by
  simp only [garnerref27_May.f, ev_ite]
  by_cases h : 1 ≤ i ∧ i ≤ 2147483647 ∧ 1 ≤ t ∧ t ≤ 2147483647
  · rw [if_pos (by omega), if_pos (by omega), if_pos (by omega), if_pos (by omega), ev_bind (garnerref27_Sorted_ev l hl), ev_some]
    unfold mayE
    rw [decide_eq_true h, Bool.true_and]
  · have e : mayE i t (prsQ l) = false := by
      unfold mayE
      rw [decide_eq_false h, Bool.false_and]
    rw [e]
    repeat' split
    all_goals first | (rw [ev_some]) | omega
theorem export_Same_1_ev {s t : ByteArray} {a b : List Int} (ha : Bytes a) (hb : Bytes b) : export_Same_1.f s a t b = some (decide (s = t ∧ a = b)) := by
  have hext : s.toList = t.toList ↔ s = t := by
    rw [toList_eq_iff]
    refine ⟨fun h => ?_, fun h => by rw [h]⟩
    rw [← str_bytes s, h, str_bytes]
  unfold export_Same_1.f
  by_cases h : s = t
  · rw [if_pos (hext.2 h), bytes_Equal_ev ha hb]
    simp [h]
  · rw [if_neg (fun e => h (hext.1 e))]
    simp [h]
theorem slices_EqualFunc_api_Pair_ev (a c : List S135) (ha : a.length ≤ 140737488351232) (hga : ∀ p ∈ a, Bytes p.f1) (hgc : ∀ p ∈ c, Bytes p.f1) : Ev (fun k => slices_EqualFunc_api_Pair.f k a c) (decide (a = c)) := by
  have main : ∀ (d j : Nat), a.length - j = d → j ≤ a.length → a.length = c.length → Ev (fun k => slices_EqualFunc_api_Pair.l0 k c a (a.length : Int) (j : Int)) (decide (a.drop j = c.drop j)) := by
    intro d
    induction d with
    | zero =>
      intro j hd hj he
      rw [ev_succ]
      simp only [slices_EqualFunc_api_Pair.l0, ev_ite]
      rw [if_neg (by omega), ev_some, List.drop_eq_nil_of_le (by omega), List.drop_eq_nil_of_le (by omega)]
      rfl
    | succ d ih =>
      intro j hd hj he
      have h1 : j < a.length := by omega
      have h2 : j < c.length := by omega
      have hgj := hga _ (rdQ_mem h1)
      have hcj := hgc _ (rdQ_mem h2)
      have hw : wrap64 ((j : Int) + 1) = ((j + 1 : Nat) : Int) := w64 (by omega) (by omega)
      have ih' := ih (j + 1) (by omega) (by omega) he
      rw [dropQ_eq h1, dropQ_eq h2]
      rw [ev_succ]
      simp only [slices_EqualFunc_api_Pair.l0, ev_ite, hw]
      generalize rd_T135 a (j : Int) = f at hgj ⊢
      generalize rd_T135 c (j : Int) = g at hcj ⊢
      rw [if_pos (by omega), if_pos (by omega), if_pos (by omega), if_pos (by omega), ev_bind_c (export_Same_1_ev hgj hcj), ev_ite]
      by_cases h3 : f.f0 = g.f0 ∧ f.f1 = g.f1
      · have hfg : f = g := by
          cases f
          cases g
          simp only at h3
          rw [h3.1, h3.2]
        rw [if_pos (by simpa using h3)]
        refine ev_eq ih' ?_
        rw [hfg]
        simp
      · rw [if_neg (by simpa using h3), ev_some]
        symm
        rw [decide_eq_false_iff_not]
        intro h
        exact h3 ⟨by rw [(List.cons.inj h).1], by rw [(List.cons.inj h).1]⟩
  simp only [slices_EqualFunc_api_Pair.f, ev_ite]
  by_cases h : a.length = c.length
  · rw [if_pos (by omega)]
    exact main (a.length - 0) 0 rfl (by omega) h
  · rw [if_neg (by omega), ev_some]
    symm
    rw [decide_eq_false_iff_not]
    intro e
    exact h (by rw [e])
theorem export_Same_ev (a c : List S135) (ha : a.length ≤ 140737488351232) (hga : ∀ p ∈ a, Bytes p.f1) (hgc : ∀ p ∈ c, Bytes p.f1) : Ev (fun k => export_Same.f k a c) (decide (a = c)) := by
  simp only [export_Same.f]
  rw [ev_bind (slices_EqualFunc_api_Pair_ev a c ha hga hgc), ev_some]
theorem garnerref02_Put_l0_ev (l : List Int) (hl : l.length ≤ 10000000000000) (hu : ∀ u ∈ l, 0 ≤ u ∧ u < 18446744073709551616) : ∀ (d j : Nat) (b : List Int), l.length - j = d → j ≤ l.length → b.length ≤ 10 * j →
    Ev (fun k => garnerref02_Put.l0 k l b (j : Int)) (b ++ puts (l.drop j)) := by
  intro d
  induction d with
  | zero =>
    intro j b hd hj hb
    rw [ev_succ]
    simp only [garnerref02_Put.l0, ev_ite]
    rw [if_neg (by omega), ev_some, List.drop_eq_nil_of_le (by omega), puts_nil, List.append_nil]
  | succ d ih =>
    intro j b hd hj hb
    rw [ev_succ]
    simp only [garnerref02_Put.l0, ev_ite]
    rw [if_pos (by omega), if_pos (by omega), w64 (by omega) (by omega)]
    have h := hu _ (rd_mem (xs := l) (i := (j : Int)) (by omega) (by omega))
    have h1 : Ev (fun k => garnerref02_One.f k (rd l (j : Int))) (one (rd l (j : Int)).toNat) := by
      have := garnerref02_One_ev (rd l (j : Int)).toNat (by omega)
      rw [Int.toNat_of_nonneg h.1] at this
      exact this
    have h10 := one_len10 (u := (rd l (j : Int)).toNat) (by omega)
    rw [ev_bind h1, ev_ite, if_pos (by omega)]
    refine ev_eq (ih (j + 1) (b ++ one (rd l (j : Int)).toNat) (by omega) (by omega) (by rw [List.length_append]; omega)) ?_
    rw [drop_eq (xs := l) (i := j) (by omega), puts_cons, List.append_assoc]
theorem garnerref02_Put_ev {l : List Int} (hl : l.length ≤ 10000000000000) (hu : ∀ u ∈ l, 0 ≤ u ∧ u < 18446744073709551616) : Ev (fun k => garnerref02_Put.f k l) (puts l) :=
  garnerref02_Put_l0_ev l hl hu (l.length - 0) 0 [] rfl (by omega) (by simp)
theorem garnerref03_All_ev {l : List S83} (hl : l.length ≤ 10000000000) (hg : ∀ f ∈ l, goodF f) (hs : sumLen (prsF l) ≤ 1000000000000) (hm : allF (prsF l) = true) : Ev (fun k => garnerref03_All.f k l) (putsF (prsF l)) := by
  have main : ∀ (d j : Nat) (b : List Int), l.length - j = d → j ≤ l.length → b.length + (putsF (prsF (l.drop j))).length ≤ 2000000000000 → Ev (fun k => garnerref03_All.l0 k l b (j : Int)) (b ++ putsF (prsF (l.drop j))) := by
    intro d
    induction d with
    | zero =>
      intro j b hd hj hb
      rw [ev_succ]
      simp only [garnerref03_All.l0, ev_ite]
      rw [if_neg (by omega), ev_some, List.drop_eq_nil_of_le (by omega)]
      simp [prsF, putsF]
    | succ d ih =>
      intro j b hd hj hb
      have hjl : j < l.length := by omega
      have hgj := hg _ (rdF_mem hjl)
      have hmj : mayF (rd_T83 l (j : Int)).f0 (rd_T83 l (j : Int)).f1 = true := by
        unfold allF at hm
        rw [List.all_eq_true] at hm
        exact hm (prF (rd_T83 l (j : Int))) (List.mem_map.2 ⟨_, rdF_mem hjl, rfl⟩)
      rw [dropF_eq hjl] at hb ⊢
      generalize hF : rd_T83 l (j : Int) = f at *
      have e1 : prsF (f :: l.drop (j + 1)) = (f.f0, f.f1) :: prsF (l.drop (j + 1)) := rfl
      rw [e1, putsF_cons, List.length_append] at hb
      simp only at hb
      rw [ev_succ]
      simp only [garnerref03_All.l0, ev_ite, hF]
      rw [if_pos (by omega), if_pos (by omega), ev_bind (garnerref03_Put_ev hmj hgj.2.2), ev_ite, if_pos (by omega), w64 (by omega) (by omega)]
      refine ev_eq (ih (j + 1) (b ++ putF f.f0 f.f1) (by omega) (by omega) (by rw [List.length_append]; omega)) ?_
      rw [e1, putsF_cons, List.append_assoc]
  have hp := putsF_len (l := prsF l) (by
    intro f hf
    have := sumLen_mem hf
    omega)
  rw [prsF_len] at hp
  exact main (l.length - 0) 0 [] rfl (by omega) (by simp; omega)
theorem garnerref04_Sum_ev (s : Int) (h0 : 0 ≤ s) (h1 : s < 4294967296) : Ev (fun k => garnerref04_Sum.f k s) (sum4 s) := by
  have step : ∀ (i : Nat) (s : Int) (b : List Int) r, 0 ≤ s → s < 4294967296 → i < 4 → b.length ≤ 4 → Ev (fun k => garnerref04_Sum.l0 k (s / 256) (b ++ [s % 256]) ((i + 1 : Nat) : Int)) r → Ev (fun k => garnerref04_Sum.l0 k s b (i : Int)) r := by
    intro i s b r h0 h1 hi hb hr
    rw [ev_succ]
    simp only [garnerref04_Sum.l0, ev_ite]
    rw [if_pos (by omega), if_pos (by omega), Int.tdiv_eq_ediv_of_nonneg h0, Int.tmod_eq_emod_of_nonneg h0, w64 (by omega) (by omega)]
    have e1 : s / 256 % 4294967296 = s / 256 := by omega
    have e2 : s % 256 % 256 = s % 256 := by omega
    rw [e1, e2]
    exact hr
  show Ev (fun k => garnerref04_Sum.l0 k s [] ((0 : Nat) : Int)) (sum4 s)
  refine step 0 s [] _ h0 h1 (by omega) (by simp) ?_
  refine step 1 _ _ _ (by omega) (by omega) (by omega) (by simp) ?_
  refine step 2 _ _ _ (by omega) (by omega) (by omega) (by simp) ?_
  refine step 3 _ _ _ (by omega) (by omega) (by omega) (by simp) ?_
  rw [ev_succ]
  simp only [garnerref04_Sum.l0, ev_ite]
  rw [if_neg (by omega), ev_some]
  unfold sum4
  simp only [List.nil_append, List.cons_append, List.cons.injEq, and_true, true_and]
  omega
theorem garnerref27_Put_l0_ev (i t : Int) (l : List S135) (hl : l.length ≤ 4096) (hg : ∀ p ∈ l, Bytes p.f1) (hs : ∀ p ∈ prsQ l, p.1.size ≤ 64 ∧ p.2.length ≤ 4096) : ∀ (d j : Nat) (x : List S83), l.length - j = d → j ≤ l.length → allF (prsF x) = true → (∀ f ∈ x, goodF f) → sumLen (prsF x) ≤ 100 + 4190 * j → x.length ≤ j + 1 →
    Ev (fun k => garnerref27_Put.l0 k x (j : Int) i t l) (putsF (prsF x ++ (prsQ (l.drop j)).map fun p => (22, bodyP p)) ++ putF 23 (sum4 (crcOf (putsF (prsF x ++ (prsQ (l.drop j)).map fun p => (22, bodyP p))) : Int))) := by
  intro d
  induction d with
  | zero =>
    intro j x hd hj ha hgx hsx hxl
    have e4 : ∀ s : Int, (sum4 s).length = 4 := fun _ => rfl
    have hp := putsF_len (l := prsF x) (by intro f hf; have := sumLen_mem hf; omega)
    rw [prsF_len] at hp
    have hb : Bytes (putsF (prsF x)) := putsF_bytesE ha (by
      intro f hf
      obtain ⟨g, hg, rfl⟩ := List.mem_map.1 hf
      exact (hgx g hg).2.2)
    have hm : mayF 23 (sum4 (crcOf (putsF (prsF x)) : Int)) = true := mayF_iff.2 ⟨by omega, by omega, by rw [e4]; omega⟩
    have h10 := one_len10 (u := 4) (by omega)
    rw [List.drop_eq_nil_of_le (by omega)]
    have e : (prsQ []).map (fun p => ((22 : Int), bodyP p)) = [] := rfl
    rw [e, List.append_nil, ev_succ]
    simp only [garnerref27_Put.l0, ev_ite]
    have hcl := crcOf_lt (putsF (prsF x))
    rw [if_neg (by omega), ev_bind (garnerref03_All_ev (by omega) hgx (by omega) ha), ev_bind (garnerref01_Of_ev (by unfold maxLen; omega) hb), ev_bind (garnerref04_Sum_ev _ (by omega) (by omega)), ev_bind (garnerref03_Put_ev hm (sum4_bytes _)), ev_ite, if_pos (by simp only [putF_len, e4]; omega), ev_some]
  | succ d ih =>
    intro j x hd hj ha hgx hsx hxl
    have hjl : j < l.length := by omega
    have hgj := hg _ (rdQ_mem hjl)
    have hsj := hs _ (List.mem_map.2 ⟨_, rdQ_mem hjl, rfl⟩)
    have hw : wrap64 ((j : Int) + 1) = ((j + 1 : Nat) : Int) := w64 (by omega) (by omega)
    rw [dropQ_eq hjl]
    rw [ev_succ]
    simp only [garnerref27_Put.l0, ev_ite, hw]
    generalize rd_T135 l (j : Int) = f at hgj hsj ⊢
    simp only [prQ] at hsj
    have h10 := one_len10 (u := f.f0.size) (by omega)
    have hbl2 : (bytesOf f.f0).length = f.f0.size := bytesOf_length _
    have eb : one f.f0.size ++ bytesOf f.f0 ++ f.f1 = bodyP (f.f0, f.f1) := by
      unfold bodyP
      rw [List.append_assoc]
    have hbody := bodyP_len (f.f0, f.f1) (by simp only; omega)
    simp only at hbody
    have hm : mayF 22 (bodyP (f.f0, f.f1)) = true := mayF_iff.2 ⟨by omega, by omega, by omega⟩
    have hbb : Bytes (bodyP (f.f0, f.f1)) := bodyP_bytes hgj
    have hone := garnerref02_One_ev f.f0.size (by omega)
    rw [if_pos (by omega), if_pos (by omega), wu64 (by omega) (by omega), ev_bind hone, ev_ite, if_pos (by omega)]
    simp only [Option.bind_some, ev_ite]
    rw [if_pos (by rw [List.length_append]; omega), if_pos (by omega), eb]
    have e1 : prsF (x ++ [(⟨22, bodyP (f.f0, f.f1)⟩ : S83)]) = prsF x ++ [(22, bodyP (f.f0, f.f1))] := by rw [prsF_append]; rfl
    have e2 : sumLen (prsF x ++ [(22, bodyP (f.f0, f.f1))]) = sumLen (prsF x) + (bodyP (f.f0, f.f1)).length := by
      unfold sumLen
      simp
    refine ev_eq (ih (j + 1) (x ++ [⟨22, bodyP (f.f0, f.f1)⟩]) (by omega) (by omega) ?_ ?_ ?_ ?_) ?_
    · rw [e1]
      refine allF_all fun g hg => ?_
      rcases List.mem_append.1 hg with h | h
      · exact allF_mem ha g h
      · rw [List.mem_singleton.1 h]; exact hm
    · intro g hg
      rcases List.mem_append.1 hg with h | h
      · exact hgx g h
      · rw [List.mem_singleton.1 h]
        exact ⟨by simp only; omega, by simp only; omega, hbb⟩
    · rw [e1, e2]
      omega
    · rw [List.length_append, List.length_singleton]
      omega
    · have e3 : (prsQ (f :: l.drop (j + 1))).map (fun p => ((22 : Int), bodyP p)) = (22, bodyP (f.f0, f.f1)) :: (prsQ (l.drop (j + 1))).map fun p => (22, bodyP p) := rfl
      rw [e1, e3, List.append_assoc, List.singleton_append]
theorem garnerref27_Put_ev {i t : Int} {l : List S135} (hm : mayE i t (prsQ l) = true) (hg : ∀ p ∈ l, Bytes p.f1) : Ev (fun k => garnerref27_Put.f k i t l) (putE i t (prsQ l)) := by
  obtain ⟨h1, h3⟩ := mayE_iff.1 hm
  obtain ⟨h4, h5⟩ := sortedP_mem h3
  rw [prsQ_len] at h4
  have h6 := head_len i t l.length (by omega) (by omega) h4
  have hu : ∀ u ∈ [i, t, (l.length : Int)], 0 ≤ u ∧ u < 18446744073709551616 := by
    intro u hu
    simp only [List.mem_cons, List.not_mem_nil, or_false] at hu
    omega
  have hp := garnerref02_Put_ev (l := [i, t, (l.length : Int)]) (by simp) hu
  have hmf : mayF 21 (puts [i, t, (l.length : Int)]) = true := mayF_iff.2 ⟨by omega, by omega, by omega⟩
  simp only [garnerref27_Put.f]
  rw [wu64 (x := i) (by omega) (by omega), wu64 (x := t) (by omega) (by omega), wu64 (x := (l.length : Int)) (by omega) (by omega), ev_bind hp]
  have e0 : prsF [(⟨21, puts [i, t, (l.length : Int)]⟩ : S83)] = [(21, puts [i, t, (l.length : Int)])] := rfl
  have := garnerref27_Put_l0_ev i t l h4 hg h5 (l.length - 0) 0 [⟨21, puts [i, t, (l.length : Int)]⟩] rfl (by omega) (by
    rw [e0]
    refine allF_all fun g hg => ?_
    rw [List.mem_singleton.1 hg]
    exact hmf) (by
    intro g hg
    rw [List.mem_singleton.1 hg]
    exact ⟨by simp only; omega, by simp only; omega, puts_bytes _⟩) (by
    rw [e0]
    simp [sumLen]
    omega) (by simp)
  refine ev_eq this ?_
  rw [e0, List.drop_zero]
  unfold putE allE footF framesE
  rw [prsQ_len, List.singleton_append, putsF_append ((21, puts [i, t, (l.length : Int)]) :: (prsQ l).map fun p => (22, bodyP p)), putsF_cons (23, _), putsF_nil, List.append_nil]
theorem ExportPuts : StExportPuts.Pure := by
  intro i t l m hi ht _ hl hgl _ hm hgm
  have hl' : l.length ≤ 140737488351232 := by omega
  have hm' : m.length ≤ 140737488351232 := by omega
  have good : ∀ p : S135, StExportPuts.g135 p → goodQ p := fun p hp => by
    obtain ⟨h1, h2, h3, h4⟩ := hp
    exact ⟨h1, by omega, Bytes.of_wf h4⟩
  have hg' : ∀ p ∈ l, goodQ p := fun p hp => good p (hgl p hp)
  have hgm' : ∀ p ∈ m, goodQ p := fun p hp => good p (hgm p hp)
  have hgb : ∀ p ∈ l, Bytes p.f1 := fun p hp => (hg' p hp).2.2
  have hgmb : ∀ p ∈ m, Bytes p.f1 := fun p hp => (hgm' p hp).2.2
  refine Ev.rounds (g := fun k => garnerlaw27_ExportPuts.f k i t l m) ?_
  have fin : Ev (fun k => (garnerlaw27_awake.f k).bind fun t => some t) true := by rw [ev_bind garnerlaw27_awake_ev, ev_some]
  have hno : Ev (fun k => garnerlaw27_ExportPuts.j0 k m true i t l) true := by
    rw [ev_succ]
    simp only [garnerlaw27_ExportPuts.j0, ev_ite]
    rw [if_pos (by trivial)]
    exact fin
  simp only [garnerlaw27_ExportPuts.f]
  rw [ev_bind (garnerlaw27_Light_ev l hl' hg'), ev_ite]
  by_cases c1 : lightE (prsQ l) = true
  · rw [if_pos c1, ev_bind (garnerlaw27_Light_ev m hm' hgm')]
    by_cases c2 : lightE (prsQ m) = true
    · have hp := export_Put_ev i t l hl' hgb
      have hs1 := export_Same_ev l m hl' hgb hgmb
      have hs2 := garnerref27_Same_ev l m hl' (fun p hp => by have := (hg' p hp).2.1; unfold maxLen; omega)
      have hs3 := export_Same_ev m m hm' hgmb hgmb
      rw [c2, ev_succ]
      simp only [garnerlaw27_ExportPuts.j0, ev_ite]
      rw [if_neg (by simp), ev_bind hp, ev_bind (export_Sorted_ev m hm'), ev_bind (garnerref27_Sorted_ev m hm'), ev_ite, if_neg (by simp), ev_bind hs1, ev_bind hs2, ev_ite, if_neg (by simp), ev_bind hs3, decide_eq_true (by trivial), ev_succ]
      simp only [garnerlaw27_ExportPuts.j1, ev_ite]
      rw [if_neg (by simp), ev_bind (garnerref27_May_ev i t l hl'), ev_ite]
      by_cases c3 : mayE i t (prsQ l) = true
      · have hlen := putE_len c3
        have hbytes : Bytes (putE i t (prsQ l)) := putE_bytes c3 (by
          intro p hp
          obtain ⟨q, hq, rfl⟩ := List.mem_map.1 hp
          exact hgb q hq)
        have hg := export_Get_ev hbytes (by omega)
        rw [getE_put c3, mk_prsQ] at hg
        have hs4 := garnerref27_Same_ev l l hl' (fun p hp => by have := (hg' p hp).2.1; unfold maxLen; omega)
        rw [if_pos c3, if_pos c3]
        simp only
        rw [ev_bind hg, ev_ite, if_pos (by trivial), ev_bind (garnerref27_Put_ev c3 hgb), ev_bind (garnerref02_Bytes_ev (by unfold maxLen; omega)), ev_ite, if_pos (by simp), ev_ite, if_pos (by trivial), ev_ite, if_pos (by trivial), ev_ite, if_pos (by trivial), ev_bind hs4, ev_ite, if_pos (by simp)]
        exact fin
      · rw [if_neg c3, if_neg c3]
        simp only
        rw [ev_ite, if_pos (by trivial), ev_ite, if_pos (by trivial)]
        exact fin
    · rw [Bool.not_eq_true] at c2
      rw [c2]
      exact hno
  · rw [if_neg c1]
    exact hno
end Go.Proofs.Ytapamplgajkjlaa.Pure
