/- The pure statement of the law SegReads: what the printed functions answer, each by its plain law, and that the law's answer is true. -/
import Derived.Test.YtpabjefogbkhpaaPSegReadsx0
import Derived.Test.YtpabjefogbkhpaaPSegReadsx1
import Derived.Test.YtpabjefogbkhpaaPSegReadsx2
import Derived.Test.YtpabjefogbkhpaaPSegReadsx3
import Derived.Test.YtpabjefogbkhpaaPSegReadsx4
import Derived.Test.YtpabjefogbkhpaaPSegReadsx5
import Derived.Test.YtpabjefogbkhpaaPSegReadsx6
import Derived.Test.YtpabjefogbkhpaaPSegReadsx7
import Derived.Test.YtpabjefogbkhpaaPSegReadsx8
import Derived.Test.YtpabjefogbkhpaaPSegReadsx9
import Derived.Test.YtpabjefogbkhpaaPSegReadsx10
import Derived.Test.YtpabjefogbkhpaaPSegReadsx11
import Derived.Test.YtpabjefogbkhpaaPSegReadsx12
import Derived.Test.YtpabjefogbkhpaaStSegReads
import Derived.Test.YtpabjefogbkhpaaSz
import Derived.Test.YtpabjefogbkhpaaV02
import Derived.Test.YtpabjefogbkhpaaF19
import Derived.Test.YtpabjefogbkhpaaV03
import Derived.Test.YtpabjefogbkhpaaF03
import Derived.Test.YtpabjefogbkhpaaV04
namespace Go.Proofs.Ytpabjefogbkhpaa.Pure
open Go.RowKit Go.Proofs.Ytpabjefogbkhpaa.PSegReads Go.Proofs.Ytpabjefogbkhpaa.U Go.Proofs.YtpabjefogbkhpaaW.PrintWords Go.Proofs.YtpabjefogbkhpaaW.PrintLast Go.Proofs.YtpabjefogbkhpaaW.PrintMore
set_option linter.unusedVariables false
set_option linter.unusedSimpArgs false
set_option maxRecDepth 4000

theorem rdL_get {l : List (List Int)} {i : Nat} (h : i < l.length) : rd_L1 l (i : Int) = l[i] := by
  simp [rd_L1, h]
theorem dropL_eq {l : List (List Int)} {i : Nat} (h : i < l.length) : l.drop i = rd_L1 l (i : Int) :: l.drop (i + 1) := by
  rw [rdL_get h]
  exact List.drop_eq_getElem_cons h
theorem rdL_mem {l : List (List Int)} {i : Nat} (h : i < l.length) : rd_L1 l (i : Int) ∈ l := by
  rw [rdL_get h]
  exact List.getElem_mem _

/-- A frame, told as a pair. -/
def prF (f : S53) : Int × List Int := (f.f0, f.f1)
def prsF (l : List S53) : List (Int × List Int) := l.map prF
theorem prsF_len (l : List S53) : (prsF l).length = l.length := by simp [prsF]
theorem prsF_drop (l : List S53) (j : Nat) : prsF (l.drop j) = (prsF l).drop j := by simp [prsF]
theorem prsF_append (a b : List S53) : prsF (a ++ b) = prsF a ++ prsF b := by simp [prsF]
theorem rdF_get {l : List S53} {i : Nat} (h : i < l.length) : rd_T53 l (i : Int) = l[i] := by
  simp [rd_T53, h]
theorem dropF_eq {l : List S53} {i : Nat} (h : i < l.length) : l.drop i = rd_T53 l (i : Int) :: l.drop (i + 1) := by
  rw [rdF_get h]
  exact List.drop_eq_getElem_cons h
theorem rdF_mem {l : List S53} {i : Nat} (h : i < l.length) : rd_T53 l (i : Int) ∈ l := by
  rw [rdF_get h]
  exact List.getElem_mem _
/-- What is told of a frame that came in. -/
def goodF (f : S53) : Prop := (-9223372036854775808 ≤ f.f0 ∧ f.f0 ≤ 9223372036854775807) ∧ f.f1.length ≤ 140737488351232 ∧ Bytes f.f1
/-- A pair, told as a frame. -/
def mkF (p : Int × List Int) : S53 := ⟨p.1, p.2⟩
theorem prsF_mk (l : List (Int × List Int)) : prsF (l.map mkF) = l := by
  unfold prsF
  rw [List.map_map]
  simp [Function.comp_def, mkF, prF]
theorem mk_prsF (l : List S53) : (prsF l).map mkF = l := by
  unfold prsF
  rw [List.map_map]
  simp [Function.comp_def, mkF, prF]

/-- A point, told as a tuple. -/
def prP (p : S24) : Int × Int × Int × Int := (p.f0, p.f1, p.f2, p.f3)
def mkP (p : Int × Int × Int × Int) : S24 := ⟨p.1, p.2.1, p.2.2.1, p.2.2.2⟩
theorem rdP_mk {l : List (Int × Int × Int × Int)} {i : Nat} (h : i < l.length) : rd_T24 (l.map mkP) (i : Int) = mkP (l.getD i (0, 0, 0, 0)) := by
  simp [rd_T24, h]
theorem rdP_get {l : List S24} {i : Nat} (h : i < l.length) : rd_T24 l (i : Int) = l[i] := by
  simp [rd_T24, h]
theorem dropP_eq {l : List S24} {i : Nat} (h : i < l.length) : l.drop i = rd_T24 l (i : Int) :: l.drop (i + 1) := by
  rw [rdP_get h]
  exact List.drop_eq_getElem_cons h

theorem garnerref02_same_l0_ev (x y : List Int) (hxy : x.length = y.length) (hl : x.length ≤ maxLen) : ∀ (d i : Nat), x.length - i = d → i ≤ x.length → Ev (fun k => garnerref02_same.l0 k x y (i : Int)) (decide (x.drop i = y.drop i)) := by
  have hlm := maxLen_le hl
  intro d
  induction d with
  | zero =>
    intro i hd hi
    rw [ev_succ]
    simp only [garnerref02_same.l0, ev_ite]
    rw [if_neg (by omega), ev_some, List.drop_eq_nil_of_le (by omega), List.drop_eq_nil_of_le (by omega)]
    simp
  | succ d ih =>
    intro i hd hi
    rw [ev_succ]
    simp only [garnerref02_same.l0, ev_ite]
    rw [if_pos (by omega), if_pos (by omega), if_pos (by omega), w64 (by omega) (by omega), drop_eq (xs := x) (by omega), drop_eq (xs := y) (by omega)]
    by_cases h : rd x (i : Int) = rd y (i : Int)
    · rw [if_pos h, h]
      refine ev_eq (ih (i + 1) (by omega) (by omega)) ?_
      simp
    · rw [if_neg h, ev_some]
      simp [h]
theorem garnerref02_same_ev {x y : List Int} (hl : x.length ≤ maxLen) : Ev (fun k => garnerref02_same.f k x y) (decide (x = y)) := by
  simp only [garnerref02_same.f, ev_ite]
  by_cases h : x.length = y.length
  · rw [if_pos (by omega)]
    exact garnerref02_same_l0_ev x y h hl (x.length - 0) 0 rfl (by omega)
  · rw [if_neg (by omega), ev_some]
    symm
    simp only [decide_eq_false_iff_not]
    rintro rfl
    exact h rfl

theorem garnerref02_Bytes_ev {x y : List Int} (hl : x.length ≤ maxLen) : Ev (fun k => garnerref02_Bytes.f k x y) (decide (x = y)) := by
  simp only [garnerref02_Bytes.f]
  rw [ev_bind (garnerref02_same_ev hl), ev_some]

/-- What is told of values that came in. -/
def goodV (l : List (List Int)) : Prop := ∀ v ∈ l, v.length ≤ 140737488351232 ∧ Bytes v
theorem garnerlaw19_Light_ev (l : List (List Int)) (hl : l.length ≤ 140737488351232) (hg : goodV l) : Ev (fun k => garnerlaw19_Light.f k l) (decide (l.length ≤ 40 ∧ totV l ≤ 20000)) := by
  have main : ∀ (d i n : Nat), l.length - i = d → i ≤ l.length → i ≤ 41 → n + totV (l.drop i) = totV l → n ≤ 140737488359232 * 2 → Ev (fun k => garnerlaw19_Light.l0 k l (n : Int) (i : Int)) (decide (l.length ≤ 40 ∧ totV l ≤ 20000)) := by
    intro d
    induction d with
    | zero =>
      intro i n hd hi h100 hs hn
      rw [List.drop_eq_nil_of_le (by omega)] at hs
      have : totV [] = 0 := rfl
      rw [ev_succ]
      simp only [garnerlaw19_Light.l0, ev_ite, ev_some]
      rw [if_neg (by omega)]
      split
      · rw [decide_eq_decide]; omega
      · symm; rw [decide_eq_false_iff_not]; omega
    | succ d ih =>
      intro i n hd hi h100 hs hn
      have hil : i < l.length := by omega
      rw [dropL_eq hil, totV_cons] at hs
      have hgi := (hg _ (rdL_mem hil)).1
      rw [ev_succ]
      simp only [garnerlaw19_Light.l0, ev_ite, ev_some]
      rw [if_pos (by omega)]
      by_cases h1 : i ≤ 40
      · rw [if_pos (by omega)]
        by_cases h2 : n ≤ 20000
        · rw [if_pos (by omega), if_pos (by omega), w64 (x := (n : Int) + ((rd_L1 l (i : Int)).length : Int)) (by omega) (by omega), w64 (by omega) (by omega)]
          have := ih (i + 1) (n + (rd_L1 l (i : Int)).length) (by omega) (by omega) (by omega) (by omega) (by omega)
          rw [Int.natCast_add, Int.natCast_add] at this
          exact this
        · rw [if_neg (by omega)]
          split
          · rw [decide_eq_decide]; omega
          · symm; rw [decide_eq_false_iff_not]; omega
      · rw [if_neg (by omega)]
        split
        · omega
        · symm; rw [decide_eq_false_iff_not]; omega
  exact main (l.length - 0) 0 0 rfl (by omega) (by omega) (by simp) (by omega)

theorem garnerlaw19_long_ev (l : List (List Int)) (hl : l.length ≤ 140737488351232) : Ev (fun k => garnerlaw19_long.f k l) (!shortV l) := by
  have main : ∀ (d i : Nat), l.length - i = d → i ≤ l.length → Ev (fun k => garnerlaw19_long.l0 k l (i : Int)) (!shortV (l.drop i)) := by
    intro d
    induction d with
    | zero =>
      intro i hd hi
      rw [ev_succ]
      simp only [garnerlaw19_long.l0, ev_ite]
      rw [if_neg (by omega), ev_some, List.drop_eq_nil_of_le (by omega)]
      rfl
    | succ d ih =>
      intro i hd hi
      have hil : i < l.length := by omega
      have e : shortV (rd_L1 l (i : Int) :: l.drop (i + 1)) = (decide ((rd_L1 l (i : Int)).length ≤ 4096) && shortV (l.drop (i + 1))) := rfl
      rw [ev_succ, dropL_eq hil, e]
      simp only [garnerlaw19_long.l0, ev_ite]
      rw [if_pos (by omega), if_pos (by omega)]
      by_cases h : (rd_L1 l (i : Int)).length ≤ 4096
      · rw [if_neg (by omega), w64 (by omega) (by omega), decide_eq_true h, Bool.true_and]
        exact ih (i + 1) (by omega) (by omega)
      · rw [if_pos (by omega), ev_some, decide_eq_false h]
        rfl
  exact main (l.length - 0) 0 rfl (by omega)

theorem varint_Put_l1_ev (l : List Int) (hl : l.length ≤ 10000000000000) (j : Nat) : ∀ (u : Nat) (b : List Int), u < 18446744073709551616 → b.length + (one u).length ≤ 10 * (j + 1) → j < l.length → ∀ r : List Int,
    Ev (fun k => varint_Put.l0 k (b ++ one u) l (l.length : Int) ((j + 1 : Nat) : Int)) r → Ev (fun k => varint_Put.l1 k b (u : Int) l (l.length : Int) (j : Int)) r := by
  intro u
  induction u using Nat.strongRecOn with
  | _ u ih =>
    intro b hu hlen hj r hr
    rw [ev_succ]
    simp only [varint_Put.l1, ev_ite]
    by_cases h : u < 128
    · rw [if_neg (by omega), if_pos (by omega), w64 (by omega) (by omega)]
      rw [one_lt h] at hr
      have e : (u : Int) % 256 = u := by omega
      rw [e]
      exact hr
    · have e : Go.bits .or .u8 ((u : Int) % 256) 128 = ((u % 128 + 128 : Nat) : Int) := by
        rw [or_u8 (by omega) (by omega)]
        omega
      have e2 : (u : Int) / 128 = ((u / 128 : Nat) : Int) := by omega
      rw [if_pos (by omega), if_pos (by omega), e, e2]
      rw [one_ge (u := u) (by omega), List.length_cons] at hlen
      refine ih (u / 128) (by omega) _ (by omega) (by rw [List.length_append, List.length_singleton]; omega) hj r ?_
      rw [one_ge (u := u) (by omega)] at hr
      rw [List.append_assoc, List.singleton_append]
      exact hr
theorem varint_Put_l0_ev (l : List Int) (hl : l.length ≤ 10000000000000) (hu : ∀ u ∈ l, 0 ≤ u ∧ u < 18446744073709551616) : ∀ (d j : Nat) (b : List Int), l.length - j = d → j ≤ l.length → b.length ≤ 10 * j →
    Ev (fun k => varint_Put.l0 k b l (l.length : Int) (j : Int)) (b ++ puts (l.drop j)) := by
  intro d
  induction d with
  | zero =>
    intro j b hd hj hb
    rw [ev_succ]
    simp only [varint_Put.l0, ev_ite]
    rw [if_neg (by omega), ev_some, List.drop_eq_nil_of_le (by omega), puts_nil, List.append_nil]
  | succ d ih =>
    intro j b hd hj hb
    rw [ev_succ]
    simp only [varint_Put.l0, ev_ite]
    rw [if_pos (by omega), if_pos (by omega), if_pos (by omega)]
    have h := hu _ (rd_mem (xs := l) (i := (j : Int)) (by omega) (by omega))
    have e : rd l (j : Int) = ((rd l (j : Int)).toNat : Int) := by omega
    have h10 := one_len10 (u := (rd l (j : Int)).toNat) (by omega)
    rw [e]
    refine varint_Put_l1_ev l hl j _ b (by omega) (by omega) (by omega) _ ?_
    have := ih (j + 1) (b ++ one (rd l (j : Int)).toNat) (by omega) (by omega) (by rw [List.length_append]; omega)
    refine ev_eq this ?_
    rw [drop_eq (xs := l) (i := j) (by omega), puts_cons, List.append_assoc]
theorem varint_Put_ev {l : List Int} (hl : l.length ≤ 10000000000000) (hu : ∀ u ∈ l, 0 ≤ u ∧ u < 18446744073709551616) : Ev (fun k => varint_Put.f k l) (puts l) :=
  varint_Put_l0_ev l hl hu (l.length - 0) 0 [] rfl (by omega) (by simp)

theorem frame_may_ev (k : Int) (b : List Int) : frame_may.f k b = some (mayF k b) := by
  unfold frame_may.f mayF
  repeat' split
  all_goals (congr 1; first | (symm; rw [decide_eq_false_iff_not]; omega) | (rw [Bool.eq_iff_iff]; simp only [decide_eq_true_eq]; omega))

theorem frame_tail_ev {l : List Int} (s : Int) (hl : l.length ≤ 10000000000000) : frame_tail.f l s = some (l ++ sum4 s) := by
  unfold frame_tail.f
  simp only [Option.bind_some, List.length_cons, List.length_nil]
  rw [if_pos (by omega)]
  rfl

theorem mixStep_lt {x : Nat} (h : x < 4294967296) : mixStep x < 4294967296 := by
  unfold mixStep
  split
  · exact xor_lt32 (by omega) (by unfold poly; omega)
  · rw [Nat.xor_zero]; omega
theorem mixSteps_lt : ∀ {d x : Nat}, x < 4294967296 → mixSteps d x < 4294967296 := by
  intro d
  induction d with
  | zero => intro x h; exact h
  | succ d ih => intro x h; exact ih (mixStep_lt h)
theorem crc_step {x : Nat} (h : x < 4294967296) : Go.bits .xor .u32 ((x : Int) / 2) (Go.bits .and .u32 2197175160 ((-(Go.bits .and .u32 (x : Int) 1)) % 4294967296)) = (mixStep x : Int) := by
  have e1 : Go.bits .and .u32 (x : Int) 1 = ((x &&& 1 : Nat) : Int) := and32 (b := 1) h (by decide)
  rw [Nat.and_one_is_mod] at e1
  rw [e1]
  unfold mixStep
  have e2 : (x : Int) / 2 = ((x / 2 : Nat) : Int) := rfl
  rw [e2]
  rcases Nat.mod_two_eq_zero_or_one x with hx | hx
  · rw [hx]
    have e3 : (-((0 : Nat) : Int)) % 4294967296 = ((0 : Nat) : Int) := by omega
    have e4 : Go.bits .and .u32 2197175160 ((0 : Nat) : Int) = ((2197175160 &&& 0 : Nat) : Int) := and32 (a := 2197175160) (b := 0) (by decide) (by decide)
    rw [e3, e4, Nat.and_zero, xor32 (by omega) (by omega), if_neg (by omega)]
  · rw [hx]
    have e3 : (-((1 : Nat) : Int)) % 4294967296 = ((4294967295 : Nat) : Int) := by omega
    have e4 : Go.bits .and .u32 2197175160 ((4294967295 : Nat) : Int) = ((2197175160 &&& 4294967295 : Nat) : Int) := and32 (a := 2197175160) (b := 4294967295) (by decide) (by decide)
    have e5 : 2197175160 &&& 4294967295 = poly := by decide
    rw [e3, e4, e5, xor32 (by omega) (by unfold poly; omega), if_pos rfl]
theorem crc_More_l1_ev (l : List Int) (hl : l.length ≤ maxLen) (j : Nat) (hj : j < l.length) (r : Int) : ∀ (d x : Nat), d ≤ 8 → x < 4294967296 → Ev (fun k => crc_More.l0 k (mixSteps d x : Nat) l (l.length : Int) ((j : Int) + 1)) r →
    Ev (fun k => crc_More.l1 k (x : Int) l (l.length : Int) (j : Int) (8 - (d : Int))) r := by
  have hlm := maxLen_le hl
  intro d
  induction d with
  | zero =>
    intro x hd hx hr
    rw [ev_succ]
    simp only [crc_More.l1, ev_ite]
    rw [if_neg (by omega), w64 (by omega) (by omega)]
    exact hr
  | succ d ih =>
    intro x hd hx hr
    rw [ev_succ]
    simp only [crc_More.l1, ev_ite]
    rw [if_pos (by omega), crc_step hx, w64 (by omega) (by omega)]
    have e : 8 - ((d + 1 : Nat) : Int) + 1 = 8 - (d : Int) := by omega
    rw [e]
    exact ih _ (by omega) (mixStep_lt hx) hr
theorem crc_More_l0_ev (l : List Int) (hl : l.length ≤ maxLen) (hb : Bytes l) : ∀ (d j r : Nat), l.length - j = d → j ≤ l.length → r < 4294967296 → Ev (fun k => crc_More.l0 k (r : Int) l (l.length : Int) (j : Int)) ((4294967295 ^^^ crcRun r (l.drop j) : Nat) : Int) := by
  intro d
  induction d with
  | zero =>
    intro j r hd hj hr
    rw [ev_succ]
    simp only [crc_More.l0, ev_ite]
    have e : Go.bits .xor .u32 4294967295 (r : Int) = ((4294967295 ^^^ r : Nat) : Int) := xor32 (a := 4294967295) (by decide) hr
    rw [if_neg (by omega), ev_some, List.drop_eq_nil_of_le (by omega), e]
    rfl
  | succ d ih =>
    intro j r hd hj hr
    have hc := hb.rd (i := (j : Int)) (by omega) (by omega)
    rw [ev_succ]
    simp only [crc_More.l0, ev_ite]
    obtain ⟨c, hce⟩ := Int.eq_ofNat_of_zero_le hc.1
    have e : Go.bits .xor .u32 (r : Int) (rd l (j : Int) % 4294967296) = ((r ^^^ c : Nat) : Int) := by
      rw [hce]
      have : (c : Int) % 4294967296 = (c : Int) := by omega
      rw [this]
      exact xor32 hr (by omega)
    rw [if_pos (by omega), if_pos (by omega), if_pos (by omega), e]
    have e2 : (0 : Int) = 8 - ((8 : Nat) : Int) := by omega
    rw [e2]
    refine crc_More_l1_ev l hl j (by omega) _ 8 _ (by omega) (xor_lt32 hr (by omega)) ?_
    rw [mix_byte (by omega)]
    refine ev_eq (ih (j + 1) _ (by omega) (by omega) (crcByte_lt hr)) ?_
    rw [drop_eq (xs := l) (i := j) (by omega), hce]
    rfl
theorem crc_More_ev {s : Nat} {l : List Int} (hs : s < 4294967296) (hl : l.length ≤ maxLen) (hb : Bytes l) : Ev (fun k => crc_More.f k (s : Int) l) ((4294967295 ^^^ crcRun (4294967295 ^^^ s) l : Nat) : Int) := by
  simp only [crc_More.f]
  have e : Go.bits .xor .u32 4294967295 (s : Int) = ((4294967295 ^^^ s : Nat) : Int) := xor32 (a := 4294967295) (by decide) hs
  rw [e]
  exact crc_More_l0_ev l hl hb (l.length - 0) 0 _ rfl (by omega) (xor_lt32 (by omega) hs)

theorem crc_Of_ev {l : List Int} (hl : l.length ≤ maxLen) (hb : Bytes l) : Ev (fun k => crc_Of.f k l) (crcOf l : Int) := by
  simp only [crc_Of.f]
  have h : Ev (fun k => crc_More.f k 0 l) ((4294967295 ^^^ crcRun (4294967295 ^^^ 0) l : Nat) : Int) := crc_More_ev (s := 0) (by omega) hl hb
  rw [ev_bind h, ev_some, Nat.xor_zero]
  rfl

theorem frame_sum_ev {kind : Int} {body : List Int} (hk : 0 ≤ kind ∧ kind ≤ 255) (hl : body.length ≤ maxLen) (hb : Bytes body) : Ev (fun k => frame_sum.f k kind body) (sumF kind body : Int) := by
  simp only [frame_sum.f]
  have h1 : Ev (fun k => crc_Of.f k [kind]) (crcOf [kind] : Int) := crc_Of_ev (by simp [maxLen]) (by intro x hx; rw [List.mem_singleton.1 hx]; omega)
  rw [ev_bind h1, ev_bind (crc_More_ev (crcOf_lt _) hl hb), ev_some]
  have e : 4294967295 ^^^ crcOf [kind] = crcRun 4294967295 [kind] := by
    unfold crcOf
    rw [← Nat.xor_assoc, Nat.xor_self, Nat.zero_xor]
  rw [e, ← crcRun_append]
  rfl

theorem frame_Put_l0_ev (l : List S53) (hl : l.length ≤ 10000000000) (hg : ∀ f ∈ l, goodF f) (hs : sumLen (prsF l) ≤ 1000000000000) : ∀ (d j : Nat) (b : List Int), l.length - j = d → j ≤ l.length → b.length + (putsF (prsF (l.drop j))).length ≤ 2000000000000 →
    Ev (fun k => frame_Put.l0 k b l (l.length : Int) (j : Int)) (if allF (prsF (l.drop j)) = true then (b ++ putsF (prsF (l.drop j)), 0) else ([], 1)) := by
  intro d
  induction d with
  | zero =>
    intro j b hd hj hb
    rw [ev_succ]
    simp only [frame_Put.l0, ev_ite]
    rw [if_neg (by omega), ev_some, List.drop_eq_nil_of_le (by omega)]
    simp [prsF, allF, putsF]
  | succ d ih =>
    intro j b hd hj hb
    have hjl : j < l.length := by omega
    have hgj := hg _ (rdF_mem hjl)
    rw [dropF_eq hjl] at hb ⊢
    have hmemp : prF (rd_T53 l (j : Int)) ∈ prsF l := List.mem_map.2 ⟨_, rdF_mem hjl, rfl⟩
    have hlen := sumLen_mem hmemp
    generalize hF : rd_T53 l (j : Int) = f at *
    have e1 : prsF (f :: l.drop (j + 1)) = (f.f0, f.f1) :: prsF (l.drop (j + 1)) := rfl
    rw [e1, putsF_cons, List.length_append, putF_len] at hb
    simp only [prF] at hlen
    simp only at hb
    have h10 := one_len10 (u := f.f1.length) (by have := hgj.2.1; omega)
    rw [ev_succ]
    simp only [frame_Put.l0, ev_ite, hF]
    rw [if_pos (by omega), if_pos (by omega), if_pos (by omega), ev_bind_c (frame_may_ev _ _), ev_ite]
    have e2 : allF (prsF (f :: l.drop (j + 1))) = (mayF f.f0 f.f1 && allF (prsF (l.drop (j + 1)))) := rfl
    rw [e2]
    by_cases hm : mayF f.f0 f.f1 = true
    · have hm' := mayF_iff.1 hm
      have hput : Ev (fun k => varint_Put.f k [(f.f1.length : Int)]) (one f.f1.length) := by
        have := varint_Put_ev (l := [(f.f1.length : Int)]) (by simp) (by intro v hv; rw [List.mem_singleton.1 hv]; omega)
        rw [puts_cons, puts_nil, List.append_nil, Int.toNat_natCast] at this
        exact this
      have ek : f.f0 % 256 = f.f0 := by omega
      rw [if_pos hm, wu64 (by omega) (by omega), ev_bind hput, ev_ite, if_pos (by omega)]
      simp only [Option.bind_some, ev_ite]
      rw [if_pos (by rw [List.length_append]; omega), if_pos (by simp only [List.length_append, List.length_singleton]; omega), ek, ev_bind (frame_sum_ev (by omega) (by have := hgj.2.1; unfold maxLen; omega) hgj.2.2), ev_bind_c (frame_tail_ev _ (by simp only [List.length_append, List.length_singleton]; omega)), w64 (by omega) (by omega)]
      have e3 : b ++ one f.f1.length ++ [f.f0] ++ f.f1 ++ sum4 (sumF f.f0 f.f1) = b ++ putF f.f0 f.f1 := by
        unfold putF
        simp
      rw [e3]
      refine ev_eq (ih (j + 1) (b ++ putF f.f0 f.f1) (by omega) (by omega) (by rw [List.length_append, putF_len]; omega)) ?_
      rw [hm, Bool.true_and, e1, putsF_cons, List.append_assoc]
    · rw [if_neg hm, ev_some, if_neg (by simp [hm])]
theorem frame_Put_ev {l : List S53} (hl : l.length ≤ 10000000000) (hg : ∀ f ∈ l, goodF f) (hs : sumLen (prsF l) ≤ 1000000000000) : Ev (fun k => frame_Put.f k l) (if allF (prsF l) = true then (putsF (prsF l), 0) else ([], 1)) := by
  have hp := putsF_len (l := prsF l) (by
    intro f hf
    have := sumLen_mem hf
    omega)
  rw [prsF_len] at hp
  exact frame_Put_l0_ev l hl hg hs (l.length - 0) 0 [] rfl (by omega) (by simp; omega)

theorem seg_Put_ev {l : List (List Int)} (hl : l.length ≤ 100000000) (hs : shortV l = true) (hg : ∀ v ∈ l, Bytes v) (ht : totV l ≤ 1000000000) : Ev (fun k => seg_Put.f k l) (putV l, 0) := by
  have hpl := putV_len hs
  have main : ∀ (d i : Nat) (b : List Int), l.length - i = d → i ≤ l.length → b.length + (putV (l.drop i)).length ≤ 10000000000 → Ev (fun k => seg_Put.l0 k b l (l.length : Int) (i : Int)) (b ++ putV (l.drop i), 0) := by
    intro d
    induction d with
    | zero =>
      intro i b hd hi hb
      rw [ev_succ]
      simp only [seg_Put.l0, ev_ite]
      rw [if_neg (by omega), ev_some, List.drop_eq_nil_of_le (by omega), putV_nil, List.append_nil]
    | succ d ih =>
      intro i b hd hi hb
      have hil : i < l.length := by omega
      have hv := shortV_mem hs (rdL_mem hil)
      have hbv := hg _ (rdL_mem hil)
      rw [dropL_eq hil, putV_cons, List.length_append] at hb
      have hp := frame_Put_ev (l := [(⟨2, rd_L1 l (i : Int)⟩ : S53)]) (by simp) (by
        intro f hf
        rw [List.mem_singleton.1 hf]
        exact ⟨by simp, by simp only; omega, hbv⟩) (by simp [prsF, prF, sumLen]; omega)
      have ha : allF (prsF [(⟨2, rd_L1 l (i : Int)⟩ : S53)]) = true := by
        show (mayF 2 (rd_L1 l (i : Int)) && true) = true
        rw [may2 hv]
        rfl
      have hp2 : putsF (prsF [(⟨2, rd_L1 l (i : Int)⟩ : S53)]) = putF 2 (rd_L1 l (i : Int)) := by simp [prsF, prF, putsF]
      rw [if_pos ha, hp2] at hp
      rw [ev_succ]
      simp only [seg_Put.l0, ev_ite]
      rw [if_pos (by omega), if_pos (by omega), if_pos (by omega), if_neg (by omega), ev_bind hp]
      simp only [ev_ite]
      rw [if_pos (by omega), w64 (by omega) (by omega)]
      have := ih (i + 1) (b ++ putF 2 (rd_L1 l (i : Int))) (by omega) (by omega) (by rw [List.length_append]; omega)
      refine ev_eq this ?_
      rw [dropL_eq hil, putV_cons, List.append_assoc]
  have := main (l.length - 0) 0 [] rfl (by omega) (by simp; omega)
  exact this

theorem len_tab : ∀ x : Fin 256, ∃ n : Fin 9, bt (⟨#[0, 1, 2, 2, 3, 3, 3, 3, 4, 4, 4, 4, 4, 4, 4, 4, 5, 5, 5, 5, 5, 5, 5, 5, 5, 5, 5, 5, 5, 5, 5, 5, 6, 6, 6, 6, 6, 6, 6, 6, 6, 6, 6, 6, 6, 6, 6, 6, 6, 6, 6, 6, 6, 6, 6, 6, 6, 6, 6, 6, 6, 6, 6, 6, 7, 7, 7, 7, 7, 7, 7, 7, 7, 7, 7, 7, 7, 7, 7, 7, 7, 7, 7, 7, 7, 7, 7, 7, 7, 7, 7, 7, 7, 7, 7, 7, 7, 7, 7, 7, 7, 7, 7, 7, 7, 7, 7, 7, 7, 7, 7, 7, 7, 7, 7, 7, 7, 7, 7, 7, 7, 7, 7, 7, 7, 7, 7, 7, 8, 8, 8, 8, 8, 8, 8, 8, 8, 8, 8, 8, 8, 8, 8, 8, 8, 8, 8, 8, 8, 8, 8, 8, 8, 8, 8, 8, 8, 8, 8, 8, 8, 8, 8, 8, 8, 8, 8, 8, 8, 8, 8, 8, 8, 8, 8, 8, 8, 8, 8, 8, 8, 8, 8, 8, 8, 8, 8, 8, 8, 8, 8, 8, 8, 8, 8, 8, 8, 8, 8, 8, 8, 8, 8, 8, 8, 8, 8, 8, 8, 8, 8, 8, 8, 8, 8, 8, 8, 8, 8, 8, 8, 8, 8, 8, 8, 8, 8, 8, 8, 8, 8, 8, 8, 8, 8, 8, 8, 8, 8, 8, 8, 8, 8, 8, 8, 8, 8, 8, 8, 8, 8, 8, 8, 8, 8, 8]⟩ : ByteArray) (x.val : Int) = (n.val : Int) ∧ x.val < 2 ^ n.val ∧ (n.val = 0 ∨ 2 ^ (n.val - 1) ≤ x.val) := by decide +kernel
theorem len_tab' {x : Nat} (h : x < 256) : ∃ n : Nat, n ≤ 8 ∧ bt (⟨#[0, 1, 2, 2, 3, 3, 3, 3, 4, 4, 4, 4, 4, 4, 4, 4, 5, 5, 5, 5, 5, 5, 5, 5, 5, 5, 5, 5, 5, 5, 5, 5, 6, 6, 6, 6, 6, 6, 6, 6, 6, 6, 6, 6, 6, 6, 6, 6, 6, 6, 6, 6, 6, 6, 6, 6, 6, 6, 6, 6, 6, 6, 6, 6, 7, 7, 7, 7, 7, 7, 7, 7, 7, 7, 7, 7, 7, 7, 7, 7, 7, 7, 7, 7, 7, 7, 7, 7, 7, 7, 7, 7, 7, 7, 7, 7, 7, 7, 7, 7, 7, 7, 7, 7, 7, 7, 7, 7, 7, 7, 7, 7, 7, 7, 7, 7, 7, 7, 7, 7, 7, 7, 7, 7, 7, 7, 7, 7, 8, 8, 8, 8, 8, 8, 8, 8, 8, 8, 8, 8, 8, 8, 8, 8, 8, 8, 8, 8, 8, 8, 8, 8, 8, 8, 8, 8, 8, 8, 8, 8, 8, 8, 8, 8, 8, 8, 8, 8, 8, 8, 8, 8, 8, 8, 8, 8, 8, 8, 8, 8, 8, 8, 8, 8, 8, 8, 8, 8, 8, 8, 8, 8, 8, 8, 8, 8, 8, 8, 8, 8, 8, 8, 8, 8, 8, 8, 8, 8, 8, 8, 8, 8, 8, 8, 8, 8, 8, 8, 8, 8, 8, 8, 8, 8, 8, 8, 8, 8, 8, 8, 8, 8, 8, 8, 8, 8, 8, 8, 8, 8, 8, 8, 8, 8, 8, 8, 8, 8, 8, 8, 8, 8, 8, 8, 8, 8]⟩ : ByteArray) (x : Int) = (n : Int) ∧ IsLen n x := by
  obtain ⟨n, h1, h2, h3⟩ := len_tab ⟨x, h⟩
  exact ⟨n.val, by omega, h1, h2, h3⟩
theorem bits_Len64_ev (u : Nat) (hu : u < 18446744073709551616) : ∃ n : Nat, n ≤ 64 ∧ IsLen n u ∧ Ev (fun k => bits_Len64.f k (u : Int)) (n : Int) := by
  have hj : ∀ (v m : Nat), v < 4294967296 → m ≤ 32 → ∃ n : Nat, n ≤ 32 ∧ IsLen n v ∧ Ev (fun k => bits_Len64.j0 k (v : Int) (m : Int)) ((m + n : Nat) : Int) := by
    intro v m hv hm
    by_cases h1 : 65536 ≤ v
    · have e1 : (v : Int) / 65536 = ((v / 65536 : Nat) : Int) := rfl
      by_cases h2 : 256 ≤ v / 65536
      · have e2 : ((v / 65536 : Nat) : Int) / 256 = ((v / 65536 / 256 : Nat) : Int) := rfl
        obtain ⟨n, hn, ht, hl⟩ := len_tab' (x := v / 65536 / 256) (by omega)
        have hl2 : IsLen (n + 8 + 16) v := isLen_div (k := 16) (by omega) (isLen_div (k := 8) (by omega) hl)
        refine ⟨n + 8 + 16, by omega, hl2, ?_⟩
        rw [ev_succ]
        simp only [bits_Len64.j0, ev_ite, e1, e2]
        have e3 : ((v / 65536 / 256 : Nat) : Int) % 256 = ((v / 65536 / 256 : Nat) : Int) := by omega
        rw [if_pos (by omega), if_pos (by omega), e3, if_pos (by omega), if_pos (by omega), ht, w64 (x := (n : Int)) (by omega) (by omega), w64 (x := (m : Int) + 16) (by omega) (by omega), w64 (x := (m : Int) + 16 + 8) (by omega) (by omega), w64 (by omega) (by omega), ev_some]
        omega
      · obtain ⟨n, hn, ht, hl⟩ := len_tab' (x := v / 65536) (by omega)
        have hl2 : IsLen (n + 16) v := isLen_div (k := 16) (by omega) hl
        refine ⟨n + 16, by omega, hl2, ?_⟩
        rw [ev_succ]
        simp only [bits_Len64.j0, ev_ite, e1]
        have e3 : ((v / 65536 : Nat) : Int) % 256 = ((v / 65536 : Nat) : Int) := by omega
        rw [if_pos (by omega), if_neg (by omega), e3, if_pos (by omega), if_pos (by omega), ht, w64 (x := (n : Int)) (by omega) (by omega), w64 (x := (m : Int) + 16) (by omega) (by omega), w64 (by omega) (by omega), ev_some]
        omega
    · by_cases h2 : 256 ≤ v
      · have e2 : (v : Int) / 256 = ((v / 256 : Nat) : Int) := rfl
        obtain ⟨n, hn, ht, hl⟩ := len_tab' (x := v / 256) (by omega)
        have hl2 : IsLen (n + 8) v := isLen_div (k := 8) (by omega) hl
        refine ⟨n + 8, by omega, hl2, ?_⟩
        rw [ev_succ]
        simp only [bits_Len64.j0, ev_ite, e2]
        have e3 : ((v / 256 : Nat) : Int) % 256 = ((v / 256 : Nat) : Int) := by omega
        rw [if_neg (by omega), if_pos (by omega), e3, if_pos (by omega), if_pos (by omega), ht, w64 (x := (n : Int)) (by omega) (by omega), w64 (x := (m : Int) + 8) (by omega) (by omega), w64 (by omega) (by omega), ev_some]
        omega
      · obtain ⟨n, hn, ht, hl⟩ := len_tab' (x := v) (by omega)
        refine ⟨n, by omega, hl, ?_⟩
        rw [ev_succ]
        simp only [bits_Len64.j0, ev_ite]
        have e3 : (v : Int) % 256 = (v : Int) := by omega
        rw [if_neg (by omega), if_neg (by omega), e3, if_pos (by omega), if_pos (by omega), ht, w64 (x := (n : Int)) (by omega) (by omega), w64 (by omega) (by omega), ev_some]
        omega
  simp only [bits_Len64.f, ev_ite]
  by_cases h : 4294967296 ≤ u
  · obtain ⟨n, h1, h2, h3⟩ := hj (u / 4294967296) 32 (by omega) (by omega)
    refine ⟨n + 32, by omega, isLen_div (k := 32) (by omega) h2, ?_⟩
    rw [if_pos (by omega)]
    refine ev_eq h3 ?_
    omega
  · obtain ⟨n, h1, h2, h3⟩ := hj u 0 (by omega) (by omega)
    refine ⟨n, by omega, h2, ?_⟩
    rw [if_neg (by omega)]
    refine ev_eq h3 ?_
    omega

theorem varint_Size_ev (u : Nat) (hu : u < 18446744073709551616) : Ev (fun k => varint_Size.f k (u : Int)) ((one u).length : Int) := by
  obtain ⟨n, h1, h2, h3⟩ := bits_Len64_ev u hu
  simp only [varint_Size.f]
  rw [ev_bind h3, ev_some, one_size h2, w64 (x := (n : Int) + 7) (by omega) (by omega), w64 (x := (n : Int) + 7 - 1) (by omega) (by omega), Int.tdiv_eq_ediv_of_nonneg (by omega), w64 (by omega) (by omega)]
  unfold mx
  split <;> omega

theorem frame_Head_ev (n : Int) (hn : -9223372036854775808 ≤ n ∧ n ≤ 9223372036854775807) : Ev (fun k => frame_Head.f k n) (if n < 0 ∨ 1048576 < n then 0 else ((one n.toNat).length : Int) + 1) := by
  simp only [frame_Head.f, ev_ite]
  by_cases h : n < 0 ∨ 1048576 < n
  · rw [if_pos h]
    repeat' split
    all_goals first | (rw [ev_some]) | omega
  · have h10 := one_len10 (u := n.toNat) (by omega)
    have hs := varint_Size_ev n.toNat (by omega)
    rw [Int.toNat_of_nonneg (by omega)] at hs
    rw [if_neg h, if_neg (by omega), if_neg (by omega), wu64 (by omega) (by omega), ev_bind hs, ev_some, w64 (by omega) (by omega)]

theorem frame_Size_ev (n : Int) (hn : -9223372036854775808 ≤ n ∧ n ≤ 9223372036854775807) : Ev (fun k => frame_Size.f k n) (if n < 0 ∨ 1048576 < n then 0 else ((one n.toNat).length : Int) + 1 + n + 4) := by
  simp only [frame_Size.f]
  rw [ev_bind (frame_Head_ev n hn), ev_ite]
  by_cases h : n < 0 ∨ 1048576 < n
  · rw [if_pos h, if_pos h, if_pos (by trivial), ev_some]
  · have h10 := one_len10 (u := n.toNat) (by omega)
    rw [if_neg h, if_neg h, if_neg (by omega), ev_some, w64 (x := ((one n.toNat).length : Int) + 1 + n) (by omega) (by omega), w64 (by omega) (by omega)]

theorem frame_within_ev (b : List Int) : frame_within.f b = some (highs b) := rfl

theorem varint_Get_l0_ev (x : List Int) (hb : Bytes x) (hl : x.length ≤ maxLen) : ∀ (d i : Nat) (u : Int), x.length - i = d → i ≤ 10 → i ≤ x.length → 0 ≤ u → u < 2 ^ (7 * i) →
    Ev (fun k => varint_Get.l0 k x u (i : Int)) (match dec i (x.drop i) with | some (v, n) => (u + v * 2 ^ (7 * i), (i : Int) + n, 0) | none => (0, 0, 2)) := by
  have hlm := maxLen_le hl
  intro d
  induction d with
  | zero =>
    intro i u hd hi hix hu0 hu
    rw [ev_succ]
    simp only [varint_Get.l0, ev_ite]
    rw [if_neg (by omega), ev_succ]
    simp only [varint_Get.j1, ev_ite]
    rw [if_neg (by simp), ev_some, List.drop_eq_nil_of_le (by omega)]
    rfl
  | succ d ih =>
    intro i u hd hi hix hu0 hu
    have hlt : i < x.length := by omega
    have hc := hb.rd (i := (i : Int)) (by omega) (by omega)
    rw [ev_succ]
    simp only [varint_Get.l0, ev_ite]
    rw [if_pos (by omega), ev_succ, drop_eq hlt]
    simp only [varint_Get.j1, ev_ite, decide_eq_true_eq]
    generalize hcc : rd x (i : Int) = c at hc ⊢
    by_cases h10 : i = 10
    · subst h10
      rw [if_neg (by omega), ev_some, dec, if_pos (by omega)]
    · rw [if_pos (by omega), if_pos (by omega), if_pos (by omega), wu64 (by omega) (by omega)]
      have hj2 : ∀ b : Bool, b = decide (i = 9 ∧ 1 < c) → Ev (fun k => varint_Get.j2 k x u (i : Int) c b) (match dec i (c :: x.drop (i + 1)) with | some (v, n) => (u + v * 2 ^ (7 * i), (i : Int) + n, 0) | none => (0, 0, 2)) := by
        intro b hbb
        rw [ev_succ]
        simp only [varint_Get.j2, ev_ite, dec]
        rw [if_neg (show ¬ 10 ≤ i by omega)]
        by_cases h9 : i = 9 ∧ 1 < c
        · rw [if_pos (by rw [hbb]; simpa using h9), if_pos h9, ev_some]
        · rw [if_neg (by rw [hbb]; simpa using h9), if_neg h9, w64 (by omega) (by omega), if_pos (by omega)]
          have hsh : ∀ y : Int, 0 ≤ y → y ≤ 127 → (i = 9 → y ≤ 1) → Go.bits .or .u64 u (shl .u64 y (7 * (i : Int))) = u + y * 2 ^ (7 * i) ∧ y * 2 ^ (7 * i) + 2 ^ (7 * i) ≤ (18446744073709551616 : Int) := by
            intro y hy0 hy1 hy9
            have hi' : i = 0 ∨ i = 1 ∨ i = 2 ∨ i = 3 ∨ i = 4 ∨ i = 5 ∨ i = 6 ∨ i = 7 ∨ i = 8 ∨ i = 9 := by omega
            have hs : y * 2 ^ (7 * i) + 2 ^ (7 * i) ≤ (18446744073709551616 : Int) := by
              rcases hi' with rfl | rfl | rfl | rfl | rfl | rfl | rfl | rfl | rfl | rfl <;> simp <;> omega
            have hp : (0 : Int) < 2 ^ (7 * i) := Int.pow_pos (by omega)
            have hm : 0 ≤ y * 2 ^ (7 * i) := Int.mul_nonneg hy0 (by omega)
            have e : (7 * (i : Int)).toNat = 7 * i := by omega
            refine ⟨?_, hs⟩
            unfold shl
            rw [e, Nat.min_eq_left (show 7 * i ≤ IntKind.u64.bits by show 7 * i ≤ 64; omega), wu64 hm (by omega)]
            exact or_u64 (by omega) hu0 hu hy0 (by omega)
          by_cases h128 : c < 128
          · have hm : c % 128 = c := by omega
            rw [if_pos h128, if_pos h128]
            obtain ⟨h1, h2⟩ := hsh c (by omega) (by omega) (fun h => by omega)
            have hr : Ev (fun _ => some (Go.bits .or .u64 u (shl .u64 (Go.bits .andNot .u64 c 128) (7 * (i : Int))), wrap64 ((i : Int) + 1), (0 : Int))) (u + c * 2 ^ (7 * i), (i : Int) + 1, 0) := by
              rw [ev_some, andNot_u64 hc.1 hc.2, hm, h1, w64 (by omega) (by omega)]
            by_cases h0 : c = 0
            · rw [if_pos h0]
              by_cases hi0 : 0 < i
              · rw [if_pos (by omega), if_pos ⟨h0, hi0⟩, ev_some]
              · rw [if_neg (by omega), if_neg (by omega)]
                simp only
                rw [Int.toNat_of_nonneg hc.1]
                exact hr
            · rw [if_neg h0, if_neg (fun h => h0 h.1)]
              simp only
              rw [Int.toNat_of_nonneg hc.1]
              exact hr
          · have hx9 : i ≠ 9 := by omega
            rw [if_neg h128, if_neg h128, andNot_u64 hc.1 hc.2, w64 (by omega) (by omega)]
            obtain ⟨h1, h2⟩ := hsh (c % 128) (by omega) (by omega) (fun h => by omega)
            rw [h1]
            have hp : (0 : Int) < 2 ^ (7 * i) := Int.pow_pos (by omega)
            have hm : 0 ≤ c % 128 * 2 ^ (7 * i) := Int.mul_nonneg (by omega) (by omega)
            have hpow : (2 : Int) ^ (7 * (i + 1)) = 128 * 2 ^ (7 * i) := by
              rw [Nat.mul_add, Int.pow_add]
              omega
            have hlt2 : c % 128 * 2 ^ (7 * i) ≤ 127 * 2 ^ (7 * i) := Int.mul_le_mul_of_nonneg_right (by omega) (by omega)
            have := ih (i + 1) (u + c % 128 * 2 ^ (7 * i)) (by omega) (by omega) (by omega) (by omega) (by omega)
            refine ev_eq this ?_
            cases dec (i + 1) (x.drop (i + 1)) with
            | none => rfl
            | some p =>
              obtain ⟨v, n⟩ := p
              simp only [Option.map_some]
              have e2 : (((c % 128).toNat + 128 * v : Nat) : Int) = c % 128 + 128 * v := by omega
              rw [e2, hpow, Int.add_mul, Int.mul_comm 128 (2 ^ (7 * i)), Int.mul_comm (128 : Int) (v : Int), Int.mul_assoc, Int.mul_comm (128 : Int) (2 ^ (7 * i)), ← Int.add_assoc]
              congr 2
              omega
      by_cases h9 : i = 9
      · rw [if_pos (by omega)]
        exact hj2 _ (by simp [h9])
      · rw [if_neg (by omega)]
        exact hj2 _ (by simp [h9])
theorem varint_Get_ev {x : List Int} (hb : Bytes x) (hl : x.length ≤ maxLen) : Ev (fun k => varint_Get.f k x) (getR x) := by
  have h := varint_Get_l0_ev x hb hl (x.length - 0) 0 0 rfl (by omega) (by omega) (by omega) (by simp)
  refine ev_eq h ?_
  unfold getR
  simp only [List.drop_zero]
  cases dec 0 x with
  | none => rfl
  | some p => simp

theorem frame_sumOf_ev {x : List Int} (hb : Bytes x) (h : 4 ≤ x.length) : frame_sumOf.f x = some (sumAt x 0) := by
  have h0 := hb.rd (i := 0) (by omega) (by omega)
  have h1 := hb.rd (i := 1) (by omega) (by omega)
  have h2 := hb.rd (i := 2) (by omega) (by omega)
  have h3 := hb.rd (i := 3) (by omega) (by omega)
  unfold frame_sumOf.f
  rw [if_pos (by omega), if_pos (by omega), if_pos (by omega), if_pos (by omega)]
  have e : sumAt x 0 = rd x 0 + 256 * rd x 1 + 65536 * rd x 2 + 16777216 * rd x 3 := rfl
  rw [e]
  generalize rd x 0 = a at *
  generalize rd x 1 = b at *
  generalize rd x 2 = c at *
  generalize rd x 3 = d at *
  have e1 : a % 4294967296 = a := by omega
  have e2 : b % 4294967296 * 256 % 4294967296 = b * 2 ^ 8 := by omega
  have e3 : c % 4294967296 * 65536 % 4294967296 = c * 2 ^ 16 := by omega
  have e4 : d % 4294967296 * 16777216 % 4294967296 = d * 2 ^ 24 := by omega
  have e5 := or_u32 (j := 8) (x := a) (y := b) (by omega) (by omega) (by omega) (by omega) (by omega)
  have e6 := or_u32 (j := 16) (x := a + b * 2 ^ 8) (y := c) (by omega) (by omega) (by omega) (by omega) (by omega)
  have e7 := or_u32 (j := 24) (x := a + b * 2 ^ 8 + c * 2 ^ 16) (y := d) (by omega) (by omega) (by omega) (by omega) (by omega)
  rw [e1, e2, e3, e4, e5, e6, e7]
  congr 1
  omega

theorem slices_Clone_byte_byte_ev {b : List Int} (h : b.length < 140737488355328) : slices_Clone_byte_byte.f b = some b := by
  unfold slices_Clone_byte_byte.f
  rw [if_pos h]

theorem sumAt_drop (b : List Int) (i : Nat) : sumAt (b.drop i) 0 = sumAt b i := by
  have e : ∀ (n : Nat) (m k : Int), m = (n : Int) → k = ((i + n : Nat) : Int) → rd (b.drop i) m = rd b k := by
    rintro n m k rfl rfl
    rw [rd_nat, rd_nat, List.getD_eq_getElem?_getD, List.getD_eq_getElem?_getD, List.getElem?_drop]
  unfold sumAt
  rw [e 0 _ (i : Int) (by omega) (by omega), e 1 _ ((i : Int) + 1) (by omega) (by omega), e 2 _ ((i : Int) + 2) (by omega) (by omega), e 3 _ ((i : Int) + 3) (by omega) (by omega)]
theorem frame_First_ev {b : List Int} (hb : Bytes b) (hl : b.length ≤ maxLen) : Ev (fun k => frame_First.f k b) (firstR b) := by
  have hlm := maxLen_le hl
  simp only [frame_First.f]
  rw [ev_bind_c (frame_within_ev b), ev_ite]
  unfold firstR
  by_cases hh : highs b = true
  · rw [if_pos hh, if_pos hh, ev_some]
  rw [if_neg hh, if_neg hh, ev_bind (varint_Get_ev hb hl)]
  unfold getR
  rcases dec_cases b with hd | ⟨u, n, hd⟩
  · rw [hd]
    simp only
    rw [ev_ite, if_neg (by omega), ev_succ]
    simp only [frame_First.j0, ev_ite]
    rw [if_pos (by trivial), ev_some]
  · have hp := dec_pos hb hd
    obtain ⟨h1, ⟨m, h2⟩, h3⟩ := (dec_iff hb).1 hd
    rw [hd]
    simp only
    rw [ev_ite, if_pos (by trivial), ev_succ]
    simp only [frame_First.j0, ev_ite, decide_eq_true_eq]
    by_cases c1 : 1048576 < u
    · rw [if_pos (by omega), if_pos c1, ev_some]
    rw [if_neg (by omega), if_neg c1]
    by_cases c2 : b.length = n
    · rw [if_pos (by omega), if_pos c2, ev_some]
    rw [if_neg (by omega), if_neg c2, if_pos (by omega), if_pos (by omega)]
    have hr := hb.rd (i := (n : Int)) (by omega) (by omega)
    by_cases c3a : rd b (n : Int) < 1
    · rw [if_pos c3a, if_pos (.inl c3a), ev_some]
    by_cases c3b : rd b (n : Int) > 250
    · rw [if_neg c3a, if_pos c3b, if_pos (.inr c3b), ev_some]
    have hs := frame_Size_ev (u : Int) (by omega)
    rw [if_neg (by omega), Int.toNat_natCast, ← h3] at hs
    rw [if_neg c3a, if_neg c3b, if_neg (by omega), w64 (x := (u : Int)) (by omega) (by omega), ev_bind hs, ev_ite]
    by_cases c4 : b.length < n + 1 + u + 4
    · rw [if_pos (by omega), if_pos c4, ev_some]
    have t1 : ((n : Int) + 1 + (u : Int)).toNat = n + 1 + u := by omega
    have t2 : ((n : Int) + 1).toNat = n + 1 := by omega
    have t3 : n + 1 + u - (n + 1) = u := by omega
    have hlen : ((b.drop (n + 1)).take u).length = u := by rw [List.length_take, List.length_drop]; omega
    rw [if_neg (by omega), if_neg c4, w64 (x := (n : Int) + 1) (by omega) (by omega), w64 (x := (n : Int) + 1 + (u : Int)) (by omega) (by omega), ev_ite, if_pos (by omega), ev_ite, if_pos (by omega), ev_ite, if_pos (by omega), ev_ite, if_pos (by omega), t1, t2, List.drop_take, t3]
    rw [ev_bind_c (frame_sumOf_ev (hb.drop _) (by rw [List.length_drop]; omega)), ev_bind (frame_sum_ev (by omega) (by rw [hlen]; unfold maxLen; omega) ((hb.drop _).take _)), ev_ite, sumAt_drop]
    by_cases c5 : sumAt b (n + 1 + u) = (sumF (rd b (n : Int)) ((b.drop (n + 1)).take u) : Int)
    · rw [if_pos c5, if_pos c5, ev_bind_c (slices_Clone_byte_byte_ev (by rw [hlen]; omega)), ev_bind hs, ev_some, w64 (by omega) (by omega)]
      congr 3
    · rw [if_neg c5, if_neg c5, ev_some]

theorem point_Check_ev (s a l u : Int) : point_Check.f s a l u = some (if mayP s a l = true then 0 else 1) := by
  simp only [point_Check.f, mayP_iff]
  repeat' split
  all_goals first | rfl | omega

theorem cell_Check_true (s a l u : Int) : cell_Check.f true [] s a l u = some (if mayP s a l = true then 0 else 1) := by
  simp only [cell_Check.f]
  rw [if_pos (by trivial), if_neg (by simp), point_Check_ev]
  rfl

theorem cell_Far_ev {s a : Int} {v : List Int} (hm : mayP s a (v.length : Int) = true) (hb : Bytes v) (hl : v.length ≤ maxLen) : Ev (fun k => cell_Far.f k s a v) (true, [], s, a, (v.length : Int), (crcOf v : Int), 0) := by
  simp only [cell_Far.f]
  rw [ev_bind (crc_Of_ev hl hb), ev_bind_c (cell_Check_true _ _ _ _), ev_ite, if_pos hm, if_pos rfl, ev_some]

theorem seg_Walk_l0_ev {s : Int} (hs : 1 ≤ s ∧ s ≤ 2147483647) {b : List Int} (hb : Bytes b) (hl : b.length ≤ 4194304) : ∀ (d p : Nat) (x6 : List S24), p ≤ b.length → b.length - p < d → x6.length ≤ p →
    Ev (fun k => seg_Walk.l0 k s b x6 (p : Int)) (x6 ++ (walkR s d p (b.drop p)).1.map mkP, (walkR s d p (b.drop p)).2) := by
  intro d
  induction d with
  | zero => intro p x6 hp hd; omega
  | succ d ih =>
    intro p x6 hp hd h6
    have stop : ∀ (n kd : Int) (v : List Int), Ev (fun k => seg_Walk.j2 k s b x6 (p : Int) n true kd v) (x6, (p : Int)) := by
      intro n kd v
      rw [ev_succ]
      simp only [seg_Walk.j2, ev_ite]
      rw [if_pos (by trivial), ev_some]
    rw [ev_succ]
    simp only [seg_Walk.l0, ev_ite]
    rw [if_pos (by omega), if_pos (by omega), Int.toNat_natCast, ev_bind (frame_First_ev (hb.drop p) (by rw [List.length_drop]; unfold maxLen; omega)), ev_ite, walkR]
    by_cases hc : (firstR (b.drop p)).2.2.2 = 0 ∧ (firstR (b.drop p)).1 = 2 ∧ (firstR (b.drop p)).2.1.length ≤ 4096
    · obtain ⟨c1, c2, c3⟩ := hc
      rcases firstR_cases (hb.drop p) with ⟨kd, body, m, e1, e2, e3⟩ | e | e
      · rw [e3] at c1 c2 c3
        simp only at c1 c2 c3
        subst c2
        have hm := mayF_iff.1 e2
        have hle : (putF 2 body).length + m.length = b.length - p := by
          have := congrArg List.length e1
          rw [List.length_drop, List.length_append] at this
          omega
        have hbb : Bytes body := by
          intro x hx
          refine (hb.drop p) x ?_
          rw [e1]
          unfold putF
          simp [hx]
        have h6' := putF_pos 2 body
        have hpl := putF_len 2 body
        have hh := frame_Head_ev (body.length : Int) (by omega)
        rw [if_neg (by omega), Int.toNat_natCast] at hh
        rw [e3, if_pos (by trivial), ev_ite, if_pos (by trivial), if_pos ⟨rfl, rfl, c3⟩, decide_eq_false (by simp only; omega), ev_succ]
        simp only [seg_Walk.j2, ev_ite]
        have ea : (p : Int) + (((one body.length).length : Int) + 1) = (p : Int) + ((putF 2 body).length : Int) - 4 - (body.length : Int) := by omega
        rw [if_neg (by simp), ev_bind hh, w64 (by omega) (by omega), ea, ev_bind (cell_Far_ev (mayP_iff.2 (by omega)) hbb (by unfold maxLen; omega)), ev_ite, if_pos (by omega), w64 (by omega) (by omega), Int.toNat_natCast, List.drop_drop]
        have := ih (p + (putF 2 body).length) (x6 ++ [⟨s, (p : Int) + ((putF 2 body).length : Int) - 4 - (body.length : Int), (body.length : Int), (crcOf body : Int)⟩]) (by omega) (by omega) (by simp; omega)
        rw [Int.natCast_add] at this
        refine ev_eq this ?_
        rw [List.append_assoc, List.map_cons]
        rfl
      · rw [e] at c1; simp at c1
      · rw [e] at c1; simp at c1
    · rw [if_neg hc]
      have h2 : Ev (fun k => if (firstR (b.drop p)).2.2.2 = 0 then (if (firstR (b.drop p)).1 = 2 then (seg_Walk.j2 k s b x6 (p : Int) (firstR (b.drop p)).2.2.1 (decide (((firstR (b.drop p)).2.1.length : Int) > 4096)) (firstR (b.drop p)).1 (firstR (b.drop p)).2.1) else (seg_Walk.j2 k s b x6 (p : Int) (firstR (b.drop p)).2.2.1 true (firstR (b.drop p)).1 (firstR (b.drop p)).2.1)) else (seg_Walk.j2 k s b x6 (p : Int) (firstR (b.drop p)).2.2.1 true (firstR (b.drop p)).1 (firstR (b.drop p)).2.1)) (x6, (p : Int)) := by
        simp only [ev_ite]
        by_cases c1 : (firstR (b.drop p)).2.2.2 = 0
        · rw [if_pos c1]
          by_cases c2 : (firstR (b.drop p)).1 = 2
          · rw [if_pos c2, decide_eq_true (by omega)]
            exact stop _ _ _
          · rw [if_neg c2]
            exact stop _ _ _
        · rw [if_neg c1]
          exact stop _ _ _
      simp only [ev_ite] at h2 ⊢
      simpa using h2
theorem seg_Walk_ev {s : Int} (hs : 1 ≤ s ∧ s ≤ 2147483647) {b : List Int} (hb : Bytes b) (hl : b.length ≤ 4194304) {d : Nat} (hd : b.length < d) : Ev (fun k => seg_Walk.f k s b) ((walkR s d 0 b).1.map mkP, (walkR s d 0 b).2) := by
  have := seg_Walk_l0_ev hs hb hl d 0 [] (by omega) (by omega) (by simp)
  simp only [List.nil_append, List.drop_zero] at this
  simp only [seg_Walk.f, ev_ite]
  rw [if_neg (by omega), if_neg (by omega), decide_eq_false (by omega), ev_succ]
  simp only [seg_Walk.j0, ev_ite]
  rw [if_neg (by simp)]
  exact this

theorem garnerlaw19_awake_ev : Ev (fun k => garnerlaw19_awake.f k) true := Ev.of (fun k => garnerlaw19_awake.mono k) (k := 80) (by decide +kernel)

theorem cell_Fits_ev {s a l u : Int} {v : List Int} (hl : v.length ≤ maxLen) (hb : Bytes v) : Ev (fun k => cell_Fits.f k s a l u v) (decide (l = (v.length : Int) ∧ u = (crcOf v : Int))) := by
  simp only [cell_Fits.f, ev_ite]
  by_cases h : l = (v.length : Int)
  · rw [if_pos h, ev_bind (crc_Of_ev hl hb), ev_some]
    by_cases h2 : u = (crcOf v : Int)
    · rw [decide_eq_true ⟨h, h2⟩]
      simpa using h2
    · rw [decide_eq_false (fun x => h2 x.2)]
      simpa using h2
  · rw [if_neg h, ev_some, decide_eq_false (fun x => h x.1)]

theorem bytes_Clone_ev {b : List Int} (h : b.length < 140737488355328) : bytes_Clone.f b = some b := by
  unfold bytes_Clone.f
  rw [if_pos h]

theorem seg_Value_ev {b : List Int} (hb : Bytes b) (hl : b.length ≤ 140737488351232) {s a l u : Int} (hm : mayP s a l = true) (h1 : a + l ≤ b.length) (hu : u = (crcOf ((b.drop a.toNat).take l.toNat) : Int)) : Ev (fun k => seg_Value.f k b s a l u) ((b.drop a.toNat).take l.toNat, 0) := by
  have hp := mayP_iff.1 hm
  have e : (b.take (a + l).toNat).drop a.toNat = (b.drop a.toNat).take l.toNat := by
    rw [List.drop_take]
    congr 1
    omega
  have hlen : ((b.drop a.toNat).take l.toNat).length = l.toNat := by rw [List.length_take, List.length_drop]; omega
  simp only [seg_Value.f]
  rw [ev_bind_c (point_Check_ev _ _ _ _), ev_ite, if_pos hm, if_pos rfl, ev_ite, if_neg (by omega), ev_ite, w64 (x := (b.length : Int) - a) (by omega) (by omega), if_neg (by omega), w64 (x := a + l) (by omega) (by omega), ev_ite, if_pos (by omega), ev_ite, if_pos (by omega), ev_ite, if_pos (by omega), e]
  rw [ev_bind (cell_Fits_ev (by rw [hlen]; unfold maxLen; omega) ((hb.drop _).take _)), ev_ite, if_pos (by rw [decide_eq_true_eq]; exact ⟨by omega, hu⟩), ev_bind_c (bytes_Clone_ev (by omega)), ev_some]

theorem seg_Next_ev {s a : Int} {v : List Int} (hv : v.length ≤ 4096) (hb : Bytes v) (hs : 1 ≤ s ∧ s ≤ 2147483647) (ha : 0 ≤ a ∧ a ≤ 4194304) : Ev (fun k => seg_Next.f k s a v) (s, a + ((putF 2 v).length : Int) - 4 - (v.length : Int), (v.length : Int), (crcOf v : Int), 0) := by
  have hh := frame_Head_ev (v.length : Int) (by omega)
  rw [if_neg (by omega), Int.toNat_natCast] at hh
  have hl := putF_len 2 v
  have h10 := one_len10 (u := v.length) (by omega)
  have ea : a + (((one v.length).length : Int) + 1) = a + ((putF 2 v).length : Int) - 4 - (v.length : Int) := by omega
  simp only [seg_Next.f, ev_ite]
  rw [if_neg (by omega), if_neg (by omega), decide_eq_false (by omega), ev_succ]
  simp only [seg_Next.j0, ev_ite]
  rw [if_neg (by simp), ev_bind hh, w64 (by omega) (by omega), ea, ev_bind (cell_Far_ev (mayP_iff.2 (by omega)) hb (by unfold maxLen; omega)), ev_some]

theorem garnerref02_One_ev : ∀ u : Nat, u < 18446744073709551616 → Ev (fun k => garnerref02_One.f k (u : Int)) (one u) := by
  intro u
  induction u using Nat.strongRecOn with
  | _ u ih =>
    intro hu
    rw [ev_succ]
    simp only [garnerref02_One.f, ev_ite, Option.bind_some]
    by_cases h : u < 128
    · rw [if_pos (by omega), ev_some, one_lt h]
      congr 1
      omega
    · have e : IntKind.u64.wrap (Int.tdiv (u : Int) 128) = ((u / 128 : Nat) : Int) := by
        rw [Int.tdiv_eq_ediv_of_nonneg (by omega), wu64 (by omega) (by omega)]
        rfl
      have e2 : ((Int.tmod (u : Int) 128) % 256 + 128) % 256 = ((u % 128 + 128 : Nat) : Int) := by
        rw [Int.tmod_eq_emod_of_nonneg (by omega)]
        omega
      rw [if_neg (by omega), e, e2, ev_bind (ih (u / 128) (by omega) (by omega)), ev_ite]
      have hl := one_len10 (u := u / 128) (by omega)
      rw [if_pos (by simp only [List.length_singleton]; omega), ev_some, one_ge (u := u) (by omega)]
      rfl

theorem garnerref01_bit_ev (b n : Nat) (hb : b < 4294967296) (hn : n ≤ 8) : Ev (fun k => garnerref01_bit.f k (b : Int) (n : Int)) ((b >>> n % 2 : Nat) : Int) := by
  have main : ∀ (d i x : Nat), d + i = n → x < 4294967296 → Ev (fun k => garnerref01_bit.l0 k (x : Int) (n : Int) (i : Int)) ((x >>> d % 2 : Nat) : Int) := by
    intro d
    induction d with
    | zero =>
      intro i x hd hx
      rw [ev_succ]
      simp only [garnerref01_bit.l0, ev_ite]
      rw [if_neg (by omega), ev_some, Int.tmod_eq_emod_of_nonneg (by omega), w64 (by omega) (by omega), Nat.shiftRight_zero]
      omega
    | succ d ih =>
      intro i x hd hx
      rw [ev_succ]
      simp only [garnerref01_bit.l0, ev_ite]
      have e : Int.tdiv (x : Int) 2 % 4294967296 = ((x / 2 : Nat) : Int) := by
        rw [Int.tdiv_eq_ediv_of_nonneg (by omega)]
        omega
      rw [if_pos (by omega), e, w64 (by omega) (by omega)]
      refine ev_eq (ih (i + 1) (x / 2) (by omega) (by omega)) ?_
      have : x >>> (d + 1) = (x / 2) >>> d := by
        rw [Nat.add_comm, Nat.shiftRight_add]
        rfl
      rw [this]
  exact main n 0 b (by omega) hb

theorem garnerref01_step_ev (r b : Nat) (hr : r < 4294967296) (hb : b ≤ 1) : Ev (fun k => garnerref01_step.f k (r : Int) (b : Int)) (crcBit r b : Int) := by
  simp only [garnerref01_step.f]
  have h := garnerref01_bit_ev r 0 hr (by omega)
  rw [Nat.shiftRight_zero] at h
  have h' : Ev (fun k => garnerref01_bit.f k (r : Int) 0) ((r % 2 : Nat) : Int) := h
  have e : Int.tdiv (r : Int) 2 % 4294967296 = ((r / 2 : Nat) : Int) := by
    rw [Int.tdiv_eq_ediv_of_nonneg (by omega)]
    omega
  have e2 : Go.bits .xor .u32 ((r / 2 : Nat) : Int) 2197175160 = ((r / 2 ^^^ poly : Nat) : Int) := xor32 (a := r / 2) (b := 2197175160) (by omega) (by omega)
  rw [ev_bind h', ev_ite, e, e2, ev_some, ev_some]
  unfold crcBit
  by_cases hrb : r % 2 = b
  · rw [if_pos (by omega), if_pos hrb]
  · rw [if_neg (by omega), if_neg hrb]

theorem garnerref01_run_l1_ev (l : List Int) (hl : l.length ≤ maxLen) (j : Nat) (hj : j < l.length) (c : Nat) (hc : rd l (j : Int) = (c : Int)) (hc2 : c < 256) (q : Int) : ∀ (d i r : Nat), d + i = 8 → r < 4294967296 → Ev (fun k => garnerref01_run.l0 k (crcBits r c i d : Nat) l ((j : Int) + 1)) q →
    Ev (fun k => garnerref01_run.l1 k (r : Int) l (j : Int) (i : Int)) q := by
  have hlm := maxLen_le hl
  intro d
  induction d with
  | zero =>
    intro i r hd hr hq
    rw [ev_succ]
    simp only [garnerref01_run.l1, ev_ite]
    rw [if_neg (by omega), w64 (by omega) (by omega)]
    exact hq
  | succ d ih =>
    intro i r hd hr hq
    have hm := Nat.mod_lt (c >>> i) (show 0 < 2 by omega)
    rw [ev_succ]
    simp only [garnerref01_run.l1, ev_ite]
    have e : rd l (j : Int) % 4294967296 = (c : Int) := by rw [hc]; omega
    rw [if_pos (by omega), if_pos (by omega), if_pos (by omega), e, ev_bind (garnerref01_bit_ev c i (by omega) (by omega)), ev_bind (garnerref01_step_ev r _ hr (by omega)), w64 (by omega) (by omega)]
    exact ih (i + 1) _ (by omega) (crcBit_lt hr) hq
theorem garnerref01_run_ev {l : List Int} (hl : l.length ≤ maxLen) (hb : Bytes l) {r : Nat} (hr : r < 4294967296) : Ev (fun k => garnerref01_run.f k (r : Int) l) (crcRun r l : Int) := by
  have main : ∀ (d j r : Nat), l.length - j = d → j ≤ l.length → r < 4294967296 → Ev (fun k => garnerref01_run.l0 k (r : Int) l (j : Int)) (crcRun r (l.drop j) : Int) := by
    intro d
    induction d with
    | zero =>
      intro j r hd hj hr
      rw [ev_succ]
      simp only [garnerref01_run.l0, ev_ite]
      rw [if_neg (by omega), ev_some, List.drop_eq_nil_of_le (by omega)]
      rfl
    | succ d ih =>
      intro j r hd hj hr
      have hc := hb.rd (i := (j : Int)) (by omega) (by omega)
      obtain ⟨c, hce⟩ := Int.eq_ofNat_of_zero_le hc.1
      rw [ev_succ]
      simp only [garnerref01_run.l0, ev_ite]
      rw [if_pos (by omega)]
      refine garnerref01_run_l1_ev l hl j (by omega) c hce (by omega) _ 8 0 r (by omega) hr ?_
      refine ev_eq (ih (j + 1) _ (by omega) (by omega) (crcByte_lt (c := c) hr)) ?_
      rw [drop_eq (xs := l) (i := j) (by omega), hce]
      rfl
  exact main (l.length - 0) 0 r rfl (by omega) hr

theorem garnerref01_Of_ev {l : List Int} (hl : l.length ≤ maxLen) (hb : Bytes l) : Ev (fun k => garnerref01_Of.f k l) (crcOf l : Int) := by
  simp only [garnerref01_Of.f]
  have h : Ev (fun k => garnerref01_run.f k 4294967295 l) (crcRun 4294967295 l : Int) := garnerref01_run_ev (r := 4294967295) hl hb (by omega)
  have e : Go.bits .xor .u32 4294967295 (crcRun 4294967295 l : Int) = ((4294967295 ^^^ crcRun 4294967295 l : Nat) : Int) := xor32 (a := 4294967295) (by decide) (crcRun_lt (by omega))
  rw [ev_bind h, ev_some, e]
  rfl

theorem garnerref03_Put_ev {kind : Int} {body : List Int} (hm : mayF kind body = true) (hb : Bytes body) : Ev (fun k => garnerref03_Put.f k kind body) (putF kind body) := by
  have hm' := mayF_iff.1 hm
  have h10 := one_len10 (u := body.length) (by omega)
  have ek : kind % 256 = kind := by omega
  have h1 := garnerref02_One_ev body.length (by omega)
  have hbk : Bytes (kind :: body) := by
    intro x hx
    rcases List.mem_cons.1 hx with rfl | hx
    · omega
    · exact hb x hx
  simp only [garnerref03_Put.f]
  rw [wu64 (by omega) (by omega), ev_bind h1]
  simp only [Option.bind_some, ev_ite, ek]
  rw [if_pos (by simp only [List.length_singleton]; omega), if_pos (by simp only [List.length_append, List.length_singleton]; omega), if_pos (by simp only [List.length_singleton]; omega)]
  have e : [kind] ++ body = kind :: body := rfl
  rw [e, ev_bind (garnerref01_Of_ev (by simp only [List.length_cons]; unfold maxLen; omega) hbk)]
  have hlt := crcOf_lt (kind :: body)
  have step : ∀ (i : Nat) (s : Int) (b : List Int) r, 0 ≤ s → s < 4294967296 → i < 4 → b.length ≤ 10000000000 → Ev (fun k => garnerref03_Put.l0 k (b ++ [s % 256]) (s / 256) ((i + 1 : Nat) : Int)) r → Ev (fun k => garnerref03_Put.l0 k b s (i : Int)) r := by
    intro i s b r h0 h1 hi hb hr
    rw [ev_succ]
    simp only [garnerref03_Put.l0, ev_ite, Option.bind_some]
    rw [if_pos (by omega), if_pos (by simp only [List.length_singleton]; omega), Int.tdiv_eq_ediv_of_nonneg h0, Int.tmod_eq_emod_of_nonneg h0, w64 (by omega) (by omega)]
    have e1 : s / 256 % 4294967296 = s / 256 := by omega
    have e2 : s % 256 % 256 = s % 256 := by omega
    rw [e1, e2]
    exact hr
  have h0 : (0 : Int) = ((0 : Nat) : Int) := rfl
  rw [h0]
  have hbase : (one body.length ++ [kind] ++ body).length ≤ 10000000000 := by
    simp only [List.length_append, List.length_singleton]
    omega
  refine step 0 _ _ _ (by omega) (by omega) (by omega) (by omega) ?_
  refine step 1 _ _ _ (by omega) (by omega) (by omega) (by simp only [List.length_append, List.length_singleton]; omega) ?_
  refine step 2 _ _ _ (by omega) (by omega) (by omega) (by simp only [List.length_append, List.length_singleton]; omega) ?_
  refine step 3 _ _ _ (by omega) (by omega) (by omega) (by simp only [List.length_append, List.length_singleton]; omega) ?_
  rw [ev_succ]
  simp only [garnerref03_Put.l0, ev_ite]
  rw [if_neg (by omega), ev_some]
  unfold putF sum4 sumF
  have d1 : (crcOf (kind :: body) : Int) / 256 / 256 = (crcOf (kind :: body) : Int) / 65536 := by omega
  have d2 : (crcOf (kind :: body) : Int) / 65536 / 256 = (crcOf (kind :: body) : Int) / 16777216 := by omega
  rw [d1, d2]
  simp

theorem walkR_end {s : Int} : ∀ (d : Nat) (p : Int) (b : List Int), Bytes b → p ≤ (walkR s d p b).2 := by
  intro d
  induction d with
  | zero => intro p b _; exact Int.le_refl _
  | succ d ih =>
    intro p b hb
    rw [walkR]
    by_cases hc : (firstR b).2.2.2 = 0 ∧ (firstR b).1 = 2 ∧ (firstR b).2.1.length ≤ 4096
    · rw [if_pos hc]
      rcases firstR_cases hb with ⟨kd, body, m, e1, e2, e3⟩ | e | e
      · have := ih (p + (firstR b).2.2.1) (b.drop (firstR b).2.2.1.toNat) (hb.drop _)
        rw [e3] at this ⊢
        simp only at this ⊢
        omega
      · rw [e] at hc; simp at hc
      · rw [e] at hc; simp at hc
    · rw [if_neg hc]
      exact Int.le_refl _
theorem pointsR_get (s : Int) (z : Int × Int × Int × Int) : ∀ (l : List (List Int)) (p : Int) (j : Nat), j < l.length → (pointsR s p l).getD j z = (s, p + ((putV (l.take j)).length : Int) + ((putF 2 (l.getD j [])).length : Int) - 4 - ((l.getD j []).length : Int), ((l.getD j []).length : Int), (crcOf (l.getD j []) : Int)) := by
  intro l
  induction l with
  | nil => intro p j h; simp at h
  | cons v l ih =>
    intro p j h
    rw [List.length_cons] at h
    cases j with
    | zero =>
      rw [pointsR, List.take_zero, putV_nil]
      simp
    | succ j =>
      rw [pointsR, List.take_succ_cons, putV_cons, List.length_append, List.getD_cons_succ, List.getD_cons_succ, ih _ _ (by omega)]
      congr 2
      omega
theorem SegReads : StSegReads.Pure := by
  intro l a more h0 _ g0 ha hm0 hm1 gm
  have ha := wf_u16 ha
  have hg : goodV l := fun v hv => ⟨by have := (g0 v hv).2.1; omega, Bytes.of_wf (g0 v hv).2.2⟩
  have hbm : Bytes more := Bytes.of_wf gm
  have h0 : l.length ≤ 140737488351232 := by omega
  refine Ev.rounds (g := fun k => garnerlaw19_SegReads.f k l a more) ?_
  have hj : Ev (fun k => garnerlaw19_SegReads.j0 k l a more true) true := by
    rw [ev_succ]
    simp only [garnerlaw19_SegReads.j0, ev_ite]
    rw [if_pos (by trivial), ev_bind garnerlaw19_awake_ev, ev_some]
  simp only [garnerlaw19_SegReads.f]
  rw [ev_bind (garnerlaw19_Light_ev l h0 hg), ev_ite]
  by_cases hL : l.length ≤ 40 ∧ totV l ≤ 20000
  · rw [if_pos (by simpa using hL), ev_bind (garnerlaw19_long_ev l h0)]
    by_cases hs : shortV l = true
    · rw [hs, ev_ite, if_neg (by simp)]
      by_cases hmm : more.length > 1000
      · rw [decide_eq_true (by omega)]
        exact hj
      · have hpl := putV_len hs
        have hb := putV_bytes hs fun v hv => (hg v hv).2
        have hba := hb.append hbm
        have hput := seg_Put_ev (l := l) (by omega) hs (fun v hv => (hg v hv).2) (by omega)
        have hla : (putV l ++ more).length = (putV l).length + more.length := List.length_append
        have w := seg_Walk_ev (s := 1 + a) (by omega) hba (by omega) (d := (putV l ++ more).length + 1 + l.length) (by omega)
        rw [walkR_puts (1 + a) l _ 0 more hs] at w
        have he := walkR_end (s := 1 + a) ((putV l ++ more).length + 1) (0 + ((putV l).length : Int)) more hbm
        generalize hR : walkR (1 + a) ((putV l ++ more).length + 1) (0 + ((putV l).length : Int)) more = R at w he
        rw [decide_eq_false (by omega), ev_succ]
        simp only [garnerlaw19_SegReads.j0, ev_ite]
        rw [if_neg (by simp), ev_bind hput]
        simp only [Option.bind_some, List.nil_append, ev_ite, List.length_nil]
        rw [if_pos (by omega), if_pos (by omega), w64 (x := a) (by omega) (by omega), w64 (x := 1 + a) (by omega) (by omega), ev_bind w]
        simp only [ev_ite, List.length_map, List.length_append, pointsR_len]
        rw [if_pos (by trivial), if_neg (by omega), decide_eq_false (by omega), ev_succ]
        simp only [garnerlaw19_SegReads.j1, ev_ite]
        rw [if_neg (by simp)]
        have main : ∀ (d i : Nat), l.length - i = d → i ≤ l.length → Ev (fun k => garnerlaw19_SegReads.l0 k l (1 + a) (putV l) (putV l ++ more) ((pointsR (1 + a) 0 l ++ R.1).map mkP) ((putV (l.take i)).length : Int) (i : Int)) true := by
          intro d
          induction d with
          | zero =>
            intro i hd hi
            rw [ev_succ]
            simp only [garnerlaw19_SegReads.l0, ev_ite]
            rw [if_neg (by omega), List.take_of_length_le (by omega), if_pos (by trivial), ev_bind garnerlaw19_awake_ev, ev_some]
          | succ d ih =>
            intro i hd hi
            have hil : i < l.length := by omega
            have hv := shortV_mem hs (rdL_mem hil)
            have hbv := (hg _ (rdL_mem hil)).2
            have er : rd_T24 ((pointsR (1 + a) 0 l ++ R.1).map mkP) (i : Int) = mkP ((pointsR (1 + a) 0 l).getD i (0, 0, 0, 0)) := by
              rw [rdP_mk (by rw [List.length_append, pointsR_len]; omega), List.getD_eq_getElem?_getD, List.getD_eq_getElem?_getD, List.getElem?_append_left (by rw [pointsR_len]; exact hil)]
            have eg : l.getD i [] = rd_L1 l (i : Int) := rfl
            have eq := pointsR_get (1 + a) (0, 0, 0, 0) l 0 i hil
            rw [eg] at eq
            have ed := dropL_eq hil
            have et : putV l = putV (l.take i) ++ (putF 2 (rd_L1 l (i : Int)) ++ putV (l.drop (i + 1))) := by
              have : putV l = putV (l.take i ++ l.drop i) := by rw [List.take_append_drop]
              rw [this, ed]
              unfold putV vals
              rw [List.map_append, putsF_append]
              rfl
            have et1 : putV (l.take (i + 1)) = putV (l.take i) ++ putF 2 (rd_L1 l (i : Int)) := by
              have : l.take (i + 1) = l.take i ++ [rd_L1 l (i : Int)] := by
                rw [List.take_succ_eq_append_getElem hil, rdL_get hil]
              rw [this]
              unfold putV vals
              rw [List.map_append, putsF_append]
              simp [putsF]
            have hlen := congrArg List.length et
            rw [List.length_append, List.length_append] at hlen
            have hlen1 := congrArg List.length et1
            rw [List.length_append] at hlen1
            generalize hvv : rd_L1 l (i : Int) = v at *
            have hpf := putF_len 2 v
            have h10 := one_len10 (u := v.length) (by omega)
            have hmp : mayP (1 + a) (0 + ((putV (l.take i)).length : Int) + ((putF 2 v).length : Int) - 4 - (v.length : Int)) (v.length : Int) = true := mayP_iff.2 (by omega)
            have hcut : ((putV l ++ more).drop (0 + ((putV (l.take i)).length : Int) + ((putF 2 v).length : Int) - 4 - (v.length : Int)).toNat).take ((v.length : Int)).toNat = v := by
              have e1 : putV l ++ more = (putV (l.take i) ++ (one v.length ++ [2])) ++ (v ++ (sum4 (sumF 2 v) ++ (putV (l.drop (i + 1)) ++ more))) := by
                rw [et]
                unfold putF
                simp
              have e2 : (0 + ((putV (l.take i)).length : Int) + ((putF 2 v).length : Int) - 4 - (v.length : Int)).toNat = (putV (l.take i) ++ (one v.length ++ [2])).length := by
                rw [List.length_append, List.length_append, List.length_singleton]
                omega
              rw [e1, e2, List.drop_left, Int.toNat_natCast, List.take_left]
            have hV := seg_Value_ev hba (by omega) hmp (by omega) (u := (crcOf v : Int)) (by rw [hcut])
            rw [hcut] at hV
            have hN := seg_Next_ev (s := 1 + a) (a := ((putV (l.take i)).length : Int)) hv hbv (by omega) (by omega)
            have hP := garnerref03_Put_ev (may2 hv) hbv
            rw [ev_succ]
            simp only [garnerlaw19_SegReads.l0, ev_ite, List.length_map, List.length_append, pointsR_len, er, eq, hvv, mkP]
            rw [if_pos (by omega), if_pos (by omega), if_pos (by omega), ev_bind hV, ev_bind hN]
            simp only [ev_ite]
            rw [if_pos (by trivial), if_pos (by trivial), if_neg (by simp), ev_bind (garnerref02_Bytes_ev (by unfold maxLen; omega)), ev_ite, if_pos (by simp), ev_bind hP, w64 (by omega) (by omega), w64 (by omega) (by omega)]
            have := ih (i + 1) (by omega) (by omega)
            rw [et1, List.length_append, Int.natCast_add] at this
            exact this
        have := main (l.length - 0) 0 rfl (by omega)
        rw [List.take_zero, putV_nil] at this
        exact this
    · rw [Bool.not_eq_true] at hs
      rw [hs, ev_ite, if_pos (by simp)]
      exact hj
  · rw [if_neg (by simpa using hL)]
    exact hj

end Go.Proofs.Ytpabjefogbkhpaa.Pure
