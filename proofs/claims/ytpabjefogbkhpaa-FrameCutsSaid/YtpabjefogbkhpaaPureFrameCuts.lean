/- The pure statement of the law FrameCuts: what the printed functions answer, each by its plain law, and that the law's answer is true. -/
import Derived.Test.YtpabjefogbkhpaaPFrameCutsx0
import Derived.Test.YtpabjefogbkhpaaPFrameCutsx1
import Derived.Test.YtpabjefogbkhpaaPFrameCutsx2
import Derived.Test.YtpabjefogbkhpaaPFrameCutsx3
import Derived.Test.YtpabjefogbkhpaaPFrameCutsx4
import Derived.Test.YtpabjefogbkhpaaPFrameCutsx5
import Derived.Test.YtpabjefogbkhpaaPFrameCutsx6
import Derived.Test.YtpabjefogbkhpaaPFrameCutsx7
import Derived.Test.YtpabjefogbkhpaaStFrameCuts
import Derived.Test.YtpabjefogbkhpaaSz
import Derived.Test.YtpabjefogbkhpaaV02
import Derived.Test.YtpabjefogbkhpaaV03
import Derived.Test.YtpabjefogbkhpaaF03
import Derived.Test.YtpabjefogbkhpaaV04
import Derived.Test.YtpabjefogbkhpaaF19
namespace Go.Proofs.Ytpabjefogbkhpaa.Pure
open Go.RowKit Go.Proofs.Ytpabjefogbkhpaa.PFrameCuts Go.Proofs.Ytpabjefogbkhpaa.U Go.Proofs.YtpabjefogbkhpaaW.PrintWords Go.Proofs.YtpabjefogbkhpaaW.PrintLast Go.Proofs.YtpabjefogbkhpaaW.PrintMore
set_option linter.unusedVariables false
set_option linter.unusedSimpArgs false
set_option maxRecDepth 4000

/-- A frame, told as a pair. -/
def prF (f : S53) : Int × List Int := (f.f0, f.f1)
def prsF (l : List S53) : List (Int × List Int) := l.map prF
theorem prsF_len (l : List S53) : (prsF l).length = l.length := by simp [prsF]
theorem prsF_drop (l : List S53) (j : Nat) : prsF (l.drop j) = (prsF l).drop j := by simp [prsF]
theorem prsF_append (a b : List S53) : prsF (a ++ b) = prsF a ++ prsF b := by simp [prsF]
theorem rdF_get {l : List S53} {i : Nat} (h : i < l.length) : rd_T53 l (i : Int) = l[i] := by
  simp [rd_T53, h]
theorem dropF_eq {l : List S53} {i : Nat} (h : i < l.length) : l.drop i = rd_T53 l (i : Int) :: l.drop (i + 1) := by
  rw [rdF_get h]
  exact List.drop_eq_getElem_cons h
theorem rdF_mem {l : List S53} {i : Nat} (h : i < l.length) : rd_T53 l (i : Int) ∈ l := by
  rw [rdF_get h]
  exact List.getElem_mem _
/-- What is told of a frame that came in. -/
def goodF (f : S53) : Prop := (-9223372036854775808 ≤ f.f0 ∧ f.f0 ≤ 9223372036854775807) ∧ f.f1.length ≤ 140737488351232 ∧ Bytes f.f1
/-- A pair, told as a frame. -/
def mkF (p : Int × List Int) : S53 := ⟨p.1, p.2⟩
theorem prsF_mk (l : List (Int × List Int)) : prsF (l.map mkF) = l := by
  unfold prsF
  rw [List.map_map]
  simp [Function.comp_def, mkF, prF]
theorem mk_prsF (l : List S53) : (prsF l).map mkF = l := by
  unfold prsF
  rw [List.map_map]
  simp [Function.comp_def, mkF, prF]

theorem garnerref02_same_l0_ev (x y : List Int) (hxy : x.length = y.length) (hl : x.length ≤ maxLen) : ∀ (d i : Nat), x.length - i = d → i ≤ x.length → Ev (fun k => garnerref02_same.l0 k x y (i : Int)) (decide (x.drop i = y.drop i)) := by
  have hlm := maxLen_le hl
  intro d
  induction d with
  | zero =>
    intro i hd hi
    rw [ev_succ]
    simp only [garnerref02_same.l0, ev_ite]
    rw [if_neg (by omega), ev_some, List.drop_eq_nil_of_le (by omega), List.drop_eq_nil_of_le (by omega)]
    simp
  | succ d ih =>
    intro i hd hi
    rw [ev_succ]
    simp only [garnerref02_same.l0, ev_ite]
    rw [if_pos (by omega), if_pos (by omega), if_pos (by omega), w64 (by omega) (by omega), drop_eq (xs := x) (by omega), drop_eq (xs := y) (by omega)]
    by_cases h : rd x (i : Int) = rd y (i : Int)
    · rw [if_pos h, h]
      refine ev_eq (ih (i + 1) (by omega) (by omega)) ?_
      simp
    · rw [if_neg h, ev_some]
      simp [h]
theorem garnerref02_same_ev {x y : List Int} (hl : x.length ≤ maxLen) : Ev (fun k => garnerref02_same.f k x y) (decide (x = y)) := by
  simp only [garnerref02_same.f, ev_ite]
  by_cases h : x.length = y.length
  · rw [if_pos (by omega)]
    exact garnerref02_same_l0_ev x y h hl (x.length - 0) 0 rfl (by omega)
  · rw [if_neg (by omega), ev_some]
    symm
    simp only [decide_eq_false_iff_not]
    rintro rfl
    exact h rfl

theorem garnerref02_Bytes_ev {x y : List Int} (hl : x.length ≤ maxLen) : Ev (fun k => garnerref02_Bytes.f k x y) (decide (x = y)) := by
  simp only [garnerref02_Bytes.f]
  rw [ev_bind (garnerref02_same_ev hl), ev_some]

theorem len_tab : ∀ x : Fin 256, ∃ n : Fin 9, bt (⟨#[0, 1, 2, 2, 3, 3, 3, 3, 4, 4, 4, 4, 4, 4, 4, 4, 5, 5, 5, 5, 5, 5, 5, 5, 5, 5, 5, 5, 5, 5, 5, 5, 6, 6, 6, 6, 6, 6, 6, 6, 6, 6, 6, 6, 6, 6, 6, 6, 6, 6, 6, 6, 6, 6, 6, 6, 6, 6, 6, 6, 6, 6, 6, 6, 7, 7, 7, 7, 7, 7, 7, 7, 7, 7, 7, 7, 7, 7, 7, 7, 7, 7, 7, 7, 7, 7, 7, 7, 7, 7, 7, 7, 7, 7, 7, 7, 7, 7, 7, 7, 7, 7, 7, 7, 7, 7, 7, 7, 7, 7, 7, 7, 7, 7, 7, 7, 7, 7, 7, 7, 7, 7, 7, 7, 7, 7, 7, 7, 8, 8, 8, 8, 8, 8, 8, 8, 8, 8, 8, 8, 8, 8, 8, 8, 8, 8, 8, 8, 8, 8, 8, 8, 8, 8, 8, 8, 8, 8, 8, 8, 8, 8, 8, 8, 8, 8, 8, 8, 8, 8, 8, 8, 8, 8, 8, 8, 8, 8, 8, 8, 8, 8, 8, 8, 8, 8, 8, 8, 8, 8, 8, 8, 8, 8, 8, 8, 8, 8, 8, 8, 8, 8, 8, 8, 8, 8, 8, 8, 8, 8, 8, 8, 8, 8, 8, 8, 8, 8, 8, 8, 8, 8, 8, 8, 8, 8, 8, 8, 8, 8, 8, 8, 8, 8, 8, 8, 8, 8, 8, 8, 8, 8, 8, 8, 8, 8, 8, 8, 8, 8, 8, 8, 8, 8, 8, 8]⟩ : ByteArray) (x.val : Int) = (n.val : Int) ∧ x.val < 2 ^ n.val ∧ (n.val = 0 ∨ 2 ^ (n.val - 1) ≤ x.val) := by decide +kernel
theorem len_tab' {x : Nat} (h : x < 256) : ∃ n : Nat, n ≤ 8 ∧ bt (⟨#[0, 1, 2, 2, 3, 3, 3, 3, 4, 4, 4, 4, 4, 4, 4, 4, 5, 5, 5, 5, 5, 5, 5, 5, 5, 5, 5, 5, 5, 5, 5, 5, 6, 6, 6, 6, 6, 6, 6, 6, 6, 6, 6, 6, 6, 6, 6, 6, 6, 6, 6, 6, 6, 6, 6, 6, 6, 6, 6, 6, 6, 6, 6, 6, 7, 7, 7, 7, 7, 7, 7, 7, 7, 7, 7, 7, 7, 7, 7, 7, 7, 7, 7, 7, 7, 7, 7, 7, 7, 7, 7, 7, 7, 7, 7, 7, 7, 7, 7, 7, 7, 7, 7, 7, 7, 7, 7, 7, 7, 7, 7, 7, 7, 7, 7, 7, 7, 7, 7, 7, 7, 7, 7, 7, 7, 7, 7, 7, 8, 8, 8, 8, 8, 8, 8, 8, 8, 8, 8, 8, 8, 8, 8, 8, 8, 8, 8, 8, 8, 8, 8, 8, 8, 8, 8, 8, 8, 8, 8, 8, 8, 8, 8, 8, 8, 8, 8, 8, 8, 8, 8, 8, 8, 8, 8, 8, 8, 8, 8, 8, 8, 8, 8, 8, 8, 8, 8, 8, 8, 8, 8, 8, 8, 8, 8, 8, 8, 8, 8, 8, 8, 8, 8, 8, 8, 8, 8, 8, 8, 8, 8, 8, 8, 8, 8, 8, 8, 8, 8, 8, 8, 8, 8, 8, 8, 8, 8, 8, 8, 8, 8, 8, 8, 8, 8, 8, 8, 8, 8, 8, 8, 8, 8, 8, 8, 8, 8, 8, 8, 8, 8, 8, 8, 8, 8, 8]⟩ : ByteArray) (x : Int) = (n : Int) ∧ IsLen n x := by
  obtain ⟨n, h1, h2, h3⟩ := len_tab ⟨x, h⟩
  exact ⟨n.val, by omega, h1, h2, h3⟩
theorem bits_Len64_ev (u : Nat) (hu : u < 18446744073709551616) : ∃ n : Nat, n ≤ 64 ∧ IsLen n u ∧ Ev (fun k => bits_Len64.f k (u : Int)) (n : Int) := by
  have hj : ∀ (v m : Nat), v < 4294967296 → m ≤ 32 → ∃ n : Nat, n ≤ 32 ∧ IsLen n v ∧ Ev (fun k => bits_Len64.j0 k (v : Int) (m : Int)) ((m + n : Nat) : Int) := by
    intro v m hv hm
    by_cases h1 : 65536 ≤ v
    · have e1 : (v : Int) / 65536 = ((v / 65536 : Nat) : Int) := rfl
      by_cases h2 : 256 ≤ v / 65536
      · have e2 : ((v / 65536 : Nat) : Int) / 256 = ((v / 65536 / 256 : Nat) : Int) := rfl
        obtain ⟨n, hn, ht, hl⟩ := len_tab' (x := v / 65536 / 256) (by omega)
        have hl2 : IsLen (n + 8 + 16) v := isLen_div (k := 16) (by omega) (isLen_div (k := 8) (by omega) hl)
        refine ⟨n + 8 + 16, by omega, hl2, ?_⟩
        rw [ev_succ]
        simp only [bits_Len64.j0, ev_ite, e1, e2]
        have e3 : ((v / 65536 / 256 : Nat) : Int) % 256 = ((v / 65536 / 256 : Nat) : Int) := by omega
        rw [if_pos (by omega), if_pos (by omega), e3, if_pos (by omega), if_pos (by omega), ht, w64 (x := (n : Int)) (by omega) (by omega), w64 (x := (m : Int) + 16) (by omega) (by omega), w64 (x := (m : Int) + 16 + 8) (by omega) (by omega), w64 (by omega) (by omega), ev_some]
        omega
      · obtain ⟨n, hn, ht, hl⟩ := len_tab' (x := v / 65536) (by omega)
        have hl2 : IsLen (n + 16) v := isLen_div (k := 16) (by omega) hl
        refine ⟨n + 16, by omega, hl2, ?_⟩
        rw [ev_succ]
        simp only [bits_Len64.j0, ev_ite, e1]
        have e3 : ((v / 65536 : Nat) : Int) % 256 = ((v / 65536 : Nat) : Int) := by omega
        rw [if_pos (by omega), if_neg (by omega), e3, if_pos (by omega), if_pos (by omega), ht, w64 (x := (n : Int)) (by omega) (by omega), w64 (x := (m : Int) + 16) (by omega) (by omega), w64 (by omega) (by omega), ev_some]
        omega
    · by_cases h2 : 256 ≤ v
      · have e2 : (v : Int) / 256 = ((v / 256 : Nat) : Int) := rfl
        obtain ⟨n, hn, ht, hl⟩ := len_tab' (x := v / 256) (by omega)
        have hl2 : IsLen (n + 8) v := isLen_div (k := 8) (by omega) hl
        refine ⟨n + 8, by omega, hl2, ?_⟩
        rw [ev_succ]
        simp only [bits_Len64.j0, ev_ite, e2]
        have e3 : ((v / 256 : Nat) : Int) % 256 = ((v / 256 : Nat) : Int) := by omega
        rw [if_neg (by omega), if_pos (by omega), e3, if_pos (by omega), if_pos (by omega), ht, w64 (x := (n : Int)) (by omega) (by omega), w64 (x := (m : Int) + 8) (by omega) (by omega), w64 (by omega) (by omega), ev_some]
        omega
      · obtain ⟨n, hn, ht, hl⟩ := len_tab' (x := v) (by omega)
        refine ⟨n, by omega, hl, ?_⟩
        rw [ev_succ]
        simp only [bits_Len64.j0, ev_ite]
        have e3 : (v : Int) % 256 = (v : Int) := by omega
        rw [if_neg (by omega), if_neg (by omega), e3, if_pos (by omega), if_pos (by omega), ht, w64 (x := (n : Int)) (by omega) (by omega), w64 (by omega) (by omega), ev_some]
        omega
  simp only [bits_Len64.f, ev_ite]
  by_cases h : 4294967296 ≤ u
  · obtain ⟨n, h1, h2, h3⟩ := hj (u / 4294967296) 32 (by omega) (by omega)
    refine ⟨n + 32, by omega, isLen_div (k := 32) (by omega) h2, ?_⟩
    rw [if_pos (by omega)]
    refine ev_eq h3 ?_
    omega
  · obtain ⟨n, h1, h2, h3⟩ := hj u 0 (by omega) (by omega)
    refine ⟨n, by omega, h2, ?_⟩
    rw [if_neg (by omega)]
    refine ev_eq h3 ?_
    omega

theorem varint_Size_ev (u : Nat) (hu : u < 18446744073709551616) : Ev (fun k => varint_Size.f k (u : Int)) ((one u).length : Int) := by
  obtain ⟨n, h1, h2, h3⟩ := bits_Len64_ev u hu
  simp only [varint_Size.f]
  rw [ev_bind h3, ev_some, one_size h2, w64 (x := (n : Int) + 7) (by omega) (by omega), w64 (x := (n : Int) + 7 - 1) (by omega) (by omega), Int.tdiv_eq_ediv_of_nonneg (by omega), w64 (by omega) (by omega)]
  unfold mx
  split <;> omega

theorem frame_Head_ev (n : Int) (hn : -9223372036854775808 ≤ n ∧ n ≤ 9223372036854775807) : Ev (fun k => frame_Head.f k n) (if n < 0 ∨ 1048576 < n then 0 else ((one n.toNat).length : Int) + 1) := by
  simp only [frame_Head.f, ev_ite]
  by_cases h : n < 0 ∨ 1048576 < n
  · rw [if_pos h]
    repeat' split
    all_goals first | (rw [ev_some]) | omega
  · have h10 := one_len10 (u := n.toNat) (by omega)
    have hs := varint_Size_ev n.toNat (by omega)
    rw [Int.toNat_of_nonneg (by omega)] at hs
    rw [if_neg h, if_neg (by omega), if_neg (by omega), wu64 (by omega) (by omega), ev_bind hs, ev_some, w64 (by omega) (by omega)]

theorem frame_Size_ev (n : Int) (hn : -9223372036854775808 ≤ n ∧ n ≤ 9223372036854775807) : Ev (fun k => frame_Size.f k n) (if n < 0 ∨ 1048576 < n then 0 else ((one n.toNat).length : Int) + 1 + n + 4) := by
  simp only [frame_Size.f]
  rw [ev_bind (frame_Head_ev n hn), ev_ite]
  by_cases h : n < 0 ∨ 1048576 < n
  · rw [if_pos h, if_pos h, if_pos (by trivial), ev_some]
  · have h10 := one_len10 (u := n.toNat) (by omega)
    rw [if_neg h, if_neg h, if_neg (by omega), ev_some, w64 (x := ((one n.toNat).length : Int) + 1 + n) (by omega) (by omega), w64 (by omega) (by omega)]

theorem varint_Put_l1_ev (l : List Int) (hl : l.length ≤ 10000000000000) (j : Nat) : ∀ (u : Nat) (b : List Int), u < 18446744073709551616 → b.length + (one u).length ≤ 10 * (j + 1) → j < l.length → ∀ r : List Int,
    Ev (fun k => varint_Put.l0 k (b ++ one u) l (l.length : Int) ((j + 1 : Nat) : Int)) r → Ev (fun k => varint_Put.l1 k b (u : Int) l (l.length : Int) (j : Int)) r := by
  intro u
  induction u using Nat.strongRecOn with
  | _ u ih =>
    intro b hu hlen hj r hr
    rw [ev_succ]
    simp only [varint_Put.l1, ev_ite]
    by_cases h : u < 128
    · rw [if_neg (by omega), if_pos (by omega), w64 (by omega) (by omega)]
      rw [one_lt h] at hr
      have e : (u : Int) % 256 = u := by omega
      rw [e]
      exact hr
    · have e : Go.bits .or .u8 ((u : Int) % 256) 128 = ((u % 128 + 128 : Nat) : Int) := by
        rw [or_u8 (by omega) (by omega)]
        omega
      have e2 : (u : Int) / 128 = ((u / 128 : Nat) : Int) := by omega
      rw [if_pos (by omega), if_pos (by omega), e, e2]
      rw [one_ge (u := u) (by omega), List.length_cons] at hlen
      refine ih (u / 128) (by omega) _ (by omega) (by rw [List.length_append, List.length_singleton]; omega) hj r ?_
      rw [one_ge (u := u) (by omega)] at hr
      rw [List.append_assoc, List.singleton_append]
      exact hr
theorem varint_Put_l0_ev (l : List Int) (hl : l.length ≤ 10000000000000) (hu : ∀ u ∈ l, 0 ≤ u ∧ u < 18446744073709551616) : ∀ (d j : Nat) (b : List Int), l.length - j = d → j ≤ l.length → b.length ≤ 10 * j →
    Ev (fun k => varint_Put.l0 k b l (l.length : Int) (j : Int)) (b ++ puts (l.drop j)) := by
  intro d
  induction d with
  | zero =>
    intro j b hd hj hb
    rw [ev_succ]
    simp only [varint_Put.l0, ev_ite]
    rw [if_neg (by omega), ev_some, List.drop_eq_nil_of_le (by omega), puts_nil, List.append_nil]
  | succ d ih =>
    intro j b hd hj hb
    rw [ev_succ]
    simp only [varint_Put.l0, ev_ite]
    rw [if_pos (by omega), if_pos (by omega), if_pos (by omega)]
    have h := hu _ (rd_mem (xs := l) (i := (j : Int)) (by omega) (by omega))
    have e : rd l (j : Int) = ((rd l (j : Int)).toNat : Int) := by omega
    have h10 := one_len10 (u := (rd l (j : Int)).toNat) (by omega)
    rw [e]
    refine varint_Put_l1_ev l hl j _ b (by omega) (by omega) (by omega) _ ?_
    have := ih (j + 1) (b ++ one (rd l (j : Int)).toNat) (by omega) (by omega) (by rw [List.length_append]; omega)
    refine ev_eq this ?_
    rw [drop_eq (xs := l) (i := j) (by omega), puts_cons, List.append_assoc]
theorem varint_Put_ev {l : List Int} (hl : l.length ≤ 10000000000000) (hu : ∀ u ∈ l, 0 ≤ u ∧ u < 18446744073709551616) : Ev (fun k => varint_Put.f k l) (puts l) :=
  varint_Put_l0_ev l hl hu (l.length - 0) 0 [] rfl (by omega) (by simp)

theorem frame_may_ev (k : Int) (b : List Int) : frame_may.f k b = some (mayF k b) := by
  unfold frame_may.f mayF
  repeat' split
  all_goals (congr 1; first | (symm; rw [decide_eq_false_iff_not]; omega) | (rw [Bool.eq_iff_iff]; simp only [decide_eq_true_eq]; omega))

theorem frame_tail_ev {l : List Int} (s : Int) (hl : l.length ≤ 10000000000000) : frame_tail.f l s = some (l ++ sum4 s) := by
  unfold frame_tail.f
  simp only [Option.bind_some, List.length_cons, List.length_nil]
  rw [if_pos (by omega)]
  rfl

theorem mixStep_lt {x : Nat} (h : x < 4294967296) : mixStep x < 4294967296 := by
  unfold mixStep
  split
  · exact xor_lt32 (by omega) (by unfold poly; omega)
  · rw [Nat.xor_zero]; omega
theorem mixSteps_lt : ∀ {d x : Nat}, x < 4294967296 → mixSteps d x < 4294967296 := by
  intro d
  induction d with
  | zero => intro x h; exact h
  | succ d ih => intro x h; exact ih (mixStep_lt h)
theorem crc_step {x : Nat} (h : x < 4294967296) : Go.bits .xor .u32 ((x : Int) / 2) (Go.bits .and .u32 2197175160 ((-(Go.bits .and .u32 (x : Int) 1)) % 4294967296)) = (mixStep x : Int) := by
  have e1 : Go.bits .and .u32 (x : Int) 1 = ((x &&& 1 : Nat) : Int) := and32 (b := 1) h (by decide)
  rw [Nat.and_one_is_mod] at e1
  rw [e1]
  unfold mixStep
  have e2 : (x : Int) / 2 = ((x / 2 : Nat) : Int) := rfl
  rw [e2]
  rcases Nat.mod_two_eq_zero_or_one x with hx | hx
  · rw [hx]
    have e3 : (-((0 : Nat) : Int)) % 4294967296 = ((0 : Nat) : Int) := by omega
    have e4 : Go.bits .and .u32 2197175160 ((0 : Nat) : Int) = ((2197175160 &&& 0 : Nat) : Int) := and32 (a := 2197175160) (b := 0) (by decide) (by decide)
    rw [e3, e4, Nat.and_zero, xor32 (by omega) (by omega), if_neg (by omega)]
  · rw [hx]
    have e3 : (-((1 : Nat) : Int)) % 4294967296 = ((4294967295 : Nat) : Int) := by omega
    have e4 : Go.bits .and .u32 2197175160 ((4294967295 : Nat) : Int) = ((2197175160 &&& 4294967295 : Nat) : Int) := and32 (a := 2197175160) (b := 4294967295) (by decide) (by decide)
    have e5 : 2197175160 &&& 4294967295 = poly := by decide
    rw [e3, e4, e5, xor32 (by omega) (by unfold poly; omega), if_pos rfl]
theorem crc_More_l1_ev (l : List Int) (hl : l.length ≤ maxLen) (j : Nat) (hj : j < l.length) (r : Int) : ∀ (d x : Nat), d ≤ 8 → x < 4294967296 → Ev (fun k => crc_More.l0 k (mixSteps d x : Nat) l (l.length : Int) ((j : Int) + 1)) r →
    Ev (fun k => crc_More.l1 k (x : Int) l (l.length : Int) (j : Int) (8 - (d : Int))) r := by
  have hlm := maxLen_le hl
  intro d
  induction d with
  | zero =>
    intro x hd hx hr
    rw [ev_succ]
    simp only [crc_More.l1, ev_ite]
    rw [if_neg (by omega), w64 (by omega) (by omega)]
    exact hr
  | succ d ih =>
    intro x hd hx hr
    rw [ev_succ]
    simp only [crc_More.l1, ev_ite]
    rw [if_pos (by omega), crc_step hx, w64 (by omega) (by omega)]
    have e : 8 - ((d + 1 : Nat) : Int) + 1 = 8 - (d : Int) := by omega
    rw [e]
    exact ih _ (by omega) (mixStep_lt hx) hr
theorem crc_More_l0_ev (l : List Int) (hl : l.length ≤ maxLen) (hb : Bytes l) : ∀ (d j r : Nat), l.length - j = d → j ≤ l.length → r < 4294967296 → Ev (fun k => crc_More.l0 k (r : Int) l (l.length : Int) (j : Int)) ((4294967295 ^^^ crcRun r (l.drop j) : Nat) : Int) := by
  intro d
  induction d with
  | zero =>
    intro j r hd hj hr
    rw [ev_succ]
    simp only [crc_More.l0, ev_ite]
    have e : Go.bits .xor .u32 4294967295 (r : Int) = ((4294967295 ^^^ r : Nat) : Int) := xor32 (a := 4294967295) (by decide) hr
    rw [if_neg (by omega), ev_some, List.drop_eq_nil_of_le (by omega), e]
    rfl
  | succ d ih =>
    intro j r hd hj hr
    have hc := hb.rd (i := (j : Int)) (by omega) (by omega)
    rw [ev_succ]
    simp only [crc_More.l0, ev_ite]
    obtain ⟨c, hce⟩ := Int.eq_ofNat_of_zero_le hc.1
    have e : Go.bits .xor .u32 (r : Int) (rd l (j : Int) % 4294967296) = ((r ^^^ c : Nat) : Int) := by
      rw [hce]
      have : (c : Int) % 4294967296 = (c : Int) := by omega
      rw [this]
      exact xor32 hr (by omega)
    rw [if_pos (by omega), if_pos (by omega), if_pos (by omega), e]
    have e2 : (0 : Int) = 8 - ((8 : Nat) : Int) := by omega
    rw [e2]
    refine crc_More_l1_ev l hl j (by omega) _ 8 _ (by omega) (xor_lt32 hr (by omega)) ?_
    rw [mix_byte (by omega)]
    refine ev_eq (ih (j + 1) _ (by omega) (by omega) (crcByte_lt hr)) ?_
    rw [drop_eq (xs := l) (i := j) (by omega), hce]
    rfl
theorem crc_More_ev {s : Nat} {l : List Int} (hs : s < 4294967296) (hl : l.length ≤ maxLen) (hb : Bytes l) : Ev (fun k => crc_More.f k (s : Int) l) ((4294967295 ^^^ crcRun (4294967295 ^^^ s) l : Nat) : Int) := by
  simp only [crc_More.f]
  have e : Go.bits .xor .u32 4294967295 (s : Int) = ((4294967295 ^^^ s : Nat) : Int) := xor32 (a := 4294967295) (by decide) hs
  rw [e]
  exact crc_More_l0_ev l hl hb (l.length - 0) 0 _ rfl (by omega) (xor_lt32 (by omega) hs)

theorem crc_Of_ev {l : List Int} (hl : l.length ≤ maxLen) (hb : Bytes l) : Ev (fun k => crc_Of.f k l) (crcOf l : Int) := by
  simp only [crc_Of.f]
  have h : Ev (fun k => crc_More.f k 0 l) ((4294967295 ^^^ crcRun (4294967295 ^^^ 0) l : Nat) : Int) := crc_More_ev (s := 0) (by omega) hl hb
  rw [ev_bind h, ev_some, Nat.xor_zero]
  rfl

theorem frame_sum_ev {kind : Int} {body : List Int} (hk : 0 ≤ kind ∧ kind ≤ 255) (hl : body.length ≤ maxLen) (hb : Bytes body) : Ev (fun k => frame_sum.f k kind body) (sumF kind body : Int) := by
  simp only [frame_sum.f]
  have h1 : Ev (fun k => crc_Of.f k [kind]) (crcOf [kind] : Int) := crc_Of_ev (by simp [maxLen]) (by intro x hx; rw [List.mem_singleton.1 hx]; omega)
  rw [ev_bind h1, ev_bind (crc_More_ev (crcOf_lt _) hl hb), ev_some]
  have e : 4294967295 ^^^ crcOf [kind] = crcRun 4294967295 [kind] := by
    unfold crcOf
    rw [← Nat.xor_assoc, Nat.xor_self, Nat.zero_xor]
  rw [e, ← crcRun_append]
  rfl

theorem frame_Put_l0_ev (l : List S53) (hl : l.length ≤ 10000000000) (hg : ∀ f ∈ l, goodF f) (hs : sumLen (prsF l) ≤ 1000000000000) : ∀ (d j : Nat) (b : List Int), l.length - j = d → j ≤ l.length → b.length + (putsF (prsF (l.drop j))).length ≤ 2000000000000 →
    Ev (fun k => frame_Put.l0 k b l (l.length : Int) (j : Int)) (if allF (prsF (l.drop j)) = true then (b ++ putsF (prsF (l.drop j)), 0) else ([], 1)) := by
  intro d
  induction d with
  | zero =>
    intro j b hd hj hb
    rw [ev_succ]
    simp only [frame_Put.l0, ev_ite]
    rw [if_neg (by omega), ev_some, List.drop_eq_nil_of_le (by omega)]
    simp [prsF, allF, putsF]
  | succ d ih =>
    intro j b hd hj hb
    have hjl : j < l.length := by omega
    have hgj := hg _ (rdF_mem hjl)
    rw [dropF_eq hjl] at hb ⊢
    have hmemp : prF (rd_T53 l (j : Int)) ∈ prsF l := List.mem_map.2 ⟨_, rdF_mem hjl, rfl⟩
    have hlen := sumLen_mem hmemp
    generalize hF : rd_T53 l (j : Int) = f at *
    have e1 : prsF (f :: l.drop (j + 1)) = (f.f0, f.f1) :: prsF (l.drop (j + 1)) := rfl
    rw [e1, putsF_cons, List.length_append, putF_len] at hb
    simp only [prF] at hlen
    simp only at hb
    have h10 := one_len10 (u := f.f1.length) (by have := hgj.2.1; omega)
    rw [ev_succ]
    simp only [frame_Put.l0, ev_ite, hF]
    rw [if_pos (by omega), if_pos (by omega), if_pos (by omega), ev_bind_c (frame_may_ev _ _), ev_ite]
    have e2 : allF (prsF (f :: l.drop (j + 1))) = (mayF f.f0 f.f1 && allF (prsF (l.drop (j + 1)))) := rfl
    rw [e2]
    by_cases hm : mayF f.f0 f.f1 = true
    · have hm' := mayF_iff.1 hm
      have hput : Ev (fun k => varint_Put.f k [(f.f1.length : Int)]) (one f.f1.length) := by
        have := varint_Put_ev (l := [(f.f1.length : Int)]) (by simp) (by intro v hv; rw [List.mem_singleton.1 hv]; omega)
        rw [puts_cons, puts_nil, List.append_nil, Int.toNat_natCast] at this
        exact this
      have ek : f.f0 % 256 = f.f0 := by omega
      rw [if_pos hm, wu64 (by omega) (by omega), ev_bind hput, ev_ite, if_pos (by omega)]
      simp only [Option.bind_some, ev_ite]
      rw [if_pos (by rw [List.length_append]; omega), if_pos (by simp only [List.length_append, List.length_singleton]; omega), ek, ev_bind (frame_sum_ev (by omega) (by have := hgj.2.1; unfold maxLen; omega) hgj.2.2), ev_bind_c (frame_tail_ev _ (by simp only [List.length_append, List.length_singleton]; omega)), w64 (by omega) (by omega)]
      have e3 : b ++ one f.f1.length ++ [f.f0] ++ f.f1 ++ sum4 (sumF f.f0 f.f1) = b ++ putF f.f0 f.f1 := by
        unfold putF
        simp
      rw [e3]
      refine ev_eq (ih (j + 1) (b ++ putF f.f0 f.f1) (by omega) (by omega) (by rw [List.length_append, putF_len]; omega)) ?_
      rw [hm, Bool.true_and, e1, putsF_cons, List.append_assoc]
    · rw [if_neg hm, ev_some, if_neg (by simp [hm])]
theorem frame_Put_ev {l : List S53} (hl : l.length ≤ 10000000000) (hg : ∀ f ∈ l, goodF f) (hs : sumLen (prsF l) ≤ 1000000000000) : Ev (fun k => frame_Put.f k l) (if allF (prsF l) = true then (putsF (prsF l), 0) else ([], 1)) := by
  have hp := putsF_len (l := prsF l) (by
    intro f hf
    have := sumLen_mem hf
    omega)
  rw [prsF_len] at hp
  exact frame_Put_l0_ev l hl hg hs (l.length - 0) 0 [] rfl (by omega) (by simp; omega)

theorem frame_within_ev (b : List Int) : frame_within.f b = some (highs b) := rfl

theorem varint_Get_l0_ev (x : List Int) (hb : Bytes x) (hl : x.length ≤ maxLen) : ∀ (d i : Nat) (u : Int), x.length - i = d → i ≤ 10 → i ≤ x.length → 0 ≤ u → u < 2 ^ (7 * i) →
    Ev (fun k => varint_Get.l0 k x u (i : Int)) (match dec i (x.drop i) with | some (v, n) => (u + v * 2 ^ (7 * i), (i : Int) + n, 0) | none => (0, 0, 2)) := by
  have hlm := maxLen_le hl
  intro d
  induction d with
  | zero =>
    intro i u hd hi hix hu0 hu
    rw [ev_succ]
    simp only [varint_Get.l0, ev_ite]
    rw [if_neg (by omega), ev_succ]
    simp only [varint_Get.j1, ev_ite]
    rw [if_neg (by simp), ev_some, List.drop_eq_nil_of_le (by omega)]
    rfl
  | succ d ih =>
    intro i u hd hi hix hu0 hu
    have hlt : i < x.length := by omega
    have hc := hb.rd (i := (i : Int)) (by omega) (by omega)
    rw [ev_succ]
    simp only [varint_Get.l0, ev_ite]
    rw [if_pos (by omega), ev_succ, drop_eq hlt]
    simp only [varint_Get.j1, ev_ite, decide_eq_true_eq]
    generalize hcc : rd x (i : Int) = c at hc ⊢
    by_cases h10 : i = 10
    · subst h10
      rw [if_neg (by omega), ev_some, dec, if_pos (by omega)]
    · rw [if_pos (by omega), if_pos (by omega), if_pos (by omega), wu64 (by omega) (by omega)]
      have hj2 : ∀ b : Bool, b = decide (i = 9 ∧ 1 < c) → Ev (fun k => varint_Get.j2 k x u (i : Int) c b) (match dec i (c :: x.drop (i + 1)) with | some (v, n) => (u + v * 2 ^ (7 * i), (i : Int) + n, 0) | none => (0, 0, 2)) := by
        intro b hbb
        rw [ev_succ]
        simp only [varint_Get.j2, ev_ite, dec]
        rw [if_neg (show ¬ 10 ≤ i by omega)]
        by_cases h9 : i = 9 ∧ 1 < c
        · rw [if_pos (by rw [hbb]; simpa using h9), if_pos h9, ev_some]
        · rw [if_neg (by rw [hbb]; simpa using h9), if_neg h9, w64 (by omega) (by omega), if_pos (by omega)]
          have hsh : ∀ y : Int, 0 ≤ y → y ≤ 127 → (i = 9 → y ≤ 1) → Go.bits .or .u64 u (shl .u64 y (7 * (i : Int))) = u + y * 2 ^ (7 * i) ∧ y * 2 ^ (7 * i) + 2 ^ (7 * i) ≤ (18446744073709551616 : Int) := by
            intro y hy0 hy1 hy9
            have hi' : i = 0 ∨ i = 1 ∨ i = 2 ∨ i = 3 ∨ i = 4 ∨ i = 5 ∨ i = 6 ∨ i = 7 ∨ i = 8 ∨ i = 9 := by omega
            have hs : y * 2 ^ (7 * i) + 2 ^ (7 * i) ≤ (18446744073709551616 : Int) := by
              rcases hi' with rfl | rfl | rfl | rfl | rfl | rfl | rfl | rfl | rfl | rfl <;> simp <;> omega
            have hp : (0 : Int) < 2 ^ (7 * i) := Int.pow_pos (by omega)
            have hm : 0 ≤ y * 2 ^ (7 * i) := Int.mul_nonneg hy0 (by omega)
            have e : (7 * (i : Int)).toNat = 7 * i := by omega
            refine ⟨?_, hs⟩
            unfold shl
            rw [e, Nat.min_eq_left (show 7 * i ≤ IntKind.u64.bits by show 7 * i ≤ 64; omega), wu64 hm (by omega)]
            exact or_u64 (by omega) hu0 hu hy0 (by omega)
          by_cases h128 : c < 128
          · have hm : c % 128 = c := by omega
            rw [if_pos h128, if_pos h128]
            obtain ⟨h1, h2⟩ := hsh c (by omega) (by omega) (fun h => by omega)
            have hr : Ev (fun _ => some (Go.bits .or .u64 u (shl .u64 (Go.bits .andNot .u64 c 128) (7 * (i : Int))), wrap64 ((i : Int) + 1), (0 : Int))) (u + c * 2 ^ (7 * i), (i : Int) + 1, 0) := by
              rw [ev_some, andNot_u64 hc.1 hc.2, hm, h1, w64 (by omega) (by omega)]
            by_cases h0 : c = 0
            · rw [if_pos h0]
              by_cases hi0 : 0 < i
              · rw [if_pos (by omega), if_pos ⟨h0, hi0⟩, ev_some]
              · rw [if_neg (by omega), if_neg (by omega)]
                simp only
                rw [Int.toNat_of_nonneg hc.1]
                exact hr
            · rw [if_neg h0, if_neg (fun h => h0 h.1)]
              simp only
              rw [Int.toNat_of_nonneg hc.1]
              exact hr
          · have hx9 : i ≠ 9 := by omega
            rw [if_neg h128, if_neg h128, andNot_u64 hc.1 hc.2, w64 (by omega) (by omega)]
            obtain ⟨h1, h2⟩ := hsh (c % 128) (by omega) (by omega) (fun h => by omega)
            rw [h1]
            have hp : (0 : Int) < 2 ^ (7 * i) := Int.pow_pos (by omega)
            have hm : 0 ≤ c % 128 * 2 ^ (7 * i) := Int.mul_nonneg (by omega) (by omega)
            have hpow : (2 : Int) ^ (7 * (i + 1)) = 128 * 2 ^ (7 * i) := by
              rw [Nat.mul_add, Int.pow_add]
              omega
            have hlt2 : c % 128 * 2 ^ (7 * i) ≤ 127 * 2 ^ (7 * i) := Int.mul_le_mul_of_nonneg_right (by omega) (by omega)
            have := ih (i + 1) (u + c % 128 * 2 ^ (7 * i)) (by omega) (by omega) (by omega) (by omega) (by omega)
            refine ev_eq this ?_
            cases dec (i + 1) (x.drop (i + 1)) with
            | none => rfl
            | some p =>
              obtain ⟨v, n⟩ := p
              simp only [Option.map_some]
              have e2 : (((c % 128).toNat + 128 * v : Nat) : Int) = c % 128 + 128 * v := by omega
              rw [e2, hpow, Int.add_mul, Int.mul_comm 128 (2 ^ (7 * i)), Int.mul_comm (128 : Int) (v : Int), Int.mul_assoc, Int.mul_comm (128 : Int) (2 ^ (7 * i)), ← Int.add_assoc]
              congr 2
              omega
      by_cases h9 : i = 9
      · rw [if_pos (by omega)]
        exact hj2 _ (by simp [h9])
      · rw [if_neg (by omega)]
        exact hj2 _ (by simp [h9])
theorem varint_Get_ev {x : List Int} (hb : Bytes x) (hl : x.length ≤ maxLen) : Ev (fun k => varint_Get.f k x) (getR x) := by
  have h := varint_Get_l0_ev x hb hl (x.length - 0) 0 0 rfl (by omega) (by omega) (by omega) (by simp)
  refine ev_eq h ?_
  unfold getR
  simp only [List.drop_zero]
  cases dec 0 x with
  | none => rfl
  | some p => simp

theorem frame_sumOf_ev {x : List Int} (hb : Bytes x) (h : 4 ≤ x.length) : frame_sumOf.f x = some (sumAt x 0) := by
  have h0 := hb.rd (i := 0) (by omega) (by omega)
  have h1 := hb.rd (i := 1) (by omega) (by omega)
  have h2 := hb.rd (i := 2) (by omega) (by omega)
  have h3 := hb.rd (i := 3) (by omega) (by omega)
  unfold frame_sumOf.f
  rw [if_pos (by omega), if_pos (by omega), if_pos (by omega), if_pos (by omega)]
  have e : sumAt x 0 = rd x 0 + 256 * rd x 1 + 65536 * rd x 2 + 16777216 * rd x 3 := rfl
  rw [e]
  generalize rd x 0 = a at *
  generalize rd x 1 = b at *
  generalize rd x 2 = c at *
  generalize rd x 3 = d at *
  have e1 : a % 4294967296 = a := by omega
  have e2 : b % 4294967296 * 256 % 4294967296 = b * 2 ^ 8 := by omega
  have e3 : c % 4294967296 * 65536 % 4294967296 = c * 2 ^ 16 := by omega
  have e4 : d % 4294967296 * 16777216 % 4294967296 = d * 2 ^ 24 := by omega
  have e5 := or_u32 (j := 8) (x := a) (y := b) (by omega) (by omega) (by omega) (by omega) (by omega)
  have e6 := or_u32 (j := 16) (x := a + b * 2 ^ 8) (y := c) (by omega) (by omega) (by omega) (by omega) (by omega)
  have e7 := or_u32 (j := 24) (x := a + b * 2 ^ 8 + c * 2 ^ 16) (y := d) (by omega) (by omega) (by omega) (by omega) (by omega)
  rw [e1, e2, e3, e4, e5, e6, e7]
  congr 1
  omega

theorem slices_Clone_byte_byte_ev {b : List Int} (h : b.length < 140737488355328) : slices_Clone_byte_byte.f b = some b := by
  unfold slices_Clone_byte_byte.f
  rw [if_pos h]

theorem sumAt_drop (b : List Int) (i : Nat) : sumAt (b.drop i) 0 = sumAt b i := by
  have e : ∀ (n : Nat) (m k : Int), m = (n : Int) → k = ((i + n : Nat) : Int) → rd (b.drop i) m = rd b k := by
    rintro n m k rfl rfl
    rw [rd_nat, rd_nat, List.getD_eq_getElem?_getD, List.getD_eq_getElem?_getD, List.getElem?_drop]
  unfold sumAt
  rw [e 0 _ (i : Int) (by omega) (by omega), e 1 _ ((i : Int) + 1) (by omega) (by omega), e 2 _ ((i : Int) + 2) (by omega) (by omega), e 3 _ ((i : Int) + 3) (by omega) (by omega)]
theorem frame_First_ev {b : List Int} (hb : Bytes b) (hl : b.length ≤ maxLen) : Ev (fun k => frame_First.f k b) (firstR b) := by
  have hlm := maxLen_le hl
  simp only [frame_First.f]
  rw [ev_bind_c (frame_within_ev b), ev_ite]
  unfold firstR
  by_cases hh : highs b = true
  · rw [if_pos hh, if_pos hh, ev_some]
  rw [if_neg hh, if_neg hh, ev_bind (varint_Get_ev hb hl)]
  unfold getR
  rcases dec_cases b with hd | ⟨u, n, hd⟩
  · rw [hd]
    simp only
    rw [ev_ite, if_neg (by omega), ev_succ]
    simp only [frame_First.j0, ev_ite]
    rw [if_pos (by trivial), ev_some]
  · have hp := dec_pos hb hd
    obtain ⟨h1, ⟨m, h2⟩, h3⟩ := (dec_iff hb).1 hd
    rw [hd]
    simp only
    rw [ev_ite, if_pos (by trivial), ev_succ]
    simp only [frame_First.j0, ev_ite, decide_eq_true_eq]
    by_cases c1 : 1048576 < u
    · rw [if_pos (by omega), if_pos c1, ev_some]
    rw [if_neg (by omega), if_neg c1]
    by_cases c2 : b.length = n
    · rw [if_pos (by omega), if_pos c2, ev_some]
    rw [if_neg (by omega), if_neg c2, if_pos (by omega), if_pos (by omega)]
    have hr := hb.rd (i := (n : Int)) (by omega) (by omega)
    by_cases c3a : rd b (n : Int) < 1
    · rw [if_pos c3a, if_pos (.inl c3a), ev_some]
    by_cases c3b : rd b (n : Int) > 250
    · rw [if_neg c3a, if_pos c3b, if_pos (.inr c3b), ev_some]
    have hs := frame_Size_ev (u : Int) (by omega)
    rw [if_neg (by omega), Int.toNat_natCast, ← h3] at hs
    rw [if_neg c3a, if_neg c3b, if_neg (by omega), w64 (x := (u : Int)) (by omega) (by omega), ev_bind hs, ev_ite]
    by_cases c4 : b.length < n + 1 + u + 4
    · rw [if_pos (by omega), if_pos c4, ev_some]
    have t1 : ((n : Int) + 1 + (u : Int)).toNat = n + 1 + u := by omega
    have t2 : ((n : Int) + 1).toNat = n + 1 := by omega
    have t3 : n + 1 + u - (n + 1) = u := by omega
    have hlen : ((b.drop (n + 1)).take u).length = u := by rw [List.length_take, List.length_drop]; omega
    rw [if_neg (by omega), if_neg c4, w64 (x := (n : Int) + 1) (by omega) (by omega), w64 (x := (n : Int) + 1 + (u : Int)) (by omega) (by omega), ev_ite, if_pos (by omega), ev_ite, if_pos (by omega), ev_ite, if_pos (by omega), ev_ite, if_pos (by omega), t1, t2, List.drop_take, t3]
    rw [ev_bind_c (frame_sumOf_ev (hb.drop _) (by rw [List.length_drop]; omega)), ev_bind (frame_sum_ev (by omega) (by rw [hlen]; unfold maxLen; omega) ((hb.drop _).take _)), ev_ite, sumAt_drop]
    by_cases c5 : sumAt b (n + 1 + u) = (sumF (rd b (n : Int)) ((b.drop (n + 1)).take u) : Int)
    · rw [if_pos c5, if_pos c5, ev_bind_c (slices_Clone_byte_byte_ev (by rw [hlen]; omega)), ev_bind hs, ev_some, w64 (by omega) (by omega)]
      congr 3
    · rw [if_neg c5, if_neg c5, ev_some]

theorem garnerlaw03_awake_ev : Ev (fun k => garnerlaw03_awake.f k) true := Ev.of (fun k => garnerlaw03_awake.mono k) (k := 60) (by decide +kernel)

theorem garnerref03_Same_ev {a b : List S53} (hl : a.length ≤ maxLen) (hg : ∀ f ∈ a, f.f1.length ≤ maxLen) : Ev (fun k => garnerref03_Same.f k a b) (decide (prsF a = prsF b)) := by
  have hlm := maxLen_le hl
  simp only [garnerref03_Same.f, ev_ite]
  by_cases h : a.length = b.length
  · rw [if_pos (by omega)]
    have main : ∀ (d i : Nat), a.length - i = d → i ≤ a.length → Ev (fun k => garnerref03_Same.l0 k a b (i : Int)) (decide (prsF (a.drop i) = prsF (b.drop i))) := by
      intro d
      induction d with
      | zero =>
        intro i hd hi
        rw [ev_succ]
        simp only [garnerref03_Same.l0, ev_ite]
        rw [if_neg (by omega), ev_some, List.drop_eq_nil_of_le (by omega), List.drop_eq_nil_of_le (by omega)]
        simp
      | succ d ih =>
        intro i hd hi
        have hi' : i < a.length := by omega
        have hgi := hg _ (rdF_mem hi')
        rw [ev_succ]
        simp only [garnerref03_Same.l0, ev_ite]
        rw [if_pos (by omega), if_pos (by omega), if_pos (by omega), dropF_eq (l := a) (by omega), dropF_eq (l := b) (by omega)]
        have e : ∀ (f g : S53) (l m : List S53), prsF (f :: l) = prsF (g :: m) ↔ (f.f0 = g.f0 ∧ f.f1 = g.f1) ∧ prsF l = prsF m := by
          intro f g l m
          simp [prsF, prF]
        by_cases h0 : (rd_T53 a (i : Int)).f0 = (rd_T53 b (i : Int)).f0
        · rw [if_pos h0, ev_bind (garnerref02_Bytes_ev hgi), ev_ite]
          by_cases h1 : (rd_T53 a (i : Int)).f1 = (rd_T53 b (i : Int)).f1
          · rw [if_pos (by simpa using h1), w64 (by omega) (by omega)]
            refine ev_eq (ih (i + 1) (by omega) (by omega)) ?_
            rw [decide_eq_decide, e]
            exact ⟨fun h => ⟨⟨h0, h1⟩, h⟩, fun h => h.2⟩
          · rw [if_neg (by simpa using h1), ev_some]
            symm
            rw [decide_eq_false_iff_not, e]
            exact fun h => h1 h.1.2
        · rw [if_neg h0, ev_some]
          symm
          rw [decide_eq_false_iff_not, e]
          exact fun h => h0 h.1.1
    exact main (a.length - 0) 0 rfl (by omega)
  · rw [if_neg (by omega), ev_some]
    symm
    rw [decide_eq_false_iff_not]
    intro e
    have := congrArg List.length e
    rw [prsF_len, prsF_len] at this
    exact h this

theorem frame_Scan_l0_ev {b : List Int} (hb : Bytes b) (hl : b.length ≤ 4000000000000) : ∀ (d p : Nat) (x5 : List S53) (x6 : List Int), p ≤ b.length → b.length - p < d → x5.length ≤ p → x6.length ≤ p →
    Ev (fun k => frame_Scan.l0 k b x5 x6 (p : Int)) (x5 ++ (scanR d p (b.drop p)).1.map mkF, x6 ++ (scanR d p (b.drop p)).2.1, (scanR d p (b.drop p)).2.2) := by
  intro d
  induction d with
  | zero => intro p x5 x6 hp hd; omega
  | succ d ih =>
    intro p x5 x6 hp hd h5 h6
    rw [ev_succ]
    simp only [frame_Scan.l0, ev_ite]
    rw [if_pos (by omega), if_pos (by omega), Int.toNat_natCast, ev_bind (frame_First_ev (hb.drop p) (by rw [List.length_drop]; unfold maxLen; omega)), ev_ite]
    by_cases hf : (firstR (b.drop p)).2.2.2 = 0
    · rcases firstR_cases (hb.drop p) with ⟨kd, body, m, e1, e2, e3⟩ | e | e
      · have hm := mayF_iff.1 e2
        have hle : (putF kd body).length + m.length = b.length - p := by
          have := congrArg List.length e1
          rw [List.length_drop, List.length_append] at this
          omega
        have h6' := putF_pos kd body
        have hpl := putF_len kd body
        have hh := frame_Head_ev (body.length : Int) (by omega)
        rw [if_neg (by omega), Int.toNat_natCast] at hh
        rw [if_pos hf, scanR, if_pos hf, e3]
        simp only
        rw [ev_ite, if_pos (by omega), ev_bind hh, ev_ite, if_pos (by omega), w64 (by omega) (by omega), w64 (by omega) (by omega), Int.toNat_natCast, List.drop_drop]
        have := ih (p + (putF kd body).length) (x5 ++ [⟨kd, body⟩]) (x6 ++ [(p : Int) + ((one body.length).length + 1)]) (by omega) (by omega) (by simp; omega) (by simp; omega)
        rw [Int.natCast_add] at this
        refine ev_eq this ?_
        rw [List.append_assoc, List.append_assoc, List.map_cons]
        have e4 : (p : Int) + ((putF kd body).length : Int) - 4 - (body.length : Int) = (p : Int) + ((one body.length).length + 1) := by omega
        rw [e4]
        rfl
      · rw [e] at hf; simp at hf
      · rw [e] at hf; simp at hf
    · rw [if_neg hf, ev_some, scanR, if_neg hf]
      simp
theorem frame_Scan_ev {b : List Int} (hb : Bytes b) (hl : b.length ≤ 4000000000000) : Ev (fun k => frame_Scan.f k b) ((scanR (b.length + 1) 0 b).1.map mkF, (scanR (b.length + 1) 0 b).2.1, (scanR (b.length + 1) 0 b).2.2) := by
  have := frame_Scan_l0_ev hb hl (b.length + 1) 0 [] [] (by omega) (by omega) (by simp) (by simp)
  simp only [List.nil_append, List.drop_zero] at this
  exact this

theorem garnerlaw03_Light_ev (l : List S53) (hl : l.length ≤ 140737488351232) (hg : ∀ f ∈ l, goodF f) : Ev (fun k => garnerlaw03_Light.f k l) (decide (l.length < 100 ∧ sumLen (prsF l) ≤ 4000)) := by
  have main : ∀ (d i n : Nat), l.length - i = d → i ≤ l.length → i ≤ 100 → n + sumLen (prsF (l.drop i)) = sumLen (prsF l) → n ≤ 140737488359232 → Ev (fun k => garnerlaw03_Light.l0 k l (n : Int) (i : Int)) (decide (l.length < 100 ∧ sumLen (prsF l) ≤ 4000)) := by
    intro d
    induction d with
    | zero =>
      intro i n hd hi h100 hs hn
      rw [List.drop_eq_nil_of_le (by omega)] at hs
      have : sumLen (prsF []) = 0 := rfl
      rw [ev_succ]
      simp only [garnerlaw03_Light.l0, ev_ite, ev_some]
      rw [if_neg (by omega)]
      split
      · rw [decide_eq_decide]; omega
      · symm; rw [decide_eq_false_iff_not]; omega
    | succ d ih =>
      intro i n hd hi h100 hs hn
      have hil : i < l.length := by omega
      rw [dropF_eq hil] at hs
      have e : sumLen (prsF (rd_T53 l (i : Int) :: l.drop (i + 1))) = (rd_T53 l (i : Int)).f1.length + sumLen (prsF (l.drop (i + 1))) := rfl
      rw [e] at hs
      have hgi := (hg _ (rdF_mem hil)).2.1
      rw [ev_succ]
      simp only [garnerlaw03_Light.l0, ev_ite, ev_some]
      rw [if_pos (by omega)]
      by_cases h1 : i < 100
      · rw [if_pos (by omega)]
        by_cases h2 : n ≤ 4000
        · rw [if_pos (by omega), if_pos (by omega), w64 (x := (n : Int) + ((rd_T53 l (i : Int)).f1.length : Int)) (by omega) (by omega), w64 (by omega) (by omega)]
          have := ih (i + 1) (n + (rd_T53 l (i : Int)).f1.length) (by omega) (by omega) (by omega) (by omega) (by omega)
          rw [Int.natCast_add, Int.natCast_add] at this
          exact this
        · rw [if_neg (by omega)]
          split
          · rw [decide_eq_decide]; omega
          · symm; rw [decide_eq_false_iff_not]; omega
      · rw [if_neg (by omega)]
        split
        · omega
        · symm; rw [decide_eq_false_iff_not]; omega
  exact main (l.length - 0) 0 0 rfl (by omega) (by omega) (by simp) (by omega)

theorem garnerref03_May_ev (k : Int) (b : List Int) : garnerref03_May.f k b = some (mayF k b) := by
  unfold garnerref03_May.f mayF
  repeat' split
  all_goals (congr 1; first | (symm; rw [decide_eq_false_iff_not]; omega) | (rw [Bool.eq_iff_iff]; simp only [decide_eq_true_eq]; omega))

theorem garnerlaw03_may_ev (l : List S53) (hl : l.length ≤ 140737488351232) (hg : ∀ f ∈ l, goodF f) : Ev (fun k => garnerlaw03_may.f k l) (decide (l.length < 100 ∧ sumLen (prsF l) ≤ 4000) && allF (prsF l)) := by
  have hL := garnerlaw03_Light_ev l hl hg
  have fin : ∀ (i : Nat), (allF (prsF l) = true ∨ 100 ≤ l.length) → Ev (fun k => garnerlaw03_may.j1 k l (i : Int) false) (decide (l.length < 100 ∧ sumLen (prsF l) ≤ 4000) && allF (prsF l)) := by
    intro i h
    rw [ev_succ]
    simp only [garnerlaw03_may.j1, ev_ite]
    rw [if_neg (by simp), ev_bind hL, ev_some]
    rcases h with h | h
    · rw [h, Bool.and_true]
    · have e : decide (l.length < 100 ∧ sumLen (prsF l) ≤ 4000) = false := by rw [decide_eq_false_iff_not]; omega
      rw [e]
      rfl
  have main : ∀ (d i : Nat), l.length - i = d → i ≤ l.length → i ≤ 100 → allF (prsF (l.drop i)) = allF (prsF l) → Ev (fun k => garnerlaw03_may.l0 k l (i : Int)) (decide (l.length < 100 ∧ sumLen (prsF l) ≤ 4000) && allF (prsF l)) := by
    intro d
    induction d with
    | zero =>
      intro i hd hi h100 ha
      rw [List.drop_eq_nil_of_le (by omega)] at ha
      rw [ev_succ]
      simp only [garnerlaw03_may.l0, ev_ite]
      rw [if_neg (by omega)]
      exact fin i (.inl (by rw [← ha]; rfl))
    | succ d ih =>
      intro i hd hi h100 ha
      have hil : i < l.length := by omega
      rw [ev_succ]
      simp only [garnerlaw03_may.l0, ev_ite]
      rw [if_pos (by omega)]
      by_cases h : i = 100
      · have e : decide ((i : Int) < 100) = false := by rw [decide_eq_false_iff_not]; omega
        rw [e]
        exact fin i (.inr (by omega))
      · have e : decide ((i : Int) < 100) = true := by rw [decide_eq_true_eq]; omega
        rw [e, ev_succ]
        simp only [garnerlaw03_may.j1, ev_ite]
        rw [if_pos (by trivial), if_pos (by omega), if_pos (by omega), ev_bind_c (garnerref03_May_ev _ _), ev_ite]
        rw [dropF_eq hil] at ha
        have e1 : allF (prsF (rd_T53 l (i : Int) :: l.drop (i + 1))) = (mayF (rd_T53 l (i : Int)).f0 (rd_T53 l (i : Int)).f1 && allF (prsF (l.drop (i + 1)))) := rfl
        rw [e1] at ha
        by_cases hm : mayF (rd_T53 l (i : Int)).f0 (rd_T53 l (i : Int)).f1 = true
        · rw [hm, Bool.true_and] at ha
          rw [if_pos hm, w64 (by omega) (by omega)]
          exact ih (i + 1) (by omega) (by omega) (by omega) ha
        · rw [if_neg hm, ev_some, ← ha]
          rw [Bool.not_eq_true] at hm
          rw [hm, Bool.false_and, Bool.and_false]
  exact main (l.length - 0) 0 rfl (by omega) (by omega) (by simp)

theorem allF_cons (f : Int × List Int) (l : List (Int × List Int)) : allF (f :: l) = true ↔ mayF f.1 f.2 = true ∧ allF l = true := by
  unfold allF
  rw [List.all_cons, Bool.and_eq_true]
theorem scanR_cut : ∀ (l : List (Int × List Int)) (d : Nat) (p : Int) (k : Nat), allF l = true → k ≤ (putsF l).length → l.length < d →
    ∃ j, j ≤ l.length ∧ scanR d p ((putsF l).take k) = (l.take j, placesF p (l.take j), p + ((putsF (l.take j)).length : Int)) ∧ (putsF (l.take j)).length ≤ k ∧ (j < l.length → k < (putsF (l.take (j + 1))).length) ∧ firstR (((putsF l).take k).drop (putsF (l.take j)).length) = (0, [], 0, 5) := by
  intro l
  induction l with
  | nil =>
    intro d p k _ hk hd
    cases d with
    | zero => simp at hd
    | succ d =>
      refine ⟨0, by omega, ?_, by simp [putsF_nil], by simp, ?_⟩
      · rw [putsF_nil, List.take_nil, scanR, firstR_nil, if_neg (by simp)]
        simp [placesF, putsF_nil]
      · simp [putsF_nil, firstR_nil]
  | cons f l ih =>
    intro d p k h hk hd
    have h2 := (allF_cons f l).1 h
    cases d with
    | zero => simp at hd
    | succ d =>
      rw [putsF_cons, List.length_append] at hk
      rw [List.length_cons] at hd
      by_cases hc : k < (putF f.1 f.2).length
      · have hcut := firstR_cut h2.1 hc
        refine ⟨0, by omega, ?_, by simp [putsF_nil], ?_, ?_⟩
        · rw [putsF_cons, List.take_append_of_le_length (by omega), scanR, hcut, if_neg (by simp)]
          simp [placesF, putsF_nil]
        · intro _
          rw [List.take_succ_cons, List.take_zero, putsF_cons, putsF_nil, List.append_nil]
          exact hc
        · rw [List.take_zero, putsF_nil, List.length_nil, List.drop_zero, putsF_cons, List.take_append_of_le_length (by omega), hcut]
      · obtain ⟨j, j1, j2, j3, j4, j5⟩ := ih d (p + ((putF f.1 f.2).length : Int)) (k - (putF f.1 f.2).length) h2.2 (by omega) (by omega)
        refine ⟨j + 1, by rw [List.length_cons]; omega, ?_, ?_, ?_, ?_⟩
        · rw [putsF_cons, List.take_append, List.take_of_length_le (by omega), scanR, firstR_put h2.1, if_pos (by trivial)]
          simp only [Int.toNat_natCast, List.drop_left]
          rw [j2, List.take_succ_cons, placesF, putsF_cons, List.length_append, Int.natCast_add, Int.add_assoc]
        · rw [List.take_succ_cons, putsF_cons, List.length_append]
          omega
        · intro hj
          rw [List.length_cons] at hj
          rw [List.take_succ_cons, putsF_cons, List.length_append]
          have := j4 (by omega)
          omega
        · have e : ((putsF (f :: l)).take k).drop (putsF ((f :: l).take (j + 1))).length = ((putsF l).take (k - (putF f.1 f.2).length)).drop (putsF (l.take j)).length := by
            rw [List.take_succ_cons, putsF_cons f l, putsF_cons f (l.take j), List.length_append, List.take_append, List.take_of_length_le (l := putF f.1 f.2) (by omega), ← List.drop_drop, List.drop_left]
          rw [e]
          exact j5
theorem placesF_len : ∀ (l : List (Int × List Int)) (p : Int), (placesF p l).length = l.length := by
  intro l
  induction l with
  | nil => intro p; rfl
  | cons f l ih => intro p; rw [placesF, List.length_cons, List.length_cons, ih]
theorem placesF_get : ∀ (l : List (Int × List Int)) (p : Int) (j : Nat) (h : j < l.length), (placesF p l).getD j 0 = p + ((putsF (l.take j)).length : Int) + ((putF l[j].1 l[j].2).length : Int) - 4 - (l[j].2.length : Int) := by
  intro l
  induction l with
  | nil => intro p j h; simp at h
  | cons f l ih =>
    intro p j h
    cases j with
    | zero =>
      rw [placesF, List.take_zero, putsF_nil]
      simp
    | succ j =>
      rw [List.length_cons] at h
      rw [placesF, List.take_succ_cons, putsF_cons, List.length_append, List.getD_cons_succ, ih _ _ (by omega)]
      simp only [List.getElem_cons_succ]
      omega
theorem putsF_take_succ {l : List (Int × List Int)} {j : Nat} (h : j < l.length) : putsF (l.take (j + 1)) = putsF (l.take j) ++ putF l[j].1 l[j].2 := by
  rw [List.take_succ_eq_append_getElem h, putsF_append, putsF_cons, putsF_nil, List.append_nil]
theorem putsF_take_le (l : List (Int × List Int)) {i j : Nat} (h : i ≤ j) : (putsF (l.take i)).length ≤ (putsF (l.take j)).length := by
  have e : l.take j = (l.take j).take i ++ (l.take j).drop i := by rw [List.take_append_drop]
  rw [e, putsF_append, List.length_append, List.take_take, Nat.min_eq_left h]
  omega
theorem putsF_split {l : List (Int × List Int)} {j : Nat} (h : j < l.length) : putsF l = (putsF (l.take j) ++ (one l[j].2.length ++ [l[j].1])) ++ (l[j].2 ++ (sum4 (sumF l[j].1 l[j].2) ++ putsF (l.drop (j + 1)))) := by
  have e : putsF l = putsF (l.take j ++ l.drop j) := by rw [List.take_append_drop]
  rw [e, putsF_append, List.drop_eq_getElem_cons h, putsF_cons]
  unfold putF
  simp
theorem FrameCuts : StFrameCuts.Pure := by
  intro l a h0 y0 g0 ha
  have ha := wf_u16 ha
  have hg : ∀ f ∈ l, goodF f := by
    intro f hf
    obtain ⟨h1, h2, h3, h4⟩ := g0 f hf
    exact ⟨wf_i64 h1, by omega, Bytes.of_wf h4⟩
  refine Ev.rounds (g := fun k => garnerlaw03_FrameCuts.f k l a) ?_
  simp only [garnerlaw03_FrameCuts.f]
  rw [ev_bind (garnerlaw03_may_ev l (by omega) hg), ev_ite]
  by_cases m0 : (decide (l.length < 100 ∧ sumLen (prsF l) ≤ 4000) && allF (prsF l)) = true
  · rw [if_pos m0]
    rw [Bool.and_eq_true, decide_eq_true_eq] at m0
    obtain ⟨⟨a0, b0⟩, c0⟩ := m0
    have p0 := frame_Put_ev (l := l) (by omega) hg (by omega)
    rw [if_pos c0] at p0
    have q0 := putsF_len (l := prsF l) (by intro f hf; have := sumLen_mem hf; omega)
    rw [prsF_len] at q0
    have hbytes : Bytes (putsF (prsF l)) := by
      intro x hx
      obtain ⟨p, hp, hx⟩ := List.mem_flatMap.1 hx
      obtain ⟨f, hf, rfl⟩ := List.mem_map.1 hp
      have ha := c0
      unfold allF at ha
      rw [List.all_eq_true] at ha
      exact putF_bytes (ha _ hp) (hg f hf).2.2 x hx
    have hcnt : ∀ l : List (Int × List Int), l.length ≤ (putsF l).length := by
      intro l
      induction l with
      | nil => simp
      | cons f l ih =>
        rw [putsF_cons, List.length_append, List.length_cons]
        have := putF_pos f.1 f.2
        omega
    have hc := hcnt (prsF l)
    rw [prsF_len] at hc
    have m1 := Int.emod_nonneg a (b := ((putsF (prsF l)).length : Int) + 1) (by omega)
    have m2 := Int.emod_lt_of_pos a (b := ((putsF (prsF l)).length : Int) + 1) (by omega)
    rw [ev_bind p0]
    simp only [ev_ite]
    rw [w64 (x := ((putsF (prsF l)).length : Int) + 1) (by omega) (by omega), w64 (x := a) (by omega) (by omega), Int.tmod_eq_emod_of_nonneg (by omega)]
    generalize hK : a % (((putsF (prsF l)).length : Int) + 1) = K at m1 m2 ⊢
    have hlt : ((putsF (prsF l)).take K.toNat).length = K.toNat := by rw [List.length_take]; omega
    obtain ⟨j, j1, j2, j3, j4, j5⟩ := scanR_cut (prsF l) (K.toNat + 1 + l.length) 0 K.toNat c0 (by omega) (by rw [prsF_len]; omega)
    rw [prsF_len] at j1 j4
    have hs := frame_Scan_l0_ev (b := (putsF (prsF l)).take K.toNat) (hbytes.take _) (by omega) (K.toNat + 1 + l.length) 0 [] [] (by omega) (by omega) (by simp) (by simp)
    have hs : Ev (fun k => frame_Scan.f k ((putsF (prsF l)).take K.toNat)) (((prsF l).take j).map mkF, placesF 0 ((prsF l).take j), 0 + ((putsF ((prsF l).take j)).length : Int)) := by
      simp only [List.nil_append, List.drop_zero, Int.natCast_zero] at hs
      rw [j2] at hs
      exact hs
    have hmk : ((prsF l).take j).map mkF = l.take j := by rw [List.map_take, mk_prsF]
    rw [hmk] at hs
    have t0 : (0 + ((putsF ((prsF l).take j)).length : Int)).toNat = (putsF ((prsF l).take j)).length := by omega
    have hf := frame_First_ev (b := ((putsF (prsF l)).take K.toNat).drop (putsF ((prsF l).take j)).length) ((hbytes.take _).drop _) (by rw [List.length_drop, hlt]; unfold maxLen; omega)
    rw [j5] at hf
    rw [if_neg (by omega), if_pos (by omega), if_pos (by omega), ev_bind hs]
    simp only [ev_ite, t0]
    rw [if_pos (by omega), if_pos (by omega), ev_bind hf]
    have hrd : ∀ i : Nat, (h : i < l.length) → (prsF l)[i]'(by rw [prsF_len]; exact h) = prF (rd_T53 l (i : Int)) := by
      intro i h
      rw [rdF_get h]
      simp [prsF]
    have hplen : (placesF 0 ((prsF l).take j)).length = j := by rw [placesF_len, List.length_take, prsF_len]; omega
    have hsame := garnerref03_Same_ev (a := l.take j) (b := l.take j) (by rw [List.length_take]; unfold maxLen; omega) (by
      intro f hf
      have := (hg f (List.mem_of_mem_take hf)).2.1
      unfold maxLen
      omega)
    have loop1 : ∀ (d i : Nat), j - i = d → i ≤ j → Ev (fun k => garnerlaw03_FrameCuts.l1 k l (putsF (prsF l)) K (l.take j) (placesF 0 ((prsF l).take j)) (j : Int) (i : Int)) true := by
      intro d
      induction d with
      | zero =>
        intro i hd hi
        rw [ev_succ]
        simp only [garnerlaw03_FrameCuts.l1, ev_ite, Int.toNat_natCast]
        rw [if_neg (by omega), if_pos (by omega), if_pos (by omega), ev_bind hsame, ev_ite, if_pos (by simp), ev_bind garnerlaw03_awake_ev, ev_some]
      | succ d ih =>
        intro i hd hi
        have hij : i < j := by omega
        have hil : i < l.length := by omega
        have hip : i < (prsF l).length := by rw [prsF_len]; exact hil
        have hpg := placesF_get ((prsF l).take j) 0 i (by rw [List.length_take]; omega)
        have hel : ((prsF l).take j)[i]'(by rw [List.length_take]; omega) = prF (rd_T53 l (i : Int)) := by rw [List.getElem_take, hrd i hil]
        rw [hel, List.take_take, Nat.min_eq_left (by omega)] at hpg
        have hpr : rd (placesF 0 ((prsF l).take j)) (i : Int) = 0 + ((putsF ((prsF l).take i)).length : Int) + ((putF (prF (rd_T53 l (i : Int))).1 (prF (rd_T53 l (i : Int))).2).length : Int) - 4 - ((prF (rd_T53 l (i : Int))).2.length : Int) := hpg
        have hsp := putsF_split hip
        have hsu := congrArg List.length (putsF_take_succ hip)
        have hle := putsF_take_le (prsF l) (i := i + 1) (j := j) (by omega)
        rw [hrd i hil] at hsp hsu
        rw [List.length_append] at hsu
        have hgi := hg _ (rdF_mem hil)
        rw [ev_succ]
        simp only [garnerlaw03_FrameCuts.l1, ev_ite]
        generalize rd_T53 l (i : Int) = f at hpr hsp hsu hgi ⊢
        simp only [prF] at hpr hsp hsu
        have hsl := congrArg List.length hsp
        rw [List.length_append, List.length_append] at hsl
        have hpl := putF_len f.f0 f.f1
        have hop := one_pos f.f1.length
        have hgl := hgi.2.1
        generalize hRd : rd (placesF 0 ((prsF l).take j)) (i : Int) = R at hpr ⊢
        have w1 : wrap64 (R + (f.f1.length : Int)) = R + (f.f1.length : Int) := w64 (by omega) (by omega)
        have hal : (putsF ((prsF l).take i) ++ (one f.f1.length ++ [f.f0])).length = (putsF ((prsF l).take i)).length + (one f.f1.length).length + 1 := by
          rw [List.length_append, List.length_append, List.length_singleton]
          omega
        have t1 : (R + (f.f1.length : Int)).toNat = (putsF ((prsF l).take i) ++ (one f.f1.length ++ [f.f0])).length + f.f1.length := by omega
        have t2 : R.toNat = (putsF ((prsF l).take i) ++ (one f.f1.length ++ [f.f0])).length := by omega
        have hcut : ((putsF (prsF l)).take (R + (f.f1.length : Int)).toNat).drop R.toNat = f.f1 := by
          rw [t1, t2, List.drop_take, hsp, List.drop_left, Nat.add_sub_cancel_left, List.take_left]
        simp only [w1, hcut]
        rw [if_pos (by omega), if_pos (by omega), if_pos (by omega), if_neg (by omega), if_pos (by omega), if_neg (by omega), if_pos (by omega), if_pos (by omega), if_pos (by omega), ev_bind (garnerref02_Bytes_ev (by unfold maxLen; omega)), ev_ite, if_pos (by simp), w64 (by omega) (by omega)]
        exact ih (i + 1) (by omega) (by omega)
    have fin : Ev (fun k => garnerlaw03_FrameCuts.j1 k l (putsF (prsF l)) 0 K (l.take j) (placesF 0 ((prsF l).take j)) (0 + ((putsF ((prsF l).take j)).length : Int)) 5 ((putsF ((prsF l).take j)).length : Int) (j : Int)) true := by
      have hlj : (l.take j).length = j := by rw [List.length_take]; omega
      rw [ev_succ]
      simp only [garnerlaw03_FrameCuts.j1, ev_ite]
      rw [if_pos (by trivial), if_pos (by omega), if_pos (by omega), if_pos (by omega), ev_succ]
      simp only [garnerlaw03_FrameCuts.j2, ev_ite]
      rw [if_neg (by simp)]
      exact loop1 (j - 0) 0 rfl (by omega)
    have loop0 : ∀ (d n : Nat), j - n = d → n ≤ j → Ev (fun k => garnerlaw03_FrameCuts.l0 k l (putsF (prsF l)) 0 K (l.take j) (placesF 0 ((prsF l).take j)) (0 + ((putsF ((prsF l).take j)).length : Int)) 5 ((putsF ((prsF l).take n)).length : Int) (n : Int)) true := by
      have hsz : ∀ n : Nat, n < l.length → Ev (fun k => frame_Size.f k ((rd_T53 l (n : Int)).f1.length : Int)) (((putsF ((prsF l).take (n + 1))).length : Int) - ((putsF ((prsF l).take n)).length : Int)) := by
        intro n hn
        have hip : n < (prsF l).length := by rw [prsF_len]; exact hn
        have hsu := congrArg List.length (putsF_take_succ hip)
        rw [hrd n hn, List.length_append] at hsu
        have hmem : prF (rd_T53 l (n : Int)) ∈ prsF l := List.mem_map.2 ⟨_, rdF_mem hn, rfl⟩
        have hsm := sumLen_mem hmem
        simp only [prF] at hsu hsm
        have hpl := putF_len (rd_T53 l (n : Int)).f0 (rd_T53 l (n : Int)).f1
        have h := frame_Size_ev ((rd_T53 l (n : Int)).f1.length : Int) (by omega)
        rw [if_neg (by omega), Int.toNat_natCast] at h
        refine ev_eq h ?_
        omega
      intro d
      induction d with
      | zero =>
        intro n hd hn
        obtain rfl : n = j := by omega
        rw [ev_succ]
        simp only [garnerlaw03_FrameCuts.l0, ev_ite]
        by_cases hl : n < l.length
        · have h4 := j4 hl
          have h5 := putsF_take_le (prsF l) (i := n) (j := n + 1) (by omega)
          have h6 := putsF_take_le (prsF l) (i := n + 1) (j := (prsF l).length) (by rw [prsF_len]; omega)
          rw [List.take_of_length_le (i := (prsF l).length) (Nat.le_refl _)] at h6
          rw [if_pos (by omega), if_pos (by omega), ev_bind (hsz n hl), w64 (by omega) (by omega), ev_ite, if_neg (by omega)]
          exact fin
        · rw [if_neg (by omega)]
          exact fin
      | succ d ih =>
        intro n hd hn
        have hl : n < l.length := by omega
        have h5 := putsF_take_le (prsF l) (i := n) (j := n + 1) (by omega)
        have h6 := putsF_take_le (prsF l) (i := n + 1) (j := j) (by omega)
        rw [ev_succ]
        simp only [garnerlaw03_FrameCuts.l0, ev_ite]
        rw [if_pos (by omega), if_pos (by omega), ev_bind (hsz n hl), w64 (x := ((putsF ((prsF l).take n)).length : Int) + (((putsF ((prsF l).take (n + 1))).length : Int) - ((putsF ((prsF l).take n)).length : Int))) (by omega) (by omega), ev_ite, if_pos (by omega), ev_bind (hsz n hl), w64 (by omega) (by omega), w64 (by omega) (by omega)]
        have := ih (n + 1) (by omega) (by omega)
        have e : ((putsF ((prsF l).take n)).length : Int) + (((putsF ((prsF l).take (n + 1))).length : Int) - ((putsF ((prsF l).take n)).length : Int)) = ((putsF ((prsF l).take (n + 1))).length : Int) := by omega
        rw [e]
        exact this
    have := loop0 (j - 0) 0 rfl (by omega)
    rw [List.take_zero, putsF_nil] at this
    exact this
  · rw [if_neg m0, ev_bind garnerlaw03_awake_ev, ev_some]

end Go.Proofs.Ytpabjefogbkhpaa.Pure
