/- The pure statement of the law RelayPuts: what the printed functions answer, each by its plain law, and that the law's answer is true. -/
import Derived.Test.YtjebpaahpehfnaaPRelayPutsx0
import Derived.Test.YtjebpaahpehfnaaPRelayPutsx1
import Derived.Test.YtjebpaahpehfnaaPRelayPutsx2
import Derived.Test.YtjebpaahpehfnaaPRelayPutsx3
import Derived.Test.YtjebpaahpehfnaaPRelayPutsx4
import Derived.Test.YtjebpaahpehfnaaPRelayPutsx5
import Derived.Test.YtjebpaahpehfnaaPRelayPutsx6
import Derived.Test.YtjebpaahpehfnaaPRelayPutsx7
import Derived.Test.YtjebpaahpehfnaaPRelayPutsx8
import Derived.Test.YtjebpaahpehfnaaPRelayPutsx9
import Derived.Test.YtjebpaahpehfnaaPRelayPutsx10
import Derived.Test.YtjebpaahpehfnaaPRelayPutsx11
import Derived.Test.YtjebpaahpehfnaaPRelayPutsx12
import Derived.Test.YtjebpaahpehfnaaStRelayPuts
import Derived.Test.YtjebpaahpehfnaaQSz
import Derived.Test.YtjebpaahpehfnaaQV02
import Derived.Test.YtjebpaahpehfnaaQV04
import Derived.Test.YtjebpaahpehfnaaQF21
import Derived.Test.YtjebpaahpehfnaaQF03
import Derived.Test.YtjebpaahpehfnaaQV03
namespace Go.Proofs.Ytjebpaahpehfnaa.Pure
open Go.RowKit Go.Proofs.Ytjebpaahpehfnaa.PRelayPuts Go.Proofs.Ytjebpaahpehfnaa.U Go.Proofs.YtjebpaahpehfnaaW.PrintWords Go.Proofs.YtjebpaahpehfnaaW.PrintLast Go.Proofs.YtjebpaahpehfnaaW.PrintMore
set_option linter.unusedVariables false
set_option linter.unusedSimpArgs false
set_option maxRecDepth 4000
def prH (h : S46) : Hp := (h.f0, h.f1.f0, h.f1.f1, h.f1.f2, h.f1.f3)
def mkH (h : Hp) : S46 := ⟨h.1, ⟨h.2.1, h.2.2.1, h.2.2.2.1, h.2.2.2.2⟩⟩
def prsH (l : List S46) : List Hp := l.map prH
theorem prsH_len (l : List S46) : (prsH l).length = l.length := by simp [prsH]
theorem prsH_append (a b : List S46) : prsH (a ++ b) = prsH a ++ prsH b := by simp [prsH]
theorem mk_prsH (l : List S46) : (prsH l).map mkH = l := by
  unfold prsH
  rw [List.map_map]
  have : (mkH ∘ prH) = id := by funext x; rfl
  rw [this, List.map_id]
theorem rdH_get {l : List S46} {i : Nat} (h : i < l.length) : rd_T46 l (i : Int) = l[i] := by
  simp [rd_T46, h]
theorem dropH_eq {l : List S46} {i : Nat} (h : i < l.length) : l.drop i = rd_T46 l (i : Int) :: l.drop (i + 1) := by
  rw [rdH_get h]
  exact List.drop_eq_getElem_cons h
theorem mayHs_prH (s last : Int) (h : S46) (t : List Hp) : mayHs s last (prH h :: t) = (decide (last < h.f0 ∧ h.f0 ≤ 2147483647 ∧ s < h.f1.f0) && (mayP h.f1.f0 h.f1.f1 h.f1.f2 && mayHs s h.f0 t)) := rfl
def prF (f : S50) : Int × List Int := (f.f0, f.f1)
def prsF (l : List S50) : List (Int × List Int) := l.map prF
theorem prsF_len (l : List S50) : (prsF l).length = l.length := by simp [prsF]
theorem rdF_get {l : List S50} {i : Nat} (h : i < l.length) : rd_T50 l (i : Int) = l[i] := by
  simp [rd_T50, h]
theorem dropF_eq {l : List S50} {i : Nat} (h : i < l.length) : l.drop i = rd_T50 l (i : Int) :: l.drop (i + 1) := by
  rw [rdF_get h]
  exact List.drop_eq_getElem_cons h
theorem rdF_mem {l : List S50} {i : Nat} (h : i < l.length) : rd_T50 l (i : Int) ∈ l := by
  rw [rdF_get h]
  exact List.getElem_mem _
def goodF (f : S50) : Prop := (-9223372036854775808 ≤ f.f0 ∧ f.f0 ≤ 9223372036854775807) ∧ f.f1.length ≤ 140737488351232 ∧ Bytes f.f1
theorem point_Check_ev (s a l u : Int) : point_Check.f s a l u = some (if mayP s a l = true then 0 else 1) := by
  simp only [point_Check.f, mayP_iff]
  repeat' split
  all_goals first | rfl | omega
theorem relay_may_l0_ev {s : Int} {l : List S46} (hl : l.length ≤ 1000000000000) : ∀ (d j : Nat) (last : Int), l.length - j = d → j ≤ l.length → Ev (fun k => relay_may.l0 k s last l (l.length : Int) (j : Int)) (mayHs s last (prsH (l.drop j))) := by
  intro d
  induction d with
  | zero =>
    intro j last hd hj
    rw [List.drop_eq_nil_of_le (by omega), ev_succ]
    simp only [relay_may.l0, ev_ite]
    rw [if_neg (by omega), ev_some]
    rfl
  | succ d ih =>
    intro j last hd hj
    have hjl : j < l.length := by omega
    rw [dropH_eq hjl, ev_succ]
    simp only [relay_may.l0, ev_ite]
    generalize rd_T46 l (j : Int) = h
    have e : prsH (h :: l.drop (j + 1)) = prH h :: prsH (l.drop (j + 1)) := rfl
    rw [e, mayHs_prH, if_pos (by omega), if_pos (by omega), if_pos (by omega)]
    by_cases h1 : h.f0 ≤ last
    · rw [if_pos h1, ev_some, decide_eq_false (by omega), Bool.false_and]
    · rw [if_neg h1]
      by_cases h2 : h.f0 > 2147483647
      · rw [if_pos h2, ev_some, decide_eq_false (by omega), Bool.false_and]
      · rw [if_neg h2, ev_bind_c (point_Check_ev _ _ _ _), ev_ite]
        by_cases h3 : mayP h.f1.f0 h.f1.f1 h.f1.f2 = true
        · rw [if_pos (by rw [if_pos h3]), ev_ite, h3]
          by_cases h4 : h.f1.f0 ≤ s
          · rw [if_pos h4, ev_some, decide_eq_false (by omega), Bool.false_and]
          · rw [if_neg h4, decide_eq_true (by omega), Bool.true_and, Bool.true_and]
            have hw : wrap64 ((j : Int) + 1) = ((j + 1 : Nat) : Int) := w64 (by omega) (by omega)
            rw [hw]
            exact ih (j + 1) h.f0 (by omega) (by omega)
        · rw [if_neg (by rw [if_neg h3]; omega), ev_some]
          rw [Bool.not_eq_true] at h3
          rw [h3, Bool.false_and, Bool.and_false]
theorem relay_may_ev (s : Int) {l : List S46} (hl : l.length ≤ 1000000000000) : Ev (fun k => relay_may.f k s l) (mayV s (prsH l)) := by
  have bad : Ev (fun k => relay_may.j0 k s l true) false := by
    rw [ev_succ]
    simp only [relay_may.j0, ev_ite]
    rw [if_pos (by trivial), ev_some]
  simp only [relay_may.f, ev_ite]
  unfold mayV
  rw [prsH_len]
  by_cases h1 : s < 1
  · rw [if_pos h1, decide_eq_false (by omega), Bool.false_and]
    exact bad
  · rw [if_neg h1]
    by_cases h2 : s > 2147483647
    · rw [if_pos h2, decide_eq_false (by omega), Bool.false_and]
      exact bad
    · rw [if_neg h2]
      by_cases h3 : (l.length : Int) > 16384
      · rw [decide_eq_true h3, decide_eq_false (by omega), Bool.false_and]
        exact bad
      · rw [decide_eq_false h3, decide_eq_true (by omega), Bool.true_and, ev_succ]
        simp only [relay_may.j0, ev_ite]
        rw [if_neg (by simp)]
        have := relay_may_l0_ev (s := s) hl (l.length - 0) 0 (-1) rfl (by omega)
        exact this
theorem garnerlaw21_awake_ev : garnerlaw21_awake.f = some true := rfl
theorem frame_within_ev (b : List Int) : frame_within.f b = some (highs b) := rfl
theorem varint_Get_l0_ev (x : List Int) (hb : Bytes x) (hl : x.length ≤ maxLen) : ∀ (d i : Nat) (u : Int), x.length - i = d → i ≤ 10 → i ≤ x.length → 0 ≤ u → u < 2 ^ (7 * i) →
    Ev (fun k => varint_Get.l0 k x u (i : Int)) (match dec i (x.drop i) with | some (v, n) => (u + v * 2 ^ (7 * i), (i : Int) + n, 0) | none => (0, 0, 2)) := by
  have hlm := maxLen_le hl
  intro d
  induction d with
  | zero =>
    intro i u hd hi hix hu0 hu
    rw [ev_succ]
    simp only [varint_Get.l0, ev_ite]
    rw [if_neg (by omega), ev_succ]
    simp only [varint_Get.j1, ev_ite]
    rw [if_neg (by simp), ev_some, List.drop_eq_nil_of_le (by omega)]
    rfl
  | succ d ih =>
    intro i u hd hi hix hu0 hu
    have hlt : i < x.length := by omega
    have hc := hb.rd (i := (i : Int)) (by omega) (by omega)
    rw [ev_succ]
    simp only [varint_Get.l0, ev_ite]
    rw [if_pos (by omega), ev_succ, drop_eq hlt]
    simp only [varint_Get.j1, ev_ite, decide_eq_true_eq]
    generalize hcc : rd x (i : Int) = c at hc ⊢
    by_cases h10 : i = 10
    · subst h10
      rw [if_neg (by omega), ev_some, dec, if_pos (by omega)]
    · rw [if_pos (by omega), if_pos (by omega), if_pos (by omega), wu64 (by omega) (by omega)]
      have hj2 : ∀ b : Bool, b = decide (i = 9 ∧ 1 < c) → Ev (fun k => varint_Get.j2 k x u (i : Int) c b) (match dec i (c :: x.drop (i + 1)) with | some (v, n) => (u + v * 2 ^ (7 * i), (i : Int) + n, 0) | none => (0, 0, 2)) := by
        intro b hbb
        rw [ev_succ]
        simp only [varint_Get.j2, ev_ite, dec]
        rw [if_neg (show ¬ 10 ≤ i by omega)]
        by_cases h9 : i = 9 ∧ 1 < c
        · rw [if_pos (by rw [hbb]; simpa using h9), if_pos h9, ev_some]
        · rw [if_neg (by rw [hbb]; simpa using h9), if_neg h9, w64 (by omega) (by omega), if_pos (by omega)]
          have hsh : ∀ y : Int, 0 ≤ y → y ≤ 127 → (i = 9 → y ≤ 1) → Go.bits .or .u64 u (shl .u64 y (7 * (i : Int))) = u + y * 2 ^ (7 * i) ∧ y * 2 ^ (7 * i) + 2 ^ (7 * i) ≤ (18446744073709551616 : Int) := by
            intro y hy0 hy1 hy9
            have hi' : i = 0 ∨ i = 1 ∨ i = 2 ∨ i = 3 ∨ i = 4 ∨ i = 5 ∨ i = 6 ∨ i = 7 ∨ i = 8 ∨ i = 9 := by omega
            have hs : y * 2 ^ (7 * i) + 2 ^ (7 * i) ≤ (18446744073709551616 : Int) := by
              rcases hi' with rfl | rfl | rfl | rfl | rfl | rfl | rfl | rfl | rfl | rfl <;> simp <;> omega
            have hp : (0 : Int) < 2 ^ (7 * i) := Int.pow_pos (by omega)
            have hm : 0 ≤ y * 2 ^ (7 * i) := Int.mul_nonneg hy0 (by omega)
            have e : (7 * (i : Int)).toNat = 7 * i := by omega
            refine ⟨?_, hs⟩
            unfold shl
            rw [e, Nat.min_eq_left (show 7 * i ≤ IntKind.u64.bits by show 7 * i ≤ 64; omega), wu64 hm (by omega)]
            exact or_u64 (by omega) hu0 hu hy0 (by omega)
          by_cases h128 : c < 128
          · have hm : c % 128 = c := by omega
            rw [if_pos h128, if_pos h128]
            obtain ⟨h1, h2⟩ := hsh c (by omega) (by omega) (fun h => by omega)
            have hr : Ev (fun _ => some (Go.bits .or .u64 u (shl .u64 (Go.bits .andNot .u64 c 128) (7 * (i : Int))), wrap64 ((i : Int) + 1), (0 : Int))) (u + c * 2 ^ (7 * i), (i : Int) + 1, 0) := by
              rw [ev_some, andNot_u64 hc.1 hc.2, hm, h1, w64 (by omega) (by omega)]
            by_cases h0 : c = 0
            · rw [if_pos h0]
              by_cases hi0 : 0 < i
              · rw [if_pos (by omega), if_pos ⟨h0, hi0⟩, ev_some]
              · rw [if_neg (by omega), if_neg (by omega)]
                simp only
                rw [Int.toNat_of_nonneg hc.1]
                exact hr
            · rw [if_neg h0, if_neg (fun h => h0 h.1)]
              simp only
              rw [Int.toNat_of_nonneg hc.1]
              exact hr
          · have hx9 : i ≠ 9 := by omega
            rw [if_neg h128, if_neg h128, andNot_u64 hc.1 hc.2, w64 (by omega) (by omega)]
            obtain ⟨h1, h2⟩ := hsh (c % 128) (by omega) (by omega) (fun h => by omega)
            rw [h1]
            have hp : (0 : Int) < 2 ^ (7 * i) := Int.pow_pos (by omega)
            have hm : 0 ≤ c % 128 * 2 ^ (7 * i) := Int.mul_nonneg (by omega) (by omega)
            have hpow : (2 : Int) ^ (7 * (i + 1)) = 128 * 2 ^ (7 * i) := by
              rw [Nat.mul_add, Int.pow_add]
              omega
            have hlt2 : c % 128 * 2 ^ (7 * i) ≤ 127 * 2 ^ (7 * i) := Int.mul_le_mul_of_nonneg_right (by omega) (by omega)
            have := ih (i + 1) (u + c % 128 * 2 ^ (7 * i)) (by omega) (by omega) (by omega) (by omega) (by omega)
            refine ev_eq this ?_
            cases dec (i + 1) (x.drop (i + 1)) with
            | none => rfl
            | some p =>
              obtain ⟨v, n⟩ := p
              simp only [Option.map_some]
              have e2 : (((c % 128).toNat + 128 * v : Nat) : Int) = c % 128 + 128 * v := by omega
              rw [e2, hpow, Int.add_mul, Int.mul_comm 128 (2 ^ (7 * i)), Int.mul_comm (128 : Int) (v : Int), Int.mul_assoc, Int.mul_comm (128 : Int) (2 ^ (7 * i)), ← Int.add_assoc]
              congr 2
              omega
      by_cases h9 : i = 9
      · rw [if_pos (by omega)]
        exact hj2 _ (by simp [h9])
      · rw [if_neg (by omega)]
        exact hj2 _ (by simp [h9])
theorem varint_Get_ev {x : List Int} (hb : Bytes x) (hl : x.length ≤ maxLen) : Ev (fun k => varint_Get.f k x) (getR x) := by
  have h := varint_Get_l0_ev x hb hl (x.length - 0) 0 0 rfl (by omega) (by omega) (by omega) (by simp)
  refine ev_eq h ?_
  unfold getR
  simp only [List.drop_zero]
  cases dec 0 x with
  | none => rfl
  | some p => simp
theorem len_tab : ∀ x : Fin 256, ∃ n : Fin 9, bt (⟨#[0, 1, 2, 2, 3, 3, 3, 3, 4, 4, 4, 4, 4, 4, 4, 4, 5, 5, 5, 5, 5, 5, 5, 5, 5, 5, 5, 5, 5, 5, 5, 5, 6, 6, 6, 6, 6, 6, 6, 6, 6, 6, 6, 6, 6, 6, 6, 6, 6, 6, 6, 6, 6, 6, 6, 6, 6, 6, 6, 6, 6, 6, 6, 6, 7, 7, 7, 7, 7, 7, 7, 7, 7, 7, 7, 7, 7, 7, 7, 7, 7, 7, 7, 7, 7, 7, 7, 7, 7, 7, 7, 7, 7, 7, 7, 7, 7, 7, 7, 7, 7, 7, 7, 7, 7, 7, 7, 7, 7, 7, 7, 7, 7, 7, 7, 7, 7, 7, 7, 7, 7, 7, 7, 7, 7, 7, 7, 7, 8, 8, 8, 8, 8, 8, 8, 8, 8, 8, 8, 8, 8, 8, 8, 8, 8, 8, 8, 8, 8, 8, 8, 8, 8, 8, 8, 8, 8, 8, 8, 8, 8, 8, 8, 8, 8, 8, 8, 8, 8, 8, 8, 8, 8, 8, 8, 8, 8, 8, 8, 8, 8, 8, 8, 8, 8, 8, 8, 8, 8, 8, 8, 8, 8, 8, 8, 8, 8, 8, 8, 8, 8, 8, 8, 8, 8, 8, 8, 8, 8, 8, 8, 8, 8, 8, 8, 8, 8, 8, 8, 8, 8, 8, 8, 8, 8, 8, 8, 8, 8, 8, 8, 8, 8, 8, 8, 8, 8, 8, 8, 8, 8, 8, 8, 8, 8, 8, 8, 8, 8, 8, 8, 8, 8, 8, 8, 8]⟩ : ByteArray) (x.val : Int) = (n.val : Int) ∧ x.val < 2 ^ n.val ∧ (n.val = 0 ∨ 2 ^ (n.val - 1) ≤ x.val) := by decide +kernel
theorem len_tab' {x : Nat} (h : x < 256) : ∃ n : Nat, n ≤ 8 ∧ bt (⟨#[0, 1, 2, 2, 3, 3, 3, 3, 4, 4, 4, 4, 4, 4, 4, 4, 5, 5, 5, 5, 5, 5, 5, 5, 5, 5, 5, 5, 5, 5, 5, 5, 6, 6, 6, 6, 6, 6, 6, 6, 6, 6, 6, 6, 6, 6, 6, 6, 6, 6, 6, 6, 6, 6, 6, 6, 6, 6, 6, 6, 6, 6, 6, 6, 7, 7, 7, 7, 7, 7, 7, 7, 7, 7, 7, 7, 7, 7, 7, 7, 7, 7, 7, 7, 7, 7, 7, 7, 7, 7, 7, 7, 7, 7, 7, 7, 7, 7, 7, 7, 7, 7, 7, 7, 7, 7, 7, 7, 7, 7, 7, 7, 7, 7, 7, 7, 7, 7, 7, 7, 7, 7, 7, 7, 7, 7, 7, 7, 8, 8, 8, 8, 8, 8, 8, 8, 8, 8, 8, 8, 8, 8, 8, 8, 8, 8, 8, 8, 8, 8, 8, 8, 8, 8, 8, 8, 8, 8, 8, 8, 8, 8, 8, 8, 8, 8, 8, 8, 8, 8, 8, 8, 8, 8, 8, 8, 8, 8, 8, 8, 8, 8, 8, 8, 8, 8, 8, 8, 8, 8, 8, 8, 8, 8, 8, 8, 8, 8, 8, 8, 8, 8, 8, 8, 8, 8, 8, 8, 8, 8, 8, 8, 8, 8, 8, 8, 8, 8, 8, 8, 8, 8, 8, 8, 8, 8, 8, 8, 8, 8, 8, 8, 8, 8, 8, 8, 8, 8, 8, 8, 8, 8, 8, 8, 8, 8, 8, 8, 8, 8, 8, 8, 8, 8, 8, 8]⟩ : ByteArray) (x : Int) = (n : Int) ∧ IsLen n x := by
  obtain ⟨n, h1, h2, h3⟩ := len_tab ⟨x, h⟩
  exact ⟨n.val, by omega, h1, h2, h3⟩
theorem bits_Len64_ev (u : Nat) (hu : u < 18446744073709551616) : ∃ n : Nat, n ≤ 64 ∧ IsLen n u ∧ Ev (fun k => bits_Len64.f k (u : Int)) (n : Int) := by
  have hj : ∀ (v m : Nat), v < 4294967296 → m ≤ 32 → ∃ n : Nat, n ≤ 32 ∧ IsLen n v ∧ Ev (fun k => bits_Len64.j0 k (v : Int) (m : Int)) ((m + n : Nat) : Int) := by
    intro v m hv hm
    by_cases h1 : 65536 ≤ v
    · have e1 : (v : Int) / 65536 = ((v / 65536 : Nat) : Int) := rfl
      by_cases h2 : 256 ≤ v / 65536
      · have e2 : ((v / 65536 : Nat) : Int) / 256 = ((v / 65536 / 256 : Nat) : Int) := rfl
        obtain ⟨n, hn, ht, hl⟩ := len_tab' (x := v / 65536 / 256) (by omega)
        have hl2 : IsLen (n + 8 + 16) v := isLen_div (k := 16) (by omega) (isLen_div (k := 8) (by omega) hl)
        refine ⟨n + 8 + 16, by omega, hl2, ?_⟩
        rw [ev_succ]
        simp only [bits_Len64.j0, ev_ite, e1, e2]
        have e3 : ((v / 65536 / 256 : Nat) : Int) % 256 = ((v / 65536 / 256 : Nat) : Int) := by omega
        rw [if_pos (by omega), if_pos (by omega), e3, if_pos (by omega), if_pos (by omega), ht, w64 (x := (n : Int)) (by omega) (by omega), w64 (x := (m : Int) + 16) (by omega) (by omega), w64 (x := (m : Int) + 16 + 8) (by omega) (by omega), w64 (by omega) (by omega), ev_some]
        omega
      · obtain ⟨n, hn, ht, hl⟩ := len_tab' (x := v / 65536) (by omega)
        have hl2 : IsLen (n + 16) v := isLen_div (k := 16) (by omega) hl
        refine ⟨n + 16, by omega, hl2, ?_⟩
        rw [ev_succ]
        simp only [bits_Len64.j0, ev_ite, e1]
        have e3 : ((v / 65536 : Nat) : Int) % 256 = ((v / 65536 : Nat) : Int) := by omega
        rw [if_pos (by omega), if_neg (by omega), e3, if_pos (by omega), if_pos (by omega), ht, w64 (x := (n : Int)) (by omega) (by omega), w64 (x := (m : Int) + 16) (by omega) (by omega), w64 (by omega) (by omega), ev_some]
        omega
    · by_cases h2 : 256 ≤ v
      · have e2 : (v : Int) / 256 = ((v / 256 : Nat) : Int) := rfl
        obtain ⟨n, hn, ht, hl⟩ := len_tab' (x := v / 256) (by omega)
        have hl2 : IsLen (n + 8) v := isLen_div (k := 8) (by omega) hl
        refine ⟨n + 8, by omega, hl2, ?_⟩
        rw [ev_succ]
        simp only [bits_Len64.j0, ev_ite, e2]
        have e3 : ((v / 256 : Nat) : Int) % 256 = ((v / 256 : Nat) : Int) := by omega
        rw [if_neg (by omega), if_pos (by omega), e3, if_pos (by omega), if_pos (by omega), ht, w64 (x := (n : Int)) (by omega) (by omega), w64 (x := (m : Int) + 8) (by omega) (by omega), w64 (by omega) (by omega), ev_some]
        omega
      · obtain ⟨n, hn, ht, hl⟩ := len_tab' (x := v) (by omega)
        refine ⟨n, by omega, hl, ?_⟩
        rw [ev_succ]
        simp only [bits_Len64.j0, ev_ite]
        have e3 : (v : Int) % 256 = (v : Int) := by omega
        rw [if_neg (by omega), if_neg (by omega), e3, if_pos (by omega), if_pos (by omega), ht, w64 (x := (n : Int)) (by omega) (by omega), w64 (by omega) (by omega), ev_some]
        omega
  simp only [bits_Len64.f, ev_ite]
  by_cases h : 4294967296 ≤ u
  · obtain ⟨n, h1, h2, h3⟩ := hj (u / 4294967296) 32 (by omega) (by omega)
    refine ⟨n + 32, by omega, isLen_div (k := 32) (by omega) h2, ?_⟩
    rw [if_pos (by omega)]
    refine ev_eq h3 ?_
    omega
  · obtain ⟨n, h1, h2, h3⟩ := hj u 0 (by omega) (by omega)
    refine ⟨n, by omega, h2, ?_⟩
    rw [if_neg (by omega)]
    refine ev_eq h3 ?_
    omega
theorem varint_Size_ev (u : Nat) (hu : u < 18446744073709551616) : Ev (fun k => varint_Size.f k (u : Int)) ((one u).length : Int) := by
  obtain ⟨n, h1, h2, h3⟩ := bits_Len64_ev u hu
  simp only [varint_Size.f]
  rw [ev_bind h3, ev_some, one_size h2, w64 (x := (n : Int) + 7) (by omega) (by omega), w64 (x := (n : Int) + 7 - 1) (by omega) (by omega), Int.tdiv_eq_ediv_of_nonneg (by omega), w64 (by omega) (by omega)]
  unfold mx
  split <;> omega
theorem frame_Head_ev (n : Int) (hn : -9223372036854775808 ≤ n ∧ n ≤ 9223372036854775807) : Ev (fun k => frame_Head.f k n) (if n < 0 ∨ 1048576 < n then 0 else ((one n.toNat).length : Int) + 1) := by
  simp only [frame_Head.f, ev_ite]
  by_cases h : n < 0 ∨ 1048576 < n
  · rw [if_pos h]
    repeat' split
    all_goals first | (rw [ev_some]) | omega
  · have h10 := one_len10 (u := n.toNat) (by omega)
    have hs := varint_Size_ev n.toNat (by omega)
    rw [Int.toNat_of_nonneg (by omega)] at hs
    rw [if_neg h, if_neg (by omega), if_neg (by omega), wu64 (by omega) (by omega), ev_bind hs, ev_some, w64 (by omega) (by omega)]
theorem frame_Size_ev (n : Int) (hn : -9223372036854775808 ≤ n ∧ n ≤ 9223372036854775807) : Ev (fun k => frame_Size.f k n) (if n < 0 ∨ 1048576 < n then 0 else ((one n.toNat).length : Int) + 1 + n + 4) := by
  simp only [frame_Size.f]
  rw [ev_bind (frame_Head_ev n hn), ev_ite]
  by_cases h : n < 0 ∨ 1048576 < n
  · rw [if_pos h, if_pos h, if_pos (by trivial), ev_some]
  · have h10 := one_len10 (u := n.toNat) (by omega)
    rw [if_neg h, if_neg h, if_neg (by omega), ev_some, w64 (x := ((one n.toNat).length : Int) + 1 + n) (by omega) (by omega), w64 (by omega) (by omega)]
theorem frame_sumOf_ev {x : List Int} (hb : Bytes x) (h : 4 ≤ x.length) : frame_sumOf.f x = some (sumAt x 0) := by
  have h0 := hb.rd (i := 0) (by omega) (by omega)
  have h1 := hb.rd (i := 1) (by omega) (by omega)
  have h2 := hb.rd (i := 2) (by omega) (by omega)
  have h3 := hb.rd (i := 3) (by omega) (by omega)
  unfold frame_sumOf.f
  rw [if_pos (by omega), if_pos (by omega), if_pos (by omega), if_pos (by omega)]
  have e : sumAt x 0 = rd x 0 + 256 * rd x 1 + 65536 * rd x 2 + 16777216 * rd x 3 := rfl
  rw [e]
  generalize rd x 0 = a at *
  generalize rd x 1 = b at *
  generalize rd x 2 = c at *
  generalize rd x 3 = d at *
  have e1 : a % 4294967296 = a := by omega
  have e2 : b % 4294967296 * 256 % 4294967296 = b * 2 ^ 8 := by omega
  have e3 : c % 4294967296 * 65536 % 4294967296 = c * 2 ^ 16 := by omega
  have e4 : d % 4294967296 * 16777216 % 4294967296 = d * 2 ^ 24 := by omega
  have e5 := or_u32 (j := 8) (x := a) (y := b) (by omega) (by omega) (by omega) (by omega) (by omega)
  have e6 := or_u32 (j := 16) (x := a + b * 2 ^ 8) (y := c) (by omega) (by omega) (by omega) (by omega) (by omega)
  have e7 := or_u32 (j := 24) (x := a + b * 2 ^ 8 + c * 2 ^ 16) (y := d) (by omega) (by omega) (by omega) (by omega) (by omega)
  rw [e1, e2, e3, e4, e5, e6, e7]
  congr 1
  omega
theorem mixStep_lt {x : Nat} (h : x < 4294967296) : mixStep x < 4294967296 := by
  unfold mixStep
  split
  · exact xor_lt32 (by omega) (by unfold poly; omega)
  · rw [Nat.xor_zero]; omega
theorem crc_step {x : Nat} (h : x < 4294967296) : Go.bits .xor .u32 ((x : Int) / 2) (Go.bits .and .u32 2197175160 ((-(Go.bits .and .u32 (x : Int) 1)) % 4294967296)) = (mixStep x : Int) := by
  have e1 : Go.bits .and .u32 (x : Int) 1 = ((x &&& 1 : Nat) : Int) := and32 (b := 1) h (by decide)
  rw [Nat.and_one_is_mod] at e1
  rw [e1]
  unfold mixStep
  have e2 : (x : Int) / 2 = ((x / 2 : Nat) : Int) := rfl
  rw [e2]
  rcases Nat.mod_two_eq_zero_or_one x with hx | hx
  · rw [hx]
    have e3 : (-((0 : Nat) : Int)) % 4294967296 = ((0 : Nat) : Int) := by omega
    have e4 : Go.bits .and .u32 2197175160 ((0 : Nat) : Int) = ((2197175160 &&& 0 : Nat) : Int) := and32 (a := 2197175160) (b := 0) (by decide) (by decide)
    rw [e3, e4, Nat.and_zero, xor32 (by omega) (by omega), if_neg (by omega)]
  · rw [hx]
    have e3 : (-((1 : Nat) : Int)) % 4294967296 = ((4294967295 : Nat) : Int) := by omega
    have e4 : Go.bits .and .u32 2197175160 ((4294967295 : Nat) : Int) = ((2197175160 &&& 4294967295 : Nat) : Int) := and32 (a := 2197175160) (b := 4294967295) (by decide) (by decide)
    have e5 : 2197175160 &&& 4294967295 = poly := by decide
    rw [e3, e4, e5, xor32 (by omega) (by unfold poly; omega), if_pos rfl]
theorem crc_More_l1_ev (l : List Int) (hl : l.length ≤ maxLen) (j : Nat) (hj : j < l.length) (r : Int) : ∀ (d x : Nat), d ≤ 8 → x < 4294967296 → Ev (fun k => crc_More.l0 k (mixSteps d x : Nat) l (l.length : Int) ((j : Int) + 1)) r →
    Ev (fun k => crc_More.l1 k (x : Int) l (l.length : Int) (j : Int) (8 - (d : Int))) r := by
  have hlm := maxLen_le hl
  intro d
  induction d with
  | zero =>
    intro x hd hx hr
    rw [ev_succ]
    simp only [crc_More.l1, ev_ite]
    rw [if_neg (by omega), w64 (by omega) (by omega)]
    exact hr
  | succ d ih =>
    intro x hd hx hr
    rw [ev_succ]
    simp only [crc_More.l1, ev_ite]
    rw [if_pos (by omega), crc_step hx, w64 (by omega) (by omega)]
    have e : 8 - ((d + 1 : Nat) : Int) + 1 = 8 - (d : Int) := by omega
    rw [e]
    exact ih _ (by omega) (mixStep_lt hx) hr
theorem crc_More_l0_ev (l : List Int) (hl : l.length ≤ maxLen) (hb : Bytes l) : ∀ (d j r : Nat), l.length - j = d → j ≤ l.length → r < 4294967296 → Ev (fun k => crc_More.l0 k (r : Int) l (l.length : Int) (j : Int)) ((4294967295 ^^^ crcRun r (l.drop j) : Nat) : Int) := by
  intro d
  induction d with
  | zero =>
    intro j r hd hj hr
    rw [ev_succ]
    simp only [crc_More.l0, ev_ite]
    have e : Go.bits .xor .u32 4294967295 (r : Int) = ((4294967295 ^^^ r : Nat) : Int) := xor32 (a := 4294967295) (by decide) hr
    rw [if_neg (by omega), ev_some, List.drop_eq_nil_of_le (by omega), e]
    rfl
  | succ d ih =>
    intro j r hd hj hr
    have hc := hb.rd (i := (j : Int)) (by omega) (by omega)
    rw [ev_succ]
    simp only [crc_More.l0, ev_ite]
    obtain ⟨c, hce⟩ := Int.eq_ofNat_of_zero_le hc.1
    have e : Go.bits .xor .u32 (r : Int) (rd l (j : Int) % 4294967296) = ((r ^^^ c : Nat) : Int) := by
      rw [hce]
      have : (c : Int) % 4294967296 = (c : Int) := by omega
      rw [this]
      exact xor32 hr (by omega)
    rw [if_pos (by omega), if_pos (by omega), if_pos (by omega), e]
    have e2 : (0 : Int) = 8 - ((8 : Nat) : Int) := by omega
    rw [e2]
    refine crc_More_l1_ev l hl j (by omega) _ 8 _ (by omega) (xor_lt32 hr (by omega)) ?_
    rw [mix_byte (by omega)]
    refine ev_eq (ih (j + 1) _ (by omega) (by omega) (crcByte_lt hr)) ?_
    rw [drop_eq (xs := l) (i := j) (by omega), hce]
    rfl
theorem crc_More_ev {s : Nat} {l : List Int} (hs : s < 4294967296) (hl : l.length ≤ maxLen) (hb : Bytes l) : Ev (fun k => crc_More.f k (s : Int) l) ((4294967295 ^^^ crcRun (4294967295 ^^^ s) l : Nat) : Int) := by
  simp only [crc_More.f]
  have e : Go.bits .xor .u32 4294967295 (s : Int) = ((4294967295 ^^^ s : Nat) : Int) := xor32 (a := 4294967295) (by decide) hs
  rw [e]
  exact crc_More_l0_ev l hl hb (l.length - 0) 0 _ rfl (by omega) (xor_lt32 (by omega) hs)
theorem crc_Of_ev {l : List Int} (hl : l.length ≤ maxLen) (hb : Bytes l) : Ev (fun k => crc_Of.f k l) (crcOf l : Int) := by
  simp only [crc_Of.f]
  have h : Ev (fun k => crc_More.f k 0 l) ((4294967295 ^^^ crcRun (4294967295 ^^^ 0) l : Nat) : Int) := crc_More_ev (s := 0) (by omega) hl hb
  rw [ev_bind h, ev_some, Nat.xor_zero]
  rfl
theorem frame_sum_ev {kind : Int} {body : List Int} (hk : 0 ≤ kind ∧ kind ≤ 255) (hl : body.length ≤ maxLen) (hb : Bytes body) : Ev (fun k => frame_sum.f k kind body) (sumF kind body : Int) := by
  simp only [frame_sum.f]
  have h1 : Ev (fun k => crc_Of.f k [kind]) (crcOf [kind] : Int) := crc_Of_ev (by simp [maxLen]) (by intro x hx; rw [List.mem_singleton.1 hx]; omega)
  rw [ev_bind h1, ev_bind (crc_More_ev (crcOf_lt _) hl hb), ev_some]
  have e : 4294967295 ^^^ crcOf [kind] = crcRun 4294967295 [kind] := by
    unfold crcOf
    rw [← Nat.xor_assoc, Nat.xor_self, Nat.zero_xor]
  rw [e, ← crcRun_append]
  rfl
theorem slices_Clone_byte_byte_ev {b : List Int} (h : b.length < 140737488355328) : slices_Clone_byte_byte.f b = some b := by
  unfold slices_Clone_byte_byte.f
  rw [if_pos h]
theorem sumAt_drop (b : List Int) (i : Nat) : sumAt (b.drop i) 0 = sumAt b i := by
  have e : ∀ (n : Nat) (m k : Int), m = (n : Int) → k = ((i + n : Nat) : Int) → rd (b.drop i) m = rd b k := by
    rintro n m k rfl rfl
    rw [rd_nat, rd_nat, List.getD_eq_getElem?_getD, List.getD_eq_getElem?_getD, List.getElem?_drop]
  unfold sumAt
  rw [e 0 _ (i : Int) (by omega) (by omega), e 1 _ ((i : Int) + 1) (by omega) (by omega), e 2 _ ((i : Int) + 2) (by omega) (by omega), e 3 _ ((i : Int) + 3) (by omega) (by omega)]
theorem frame_First_ev {b : List Int} (hb : Bytes b) (hl : b.length ≤ maxLen) : Ev (fun k => frame_First.f k b) (firstR b) := by
  have hlm := maxLen_le hl
  simp only [frame_First.f]
  rw [ev_bind_c (frame_within_ev b), ev_ite]
  unfold firstR
  by_cases hh : highs b = true
  · rw [if_pos hh, if_pos hh, ev_some]
  rw [if_neg hh, if_neg hh, ev_bind (varint_Get_ev hb hl)]
  unfold getR
  rcases dec_cases b with hd | ⟨u, n, hd⟩
  · rw [hd]
    simp only
    rw [ev_ite, if_neg (by omega), ev_succ]
    simp only [frame_First.j0, ev_ite]
    rw [if_pos (by trivial), ev_some]
  · have hp := dec_pos hb hd
    obtain ⟨h1, ⟨m, h2⟩, h3⟩ := (dec_iff hb).1 hd
    rw [hd]
    simp only
    rw [ev_ite, if_pos (by trivial), ev_succ]
    simp only [frame_First.j0, ev_ite, decide_eq_true_eq]
    by_cases c1 : 1048576 < u
    · rw [if_pos (by omega), if_pos c1, ev_some]
    rw [if_neg (by omega), if_neg c1]
    by_cases c2 : b.length = n
    · rw [if_pos (by omega), if_pos c2, ev_some]
    rw [if_neg (by omega), if_neg c2, if_pos (by omega), if_pos (by omega)]
    have hr := hb.rd (i := (n : Int)) (by omega) (by omega)
    by_cases c3a : rd b (n : Int) < 1
    · rw [if_pos c3a, if_pos (.inl c3a), ev_some]
    by_cases c3b : rd b (n : Int) > 250
    · rw [if_neg c3a, if_pos c3b, if_pos (.inr c3b), ev_some]
    have hs := frame_Size_ev (u : Int) (by omega)
    rw [if_neg (by omega), Int.toNat_natCast, ← h3] at hs
    rw [if_neg c3a, if_neg c3b, if_neg (by omega), w64 (x := (u : Int)) (by omega) (by omega), ev_bind hs, ev_ite]
    by_cases c4 : b.length < n + 1 + u + 4
    · rw [if_pos (by omega), if_pos c4, ev_some]
    have t1 : ((n : Int) + 1 + (u : Int)).toNat = n + 1 + u := by omega
    have t2 : ((n : Int) + 1).toNat = n + 1 := by omega
    have t3 : n + 1 + u - (n + 1) = u := by omega
    have hlen : ((b.drop (n + 1)).take u).length = u := by rw [List.length_take, List.length_drop]; omega
    rw [if_neg (by omega), if_neg c4, w64 (x := (n : Int) + 1) (by omega) (by omega), w64 (x := (n : Int) + 1 + (u : Int)) (by omega) (by omega), ev_ite, if_pos (by omega), ev_ite, if_pos (by omega), ev_ite, if_pos (by omega), ev_ite, if_pos (by omega), t1, t2, List.drop_take, t3]
    rw [ev_bind_c (frame_sumOf_ev (hb.drop _) (by rw [List.length_drop]; omega)), ev_bind (frame_sum_ev (by omega) (by rw [hlen]; unfold maxLen; omega) ((hb.drop _).take _)), ev_ite, sumAt_drop]
    by_cases c5 : sumAt b (n + 1 + u) = (sumF (rd b (n : Int)) ((b.drop (n + 1)).take u) : Int)
    · rw [if_pos c5, if_pos c5, ev_bind_c (slices_Clone_byte_byte_ev (by rw [hlen]; omega)), ev_bind hs, ev_some, w64 (by omega) (by omega)]
      congr 3
    · rw [if_neg c5, if_neg c5, ev_some]
theorem varint_All_l0_ev (x : List Int) (hb : Bytes x) (hl : x.length ≤ maxLen) (n : Nat) (hn : n ≤ 1000) : ∀ (d j at_ : Nat) (l : List Int), d + j = n → l.length = j → at_ ≤ x.length →
    Ev (fun k => varint_All.l0 k x l (at_ : Int) (n : Int) (j : Int)) (if (decs d (x.drop at_)).2.2 = true then (l ++ (decs d (x.drop at_)).1, (at_ : Int) + ((decs d (x.drop at_)).2.1 : Int), 0) else ([], (at_ : Int) + ((decs d (x.drop at_)).2.1 : Int), 2)) := by
  have hlm := maxLen_le hl
  intro d
  induction d with
  | zero =>
    intro j at_ l hd hj ha
    rw [ev_succ]
    simp only [varint_All.l0, ev_ite]
    rw [if_neg (by omega), ev_some]
    simp [decs]
  | succ d ih =>
    intro j at_ l hd hj ha
    have hb' := hb.drop at_
    rw [ev_succ]
    simp only [varint_All.l0, ev_ite]
    rw [if_pos (by omega), if_pos (by omega), if_pos (by omega), Int.toNat_natCast, ev_bind (varint_Get_ev hb' (by rw [List.length_drop]; omega))]
    simp only [ev_ite, decs, getR]
    rcases dec_cases (x.drop at_) with hdec | ⟨u, k, hdec⟩
    · simp only [hdec, ev_ite]
      rw [if_neg (by omega), ev_some, if_neg (by simp)]
      simp
    · have hk := dec_pos hb' hdec
      rw [List.length_drop] at hk
      simp only [hdec, ev_ite]
      rw [if_pos (by trivial), if_pos (by omega), w64 (by omega) (by omega), w64 (by omega) (by omega)]
      have := ih (j + 1) (at_ + k) (l ++ [(u : Int)]) (by omega) (by simp [hj]) (by omega)
      rw [Int.natCast_add, Int.natCast_add] at this
      refine ev_eq this ?_
      rw [List.drop_drop]
      simp only [List.append_assoc, List.singleton_append]
      split <;> (congr 2; omega)
theorem varint_All_ev {x : List Int} (hb : Bytes x) (hl : x.length ≤ maxLen) (n : Nat) (hn : n ≤ 1000) : Ev (fun k => varint_All.f k x (n : Int)) (allR n x) := by
  simp only [varint_All.f, ev_ite]
  rw [if_neg (by omega), ev_succ]
  simp only [varint_All.j0, ev_ite, decide_eq_true_eq]
  rw [if_neg (by omega)]
  have := varint_All_l0_ev x hb hl n hn n 0 0 [] (by omega) rfl (by omega)
  refine ev_eq this ?_
  unfold allR
  simp
theorem slices_Max_uint64_uint64_l0_ev (x : List Int) (hl : x.length ≤ maxLen) : ∀ (d i : Nat) (m : Int), x.length - i = d → i ≤ x.length → Ev (fun k => slices_Max_uint64_uint64.l0 k x m (i : Int)) ((x.drop i).foldl mx m) := by
  have hlm := maxLen_le hl
  intro d
  induction d with
  | zero =>
    intro i m hd hi
    rw [ev_succ]
    simp only [slices_Max_uint64_uint64.l0, ev_ite]
    rw [if_neg (by omega), ev_some, List.drop_eq_nil_of_le (by omega)]
    rfl
  | succ d ih =>
    intro i m hd hi
    rw [ev_succ]
    simp only [slices_Max_uint64_uint64.l0, ev_ite]
    rw [if_pos (by omega), if_pos (by omega), w64 (by omega) (by omega), drop_eq (xs := x) (by omega)]
    exact ih (i + 1) _ (by omega) (by omega)
theorem slices_Max_uint64_uint64_ev {x : List Int} (hl : x.length ≤ maxLen) (h0 : 0 < x.length) : Ev (fun k => slices_Max_uint64_uint64.f k x) (maxl x) := by
  simp only [slices_Max_uint64_uint64.f, ev_ite]
  rw [if_neg (by omega), if_pos (by omega)]
  refine ev_eq (slices_Max_uint64_uint64_l0_ev x hl (x.length - 1) 1 (rd x 0) rfl (by omega)) ?_
  match x, h0 with
  | y :: r, _ => rfl
theorem point_sumOf_ev {x : List Int} (hb : Bytes x) (h : 4 ≤ x.length) : point_sumOf.f x = some (sumAt x 0) := by
  have h0 := hb.rd (i := 0) (by omega) (by omega)
  have h1 := hb.rd (i := 1) (by omega) (by omega)
  have h2 := hb.rd (i := 2) (by omega) (by omega)
  have h3 := hb.rd (i := 3) (by omega) (by omega)
  unfold point_sumOf.f
  rw [if_pos (by omega), if_pos (by omega), if_pos (by omega), if_pos (by omega)]
  have e : sumAt x 0 = rd x 0 + 256 * rd x 1 + 65536 * rd x 2 + 16777216 * rd x 3 := rfl
  rw [e]
  generalize rd x 0 = a at *
  generalize rd x 1 = b at *
  generalize rd x 2 = c at *
  generalize rd x 3 = d at *
  have e1 : a % 4294967296 = a := by omega
  have e2 : b % 4294967296 * 256 % 4294967296 = b * 2 ^ 8 := by omega
  have e3 : c % 4294967296 * 65536 % 4294967296 = c * 2 ^ 16 := by omega
  have e4 : d % 4294967296 * 16777216 % 4294967296 = d * 2 ^ 24 := by omega
  have e5 := or_u32 (j := 8) (x := a) (y := b) (by omega) (by omega) (by omega) (by omega) (by omega)
  have e6 := or_u32 (j := 16) (x := a + b * 2 ^ 8) (y := c) (by omega) (by omega) (by omega) (by omega) (by omega)
  have e7 := or_u32 (j := 24) (x := a + b * 2 ^ 8 + c * 2 ^ 16) (y := d) (by omega) (by omega) (by omega) (by omega) (by omega)
  rw [e1, e2, e3, e4, e5, e6, e7]
  congr 1
  omega
theorem point_Get_ev {x : List Int} (hb : Bytes x) (hl : x.length ≤ maxLen) : Ev (fun k => point_Get.f k x) ((pointR x).1, (pointR x).2.1, (pointR x).2.2.1, (pointR x).2.2.2.1, (pointR x).2.2.2.2, if (pointR x).2.2.2.2 = 0 then 2 else 0) := by
  have hlm := maxLen_le hl
  have hbad : ∀ l a, Ev (fun k => point_Get.j0 k x l a true) (0, 0, 0, 0, 0, 2) := by
    intro l a
    rw [ev_succ]
    simp [point_Get.j0, ev_ite, ev_some]
  simp only [point_Get.f]
  have h3 : Ev (fun k => varint_All.f k x 3) (allR 3 x) := varint_All_ev hb hl 3 (by omega)
  rw [ev_bind h3]
  simp only [allR]
  by_cases h : (decs 3 x).2.2 = true
  · obtain ⟨u, v, w, h1, h2, h3, h4⟩ := decs_three hb h
    have hat := decs_at (n := 3) hb
    simp only [pointR, h, if_true, h1, ev_ite, true_and]
    have r0 : rd [u, v, w] 0 = u := rfl
    have r1 : rd [u, v, w] 1 = v := rfl
    have r2 : rd [u, v, w] 2 = w := rfl
    have l3 : (([u, v, w] : List Int).length : Int) = 3 := rfl
    have hm : Ev (fun k => slices_Max_uint64_uint64.f k [u, v, w]) (mx (mx u v) w) := slices_Max_uint64_uint64_ev (x := [u, v, w]) (by simp [maxLen]) (by simp)
    have hmx : (mx (mx u v) w > 2147483647) ↔ (2147483647 < u ∨ 2147483647 < v ∨ 2147483647 < w) := by unfold mx; repeat' split <;> omega
    rw [ev_bind hm]
    simp only [ev_ite, r0, r1, r2, hmx]
    by_cases hbig : 2147483647 < u ∨ 2147483647 < v ∨ 2147483647 < w
    · have hn : ¬ mayP u v w = true := by rw [mayP_iff]; omega
      rw [if_pos hbig, if_neg (fun hh => hn hh.2)]
      exact hbad _ _
    · rw [if_neg hbig, w64 (by omega) (by omega)]
      by_cases h4 : (decs 3 x).2.1 + 4 ≤ x.length
      · have e : decide ((x.length : Int) - ((decs 3 x).2.1 : Int) < 4) = false := by rw [decide_eq_false_iff_not]; omega
        rw [e, ev_succ]
        simp only [point_Get.j0, ev_ite, l3, Int.reduceLT, if_true, Bool.false_eq_true, if_false, r0, r1, r2, Int.toNat_natCast]
        rw [if_pos (by omega), if_pos (by omega), ev_bind_c (point_sumOf_ev (hb.drop _) (by rw [List.length_drop]; omega))]
        rw [ev_bind_c (point_Check_ev _ _ _ _), ev_ite, ev_some, ev_some, w64 (x := u) (by omega) (by omega), w64 (x := v) (by omega) (by omega), w64 (x := w) (by omega) (by omega), w64 (by omega) (by omega)]
        have es : sumAt (x.drop (decs 3 x).2.1) 0 = sumAt x (decs 3 x).2.1 := by
          have er : ∀ (j : Nat) (n : Int), n = ((decs 3 x).2.1 : Int) + j → rd (x.drop (decs 3 x).2.1) (j : Int) = rd x n := by
            intro j n hn
            subst hn
            have : ((decs 3 x).2.1 : Int) + (j : Int) = (((decs 3 x).2.1 + j : Nat) : Int) := by omega
            rw [this, rd_nat, rd_nat]
            simp [List.getD_eq_getElem?_getD]
          unfold sumAt
          rw [← er 0 _ (by omega), ← er 1 _ (by omega), ← er 2 _ (by omega), ← er 3 _ (by omega)]
          rfl
        rw [es]
        by_cases hm : mayP u v w = true
        · rw [if_pos hm, if_pos (by trivial), if_pos ⟨h4, hm⟩]
          simp only
          rw [if_neg (by omega)]
        · rw [if_neg hm, if_neg (by omega), if_neg (fun hh => hm hh.2)]
          rfl
      · have e : decide ((x.length : Int) - ((decs 3 x).2.1 : Int) < 4) = true := by rw [decide_eq_true_eq]; omega
        rw [e, if_neg (fun hh => h4 hh.1)]
        exact hbad _ _
  · have hf : (decs 3 x).2.2 = false := by simpa using h
    simp only [pointR, hf, ev_ite, Bool.false_eq_true, if_false, false_and]
    rw [if_neg (by omega)]
    exact hbad _ _
theorem relay_hop_ev {x : List Int} (hb : Bytes x) (hl : x.length ≤ 1000000000000) : ∃ r, Ev (fun k => relay_hop.f k x) r ∧ (match hopR x with
    | none => r.2.2.2.2.2.2 = false
    | some y => r = (y.1.1, y.1.2.1, y.1.2.2.1, y.1.2.2.2.1, y.1.2.2.2.2, y.2, true)) := by
  obtain ⟨g1, g2, g3, g4, g5, g6⟩ := getR_le hb
  have hml : x.length ≤ maxLen := by unfold maxLen; omega
  by_cases h1 : (getR x).2.1 = 0
  · refine ⟨(0, 0, 0, 0, 0, [], false), ?_, ?_⟩
    · simp only [relay_hop.f]
      rw [ev_bind (varint_Get_ev hb hml), ev_ite, if_neg (fun h => g6.1 h h1), ev_some]
    · unfold hopR
      rw [if_pos (.inl h1)]
  · have h1' := g6.2 h1
    by_cases h2 : 2147483647 < (getR x).1
    · refine ⟨(0, 0, 0, 0, 0, [], false), ?_, ?_⟩
      · simp only [relay_hop.f]
        rw [ev_bind (varint_Get_ev hb hml), ev_ite, if_pos h1', ev_ite, if_pos h2, ev_some]
      · unfold hopR
        rw [if_pos (.inr (.inl h2))]
    · have hd : Bytes (x.drop (getR x).2.1.toNat) := hb.drop _
      have hp := pointR_le (x.drop (getR x).2.1.toNat)
      have hpg := point_Get_ev hd (by rw [List.length_drop]; omega)
      rw [List.length_drop] at hp
      refine ⟨((getR x).1, (pointR (x.drop (getR x).2.1.toNat)).1, (pointR (x.drop (getR x).2.1.toNat)).2.1, (pointR (x.drop (getR x).2.1.toNat)).2.2.1, (pointR (x.drop (getR x).2.1.toNat)).2.2.2.1, x.drop ((getR x).2.1 + (pointR (x.drop (getR x).2.1.toNat)).2.2.2.2).toNat, ((if (pointR (x.drop (getR x).2.1.toNat)).2.2.2.2 = 0 then (2 : Int) else 0) == 0)), ?_, ?_⟩
      · simp only [relay_hop.f]
        rw [ev_bind (varint_Get_ev hb hml), ev_ite, if_pos h1', ev_ite, if_neg (by omega), ev_ite, if_pos (by omega), ev_ite, if_pos (by omega), ev_bind hpg, ev_ite]
        simp only
        have w1 : wrap64 ((getR x).2.1 + (pointR (x.drop (getR x).2.1.toNat)).2.2.2.2) = (getR x).2.1 + (pointR (x.drop (getR x).2.1.toNat)).2.2.2.2 := w64 (by omega) (by omega)
        rw [w1, if_pos (by omega), ev_ite, if_pos (by omega), w64 (x := (getR x).1) (by omega) (by omega)]
        exact ev_some.2 rfl
      · unfold hopR
        by_cases h3 : (pointR (x.drop (getR x).2.1.toNat)).2.2.2.2 = 0
        · rw [if_pos (.inr (.inr h3)), if_pos h3]
          rfl
        · rw [if_neg (by omega), if_neg h3]
          rfl
theorem relay_Get_l0_ev {u0 u1 : Int} (h0 : 0 ≤ u0 ∧ u0 ≤ 2147483647) : ∀ (d : Nat) (j : Nat) (acc : List S46) (x : List Int), Bytes x → x.length ≤ 1000000000000 → acc.length = j → j + d ≤ 16384 →
    Ev (fun k => relay_Get.l0 k [u0, u1] acc x ((j + d : Nat) : Int) (j : Int)) (match hopsR d x with
      | none => (0, [], 2)
      | some y => if y.2 = [] ∧ mayV u0 (prsH acc ++ y.1) = true then (u0, acc ++ y.1.map mkH, 0) else (0, [], 2)) := by
  have r0 : rd [u0, u1] 0 = u0 := rfl
  intro d
  induction d with
  | zero =>
    intro j acc x hb hl hacc hj
    rw [ev_succ, hopsR]
    simp only [relay_Get.l0, ev_ite]
    rw [if_neg (by omega)]
    simp only [List.append_nil, List.map_nil]
    by_cases h1 : x = []
    · subst h1
      rw [if_neg (by simp), if_pos (by simp), r0, w64 (by omega) (by omega), ev_bind (relay_may_ev u0 (by omega)), ev_ite]
      by_cases h2 : mayV u0 (prsH acc) = true
      · rw [if_pos h2, if_pos ⟨rfl, h2⟩, ev_some]
      · rw [if_neg h2, if_neg (fun h => h2 h.2), ev_some]
    · have := List.length_pos_iff.2 h1
      rw [if_pos (by omega), if_neg (fun h => h1 h.1), ev_some]
  | succ d ih =>
    intro j acc x hb hl hacc hj
    obtain ⟨r, hr, hm⟩ := relay_hop_ev hb hl
    rw [ev_succ, hopsR]
    simp only [relay_Get.l0, ev_ite]
    rw [if_pos (by omega), ev_bind hr, ev_ite]
    cases hh : hopR x with
    | none =>
      rw [hh] at hm
      simp only at hm
      rw [if_neg (by rw [hm]; simp), ev_some]
    | some y =>
      rw [hh] at hm
      simp only at hm
      subst hm
      simp only
      obtain ⟨hyb, hyl⟩ := hopR_bytes hb hh
      have hw : IntKind.u64.wrap ((j : Int) + 1) = ((j + 1 : Nat) : Int) := wu64 (by omega) (by omega)
      rw [if_pos (by trivial), ev_ite, if_pos (by omega), hw]
      have := ih (j + 1) (acc ++ [mkH y.1]) y.2 hyb (by omega) (by rw [List.length_append, hacc]; rfl) (by omega)
      rw [show j + 1 + d = j + (d + 1) by omega] at this
      refine ev_eq this ?_
      cases hopsR d y.2 with
      | none => rfl
      | some z =>
        have e1 : prsH (acc ++ [mkH y.1]) ++ z.1 = prsH acc ++ (y.1 :: z.1) := by
          rw [prsH_append, List.append_assoc]
          rfl
        have e2 : acc ++ [mkH y.1] ++ z.1.map mkH = acc ++ (y.1 :: z.1).map mkH := by
          rw [List.append_assoc]
          rfl
        simp only [Option.map_some, e1, e2]
theorem relay_Get_ev {b : List Int} (hb : Bytes b) (hl : b.length ≤ 100000000) : Ev (fun k => relay_Get.f k b) ((moveR b).1, (moveR b).2.1.map mkH, if (moveR b).2.2 = true then 0 else 2) := by
  have bad : ∀ x y, Ev (fun k => relay_Get.j0 k true x y) ((0 : Int), ([] : List S46), (2 : Int)) := by
    intro x y
    rw [ev_succ]
    simp only [relay_Get.j0, ev_ite]
    rw [if_pos (by trivial), ev_some]
  have bad1 : ∀ x9 a x y, Ev (fun k => relay_Get.j1 k x9 a true x y) ((0 : Int), ([] : List S46), (2 : Int)) := by
    intro x9 a x y
    rw [ev_succ]
    simp only [relay_Get.j1, ev_ite]
    rw [if_pos (by trivial), ev_some]
  have hml : b.length ≤ maxLen := by unfold maxLen; omega
  have hfb : Bytes (firstR b).2.1 ∧ (firstR b).2.1.length ≤ 1048576 := by
    rcases firstR_cases hb with ⟨k, body, m, e, h1, h2⟩ | h | h
    · rw [h2]
      refine ⟨?_, (mayF_iff.1 h1).2.2⟩
      intro x hx
      refine hb x ?_
      rw [e, putF_eq]
      simp [hx]
    · rw [h]; exact ⟨Bytes.nil, by simp⟩
    · rw [h]; exact ⟨Bytes.nil, by simp⟩
  simp only [relay_Get.f]
  rw [ev_bind (frame_First_ev hb hml), ev_ite]
  unfold moveR
  generalize firstR b = F at hfb ⊢
  obtain ⟨kd, body, n, e⟩ := F
  simp only at hfb ⊢
  by_cases h1 : e = 0
  · rw [if_pos h1, ev_ite]
    by_cases h2 : n = (b.length : Int)
    · rw [if_pos h2]
      by_cases h3 : kd = 4
      · rw [show (kd != 4) = false by simp [h3], ev_succ]
        simp only [relay_Get.j0, ev_ite]
        have ha : Ev (fun k => varint_All.f k body 2) (allR 2 body) := varint_All_ev hfb.1 (by unfold maxLen; omega) 2 (by omega)
        rw [if_neg (by simp), ev_bind ha, ev_ite]
        unfold allR
        by_cases h4 : (decs 2 body).2.2 = true
        · obtain ⟨x, y, e3, hx, hy⟩ := decs_two hfb.1 h4
          have hat := decs_at (n := 2) hfb.1
          have rx : rd [x, y] 0 = x := rfl
          have ry : rd [x, y] 1 = y := rfl
          rw [if_pos h4, if_pos (by trivial), e3]
          simp only [rx, ry, List.length_cons, List.length_nil, ev_ite]
          rw [if_pos (by omega)]
          by_cases h5 : x > 2147483647
          · rw [if_pos h5, if_neg (by omega)]
            exact bad1 _ _ _ _
          · rw [if_neg h5, if_pos (by omega)]
            by_cases h6 : y > 16384
            · rw [decide_eq_true h6, if_neg (by omega)]
              exact bad1 _ _ _ _
            · rw [decide_eq_false h6, if_pos ⟨h1, h2, h3, h4, by omega, by omega⟩, ev_succ]
              simp only [relay_Get.j1, ev_ite, List.length_cons, List.length_nil, ry]
              rw [if_neg (by simp), if_pos (by omega), if_pos (by omega), if_pos (by omega), Int.toNat_natCast]
              have := relay_Get_l0_ev (u0 := x) (u1 := y) (by omega) y.toNat 0 [] (body.drop (decs 2 body).2.1) (hfb.1.drop _) (by rw [List.length_drop]; omega) rfl (by omega)
              rw [show ((0 + y.toNat : Nat) : Int) = y by omega] at this
              refine ev_eq this ?_
              cases hopsR y.toNat (body.drop (decs 2 body).2.1) with
              | none => rfl
              | some z =>
                have e0 : prsH [] ++ z.1 = z.1 := rfl
                simp only [e0, List.nil_append]
                split <;> simp
        · rw [if_neg h4, if_neg (by simp), if_neg (fun h => h4 h.2.2.2.1)]
          exact bad1 _ _ _ _
      · rw [show (kd != 4) = true by simp [h3], if_neg (fun h => h3 h.2.2.1)]
        exact bad _ _
    · rw [if_neg h2, if_neg (fun h => h2 h.2.1)]
      exact bad _ _
  · rw [if_neg h1, if_neg (fun h => h1 h.1)]
    exact bad _ _
theorem garnerref21_Hops_ev {l : List S46} (hl : l.length ≤ 1000000000000) : Ev (fun k => garnerref21_Hops.f k l l) true := by
  have loop : ∀ (d j : Nat), l.length - j = d → j ≤ l.length → Ev (fun k => garnerref21_Hops.l0 k l l (j : Int)) true := by
    intro d
    induction d with
    | zero =>
      intro j hd hj
      rw [ev_succ]
      simp only [garnerref21_Hops.l0, ev_ite]
      rw [if_neg (by omega), ev_some]
    | succ d ih =>
      intro j hd hj
      have hw : wrap64 ((j : Int) + 1) = ((j + 1 : Nat) : Int) := w64 (by omega) (by omega)
      rw [ev_succ]
      simp only [garnerref21_Hops.l0, ev_ite, hw]
      rw [if_pos (by omega), if_pos (by omega), if_pos (by omega), if_neg (by simp)]
      exact ih (j + 1) (by omega) (by omega)
  simp only [garnerref21_Hops.f, ev_ite]
  rw [if_pos (by trivial)]
  exact loop _ 0 rfl (by omega)
theorem varint_Put_l1_ev (l : List Int) (hl : l.length ≤ 10000000000000) (j : Nat) : ∀ (u : Nat) (b : List Int), u < 18446744073709551616 → b.length + (one u).length ≤ 10 * (j + 1) → j < l.length → ∀ r : List Int,
    Ev (fun k => varint_Put.l0 k (b ++ one u) l (l.length : Int) ((j + 1 : Nat) : Int)) r → Ev (fun k => varint_Put.l1 k b (u : Int) l (l.length : Int) (j : Int)) r := by
  intro u
  induction u using Nat.strongRecOn with
  | _ u ih =>
    intro b hu hlen hj r hr
    rw [ev_succ]
    simp only [varint_Put.l1, ev_ite]
    by_cases h : u < 128
    · rw [if_neg (by omega), if_pos (by omega), w64 (by omega) (by omega)]
      rw [one_lt h] at hr
      have e : (u : Int) % 256 = u := by omega
      rw [e]
      exact hr
    · have e : Go.bits .or .u8 ((u : Int) % 256) 128 = ((u % 128 + 128 : Nat) : Int) := by
        rw [or_u8 (by omega) (by omega)]
        omega
      have e2 : (u : Int) / 128 = ((u / 128 : Nat) : Int) := by omega
      rw [if_pos (by omega), if_pos (by omega), e, e2]
      rw [one_ge (u := u) (by omega), List.length_cons] at hlen
      refine ih (u / 128) (by omega) _ (by omega) (by rw [List.length_append, List.length_singleton]; omega) hj r ?_
      rw [one_ge (u := u) (by omega)] at hr
      rw [List.append_assoc, List.singleton_append]
      exact hr
theorem varint_Put_l0_ev (l : List Int) (hl : l.length ≤ 10000000000000) (hu : ∀ u ∈ l, 0 ≤ u ∧ u < 18446744073709551616) : ∀ (d j : Nat) (b : List Int), l.length - j = d → j ≤ l.length → b.length ≤ 10 * j →
    Ev (fun k => varint_Put.l0 k b l (l.length : Int) (j : Int)) (b ++ puts (l.drop j)) := by
  intro d
  induction d with
  | zero =>
    intro j b hd hj hb
    rw [ev_succ]
    simp only [varint_Put.l0, ev_ite]
    rw [if_neg (by omega), ev_some, List.drop_eq_nil_of_le (by omega), puts_nil, List.append_nil]
  | succ d ih =>
    intro j b hd hj hb
    rw [ev_succ]
    simp only [varint_Put.l0, ev_ite]
    rw [if_pos (by omega), if_pos (by omega), if_pos (by omega)]
    have h := hu _ (rd_mem (xs := l) (i := (j : Int)) (by omega) (by omega))
    have e : rd l (j : Int) = ((rd l (j : Int)).toNat : Int) := by omega
    have h10 := one_len10 (u := (rd l (j : Int)).toNat) (by omega)
    rw [e]
    refine varint_Put_l1_ev l hl j _ b (by omega) (by omega) (by omega) _ ?_
    have := ih (j + 1) (b ++ one (rd l (j : Int)).toNat) (by omega) (by omega) (by rw [List.length_append]; omega)
    refine ev_eq this ?_
    rw [drop_eq (xs := l) (i := j) (by omega), puts_cons, List.append_assoc]
theorem varint_Put_ev {l : List Int} (hl : l.length ≤ 10000000000000) (hu : ∀ u ∈ l, 0 ≤ u ∧ u < 18446744073709551616) : Ev (fun k => varint_Put.f k l) (puts l) :=
  varint_Put_l0_ev l hl hu (l.length - 0) 0 [] rfl (by omega) (by simp)
theorem point_Put_ev {s a l u : Int} (h0 : 0 ≤ u) (h1 : u < 4294967296) : Ev (fun k => point_Put.f k s a l u) (if mayP s a l = true then (putP s a l u, 0) else ([], 1)) := by
  simp only [point_Put.f]
  rw [ev_bind_c (point_Check_ev _ _ _ _), ev_ite]
  by_cases h : mayP s a l = true
  · have hm := mayP_iff.1 h
    have hb : ∀ v ∈ [s, a, l], 0 ≤ v ∧ v < 18446744073709551616 := by
      intro v hv
      simp at hv
      omega
    rw [if_pos h, if_pos h, if_pos (by trivial), wu64 (x := s) (by omega) (by omega), wu64 (x := a) (by omega) (by omega), wu64 (x := l) (by omega) (by omega), ev_bind (varint_Put_ev (l := [s, a, l]) (by simp) hb)]
    have hl := puts_len hb
    simp only [List.length_cons, List.length_nil] at hl
    simp only [Option.bind_some, ev_ite, ev_some, List.length_cons, List.length_nil]
    rw [if_pos (by omega)]
    rfl
  · rw [if_neg h, if_neg h, if_neg (by omega), ev_some]
theorem frame_may_ev (k : Int) (b : List Int) : frame_may.f k b = some (mayF k b) := by
  unfold frame_may.f mayF
  repeat' split
  all_goals (congr 1; first | (symm; rw [decide_eq_false_iff_not]; omega) | (rw [Bool.eq_iff_iff]; simp only [decide_eq_true_eq]; omega))
theorem frame_tail_ev {l : List Int} (s : Int) (hl : l.length ≤ 10000000000000) : frame_tail.f l s = some (l ++ sum4 s) := by
  unfold frame_tail.f
  simp only [Option.bind_some, List.length_cons, List.length_nil]
  rw [if_pos (by omega)]
  rfl
theorem frame_Put_l0_ev (l : List S50) (hl : l.length ≤ 10000000000) (hg : ∀ f ∈ l, goodF f) (hs : sumLen (prsF l) ≤ 1000000000000) : ∀ (d j : Nat) (b : List Int), l.length - j = d → j ≤ l.length → b.length + (putsF (prsF (l.drop j))).length ≤ 2000000000000 →
    Ev (fun k => frame_Put.l0 k b l (l.length : Int) (j : Int)) (if allF (prsF (l.drop j)) = true then (b ++ putsF (prsF (l.drop j)), 0) else ([], 1)) := by
  intro d
  induction d with
  | zero =>
    intro j b hd hj hb
    rw [ev_succ]
    simp only [frame_Put.l0, ev_ite]
    rw [if_neg (by omega), ev_some, List.drop_eq_nil_of_le (by omega)]
    simp [prsF, allF, putsF]
  | succ d ih =>
    intro j b hd hj hb
    have hjl : j < l.length := by omega
    have hgj := hg _ (rdF_mem hjl)
    rw [dropF_eq hjl] at hb ⊢
    have hmemp : prF (rd_T50 l (j : Int)) ∈ prsF l := List.mem_map.2 ⟨_, rdF_mem hjl, rfl⟩
    have hlen := sumLen_mem hmemp
    generalize hF : rd_T50 l (j : Int) = f at *
    have e1 : prsF (f :: l.drop (j + 1)) = (f.f0, f.f1) :: prsF (l.drop (j + 1)) := rfl
    rw [e1, putsF_cons, List.length_append, putF_len] at hb
    simp only [prF] at hlen
    simp only at hb
    have h10 := one_len10 (u := f.f1.length) (by have := hgj.2.1; omega)
    rw [ev_succ]
    simp only [frame_Put.l0, ev_ite, hF]
    rw [if_pos (by omega), if_pos (by omega), if_pos (by omega), ev_bind_c (frame_may_ev _ _), ev_ite]
    have e2 : allF (prsF (f :: l.drop (j + 1))) = (mayF f.f0 f.f1 && allF (prsF (l.drop (j + 1)))) := rfl
    rw [e2]
    by_cases hm : mayF f.f0 f.f1 = true
    · have hm' := mayF_iff.1 hm
      have hput : Ev (fun k => varint_Put.f k [(f.f1.length : Int)]) (one f.f1.length) := by
        have := varint_Put_ev (l := [(f.f1.length : Int)]) (by simp) (by intro v hv; rw [List.mem_singleton.1 hv]; omega)
        rw [puts_cons, puts_nil, List.append_nil, Int.toNat_natCast] at this
        exact this
      have ek : f.f0 % 256 = f.f0 := by omega
      rw [if_pos hm, wu64 (by omega) (by omega), ev_bind hput, ev_ite, if_pos (by omega)]
      simp only [Option.bind_some, ev_ite]
      rw [if_pos (by rw [List.length_append]; omega), if_pos (by simp only [List.length_append, List.length_singleton]; omega), ek, ev_bind (frame_sum_ev (by omega) (by have := hgj.2.1; unfold maxLen; omega) hgj.2.2), ev_bind_c (frame_tail_ev _ (by simp only [List.length_append, List.length_singleton]; omega)), w64 (by omega) (by omega)]
      have e3 : b ++ one f.f1.length ++ [f.f0] ++ f.f1 ++ sum4 (sumF f.f0 f.f1) = b ++ putF f.f0 f.f1 := by
        unfold putF
        simp
      rw [e3]
      refine ev_eq (ih (j + 1) (b ++ putF f.f0 f.f1) (by omega) (by omega) (by rw [List.length_append, putF_len]; omega)) ?_
      rw [hm, Bool.true_and, e1, putsF_cons, List.append_assoc]
    · rw [if_neg hm, ev_some, if_neg (by simp [hm])]
theorem frame_Put_ev {l : List S50} (hl : l.length ≤ 10000000000) (hg : ∀ f ∈ l, goodF f) (hs : sumLen (prsF l) ≤ 1000000000000) : Ev (fun k => frame_Put.f k l) (if allF (prsF l) = true then (putsF (prsF l), 0) else ([], 1)) := by
  have hp := putsF_len (l := prsF l) (by
    intro f hf
    have := sumLen_mem hf
    omega)
  rw [prsF_len] at hp
  exact frame_Put_l0_ev l hl hg hs (l.length - 0) 0 [] rfl (by omega) (by simp; omega)
theorem relay_Put_l0_ev {s : Int} {l : List S46} (hl : l.length ≤ 1000) (hs : sumsH (prsH l)) : ∀ (d j : Nat) (last : Int) (acc : List Int), l.length - j = d → j ≤ l.length → -1 ≤ last → mayHs s last (prsH (l.drop j)) = true → acc.length ≤ 20 + 44 * j → Bytes acc →
    Ev (fun k => relay_Put.l0 k acc l (l.length : Int) (j : Int)) (putF 4 (acc ++ putsH (prsH (l.drop j))), 0) := by
  intro d
  induction d with
  | zero =>
    intro j last acc hd hj hla hm ha hba
    rw [List.drop_eq_nil_of_le (by omega), ev_succ]
    simp only [relay_Put.l0, ev_ite]
    have e : acc ++ putsH (prsH []) = acc := by simp [prsH, putsH]
    rw [if_neg (by omega), e]
    have hmf : mayF 4 acc = true := mayF_iff.2 (by omega)
    have hp := frame_Put_ev (l := [(⟨4, acc⟩ : S50)]) (by simp) (by
      intro f hf
      rw [List.mem_singleton.1 hf]
      exact ⟨by simp, by simp only; omega, hba⟩) (by
      have : sumLen (prsF [(⟨4, acc⟩ : S50)]) = acc.length + 0 := rfl
      omega)
    have hall : allF (prsF [(⟨4, acc⟩ : S50)]) = true := by
      have : allF (prsF [(⟨4, acc⟩ : S50)]) = (mayF 4 acc && true) := rfl
      rw [this, hmf]
      rfl
    rw [if_pos hall] at hp
    rw [ev_bind hp, ev_some]
    have e2 : putsF (prsF [(⟨4, acc⟩ : S50)]) = putF 4 acc ++ [] := rfl
    rw [e2, List.append_nil]
  | succ d ih =>
    intro j last acc hd hj hla hm ha hba
    have hjl : j < l.length := by omega
    have hw : wrap64 ((j : Int) + 1) = ((j + 1 : Nat) : Int) := w64 (by omega) (by omega)
    rw [dropH_eq hjl] at hm ⊢
    have hsj : 0 ≤ (rd_T46 l (j : Int)).f1.f3 ∧ (rd_T46 l (j : Int)).f1.f3 < 4294967296 := by
      have := hs (prH (rd_T46 l (j : Int))) (by
        rw [rdH_get hjl]
        exact List.mem_map.2 ⟨_, List.getElem_mem _, rfl⟩)
      exact this
    rw [ev_succ]
    simp only [relay_Put.l0, ev_ite, hw]
    generalize rd_T46 l (j : Int) = h at hm hsj ⊢
    have e : prsH (h :: l.drop (j + 1)) = prH h :: prsH (l.drop (j + 1)) := rfl
    rw [e] at hm ⊢
    obtain ⟨h1, h2, h3⟩ := mayHs_cons.1 hm
    have h1 : last < h.f0 ∧ h.f0 ≤ 2147483647 ∧ s < h.f1.f0 := h1
    have h2 : mayP h.f1.f0 h.f1.f1 h.f1.f2 = true := h2
    have h3 : mayHs s h.f0 (prsH (l.drop (j + 1))) = true := h3
    have hwu : IntKind.u64.wrap h.f0 = h.f0 := wu64 (by omega) (by omega)
    have hpp := point_Put_ev (s := h.f1.f0) (a := h.f1.f1) (l := h.f1.f2) hsj.1 hsj.2
    rw [if_pos h2] at hpp
    have hvp := varint_Put_ev (l := [h.f0]) (by simp) (by
      intro u hu
      rw [List.mem_singleton.1 hu]
      omega)
    have e1 : puts [h.f0] = one h.f0.toNat := by simp [puts]
    rw [e1] at hvp
    have l1 := one_len10 (u := h.f0.toNat) (by omega)
    have l2 : (putP h.f1.f0 h.f1.f1 h.f1.f2 h.f1.f3).length ≤ 34 := by
      have hq := mayP_iff.1 h2
      unfold putP
      rw [List.length_append]
      have h4 : (sum4 h.f1.f3).length = 4 := rfl
      have h5 := puts_len (l := [h.f1.f0, h.f1.f1, h.f1.f2]) (by
        intro u hu
        simp at hu
        omega)
      simp only [List.length_cons, List.length_nil] at h5
      omega
    have hb2 : Bytes (putP h.f1.f0 h.f1.f1 h.f1.f2 h.f1.f3) := (puts_bytes _).append (sum4_bytes _)
    rw [if_pos (by omega), if_pos (by omega), if_pos (by omega), hwu, ev_bind hpp, ev_bind hvp, ev_ite, if_pos (by omega)]
    simp only [Option.bind_some, ev_ite]
    rw [if_pos (by rw [List.length_append]; omega)]
    refine ev_eq (ih (j + 1) h.f0 (acc ++ one h.f0.toNat ++ putP h.f1.f0 h.f1.f1 h.f1.f2 h.f1.f3) (by omega) (by omega) (by omega) h3 (by rw [List.length_append, List.length_append]; omega) ((hba.append (one_bytes _)).append hb2)) ?_
    rw [putsH_cons]
    have e3 : putH (prH h) = one h.f0.toNat ++ putP h.f1.f0 h.f1.f1 h.f1.f2 h.f1.f3 := rfl
    rw [e3]
    simp only [List.append_assoc]
theorem relay_Put_ev {s : Int} {l : List S46} (hl : l.length ≤ 1000) (hs : sumsH (prsH l)) : Ev (fun k => relay_Put.f k s l) (if mayV s (prsH l) = true then (putV s (prsH l), 0) else ([], 1)) := by
  simp only [relay_Put.f]
  rw [ev_bind (relay_may_ev s (by omega)), ev_ite]
  by_cases h : mayV s (prsH l) = true
  · have hm := mayV_iff.1 h
    have w1 : IntKind.u64.wrap s = s := wu64 (by omega) (by omega)
    have w2 : IntKind.u64.wrap (l.length : Int) = (l.length : Int) := wu64 (by omega) (by omega)
    have hb : ∀ u ∈ [s, (l.length : Int)], 0 ≤ u ∧ u < 18446744073709551616 := by
      intro u hu
      simp at hu
      omega
    have hp := puts_len hb
    simp only [List.length_cons, List.length_nil] at hp
    rw [if_pos h, if_pos h, w1, w2, ev_bind (varint_Put_ev (by simp) hb)]
    have := relay_Put_l0_ev hl hs (l.length - 0) 0 (-1) (puts [s, (l.length : Int)]) rfl (by omega) (by omega) hm.2 (by omega) (puts_bytes _)
    refine ev_eq this ?_
    have e : putV s (prsH l) = putF 4 (puts [s, ((prsH l).length : Int)] ++ putsH (prsH l)) := rfl
    rw [e, prsH_len]
    rfl
  · rw [if_neg h, if_neg h, ev_some]
theorem garnerref04_May_ev (s a l u : Int) : garnerref04_May.f s a l u = some (mayP s a l) := by
  unfold garnerref04_May.f mayP
  repeat' split
  all_goals (congr 1; first | (symm; rw [decide_eq_false_iff_not]; omega) | (rw [Bool.eq_iff_iff]; simp only [decide_eq_true_eq]; omega))
theorem garnerref21_May_l0_ev {s : Int} {l : List S46} (hl : l.length ≤ 1000000000000) : ∀ (d j : Nat), l.length - j = d → j ≤ l.length → (0 < j → 0 ≤ (rd_T46 l ((j : Int) - 1)).f0) →
    Ev (fun k => garnerref21_May.l0 k (j : Int) s l) (decide (1 ≤ s ∧ s ≤ 2147483647 ∧ l.length ≤ 16384) && mayHs s (if j = 0 then -1 else (rd_T46 l ((j : Int) - 1)).f0) (prsH (l.drop j))) := by
  intro d
  induction d with
  | zero =>
    intro j hd hj h0
    rw [List.drop_eq_nil_of_le (by omega), ev_succ]
    simp only [garnerref21_May.l0, ev_ite]
    have e : prsH [] = [] := rfl
    rw [if_neg (by omega), e, mayHs, Bool.and_true]
    by_cases h1 : s ≥ 1
    · rw [if_pos h1]
      by_cases h2 : s ≤ 2147483647
      · rw [if_pos h2, ev_some]
        congr 1
        rw [eq_iff_iff]
        omega
      · rw [if_neg h2, ev_some, decide_eq_false (by omega)]
    · rw [if_neg h1, ev_some, decide_eq_false (by omega)]
  | succ d ih =>
    intro j hd hj h0
    have hjl : j < l.length := by omega
    have hw : wrap64 ((j : Int) + 1) = ((j + 1 : Nat) : Int) := w64 (by omega) (by omega)
    have hih := ih (j + 1) (by omega) (by omega)
    have ej : ((j + 1 : Nat) : Int) - 1 = (j : Int) := by omega
    rw [ej, if_neg (by omega)] at hih
    rw [dropH_eq hjl, ev_succ]
    simp only [garnerref21_May.l0, ev_ite]
    generalize rd_T46 l (j : Int) = h at hih ⊢
    have e : prsH (h :: l.drop (j + 1)) = prH h :: prsH (l.drop (j + 1)) := rfl
    rw [e, mayHs_prH, if_pos (by omega), if_pos (by omega), hw]
    by_cases hq : 0 ≤ h.f0
    rotate_left
    · rw [if_pos (by omega), ev_some, decide_eq_false (p := _ < h.f0 ∧ _) (by
        intro h4
        split at h4
        · omega
        · have := h0 (by omega)
          omega), Bool.false_and, Bool.and_false]
    rw [if_neg (by omega)]
    by_cases h2 : h.f0 > 2147483647
    · rw [if_pos h2, ev_some, decide_eq_false (p := _ < h.f0 ∧ _) (by omega), Bool.false_and, Bool.and_false]
    rw [if_neg h2, ev_bind_c (garnerref04_May_ev _ _ _ _), ev_ite]
    by_cases h3 : mayP h.f1.f0 h.f1.f1 h.f1.f2 = true
    rotate_left
    · rw [if_neg h3, ev_some]
      rw [Bool.not_eq_true] at h3
      rw [h3, Bool.false_and, Bool.and_false, Bool.and_false]
    rw [if_pos h3, h3, Bool.true_and, ev_ite]
    by_cases h4 : h.f1.f0 ≤ s
    · rw [if_pos h4, ev_some, decide_eq_false (p := _ < h.f0 ∧ _) (by omega), Bool.false_and, Bool.and_false]
    rw [if_neg h4, ev_ite]
    by_cases h5 : j = 0
    · subst h5
      rw [if_neg (by omega), if_pos rfl, decide_eq_true (p := _ < h.f0 ∧ _) (by omega), Bool.true_and]
      exact hih (fun _ => hq)
    · have hw1 : wrap64 ((j : Int) - 1) = (j : Int) - 1 := w64 (by omega) (by omega)
      rw [if_pos (by omega), hw1, ev_ite, if_pos (by omega), ev_ite, if_pos (by omega), ev_ite, if_neg h5]
      by_cases h6 : h.f0 ≤ (rd_T46 l ((j : Int) - 1)).f0
      · rw [if_pos h6, ev_some, decide_eq_false (p := _ < h.f0 ∧ _) (by omega), Bool.false_and, Bool.and_false]
      · rw [if_neg h6, decide_eq_true (p := _ < h.f0 ∧ _) (by omega), Bool.true_and]
        exact hih (fun _ => hq)
theorem garnerref21_May_ev (s : Int) {l : List S46} (hl : l.length ≤ 1000000000000) : Ev (fun k => garnerref21_May.f k s l) (mayV s (prsH l)) := by
  have := garnerref21_May_l0_ev (s := s) hl (l.length - 0) 0 rfl (by omega) (by omega)
  unfold mayV
  rw [prsH_len]
  exact this
theorem garnerref02_same_l0_ev (x y : List Int) (hxy : x.length = y.length) (hl : x.length ≤ maxLen) : ∀ (d i : Nat), x.length - i = d → i ≤ x.length → Ev (fun k => garnerref02_same.l0 k x y (i : Int)) (decide (x.drop i = y.drop i)) := by
  have hlm := maxLen_le hl
  intro d
  induction d with
  | zero =>
    intro i hd hi
    rw [ev_succ]
    simp only [garnerref02_same.l0, ev_ite]
    rw [if_neg (by omega), ev_some, List.drop_eq_nil_of_le (by omega), List.drop_eq_nil_of_le (by omega)]
    simp
  | succ d ih =>
    intro i hd hi
    rw [ev_succ]
    simp only [garnerref02_same.l0, ev_ite]
    rw [if_pos (by omega), if_pos (by omega), if_pos (by omega), w64 (by omega) (by omega), drop_eq (xs := x) (by omega), drop_eq (xs := y) (by omega)]
    by_cases h : rd x (i : Int) = rd y (i : Int)
    · rw [if_pos h, h]
      refine ev_eq (ih (i + 1) (by omega) (by omega)) ?_
      simp
    · rw [if_neg h, ev_some]
      simp [h]
theorem garnerref02_same_ev {x y : List Int} (hl : x.length ≤ maxLen) : Ev (fun k => garnerref02_same.f k x y) (decide (x = y)) := by
  simp only [garnerref02_same.f, ev_ite]
  by_cases h : x.length = y.length
  · rw [if_pos (by omega)]
    exact garnerref02_same_l0_ev x y h hl (x.length - 0) 0 rfl (by omega)
  · rw [if_neg (by omega), ev_some]
    symm
    simp only [decide_eq_false_iff_not]
    rintro rfl
    exact h rfl
theorem garnerref02_Bytes_ev {x y : List Int} (hl : x.length ≤ maxLen) : Ev (fun k => garnerref02_Bytes.f k x y) (decide (x = y)) := by
  simp only [garnerref02_Bytes.f]
  rw [ev_bind (garnerref02_same_ev hl), ev_some]
theorem garnerref02_One_ev : ∀ u : Nat, u < 18446744073709551616 → Ev (fun k => garnerref02_One.f k (u : Int)) (one u) := by
  intro u
  induction u using Nat.strongRecOn with
  | _ u ih =>
    intro hu
    rw [ev_succ]
    simp only [garnerref02_One.f, ev_ite, Option.bind_some]
    by_cases h : u < 128
    · rw [if_pos (by omega), ev_some, one_lt h]
      congr 1
      omega
    · have e : IntKind.u64.wrap (Int.tdiv (u : Int) 128) = ((u / 128 : Nat) : Int) := by
        rw [Int.tdiv_eq_ediv_of_nonneg (by omega), wu64 (by omega) (by omega)]
        rfl
      have e2 : ((Int.tmod (u : Int) 128) % 256 + 128) % 256 = ((u % 128 + 128 : Nat) : Int) := by
        rw [Int.tmod_eq_emod_of_nonneg (by omega)]
        omega
      rw [if_neg (by omega), e, e2, ev_bind (ih (u / 128) (by omega) (by omega)), ev_ite]
      have hl := one_len10 (u := u / 128) (by omega)
      rw [if_pos (by simp only [List.length_singleton]; omega), ev_some, one_ge (u := u) (by omega)]
      rfl
theorem garnerref02_Put_l0_ev (l : List Int) (hl : l.length ≤ 10000000000000) (hu : ∀ u ∈ l, 0 ≤ u ∧ u < 18446744073709551616) : ∀ (d j : Nat) (b : List Int), l.length - j = d → j ≤ l.length → b.length ≤ 10 * j →
    Ev (fun k => garnerref02_Put.l0 k l b (j : Int)) (b ++ puts (l.drop j)) := by
  intro d
  induction d with
  | zero =>
    intro j b hd hj hb
    rw [ev_succ]
    simp only [garnerref02_Put.l0, ev_ite]
    rw [if_neg (by omega), ev_some, List.drop_eq_nil_of_le (by omega), puts_nil, List.append_nil]
  | succ d ih =>
    intro j b hd hj hb
    rw [ev_succ]
    simp only [garnerref02_Put.l0, ev_ite]
    rw [if_pos (by omega), if_pos (by omega), w64 (by omega) (by omega)]
    have h := hu _ (rd_mem (xs := l) (i := (j : Int)) (by omega) (by omega))
    have h1 : Ev (fun k => garnerref02_One.f k (rd l (j : Int))) (one (rd l (j : Int)).toNat) := by
      have := garnerref02_One_ev (rd l (j : Int)).toNat (by omega)
      rw [Int.toNat_of_nonneg h.1] at this
      exact this
    have h10 := one_len10 (u := (rd l (j : Int)).toNat) (by omega)
    rw [ev_bind h1, ev_ite, if_pos (by omega)]
    refine ev_eq (ih (j + 1) (b ++ one (rd l (j : Int)).toNat) (by omega) (by omega) (by rw [List.length_append]; omega)) ?_
    rw [drop_eq (xs := l) (i := j) (by omega), puts_cons, List.append_assoc]
theorem garnerref02_Put_ev {l : List Int} (hl : l.length ≤ 10000000000000) (hu : ∀ u ∈ l, 0 ≤ u ∧ u < 18446744073709551616) : Ev (fun k => garnerref02_Put.f k l) (puts l) :=
  garnerref02_Put_l0_ev l hl hu (l.length - 0) 0 [] rfl (by omega) (by simp)
theorem garnerref04_Sum_ev (s : Int) (h0 : 0 ≤ s) (h1 : s < 4294967296) : Ev (fun k => garnerref04_Sum.f k s) (sum4 s) := by
  have step : ∀ (i : Nat) (s : Int) (b : List Int) r, 0 ≤ s → s < 4294967296 → i < 4 → b.length ≤ 4 → Ev (fun k => garnerref04_Sum.l0 k (s / 256) (b ++ [s % 256]) ((i + 1 : Nat) : Int)) r → Ev (fun k => garnerref04_Sum.l0 k s b (i : Int)) r := by
    intro i s b r h0 h1 hi hb hr
    rw [ev_succ]
    simp only [garnerref04_Sum.l0, ev_ite]
    rw [if_pos (by omega), if_pos (by omega), Int.tdiv_eq_ediv_of_nonneg h0, Int.tmod_eq_emod_of_nonneg h0, w64 (by omega) (by omega)]
    have e1 : s / 256 % 4294967296 = s / 256 := by omega
    have e2 : s % 256 % 256 = s % 256 := by omega
    rw [e1, e2]
    exact hr
  show Ev (fun k => garnerref04_Sum.l0 k s [] ((0 : Nat) : Int)) (sum4 s)
  refine step 0 s [] _ h0 h1 (by omega) (by simp) ?_
  refine step 1 _ _ _ (by omega) (by omega) (by omega) (by simp) ?_
  refine step 2 _ _ _ (by omega) (by omega) (by omega) (by simp) ?_
  refine step 3 _ _ _ (by omega) (by omega) (by omega) (by simp) ?_
  rw [ev_succ]
  simp only [garnerref04_Sum.l0, ev_ite]
  rw [if_neg (by omega), ev_some]
  unfold sum4
  simp only [List.nil_append, List.cons_append, List.cons.injEq, and_true, true_and]
  omega
theorem garnerref04_Put_ev {s a l u : Int} (h : mayP s a l = true) (h0 : 0 ≤ u) (h1 : u < 4294967296) : Ev (fun k => garnerref04_Put.f k s a l u) (putP s a l u) := by
  have hm := mayP_iff.1 h
  simp only [garnerref04_Put.f]
  have hb : ∀ v ∈ [s, a, l], 0 ≤ v ∧ v < 18446744073709551616 := by
    intro v hv
    simp at hv
    omega
  rw [wu64 (x := s) (by omega) (by omega), wu64 (x := a) (by omega) (by omega), wu64 (x := l) (by omega) (by omega), ev_bind (garnerref02_Put_ev (l := [s, a, l]) (by simp) hb), ev_bind (garnerref04_Sum_ev u h0 h1)]
  have hl := puts_len hb
  have l4 : (sum4 u).length = 4 := rfl
  simp only [List.length_cons, List.length_nil] at hl
  rw [ev_ite, if_pos (by omega), ev_some]
  rfl
theorem garnerref01_bit_ev (b n : Nat) (hb : b < 4294967296) (hn : n ≤ 8) : Ev (fun k => garnerref01_bit.f k (b : Int) (n : Int)) ((b >>> n % 2 : Nat) : Int) := by
  have main : ∀ (d i x : Nat), d + i = n → x < 4294967296 → Ev (fun k => garnerref01_bit.l0 k (x : Int) (n : Int) (i : Int)) ((x >>> d % 2 : Nat) : Int) := by
    intro d
    induction d with
    | zero =>
      intro i x hd hx
      rw [ev_succ]
      simp only [garnerref01_bit.l0, ev_ite]
      rw [if_neg (by omega), ev_some, Int.tmod_eq_emod_of_nonneg (by omega), w64 (by omega) (by omega), Nat.shiftRight_zero]
      omega
    | succ d ih =>
      intro i x hd hx
      rw [ev_succ]
      simp only [garnerref01_bit.l0, ev_ite]
      have e : Int.tdiv (x : Int) 2 % 4294967296 = ((x / 2 : Nat) : Int) := by
        rw [Int.tdiv_eq_ediv_of_nonneg (by omega)]
        omega
      rw [if_pos (by omega), e, w64 (by omega) (by omega)]
      refine ev_eq (ih (i + 1) (x / 2) (by omega) (by omega)) ?_
      have : x >>> (d + 1) = (x / 2) >>> d := by
        rw [Nat.add_comm, Nat.shiftRight_add]
        rfl
      rw [this]
  exact main n 0 b (by omega) hb
theorem garnerref01_step_ev (r b : Nat) (hr : r < 4294967296) (hb : b ≤ 1) : Ev (fun k => garnerref01_step.f k (r : Int) (b : Int)) (crcBit r b : Int) := by
  simp only [garnerref01_step.f]
  have h := garnerref01_bit_ev r 0 hr (by omega)
  rw [Nat.shiftRight_zero] at h
  have h' : Ev (fun k => garnerref01_bit.f k (r : Int) 0) ((r % 2 : Nat) : Int) := h
  have e : Int.tdiv (r : Int) 2 % 4294967296 = ((r / 2 : Nat) : Int) := by
    rw [Int.tdiv_eq_ediv_of_nonneg (by omega)]
    omega
  have e2 : Go.bits .xor .u32 ((r / 2 : Nat) : Int) 2197175160 = ((r / 2 ^^^ poly : Nat) : Int) := xor32 (a := r / 2) (b := 2197175160) (by omega) (by omega)
  rw [ev_bind h', ev_ite, e, e2, ev_some, ev_some]
  unfold crcBit
  by_cases hrb : r % 2 = b
  · rw [if_pos (by omega), if_pos hrb]
  · rw [if_neg (by omega), if_neg hrb]
theorem garnerref01_run_l1_ev (l : List Int) (hl : l.length ≤ maxLen) (j : Nat) (hj : j < l.length) (c : Nat) (hc : rd l (j : Int) = (c : Int)) (hc2 : c < 256) (q : Int) : ∀ (d i r : Nat), d + i = 8 → r < 4294967296 → Ev (fun k => garnerref01_run.l0 k (crcBits r c i d : Nat) l ((j : Int) + 1)) q →
    Ev (fun k => garnerref01_run.l1 k (r : Int) l (j : Int) (i : Int)) q := by
  have hlm := maxLen_le hl
  intro d
  induction d with
  | zero =>
    intro i r hd hr hq
    rw [ev_succ]
    simp only [garnerref01_run.l1, ev_ite]
    rw [if_neg (by omega), w64 (by omega) (by omega)]
    exact hq
  | succ d ih =>
    intro i r hd hr hq
    have hm := Nat.mod_lt (c >>> i) (show 0 < 2 by omega)
    rw [ev_succ]
    simp only [garnerref01_run.l1, ev_ite]
    have e : rd l (j : Int) % 4294967296 = (c : Int) := by rw [hc]; omega
    rw [if_pos (by omega), if_pos (by omega), if_pos (by omega), e, ev_bind (garnerref01_bit_ev c i (by omega) (by omega)), ev_bind (garnerref01_step_ev r _ hr (by omega)), w64 (by omega) (by omega)]
    exact ih (i + 1) _ (by omega) (crcBit_lt hr) hq
theorem garnerref01_run_ev {l : List Int} (hl : l.length ≤ maxLen) (hb : Bytes l) {r : Nat} (hr : r < 4294967296) : Ev (fun k => garnerref01_run.f k (r : Int) l) (crcRun r l : Int) := by
  have main : ∀ (d j r : Nat), l.length - j = d → j ≤ l.length → r < 4294967296 → Ev (fun k => garnerref01_run.l0 k (r : Int) l (j : Int)) (crcRun r (l.drop j) : Int) := by
    intro d
    induction d with
    | zero =>
      intro j r hd hj hr
      rw [ev_succ]
      simp only [garnerref01_run.l0, ev_ite]
      rw [if_neg (by omega), ev_some, List.drop_eq_nil_of_le (by omega)]
      rfl
    | succ d ih =>
      intro j r hd hj hr
      have hc := hb.rd (i := (j : Int)) (by omega) (by omega)
      obtain ⟨c, hce⟩ := Int.eq_ofNat_of_zero_le hc.1
      rw [ev_succ]
      simp only [garnerref01_run.l0, ev_ite]
      rw [if_pos (by omega)]
      refine garnerref01_run_l1_ev l hl j (by omega) c hce (by omega) _ 8 0 r (by omega) hr ?_
      refine ev_eq (ih (j + 1) _ (by omega) (by omega) (crcByte_lt (c := c) hr)) ?_
      rw [drop_eq (xs := l) (i := j) (by omega), hce]
      rfl
  exact main (l.length - 0) 0 r rfl (by omega) hr
theorem garnerref01_Of_ev {l : List Int} (hl : l.length ≤ maxLen) (hb : Bytes l) : Ev (fun k => garnerref01_Of.f k l) (crcOf l : Int) := by
  simp only [garnerref01_Of.f]
  have h : Ev (fun k => garnerref01_run.f k 4294967295 l) (crcRun 4294967295 l : Int) := garnerref01_run_ev (r := 4294967295) hl hb (by omega)
  have e : Go.bits .xor .u32 4294967295 (crcRun 4294967295 l : Int) = ((4294967295 ^^^ crcRun 4294967295 l : Nat) : Int) := xor32 (a := 4294967295) (by decide) (crcRun_lt (by omega))
  rw [ev_bind h, ev_some, e]
  rfl
theorem garnerref03_Put_ev {kind : Int} {body : List Int} (hm : mayF kind body = true) (hb : Bytes body) : Ev (fun k => garnerref03_Put.f k kind body) (putF kind body) := by
  have hm' := mayF_iff.1 hm
  have h10 := one_len10 (u := body.length) (by omega)
  have ek : kind % 256 = kind := by omega
  have h1 := garnerref02_One_ev body.length (by omega)
  have hbk : Bytes (kind :: body) := by
    intro x hx
    rcases List.mem_cons.1 hx with rfl | hx
    · omega
    · exact hb x hx
  simp only [garnerref03_Put.f]
  rw [wu64 (by omega) (by omega), ev_bind h1]
  simp only [Option.bind_some, ev_ite, ek]
  rw [if_pos (by simp only [List.length_singleton]; omega), if_pos (by simp only [List.length_append, List.length_singleton]; omega), if_pos (by simp only [List.length_singleton]; omega)]
  have e : [kind] ++ body = kind :: body := rfl
  rw [e, ev_bind (garnerref01_Of_ev (by simp only [List.length_cons]; unfold maxLen; omega) hbk)]
  have hlt := crcOf_lt (kind :: body)
  have step : ∀ (i : Nat) (s : Int) (b : List Int) r, 0 ≤ s → s < 4294967296 → i < 4 → b.length ≤ 10000000000 → Ev (fun k => garnerref03_Put.l0 k (b ++ [s % 256]) (s / 256) ((i + 1 : Nat) : Int)) r → Ev (fun k => garnerref03_Put.l0 k b s (i : Int)) r := by
    intro i s b r h0 h1 hi hb hr
    rw [ev_succ]
    simp only [garnerref03_Put.l0, ev_ite, Option.bind_some]
    rw [if_pos (by omega), if_pos (by simp only [List.length_singleton]; omega), Int.tdiv_eq_ediv_of_nonneg h0, Int.tmod_eq_emod_of_nonneg h0, w64 (by omega) (by omega)]
    have e1 : s / 256 % 4294967296 = s / 256 := by omega
    have e2 : s % 256 % 256 = s % 256 := by omega
    rw [e1, e2]
    exact hr
  have h0 : (0 : Int) = ((0 : Nat) : Int) := rfl
  rw [h0]
  have hbase : (one body.length ++ [kind] ++ body).length ≤ 10000000000 := by
    simp only [List.length_append, List.length_singleton]
    omega
  refine step 0 _ _ _ (by omega) (by omega) (by omega) (by omega) ?_
  refine step 1 _ _ _ (by omega) (by omega) (by omega) (by simp only [List.length_append, List.length_singleton]; omega) ?_
  refine step 2 _ _ _ (by omega) (by omega) (by omega) (by simp only [List.length_append, List.length_singleton]; omega) ?_
  refine step 3 _ _ _ (by omega) (by omega) (by omega) (by simp only [List.length_append, List.length_singleton]; omega) ?_
  rw [ev_succ]
  simp only [garnerref03_Put.l0, ev_ite]
  rw [if_neg (by omega), ev_some]
  unfold putF sum4 sumF
  have d1 : (crcOf (kind :: body) : Int) / 256 / 256 = (crcOf (kind :: body) : Int) / 65536 := by omega
  have d2 : (crcOf (kind :: body) : Int) / 65536 / 256 = (crcOf (kind :: body) : Int) / 16777216 := by omega
  rw [d1, d2]
  simp
theorem garnerref21_Put_l0_ev {s : Int} {l : List S46} (hl : l.length ≤ 1000) (hs : sumsH (prsH l)) : ∀ (d j : Nat) (last : Int) (acc : List Int), l.length - j = d → j ≤ l.length → -1 ≤ last → mayHs s last (prsH (l.drop j)) = true → acc.length ≤ 20 + 44 * j → Bytes acc →
    Ev (fun k => garnerref21_Put.l0 k acc (j : Int) s l) (putF 4 (acc ++ putsH (prsH (l.drop j)))) := by
  intro d
  induction d with
  | zero =>
    intro j last acc hd hj hla hm ha hba
    rw [List.drop_eq_nil_of_le (by omega), ev_succ]
    simp only [garnerref21_Put.l0, ev_ite]
    have e : acc ++ putsH (prsH []) = acc := by simp [prsH, putsH]
    rw [if_neg (by omega), e]
    have hmf : mayF 4 acc = true := mayF_iff.2 (by omega)
    rw [ev_bind (garnerref03_Put_ev hmf hba), ev_some]
  | succ d ih =>
    intro j last acc hd hj hla hm ha hba
    have hjl : j < l.length := by omega
    have hw : wrap64 ((j : Int) + 1) = ((j + 1 : Nat) : Int) := w64 (by omega) (by omega)
    rw [dropH_eq hjl] at hm ⊢
    have hsj : 0 ≤ (rd_T46 l (j : Int)).f1.f3 ∧ (rd_T46 l (j : Int)).f1.f3 < 4294967296 := by
      have := hs (prH (rd_T46 l (j : Int))) (by
        rw [rdH_get hjl]
        exact List.mem_map.2 ⟨_, List.getElem_mem _, rfl⟩)
      exact this
    rw [ev_succ]
    simp only [garnerref21_Put.l0, ev_ite, hw]
    generalize rd_T46 l (j : Int) = h at hm hsj ⊢
    have e : prsH (h :: l.drop (j + 1)) = prH h :: prsH (l.drop (j + 1)) := rfl
    rw [e] at hm ⊢
    obtain ⟨h1, h2, h3⟩ := mayHs_cons.1 hm
    have h1 : last < h.f0 ∧ h.f0 ≤ 2147483647 ∧ s < h.f1.f0 := h1
    have h2 : mayP h.f1.f0 h.f1.f1 h.f1.f2 = true := h2
    have h3 : mayHs s h.f0 (prsH (l.drop (j + 1))) = true := h3
    have hwu : IntKind.u64.wrap h.f0 = ((h.f0.toNat : Nat) : Int) := by rw [wu64 (by omega) (by omega)]; omega
    have hpp := garnerref04_Put_ev h2 hsj.1 hsj.2
    have hvp := garnerref02_One_ev h.f0.toNat (by omega)
    have l1 := one_len10 (u := h.f0.toNat) (by omega)
    have l2 : (putP h.f1.f0 h.f1.f1 h.f1.f2 h.f1.f3).length ≤ 34 := by
      have hq := mayP_iff.1 h2
      unfold putP
      rw [List.length_append]
      have h4 : (sum4 h.f1.f3).length = 4 := rfl
      have h5 := puts_len (l := [h.f1.f0, h.f1.f1, h.f1.f2]) (by
        intro u hu
        simp at hu
        omega)
      simp only [List.length_cons, List.length_nil] at h5
      omega
    have hb2 : Bytes (putP h.f1.f0 h.f1.f1 h.f1.f2 h.f1.f3) := (puts_bytes _).append (sum4_bytes _)
    rw [if_pos (by omega), if_pos (by omega), hwu, ev_bind hvp, ev_ite, if_pos (by omega)]
    simp only [Option.bind_some, ev_ite]
    rw [ev_bind hpp, ev_ite, if_pos (by rw [List.length_append]; omega)]
    refine ev_eq (ih (j + 1) h.f0 (acc ++ one h.f0.toNat ++ putP h.f1.f0 h.f1.f1 h.f1.f2 h.f1.f3) (by omega) (by omega) (by omega) h3 (by rw [List.length_append, List.length_append]; omega) ((hba.append (one_bytes _)).append hb2)) ?_
    rw [putsH_cons]
    have e3 : putH (prH h) = one h.f0.toNat ++ putP h.f1.f0 h.f1.f1 h.f1.f2 h.f1.f3 := rfl
    rw [e3]
    simp only [List.append_assoc]
theorem garnerref21_Put_ev {s : Int} {l : List S46} (hl : l.length ≤ 1000) (hs : sumsH (prsH l)) (h : mayV s (prsH l) = true) : Ev (fun k => garnerref21_Put.f k s l) (putV s (prsH l)) := by
  have hm := mayV_iff.1 h
  have w1 : IntKind.u64.wrap s = s := wu64 (by omega) (by omega)
  have w2 : IntKind.u64.wrap (l.length : Int) = (l.length : Int) := wu64 (by omega) (by omega)
  have hb : ∀ u ∈ [s, (l.length : Int)], 0 ≤ u ∧ u < 18446744073709551616 := by
    intro u hu
    simp at hu
    omega
  have hp := puts_len hb
  simp only [List.length_cons, List.length_nil] at hp
  simp only [garnerref21_Put.f]
  rw [w1, w2, ev_bind (garnerref02_Put_ev (by simp) hb)]
  have := garnerref21_Put_l0_ev hl hs (l.length - 0) 0 (-1) (puts [s, (l.length : Int)]) rfl (by omega) (by omega) hm.2 (by omega) (puts_bytes _)
  refine ev_eq this ?_
  have e : putV s (prsH l) = putF 4 (puts [s, ((prsH l).length : Int)] ++ putsH (prsH l)) := rfl
  rw [e, prsH_len]
  rfl
theorem RelayPuts : StRelayPuts.Pure := by
  intro s l _ _ _ hg
  have hs : sumsH (prsH l) := by
    intro h hh
    obtain ⟨q, hq, rfl⟩ := List.mem_map.1 hh
    have := wf_u32 (hg q hq).2.2.2.2
    exact ⟨this.1, by have := this.2; simp only [prH]; omega⟩
  refine Ev.rounds (g := fun k => garnerlaw21_RelayPuts.f k s l) ?_
  have fin : Ev (fun _ => garnerlaw21_awake.f.bind fun t => some t) true := by rw [ev_bind_c garnerlaw21_awake_ev, ev_some]
  simp only [garnerlaw21_RelayPuts.f, ev_ite]
  by_cases h0 : l.length > 100
  · rw [if_pos (by omega)]
    exact fin
  · rw [if_neg (by omega), ev_bind (relay_Put_ev (by omega) hs), ev_bind (garnerref21_May_ev s (by omega)), ev_ite]
    by_cases h : mayV s (prsH l) = true
    · have hlen := putV_len h
      rw [prsH_len] at hlen
      have hmv := moveR_put h hs (by rw [prsH_len]; omega)
      have hge := relay_Get_ev (b := putV s (prsH l)) putV_bytes (by omega)
      rw [hmv] at hge
      simp only at hge
      rw [mk_prsH, if_pos (by trivial)] at hge
      rw [if_pos h, if_pos h]
      simp only
      rw [ev_bind hge]
      simp only
      rw [ev_ite, if_pos (by trivial), ev_bind (garnerref21_Put_ev (by omega) hs h), ev_bind (garnerref02_Bytes_ev (by unfold maxLen; omega)), ev_ite, if_pos (by simp), ev_ite, if_pos (by trivial), ev_ite, if_pos (by trivial), ev_bind (garnerref21_Hops_ev (by omega)), ev_ite, if_pos (by trivial)]
      exact fin
    · rw [if_neg h, if_neg h, ev_ite, if_pos (by trivial), ev_ite, if_pos (by simp)]
      exact fin
end Go.Proofs.Ytjebpaahpehfnaa.Pure
