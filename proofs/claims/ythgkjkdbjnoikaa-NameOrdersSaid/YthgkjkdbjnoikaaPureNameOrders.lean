/- The pure statement of the law NameOrders: what the printed functions answer, each by its plain law, and that the law's answer is true. -/
import Derived.Test.YthgkjkdbjnoikaaPNameOrdersx0
import Derived.Test.YthgkjkdbjnoikaaPNameOrdersx1
import Derived.Test.YthgkjkdbjnoikaaPNameOrdersx2
import Derived.Test.YthgkjkdbjnoikaaSz
import Derived.Test.YthgkjkdbjnoikaaV02
import Derived.Test.YthgkjkdbjnoikaaV07
namespace Go.Proofs.Ythgkjkdbjnoikaa.Pure
open Go.RowKit Go.Proofs.Ythgkjkdbjnoikaa.PNameOrders Go.Proofs.Ythgkjkdbjnoikaa.U Go.Proofs.YthgkjkdbjnoikaaW.PrintWords Go.Proofs.YthgkjkdbjnoikaaW.PrintLast Go.Proofs.YthgkjkdbjnoikaaW.PrintMore
set_option linter.unusedVariables false
set_option linter.unusedSimpArgs false
set_option maxRecDepth 4000

theorem set_hole (v : Int) : ∀ (i : Nat) (done : List Int), (List.replicate (i + 1) 0 ++ done).set i v = List.replicate i 0 ++ v :: done := by
  intro i
  induction i with
  | zero => intro done; rfl
  | succ i ih =>
    intro done
    rw [List.replicate_succ, List.cons_append, List.set_cons_succ, ih]
    rfl
theorem name_Of_l0_ev (c : Int) : ∀ (i n : Nat) (done : List Int), i ≤ 10 → n ≤ 2147483647 →
    Ev (fun k => name_Of.l0 k (c :: (List.replicate i 0 ++ done)) (n : Int) (i : Int)) (strOfNums (c :: (digs i n ++ done)), 0) := by
  intro i
  induction i with
  | zero =>
    intro n done hi hn
    rw [ev_succ]
    simp only [name_Of.l0, ev_ite]
    rw [if_neg (by omega), ev_some]
    rfl
  | succ i ih =>
    intro n done hi hn
    rw [ev_succ]
    simp only [name_Of.l0, ev_ite]
    have e1 : wrap64 (48 + Int.tmod (n : Int) 10) % 256 = ((48 + n % 10 : Nat) : Int) := by
      rw [Int.tmod_eq_emod_of_nonneg (by omega), w64 (by omega) (by omega)]
      omega
    have e2 : wrap64 (Int.tdiv (n : Int) 10) = ((n / 10 : Nat) : Int) := by
      rw [Int.tdiv_eq_ediv_of_nonneg (by omega), w64 (by omega) (by omega)]
      rfl
    have e3 : wrap64 (((i + 1 : Nat) : Int) - 1) = (i : Int) := by
      rw [w64 (by omega) (by omega)]
      omega
    rw [if_pos (by omega), if_pos (by omega), if_pos (by simp only [List.length_cons, List.length_append, List.length_replicate]; omega), e1, e2, e3, Int.toNat_natCast, List.set_cons_succ, set_hole]
    refine ev_eq (ih (n / 10) (((48 + n % 10 : Nat) : Int) :: done) (by omega) (by omega)) ?_
    rw [digs, List.append_assoc]
    rfl
theorem name_Of_ev (kind n : Int) (hk : -9223372036854775808 ≤ kind ∧ kind ≤ 9223372036854775807) : Ev (fun k => name_Of.f k kind n) (nameR kind n) := by
  simp only [name_Of.f, ev_ite, nameR, Option.bind_some]
  by_cases h1 : kind = 1 ∧ n = 0
  · rw [if_pos (by simp [h1]), if_pos h1, ev_some]
  · rw [if_neg (by simpa using h1), if_neg h1]
    by_cases h2 : kind = 2 ∧ n = 0
    · rw [if_pos (by simp [h2]), if_pos h2, ev_some]
    · rw [if_neg (by simpa using h2), if_neg h2]
      by_cases h3 : kind < 3 ∨ 7 < kind ∨ n < 1 ∨ 2147483647 < n
      · rw [if_pos h3]
        repeat' split
        all_goals first | (rw [ev_some]) | omega
      · rw [if_neg h3, if_neg (by omega), if_neg (by omega), if_neg (by omega), if_neg (by omega), if_pos (by omega), w64 (by omega) (by omega), if_pos (by omega), if_pos (by omega), if_pos (by simp)]
        have e : (n.toNat : Int) = n := by omega
        have := name_Of_l0_ev (bt (⟨#[118, 119, 116, 115, 109]⟩ : ByteArray) (kind - 3)) 10 n.toNat [] (by omega) (by omega)
        rw [e, List.append_nil, List.append_nil] at this
        exact this

theorem garnerlaw07_awake_ev : Ev (fun k => garnerlaw07_awake.f k) true := Ev.of (fun k => garnerlaw07_awake.mono k) (k := 40) (by decide +kernel)

theorem NameOrders : garnerlaw07_NameOrders.Pure := by
  intro kind a b hk ha hb
  have hk := wf_i64 hk
  have ha := wf_i64 ha
  have hb := wf_i64 hb
  refine Ev.rounds (g := fun k => garnerlaw07_NameOrders.f k kind a b) ?_
  simp only [garnerlaw07_NameOrders.f]
  rw [ev_bind (name_Of_ev kind a hk), ev_bind (name_Of_ev kind b hk)]
  simp only [ev_ite]
  have hbad : Ev (fun k => garnerlaw07_NameOrders.j0 k a b (nameR kind a).1 (nameR kind b).1 true) true := by
    rw [ev_succ]
    simp only [garnerlaw07_NameOrders.j0, ev_ite]
    rw [if_pos (by trivial), ev_bind garnerlaw07_awake_ev, ev_some]
  by_cases h1 : (nameR kind a).2 = 0
  · rw [if_pos h1]
    by_cases h2 : (nameR kind b).2 = 0
    · rw [h2, ev_succ]
      simp only [garnerlaw07_NameOrders.j0, ev_ite]
      have key : Op.bytesLess (nameR kind a).1.toList (nameR kind b).1.toList = decide (a < b) ∧ ((nameR kind a).1.toList == (nameR kind b).1.toList) = (a == b) := by
        unfold nameR at h1 h2 ⊢
        by_cases c1 : kind = 1
        · subst c1
          by_cases ca : a = 0
          · by_cases cb : b = 0
            · subst ca; subst cb; simp [bytesLess_self]
            · simp [cb] at h2
          · simp [ca] at h1
        · by_cases c2 : kind = 2
          · subst c2
            by_cases ca : a = 0
            · by_cases cb : b = 0
              · subst ca; subst cb; simp [bytesLess_self]
              · simp [cb] at h2
            · simp [ca] at h1
          · rw [if_neg (by omega), if_neg (by omega)] at h1 h2 ⊢
            by_cases ca : kind < 3 ∨ 7 < kind ∨ a < 1 ∨ 2147483647 < a
            · rw [if_pos ca] at h1
              simp at h1
            · by_cases cb : kind < 3 ∨ 7 < kind ∨ b < 1 ∨ 2147483647 < b
              · rw [if_pos cb] at h2
                simp at h2
              · rw [if_neg ca, if_neg (c := kind = 1 ∧ b = 0) (by omega), if_neg (c := kind = 2 ∧ b = 0) (by omega), if_neg cb]
                simp only [strOfNums_toList]
                have hs : ∀ c l, u8s (c :: l) = UInt8.ofNat c.toNat :: u8s l := fun _ _ => rfl
                rw [hs, hs, bytesLess_cons, digs_less 10 _ _ (by omega) (by omega)]
                constructor
                · rw [Bool.eq_iff_iff]
                  simp only [decide_eq_true_eq]
                  omega
                · rw [Bool.eq_iff_iff]
                  simp only [beq_iff_eq, List.cons.injEq, true_and]
                  rw [digs_eq 10 _ _ (by omega) (by omega)]
                  omega
      rw [key.1, key.2, if_neg (by simp), if_pos (by simp), if_pos (by simp), ev_bind garnerlaw07_awake_ev, ev_some]
    · have : ((nameR kind b).2 != 0) = true := by simpa using h2
      rw [this]
      exact hbad
  · rw [if_neg h1]
    exact hbad

end Go.Proofs.Ythgkjkdbjnoikaa.Pure
