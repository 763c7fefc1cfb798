/- The pure statement of the law HardJoins: what the printed functions answer, each by its plain law, and that the law's answer is true. -/
import Derived.Test.YthgkjkdbjnoikaaPHardJoinsx0
import Derived.Test.YthgkjkdbjnoikaaPHardJoinsx1
import Derived.Test.YthgkjkdbjnoikaaPHardJoinsx2
import Derived.Test.YthgkjkdbjnoikaaPHardJoinsx3
import Derived.Test.YthgkjkdbjnoikaaPHardJoinsx4
import Derived.Test.YthgkjkdbjnoikaaStHardJoins
import Derived.Test.YthgkjkdbjnoikaaSz
import Derived.Test.YthgkjkdbjnoikaaV02
import Derived.Test.YthgkjkdbjnoikaaV22
namespace Go.Proofs.Ythgkjkdbjnoikaa.Pure
open Go.RowKit Go.Proofs.Ythgkjkdbjnoikaa.PHardJoins Go.Proofs.Ythgkjkdbjnoikaa.U Go.Proofs.YthgkjkdbjnoikaaW.PrintWords Go.Proofs.YthgkjkdbjnoikaaW.PrintLast Go.Proofs.YthgkjkdbjnoikaaW.PrintMore
set_option linter.unusedVariables false
set_option linter.unusedSimpArgs false
set_option maxRecDepth 4000

theorem hard_Join_ev (t v c t' v' c' : Int) : hard_Join.f t v c t' v' c' = some (joinH t v c t' v' c') := by
  unfold hard_Join.f joinH mx
  repeat' split
  all_goals simp only [Option.some.injEq, Prod.mk.injEq]
  all_goals (repeat' apply And.intro)
  all_goals first | rfl | trivial | omega

theorem hard_counts_ev (n : Int) : hard_counts.f n = some (decide (0 ≤ n ∧ n ≤ 2147483647)) := by
  unfold hard_counts.f
  by_cases h : n ≥ 0
  · rw [if_pos h]
    simp [h]
  · rw [if_neg h]
    congr 1
    symm
    rw [decide_eq_false_iff_not]
    omega

theorem hard_Check_ev (t v c : Int) : hard_Check.f t v c = some (if mayH t v c = true then 0 else 1) := by
  simp only [hard_Check.f, hard_counts_ev, Option.bind_some, decide_eq_true_eq, mayH_iff]
  repeat' split
  all_goals first | rfl | omega

theorem hard_Step_ev (t v c t' v' c' last : Int) : Ev (fun k => hard_Step.f k t v c t' v' c' last) (stepH t v c t' v' c' last) := by
  have h2 : ∀ b : Bool, b = decide (t' = t ∧ v ≠ 0 ∧ v' ≠ v) → Ev (fun k => hard_Step.j2 k last b t' v' c') (if t' = t ∧ v ≠ 0 ∧ v' ≠ v then 4 else if last < c' then 3 else 0) := by
    intro b hb
    rw [ev_succ]
    simp only [hard_Step.j2, ev_ite, ev_some, hb, decide_eq_true_eq]
    repeat' split
    all_goals first | rfl | omega
  have h1 : ∀ b : Bool, b = decide (t' < t ∨ c' < c) → Ev (fun k => hard_Step.j1 k last b t v c t' v' c') (if t' < t ∨ c' < c ∨ (t' = t ∧ v ≠ 0 ∧ v' ≠ v) then 4 else if last < c' then 3 else 0) := by
    intro b hb
    rw [ev_succ]
    simp only [hard_Step.j1, ev_ite, ev_some, hb, decide_eq_true_eq]
    by_cases hc : t' < t ∨ c' < c
    · rw [if_pos hc, if_pos (by omega)]
    · rw [if_neg hc]
      by_cases ht : t' = t
      · rw [if_pos ht]
        by_cases hv : v = 0
        · rw [if_pos hv]
          refine ev_eq (h2 false (by simp [hv])) ?_
          repeat' split
          all_goals first | rfl | omega
        · rw [if_neg hv]
          refine ev_eq (h2 _ (by rw [Bool.eq_iff_iff]; simp [hv, ht])) ?_
          repeat' split
          all_goals first | rfl | omega
      · rw [if_neg ht]
        refine ev_eq (h2 false (by simp [ht])) ?_
        repeat' split
        all_goals first | rfl | omega
  have h0 : ∀ b : Bool, b = (mayH t v c == false || mayH t' v' c' == false) → Ev (fun k => hard_Step.j0 k last b t v c t' v' c') (stepH t v c t' v' c' last) := by
    intro b hb
    rw [ev_succ]
    simp only [hard_Step.j0, ev_ite, ev_some]
    unfold stepH
    by_cases hm : mayH t v c = false ∨ mayH t' v' c' = false
    · rw [if_pos (by rw [hb]; simpa using hm), if_pos hm]
    · rw [if_neg (by rw [hb]; simpa using hm), if_neg hm]
      by_cases ht : t' < t
      · rw [if_pos ht]
        exact h1 true (by simp [ht])
      · rw [if_neg ht]
        exact h1 _ (by simp [ht])
  simp only [hard_Step.f, hard_Check_ev, Option.bind_some]
  by_cases hm : mayH t v c = true
  · simp only [hm, if_true]
    refine h0 _ ?_
    rw [hm]
    cases mayH t' v' c' <;> rfl
  · have hf : mayH t v c = false := by simpa using hm
    simp only [hf]
    exact h0 true (by rw [hf]; rfl)

theorem garnerlaw22_awake_ev : Ev (fun k => garnerlaw22_awake.f k) true := Ev.of (fun k => garnerlaw22_awake.mono k) (k := 40) (by decide +kernel)

theorem garnerref22_May_ev (t v c : Int) : garnerref22_May.f t v c = some (mayH t v c) := by
  unfold garnerref22_May.f mayH
  repeat' split
  all_goals (congr 1; first | (symm; rw [decide_eq_false_iff_not]; omega) | (symm; rw [decide_eq_true_eq]; omega) | (rw [Bool.eq_iff_iff]; simp only [decide_eq_true_eq, beq_iff_eq]; omega))

theorem garnerref22_Follows_ev (t v c t' v' c' : Int) : garnerref22_Follows.f t v c t' v' c' = some (decide (¬ (t' < t ∨ c' < c ∨ (t' = t ∧ v ≠ 0 ∧ v' ≠ v)))) := by
  unfold garnerref22_Follows.f
  repeat' split
  all_goals (congr 1; first | (symm; rw [decide_eq_false_iff_not]; omega) | (symm; rw [decide_eq_true_eq]; omega) | (rw [Bool.eq_iff_iff]; simp only [decide_eq_true_eq, beq_iff_eq]; omega))

def belowS (x z : S40) : Prop := x.f0 ≤ z.f0 ∧ x.f2 ≤ z.f2 ∧ (x.f0 = z.f0 → x.f1 = 0 ∨ x.f1 = z.f1)
theorem belowS_trans {x y z : S40} (h : belowS x y) (k : belowS y z) : belowS x z := by
  unfold belowS at *
  omega
theorem belowS_refl (x : S40) : belowS x x := ⟨Int.le_refl _, Int.le_refl _, fun _ => .inr rfl⟩
theorem rdT_get {l : List S40} {i : Nat} (h : i < l.length) : rd_T40 l (i : Int) = l[i] := by
  simp [rd_T40, h]
/-- All that stands ahead is below the last one. -/
theorem chain_below (l : List S40) (h : ∀ i : Nat, 0 < i → i < l.length → belowS (rd_T40 l ((i : Int) - 1)) (rd_T40 l (i : Int))) : ∀ (d i : Nat), i + d + 1 = l.length → belowS (rd_T40 l (i : Int)) (rd_T40 l ((l.length : Int) - 1)) := by
  intro d
  induction d with
  | zero =>
    intro i hi
    have e : (l.length : Int) - 1 = (i : Int) := by omega
    rw [e]
    exact belowS_refl _
  | succ d ih =>
    intro i hi
    have h1 := h (i + 1) (by omega) (by omega)
    have e : ((i + 1 : Nat) : Int) - 1 = (i : Int) := by omega
    rw [e] at h1
    exact belowS_trans h1 (ih (i + 1) (by omega))
theorem join_below {a x z : S40} {t v c : Int} (ha : belowS ⟨t, v, c⟩ z) (hx : belowS x z) (hj : joinH t v c x.f0 x.f1 x.f2 = (a.f0, a.f1, a.f2)) : belowS a z ∧ ((⟨t, v, c⟩ : S40) = z ∨ x = z → a = z) := by
  obtain ⟨a0, a1, a2⟩ := a
  obtain ⟨x0, x1, x2⟩ := x
  obtain ⟨z0, z1, z2⟩ := z
  unfold joinH at hj
  simp only [Prod.mk.injEq] at hj
  unfold belowS at *
  simp only [S40.mk.injEq] at *
  obtain ⟨rfl, rfl, rfl⟩ := hj
  refine ⟨⟨?_, ?_, ?_⟩, ?_⟩
  · split <;> omega
  · split <;> omega
  · repeat' split
    all_goals omega
  · repeat' split
    all_goals omega
theorem HardJoins_l1_ev (l : List S40) (turns : List Int) (hlen : l.length ≤ 30) (ht : ∀ y ∈ turns, 0 ≤ y ∧ y ≤ 255) (htl : turns.length ≤ 100) (hbz : ∀ x ∈ l, belowS x (rd_T40 l ((l.length : Int) - 1))) :
    ∀ (d : Nat) (left : List S40) (i : Nat) (t v c : Int), left.length = d → left.length + i = l.length → (∀ x ∈ left, x ∈ l) → belowS ⟨t, v, c⟩ (rd_T40 l ((l.length : Int) - 1)) → (0 < l.length → rd_T40 l ((l.length : Int) - 1) ∈ left ∨ (⟨t, v, c⟩ : S40) = rd_T40 l ((l.length : Int) - 1)) →
    Ev (fun k => garnerlaw22_HardJoins.l1 k l turns left (i : Int) t v c) true := by
  intro d
  induction d with
  | zero =>
    intro left i t v c hd hi hsub hb hz
    have : left = [] := List.eq_nil_of_length_eq_zero hd
    subst this
    rw [ev_succ]
    simp only [garnerlaw22_HardJoins.l1, ev_ite]
    rw [if_neg (by simp)]
    by_cases hl0 : l.length = 0
    · rw [if_pos (by omega), ev_bind garnerlaw22_awake_ev, ev_some]
    · rw [if_neg (by omega), w64 (by omega) (by omega), if_pos (by omega), if_pos (by omega)]
      rcases hz (by omega) with h | h
      · simp at h
      · rw [← h, if_pos (by simp), ev_bind garnerlaw22_awake_ev, ev_some]
  | succ d ih =>
    intro left i t v c hd hi hsub hb hz
    -- one turn: the element at place m is taken out
    have turn : ∀ (m : Nat) (a b e : Int), m < left.length → joinH t v c (rd_T40 left (m : Int)).f0 (rd_T40 left (m : Int)).f1 (rd_T40 left (m : Int)).f2 = (a, b, e) →
        Ev (fun k => garnerlaw22_HardJoins.l1 k l turns (left.take m ++ left.drop (m + 1)) ((i + 1 : Nat) : Int) a b e) true := by
      intro m a b e hm hj
      have hmem : rd_T40 left (m : Int) ∈ left := by rw [rdT_get hm]; exact List.getElem_mem hm
      have hj' := join_below (a := ⟨a, b, e⟩) hb (hbz _ (hsub _ hmem)) hj
      have hin : ∀ x ∈ left.take m ++ left.drop (m + 1), x ∈ left := by
        intro x hx
        rcases List.mem_append.1 hx with hx | hx
        · exact List.mem_of_mem_take hx
        · exact List.mem_of_mem_drop hx
      refine ih _ (i + 1) a b e ?_ ?_ (fun x hx => hsub x (hin x hx)) hj'.1 (fun h0 => ?_)
      · rw [List.length_append, List.length_take, List.length_drop]; omega
      · rw [List.length_append, List.length_take, List.length_drop]; omega
      · rcases hz h0 with h | h
        · by_cases he : rd_T40 left (m : Int) = rd_T40 l ((l.length : Int) - 1)
          · exact .inr (hj'.2 (.inr he))
          · left
            rw [rdT_get hm] at he
            obtain ⟨q, hq, hqe⟩ := List.mem_iff_getElem.1 h
            have hqm : q ≠ m := by
              rintro rfl
              exact he hqe
            rw [List.mem_append]
            rcases Nat.lt_or_gt_of_ne hqm with hlt | hgt
            · left
              rw [← hqe, List.mem_take_iff_getElem]
              exact ⟨q, by omega, rfl⟩
            · right
              rw [← hqe, List.mem_drop_iff_getElem]
              exact ⟨q - (m + 1), by omega, by simp only [show m + 1 + (q - (m + 1)) = q from by omega]⟩
        · exact .inr (hj'.2 (.inl h))
    have hll : left.length = d + 1 := hd
    rw [ev_succ]
    simp only [garnerlaw22_HardJoins.l1, ev_ite, Option.bind_some, List.nil_append, hard_Join_ev]
    rw [if_pos (by omega)]
    by_cases hti : (i : Int) < turns.length
    · have hr := ht _ (rd_mem (xs := turns) (i := (i : Int)) (by omega) hti)
      rw [if_pos hti, if_pos (by omega), if_neg (by omega), w64 (x := rd turns (i : Int)) (by omega) (by omega), Int.tmod_eq_emod_of_nonneg (by omega)]
      have h1 := Int.emod_nonneg (rd turns (i : Int)) (b := (left.length : Int)) (by omega)
      have h2 := Int.emod_lt_of_pos (rd turns (i : Int)) (b := (left.length : Int)) (by omega)
      generalize rd turns (i : Int) % (left.length : Int) = q at h1 h2 ⊢
      obtain ⟨m, rfl⟩ := Int.eq_ofNat_of_zero_le h1
      have e1 : ((m : Int) + 1).toNat = m + 1 := by omega
      have e2 : (i : Int) + 1 = ((i + 1 : Nat) : Int) := by omega
      rw [if_pos (by omega), if_pos (by omega), if_pos (by omega), w64 (x := (m : Int) + 1) (by omega) (by omega), w64 (x := (i : Int) + 1) (by omega) (by omega), Int.toNat_natCast, e1, e2]
      rw [if_pos (by simp only [List.length_nil, List.length_take]; omega), if_pos (by omega), if_pos (by omega), if_pos (by simp only [List.length_take, List.length_drop]; omega)]
      exact turn m _ _ _ (by omega) rfl
    · have e2 : (i : Int) + 1 = ((i + 1 : Nat) : Int) := by omega
      rw [if_neg hti, if_pos (by omega), if_pos (by omega), w64 (x := (i : Int) + 1) (by omega) (by omega), e2]
      rw [if_pos (by simp), if_pos (by omega), if_pos (by simp; omega)]
      exact turn 0 _ _ _ (by omega) rfl
theorem HardJoins_l0_ev (l : List S40) (turns : List Int) (hg : ∀ y ∈ l, StHardJoins.g40 y) (hlen : l.length ≤ 30) (ht : ∀ y ∈ turns, 0 ≤ y ∧ y ≤ 255) (htl : turns.length ≤ 100) :
    ∀ (d i : Nat), l.length - i = d → i ≤ l.length → (∀ j : Nat, j < i → mayH (rd_T40 l (j : Int)).f0 (rd_T40 l (j : Int)).f1 (rd_T40 l (j : Int)).f2 = true) → (∀ j : Nat, 0 < j → j < i → belowS (rd_T40 l ((j : Int) - 1)) (rd_T40 l (j : Int))) →
    Ev (fun k => garnerlaw22_HardJoins.l0 k l turns (i : Int)) true := by
  intro d
  induction d with
  | zero =>
    intro i hd hi hm hch
    have hil : i = l.length := by omega
    subst hil
    rw [ev_succ]
    simp only [garnerlaw22_HardJoins.l0, ev_ite, Option.bind_some, List.nil_append]
    rw [if_neg (by omega), if_pos (by simp; omega)]
    have hbz : ∀ x ∈ l, belowS x (rd_T40 l ((l.length : Int) - 1)) := by
      intro x hx
      obtain ⟨q, hq, rfl⟩ := List.mem_iff_getElem.1 hx
      have := chain_below l (fun j h0 h1 => hch j h0 h1) (l.length - 1 - q) q (by omega)
      rw [rdT_get hq] at this
      exact this
    refine HardJoins_l1_ev l turns hlen ht htl hbz l.length l 0 0 0 0 rfl (by omega) (fun _ h => h) ?_ (fun h0 => .inl ?_)
    · by_cases h0 : l.length = 0
      · have : l = [] := List.eq_nil_of_length_eq_zero h0
        subst this
        exact ⟨by simp [rd_T40, z40], by simp [rd_T40, z40], fun _ => .inl rfl⟩
      · have e : (l.length : Int) - 1 = ((l.length - 1 : Nat) : Int) := by omega
        have := mayH_iff.1 (hm (l.length - 1) (by omega))
        rw [e]
        exact ⟨by simp only; omega, by simp only; omega, fun _ => .inl rfl⟩
    · have e : (l.length : Int) - 1 = ((l.length - 1 : Nat) : Int) := by omega
      rw [e, rdT_get (by omega)]
      exact List.getElem_mem _
  | succ d ih =>
    intro i hd hi hm hch
    rw [ev_succ]
    simp only [garnerlaw22_HardJoins.l0, ev_ite, Option.bind_some, garnerref22_May_ev, garnerref22_Follows_ev]
    rw [if_pos (by omega), if_pos (by omega), w64 (x := (i : Int) - 1) (by omega) (by omega), w64 (x := (i : Int) + 1) (by omega) (by omega)]
    have e2 : (i : Int) + 1 = ((i + 1 : Nat) : Int) := by omega
    rw [e2]
    by_cases hmi : mayH (rd_T40 l (i : Int)).f0 (rd_T40 l (i : Int)).f1 (rd_T40 l (i : Int)).f2 = true
    · rw [if_pos hmi]
      have hm' : ∀ j : Nat, j < i + 1 → mayH (rd_T40 l (j : Int)).f0 (rd_T40 l (j : Int)).f1 (rd_T40 l (j : Int)).f2 = true := by
        intro j hj
        by_cases hji : j = i
        · subst hji; exact hmi
        · exact hm j (by omega)
      by_cases hi0 : 0 < i
      · rw [if_pos (by omega), if_pos (by omega), if_pos (by omega)]
        split
        · rename_i hf
          rw [decide_eq_true_eq] at hf
          refine ih (i + 1) (by omega) (by omega) hm' (fun j h0 hj => ?_)
          by_cases hji : j = i
          · subst hji
            unfold belowS
            omega
          · exact hch j h0 (by omega)
        · rw [ev_bind garnerlaw22_awake_ev, ev_some]
      · rw [if_neg (by omega)]
        exact ih (i + 1) (by omega) (by omega) hm' (fun j h0 hj => by omega)
    · rw [if_neg hmi, ev_bind garnerlaw22_awake_ev, ev_some]
theorem HardJoins : StHardJoins.Pure := by
  intro l turns _ hg _ ht
  refine Ev.rounds (g := fun k => garnerlaw22_HardJoins.f k l turns) ?_
  have ht' : ∀ y ∈ turns, 0 ≤ y ∧ y ≤ 255 := fun y hy => wf_u8 (ht y hy)
  simp only [garnerlaw22_HardJoins.f, ev_ite]
  have hbad : Ev (fun k => garnerlaw22_HardJoins.j0 k l turns true) true := by
    rw [ev_succ]
    simp only [garnerlaw22_HardJoins.j0, ev_ite]
    rw [if_pos (by trivial), ev_bind garnerlaw22_awake_ev, ev_some]
  by_cases hl : (l.length : Int) > 30
  · rw [if_pos hl]
    exact hbad
  · rw [if_neg hl]
    by_cases htl : (turns.length : Int) > 100
    · have e : decide ((turns.length : Int) > 100) = true := by rw [decide_eq_true_eq]; exact htl
      rw [e]
      exact hbad
    · have e : decide ((turns.length : Int) > 100) = false := by rw [decide_eq_false_iff_not]; exact htl
      rw [e, ev_succ]
      simp only [garnerlaw22_HardJoins.j0, ev_ite]
      rw [if_neg (by simp)]
      exact HardJoins_l0_ev l turns hg (by omega) ht' (by omega) l.length 0 (by omega) (by omega) (fun j h => by omega) (fun j _ h => by omega)

end Go.Proofs.Ythgkjkdbjnoikaa.Pure
