/- The pure statement of the law RelayDrops: what the printed functions answer, each by its plain law, and that the law's answer is true. -/
import Derived.Test.YtklpoeaoojgljaaPRelayDropsx0
import Derived.Test.YtklpoeaoojgljaaPRelayDropsx7
import Derived.Test.YtklpoeaoojgljaaPRelayDropsx9
import Derived.Test.YtklpoeaoojgljaaStRelayDrops
import Derived.Test.YtklpoeaoojgljaaQSz
import Derived.Test.YtklpoeaoojgljaaQV02
import Derived.Test.YtklpoeaoojgljaaQV04
import Derived.Test.YtklpoeaoojgljaaQF21
namespace Go.Proofs.Ytklpoeaoojgljaa.Pure
open Go.RowKit Go.Proofs.Ytklpoeaoojgljaa.PRelayDrops Go.Proofs.Ytklpoeaoojgljaa.U Go.Proofs.YtklpoeaoojgljaaW.PrintWords Go.Proofs.YtklpoeaoojgljaaW.PrintLast Go.Proofs.YtklpoeaoojgljaaW.PrintMore
set_option linter.unusedVariables false
set_option linter.unusedSimpArgs false
set_option maxRecDepth 4000
def prH (h : S37) : Hp := (h.f0, h.f1.f0, h.f1.f1, h.f1.f2, h.f1.f3)
def prsH (l : List S37) : List Hp := l.map prH
theorem prsH_len (l : List S37) : (prsH l).length = l.length := by simp [prsH]
theorem rdH_get {l : List S37} {i : Nat} (h : i < l.length) : rd_T37 l (i : Int) = l[i] := by
 simp [rd_T37, h]
theorem dropH_eq {l : List S37} {i : Nat} (h : i < l.length) : l.drop i = rd_T37 l (i : Int) :: l.drop (i + 1) := by
 rw [rdH_get h]
 exact List.drop_eq_getElem_cons h
theorem mayHs_prH (s last : Int) (h : S37) (t : List Hp) : mayHs s last (prH h :: t) = (decide (last < h.f0 ∧ h.f0 ≤ 2147483647 ∧ s < h.f1.f0) && (mayP h.f1.f0 h.f1.f1 h.f1.f2 && mayHs s h.f0 t)) := rfl
section
variable {α β : Type}
theorem gat_gdel_ne {s t : Int} (h : s ≠ t) : ∀ g : List (Int × α), gat s (gdel t g) = gat s g
 | [] => rfl
 | p :: r => by
  simp only [gdel]
  split
  ·rename_i e
   simp only [gat]
   rw [if_neg (by rw [e]; exact Ne.symm h)]
  ·simp only [gat, gat_gdel_ne h r]
theorem gat_none {s : Int} : ∀ {g : List (Int × α)}, s ∉ g.map (·.1) → gat s g = none
 | [], _ => rfl
 | p :: r, h => by
  simp only [List.map_cons, List.mem_cons, not_or] at h
  simp only [gat]
  rw [if_neg (Ne.symm h.1), gat_none h.2]
theorem gat_key {s : Int} : ∀ {g : List (Int × α)}, s ∈ g.map (·.1) → (gat s g).isSome = true
 | [], h => by simp at h
 | p :: r, h => by
  simp only [List.map_cons, List.mem_cons] at h
  simp only [gat]
  by_cases e : p.1 = s
  ·rw [if_pos e]; rfl
  ·rw [if_neg e]
   exact gat_key (h.resolve_left (fun e2 => e e2.symm))
theorem gat_gdel_same (s : Int) : ∀ {g : List (Int × α)}, (g.map (·.1)).Nodup → gat s (gdel s g) = none
 | [], _ => rfl
 | p :: r, h => by
  simp only [List.map_cons, List.nodup_cons] at h
  simp only [gdel]
  split
  ·rename_i e
   rw [← e]
   exact gat_none h.1
  ·rename_i e
   simp only [gat]
   rw [if_neg e, gat_gdel_same s h.2]
theorem gdel_keys (s : Int) : ∀ g : List (Int × α), ((gdel s g).map (·.1)).Sublist (g.map (·.1))
 | [] => List.Sublist.refl _
 | p :: r => by
  simp only [gdel]
  split
  ·exact List.sublist_cons_self _ _
  ·exact (gdel_keys s r).cons_cons _
theorem gput_keys (s : Int) (v : α) : ∀ {g : List (Int × α)}, (g.map (·.1)).Nodup → ((gput s v g).map (·.1)).Nodup ∧ ∀ t, t ∈ (gput s v g).map (·.1) ↔ t = s ∨ t ∈ g.map (·.1)
 | [], _ => by simp [gput]
 | p :: r, h => by
  simp only [List.map_cons, List.nodup_cons] at h
  simp only [gput]
  split
  ·rename_i e
   subst e
   exact ⟨by simpa using h, fun t => by simp⟩
  ·rename_i e
   obtain ⟨h1, h2⟩ := gput_keys s v h.2
   refine ⟨?_, fun t => ?_⟩
   ·simp only [List.map_cons, List.nodup_cons]
    exact ⟨fun hm => ((h2 p.1).1 hm).elim e h.1, h1⟩
   ·simp only [List.map_cons, List.mem_cons, h2 t]
    constructor
    ·rintro (h | h | h)
     ·exact .inr (.inl h)
     ·exact .inl h
     ·exact .inr (.inr h)
    ·rintro (h | h | h)
     ·exact .inr (.inl h)
     ·exact .inl h
     ·exact .inr (.inr h)
theorem gat_gput (s t : Int) (v : α) : ∀ g : List (Int × α), gat s (gput t v g) = if s = t then some v else gat s g
 | [] => by
  simp only [gput, gat]
  by_cases e : s = t
  ·rw [if_pos e, if_pos e.symm]
  ·rw [if_neg e, if_neg (Ne.symm e)]
 | p :: r => by
  simp only [gput]
  split
  ·rename_i e
   simp only [gat]
   by_cases h : s = t
   ·rw [if_pos h, if_pos h.symm]
   ·rw [if_neg h, if_neg (Ne.symm h), if_neg (by rw [e]; exact Ne.symm h)]
  ·rename_i e
   simp only [gat, gat_gput s t v r]
   by_cases h : p.1 = s
   ·rw [if_pos h, if_pos h, if_neg (by rw [← h]; exact e)]
   ·rw [if_neg h, if_neg h]
theorem gat_app (s : Int) (b : List (Int × α)) : ∀ a : List (Int × α), gat s (a ++ b) = (gat s a).or (gat s b)
 | [] => by simp [gat]
 | p :: r => by
  simp only [List.cons_append, gat, gat_app s b r]
  split <;> rfl
end
def kvM (l : List S35) : List (Int × List S37) := l.map fun a => (a.f0, a.f1)
def wat (s : Int) (l : List S35) : Option (List S37) := gat s (kvM l)
def dropS (s : Int) : List S35 → List S35
 | [] => []
 | a :: r => if a.f0 = s then r else a :: dropS s r
def atS (s : Int) : List S35 → Nat → Int
 | [], _ => -1
 | a :: r, i => if a.f0 = s then (i : Int) else atS s r (i + 1)
theorem dropS_kv (s : Int) : ∀ l, kvM (dropS s l) = gdel s (kvM l)
 | [] => rfl
 | a :: r => by
  have e : kvM (a :: r) = (a.f0, a.f1) :: kvM r := rfl
  rw [e]
  simp only [dropS, gdel]
  split
  ·rfl
  ·rw [← dropS_kv s r]
   rfl
theorem dropS_mem {s : Int} {a : S35} : ∀ {l : List S35}, a ∈ dropS s l → a ∈ l
 | [], h => h
 | b :: r, h => by
  simp only [dropS] at h
  split at h
  ·exact List.mem_cons_of_mem _ h
  ·rcases List.mem_cons.1 h with h | h
   ·exact h ▸ List.mem_cons_self
   ·exact List.mem_cons_of_mem _ (dropS_mem h)
theorem dropS_len (s : Int) : ∀ l : List S35, (dropS s l).length ≤ l.length
 | [] => Nat.le_refl _
 | b :: r => by
  simp only [dropS]
  split
  ·simp
  ·simp only [List.length_cons]
   exact Nat.succ_le_succ (dropS_len s r)
theorem atS_spec (s : Int) : ∀ (l : List S35) (i : Nat), (atS s l i = -1 ∧ wat s l = none ∧ dropS s l = l) ∨ ∃ j, atS s l i = ((i + j : Nat) : Int) ∧ j < l.length ∧ (wat s l).isSome = true ∧ dropS s l = l.take j ++ l.drop (j + 1)
 | [], i => .inl ⟨rfl, rfl, rfl⟩
 | a :: r, i => by
  have e : wat s (a :: r) = if a.f0 = s then some a.f1 else wat s r := rfl
  by_cases h : a.f0 = s
  ·refine .inr ⟨0, by simp [atS, h], by simp, by rw [e, if_pos h]; rfl, by simp [dropS, h]⟩
  ·rcases atS_spec s r (i + 1) with ⟨h1, h2, h3⟩ | ⟨j, h1, h2, h3, h4⟩
   ·exact .inl ⟨by simp [atS, h, h1], by rw [e, if_neg h, h2], by simp [dropS, h, h3]⟩
   ·refine .inr ⟨j + 1, ?_, by simp; omega, by rw [e, if_neg h]; exact h3, by simp [dropS, h, h4]⟩
    simp only [atS, if_neg h, h1]
    congr 1
    omega
theorem rdM_get {l : List S35} {i : Nat} (h : i < l.length) : rd_T35 l (i : Int) = l[i] := by simp [rd_T35, h]
theorem garnerlaw21_light_l0_ev {l : List S50} (hl : l.length ≤ 4000000000000) : ∀ (d j : Nat), l.length - j = d → j ≤ l.length → (∀ i : Nat, i < j → (rd_T50 l (i : Int)).f1.f1.length ≤ 40) →
 ∃ b, Ev (fun k => garnerlaw21_light.l0 k l (j : Int)) b ∧ (b = true → l.length ≤ 30 ∧ ∀ i : Nat, i < l.length → (rd_T50 l (i : Int)).f1.f1.length ≤ 40) := by
 intro d
 induction d with
 | zero =>
  intro j hd hj hi
  refine ⟨decide ((l.length : Int) ≤ 30), ?_, fun h => ⟨by simp at h; omega, fun i h2 => hi i (by omega)⟩⟩
  rw [ev_succ]
  simp only [garnerlaw21_light.l0, ev_ite]
  rw [if_neg (by omega), ev_succ]
  simp only [garnerlaw21_light.j1, ev_ite]
  rw [if_neg (by simp), ev_some]
 | succ d ih =>
  intro j hd hj hi
  by_cases h30 : (j : Int) ≤ 30
  ·by_cases h40 : (((rd_T50 l (j : Int)).f1.f1).length : Int) > 40
   ·refine ⟨false, ?_, fun h => by cases h⟩
    rw [ev_succ]
    simp only [garnerlaw21_light.l0, ev_ite]
    rw [if_pos (by omega), ev_succ]
    simp only [garnerlaw21_light.j1, ev_ite]
    rw [if_pos (by simpa using h30), if_pos (by omega), if_pos (by omega), if_pos h40, ev_some]
   ·obtain ⟨b, h1, h2⟩ := ih (j + 1) (by omega) (by omega) (fun i h => by
     by_cases e : i = j
     ·subst e; omega
     ·exact hi i (by omega))
    refine ⟨b, ?_, h2⟩
    rw [ev_succ]
    simp only [garnerlaw21_light.l0, ev_ite]
    rw [if_pos (by omega), ev_succ]
    simp only [garnerlaw21_light.j1, ev_ite]
    have hw : wrap64 ((j : Int) + 1) = ((j + 1 : Nat) : Int) := w64 (by omega) (by omega)
    rw [if_pos (by simpa using h30), if_pos (by omega), if_pos (by omega), if_neg h40, hw]
    exact h1
  ·refine ⟨decide ((l.length : Int) ≤ 30), ?_, fun h => by simp at h; omega⟩
   rw [ev_succ]
   simp only [garnerlaw21_light.l0, ev_ite]
   rw [if_pos (by omega), ev_succ]
   simp only [garnerlaw21_light.j1, ev_ite]
   rw [if_neg (by simpa using h30), ev_some]
theorem garnerlaw21_light_ev {l : List S50} (hl : l.length ≤ 4000000000000) : ∃ b, Ev (fun k => garnerlaw21_light.f k l) b ∧ (b = true → l.length ≤ 30 ∧ ∀ a ∈ l, a.f1.f1.length ≤ 40) := by
 obtain ⟨b, h1, h2⟩ := garnerlaw21_light_l0_ev hl (l.length - 0) 0 rfl (by omega) (fun i h => by omega)
 refine ⟨b, h1, fun h => ⟨(h2 h).1, fun a ha => ?_⟩⟩
 obtain ⟨i, hi, rfl⟩ := List.mem_iff_getElem.1 ha
 have h3 := (h2 h).2 i hi
 rwa [show rd_T50 l (i : Int) = l[i] by simp [rd_T50, hi]] at h3
theorem garnerref04_May_ev (s a l u : Int) : garnerref04_May.f s a l u = some (mayP s a l) := by
 unfold garnerref04_May.f mayP
 repeat' split
 all_goals (congr 1; first | (symm; rw [decide_eq_false_iff_not]; omega) | (rw [Bool.eq_iff_iff]; simp only [decide_eq_true_eq]; omega))
theorem point_Check_ev (s a l u : Int) : point_Check.f s a l u = some (if mayP s a l = true then 0 else 1) := by
 simp only [point_Check.f, mayP_iff]
 repeat' split
 all_goals first | rfl | omega
theorem relay_may_l0_ev {s : Int} {l : List S37} (hl : l.length ≤ 1000000000000) : ∀ (d j : Nat) (last : Int), l.length - j = d → j ≤ l.length → Ev (fun k => relay_may.l0 k s last l (l.length : Int) (j : Int)) (mayHs s last (prsH (l.drop j))) := by
 intro d
 induction d with
 | zero =>
  intro j last hd hj
  rw [List.drop_eq_nil_of_le (by omega), ev_succ]
  simp only [relay_may.l0, ev_ite]
  rw [if_neg (by omega), ev_some]
  rfl
 | succ d ih =>
  intro j last hd hj
  have hjl : j < l.length := by omega
  rw [dropH_eq hjl, ev_succ]
  simp only [relay_may.l0, ev_ite]
  generalize rd_T37 l (j : Int) = h
  have e : prsH (h :: l.drop (j + 1)) = prH h :: prsH (l.drop (j + 1)) := rfl
  rw [e, mayHs_prH, if_pos (by omega), if_pos (by omega), if_pos (by omega)]
  by_cases h1 : h.f0 ≤ last
  ·rw [if_pos h1, ev_some, decide_eq_false (by omega), Bool.false_and]
  ·rw [if_neg h1]
   by_cases h2 : h.f0 > 2147483647
   ·rw [if_pos h2, ev_some, decide_eq_false (by omega), Bool.false_and]
   ·rw [if_neg h2, ev_bind_c (point_Check_ev _ _ _ _), ev_ite]
    by_cases h3 : mayP h.f1.f0 h.f1.f1 h.f1.f2 = true
    ·rw [if_pos (by rw [if_pos h3]), ev_ite, h3]
     by_cases h4 : h.f1.f0 ≤ s
     ·rw [if_pos h4, ev_some, decide_eq_false (by omega), Bool.false_and]
     ·rw [if_neg h4, decide_eq_true (by omega), Bool.true_and, Bool.true_and]
      have hw : wrap64 ((j : Int) + 1) = ((j + 1 : Nat) : Int) := w64 (by omega) (by omega)
      rw [hw]
      exact ih (j + 1) h.f0 (by omega) (by omega)
    ·rw [if_neg (by rw [if_neg h3]; omega), ev_some]
     rw [Bool.not_eq_true] at h3
     rw [h3, Bool.false_and, Bool.and_false]
theorem relay_may_ev (s : Int) {l : List S37} (hl : l.length ≤ 1000000000000) : Ev (fun k => relay_may.f k s l) (mayV s (prsH l)) := by
 have bad : Ev (fun k => relay_may.j0 k s l true) false := by
  rw [ev_succ]
  simp only [relay_may.j0, ev_ite]
  rw [if_pos (by trivial), ev_some]
 simp only [relay_may.f, ev_ite]
 unfold mayV
 rw [prsH_len]
 by_cases h1 : s < 1
 ·rw [if_pos h1, decide_eq_false (by omega), Bool.false_and]
  exact bad
 ·rw [if_neg h1]
  by_cases h2 : s > 2147483647
  ·rw [if_pos h2, decide_eq_false (by omega), Bool.false_and]
   exact bad
  ·rw [if_neg h2]
   by_cases h3 : (l.length : Int) > 16384
   ·rw [decide_eq_true h3, decide_eq_false (by omega), Bool.false_and]
    exact bad
   ·rw [decide_eq_false h3, decide_eq_true (by omega), Bool.true_and, ev_succ]
    simp only [relay_may.j0, ev_ite]
    rw [if_neg (by simp)]
    have := relay_may_l0_ev (s := s) hl (l.length - 0) 0 (-1) rfl (by omega)
    exact this
theorem garnerref21_at_l0_ev {s : Int} {l : List S35} (hl : l.length ≤ 1000000000000) : ∀ (d j : Nat), l.length - j = d → j ≤ l.length → Ev (fun k => garnerref21_at.l0 k l s (j : Int)) (atS s (l.drop j) j) := by
 intro d
 induction d with
 | zero =>
  intro j hd hj
  rw [List.drop_eq_nil_of_le (by omega), ev_succ]
  simp only [garnerref21_at.l0, ev_ite]
  rw [if_neg (by omega), ev_some]
  rfl
 | succ d ih =>
  intro j hd hj
  have hjl : j < l.length := by omega
  have hw : wrap64 ((j : Int) + 1) = ((j + 1 : Nat) : Int) := w64 (by omega) (by omega)
  rw [List.drop_eq_getElem_cons hjl, ev_succ]
  simp only [garnerref21_at.l0, ev_ite]
  rw [if_pos (by omega), if_pos (by omega), hw, rdM_get hjl]
  simp only [atS]
  by_cases h : l[j].f0 = s
  ·rw [if_pos h, if_pos h, ev_some]
  ·rw [if_neg h, if_neg h]
   exact ih (j + 1) (by omega) (by omega)
theorem garnerref21_at_ev (s : Int) {l : List S35} (hl : l.length ≤ 1000000000000) : Ev (fun k => garnerref21_at.f k l s) (atS s l 0) := garnerref21_at_l0_ev hl (l.length - 0) 0 rfl (by omega)
theorem garnerref21_Drop_ev (s : Int) {l : List S35} (hl : l.length ≤ 1000000000000) : Ev (fun k => garnerref21_Drop.f k l s) (dropS s l, (wat s l).isSome) := by
 simp only [garnerref21_Drop.f]
 rw [ev_bind (garnerref21_at_ev s hl), ev_ite]
 rcases atS_spec s l 0 with ⟨h1, h2, h3⟩ | ⟨j, h1, h2, h3, h4⟩
 ·rw [h1, if_pos (by omega), ev_some, h3, h2]
  rfl
 ·have hw : wrap64 ((j : Int) + 1) = ((j + 1 : Nat) : Int) := w64 (by omega) (by omega)
  rw [h1, if_neg (by omega)]
  simp only [Nat.zero_add, hw, Option.bind_some, Int.toNat_natCast, ev_ite]
  rw [if_pos (by omega), if_pos (by omega), if_pos (by rw [List.length_take]; simp; omega), if_pos (by omega), if_pos (by omega), if_pos (by simp; omega), ev_some, h4, h3]
  rfl
theorem garnerref21_May_l0_ev {s : Int} {l : List S37} (hl : l.length ≤ 1000000000000) : ∀ (d j : Nat), l.length - j = d → j ≤ l.length → (0 < j → 0 ≤ (rd_T37 l ((j : Int) - 1)).f0) →
 Ev (fun k => garnerref21_May.l0 k (j : Int) s l) (decide (1 ≤ s ∧ s ≤ 2147483647 ∧ l.length ≤ 16384) && mayHs s (if j = 0 then -1 else (rd_T37 l ((j : Int) - 1)).f0) (prsH (l.drop j))) := by
 intro d
 induction d with
 | zero =>
  intro j hd hj h0
  rw [List.drop_eq_nil_of_le (by omega), ev_succ]
  simp only [garnerref21_May.l0, ev_ite]
  have e : prsH [] = [] := rfl
  rw [if_neg (by omega), e, mayHs, Bool.and_true]
  by_cases h1 : s ≥ 1
  ·rw [if_pos h1]
   by_cases h2 : s ≤ 2147483647
   ·rw [if_pos h2, ev_some]
    congr 1
    rw [eq_iff_iff]
    omega
   ·rw [if_neg h2, ev_some, decide_eq_false (by omega)]
  ·rw [if_neg h1, ev_some, decide_eq_false (by omega)]
 | succ d ih =>
  intro j hd hj h0
  have hjl : j < l.length := by omega
  have hw : wrap64 ((j : Int) + 1) = ((j + 1 : Nat) : Int) := w64 (by omega) (by omega)
  have hih := ih (j + 1) (by omega) (by omega)
  have ej : ((j + 1 : Nat) : Int) - 1 = (j : Int) := by omega
  rw [ej, if_neg (by omega)] at hih
  rw [dropH_eq hjl, ev_succ]
  simp only [garnerref21_May.l0, ev_ite]
  generalize rd_T37 l (j : Int) = h at hih ⊢
  have e : prsH (h :: l.drop (j + 1)) = prH h :: prsH (l.drop (j + 1)) := rfl
  rw [e, mayHs_prH, if_pos (by omega), if_pos (by omega), hw]
  by_cases hq : 0 ≤ h.f0
  rotate_left
  ·rw [if_pos (by omega), ev_some, decide_eq_false (p := _ < h.f0 ∧ _) (by
    intro h4
    split at h4
    ·omega
    ·have := h0 (by omega)
     omega), Bool.false_and, Bool.and_false]
  rw [if_neg (by omega)]
  by_cases h2 : h.f0 > 2147483647
  ·rw [if_pos h2, ev_some, decide_eq_false (p := _ < h.f0 ∧ _) (by omega), Bool.false_and, Bool.and_false]
  rw [if_neg h2, ev_bind_c (garnerref04_May_ev _ _ _ _), ev_ite]
  by_cases h3 : mayP h.f1.f0 h.f1.f1 h.f1.f2 = true
  rotate_left
  ·rw [if_neg h3, ev_some]
   rw [Bool.not_eq_true] at h3
   rw [h3, Bool.false_and, Bool.and_false, Bool.and_false]
  rw [if_pos h3, h3, Bool.true_and, ev_ite]
  by_cases h4 : h.f1.f0 ≤ s
  ·rw [if_pos h4, ev_some, decide_eq_false (p := _ < h.f0 ∧ _) (by omega), Bool.false_and, Bool.and_false]
  rw [if_neg h4, ev_ite]
  by_cases h5 : j = 0
  ·subst h5
   rw [if_neg (by omega), if_pos rfl, decide_eq_true (p := _ < h.f0 ∧ _) (by omega), Bool.true_and]
   exact hih (fun _ => hq)
  ·have hw1 : wrap64 ((j : Int) - 1) = (j : Int) - 1 := w64 (by omega) (by omega)
   rw [if_pos (by omega), hw1, ev_ite, if_pos (by omega), ev_ite, if_pos (by omega), ev_ite, if_neg h5]
   by_cases h6 : h.f0 ≤ (rd_T37 l ((j : Int) - 1)).f0
   ·rw [if_pos h6, ev_some, decide_eq_false (p := _ < h.f0 ∧ _) (by omega), Bool.false_and, Bool.and_false]
   ·rw [if_neg h6, decide_eq_true (p := _ < h.f0 ∧ _) (by omega), Bool.true_and]
    exact hih (fun _ => hq)
theorem garnerref21_May_ev (s : Int) {l : List S37} (hl : l.length ≤ 1000000000000) : Ev (fun k => garnerref21_May.f k s l) (mayV s (prsH l)) := by
 have := garnerref21_May_l0_ev (s := s) hl (l.length - 0) 0 rfl (by omega) (by omega)
 unfold mayV
 rw [prsH_len]
 exact this
def Rise (ms : List (Int × List (Int × S25))) : Prop := ∀ s g, gat s ms = some g → ∀ a q, gat a g = some q → s < q.f0 ∧ q.f0 ≤ 2147483647
theorem relay_Find_l0_ev {ms : List (Int × List (Int × S25))} (hr : Rise ms) : ∀ (d : Nat) (p : S25) (n : Int), 2147483648 - p.f0 ≤ (d : Int) → p.f0 ≤ 2147483647 → ∃ r, Ev (fun k => relay_Find.l0 k ms p n) r := by
 intro d
 induction d with
 | zero => intro p n hd hp; omega
 | succ d ih =>
  intro p n hd hp
  cases hg : gat p.f0 ms with
  | none =>
   refine ⟨(p, n, 0), ?_⟩
   rw [ev_succ]
   simp only [relay_Find.l0, hg]
   exact Ev.now _
  | some g =>
   cases hq : gat p.f1 g with
   | none =>
    refine ⟨(z25, 0, 3), ?_⟩
    rw [ev_succ]
    simp only [relay_Find.l0, hg, hq]
    exact Ev.now _
   | some q =>
    obtain ⟨h1, h2⟩ := hr _ _ hg _ _ hq
    obtain ⟨r, h3⟩ := ih q (wrap64 (n + 1)) (by omega) h2
    by_cases h4 : q.f2 = p.f2
    ·by_cases h5 : q.f3 = p.f3
     ·refine ⟨r, ?_⟩
      rw [ev_succ]
      simp only [relay_Find.l0, hg, hq, if_pos h4, if_pos h5]
      exact h3
     ·refine ⟨(z25, 0, 3), ?_⟩
      rw [ev_succ]
      simp only [relay_Find.l0, hg, hq, if_pos h4, if_neg h5]
      exact Ev.now _
    ·refine ⟨(z25, 0, 3), ?_⟩
     rw [ev_succ]
     simp only [relay_Find.l0, hg, hq, if_neg h4]
     exact Ev.now _
theorem relay_Find_any {ms : List (Int × List (Int × S25))} (hr : Rise ms) (p : S25) : ∃ r, Ev (fun k => relay_Find.f k ms p) r := by
 simp only [relay_Find.f]
 by_cases h : mayP p.f0 p.f1 p.f2 = true
 ·have hm := mayP_iff.1 h
  obtain ⟨r, h1⟩ := relay_Find_l0_ev hr (2147483648 - p.f0).toNat p 0 (by omega) (by omega)
  refine ⟨r, ?_⟩
  rw [ev_bind_c (point_Check_ev _ _ _ _), ev_ite, if_pos (by rw [if_pos h])]
  exact h1
 ·refine ⟨(z25, 0, 1), ?_⟩
  rw [ev_bind_c (point_Check_ev _ _ _ _), ev_ite, if_neg (by rw [if_neg h]; omega)]
  exact Ev.now _
theorem relay_ofs_mem {a : Int} {q : S25} : ∀ (l : List S37) (g : List (Int × S25)), (a, q) ∈ l.foldl (fun g h => gput h.f0 h.f1 g) g → (a, q) ∈ g ∨ ∃ h ∈ l, h.f0 = a ∧ h.f1 = q
 | [], g, h => .inl h
 | x :: l, g, h => by
  rcases relay_ofs_mem l (gput x.f0 x.f1 g) h with h | ⟨y, hy, h2⟩
  ·rcases gput_mem h with h | h
   ·cases h
    exact .inr ⟨x, List.mem_cons_self, rfl, rfl⟩
   ·exact .inl h
  ·exact .inr ⟨y, List.mem_cons_of_mem _ hy, h2⟩
theorem relay_ofs_gat {a : Int} {q : S25} {l : List S37} (h : gat a (relay_ofs l) = some q) : ∃ h ∈ l, h.f0 = a ∧ h.f1 = q := (relay_ofs_mem l [] (gat_mem h)).resolve_left (by simp)
theorem mayHs_mem {s : Int} : ∀ {l : List S37} {last : Int}, mayHs s last (prsH l) = true → ∀ h ∈ l, s < h.f1.f0 ∧ mayP h.f1.f0 h.f1.f1 h.f1.f2 = true
 | [], _, _, h, hh => by cases hh
 | x :: l, last, hm, h, hh => by
  have e : prsH (x :: l) = prH x :: prsH l := rfl
  rw [e] at hm
  obtain ⟨h1, h2, h3⟩ := mayHs_cons.1 hm
  rcases List.mem_cons.1 hh with rfl | hh
  ·exact ⟨h1.2.2, h2⟩
  ·exact mayHs_mem h3 h hh
def setS (a : S35) (l : List S35) : List S35 :=
 ((dropS a.f0 l).take (posS (dropS a.f0 l) a.f0 (dropS a.f0 l).length) ++ [a]) ++ (dropS a.f0 l).drop (posS (dropS a.f0 l) a.f0 (dropS a.f0 l).length)
theorem garnerref21_Set_ev (a : S35) {l : List S35} (hl : l.length ≤ 1000000000000) : Ev (fun k => garnerref21_Set.f k l a) (setS a l) := by
 simp only [garnerref21_Set.f]
 rw [ev_bind (garnerref21_Drop_ev a.f0 hl)]
 simp only
 have := dropS_len a.f0 l
 rw [ev_ite, if_pos (by omega), ev_some]
 rfl
theorem setS_mem {a b : S35} {l : List S35} (h : b ∈ setS a l) : b = a ∨ b ∈ l := by
 unfold setS at h
 simp only [List.mem_append, List.mem_singleton] at h
 rcases h with (h | h) | h
 ·exact .inr (dropS_mem (List.mem_of_mem_take h))
 ·exact .inl h
 ·exact .inr (dropS_mem (List.mem_of_mem_drop h))
theorem setS_len (a : S35) (l : List S35) : (setS a l).length ≤ l.length + 1 := by
 unfold setS
 have := dropS_len a.f0 l
 simp only [List.length_append, List.length_take, List.length_drop, List.length_singleton]
 omega
theorem setS_wat (a : S35) {l : List S35} (hn : ((kvM l).map (·.1)).Nodup) (s : Int) : wat s (setS a l) = if s = a.f0 then some a.f1 else wat s l := by
 have hd : wat a.f0 (dropS a.f0 l) = none := by
  unfold wat
  rw [dropS_kv]
  exact gat_gdel_same _ hn
 have hs : ∀ (p : Nat), wat s ((dropS a.f0 l).take p ++ (dropS a.f0 l).drop p) = wat s (dropS a.f0 l) := fun p => by rw [List.take_append_drop]
 unfold setS
 generalize posS (dropS a.f0 l) a.f0 (dropS a.f0 l).length = p
 have e1 : ∀ x y, kvM (x ++ y) = kvM x ++ kvM y := fun x y => by simp [kvM]
 have e2 : kvM [a] = [(a.f0, a.f1)] := rfl
 have hp := hs p
 unfold wat at hd hp ⊢
 rw [e1, gat_app] at hp
 rw [e1, e1, gat_app, gat_app, e2]
 by_cases h : s = a.f0
 ·rw [if_pos h, h]
  have h1 : gat a.f0 (kvM ((dropS a.f0 l).take p)) = none := by
   rw [h, hd] at hp
   cases hg : gat a.f0 (kvM ((dropS a.f0 l).take p)) with
   | none => rfl
   | some v => rw [hg] at hp; cases hp
  rw [h1]
  simp [gat]
 ·rw [if_neg h]
  have h2 : gat s [(a.f0, a.f1)] = none := by simp [gat]; exact fun e => h e.symm
  rw [h2, Option.or_none, hp, dropS_kv, gat_gdel_ne h]
theorem setS_keys (a : S35) {l : List S35} (hn : ((kvM l).map (·.1)).Nodup) : ((kvM (setS a l)).map (·.1)).Nodup := by
 have hk : ∀ x : List S35, (kvM x).map (·.1) = x.map (·.f0) := fun x => by simp [kvM]
 have hd : a.f0 ∉ (dropS a.f0 l).map (·.f0) := by
  rw [← hk]
  intro hm
  have h1 := gat_key hm
  rw [dropS_kv, gat_gdel_same _ hn] at h1
  cases h1
 have hnd : ((dropS a.f0 l).map (·.f0)).Nodup := by
  rw [← hk, dropS_kv]
  exact List.Sublist.nodup (gdel_keys _ _) hn
 rw [hk]
 unfold setS
 generalize posS (dropS a.f0 l) a.f0 (dropS a.f0 l).length = p
 have hp : (((dropS a.f0 l).take p ++ [a] ++ (dropS a.f0 l).drop p).map (·.f0)).Perm (a.f0 :: (dropS a.f0 l).map (·.f0)) := by
  have h1 : ((dropS a.f0 l).take p ++ [a] ++ (dropS a.f0 l).drop p).Perm (a :: (dropS a.f0 l)) := by
   have h2 : ((dropS a.f0 l).take p ++ a :: (dropS a.f0 l).drop p).Perm (a :: ((dropS a.f0 l).take p ++ (dropS a.f0 l).drop p)) := List.perm_middle
   rw [List.take_append_drop] at h2
   simpa using h2
  exact h1.map _
 exact hp.nodup_iff.2 (List.nodup_cons.2 ⟨hd, hnd⟩)
structure Inv (ms : Mvs) (ws : List S35) : Prop where
 n1 : (ms.map (·.1)).Nodup
 n2 : ((kvM ws).map (·.1)).Nodup
 eq : ∀ s, gat s ms = (wat s ws).map relay_ofs
 may : ∀ a ∈ ws, mayV a.f0 (prsH a.f1) = true
theorem wat_mem {s : Int} {l : List S35} {h : List S37} (e : wat s l = some h) : ∃ a ∈ l, a.f0 = s ∧ a.f1 = h := by
 have h1 := gat_mem e
 obtain ⟨a, ha, h2⟩ := List.mem_map.1 h1
 cases h2
 exact ⟨a, ha, rfl, rfl⟩
theorem Inv.rise {ms : Mvs} {ws : List S35} (h : Inv ms ws) : Rise ms := by
 intro s g hg a q hq
 rw [h.eq s] at hg
 obtain ⟨hops, hw, rfl⟩ := Option.map_eq_some_iff.1 hg
 obtain ⟨w, hwm, rfl, rfl⟩ := wat_mem hw
 obtain ⟨x, hx, _, rfl⟩ := relay_ofs_gat hq
 have h1 := mayHs_mem (mayV_iff.1 (h.may w hwm)).2 x hx
 have h2 := mayP_iff.1 h1.2
 exact ⟨h1.1, h2.2.1⟩
theorem play_st_ev {ms : Mvs} {ws : List S35} (hI : Inv ms ws) (a : S50) (ha : a.f1.f1.length ≤ 40) (hl : ws.length ≤ 1000000) : ∃ ms1 ws1, Ev (fun k => play_st k a ms ws) (ms1, ws1) ∧ Inv ms1 ws1 ∧ ws1.length ≤ ws.length + 1 := by
 obtain ⟨f0, seg, hops⟩ := a
 simp only at ha
 cases f0 with
 | true =>
  refine ⟨gdel seg ms, dropS seg ws, ?_, ?_, by have := dropS_len seg ws; omega⟩
  ·simp only [play_st, if_true]
   rw [ev_bind (garnerref21_Drop_ev seg (by omega))]
   simp only
   rw [ev_ite, if_pos (by rw [hI.eq seg]; simp), ev_some]
  ·refine ⟨List.Sublist.nodup (gdel_keys _ _) hI.n1, by rw [dropS_kv]; exact List.Sublist.nodup (gdel_keys _ _) hI.n2, fun s => ?_, fun a h => hI.may a (dropS_mem h)⟩
   unfold wat
   rw [dropS_kv]
   by_cases h : s = seg
   ·subst h
    rw [gat_gdel_same _ hI.n1, gat_gdel_same _ hI.n2]
    rfl
   ·rw [gat_gdel_ne h, gat_gdel_ne h]
    exact hI.eq s
 | false =>
  have h1 := relay_may_ev seg (l := hops) (by omega)
  have h2 := garnerref21_May_ev seg (l := hops) (by omega)
  cases hm : mayV seg (prsH hops) with
  | false =>
   rw [hm] at h1 h2
   refine ⟨ms, ws, ?_, hI, by omega⟩
   simp only [play_st, Bool.false_eq_true, if_false]
   rw [ev_bind h1, ev_bind h2, ev_ite, if_pos rfl, ev_ite, if_neg (by simp), ev_some]
  | true =>
   rw [hm] at h1 h2
   refine ⟨gput seg (relay_ofs hops) ms, setS ⟨seg, hops⟩ ws, ?_, ?_, setS_len _ _⟩
   ·simp only [play_st, Bool.false_eq_true, if_false]
    rw [ev_bind h1, ev_bind h2, ev_ite, if_pos rfl, ev_ite, if_pos rfl, ev_bind (garnerref21_Set_ev ⟨seg, hops⟩ (by omega)), ev_some]
   ·refine ⟨(gput_keys _ _ hI.n1).1, setS_keys _ hI.n2, fun s => ?_, fun a h => ?_⟩
    ·rw [gat_gput, setS_wat _ hI.n2]
     by_cases h : s = seg
     ·rw [if_pos h, if_pos h]
      rfl
     ·rw [if_neg h, if_neg h]
      exact hI.eq s
    ·rcases setS_mem h with rfl | h
     ·exact hm
     ·exact hI.may a h
theorem play_l0_ev : ∀ (l : List S50) (ms : Mvs) (ws : List S35), Inv ms ws → (∀ a ∈ l, a.f1.f1.length ≤ 40) → ws.length + l.length ≤ 1000000 → ∃ ms1 ws1, Ev (fun k => play_l0 k l ms ws) (ms1, ws1) ∧ Inv ms1 ws1 ∧ ws1.length ≤ ws.length + l.length
 | [], ms, ws, hI, _, _ => ⟨ms, ws, by simp only [play_l0]; exact Ev.now _, hI, by simp⟩
 | a :: l, ms, ws, hI, ha, hl => by
  simp only [List.length_cons] at hl
  obtain ⟨m1, w1, h1, h2, h3⟩ := play_st_ev hI a (ha a List.mem_cons_self) (by omega)
  obtain ⟨m2, w2, h4, h5, h6⟩ := play_l0_ev l m1 w1 h2 (fun b hb => ha b (List.mem_cons_of_mem _ hb)) (by omega)
  refine ⟨m2, w2, ?_, h5, by simp only [List.length_cons]; omega⟩
  simp only [play_l0]
  rw [ev_bind h1]
  exact h4
theorem play_f_ev {l : List S50} (ha : ∀ a ∈ l, a.f1.f1.length ≤ 40) (hl : l.length ≤ 30) : ∃ ms ws, Ev (fun k => play_f k l) (ms, ws) ∧ Inv ms ws ∧ ws.length ≤ 30 := by
 obtain ⟨m, w, h1, h2, h3⟩ := play_l0_ev l [] [] ⟨by simp, by simp [kvM], fun s => rfl, fun a h => by cases h⟩ ha (by simp; omega)
 exact ⟨m, w, h1, h2, by simp at h3; omega⟩
theorem find_apart {ms : Mvs} {ws : List S35} (hI : Inv ms ws) {seg : Int} (hn : leadsTo ws seg = false) : ∀ (k : Nat) (p : S25) (n : Int), p.f0 ≠ seg → relay_Find.l0 k (gdel seg ms) p n = relay_Find.l0 k ms p n
 | 0, _, _, _ => rfl
 | k + 1, p, n, hp => by
  rw [relay_Find.l0, relay_Find.l0, gat_gdel_ne hp]
  cases hg : gat p.f0 ms with
  | none => rfl
  | some g =>
   cases hq : gat p.f1 g with
   | none => simp only [hq]
   | some q =>
    have hq0 : q.f0 ≠ seg := by
     rw [hI.eq] at hg
     obtain ⟨hops, hw, rfl⟩ := Option.map_eq_some_iff.1 hg
     obtain ⟨w, hwm, _, rfl⟩ := wat_mem hw
     obtain ⟨x, hx, _, rfl⟩ := relay_ofs_gat hq
     intro e
     have : leadsTo ws seg = true := by
      unfold leadsTo
      exact List.any_eq_true.2 ⟨w, hwm, List.any_eq_true.2 ⟨x, hx, by simp [e]⟩⟩
     rw [hn] at this
     cases this
    simp only [hq]
    rw [find_apart hI hn k q _ hq0]
theorem RelayDrops : StRelayDrops.Pure := by
 intro l seg p0 p1 p2 p3 hl1 hl2 _ _ _ _ _ _
 refine Ev.rounds (g := fun k => garnerlaw21_RelayDrops.f k l seg p0 p1 p2 p3) ?_
 simp only [garnerlaw21_RelayDrops.f]
 obtain ⟨b, h1, h2⟩ := garnerlaw21_light_ev (l := l) (by omega)
 rw [ev_bind h1, ev_ite]
 cases b with
 | false => rw [if_pos rfl, ev_some]
 | true =>
  rw [if_neg (by simp), ev_bind_c (garnerref04_May_ev _ _ _ _), ev_ite]
  split
  ·exact Ev.now _
  ·rw [ev_ite]
   split
   ·exact Ev.now _
   ·rename_i hseg
    obtain ⟨ms, ws, h3, hI, _⟩ := play_f_ev (h2 rfl).2 (h2 rfl).1
    rw [ev_bind h3]
    simp only
    rw [ev_ite]
    split
    ·exact Ev.now _
    ·rename_i hno
     rw [Bool.not_eq_true] at hno
     obtain ⟨r, h4⟩ := relay_Find_any hI.rise ⟨p0, p1, p2, p3⟩
     have h5 : Ev (fun k => relay_Find.f k (gdel seg ms) ⟨p0, p1, p2, p3⟩) r := by
      have e : ∀ k, relay_Find.f k (gdel seg ms) ⟨p0, p1, p2, p3⟩ = relay_Find.f k ms ⟨p0, p1, p2, p3⟩ := fun k => by
       unfold relay_Find.f
       rw [find_apart hI hno k _ _ hseg]
      simp only [e]
      exact h4
     rw [ev_bind h4, ev_bind h5, ev_ite, if_pos ⟨rfl, rfl, rfl, rfl, rfl, rfl⟩, ev_some]
end Go.Proofs.Ytklpoeaoojgljaa.Pure
