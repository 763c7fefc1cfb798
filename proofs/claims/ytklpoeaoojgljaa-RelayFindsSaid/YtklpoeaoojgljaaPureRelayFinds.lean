/- The pure statement of the law RelayFinds: what the printed functions answer, each by its plain law, and that the law's answer is true. -/
import Derived.Test.YtklpoeaoojgljaaPRelayFindsx0
import Derived.Test.YtklpoeaoojgljaaPRelayFindsx3
import Derived.Test.YtklpoeaoojgljaaPRelayFindsx8
import Derived.Test.YtklpoeaoojgljaaPRelayFindsx12
import Derived.Test.YtklpoeaoojgljaaStRelayFinds
import Derived.Test.YtklpoeaoojgljaaQSz
import Derived.Test.YtklpoeaoojgljaaQV02
import Derived.Test.YtklpoeaoojgljaaQV04
import Derived.Test.YtklpoeaoojgljaaQF21
import Derived.Test.YtklpoeaoojgljaaS07
namespace Go.Proofs.Ytklpoeaoojgljaa.Pure
open Go.RowKit Go.Proofs.Ytklpoeaoojgljaa.PRelayFinds Go.Proofs.Ytklpoeaoojgljaa.U Go.Proofs.YtklpoeaoojgljaaW.PrintWords Go.Proofs.YtklpoeaoojgljaaW.PrintLast Go.Proofs.YtklpoeaoojgljaaW.PrintMore
set_option linter.unusedVariables false
set_option linter.unusedSimpArgs false
set_option maxRecDepth 4000
def prH (h : S37) : Hp := (h.f0, h.f1.f0, h.f1.f1, h.f1.f2, h.f1.f3)
def prsH (l : List S37) : List Hp := l.map prH
theorem prsH_len (l : List S37) : (prsH l).length = l.length := by simp [prsH]
theorem rdH_get {l : List S37} {i : Nat} (h : i < l.length) : rd_T37 l (i : Int) = l[i] := by
 simp [rd_T37, h]
theorem dropH_eq {l : List S37} {i : Nat} (h : i < l.length) : l.drop i = rd_T37 l (i : Int) :: l.drop (i + 1) := by
 rw [rdH_get h]
 exact List.drop_eq_getElem_cons h
theorem mayHs_prH (s last : Int) (h : S37) (t : List Hp) : mayHs s last (prH h :: t) = (decide (last < h.f0 ∧ h.f0 ≤ 2147483647 ∧ s < h.f1.f0) && (mayP h.f1.f0 h.f1.f1 h.f1.f2 && mayHs s h.f0 t)) := rfl
section
variable {α β : Type}
theorem gat_gdel_ne {s t : Int} (h : s ≠ t) : ∀ g : List (Int × α), gat s (gdel t g) = gat s g
 | [] => rfl
 | p :: r => by
  simp only [gdel]
  split
  ·rename_i e
   simp only [gat]
   rw [if_neg (by rw [e]; exact Ne.symm h)]
  ·simp only [gat, gat_gdel_ne h r]
theorem gat_none {s : Int} : ∀ {g : List (Int × α)}, s ∉ g.map (·.1) → gat s g = none
 | [], _ => rfl
 | p :: r, h => by
  simp only [List.map_cons, List.mem_cons, not_or] at h
  simp only [gat]
  rw [if_neg (Ne.symm h.1), gat_none h.2]
theorem gat_key {s : Int} : ∀ {g : List (Int × α)}, s ∈ g.map (·.1) → (gat s g).isSome = true
 | [], h => by simp at h
 | p :: r, h => by
  simp only [List.map_cons, List.mem_cons] at h
  simp only [gat]
  by_cases e : p.1 = s
  ·rw [if_pos e]; rfl
  ·rw [if_neg e]
   exact gat_key (h.resolve_left (fun e2 => e e2.symm))
theorem gat_gdel_same (s : Int) : ∀ {g : List (Int × α)}, (g.map (·.1)).Nodup → gat s (gdel s g) = none
 | [], _ => rfl
 | p :: r, h => by
  simp only [List.map_cons, List.nodup_cons] at h
  simp only [gdel]
  split
  ·rename_i e
   rw [← e]
   exact gat_none h.1
  ·rename_i e
   simp only [gat]
   rw [if_neg e, gat_gdel_same s h.2]
theorem gdel_keys (s : Int) : ∀ g : List (Int × α), ((gdel s g).map (·.1)).Sublist (g.map (·.1))
 | [] => List.Sublist.refl _
 | p :: r => by
  simp only [gdel]
  split
  ·exact List.sublist_cons_self _ _
  ·exact (gdel_keys s r).cons_cons _
theorem gput_keys (s : Int) (v : α) : ∀ {g : List (Int × α)}, (g.map (·.1)).Nodup → ((gput s v g).map (·.1)).Nodup ∧ ∀ t, t ∈ (gput s v g).map (·.1) ↔ t = s ∨ t ∈ g.map (·.1)
 | [], _ => by simp [gput]
 | p :: r, h => by
  simp only [List.map_cons, List.nodup_cons] at h
  simp only [gput]
  split
  ·rename_i e
   subst e
   exact ⟨by simpa using h, fun t => by simp⟩
  ·rename_i e
   obtain ⟨h1, h2⟩ := gput_keys s v h.2
   refine ⟨?_, fun t => ?_⟩
   ·simp only [List.map_cons, List.nodup_cons]
    exact ⟨fun hm => ((h2 p.1).1 hm).elim e h.1, h1⟩
   ·simp only [List.map_cons, List.mem_cons, h2 t]
    constructor
    ·rintro (h | h | h)
     ·exact .inr (.inl h)
     ·exact .inl h
     ·exact .inr (.inr h)
    ·rintro (h | h | h)
     ·exact .inr (.inl h)
     ·exact .inl h
     ·exact .inr (.inr h)
theorem gat_gput (s t : Int) (v : α) : ∀ g : List (Int × α), gat s (gput t v g) = if s = t then some v else gat s g
 | [] => by
  simp only [gput, gat]
  by_cases e : s = t
  ·rw [if_pos e, if_pos e.symm]
  ·rw [if_neg e, if_neg (Ne.symm e)]
 | p :: r => by
  simp only [gput]
  split
  ·rename_i e
   simp only [gat]
   by_cases h : s = t
   ·rw [if_pos h, if_pos h.symm]
   ·rw [if_neg h, if_neg (Ne.symm h), if_neg (by rw [e]; exact Ne.symm h)]
  ·rename_i e
   simp only [gat, gat_gput s t v r]
   by_cases h : p.1 = s
   ·rw [if_pos h, if_pos h, if_neg (by rw [← h]; exact e)]
   ·rw [if_neg h, if_neg h]
theorem gat_app (s : Int) (b : List (Int × α)) : ∀ a : List (Int × α), gat s (a ++ b) = (gat s a).or (gat s b)
 | [] => by simp [gat]
 | p :: r => by
  simp only [List.cons_append, gat, gat_app s b r]
  split <;> rfl
end
def kvM (l : List S35) : List (Int × List S37) := l.map fun a => (a.f0, a.f1)
def wat (s : Int) (l : List S35) : Option (List S37) := gat s (kvM l)
def dropS (s : Int) : List S35 → List S35
 | [] => []
 | a :: r => if a.f0 = s then r else a :: dropS s r
def atS (s : Int) : List S35 → Nat → Int
 | [], _ => -1
 | a :: r, i => if a.f0 = s then (i : Int) else atS s r (i + 1)
theorem dropS_kv (s : Int) : ∀ l, kvM (dropS s l) = gdel s (kvM l)
 | [] => rfl
 | a :: r => by
  have e : kvM (a :: r) = (a.f0, a.f1) :: kvM r := rfl
  rw [e]
  simp only [dropS, gdel]
  split
  ·rfl
  ·rw [← dropS_kv s r]
   rfl
theorem dropS_mem {s : Int} {a : S35} : ∀ {l : List S35}, a ∈ dropS s l → a ∈ l
 | [], h => h
 | b :: r, h => by
  simp only [dropS] at h
  split at h
  ·exact List.mem_cons_of_mem _ h
  ·rcases List.mem_cons.1 h with h | h
   ·exact h ▸ List.mem_cons_self
   ·exact List.mem_cons_of_mem _ (dropS_mem h)
theorem dropS_len (s : Int) : ∀ l : List S35, (dropS s l).length ≤ l.length
 | [] => Nat.le_refl _
 | b :: r => by
  simp only [dropS]
  split
  ·simp
  ·simp only [List.length_cons]
   exact Nat.succ_le_succ (dropS_len s r)
theorem atS_spec (s : Int) : ∀ (l : List S35) (i : Nat), (atS s l i = -1 ∧ wat s l = none ∧ dropS s l = l) ∨ ∃ j, atS s l i = ((i + j : Nat) : Int) ∧ j < l.length ∧ (wat s l).isSome = true ∧ dropS s l = l.take j ++ l.drop (j + 1)
 | [], i => .inl ⟨rfl, rfl, rfl⟩
 | a :: r, i => by
  have e : wat s (a :: r) = if a.f0 = s then some a.f1 else wat s r := rfl
  by_cases h : a.f0 = s
  ·refine .inr ⟨0, by simp [atS, h], by simp, by rw [e, if_pos h]; rfl, by simp [dropS, h]⟩
  ·rcases atS_spec s r (i + 1) with ⟨h1, h2, h3⟩ | ⟨j, h1, h2, h3, h4⟩
   ·exact .inl ⟨by simp [atS, h, h1], by rw [e, if_neg h, h2], by simp [dropS, h, h3]⟩
   ·refine .inr ⟨j + 1, ?_, by simp; omega, by rw [e, if_neg h]; exact h3, by simp [dropS, h, h4]⟩
    simp only [atS, if_neg h, h1]
    congr 1
    omega
theorem rdM_get {l : List S35} {i : Nat} (h : i < l.length) : rd_T35 l (i : Int) = l[i] := by simp [rd_T35, h]
theorem garnerlaw21_light_l0_ev {l : List S50} (hl : l.length ≤ 4000000000000) : ∀ (d j : Nat), l.length - j = d → j ≤ l.length → (∀ i : Nat, i < j → (rd_T50 l (i : Int)).f1.f1.length ≤ 40) →
 ∃ b, Ev (fun k => garnerlaw21_light.l0 k l (j : Int)) b ∧ (b = true → l.length ≤ 30 ∧ ∀ i : Nat, i < l.length → (rd_T50 l (i : Int)).f1.f1.length ≤ 40) := by
 intro d
 induction d with
 | zero =>
  intro j hd hj hi
  refine ⟨decide ((l.length : Int) ≤ 30), ?_, fun h => ⟨by simp at h; omega, fun i h2 => hi i (by omega)⟩⟩
  rw [ev_succ]
  simp only [garnerlaw21_light.l0, ev_ite]
  rw [if_neg (by omega), ev_succ]
  simp only [garnerlaw21_light.j1, ev_ite]
  rw [if_neg (by simp), ev_some]
 | succ d ih =>
  intro j hd hj hi
  by_cases h30 : (j : Int) ≤ 30
  ·by_cases h40 : (((rd_T50 l (j : Int)).f1.f1).length : Int) > 40
   ·refine ⟨false, ?_, fun h => by cases h⟩
    rw [ev_succ]
    simp only [garnerlaw21_light.l0, ev_ite]
    rw [if_pos (by omega), ev_succ]
    simp only [garnerlaw21_light.j1, ev_ite]
    rw [if_pos (by simpa using h30), if_pos (by omega), if_pos (by omega), if_pos h40, ev_some]
   ·obtain ⟨b, h1, h2⟩ := ih (j + 1) (by omega) (by omega) (fun i h => by
     by_cases e : i = j
     ·subst e; omega
     ·exact hi i (by omega))
    refine ⟨b, ?_, h2⟩
    rw [ev_succ]
    simp only [garnerlaw21_light.l0, ev_ite]
    rw [if_pos (by omega), ev_succ]
    simp only [garnerlaw21_light.j1, ev_ite]
    have hw : wrap64 ((j : Int) + 1) = ((j + 1 : Nat) : Int) := w64 (by omega) (by omega)
    rw [if_pos (by simpa using h30), if_pos (by omega), if_pos (by omega), if_neg h40, hw]
    exact h1
  ·refine ⟨decide ((l.length : Int) ≤ 30), ?_, fun h => by simp at h; omega⟩
   rw [ev_succ]
   simp only [garnerlaw21_light.l0, ev_ite]
   rw [if_pos (by omega), ev_succ]
   simp only [garnerlaw21_light.j1, ev_ite]
   rw [if_neg (by simpa using h30), ev_some]
theorem garnerlaw21_light_ev {l : List S50} (hl : l.length ≤ 4000000000000) : ∃ b, Ev (fun k => garnerlaw21_light.f k l) b ∧ (b = true → l.length ≤ 30 ∧ ∀ a ∈ l, a.f1.f1.length ≤ 40) := by
 obtain ⟨b, h1, h2⟩ := garnerlaw21_light_l0_ev hl (l.length - 0) 0 rfl (by omega) (fun i h => by omega)
 refine ⟨b, h1, fun h => ⟨(h2 h).1, fun a ha => ?_⟩⟩
 obtain ⟨i, hi, rfl⟩ := List.mem_iff_getElem.1 ha
 have h3 := (h2 h).2 i hi
 rwa [show rd_T50 l (i : Int) = l[i] by simp [rd_T50, hi]] at h3
theorem garnerref04_May_ev (s a l u : Int) : garnerref04_May.f s a l u = some (mayP s a l) := by
 unfold garnerref04_May.f mayP
 repeat' split
 all_goals (congr 1; first | (symm; rw [decide_eq_false_iff_not]; omega) | (rw [Bool.eq_iff_iff]; simp only [decide_eq_true_eq]; omega))
theorem point_Check_ev (s a l u : Int) : point_Check.f s a l u = some (if mayP s a l = true then 0 else 1) := by
 simp only [point_Check.f, mayP_iff]
 repeat' split
 all_goals first | rfl | omega
theorem relay_may_l0_ev {s : Int} {l : List S37} (hl : l.length ≤ 1000000000000) : ∀ (d j : Nat) (last : Int), l.length - j = d → j ≤ l.length → Ev (fun k => relay_may.l0 k s last l (l.length : Int) (j : Int)) (mayHs s last (prsH (l.drop j))) := by
 intro d
 induction d with
 | zero =>
  intro j last hd hj
  rw [List.drop_eq_nil_of_le (by omega), ev_succ]
  simp only [relay_may.l0, ev_ite]
  rw [if_neg (by omega), ev_some]
  rfl
 | succ d ih =>
  intro j last hd hj
  have hjl : j < l.length := by omega
  rw [dropH_eq hjl, ev_succ]
  simp only [relay_may.l0, ev_ite]
  generalize rd_T37 l (j : Int) = h
  have e : prsH (h :: l.drop (j + 1)) = prH h :: prsH (l.drop (j + 1)) := rfl
  rw [e, mayHs_prH, if_pos (by omega), if_pos (by omega), if_pos (by omega)]
  by_cases h1 : h.f0 ≤ last
  ·rw [if_pos h1, ev_some, decide_eq_false (by omega), Bool.false_and]
  ·rw [if_neg h1]
   by_cases h2 : h.f0 > 2147483647
   ·rw [if_pos h2, ev_some, decide_eq_false (by omega), Bool.false_and]
   ·rw [if_neg h2, ev_bind_c (point_Check_ev _ _ _ _), ev_ite]
    by_cases h3 : mayP h.f1.f0 h.f1.f1 h.f1.f2 = true
    ·rw [if_pos (by rw [if_pos h3]), ev_ite, h3]
     by_cases h4 : h.f1.f0 ≤ s
     ·rw [if_pos h4, ev_some, decide_eq_false (by omega), Bool.false_and]
     ·rw [if_neg h4, decide_eq_true (by omega), Bool.true_and, Bool.true_and]
      have hw : wrap64 ((j : Int) + 1) = ((j + 1 : Nat) : Int) := w64 (by omega) (by omega)
      rw [hw]
      exact ih (j + 1) h.f0 (by omega) (by omega)
    ·rw [if_neg (by rw [if_neg h3]; omega), ev_some]
     rw [Bool.not_eq_true] at h3
     rw [h3, Bool.false_and, Bool.and_false]
theorem relay_may_ev (s : Int) {l : List S37} (hl : l.length ≤ 1000000000000) : Ev (fun k => relay_may.f k s l) (mayV s (prsH l)) := by
 have bad : Ev (fun k => relay_may.j0 k s l true) false := by
  rw [ev_succ]
  simp only [relay_may.j0, ev_ite]
  rw [if_pos (by trivial), ev_some]
 simp only [relay_may.f, ev_ite]
 unfold mayV
 rw [prsH_len]
 by_cases h1 : s < 1
 ·rw [if_pos h1, decide_eq_false (by omega), Bool.false_and]
  exact bad
 ·rw [if_neg h1]
  by_cases h2 : s > 2147483647
  ·rw [if_pos h2, decide_eq_false (by omega), Bool.false_and]
   exact bad
  ·rw [if_neg h2]
   by_cases h3 : (l.length : Int) > 16384
   ·rw [decide_eq_true h3, decide_eq_false (by omega), Bool.false_and]
    exact bad
   ·rw [decide_eq_false h3, decide_eq_true (by omega), Bool.true_and, ev_succ]
    simp only [relay_may.j0, ev_ite]
    rw [if_neg (by simp)]
    have := relay_may_l0_ev (s := s) hl (l.length - 0) 0 (-1) rfl (by omega)
    exact this
theorem garnerref21_at_l0_ev {s : Int} {l : List S35} (hl : l.length ≤ 1000000000000) : ∀ (d j : Nat), l.length - j = d → j ≤ l.length → Ev (fun k => garnerref21_at.l0 k l s (j : Int)) (atS s (l.drop j) j) := by
 intro d
 induction d with
 | zero =>
  intro j hd hj
  rw [List.drop_eq_nil_of_le (by omega), ev_succ]
  simp only [garnerref21_at.l0, ev_ite]
  rw [if_neg (by omega), ev_some]
  rfl
 | succ d ih =>
  intro j hd hj
  have hjl : j < l.length := by omega
  have hw : wrap64 ((j : Int) + 1) = ((j + 1 : Nat) : Int) := w64 (by omega) (by omega)
  rw [List.drop_eq_getElem_cons hjl, ev_succ]
  simp only [garnerref21_at.l0, ev_ite]
  rw [if_pos (by omega), if_pos (by omega), hw, rdM_get hjl]
  simp only [atS]
  by_cases h : l[j].f0 = s
  ·rw [if_pos h, if_pos h, ev_some]
  ·rw [if_neg h, if_neg h]
   exact ih (j + 1) (by omega) (by omega)
theorem garnerref21_at_ev (s : Int) {l : List S35} (hl : l.length ≤ 1000000000000) : Ev (fun k => garnerref21_at.f k l s) (atS s l 0) := garnerref21_at_l0_ev hl (l.length - 0) 0 rfl (by omega)
theorem garnerref21_Drop_ev (s : Int) {l : List S35} (hl : l.length ≤ 1000000000000) : Ev (fun k => garnerref21_Drop.f k l s) (dropS s l, (wat s l).isSome) := by
 simp only [garnerref21_Drop.f]
 rw [ev_bind (garnerref21_at_ev s hl), ev_ite]
 rcases atS_spec s l 0 with ⟨h1, h2, h3⟩ | ⟨j, h1, h2, h3, h4⟩
 ·rw [h1, if_pos (by omega), ev_some, h3, h2]
  rfl
 ·have hw : wrap64 ((j : Int) + 1) = ((j + 1 : Nat) : Int) := w64 (by omega) (by omega)
  rw [h1, if_neg (by omega)]
  simp only [Nat.zero_add, hw, Option.bind_some, Int.toNat_natCast, ev_ite]
  rw [if_pos (by omega), if_pos (by omega), if_pos (by rw [List.length_take]; simp; omega), if_pos (by omega), if_pos (by omega), if_pos (by simp; omega), ev_some, h4, h3]
  rfl
theorem garnerref21_May_l0_ev {s : Int} {l : List S37} (hl : l.length ≤ 1000000000000) : ∀ (d j : Nat), l.length - j = d → j ≤ l.length → (0 < j → 0 ≤ (rd_T37 l ((j : Int) - 1)).f0) →
 Ev (fun k => garnerref21_May.l0 k (j : Int) s l) (decide (1 ≤ s ∧ s ≤ 2147483647 ∧ l.length ≤ 16384) && mayHs s (if j = 0 then -1 else (rd_T37 l ((j : Int) - 1)).f0) (prsH (l.drop j))) := by
 intro d
 induction d with
 | zero =>
  intro j hd hj h0
  rw [List.drop_eq_nil_of_le (by omega), ev_succ]
  simp only [garnerref21_May.l0, ev_ite]
  have e : prsH [] = [] := rfl
  rw [if_neg (by omega), e, mayHs, Bool.and_true]
  by_cases h1 : s ≥ 1
  ·rw [if_pos h1]
   by_cases h2 : s ≤ 2147483647
   ·rw [if_pos h2, ev_some]
    congr 1
    rw [eq_iff_iff]
    omega
   ·rw [if_neg h2, ev_some, decide_eq_false (by omega)]
  ·rw [if_neg h1, ev_some, decide_eq_false (by omega)]
 | succ d ih =>
  intro j hd hj h0
  have hjl : j < l.length := by omega
  have hw : wrap64 ((j : Int) + 1) = ((j + 1 : Nat) : Int) := w64 (by omega) (by omega)
  have hih := ih (j + 1) (by omega) (by omega)
  have ej : ((j + 1 : Nat) : Int) - 1 = (j : Int) := by omega
  rw [ej, if_neg (by omega)] at hih
  rw [dropH_eq hjl, ev_succ]
  simp only [garnerref21_May.l0, ev_ite]
  generalize rd_T37 l (j : Int) = h at hih ⊢
  have e : prsH (h :: l.drop (j + 1)) = prH h :: prsH (l.drop (j + 1)) := rfl
  rw [e, mayHs_prH, if_pos (by omega), if_pos (by omega), hw]
  by_cases hq : 0 ≤ h.f0
  rotate_left
  ·rw [if_pos (by omega), ev_some, decide_eq_false (p := _ < h.f0 ∧ _) (by
    intro h4
    split at h4
    ·omega
    ·have := h0 (by omega)
     omega), Bool.false_and, Bool.and_false]
  rw [if_neg (by omega)]
  by_cases h2 : h.f0 > 2147483647
  ·rw [if_pos h2, ev_some, decide_eq_false (p := _ < h.f0 ∧ _) (by omega), Bool.false_and, Bool.and_false]
  rw [if_neg h2, ev_bind_c (garnerref04_May_ev _ _ _ _), ev_ite]
  by_cases h3 : mayP h.f1.f0 h.f1.f1 h.f1.f2 = true
  rotate_left
  ·rw [if_neg h3, ev_some]
   rw [Bool.not_eq_true] at h3
   rw [h3, Bool.false_and, Bool.and_false, Bool.and_false]
  rw [if_pos h3, h3, Bool.true_and, ev_ite]
  by_cases h4 : h.f1.f0 ≤ s
  ·rw [if_pos h4, ev_some, decide_eq_false (p := _ < h.f0 ∧ _) (by omega), Bool.false_and, Bool.and_false]
  rw [if_neg h4, ev_ite]
  by_cases h5 : j = 0
  ·subst h5
   rw [if_neg (by omega), if_pos rfl, decide_eq_true (p := _ < h.f0 ∧ _) (by omega), Bool.true_and]
   exact hih (fun _ => hq)
  ·have hw1 : wrap64 ((j : Int) - 1) = (j : Int) - 1 := w64 (by omega) (by omega)
   rw [if_pos (by omega), hw1, ev_ite, if_pos (by omega), ev_ite, if_pos (by omega), ev_ite, if_neg h5]
   by_cases h6 : h.f0 ≤ (rd_T37 l ((j : Int) - 1)).f0
   ·rw [if_pos h6, ev_some, decide_eq_false (p := _ < h.f0 ∧ _) (by omega), Bool.false_and, Bool.and_false]
   ·rw [if_neg h6, decide_eq_true (p := _ < h.f0 ∧ _) (by omega), Bool.true_and]
    exact hih (fun _ => hq)
theorem garnerref21_May_ev (s : Int) {l : List S37} (hl : l.length ≤ 1000000000000) : Ev (fun k => garnerref21_May.f k s l) (mayV s (prsH l)) := by
 have := garnerref21_May_l0_ev (s := s) hl (l.length - 0) 0 rfl (by omega) (by omega)
 unfold mayV
 rw [prsH_len]
 exact this
theorem garnerref03_Ints_l0_ev (x y : List Int) (hxy : x.length = y.length) (hl : x.length ≤ maxLen) : ∀ (d i : Nat), x.length - i = d → i ≤ x.length → Ev (fun k => garnerref03_Ints.l0 k x y (i : Int)) (decide (x.drop i = y.drop i)) := by
 have hlm := maxLen_le hl
 intro d
 induction d with
 | zero =>
  intro i hd hi
  rw [ev_succ]
  simp only [garnerref03_Ints.l0, ev_ite]
  rw [if_neg (by omega), ev_some, List.drop_eq_nil_of_le (by omega), List.drop_eq_nil_of_le (by omega)]
  simp
 | succ d ih =>
  intro i hd hi
  rw [ev_succ]
  simp only [garnerref03_Ints.l0, ev_ite]
  rw [if_pos (by omega), if_pos (by omega), if_pos (by omega), w64 (by omega) (by omega), drop_eq (xs := x) (by omega), drop_eq (xs := y) (by omega)]
  by_cases h : rd x (i : Int) = rd y (i : Int)
  ·rw [if_pos h, h]
   refine ev_eq (ih (i + 1) (by omega) (by omega)) ?_
   simp
  ·rw [if_neg h, ev_some]
   simp [h]
theorem garnerref03_Ints_ev {x y : List Int} (hl : x.length ≤ maxLen) : Ev (fun k => garnerref03_Ints.f k x y) (decide (x = y)) := by
 simp only [garnerref03_Ints.f, ev_ite]
 by_cases h : x.length = y.length
 ·rw [if_pos (by omega)]
  exact garnerref03_Ints_l0_ev x y h hl (x.length - 0) 0 rfl (by omega)
 ·rw [if_neg (by omega), ev_some]
  symm
  simp only [decide_eq_false_iff_not]
  rintro rfl
  exact h rfl
theorem mayHs_mem {s : Int} : ∀ {l : List S37} {last : Int}, mayHs s last (prsH l) = true → ∀ h ∈ l, s < h.f1.f0 ∧ mayP h.f1.f0 h.f1.f1 h.f1.f2 = true
 | [], _, _, h, hh => by cases hh
 | x :: l, last, hm, h, hh => by
  have e : prsH (x :: l) = prH x :: prsH l := rfl
  rw [e] at hm
  obtain ⟨h1, h2, h3⟩ := mayHs_cons.1 hm
  rcases List.mem_cons.1 hh with rfl | hh
  ·exact ⟨h1.2.2, h2⟩
  ·exact mayHs_mem h3 h hh
def setS (a : S35) (l : List S35) : List S35 :=
 ((dropS a.f0 l).take (posS (dropS a.f0 l) a.f0 (dropS a.f0 l).length) ++ [a]) ++ (dropS a.f0 l).drop (posS (dropS a.f0 l) a.f0 (dropS a.f0 l).length)
theorem garnerref21_Set_ev (a : S35) {l : List S35} (hl : l.length ≤ 1000000000000) : Ev (fun k => garnerref21_Set.f k l a) (setS a l) := by
 simp only [garnerref21_Set.f]
 rw [ev_bind (garnerref21_Drop_ev a.f0 hl)]
 simp only
 have := dropS_len a.f0 l
 rw [ev_ite, if_pos (by omega), ev_some]
 rfl
theorem setS_mem {a b : S35} {l : List S35} (h : b ∈ setS a l) : b = a ∨ b ∈ l := by
 unfold setS at h
 simp only [List.mem_append, List.mem_singleton] at h
 rcases h with (h | h) | h
 ·exact .inr (dropS_mem (List.mem_of_mem_take h))
 ·exact .inl h
 ·exact .inr (dropS_mem (List.mem_of_mem_drop h))
theorem setS_len (a : S35) (l : List S35) : (setS a l).length ≤ l.length + 1 := by
 unfold setS
 have := dropS_len a.f0 l
 simp only [List.length_append, List.length_take, List.length_drop, List.length_singleton]
 omega
theorem setS_wat (a : S35) {l : List S35} (hn : ((kvM l).map (·.1)).Nodup) (s : Int) : wat s (setS a l) = if s = a.f0 then some a.f1 else wat s l := by
 have hd : wat a.f0 (dropS a.f0 l) = none := by
  unfold wat
  rw [dropS_kv]
  exact gat_gdel_same _ hn
 have hs : ∀ (p : Nat), wat s ((dropS a.f0 l).take p ++ (dropS a.f0 l).drop p) = wat s (dropS a.f0 l) := fun p => by rw [List.take_append_drop]
 unfold setS
 generalize posS (dropS a.f0 l) a.f0 (dropS a.f0 l).length = p
 have e1 : ∀ x y, kvM (x ++ y) = kvM x ++ kvM y := fun x y => by simp [kvM]
 have e2 : kvM [a] = [(a.f0, a.f1)] := rfl
 have hp := hs p
 unfold wat at hd hp ⊢
 rw [e1, gat_app] at hp
 rw [e1, e1, gat_app, gat_app, e2]
 by_cases h : s = a.f0
 ·rw [if_pos h, h]
  have h1 : gat a.f0 (kvM ((dropS a.f0 l).take p)) = none := by
   rw [h, hd] at hp
   cases hg : gat a.f0 (kvM ((dropS a.f0 l).take p)) with
   | none => rfl
   | some v => rw [hg] at hp; cases hp
  rw [h1]
  simp [gat]
 ·rw [if_neg h]
  have h2 : gat s [(a.f0, a.f1)] = none := by simp [gat]; exact fun e => h e.symm
  rw [h2, Option.or_none, hp, dropS_kv, gat_gdel_ne h]
theorem setS_keys (a : S35) {l : List S35} (hn : ((kvM l).map (·.1)).Nodup) : ((kvM (setS a l)).map (·.1)).Nodup := by
 have hk : ∀ x : List S35, (kvM x).map (·.1) = x.map (·.f0) := fun x => by simp [kvM]
 have hd : a.f0 ∉ (dropS a.f0 l).map (·.f0) := by
  rw [← hk]
  intro hm
  have h1 := gat_key hm
  rw [dropS_kv, gat_gdel_same _ hn] at h1
  cases h1
 have hnd : ((dropS a.f0 l).map (·.f0)).Nodup := by
  rw [← hk, dropS_kv]
  exact List.Sublist.nodup (gdel_keys _ _) hn
 rw [hk]
 unfold setS
 generalize posS (dropS a.f0 l) a.f0 (dropS a.f0 l).length = p
 have hp : (((dropS a.f0 l).take p ++ [a] ++ (dropS a.f0 l).drop p).map (·.f0)).Perm (a.f0 :: (dropS a.f0 l).map (·.f0)) := by
  have h1 : ((dropS a.f0 l).take p ++ [a] ++ (dropS a.f0 l).drop p).Perm (a :: (dropS a.f0 l)) := by
   have h2 : ((dropS a.f0 l).take p ++ a :: (dropS a.f0 l).drop p).Perm (a :: ((dropS a.f0 l).take p ++ (dropS a.f0 l).drop p)) := List.perm_middle
   rw [List.take_append_drop] at h2
   simpa using h2
  exact h1.map _
 exact hp.nodup_iff.2 (List.nodup_cons.2 ⟨hd, hnd⟩)
theorem posS_posZ (l : List S35) (x : Int) : ∀ j, posS l x j = posZ x (l.map (·.f0)) j
 | 0 => rfl
 | j + 1 => by
  have e : rd (l.map (·.f0)) (j : Int) = (rd_T35 l (j : Int)).f0 := by
   rw [rd_nat]
   unfold rd_T35
   rw [Int.toNat_natCast, List.getD_eq_getElem?_getD, List.getD_eq_getElem?_getD, List.getElem?_map]
   cases l[j]? <;> rfl
  rw [posS, posZ, e, posS_posZ l x j]
theorem setS_srt (a : S35) {l : List S35} (h : (l.map (·.f0)).Pairwise (· ≤ ·)) : ((setS a l).map (·.f0)).Pairwise (· ≤ ·) := by
 have hk : ∀ x : List S35, (kvM x).map (·.1) = x.map (·.f0) := fun x => by simp [kvM]
 have hd : ((dropS a.f0 l).map (·.f0)).Pairwise (· ≤ ·) := by
  have h1 := gdel_keys a.f0 (kvM l)
  rw [← dropS_kv, hk, hk] at h1
  exact h.sublist h1
 have e : (setS a l).map (·.f0) = insZ ((dropS a.f0 l).map (·.f0)) a.f0 := by
  unfold setS insZ
  rw [posS_posZ, List.length_map]
  simp
 rw [e]
 exact insZ_sorted hd _
structure Inv (ms : Mvs) (ws : List S35) : Prop where
 n1 : (ms.map (·.1)).Nodup
 n2 : ((kvM ws).map (·.1)).Nodup
 eq : ∀ s, gat s ms = (wat s ws).map relay_ofs
 may : ∀ a ∈ ws, mayV a.f0 (prsH a.f1) = true
 srt : (ws.map (·.f0)).Pairwise (· ≤ ·)
theorem play_st_ev {ms : Mvs} {ws : List S35} (hI : Inv ms ws) (a : S50) (ha : a.f1.f1.length ≤ 40) (hl : ws.length ≤ 1000000) : ∃ ms1 ws1, Ev (fun k => play_st k a ms ws) (ms1, ws1) ∧ Inv ms1 ws1 ∧ ws1.length ≤ ws.length + 1 := by
 obtain ⟨f0, seg, hops⟩ := a
 simp only at ha
 cases f0 with
 | true =>
  refine ⟨gdel seg ms, dropS seg ws, ?_, ?_, by have := dropS_len seg ws; omega⟩
  ·simp only [play_st, if_true]
   rw [ev_bind (garnerref21_Drop_ev seg (by omega))]
   simp only
   rw [ev_ite, if_pos (by rw [hI.eq seg]; simp), ev_some]
  ·refine ⟨List.Sublist.nodup (gdel_keys _ _) hI.n1, by rw [dropS_kv]; exact List.Sublist.nodup (gdel_keys _ _) hI.n2, fun s => ?_, fun a h => hI.may a (dropS_mem h), ?_⟩
   rotate_left
   ·have h1 := gdel_keys seg (kvM ws)
    rw [← dropS_kv] at h1
    have hk : ∀ x : List S35, (kvM x).map (·.1) = x.map (·.f0) := fun x => by simp [kvM]
    rw [hk, hk] at h1
    exact hI.srt.sublist h1
   unfold wat
   rw [dropS_kv]
   by_cases h : s = seg
   ·subst h
    rw [gat_gdel_same _ hI.n1, gat_gdel_same _ hI.n2]
    rfl
   ·rw [gat_gdel_ne h, gat_gdel_ne h]
    exact hI.eq s
 | false =>
  have h1 := relay_may_ev seg (l := hops) (by omega)
  have h2 := garnerref21_May_ev seg (l := hops) (by omega)
  cases hm : mayV seg (prsH hops) with
  | false =>
   rw [hm] at h1 h2
   refine ⟨ms, ws, ?_, hI, by omega⟩
   simp only [play_st, Bool.false_eq_true, if_false]
   rw [ev_bind h1, ev_bind h2, ev_ite, if_pos rfl, ev_ite, if_neg (by simp), ev_some]
  | true =>
   rw [hm] at h1 h2
   refine ⟨gput seg (relay_ofs hops) ms, setS ⟨seg, hops⟩ ws, ?_, ?_, setS_len _ _⟩
   ·simp only [play_st, Bool.false_eq_true, if_false]
    rw [ev_bind h1, ev_bind h2, ev_ite, if_pos rfl, ev_ite, if_pos rfl, ev_bind (garnerref21_Set_ev ⟨seg, hops⟩ (by omega)), ev_some]
   ·refine ⟨(gput_keys _ _ hI.n1).1, setS_keys _ hI.n2, fun s => ?_, fun a h => ?_, setS_srt _ hI.srt⟩
    ·rw [gat_gput, setS_wat _ hI.n2]
     by_cases h : s = seg
     ·rw [if_pos h, if_pos h]
      rfl
     ·rw [if_neg h, if_neg h]
      exact hI.eq s
    ·rcases setS_mem h with rfl | h
     ·exact hm
     ·exact hI.may a h
theorem play_l0_ev : ∀ (l : List S50) (ms : Mvs) (ws : List S35), Inv ms ws → (∀ a ∈ l, a.f1.f1.length ≤ 40) → ws.length + l.length ≤ 1000000 → ∃ ms1 ws1, Ev (fun k => play_l0 k l ms ws) (ms1, ws1) ∧ Inv ms1 ws1 ∧ ws1.length ≤ ws.length + l.length
 | [], ms, ws, hI, _, _ => ⟨ms, ws, by simp only [play_l0]; exact Ev.now _, hI, by simp⟩
 | a :: l, ms, ws, hI, ha, hl => by
  simp only [List.length_cons] at hl
  obtain ⟨m1, w1, h1, h2, h3⟩ := play_st_ev hI a (ha a List.mem_cons_self) (by omega)
  obtain ⟨m2, w2, h4, h5, h6⟩ := play_l0_ev l m1 w1 h2 (fun b hb => ha b (List.mem_cons_of_mem _ hb)) (by omega)
  refine ⟨m2, w2, ?_, h5, by simp only [List.length_cons]; omega⟩
  simp only [play_l0]
  rw [ev_bind h1]
  exact h4
theorem play_f_ev {l : List S50} (ha : ∀ a ∈ l, a.f1.f1.length ≤ 40) (hl : l.length ≤ 30) : ∃ ms ws, Ev (fun k => play_f k l) (ms, ws) ∧ Inv ms ws ∧ ws.length ≤ 30 := by
 obtain ⟨m, w, h1, h2, h3⟩ := play_l0_ev l [] [] ⟨by simp, by simp [kvM], fun s => rfl, (fun a h => by cases h), by simp⟩ ha (by simp; omega)
 exact ⟨m, w, h1, h2, by simp at h3; omega⟩
theorem kvM_keys (x : List S35) : (kvM x).map (·.1) = x.map (·.f0) := by simp [kvM]
def kvH (l : List S37) : List (Int × S25) := l.map fun h => (h.f0, h.f1)
theorem gput_new {α : Type} {k : Int} {v : α} : ∀ {g : List (Int × α)}, k ∉ g.map (·.1) → gput k v g = g ++ [(k, v)]
 | [], _ => rfl
 | p :: r, h => by
  simp only [List.map_cons, List.mem_cons, not_or] at h
  simp only [gput]
  rw [if_neg (Ne.symm h.1), gput_new h.2]
  rfl
theorem ofs_fold : ∀ (l : List S37) (g : List (Int × S25)), (g.map (·.1) ++ l.map (·.f0)).Nodup → l.foldl (fun g h => gput h.f0 h.f1 g) g = g ++ kvH l
 | [], g, _ => by simp [kvH]
 | x :: l, g, h => by
  have h1 : x.f0 ∉ g.map (·.1) := by
   intro hm
   have := (List.nodup_append.1 h).2.2 _ hm _ (List.mem_cons_self)
   exact this rfl
  have e : (x :: l).foldl (fun g h => gput h.f0 h.f1 g) g = l.foldl (fun g h => gput h.f0 h.f1 g) (gput x.f0 x.f1 g) := rfl
  rw [e, gput_new h1, ofs_fold l]
  ·simp [kvH]
  ·simpa using h
theorem ofs_kv {l : List S37} (h : (l.map (·.f0)).Nodup) : relay_ofs l = kvH l := by
 have := ofs_fold l [] (by simpa using h)
 simpa [relay_ofs] using this
theorem rise_nodup {s : Int} : ∀ {l : List S37} {last : Int}, mayHs s last (prsH l) = true → (l.map (·.f0)).Nodup ∧ ∀ h ∈ l, last < h.f0
 | [], _, _ => ⟨by simp, fun h hh => by cases hh⟩
 | x :: l, last, hm => by
  have e : prsH (x :: l) = prH x :: prsH l := rfl
  rw [e] at hm
  obtain ⟨h1, _, h3⟩ := mayHs_cons.1 hm
  have h0 : last < x.f0 := h1.1
  obtain ⟨h4, h5⟩ := rise_nodup h3
  have h5' : ∀ h ∈ l, x.f0 < h.f0 := h5
  refine ⟨?_, fun h hh => ?_⟩
  ·simp only [List.map_cons, List.nodup_cons]
   refine ⟨fun hm2 => ?_, h4⟩
   obtain ⟨y, hy, e2⟩ := List.mem_map.1 hm2
   have := h5' y hy
   omega
  ·rcases List.mem_cons.1 hh with rfl | hh
   ·exact h0
   ·have := h5' h hh
    omega
def hopS (l : List S37) (p1 p2 p3 : Int) : Option S25 := match gat p1 (kvH l) with
 | some q => if q.f2 = p2 ∧ q.f3 = p3 then some q else none
 | none => none
theorem rdH0 {l : List S37} {i : Nat} (h : i < l.length) : rd_T37 l (i : Int) = l[i] := by simp [rd_T37, h]
theorem garnerref21_Find_l0_ev {ws : List S35} {i : Nat} (hi : i < ws.length) (hw : ws.length ≤ 1000000) {p0 p1 p2 p3 : Int} {r1 r2 r3 r4 m : Int} {t : Bool} {hops : List S37} (hh : hops = (rd_T35 ws (i : Int)).f1) (hl : hops.length ≤ 1000000) (hn : (hops.map (·.f0)).Nodup)
 (hr : ∀ q, hopS hops p1 p2 p3 = some q → Ev (fun k => garnerref21_Find.f k (ws.drop (i + 1)) q.f0 q.f1 q.f2 q.f3) (r1, r2, r3, r4, m, t)) :
 ∀ (d j : Nat), hops.length - j = d → j ≤ hops.length → (hops.take j).all (fun h => !(decide (h.f0 = p1) && decide (h.f1.f2 = p2) && decide (h.f1.f3 = p3))) = true →
  Ev (fun k => garnerref21_Find.l0 k ws (i : Int) (j : Int) p0 p1 p2 p3) (match hopS hops p1 p2 p3 with | some _ => (r1, r2, r3, r4, wrap64 (m + 1), t) | none => (0, 0, 0, 0, 0, false)) := by
 have hwi : wrap64 ((i : Int) + 1) = ((i + 1 : Nat) : Int) := w64 (by omega) (by omega)
 have hmem : ∀ q, gat p1 (kvH hops) = some q → ∃ h ∈ hops, h.f0 = p1 ∧ h.f1 = q := by
  intro q hq
  obtain ⟨h, hh2, e⟩ := List.mem_map.1 (gat_mem hq)
  cases e
  exact ⟨h, hh2, rfl, rfl⟩
 have hat : ∀ h ∈ hops, gat h.f0 (kvH hops) = some h.f1 := by
  clear hr hh hmem hl
  induction hops with
  | nil => intro h hh; cases hh
  | cons x l ih =>
   intro h hh
   simp only [List.map_cons, List.nodup_cons] at hn
   have e : kvH (x :: l) = (x.f0, x.f1) :: kvH l := rfl
   rw [e]
   simp only [gat]
   rcases List.mem_cons.1 hh with rfl | hh
   ·rw [if_pos rfl]
   ·have hne : ¬ x.f0 = h.f0 := fun e2 => hn.1 (by rw [e2]; exact List.mem_map.2 ⟨h, hh, rfl⟩)
    rw [if_neg hne, ih hn.2 h hh]
 intro d
 induction d with
 | zero =>
  intro j hd hj hall
  have hje : j = hops.length := by omega
  subst hje
  rw [List.take_length] at hall
  have hnone : hopS hops p1 p2 p3 = none := by
   unfold hopS
   cases hg : gat p1 (kvH hops) with
   | none => rfl
   | some q =>
    simp only
    rw [if_neg]
    rintro ⟨h2, h3⟩
    obtain ⟨h, hm, e0, e1⟩ := hmem q hg
    have := List.all_eq_true.1 hall h hm
    rw [e1] at this
    simp [e0, h2, h3] at this
  rw [hnone, ev_succ]
  simp only [garnerref21_Find.l0, ev_ite, ← hh]
  rw [if_pos (by omega), if_pos (by omega), if_neg (by omega), ev_some]
 | succ d ih =>
  intro j hd hj hall
  have hjl : j < hops.length := by omega
  have hwj : wrap64 ((j : Int) + 1) = ((j + 1 : Nat) : Int) := w64 (by omega) (by omega)
  have next : ¬ (hops[j].f0 = p1 ∧ hops[j].f1.f2 = p2 ∧ hops[j].f1.f3 = p3) → Ev (fun k => garnerref21_Find.l0 k ws (i : Int) ((j + 1 : Nat) : Int) p0 p1 p2 p3) (match hopS hops p1 p2 p3 with | some _ => (r1, r2, r3, r4, wrap64 (m + 1), t) | none => (0, 0, 0, 0, 0, false)) := by
   intro hno
   refine ih (j + 1) (by omega) (by omega) ?_
   rw [List.take_succ_eq_append_getElem hjl, List.all_append, hall]
   simp only [List.all_cons, List.all_nil, Bool.and_true, Bool.true_and]
   rw [Bool.not_eq_true', Bool.eq_false_iff]
   intro hc
   simp only [Bool.and_eq_true, decide_eq_true_eq] at hc
   exact hno ⟨hc.1.1, hc.1.2, hc.2⟩
  rw [ev_succ]
  simp only [garnerref21_Find.l0, ev_ite, ← hh]
  rw [if_pos (by omega), if_pos (by omega), if_pos (by omega), if_pos (by omega), rdH0 hjl, hwj, hwi]
  by_cases h0 : hops[j].f0 = p1
  ·rw [if_pos h0]
   by_cases h2 : hops[j].f1.f2 = p2
   ·rw [if_pos h2]
    by_cases h3 : hops[j].f1.f3 = p3
    ·rw [if_pos h3, if_pos (by omega), if_pos (by omega), Int.toNat_natCast]
     have hs : hopS hops p1 p2 p3 = some hops[j].f1 := by
      unfold hopS
      rw [← h0, hat hops[j] (List.getElem_mem hjl)]
      simp only
      rw [if_pos ⟨h2, h3⟩]
     have h4 := hr _ hs
     rw [hs, ev_bind h4, ev_some]
    ·rw [if_neg h3]
     exact next (fun h => h3 h.2.2)
   ·rw [if_neg h2]
    exact next (fun h => h2 h.2.1)
  ·rw [if_neg h0]
   exact next (fun h => h0 h.1)
theorem atS_at (s : Int) : ∀ (l : List S35) (i : Nat), (atS s l i = -1 ∧ wat s l = none) ∨ ∃ (j : Nat) (hj : j < l.length), atS s l i = ((i + j : Nat) : Int) ∧ l[j].f0 = s ∧ wat s l = some l[j].f1
 | [], i => .inl ⟨rfl, rfl⟩
 | a :: r, i => by
  have e : wat s (a :: r) = if a.f0 = s then some a.f1 else wat s r := rfl
  by_cases h : a.f0 = s
  ·exact .inr ⟨0, by simp, by simp [atS, h], h, by rw [e, if_pos h]; rfl⟩
  ·rcases atS_at s r (i + 1) with ⟨h1, h2⟩ | ⟨j, hj, h1, h2, h3⟩
   ·exact .inl ⟨by simp [atS, h, h1], by rw [e, if_neg h, h2]⟩
   ·refine .inr ⟨j + 1, by simpa using hj, ?_, by simpa using h2, by rw [e, if_neg h, h3]; rfl⟩
    simp only [atS, if_neg h, h1]
    congr 1
    omega
theorem find_both {ms : Mvs} : ∀ (N : Nat) (ws : List S35) (p : S25) (n : Int), ws.length ≤ N → ws.length ≤ 1000000 → (ws.map (·.f0)).Pairwise (· < ·) → (∀ a ∈ ws, mayV a.f0 (prsH a.f1) = true) →
 (∀ s, p.f0 ≤ s → gat s ms = (wat s ws).map relay_ofs) → 0 ≤ n → n + ws.length ≤ 1000000 →
 ∃ (q : S25) (m : Int) (t : Bool), Ev (fun k => garnerref21_Find.f k ws p.f0 p.f1 p.f2 p.f3) (q.f0, q.f1, q.f2, q.f3, m, t) ∧ 0 ≤ m ∧ m ≤ ws.length ∧ Ev (fun k => relay_Find.l0 k ms p n) (if t = true then (q, n + m, 0) else (z25, 0, 3)) ∧ (t = true → q.f2 = p.f2 ∧ q.f3 = p.f3) := by
 intro N
 induction N with
 | zero =>
  intro ws p n hN _ _ _ hag h0 h1
  have hw : ws = [] := List.eq_nil_of_length_eq_zero (by omega)
  subst hw
  refine ⟨p, 0, true, ?_, by omega, by simp, ?_, fun _ => ⟨rfl, rfl⟩⟩
  ·rw [ev_succ]
   simp only [garnerref21_Find.f]
   rw [ev_bind (garnerref21_at_ev p.f0 (by simp)), ev_ite, if_pos (by simp [atS]), ev_some]
  ·rw [ev_succ]
   have hg := hag p.f0 (Int.le_refl _)
   simp only [relay_Find.l0, hg]
   simp only [if_true, Int.add_zero]
   exact Ev.now _
 | succ N ih =>
  intro ws p n hN hwl hs hmay hag h0 h1
  have hg := hag p.f0 (Int.le_refl _)
  rcases atS_at p.f0 ws 0 with ⟨ha, hw⟩ | ⟨j, hj, ha, he, hw⟩
  ·refine ⟨p, 0, true, ?_, by omega, by omega, ?_, fun _ => ⟨rfl, rfl⟩⟩
   ·rw [ev_succ]
    simp only [garnerref21_Find.f]
    rw [ev_bind (garnerref21_at_ev p.f0 (by omega)), ev_ite, if_pos (by rw [ha]; omega), ev_some]
   ·rw [ev_succ]
    rw [hw] at hg
    simp only [relay_Find.l0, hg]
    simp only [if_true, Int.add_zero]
    exact Ev.now _
  ·have hm := hmay ws[j] (List.getElem_mem hj)
   have hm2 := mayV_iff.1 hm
   rw [prsH_len] at hm2
   obtain ⟨hnd, _⟩ := rise_nodup hm2.2
   rw [hw] at hg
   have hg' : gat p.f0 ms = some (kvH ws[j].f1) := by rw [hg, Option.map_some, ofs_kv hnd]
   have hrd : rd_T35 ws (j : Int) = ws[j] := rdM_get hj
   have hfind : ∀ r, Ev (fun k => garnerref21_Find.l0 k ws (j : Int) ((0 : Nat) : Int) p.f0 p.f1 p.f2 p.f3) r → Ev (fun k => garnerref21_Find.f k ws p.f0 p.f1 p.f2 p.f3) r := by
    intro r hr
    rw [ev_succ]
    simp only [garnerref21_Find.f]
    rw [ev_bind (garnerref21_at_ev p.f0 (by omega)), ev_ite, if_neg (by rw [ha]; omega), ha, Nat.zero_add]
    exact hr
   cases hq : hopS ws[j].f1 p.f1 p.f2 p.f3 with
   | none =>
    have h2 := garnerref21_Find_l0_ev (p0 := p.f0) (p1 := p.f1) (p2 := p.f2) (p3 := p.f3) (r1 := 0) (r2 := 0) (r3 := 0) (r4 := 0) (m := 0) (t := false) hj hwl (hops := ws[j].f1) (by rw [hrd]) (by omega) hnd (fun q h => by rw [hq] at h; cases h) (ws[j].f1.length - 0) 0 rfl (by omega) (by simp)
    rw [hq] at h2
    refine ⟨z25, 0, false, hfind _ h2, by omega, by omega, ?_, fun h => by cases h⟩
    rw [ev_succ]
    simp only [relay_Find.l0, hg']
    rw [if_neg (by simp)]
    unfold hopS at hq
    cases hgq : gat p.f1 (kvH ws[j].f1) with
    | none => exact Ev.now _
    | some q =>
     rw [hgq] at hq
     simp only at hq ⊢
     by_cases h3 : q.f2 = p.f2
     ·by_cases h4 : q.f3 = p.f3
      ·rw [if_pos ⟨h3, h4⟩] at hq; cases hq
      ·simp only [if_pos h3, if_neg h4]; exact Ev.now _
     ·simp only [if_neg h3]; exact Ev.now _
   | some q =>
    have hgq : gat p.f1 (kvH ws[j].f1) = some q ∧ q.f2 = p.f2 ∧ q.f3 = p.f3 := by
     unfold hopS at hq
     cases hgq : gat p.f1 (kvH ws[j].f1) with
     | none => rw [hgq] at hq; cases hq
     | some q' =>
      rw [hgq] at hq
      simp only at hq
      split at hq
      ·rename_i h3
       cases hq
       exact ⟨rfl, h3⟩
      ·cases hq
    obtain ⟨hop, hhm, e0, e1⟩ : ∃ h ∈ ws[j].f1, h.f0 = p.f1 ∧ h.f1 = q := by
     obtain ⟨h, hh2, e⟩ := List.mem_map.1 (gat_mem hgq.1)
     exact ⟨h, hh2, congrArg Prod.fst e, congrArg Prod.snd e⟩
    have hrise := (mayHs_mem hm2.2 hop hhm).1
    rw [e1, he] at hrise
    have hsplit : ∀ s, q.f0 ≤ s → gat s ms = (wat s (ws.drop (j + 1))).map relay_ofs := by
     intro s hsq
     rw [hag s (by omega)]
     congr 1
     have h3 : wat s ws = (wat s (ws.take (j + 1))).or (wat s (ws.drop (j + 1))) := by
      unfold wat
      rw [← gat_app]
      congr 1
      unfold kvM
      rw [← List.map_append, List.take_append_drop]
     have h4 : wat s (ws.take (j + 1)) = none := by
      refine gat_none ?_
      rw [kvM_keys]
      intro hmem
      obtain ⟨a, ha2, e2⟩ := List.mem_map.1 hmem
      obtain ⟨i, hi, rfl⟩ := List.mem_iff_getElem.1 ha2
      rw [List.length_take] at hi
      rw [List.getElem_take] at e2
      have h5 : ws[i].f0 ≤ ws[j].f0 := by
       by_cases hij : i = j
       ·subst hij; exact Int.le_refl _
       ·have h6 := List.pairwise_iff_getElem.1 hs i j (by rw [List.length_map]; omega) (by rw [List.length_map]; omega) (by omega)
        rw [List.getElem_map, List.getElem_map] at h6
        omega
      omega
     rw [h3, h4]
     rfl
    obtain ⟨q2, m, t, i1, i2, i3, i4, i5⟩ := ih (ws.drop (j + 1)) q (n + 1) (by rw [List.length_drop]; omega) (by rw [List.length_drop]; omega) (by rw [List.map_drop]; exact hs.sublist (List.drop_sublist _ _)) (fun a h => hmay a (List.mem_of_mem_drop h)) hsplit (by omega) (by rw [List.length_drop]; omega)
    rw [List.length_drop] at i3
    have h2 := garnerref21_Find_l0_ev (p0 := p.f0) (p1 := p.f1) (p2 := p.f2) (p3 := p.f3) (r1 := q2.f0) (r2 := q2.f1) (r3 := q2.f2) (r4 := q2.f3) (m := m) (t := t) hj hwl (hops := ws[j].f1) (by rw [hrd]) (by omega) hnd (fun q' h => by rw [hq] at h; cases h; exact i1) (ws[j].f1.length - 0) 0 rfl (by omega) (by simp)
    rw [hq] at h2
    have hwm : wrap64 (m + 1) = m + 1 := w64 (by omega) (by omega)
    have hwn : wrap64 (n + 1) = n + 1 := w64 (by omega) (by omega)
    rw [hwm] at h2
    refine ⟨q2, m + 1, t, hfind _ h2, by omega, by omega, ?_, fun ht => ?_⟩
    ·rw [ev_succ]
     simp only [relay_Find.l0, hg', hgq.1]
     simp only [if_pos hgq.2.1, if_pos hgq.2.2, hwn]
     have e3 : n + (m + 1) = n + 1 + m := by omega
     rw [e3]
     exact i4
    ·have := i5 ht
     exact ⟨this.1.trans hgq.2.1, this.2.trans hgq.2.2⟩
theorem skeys_eq {ms : Mvs} {ws : List S35} (hI : Inv ms ws) : skeys ms = ws.map (·.f0) := by
 have hn2 := hI.n2
 rw [kvM_keys] at hn2
 have hmem : ∀ s, s ∈ ms.map (·.1) ↔ s ∈ ws.map (·.f0) := by
  intro s
  have h1 : s ∈ ms.map (·.1) ↔ (gat s ms).isSome = true := ⟨gat_key, fun h => Decidable.byContradiction fun hc => by rw [gat_none hc] at h; cases h⟩
  have h2 : s ∈ ws.map (·.f0) ↔ (wat s ws).isSome = true := by
   rw [← kvM_keys]
   exact ⟨gat_key, fun h => Decidable.byContradiction fun hc => by unfold wat at h; rw [gat_none hc] at h; cases h⟩
  rw [h1, h2, hI.eq s, Option.isSome_map]
 have hp : (ms.map (·.1)).Perm (ws.map (·.f0)) := (List.perm_ext_iff_of_nodup hI.n1 hn2).2 hmem
 unfold skeys
 refine sorted_one ((List.mergeSort_perm _ _).trans hp) ?_ hI.srt
 have := List.pairwise_mergeSort (le := fun x y : Int => decide (x ≤ y)) (by intro a b c; simp; omega) (by intro a b; simp; omega) (ms.map (·.1))
 simpa using this
theorem Inv.strict {ms : Mvs} {ws : List S35} (hI : Inv ms ws) : (ws.map (·.f0)).Pairwise (· < ·) := by
 have hn2 := hI.n2
 rw [kvM_keys] at hn2
 have h1 := hI.srt
 rw [List.pairwise_iff_getElem] at h1 ⊢
 intro i j hi hj hij
 have h2 := h1 i j hi hj hij
 have h3 : (ws.map (·.f0))[i] ≠ (ws.map (·.f0))[j] := List.pairwise_iff_getElem.1 hn2 i j hi hj hij
 omega
theorem RelayFinds : StRelayFinds.Pure := by
 intro l p0 p1 p2 p3 hl1 hl2 _ _ _ _ _
 refine Ev.rounds (g := fun k => garnerlaw21_RelayFinds.f k l p0 p1 p2 p3) ?_
 simp only [garnerlaw21_RelayFinds.f]
 obtain ⟨b, h1, h2⟩ := garnerlaw21_light_ev (l := l) (by omega)
 rw [ev_bind h1, ev_ite]
 cases b with
 | false => rw [if_pos rfl, ev_some]
 | true =>
  rw [if_neg (by simp)]
  obtain ⟨ms, ws, h3, hI, hwl⟩ := play_f_ev (h2 rfl).2 (h2 rfl).1
  rw [ev_bind h3]
  simp only
  have hkeys := skeys_eq hI
  have hml : ms.length = ws.length := by
   have h4 := congrArg List.length hkeys
   unfold skeys at h4
   simpa using h4
  have hseg : ∀ s ∈ ws.map (·.f0), 1 ≤ s ∧ s ≤ 2147483647 := by
   intro s hs
   obtain ⟨a, ha, rfl⟩ := List.mem_map.1 hs
   have := (mayV_iff.1 (hI.may a ha)).1
   exact ⟨this.1, this.2.1⟩
  have hall : (ms.all fun p => decide (1 ≤ p.1 ∧ p.1 ≤ 2147483647)) = true := by
   refine List.all_eq_true.2 (fun p hp => ?_)
   have h5 : p.1 ∈ ws.map (·.f0) := by
    rw [← hkeys]
    unfold skeys
    exact (List.mergeSort_perm _ _).symm.subset (List.mem_map.2 ⟨p, hp, rfl⟩)
   exact decide_eq_true (hseg _ h5)
  rw [ev_ite, if_pos ⟨by omega, by omega, hall⟩, ev_bind (garnerref03_Ints_ev (by rw [hkeys, List.length_map]; unfold maxLen; omega)), ev_ite, if_neg (by rw [hkeys]; simp)]
  obtain ⟨q, m, t, i1, i2, i3, i4, i5⟩ := find_both (ms := ms) ws.length ws ⟨p0, p1, p2, p3⟩ 0 (Nat.le_refl _) (by omega) hI.strict hI.may (fun s _ => hI.eq s) (by omega) (by omega)
  simp only at i1 i5
  by_cases hm : mayP p0 p1 p2 = true
  ·have h6 : Ev (fun k => relay_Find.f k ms ⟨p0, p1, p2, p3⟩) (if t = true then (q, 0 + m, 0) else (z25, 0, 3)) := by
    simp only [relay_Find.f]
    rw [ev_bind_c (point_Check_ev _ _ _ _), ev_ite, if_pos (by rw [if_pos hm])]
    exact i4
   rw [ev_bind h6, ev_bind_c (garnerref04_May_ev _ _ _ _), ev_ite, if_neg (by rw [hm]; simp), ev_bind i1]
   simp only
   cases t with
   | false =>
    rw [ev_ite, if_pos rfl, ev_ite, if_pos (by rw [if_neg (by simp)]; exact ⟨rfl, rfl, rfl, rfl, rfl, rfl⟩), ev_some]
   | true =>
    rw [ev_ite, if_neg (by simp), ev_ite, if_pos (by rw [if_pos rfl]; exact ⟨⟨rfl, rfl, rfl, rfl, by simp, rfl⟩, (i5 rfl).1, (i5 rfl).2, i3⟩), ev_some]
  ·have h6 : Ev (fun k => relay_Find.f k ms ⟨p0, p1, p2, p3⟩) (z25, 0, 1) := by
    simp only [relay_Find.f]
    rw [ev_bind_c (point_Check_ev _ _ _ _), ev_ite, if_neg (by rw [if_neg hm]; omega)]
    exact Ev.now _
   rw [ev_bind h6, ev_bind_c (garnerref04_May_ev _ _ _ _), ev_ite, if_pos (by simpa using hm), ev_ite, if_pos ⟨rfl, rfl, rfl, rfl, rfl, rfl⟩, ev_some]
end Go.Proofs.Ytklpoeaoojgljaa.Pure
