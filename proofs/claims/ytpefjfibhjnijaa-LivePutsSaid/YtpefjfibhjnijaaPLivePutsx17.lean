/- What the law reaches, as plain Lean functions, and that the machine's calls answer just that. -/
import Derived.Test.YtpefjfibhjnijaaPLivePutsx16
import Derived.Test.YtpefjfibhjnijaaPureALivePuts
namespace Go.Proofs.Ytpefjfibhjnijaa.PLivePuts
open Go.RowKit Go.Proofs.Ytpefjfibhjnijaa.U Go.Proofs.Ytpefjfibhjnijaa.Pure Go.Proofs.YtpefjfibhjnijaaW.PrintWords Go.Proofs.YtpefjfibhjnijaaW.PrintLast Go.Proofs.YtpefjfibhjnijaaW.PrintMore
set_option linter.unusedVariables false
theorem insP_perm (o : List S24) (x : S24) : (garnerref04_Order.ins o x).Perm (o ++ [x]) := by
 unfold garnerref04_Order.ins
 generalize garnerref04_Order.pos x o o.length = p
 have h : (o.take p ++ x :: o.drop p).Perm (x :: (o.take p ++ o.drop p)) := List.perm_middle
 rw [List.take_append_drop] at h
 exact h.trans (List.perm_append_singleton x o).symm
theorem foldP_perm : ∀ (l o : List S24), (l.foldl garnerref04_Order.ins o).Perm (o ++ l)
 | [], o => by rw [List.foldl_nil, List.append_nil]
 | x :: l, o => by
  rw [List.foldl_cons]
  have h := (foldP_perm l (garnerref04_Order.ins o x)).trans ((insP_perm o x).append_right l)
  rwa [List.append_assoc] at h
/-- The set's map and the document's row. -/
structure RG (g : List ((Int × Int) × S24)) (wl : List S24) : Prop where
 key : ∀ p ∈ g, p.1 = keyP p.2
 nod : (wl.map keyP).Nodup
 perm : wl.Perm (g.map (·.2))
 up : wl.Pairwise (fun a b => ¬ ltP b a)
theorem RG.nil : RG [] [] := ⟨fun p hp => absurd hp List.not_mem_nil, List.Pairwise.nil, List.Perm.refl _, List.Pairwise.nil⟩
theorem pat_any (k : Int × Int) : ∀ {g : List ((Int × Int) × S24)}, (∀ p ∈ g, p.1 = keyP p.2) → (pat k g).isSome = hasP (g.map (·.2)) k
 | [], _ => rfl
 | p :: g, h => by
  have ih := pat_any k (g := g) (fun q hq => h q (List.mem_cons_of_mem _ hq))
  have hp := h p List.mem_cons_self
  simp only [pat, hasP, List.map_cons, List.any_cons]
  by_cases e : p.1 = k
  ·rw [if_pos e, decide_eq_true (show keyP p.2 = k by rw [← hp]; exact e), Bool.true_or]
   rfl
  ·rw [if_neg e, decide_eq_false (show ¬ keyP p.2 = k by rw [← hp]; exact e), Bool.false_or]
   exact ih
theorem hasP_perm {l r : List S24} (h : l.Perm r) (k : Int × Int) : hasP l k = hasP r k := h.any_eq
theorem RG.has {g : List ((Int × Int) × S24)} {wl : List S24} (h : RG g wl) (k : Int × Int) : (pat k g).isSome = hasP wl k := (pat_any k h.key).trans (hasP_perm h.perm k).symm
theorem RG.put {g : List ((Int × Int) × S24)} {wl : List S24} (h : RG g wl) (x : S24) : RG (putL g x) (putR wl x) := by
 unfold putL putR
 rw [show (pat (x.f0, x.f1) g).isSome = hasP wl (keyP x) from h.has (keyP x)]
 by_cases hx : hasP wl (keyP x) = true
 ·rw [if_pos hx, if_pos hx]
  exact h
 ·rw [if_neg hx, if_neg hx]
  have hp : ((wl ++ [x]).foldl garnerref04_Order.ins []).Perm (wl ++ [x]) := foldP_perm (wl ++ [x]) []
  have hup := (foldP (wl ++ [x]) [] [] List.Pairwise.nil (Stb.refl _)).1
  refine ⟨fun p hm => ?_, ?_, ?_, hup⟩
  ·rcases List.mem_append.1 hm with hm | hm
   ·exact h.key p hm
   ·rw [List.mem_singleton] at hm
    rw [hm]
    rfl
  ·refine (hp.map keyP).nodup_iff.2 ?_
   rw [List.map_append, List.map_singleton, List.nodup_append]
   refine ⟨h.nod, List.pairwise_singleton _ _, fun a ha b hb => ?_⟩
   rw [List.mem_singleton] at hb
   rw [hb]
   intro e
   apply hx
   obtain ⟨y, hy, hk⟩ := List.mem_map.1 ha
   unfold hasP
   rw [List.any_eq_true]
   exact ⟨y, hy, decide_eq_true (hk.trans e)⟩
  ·rw [List.map_append]
   exact hp.trans (h.perm.append_right _)
theorem RG.puts : ∀ (l : List S24) {g : List ((Int × Int) × S24)} {wl : List S24}, RG g wl → RG (putsL g l) (l.foldl putR wl)
 | [], _, _, h => h
 | x :: l, _, _, h => RG.puts l (h.put x)
theorem filter_one {l : List S24} (c : Int × Int) : (l.map keyP).Nodup → (l.filter (fun x => decide (keyP x = c))).length ≤ 1 := by
 induction l with
 | nil => intro _; simp
 | cons x l ih =>
  intro h
  rw [List.map_cons, List.nodup_cons] at h
  by_cases e : keyP x = c
  ·rw [List.filter_cons_of_pos (by simpa using e)]
   have : l.filter (fun x => decide (keyP x = c)) = [] := by
    rw [List.filter_eq_nil_iff]
    intro y hy hc
    exact h.1 (List.mem_map.2 ⟨y, hy, (of_decide_eq_true hc).trans e.symm⟩)
   rw [this]
   simp
  ·rw [List.filter_cons_of_neg (by simpa using e)]
   exact ih h.2
theorem perm_short {l r : List S24} (h : l.Perm r) (hl : l.length ≤ 1) : l = r := by
 match l, hl with
 | [], _ => exact (List.nil_perm.1 h).symm
 | [x], _ => exact (List.singleton_perm.1 h)
theorem stb_nodup {l r : List S24} (h : l.Perm r) (hn : (l.map keyP).Nodup) : Stb keyP l r := fun c => (perm_short (h.filter _) (filter_one c hn)).symm
/-- Whatever order the map gives its points in: sorted they are the document's row. -/
theorem RG.ord {g : List ((Int × Int) × S24)} {wl : List S24} (h : RG g wl) (hN : g.length ≤ 1000000) : ∀ ps : List S24, ps.Perm (g.map (·.2)) → ∃ k, point_Order.f k ps = some wl := by
 intro ps hp
 have hl : ps.length ≤ 1000000 := by rw [hp.length_eq, List.length_map]; exact hN
 obtain ⟨r, h1, h2⟩ := pointOrder_ev (x0 := ps) hl
 have hs : Stb keyP wl r := (stb_nodup (h.perm.trans hp.symm) h.nod).trans h2.2.1
 have hu : r.Pairwise (fun a b => ¬ ltP b a) := upP_pairwise (by rw [h2.1]; exact h2.2.2)
 have e : wl = r := stb_one (key := keyP) (lt := ltP) (fun x y => keyP_of) hs h.up hu
 obtain ⟨k, hk⟩ := Ev.rounds h1
 rw [e]
 exact ⟨k, hk⟩
end Go.Proofs.Ytpefjfibhjnijaa.PLivePuts
