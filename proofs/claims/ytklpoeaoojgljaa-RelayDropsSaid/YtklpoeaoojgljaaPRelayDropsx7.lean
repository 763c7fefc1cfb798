/- What the law reaches, as plain Lean functions, and that the machine's calls answer just that. -/
import Derived.Test.YtklpoeaoojgljaaPRelayDropsx0
import Derived.Maps.OwnSet
namespace Go.Proofs.Ytklpoeaoojgljaa.PRelayDrops
open Go.RowKit Go.Proofs.YtklpoeaoojgljaaW.PrintWords Go.Proofs.YtklpoeaoojgljaaW.PrintLast Go.Proofs.YtklpoeaoojgljaaW.PrintMore
set_option linter.unusedVariables false
set_option linter.unusedSimpArgs false
section
def gat {α : Type} (k : Int) : List (Int × α) → Option α
 | [] => none
 | p :: r => if p.1 = k then some p.2 else gat k r
def gput {α : Type} (k : Int) (v : α) : List (Int × α) → List (Int × α)
 | [] => [(k, v)]
 | p :: r => if p.1 = k then (k, v) :: r else p :: gput k v r
def gdel {α : Type} (k : Int) : List (Int × α) → List (Int × α)
 | [] => []
 | p :: r => if p.1 = k then r else p :: gdel k r
theorem gat_map {α β : Type} (f : α → β) (k : Int) : ∀ g : List (Int × α), gat k (g.map fun p => (p.1, f p.2)) = (gat k g).map f
 | [] => rfl
 | p :: r => by
  simp only [List.map_cons, gat, gat_map f k r]
  split <;> rfl
theorem gput_map {α β : Type} (f : α → β) (k : Int) (v : α) : ∀ g : List (Int × α), gput k (f v) (g.map fun p => (p.1, f p.2)) = (gput k v g).map fun p => (p.1, f p.2)
 | [] => rfl
 | p :: r => by
  simp only [List.map_cons, gput, gput_map f k v r]
  split <;> rfl
theorem gdel_map {α β : Type} (f : α → β) (k : Int) : ∀ g : List (Int × α), gdel k (g.map fun p => (p.1, f p.2)) = (gdel k g).map fun p => (p.1, f p.2)
 | [] => rfl
 | p :: r => by
  simp only [List.map_cons, gdel, gdel_map f k r]
  split <;> rfl
theorem gat_mem {α : Type} {k : Int} {v : α} : ∀ {g : List (Int × α)}, gat k g = some v → (k, v) ∈ g
 | [], h => by simp [gat] at h
 | p :: r, h => by
  obtain ⟨a, b⟩ := p
  simp only [gat] at h
  split at h
  ·rename_i e
   cases h
   subst e
   exact List.mem_cons_self
  ·exact List.mem_cons_of_mem _ (gat_mem h)
theorem gput_mem {α : Type} {k : Int} {v : α} {p : Int × α} : ∀ {g : List (Int × α)}, p ∈ gput k v g → p = (k, v) ∨ p ∈ g
 | [], h => by simp [gput] at h; exact .inl h
 | q :: r, h => by
  simp only [gput] at h
  split at h
  ·rcases List.mem_cons.1 h with h | h
   ·exact .inl h
   ·exact .inr (List.mem_cons_of_mem _ h)
  ·rcases List.mem_cons.1 h with h | h
   ·exact .inr (h ▸ List.mem_cons_self)
   ·exact (gput_mem h).imp id (List.mem_cons_of_mem _)
theorem gdel_mem {α : Type} {k : Int} {p : Int × α} : ∀ {g : List (Int × α)}, p ∈ gdel k g → p ∈ g
 | [], h => by simp [gdel] at h
 | q :: r, h => by
  simp only [gdel] at h
  split at h
  ·exact List.mem_cons_of_mem _ h
  ·rcases List.mem_cons.1 h with h | h
   ·exact h ▸ List.mem_cons_self
   ·exact List.mem_cons_of_mem _ (gdel_mem h)
/-- Block m of w is a map whose entries are these, in the order of memory. -/
def IM (w : World) (m : Nat) (g : List (Int × Value)) : Prop := ∃ es c, w.heap[m]? = some (.map es c) ∧ es.toList.map (fun e => (e.key, e.val)) = g.map (fun p => (Value.int .i64 p.1, p.2)) ∧ MapKept.Stamped es c
theorem IM.lt {w : World} {m : Nat} {g : List (Int × Value)} (h : IM w m g) : m < w.heap.size := by
 obtain ⟨es, c, h, _⟩ := h
 exact (Array.getElem?_eq_some_iff.1 h).1
theorem IM.move {w w1 : World} {m : Nat} {g : List (Int × Value)} (h : IM w m g) (e : w1.heap[m]? = w.heap[m]?) : IM w1 m g := by
 obtain ⟨es, c, h, h2⟩ := h
 exact ⟨es, c, e.trans h, h2⟩
theorem IM.grown {w w1 : World} {m : Nat} {g : List (Int × Value)} {row : Option Nat} (h : IM w m g) (hg : w.grownBy w1 row) (hne : some m ≠ row) : IM w1 m g := h.move (hg.block m h.lt hne)
theorem IM.below {w w1 : World} {m : Nat} {g : List (Int × Value)} (h : IM w m g) (hg : Below w.heap.size w w1) : IM w1 m g := h.move (hg.block m h.lt)
theorem IM.made (w : World) : IM (w.alloc (.map #[] 0)) w.heap.size [] := ⟨#[], 0, (MapKept.heap_alloc w _).1, rfl, MapKept.stamped_empty 0⟩
theorem IM.chk {P : Program} {kt : TypeId} (hk : P.underlying kt = some (.int .i64)) (k : Int) (e : Bool) (W : World) : (Instr.checkKey e 10000 kt (.int .i64 k)).run P W = .ok () W := MapKept.run_checkKey hk (by simp [MapKept.IsKey]) e 9999
theorem IM.find (k : Int) : ∀ (l : List MapEntry) (g : List (Int × Value)) (i : Nat), l.map (fun e => (e.key, e.val)) = g.map (fun p => (Value.int .i64 p.1, p.2)) →
  (gat k g = none ∧ Instr.findNow (.int .i64) (.int .i64 k) l i = some none ∧ gdel k g = g ∧ (∀ u, gput k u g = g ++ [(k, u)]) ∧ ∀ x ∈ l, x.key ≠ .int .i64 k) ∨
  (∃ j v, gat k g = some v ∧ Instr.findNow (.int .i64) (.int .i64 k) l i = some (some (i + j, v)) ∧ j < l.length ∧ (l[j]?.map (·.key)) = some (.int .i64 k) ∧ (∀ u, gput k u g = g.set j (k, u)) ∧ gdel k g = g.eraseIdx j)
 | [], [], i, _ => .inl ⟨rfl, rfl, rfl, fun _ => rfl, fun x hx => by cases hx⟩
 | [], p :: r, i, h => by simp at h
 | e :: l, [], i, h => by simp at h
 | e :: l, (a, b) :: r, i, h => by
  simp only [List.map_cons, List.cons.injEq, Prod.mk.injEq] at h
  obtain ⟨⟨h1, h2⟩, h3⟩ := h
  by_cases hp : a = k
  ·subst hp
   exact .inr ⟨0, b, by simp [gat], by simp [Instr.findNow, h1, Instr.sameNow, h2], by simp, by simp [h1], fun u => by simp [gput], by simp [gdel]⟩
  ·have hb : (k == a) = false := by simp; exact fun e => hp e.symm
   rcases IM.find k l r (i + 1) h3 with ⟨q1, q2, q3, q4, q7⟩ | ⟨j, v, q1, q2, q3, q4, q5, q6⟩
   ·exact .inl ⟨by simp [gat, hp, q1], by simp [Instr.findNow, h1, Instr.sameNow, hb, q2], by simp [gdel, hp, q3], fun u => by simp [gput, hp, q4], fun x hx => by
     rcases List.mem_cons.1 hx with rfl | hx
     ·rw [h1]; intro e; cases e; exact hp rfl
     ·exact q7 x hx⟩
   ·exact .inr ⟨j + 1, v, by simp [gat, hp, q1], by simp [Instr.findNow, h1, Instr.sameNow, hb, q2]; omega, by simpa using q3, by simpa using q4, fun u => by simp [gput, hp, q5], by simp [gdel, hp, q6]⟩
section
variable {P : Program} {t kt et : TypeId} {w : World} {m : Nat} {g : List (Int × Value)}
theorem IM.turned {es : Array MapEntry} {c : Nat} (hb : w.heap[m]? = some (.map es c)) (o : Obj) : w.grownBy (ChangeMaps.setBlock w m o) (some m) :=
 ⟨rfl, rfl, rfl, by simp [ChangeMaps.setBlock], fun i _ hi => ChangeMaps.heap_setBlock_other hb _ (fun e => hi (by rw [e]))⟩
theorem IM.upd (ht : P.underlying t = some (.map kt et)) (hk : P.underlying kt = some (.int .i64)) (h : IM w m g) (k : Int) (v : Value) :
  ∃ w', (Instr.mapUpdate t (.map (some m)) (.int .i64 k) v).run P w = .ok () w' ∧ IM w' m (gput k v g) ∧ w.grownBy w' (some m) := by
 obtain ⟨es, c, hb, he, hst⟩ := h
 rcases IM.find k es.toList g 0 he with ⟨_, q2, _, q4, q7⟩ | ⟨j, u, _, q2, q3, q4, q5, _⟩
 ·refine ⟨ChangeMaps.setBlock w m (.map (es.push { key := .int .i64 k, val := v, born := c }) (c + 1)), ?_, ⟨_, _, ChangeMaps.heap_setBlock_same hb _, ?_, MapKept.stamped_push hst q7⟩, IM.turned hb _⟩
  ·simp [Instr.mapUpdate, run_underlying ht, run_underlying hk, MapKept.run_getObj_map hb, IM.chk hk, Instr.findKey, q2, MapKept.run_setObj_map _ hb, Result.andThen, ChangeMaps.setBlock]
  ·rw [q4]
   simp [he]
 ·obtain ⟨e0, hj⟩ : ∃ e0, es[j]? = some e0 := ⟨_, Array.getElem?_eq_getElem (by simpa using q3)⟩
  have hkey : e0.key = .int .i64 k := by simpa [hj] using q4
  refine ⟨ChangeMaps.setBlock w m (.map (es.modify j (fun e' => { e' with key := .int .i64 k, val := v })) c), ?_, ⟨_, _, ChangeMaps.heap_setBlock_same hb _, ?_, MapKept.stamped_modify hst j _ (fun _ _ => rfl) (fun e' _ he' => by rw [hj] at he'; cases he'; exact hkey.symm)⟩, IM.turned hb _⟩
  ·have hs : (Instr.keyThatStays (.int .i64 k) (.int .i64 k)).run P w = .ok (.int .i64 k) w := by simp [Instr.keyThatStays, Instr.sameBits]
   simp [Instr.mapUpdate, run_underlying ht, run_underlying hk, MapKept.run_getObj_map hb, IM.chk hk, Instr.findKey, q2, hj, hkey, hs, MapKept.run_setObj_map _ hb, Result.andThen, ChangeMaps.setBlock]
  ·rw [q5, Array.toList_modify, ChangeMaps.modify_eq_set _ _ _ e0 (by simpa using hj), List.map_set, he, List.map_set]
theorem IM.look (ht : P.underlying t = some (.map kt et)) (hk : P.underlying kt = some (.int .i64)) (h : IM w m g) (k : Int) (ok : Bool) (z : Value) (hz : (zeroValue et).run P w = .ok z w) :
  (Instr.lookup t (.map (some m)) (.int .i64 k) ok).run P w = .ok (if ok then .tuple #[(gat k g).getD z, .bool (gat k g).isSome] else (gat k g).getD z) w := by
 obtain ⟨es, c, hb, he, _⟩ := h
 rcases IM.find k es.toList g 0 he with ⟨q1, q2, _⟩ | ⟨j, u, q1, q2, q3, q4, q5, _⟩
 ·simp [Instr.lookup, run_underlying ht, run_underlying hk, MapKept.run_getObj_map hb, IM.chk hk, Instr.findKey, q2, q1, Result.andThen, hz]
 ·simp [Instr.lookup, run_underlying ht, run_underlying hk, MapKept.run_getObj_map hb, IM.chk hk, Instr.findKey, q2, q1, Result.andThen]
theorem IM.del (ht : P.underlying t = some (.map kt et)) (hk : P.underlying kt = some (.int .i64)) (h : IM w m g) (k : Int) (ty : TypeId) :
  ∃ w', (Builtin.delete_ #[t, kt] ty #[.map (some m), .int .i64 k]).run P w = .ok (.tuple #[]) w' ∧ IM w' m (gdel k g) ∧ w.grownBy w' (some m) := by
 obtain ⟨es, c, hb, he, hst⟩ := h
 rcases IM.find k es.toList g 0 he with ⟨_, q2, q3, _, _⟩ | ⟨j, u, _, q2, q3, q4, _, q6⟩
 ·refine ⟨ChangeMaps.setBlock w m (.map es c), ?_, ⟨_, _, ChangeMaps.heap_setBlock_same hb _, ?_, hst⟩, IM.turned hb _⟩
  ·simp [Builtin.delete_, run_underlying ht, run_underlying hk, MapKept.run_getObj_map hb, IM.chk hk, Instr.findKey, q2, MapKept.run_setObj_map _ hb, Result.andThen, ChangeMaps.setBlock]
  ·rw [q3, he]
 ·refine ⟨ChangeMaps.setBlock w m (.map (es.eraseIdxIfInBounds j) c), ?_, ⟨_, _, ChangeMaps.heap_setBlock_same hb _, ?_, MapKept.stamped_erase hst j⟩, IM.turned hb _⟩
  ·simp [Builtin.delete_, run_underlying ht, run_underlying hk, MapKept.run_getObj_map hb, IM.chk hk, Instr.findKey, q2, MapKept.run_setObj_map _ hb, Result.andThen, ChangeMaps.setBlock]
  ·have h1 : (es.eraseIdxIfInBounds j).toList = es.toList.eraseIdx j := by
    rw [Array.eraseIdxIfInBounds, dif_pos (by simpa using q3)]
    simp
   rw [q6, h1, ChangeMaps.map_eraseIdx, he, ← ChangeMaps.map_eraseIdx]
end
section
variable {P : Program} {ops : Array Oper} {rest : List Oper} {o : Oper} {a : Act} {Q : Exit → Act → World → Prop}
theorem wpUpd (w : World) (hg : o.guard = none) (m x v : Operand) (t : TypeId) (hop : o.op = Op.mapUpdate t m x v) {kt et : TypeId} (ht : P.underlying t = some (.map kt et)) (hk : P.underlying kt = some (.int .i64)) (M : Nat) (k : Int) (V : Value) (g : List (Int × Value))
  (hm : a.eval m = .map (some M)) (hx : a.eval x = .int .i64 k) (hv : a.eval v = V) (h : IM w M g) (hK : ∀ w', IM w' M (gput k V g) → w.grownBy w' (some M) → wpList P ops Q rest (a.put o.dst undef) w') : wpList P ops Q (o :: rest) a w := by
 refine wpList_plain hg fun K' hK' => ?_
 obtain ⟨w', hr, h1, h2⟩ := h.upd ht hk k V
 unfold Oper.wp
 simp [execOp, hop, hm, hx, hv, hr, Result.andThen]
 exact hK' _ _ (hK w' h1 h2)
theorem wpLook (w : World) (hg : o.guard = none) (m x : Operand) (t : TypeId) (ok : Bool) (hop : o.op = Op.lookup t m x ok) {kt et : TypeId} (ht : P.underlying t = some (.map kt et)) (hk : P.underlying kt = some (.int .i64)) (M : Nat) (k : Int) (g : List (Int × Value)) (z : Value)
  (hz : (zeroValue et).run P w = .ok z w) (hm : a.eval m = .map (some M)) (hx : a.eval x = .int .i64 k) (h : IM w M g)
  (hK : wpList P ops Q rest (a.put o.dst (if ok then .tuple #[(gat k g).getD z, .bool (gat k g).isSome] else (gat k g).getD z)) w) : wpList P ops Q (o :: rest) a w := by
 refine wpList_plain hg fun K' hK' => ?_
 unfold Oper.wp
 simp [execOp, hop, hm, hx, h.look ht hk k ok z hz, Result.andThen]
 exact hK' _ _ hK
theorem wpDel (w : World) (hg : o.guard = none) (m x : Operand) (t kt : TypeId) (hop : o.op = Op.call { callee := Callee.builtin Builtin.delete, args := #[m, x], argTypes := #[t, kt] }) {et : TypeId} (ht : P.underlying t = some (.map kt et)) (hk : P.underlying kt = some (.int .i64)) (M : Nat) (k : Int) (g : List (Int × Value))
  (hm : a.eval m = .map (some M)) (hx : a.eval x = .int .i64 k) (h : IM w M g) (hK : ∀ w', IM w' M (gdel k g) → w.grownBy w' (some M) → wpList P ops Q rest (a.put o.dst (.tuple #[])) w') : wpList P ops Q (o :: rest) a w := by
 refine wpList_plain hg fun K' hK' => ?_
 obtain ⟨w', hr, h1, h2⟩ := h.del ht hk k o.type
 unfold Oper.wp
 simp [execOp, hop, resolve, invoke, builtin, hm, hx, hr, Result.andThen]
 exact hK' _ _ (hK w' h1 h2)
end
end
section
attribute [local go_sem] max2_int min2_int max_two min_two max_three min_three max_four min_four
attribute [local go_sem] wrap64_l1 wrap64_l2 wrap64_l3 wrap64_l4 wrap64_l5
mutual
def garnerlaw21_light.l0 : Nat → List (S50) → Int → Option (Bool)
 | 0, _, _ => none
 | k + 1, x0, x3 => if x3 < (x0.length : Int) then (garnerlaw21_light.j1 k x0 x3 (decide (x3 ≤ 30))) else (garnerlaw21_light.j1 k x0 x3 false)
def garnerlaw21_light.j1 : Nat → List (S50) → Int → Bool → Option (Bool)
 | 0, _, _, _ => none
 | k + 1, x0, x3, x11 => if x11 = true then (if 0 ≤ x3 then (if x3 < (x0.length : Int) then (if (((rd_T50 x0 x3).f1.f1).length : Int) > 40 then (some false) else (garnerlaw21_light.l0 k x0 (wrap64 (x3 + 1)))) else (none)) else (none)) else (some (decide ((x0.length : Int) ≤ 30)))
end
def garnerlaw21_light.f (k : Nat) (l0 : List (S50)) : Option (Bool) := garnerlaw21_light.l0 k l0 0
theorem garnerlaw21_light.mono_l : ∀ k, (∀ y0 y1, LeO (garnerlaw21_light.l0 k y0 y1) (garnerlaw21_light.l0 (k + 1) y0 y1)) ∧ (∀ y0 y1 y2, LeO (garnerlaw21_light.j1 k y0 y1 y2) (garnerlaw21_light.j1 (k + 1) y0 y1 y2))
 | 0 => ⟨fun _ _ r h => by simp [garnerlaw21_light.l0] at h, fun _ _ _ r h => by simp [garnerlaw21_light.j1] at h⟩
 | k + 1 => by
  obtain ⟨ih0, ih1⟩ := garnerlaw21_light.mono_l k
  refine ⟨?_, ?_⟩
  ·intro y0 y1
   unfold garnerlaw21_light.l0
   repeat' first
   | (with_reducible exact ih0 _ _)
   | (with_reducible exact ih1 _ _ _)
   | (with_reducible exact LeO.refl _)
   | (with_reducible exact LeO.none _)
   | (with_reducible refine LeO.ite ?_ ?_)
   | (with_reducible refine LeO.bind ?_ (fun _ => ?_))
   | exact ih0 _ _
   | exact ih1 _ _ _
   | exact LeO.none _
   | refine LeO.ite ?_ ?_
   | refine LeO.bind ?_ (fun _ => ?_)
  ·intro y0 y1 y2
   unfold garnerlaw21_light.j1
   repeat' first
   | (with_reducible exact ih0 _ _)
   | (with_reducible exact ih1 _ _ _)
   | (with_reducible exact LeO.refl _)
   | (with_reducible exact LeO.none _)
   | (with_reducible refine LeO.ite ?_ ?_)
   | (with_reducible refine LeO.bind ?_ (fun _ => ?_))
   | exact ih0 _ _
   | exact ih1 _ _ _
   | exact LeO.none _
   | refine LeO.ite ?_ ?_
   | refine LeO.bind ?_ (fun _ => ?_)
theorem garnerlaw21_light.mono : ∀ a0 k, LeO (garnerlaw21_light.f k a0) (garnerlaw21_light.f (k + 1) a0) := by
 intro a0 k
 obtain ⟨ih0, ih1⟩ := garnerlaw21_light.mono_l k
 unfold garnerlaw21_light.f
 repeat' first
   | (with_reducible exact ih0 _ _)
   | (with_reducible exact ih1 _ _ _)
   | (with_reducible exact LeO.refl _)
   | (with_reducible exact LeO.none _)
   | (with_reducible refine LeO.ite ?_ ?_)
   | (with_reducible refine LeO.bind ?_ (fun _ => ?_))
   | exact ih0 _ _
   | exact ih1 _ _ _
   | exact LeO.none _
   | refine LeO.ite ?_ ?_
   | refine LeO.bind ?_ (fun _ => ?_)
set_option maxHeartbeats 8000000 in
set_option maxRecDepth 100000 in
theorem garnerlaw21_light.calls (k : Nat) (A0 : Option Addr) (c0 : Nat) (l0 : List (S50)) (r : Bool) (w : World) (hr0 : Kd.C k50 w A0 l0.length l0) (hc0 : l0.length ≤ c0) (h : garnerlaw21_light.f k l0 = some r) :
  Calls Try.prog 5 #[.slice A0 l0.length c0] w fun e w' => e = .returned (.bool r) ∧ Drawn0 w w' := by
 have HR0 := Am hr0
 have HC0 := Am hc0
 clear hr0 hc0
 have H : (garnerlaw21_light.l0 k l0 0) = some r := h
 clear h
 have H' := Am H
 clear H
 go_enter Try.func5, Try.ntmps5
 go_wp2
 go_loopg [3] k (fun kq v3 w' => ∃ (Aa : Int), v3 = .int .i64 Aa ∧ Aside0 (garnerlaw21_light.l0 kq l0 Aa = some r) ∧ Aside0 (kq ≤ k) ∧ Drawn0 w w')
 case atStart => exact ⟨(0), (by first | rfl | (simp; done) | (simp [*]; done)), H', ⟨Nat.le_refl _⟩, by repeat (first | exact Drawn0.refl _ | apply Drawn0.step)⟩
 case round =>
  clear H'
  obtain ⟨Aa, rfl, HA, HK1, ⟨m1, rfl⟩⟩ := hrel
  cases gk with
  | zero => exact absurd HA.out (by simp [garnerlaw21_light.l0])
  | succ k1 =>
   have H := HA.out
   clear HA
   simp only [garnerlaw21_light.l0] at H
   have HC2 := Am H
   clear H
   go_upto_region 2 with (fail)
   go_cut [11] (fun v11 wc => ∃ (kq : Nat) (Ad : Bool), v11 = .bool Ad ∧ Aside0 (garnerlaw21_light.j1 kq l0 Aa Ad = some r) ∧ Aside0 (kq ≤ k1) ∧ Drawn0 w wc)
   case first =>
    have H := HC2.out
    clear HC2
    by_cases c3 : Aa < (l0.length : Int)
    ·rw [if_pos c3] at H
     have c3b0 : decide (Aa < (l0.length : Int)) = true := decide_eq_true c3
     clear c3
     (first | rw [c3b0] | (simp only [i64_w, i32_w]; rw [c3b0]) | skip)
     have H' := Am H
     clear H
     go_wp2
     go_meet
     case rel => exact ⟨_, (decide (Aa ≤ 30)), (by first | rfl | (simp; done) | (simp [*]; done)), H', ⟨by have := HK1.out; first | omega | exact Nat.le_refl _⟩, by repeat (first | exact Drawn0.refl _ | apply Drawn0.step)⟩
    rw [if_neg c3] at H
    have c3b0 : decide (Aa < (l0.length : Int)) = false := decide_eq_false c3
    clear c3
    (first | rw [c3b0] | (simp only [i64_w, i32_w]; rw [c3b0]) | skip)
    have H' := Am H
    clear H
    go_wp2
    go_meet
    case rel => exact ⟨_, (false), (by first | rfl | (simp; done) | (simp [*]; done)), H', ⟨by have := HK1.out; first | omega | exact Nat.le_refl _⟩, by repeat (first | exact Drawn0.refl _ | apply Drawn0.step)⟩
   case rest =>
    clear HC2
    try clear p2
    try clear c3
    try clear c3b0
    obtain ⟨kq, Ad, rfl, HA, HJ1, ⟨mc1, rfl⟩⟩ := hcut
    cases kq with
    | zero => exact absurd HA.out (by simp [garnerlaw21_light.j1])
    | succ kj1 =>
     have H := HA.out
     clear HA
     simp only [garnerlaw21_light.j1] at H
     by_cases c4 : Ad = true
     rotate_left
     ·replace c4 := Bool.eq_false_iff.mpr c4
      subst c4
      have H1 : (some (decide ((l0.length : Int) ≤ 30))) = some r := by rw [if_neg (show ¬ (false = true) by decide)] at H; exact H
      clear H
      have H := H1
      clear H1
      obtain rfl := Option.some.inj H
      go_wp2
      go_ret
      exact ⟨by first | rfl | (simp; done) | (simp [*]; done), by repeat (first | exact Drawn0.refl _ | apply Drawn0.step)⟩
     subst c4
     have H1 : (if 0 ≤ Aa then (if Aa < (l0.length : Int) then (if (((rd_T50 l0 Aa).f1.f1).length : Int) > 40 then (some false) else (garnerlaw21_light.l0 kj1 l0 (wrap64 (Aa + 1)))) else (none)) else (none)) = some r := by rw [if_pos rfl] at H; exact H
     clear H
     have H := H1
     clear H1
     by_cases c5 : 0 ≤ Aa
     rotate_left
     ·rw [if_neg c5] at H
      exact absurd H (by simp)
     rw [if_pos c5] at H
     have c5b0 : decide (0 ≤ Aa) = true := decide_eq_true c5
     clear c5
     by_cases c6 : Aa < (l0.length : Int)
     rotate_left
     ·rw [if_neg c6] at H
      exact absurd H (by simp)
     rw [if_pos c6] at H
     have c6b0 : decide (Aa < (l0.length : Int)) = true := decide_eq_true c6
     clear c6
     by_cases c7 : (((rd_T50 l0 Aa).f1.f1).length : Int) > 40
     ·rw [if_pos c7] at H
      have c7b0 : decide (40 < (((rd_T50 l0 Aa).f1.f1).length : Int)) = true := decide_eq_true c7
      have c7b1 : decide (40 < ((rd_T50 l0 Aa).f1.f1).length) = true := decide_eq_true (by omega)
      clear c7
      obtain rfl := Option.some.inj H
      have p101 : 0 ≤ (Aa : Int) := of_decide_eq_true pS
      have q101 : Aa < (l0.length : Int) := of_decide_eq_true pS
      obtain ⟨Ak, Aj, c101_2, e101, Ae, Af, Ag, Ab, Ac⟩ := at_T50 HR0.out Aa p101 q101
      cases e101
      have Ah := Am Ac
      have Ai := Am Ab
      clear Ac Ab
      replace p101 := eq_true p101
      replace q101 := eq_true q101
      go_wp2
      go_ret
      exact ⟨by first | rfl | (simp; done) | (simp [*]; done), by repeat (first | exact Drawn0.refl _ | apply Drawn0.step)⟩
     rw [if_neg c7] at H
     have c7b0 : decide (40 < (((rd_T50 l0 Aa).f1.f1).length : Int)) = false := decide_eq_false c7
     have c7b1 : decide (40 < ((rd_T50 l0 Aa).f1.f1).length) = false := decide_eq_false (by omega)
     clear c7
     have H' := Am H
     clear H
     have p101 : 0 ≤ (Aa : Int) := of_decide_eq_true pS
     have q101 : Aa < (l0.length : Int) := of_decide_eq_true pS
     obtain ⟨Ak, Aj, c101_2, e101, Ae, Af, Ag, Ab, Ac⟩ := at_T50 HR0.out Aa p101 q101
     cases e101
     have Ah := Am Ac
     have Ai := Am Ab
     clear Ac Ab
     replace p101 := eq_true p101
     replace q101 := eq_true q101
     go_wp2
     go_roundg kj1
     case measure => have := HK1.out; have := HJ1.out; omega
     case rel => exact ⟨(wrap64 (Aa + 1)), (by first | rfl | (simp; done) | (simp [*]; done)), H', ⟨by have := HK1.out; have := HJ1.out; omega⟩, by repeat (first | exact Drawn0.refl _ | apply Drawn0.step)⟩
def garnerref04_May.f (a0_0 : Int) (a0_1 : Int) (a0_2 : Int) (a0_3 : Int) : Option (Bool) := if a0_0 ≥ 1 then (if a0_0 ≤ 2147483647 then (if a0_1 ≥ 0 then (if a0_1 ≤ 2147483647 then (if a0_2 ≥ 0 then (some (decide (a0_2 ≤ 4096))) else (some false)) else (some false)) else (some false)) else (some false)) else (some false)
set_option maxHeartbeats 8000000 in
set_option maxRecDepth 100000 in
theorem garnerref04_May.calls (a0_0 : Int) (a0_1 : Int) (a0_2 : Int) (a0_3 : Int) (r : Bool) (w : World) (h : garnerref04_May.f a0_0 a0_1 a0_2 a0_3 = some r) :
  Calls Try.prog 6 #[.agg #[.int .i64 a0_0, .int .i64 a0_1, .int .i64 a0_2, .int .u32 a0_3]] w fun e w' => e = .returned (.bool r) ∧ Below w.heap.size w w' := by
 have hu25 := Try.underlying25
 have HB := Am (Below.refl w.heap.size w)
 have H : (if a0_0 ≥ 1 then (if a0_0 ≤ 2147483647 then (if a0_1 ≥ 0 then (if a0_1 ≤ 2147483647 then (if a0_2 ≥ 0 then (some (decide (a0_2 ≤ 4096))) else (some false)) else (some false)) else (some false)) else (some false)) else (some false)) = some r := h
 clear h
 by_cases c2 : a0_0 ≥ 1
 rotate_left
 ·rw [if_neg c2] at H
  have c2b0 : decide (1 ≤ a0_0) = false := decide_eq_false c2
  clear c2
  obtain rfl := Option.some.inj H
  go_enter Try.func6, Try.ntmps6
  go_wp2_with (first | ((with_reducible refine gate_dst (N := 1) rfl ?_); refine box_event ?hg (N := 1) ?hd (cs := #[.int .i64 a0_0, .int .i64 a0_1, .int .i64 a0_2, .int .u32 a0_3]) (t := 25) ?hr ?_; (case hd => rfl); (case hg => rfl); (case hr => first | (go_simp; done) | (go_simp; rfl)); intro Ab hg w17 hbox hb; have Aa := Am (hbox); have Ac := Am ((by rw [hg]; exact (below_size (pB HB.out)) : w.heap.size ≤ Ab)); replace HB := Am (below_step (pB HB.out) hb); have Ad := Ac; clear hb hbox hg; obtain ⟨_, _, _, _⟩ := bc4 Aa.out; obtain ⟨_, _, _, _⟩ := bf4 Aa.out))
  go_ret
  exact ⟨pX, pE HB.out Ad.out⟩
 rw [if_pos c2] at H
 have c2b0 : decide (1 ≤ a0_0) = true := decide_eq_true c2
 clear c2
 by_cases c3 : a0_0 ≤ 2147483647
 rotate_left
 ·rw [if_neg c3] at H
  have c3b0 : decide (a0_0 ≤ 2147483647) = false := decide_eq_false c3
  clear c3
  obtain rfl := Option.some.inj H
  go_enter Try.func6, Try.ntmps6
  go_wp2_with (first | ((with_reducible refine gate_dst (N := 1) rfl ?_); refine box_event ?hg (N := 1) ?hd (cs := #[.int .i64 a0_0, .int .i64 a0_1, .int .i64 a0_2, .int .u32 a0_3]) (t := 25) ?hr ?_; (case hd => rfl); (case hg => rfl); (case hr => first | (go_simp; done) | (go_simp; rfl)); intro Ab hg w15 hbox hb; have Aa := Am (hbox); have Ac := Am ((by rw [hg]; exact (below_size (pB HB.out)) : w.heap.size ≤ Ab)); replace HB := Am (below_step (pB HB.out) hb); have Ad := Ac; clear hb hbox hg; obtain ⟨_, _, _, _⟩ := bc4 Aa.out; obtain ⟨_, _, _, _⟩ := bf4 Aa.out))
  go_ret
  exact ⟨pX, pE HB.out Ad.out⟩
 rw [if_pos c3] at H
 have c3b0 : decide (a0_0 ≤ 2147483647) = true := decide_eq_true c3
 clear c3
 by_cases c4 : a0_1 ≥ 0
 rotate_left
 ·rw [if_neg c4] at H
  have c4b0 : decide (0 ≤ a0_1) = false := decide_eq_false c4
  clear c4
  obtain rfl := Option.some.inj H
  go_enter Try.func6, Try.ntmps6
  go_wp2_with (first | ((with_reducible refine gate_dst (N := 1) rfl ?_); refine box_event ?hg (N := 1) ?hd (cs := #[.int .i64 a0_0, .int .i64 a0_1, .int .i64 a0_2, .int .u32 a0_3]) (t := 25) ?hr ?_; (case hd => rfl); (case hg => rfl); (case hr => first | (go_simp; done) | (go_simp; rfl)); intro Ab hg w13 hbox hb; have Aa := Am (hbox); have Ac := Am ((by rw [hg]; exact (below_size (pB HB.out)) : w.heap.size ≤ Ab)); replace HB := Am (below_step (pB HB.out) hb); have Ad := Ac; clear hb hbox hg; obtain ⟨_, _, _, _⟩ := bc4 Aa.out; obtain ⟨_, _, _, _⟩ := bf4 Aa.out))
  go_ret
  exact ⟨pX, pE HB.out Ad.out⟩
 rw [if_pos c4] at H
 have c4b0 : decide (0 ≤ a0_1) = true := decide_eq_true c4
 clear c4
 by_cases c5 : a0_1 ≤ 2147483647
 rotate_left
 ·rw [if_neg c5] at H
  have c5b0 : decide (a0_1 ≤ 2147483647) = false := decide_eq_false c5
  clear c5
  obtain rfl := Option.some.inj H
  go_enter Try.func6, Try.ntmps6
  go_wp2_with (first | ((with_reducible refine gate_dst (N := 1) rfl ?_); refine box_event ?hg (N := 1) ?hd (cs := #[.int .i64 a0_0, .int .i64 a0_1, .int .i64 a0_2, .int .u32 a0_3]) (t := 25) ?hr ?_; (case hd => rfl); (case hg => rfl); (case hr => first | (go_simp; done) | (go_simp; rfl)); intro Ab hg w11 hbox hb; have Aa := Am (hbox); have Ac := Am ((by rw [hg]; exact (below_size (pB HB.out)) : w.heap.size ≤ Ab)); replace HB := Am (below_step (pB HB.out) hb); have Ad := Ac; clear hb hbox hg; obtain ⟨_, _, _, _⟩ := bc4 Aa.out; obtain ⟨_, _, _, _⟩ := bf4 Aa.out))
  go_ret
  exact ⟨pX, pE HB.out Ad.out⟩
 rw [if_pos c5] at H
 have c5b0 : decide (a0_1 ≤ 2147483647) = true := decide_eq_true c5
 clear c5
 by_cases c6 : a0_2 ≥ 0
 ·rw [if_pos c6] at H
  have c6b0 : decide (0 ≤ a0_2) = true := decide_eq_true c6
  clear c6
  obtain rfl := Option.some.inj H
  go_enter Try.func6, Try.ntmps6
  go_wp2_with (first | ((with_reducible refine gate_dst (N := 1) rfl ?_); refine box_event ?hg (N := 1) ?hd (cs := #[.int .i64 a0_0, .int .i64 a0_1, .int .i64 a0_2, .int .u32 a0_3]) (t := 25) ?hr ?_; (case hd => rfl); (case hg => rfl); (case hr => first | (go_simp; done) | (go_simp; rfl)); intro Ab hg w7 hbox hb; have Aa := Am (hbox); have Ac := Am ((by rw [hg]; exact (below_size (pB HB.out)) : w.heap.size ≤ Ab)); replace HB := Am (below_step (pB HB.out) hb); have Ad := Ac; clear hb hbox hg; obtain ⟨_, _, _, _⟩ := bc4 Aa.out; obtain ⟨_, _, _, _⟩ := bf4 Aa.out))
  go_ret
  exact ⟨pX, pE HB.out Ad.out⟩
 rw [if_neg c6] at H
 have c6b0 : decide (0 ≤ a0_2) = false := decide_eq_false c6
 clear c6
 obtain rfl := Option.some.inj H
 go_enter Try.func6, Try.ntmps6
 go_wp2_with (first | ((with_reducible refine gate_dst (N := 1) rfl ?_); refine box_event ?hg (N := 1) ?hd (cs := #[.int .i64 a0_0, .int .i64 a0_1, .int .i64 a0_2, .int .u32 a0_3]) (t := 25) ?hr ?_; (case hd => rfl); (case hg => rfl); (case hr => first | (go_simp; done) | (go_simp; rfl)); intro Ab hg w9 hbox hb; have Aa := Am (hbox); have Ac := Am ((by rw [hg]; exact (below_size (pB HB.out)) : w.heap.size ≤ Ab)); replace HB := Am (below_step (pB HB.out) hb); have Ad := Ac; clear hb hbox hg; obtain ⟨_, _, _, _⟩ := bc4 Aa.out; obtain ⟨_, _, _, _⟩ := bf4 Aa.out))
 go_ret
 exact ⟨pX, pE HB.out Ad.out⟩
def point_Check.f (a0_0 : Int) (a0_1 : Int) (a0_2 : Int) (a0_3 : Int) : Option (Int) := if a0_0 < 1 then (some 1) else (if a0_0 > 2147483647 then (some 1) else (if a0_1 < 0 then (some 1) else (if a0_1 > 2147483647 then (some 1) else (if a0_2 < 0 then (some 1) else (if a0_2 > 4096 then (some 1) else (some 0))))))
set_option maxHeartbeats 8000000 in
set_option maxRecDepth 100000 in
theorem point_Check.calls (a0_0 : Int) (a0_1 : Int) (a0_2 : Int) (a0_3 : Int) (r : Int) (w : World) (h : point_Check.f a0_0 a0_1 a0_2 a0_3 = some r) :
  Calls Try.prog 20 #[.agg #[.int .i64 a0_0, .int .i64 a0_1, .int .i64 a0_2, .int .u32 a0_3]] w fun e w' => e = .returned (.int .i64 r) ∧ Below w.heap.size w w' := by
 have hu25 := Try.underlying25
 have HB := Am (Below.refl w.heap.size w)
 have H : (if a0_0 < 1 then (some 1) else (if a0_0 > 2147483647 then (some 1) else (if a0_1 < 0 then (some 1) else (if a0_1 > 2147483647 then (some 1) else (if a0_2 < 0 then (some 1) else (if a0_2 > 4096 then (some 1) else (some 0))))))) = some r := h
 clear h
 by_cases c2 : a0_0 < 1
 ·rw [if_pos c2] at H
  have c2b0 : decide (a0_0 < 1) = true := decide_eq_true c2
  clear c2
  obtain rfl := Option.some.inj H
  go_enter Try.func20, Try.ntmps20
  go_wp2_with (first | ((with_reducible refine gate_dst (N := 1) rfl ?_); refine box_event ?hg (N := 1) ?hd (cs := #[.int .i64 a0_0, .int .i64 a0_1, .int .i64 a0_2, .int .u32 a0_3]) (t := 25) ?hr ?_; (case hd => rfl); (case hg => rfl); (case hr => first | (go_simp; done) | (go_simp; rfl)); intro Ab hg w3 hbox hb; have Aa := Am (hbox); have Ac := Am ((by rw [hg]; exact (below_size (pB HB.out)) : w.heap.size ≤ Ab)); replace HB := Am (below_step (pB HB.out) hb); have Ad := Ac; clear hb hbox hg; obtain ⟨_, _, _, _⟩ := bc4 Aa.out; obtain ⟨_, _, _, _⟩ := bf4 Aa.out))
  go_ret
  exact ⟨pX, pE HB.out Ad.out⟩
 rw [if_neg c2] at H
 have c2b0 : decide (a0_0 < 1) = false := decide_eq_false c2
 clear c2
 by_cases c5 : a0_0 > 2147483647
 ·rw [if_pos c5] at H
  have c5b0 : decide (2147483647 < a0_0) = true := decide_eq_true c5
  clear c5
  obtain rfl := Option.some.inj H
  go_enter Try.func20, Try.ntmps20
  go_wp2_with (first | ((with_reducible refine gate_dst (N := 1) rfl ?_); refine box_event ?hg (N := 1) ?hd (cs := #[.int .i64 a0_0, .int .i64 a0_1, .int .i64 a0_2, .int .u32 a0_3]) (t := 25) ?hr ?_; (case hd => rfl); (case hg => rfl); (case hr => first | (go_simp; done) | (go_simp; rfl)); intro Ab hg w6 hbox hb; have Aa := Am (hbox); have Ac := Am ((by rw [hg]; exact (below_size (pB HB.out)) : w.heap.size ≤ Ab)); replace HB := Am (below_step (pB HB.out) hb); have Ad := Ac; clear hb hbox hg; obtain ⟨_, _, _, _⟩ := bc4 Aa.out; obtain ⟨_, _, _, _⟩ := bf4 Aa.out))
  go_ret
  exact ⟨pX, pE HB.out Ad.out⟩
 rw [if_neg c5] at H
 have c5b0 : decide (2147483647 < a0_0) = false := decide_eq_false c5
 clear c5
 by_cases c8 : a0_1 < 0
 ·rw [if_pos c8] at H
  have c8b0 : decide (a0_1 < 0) = true := decide_eq_true c8
  clear c8
  obtain rfl := Option.some.inj H
  go_enter Try.func20, Try.ntmps20
  go_wp2_with (first | ((with_reducible refine gate_dst (N := 1) rfl ?_); refine box_event ?hg (N := 1) ?hd (cs := #[.int .i64 a0_0, .int .i64 a0_1, .int .i64 a0_2, .int .u32 a0_3]) (t := 25) ?hr ?_; (case hd => rfl); (case hg => rfl); (case hr => first | (go_simp; done) | (go_simp; rfl)); intro Ab hg w9 hbox hb; have Aa := Am (hbox); have Ac := Am ((by rw [hg]; exact (below_size (pB HB.out)) : w.heap.size ≤ Ab)); replace HB := Am (below_step (pB HB.out) hb); have Ad := Ac; clear hb hbox hg; obtain ⟨_, _, _, _⟩ := bc4 Aa.out; obtain ⟨_, _, _, _⟩ := bf4 Aa.out))
  go_ret
  exact ⟨pX, pE HB.out Ad.out⟩
 rw [if_neg c8] at H
 have c8b0 : decide (a0_1 < 0) = false := decide_eq_false c8
 clear c8
 by_cases c11 : a0_1 > 2147483647
 ·rw [if_pos c11] at H
  have c11b0 : decide (2147483647 < a0_1) = true := decide_eq_true c11
  clear c11
  obtain rfl := Option.some.inj H
  go_enter Try.func20, Try.ntmps20
  go_wp2_with (first | ((with_reducible refine gate_dst (N := 1) rfl ?_); refine box_event ?hg (N := 1) ?hd (cs := #[.int .i64 a0_0, .int .i64 a0_1, .int .i64 a0_2, .int .u32 a0_3]) (t := 25) ?hr ?_; (case hd => rfl); (case hg => rfl); (case hr => first | (go_simp; done) | (go_simp; rfl)); intro Ab hg w12 hbox hb; have Aa := Am (hbox); have Ac := Am ((by rw [hg]; exact (below_size (pB HB.out)) : w.heap.size ≤ Ab)); replace HB := Am (below_step (pB HB.out) hb); have Ad := Ac; clear hb hbox hg; obtain ⟨_, _, _, _⟩ := bc4 Aa.out; obtain ⟨_, _, _, _⟩ := bf4 Aa.out))
  go_ret
  exact ⟨pX, pE HB.out Ad.out⟩
 rw [if_neg c11] at H
 have c11b0 : decide (2147483647 < a0_1) = false := decide_eq_false c11
 clear c11
 by_cases c14 : a0_2 < 0
 ·rw [if_pos c14] at H
  have c14b0 : decide (a0_2 < 0) = true := decide_eq_true c14
  clear c14
  obtain rfl := Option.some.inj H
  go_enter Try.func20, Try.ntmps20
  go_wp2_with (first | ((with_reducible refine gate_dst (N := 1) rfl ?_); refine box_event ?hg (N := 1) ?hd (cs := #[.int .i64 a0_0, .int .i64 a0_1, .int .i64 a0_2, .int .u32 a0_3]) (t := 25) ?hr ?_; (case hd => rfl); (case hg => rfl); (case hr => first | (go_simp; done) | (go_simp; rfl)); intro Ab hg w15 hbox hb; have Aa := Am (hbox); have Ac := Am ((by rw [hg]; exact (below_size (pB HB.out)) : w.heap.size ≤ Ab)); replace HB := Am (below_step (pB HB.out) hb); have Ad := Ac; clear hb hbox hg; obtain ⟨_, _, _, _⟩ := bc4 Aa.out; obtain ⟨_, _, _, _⟩ := bf4 Aa.out))
  go_ret
  exact ⟨pX, pE HB.out Ad.out⟩
 rw [if_neg c14] at H
 have c14b0 : decide (a0_2 < 0) = false := decide_eq_false c14
 clear c14
 by_cases c17 : a0_2 > 4096
 ·rw [if_pos c17] at H
  have c17b0 : decide (4096 < a0_2) = true := decide_eq_true c17
  clear c17
  obtain rfl := Option.some.inj H
  go_enter Try.func20, Try.ntmps20
  go_wp2_with (first | ((with_reducible refine gate_dst (N := 1) rfl ?_); refine box_event ?hg (N := 1) ?hd (cs := #[.int .i64 a0_0, .int .i64 a0_1, .int .i64 a0_2, .int .u32 a0_3]) (t := 25) ?hr ?_; (case hd => rfl); (case hg => rfl); (case hr => first | (go_simp; done) | (go_simp; rfl)); intro Ab hg w18 hbox hb; have Aa := Am (hbox); have Ac := Am ((by rw [hg]; exact (below_size (pB HB.out)) : w.heap.size ≤ Ab)); replace HB := Am (below_step (pB HB.out) hb); have Ad := Ac; clear hb hbox hg; obtain ⟨_, _, _, _⟩ := bc4 Aa.out; obtain ⟨_, _, _, _⟩ := bf4 Aa.out))
  go_ret
  exact ⟨pX, pE HB.out Ad.out⟩
 rw [if_neg c17] at H
 have c17b0 : decide (4096 < a0_2) = false := decide_eq_false c17
 clear c17
 obtain rfl := Option.some.inj H
 go_enter Try.func20, Try.ntmps20
 go_wp2_with (first | ((with_reducible refine gate_dst (N := 1) rfl ?_); refine box_event ?hg (N := 1) ?hd (cs := #[.int .i64 a0_0, .int .i64 a0_1, .int .i64 a0_2, .int .u32 a0_3]) (t := 25) ?hr ?_; (case hd => rfl); (case hg => rfl); (case hr => first | (go_simp; done) | (go_simp; rfl)); intro Ab hg w20 hbox hb; have Aa := Am (hbox); have Ac := Am ((by rw [hg]; exact (below_size (pB HB.out)) : w.heap.size ≤ Ab)); replace HB := Am (below_step (pB HB.out) hb); have Ad := Ac; clear hb hbox hg; obtain ⟨_, _, _, _⟩ := bc4 Aa.out; obtain ⟨_, _, _, _⟩ := bf4 Aa.out))
 go_ret
 exact ⟨pX, pE HB.out Ad.out⟩
mutual
def relay_may.j0 : Nat → Int → List (S37) → Bool → Option (Bool)
 | 0, _, _, _ => none
 | k + 1, x0, x1, x18 => if x18 = true then (some false) else (relay_may.l0 k x0 (-1) x1 (x1.length : Int) 0)
def relay_may.l0 : Nat → Int → Int → List (S37) → Int → Int → Option (Bool)
 | 0, _, _, _, _, _ => none
 | k + 1, x0, x5, x19, x20, x21 => if x21 < x20 then (if 0 ≤ x21 then (if x21 < (x19.length : Int) then (if ((rd_T37 x19 x21).f0) ≤ x5 then (some false) else (if ((rd_T37 x19 x21).f0) > 2147483647 then (some false) else ((point_Check.f ((rd_T37 x19 x21).f1.f0) ((rd_T37 x19 x21).f1.f1) ((rd_T37 x19 x21).f1.f2) ((rd_T37 x19 x21).f1.f3)).bind fun t106 => (if t106 = 0 then (if ((rd_T37 x19 x21).f1.f0) ≤ x0 then (some false) else (relay_may.l0 k x0 ((rd_T37 x19 x21).f0) x19 x20 (wrap64 (x21 + 1)))) else (some false))))) else (none)) else (none)) else (some true)
end
def relay_may.f (k : Nat) (a0 : Int) (l1 : List (S37)) : Option (Bool) := if a0 < 1 then (relay_may.j0 k a0 l1 true) else (if a0 > 2147483647 then (relay_may.j0 k a0 l1 true) else (relay_may.j0 k a0 l1 (decide ((l1.length : Int) > 16384))))
theorem relay_may.mono_l : ∀ k, (∀ y0 y1 y2, LeO (relay_may.j0 k y0 y1 y2) (relay_may.j0 (k + 1) y0 y1 y2)) ∧ (∀ y0 y1 y2 y3 y4, LeO (relay_may.l0 k y0 y1 y2 y3 y4) (relay_may.l0 (k + 1) y0 y1 y2 y3 y4))
 | 0 => ⟨fun _ _ _ r h => by simp [relay_may.j0] at h, fun _ _ _ _ _ r h => by simp [relay_may.l0] at h⟩
 | k + 1 => by
  obtain ⟨ih0, ih1⟩ := relay_may.mono_l k
  refine ⟨?_, ?_⟩
  ·intro y0 y1 y2
   unfold relay_may.j0
   repeat' first
   | (with_reducible exact ih0 _ _ _)
   | (with_reducible exact ih1 _ _ _ _ _)
   | (with_reducible exact LeO.refl _)
   | (with_reducible exact LeO.none _)
   | (with_reducible refine LeO.ite ?_ ?_)
   | (with_reducible refine LeO.bind ?_ (fun _ => ?_))
   | exact ih0 _ _ _
   | exact ih1 _ _ _ _ _
   | exact LeO.none _
   | refine LeO.ite ?_ ?_
   | refine LeO.bind ?_ (fun _ => ?_)
  ·intro y0 y1 y2 y3 y4
   unfold relay_may.l0
   repeat' first
   | (with_reducible exact ih0 _ _ _)
   | (with_reducible exact ih1 _ _ _ _ _)
   | (with_reducible exact LeO.refl _)
   | (with_reducible exact LeO.none _)
   | (with_reducible refine LeO.ite ?_ ?_)
   | (with_reducible refine LeO.bind ?_ (fun _ => ?_))
   | exact ih0 _ _ _
   | exact ih1 _ _ _ _ _
   | exact LeO.none _
   | refine LeO.ite ?_ ?_
   | refine LeO.bind ?_ (fun _ => ?_)
theorem relay_may.mono : ∀ a0 a1 k, LeO (relay_may.f k a0 a1) (relay_may.f (k + 1) a0 a1) := by
 intro a0 a1 k
 obtain ⟨ih0, ih1⟩ := relay_may.mono_l k
 unfold relay_may.f
 repeat' first
   | (with_reducible exact ih0 _ _ _)
   | (with_reducible exact ih1 _ _ _ _ _)
   | (with_reducible exact LeO.refl _)
   | (with_reducible exact LeO.none _)
   | (with_reducible refine LeO.ite ?_ ?_)
   | (with_reducible refine LeO.bind ?_ (fun _ => ?_))
   | exact ih0 _ _ _
   | exact ih1 _ _ _ _ _
   | exact LeO.none _
   | refine LeO.ite ?_ ?_
   | refine LeO.bind ?_ (fun _ => ?_)
set_option maxHeartbeats 8000000 in
set_option maxRecDepth 100000 in
theorem relay_may.calls (k : Nat) (a0 : Int) (A1 : Option Addr) (c1 : Nat) (l1 : List (S37)) (r : Bool) (w : World) (hr1 : Kd.C k37 w A1 l1.length l1) (hc1 : l1.length ≤ c1) (h : relay_may.f k a0 l1 = some r) :
  Calls Try.prog 24 #[.int .i64 a0, .slice A1 l1.length c1] w fun e w' => e = .returned (.bool r) ∧ Below w.heap.size w w' := by
 have hu37 := Try.underlying37
 have hu25 := Try.underlying25
 have HR1 := Am hr1
 have HC1 := Am hc1
 clear hr1 hc1
 have HB := Am (Below.refl w.heap.size w)
 have H : (if a0 < 1 then (relay_may.j0 k a0 l1 true) else (if a0 > 2147483647 then (relay_may.j0 k a0 l1 true) else (relay_may.j0 k a0 l1 (decide ((l1.length : Int) > 16384))))) = some r := h
 clear h
 have HC3 := Am H
 clear H
 go_enter Try.func24, Try.ntmps24
 go_upto_region 1 with (fail)
 go_cut [18] (fun v18 wc => ∃ (kq : Nat) (Ak : Bool), v18 = .bool Ak ∧ Aside0 (relay_may.j0 kq a0 l1 Ak = some r) ∧ Aside0 (kq ≤ k) ∧ Aside0 (Below w.heap.size w wc))
 case first =>
  have H := HC3.out
  clear HC3
  by_cases c4 : a0 < 1
  ·rw [if_pos c4] at H
   have c4b0 : decide (a0 < 1) = true := decide_eq_true c4
   clear c4
   (first | rw [c4b0] | (simp only [i64_w, i32_w]; rw [c4b0]) | skip)
   have H' := Am H
   clear H
   go_wp2
   go_meet
   case rel => exact ⟨_, (true), (by first | rfl | (simp; done) | (simp [*]; done)), H', ⟨by first | omega | exact Nat.le_refl _⟩, ⟨pB HB.out⟩⟩
  rw [if_neg c4] at H
  have c4b0 : decide (a0 < 1) = false := decide_eq_false c4
  clear c4
  (first | rw [c4b0] | (simp only [i64_w, i32_w]; rw [c4b0]) | skip)
  by_cases c5 : a0 > 2147483647
  ·rw [if_pos c5] at H
   have c5b0 : decide (2147483647 < a0) = true := decide_eq_true c5
   clear c5
   have H' := Am H
   clear H
   go_wp2
   go_meet
   case rel => exact ⟨_, (true), (by first | rfl | (simp; done) | (simp [*]; done)), H', ⟨by first | omega | exact Nat.le_refl _⟩, ⟨pB HB.out⟩⟩
  rw [if_neg c5] at H
  have c5b0 : decide (2147483647 < a0) = false := decide_eq_false c5
  clear c5
  have H' := Am H
  clear H
  go_wp2
  go_meet
  case rel => exact ⟨_, (decide ((l1.length : Int) > 16384)), (by first | rfl | (simp; done) | (simp [*]; done)), H', ⟨by first | omega | exact Nat.le_refl _⟩, ⟨pB HB.out⟩⟩
 case rest =>
  clear HC3
  try clear c1
  try clear c2
  try clear p2
  try clear c4
  try clear c4b0
  try clear c5
  try clear c5b0
  obtain ⟨kq, Ak, rfl, HA, HJ2, HB⟩ := hcut
  cases kq with
  | zero => exact absurd HA.out (by simp [relay_may.j0])
  | succ kj2 =>
   have H := HA.out
   clear HA
   simp only [relay_may.j0] at H
   by_cases c6 : Ak = true
   ·subst c6
    have H1 : (some false) = some r := by rw [if_pos rfl] at H; exact H
    clear H
    have H := H1
    clear H1
    obtain rfl := Option.some.inj H
    go_wp2
    go_ret
    exact ⟨pX, pB HB.out⟩
   replace c6 := Bool.eq_false_iff.mpr c6
   subst c6
   have H1 : (relay_may.l0 kj2 a0 (-1) l1 (l1.length : Int) 0) = some r := by rw [if_neg (show ¬ (false = true) by decide)] at H; exact H
   clear H
   have H := H1
   clear H1
   have H' := Am H
   clear H
   go_wp2
   go_loopg [5, 21] kj2 (fun kq v5 v21 w' => ∃ (An : Int) (Aa : Int), v5 = .int .i64 An ∧ v21 = .int .i64 Aa ∧ Aside0 (relay_may.l0 kq a0 An l1 (l1.length : Int) Aa = some r) ∧ Aside0 (kq ≤ kj2) ∧ Aside0 (Below w.heap.size w w'))
   case atStart => exact ⟨((-1)), (0), (by first | rfl | (simp; done) | (simp [*]; done)), (by first | rfl | (simp; done) | (simp [*]; done)), H', ⟨Nat.le_refl _⟩, ⟨pB HB.out⟩⟩
   case round =>
    clear H'
    try clear c1
    try clear c2
    try clear p2
    try clear c4
    try clear c4b0
    try clear c5
    try clear c5b0
    try clear c6
    try clear p2
    obtain ⟨An, Aa, rfl, rfl, HA, HK2, HB⟩ := hrel
    cases gk with
    | zero => exact absurd HA.out (by simp [relay_may.l0])
    | succ k2 =>
     have H := HA.out
     clear HA
     simp only [relay_may.l0] at H
     by_cases c7 : Aa < (l1.length : Int)
     rotate_left
     ·rw [if_neg c7] at H
      have c7b0 : decide (Aa < (l1.length : Int)) = false := decide_eq_false c7
      clear c7
      obtain rfl := Option.some.inj H
      go_wp2
      go_ret
      exact ⟨pX, pB HB.out⟩
     rw [if_pos c7] at H
     have c7b0 : decide (Aa < (l1.length : Int)) = true := decide_eq_true c7
     clear c7
     by_cases c8 : 0 ≤ Aa
     rotate_left
     ·rw [if_neg c8] at H
      exact absurd H (by simp)
     rw [if_pos c8] at H
     have c8b0 : decide (0 ≤ Aa) = true := decide_eq_true c8
     clear c8
     by_cases c9 : Aa < (l1.length : Int)
     rotate_left
     ·rw [if_neg c9] at H
      exact absurd H (by simp)
     rw [if_pos c9] at H
     have c9b0 : decide (Aa < (l1.length : Int)) = true := decide_eq_true c9
     clear c9
     by_cases c10 : ((rd_T37 l1 Aa).f0) ≤ An
     ·rw [if_pos c10] at H
      have c10b0 : decide (((rd_T37 l1 Aa).f0) ≤ An) = true := decide_eq_true c10
      clear c10
      obtain rfl := Option.some.inj H
      have p104 : 0 ≤ (Aa : Int) := of_decide_eq_true pS
      have q104 : Aa < (l1.length : Int) := of_decide_eq_true pS
      obtain ⟨Al, e104, Af, Ag, Ah, Ai, Aj⟩ := at_T37u HR1.out Aa p104 q104 HB.out
      cases e104
      replace p104 := eq_true p104
      replace q104 := eq_true q104
      go_wp2_with (first | ((with_reducible refine gate_dst (N := 7) rfl ?_); (try (refine gate_guard (by rfl) ?_; dsimp only)); refine box_event ?hg (N := 7) ?hd (cs := #[.int .i64 0, .int .i64 0, .int .i64 0, .int .i64 0, .int .u32 0]) (t := 37) ?hr ?_; (case hd => rfl); (case hg => rfl); (case hr => first | (go_simp; done) | (go_simp; rfl)); intro Ac hg w11 hbox hb; have Ab := Am (hbox); have Ae := Am ((by rw [hg]; exact (below_size (pB HB.out)) : w.heap.size ≤ Ac)); replace HB := Am (below_step (pB HB.out) hb); have Ad := Ae; clear hb hbox hg; obtain ⟨_, _, _, _, _⟩ := bc5 Ab.out; obtain ⟨_, _, _, _, _⟩ := bf5 Ab.out))
      go_ret
      exact ⟨pX, pE HB.out Ad.out⟩
     rw [if_neg c10] at H
     have c10b0 : decide (((rd_T37 l1 Aa).f0) ≤ An) = false := decide_eq_false c10
     clear c10
     by_cases c13 : ((rd_T37 l1 Aa).f0) > 2147483647
     ·rw [if_pos c13] at H
      have c13b0 : decide (2147483647 < ((rd_T37 l1 Aa).f0)) = true := decide_eq_true c13
      clear c13
      obtain rfl := Option.some.inj H
      have p104 : 0 ≤ (Aa : Int) := of_decide_eq_true pS
      have q104 : Aa < (l1.length : Int) := of_decide_eq_true pS
      obtain ⟨Al, e104, Af, Ag, Ah, Ai, Aj⟩ := at_T37u HR1.out Aa p104 q104 HB.out
      cases e104
      replace p104 := eq_true p104
      replace q104 := eq_true q104
      go_wp2_with (first | ((with_reducible refine gate_dst (N := 7) rfl ?_); (try (refine gate_guard (by rfl) ?_; dsimp only)); refine box_event ?hg (N := 7) ?hd (cs := #[.int .i64 0, .int .i64 0, .int .i64 0, .int .i64 0, .int .u32 0]) (t := 37) ?hr ?_; (case hd => rfl); (case hg => rfl); (case hr => first | (go_simp; done) | (go_simp; rfl)); intro Ac hg w14 hbox hb; have Ab := Am (hbox); have Ae := Am ((by rw [hg]; exact (below_size (pB HB.out)) : w.heap.size ≤ Ac)); replace HB := Am (below_step (pB HB.out) hb); have Ad := Ae; clear hb hbox hg; obtain ⟨_, _, _, _, _⟩ := bc5 Ab.out; obtain ⟨_, _, _, _, _⟩ := bf5 Ab.out))
      go_ret
      exact ⟨pX, pE HB.out Ad.out⟩
     rw [if_neg c13] at H
     have c13b0 : decide (2147483647 < ((rd_T37 l1 Aa).f0)) = false := decide_eq_false c13
     clear c13
     replace H := Option.bind_eq_some_iff.mp H
     obtain ⟨t106, A160, H⟩ := H
     replace H : (if t106 = 0 then (if ((rd_T37 l1 Aa).f1.f0) ≤ a0 then (some false) else (relay_may.l0 k2 a0 ((rd_T37 l1 Aa).f0) l1 (l1.length : Int) (wrap64 (Aa + 1)))) else (some false)) = some r := H
     have A16 := Am A160
     clear A160
     by_cases c17 : t106 = 0
     rotate_left
     ·rw [if_neg c17] at H
      have c17b0 : (t106 == 0) = false := beq_eq_false_iff_ne.mpr c17
      have c17b1 : (t106 != 0) = true := bne_iff_ne.mpr c17
      obtain rfl := Option.some.inj H
      have p104 : 0 ≤ (Aa : Int) := of_decide_eq_true pS
      have q104 : Aa < (l1.length : Int) := of_decide_eq_true pS
      obtain ⟨Al, e104, Af, Ag, Ah, Ai, Aj⟩ := at_T37u HR1.out Aa p104 q104 HB.out
      cases e104
      replace p104 := eq_true p104
      replace q104 := eq_true q104
      go_wp2_with (first | ((with_reducible refine gate_dst (N := 7) rfl ?_); (try (refine gate_guard (by rfl) ?_; dsimp only)); refine box_event ?hg (N := 7) ?hd (cs := #[.int .i64 0, .int .i64 0, .int .i64 0, .int .i64 0, .int .u32 0]) (t := 37) ?hr ?_; (case hd => rfl); (case hg => rfl); (case hr => first | (go_simp; done) | (go_simp; rfl)); intro Ac hg w27 hbox hb; have Ab := Am (hbox); have Ae := Am ((by rw [hg]; exact (below_size (pB HB.out)) : w.heap.size ≤ Ac)); replace HB := Am (below_step (pB HB.out) hb); have Ad := Ae; clear hb hbox hg; obtain ⟨_, _, _, _, _⟩ := bc5 Ab.out; obtain ⟨_, _, _, _, _⟩ := bf5 Ab.out) | (go_at_call 20; (with_reducible refine (point_Check.calls ((rd_T37 l1 Aa).f1.f0) ((rd_T37 l1 Aa).f1.f1) ((rd_T37 l1 Aa).f1.f2) ((rd_T37 l1 Aa).f1.f3) t106 _ A16.out).mono ?_); rintro e w29 ⟨rfl, hb⟩; replace Ab := Am (blk_below (g := Ac) (kX0 Ab.out) hb); replace HB := Am (below_step (pE HB.out Ad.out) hb); (try clear hb); (try clear hb2); (try clear hk); (try clear hi)))
      go_ret
      exact ⟨pX, pE HB.out Ad.out⟩
     rw [if_pos c17] at H
     have c17b0 : (t106 == 0) = true := beq_iff_eq.mpr c17
     have c17b1 : (t106 != 0) = false := bne_eq_false_iff_eq.mpr c17
     clear c17
     by_cases c18 : ((rd_T37 l1 Aa).f1.f0) ≤ a0
     ·rw [if_pos c18] at H
      have c18b0 : decide (((rd_T37 l1 Aa).f1.f0) ≤ a0) = true := decide_eq_true c18
      clear c18
      obtain rfl := Option.some.inj H
      have p104 : 0 ≤ (Aa : Int) := of_decide_eq_true pS
      have q104 : Aa < (l1.length : Int) := of_decide_eq_true pS
      obtain ⟨Al, e104, Af, Ag, Ah, Ai, Aj⟩ := at_T37u HR1.out Aa p104 q104 HB.out
      cases e104
      replace p104 := eq_true p104
      replace q104 := eq_true q104
      go_wp2_with (first | ((with_reducible refine gate_dst (N := 7) rfl ?_); (try (refine gate_guard (by rfl) ?_; dsimp only)); refine box_event ?hg (N := 7) ?hd (cs := #[.int .i64 0, .int .i64 0, .int .i64 0, .int .i64 0, .int .u32 0]) (t := 37) ?hr ?_; (case hd => rfl); (case hg => rfl); (case hr => first | (go_simp; done) | (go_simp; rfl)); intro Ac hg w19 hbox hb; have Ab := Am (hbox); have Ae := Am ((by rw [hg]; exact (below_size (pB HB.out)) : w.heap.size ≤ Ac)); replace HB := Am (below_step (pB HB.out) hb); have Ad := Ae; clear hb hbox hg; obtain ⟨_, _, _, _, _⟩ := bc5 Ab.out; obtain ⟨_, _, _, _, _⟩ := bf5 Ab.out) | (go_at_call 20; (with_reducible refine (point_Check.calls ((rd_T37 l1 Aa).f1.f0) ((rd_T37 l1 Aa).f1.f1) ((rd_T37 l1 Aa).f1.f2) ((rd_T37 l1 Aa).f1.f3) t106 _ A16.out).mono ?_); rintro e w21 ⟨rfl, hb⟩; replace Ab := Am (blk_below (g := Ac) (kX0 Ab.out) hb); replace HB := Am (below_step (pE HB.out Ad.out) hb); (try clear hb); (try clear hb2); (try clear hk); (try clear hi); obtain ⟨_, _, _, _, _⟩ := bc5 Ab.out; obtain ⟨_, _, _, _, _⟩ := bf5 Ab.out))
      go_ret
      exact ⟨pX, pE HB.out Ad.out⟩
     rw [if_neg c18] at H
     have c18b0 : decide (((rd_T37 l1 Aa).f1.f0) ≤ a0) = false := decide_eq_false c18
     clear c18
     have H' := Am H
     clear H
     have p104 : 0 ≤ (Aa : Int) := of_decide_eq_true pS
     have q104 : Aa < (l1.length : Int) := of_decide_eq_true pS
     obtain ⟨Al, e104, Af, Ag, Ah, Ai, Aj⟩ := at_T37u HR1.out Aa p104 q104 HB.out
     cases e104
     replace p104 := eq_true p104
     replace q104 := eq_true q104
     go_wp2_with (first | ((with_reducible refine gate_dst (N := 7) rfl ?_); (try (refine gate_guard (by rfl) ?_; dsimp only)); refine box_event ?hg (N := 7) ?hd (cs := #[.int .i64 0, .int .i64 0, .int .i64 0, .int .i64 0, .int .u32 0]) (t := 37) ?hr ?_; (case hd => rfl); (case hg => rfl); (case hr => first | (go_simp; done) | (go_simp; rfl)); intro Ac hg w23 hbox hb; have Ab := Am (hbox); have Ae := Am ((by rw [hg]; exact (below_size (pB HB.out)) : w.heap.size ≤ Ac)); replace HB := Am (below_step (pB HB.out) hb); have Ad := Ae; clear hb hbox hg; obtain ⟨_, _, _, _, _⟩ := bc5 Ab.out; obtain ⟨_, _, _, _, _⟩ := bf5 Ab.out) | (go_at_call 20; (with_reducible refine (point_Check.calls ((rd_T37 l1 Aa).f1.f0) ((rd_T37 l1 Aa).f1.f1) ((rd_T37 l1 Aa).f1.f2) ((rd_T37 l1 Aa).f1.f3) t106 _ A16.out).mono ?_); rintro e w25 ⟨rfl, hb⟩; replace Ab := Am (blk_below (g := Ac) (kX0 Ab.out) hb); replace HB := Am (below_step (pE HB.out Ad.out) hb); (try clear hb); (try clear hb2); (try clear hk); (try clear hi); obtain ⟨_, _, _, _, _⟩ := bc5 Ab.out; obtain ⟨_, _, _, _, _⟩ := bf5 Ab.out))
     go_roundg k2
     case measure => have := HJ2.out; have := HK2.out; omega
     case rel => exact ⟨((rd_T37 l1 Aa).f0), (wrap64 (Aa + 1)), (by first | rfl | (simp; done) | (simp [*]; done)), (by first | rfl | (simp; done) | (simp [*]; done)), H', ⟨by have := HJ2.out; have := HK2.out; omega⟩, ⟨pE HB.out Ad.out⟩⟩
def garnerref21_at.l0 : Nat → List (S35) → Int → Int → Option (Int)
 | 0, _, _, _ => none
 | k + 1, x0, x1, x5 => if x5 < (x0.length : Int) then (if 0 ≤ x5 then (if ((rd_T35 x0 x5).f0) = x1 then (some x5) else (garnerref21_at.l0 k x0 x1 (wrap64 (x5 + 1)))) else (none)) else (some (-1))
def garnerref21_at.f (k : Nat) (l0 : List (S35)) (a1 : Int) : Option (Int) := garnerref21_at.l0 k l0 a1 0
theorem garnerref21_at.mono_l : ∀ k, (∀ y0 y1 y2, LeO (garnerref21_at.l0 k y0 y1 y2) (garnerref21_at.l0 (k + 1) y0 y1 y2))
 | 0 => fun _ _ _ r h => by simp [garnerref21_at.l0] at h
 | k + 1 => by
  have ih0 := garnerref21_at.mono_l k
  ·intro y0 y1 y2
   unfold garnerref21_at.l0
   repeat' first
   | (with_reducible exact ih0 _ _ _)
   | (with_reducible exact LeO.refl _)
   | (with_reducible exact LeO.none _)
   | (with_reducible refine LeO.ite ?_ ?_)
   | (with_reducible refine LeO.bind ?_ (fun _ => ?_))
   | exact ih0 _ _ _
   | exact LeO.none _
   | refine LeO.ite ?_ ?_
   | refine LeO.bind ?_ (fun _ => ?_)
theorem garnerref21_at.mono : ∀ a0 a1 k, LeO (garnerref21_at.f k a0 a1) (garnerref21_at.f (k + 1) a0 a1) := by
 intro a0 a1 k
 have ih0 := garnerref21_at.mono_l k
 unfold garnerref21_at.f
 repeat' first
   | (with_reducible exact ih0 _ _ _)
   | (with_reducible exact LeO.refl _)
   | (with_reducible exact LeO.none _)
   | (with_reducible refine LeO.ite ?_ ?_)
   | (with_reducible refine LeO.bind ?_ (fun _ => ?_))
   | exact ih0 _ _ _
   | exact LeO.none _
   | refine LeO.ite ?_ ?_
   | refine LeO.bind ?_ (fun _ => ?_)
set_option maxHeartbeats 8000000 in
set_option maxRecDepth 100000 in
theorem garnerref21_at.calls (k : Nat) (A0 : Option Addr) (c0 : Nat) (l0 : List (S35)) (a1 : Int) (r : Int) (w : World) (hr0 : Kd.C k35 w A0 l0.length l0) (hc0 : l0.length ≤ c0) (h : garnerref21_at.f k l0 a1 = some r) :
  Calls Try.prog 23 #[.slice A0 l0.length c0, .int .i64 a1] w fun e w' => e = .returned (.int .i64 r) ∧ Drawn0 w w' := by
 have HR0 := Am hr0
 have HC0 := Am hc0
 clear hr0 hc0
 have H : (garnerref21_at.l0 k l0 a1 0) = some r := h
 clear h
 have H' := Am H
 clear H
 go_enter Try.func23, Try.ntmps23
 go_wp2
 go_loopg [5] k (fun kq v5 w' => ∃ (Aa : Int), v5 = .int .i64 Aa ∧ Aside0 (garnerref21_at.l0 kq l0 a1 Aa = some r) ∧ Aside0 (kq ≤ k) ∧ Drawn0 w w')
 case atStart => exact ⟨(0), (by first | rfl | (simp; done) | (simp [*]; done)), H', ⟨Nat.le_refl _⟩, by repeat (first | exact Drawn0.refl _ | apply Drawn0.step)⟩
 case round =>
  clear H'
  try clear c2
  try clear p2
  obtain ⟨Aa, rfl, HA, HK1, ⟨m1, rfl⟩⟩ := hrel
  cases gk with
  | zero => exact absurd HA.out (by simp [garnerref21_at.l0])
  | succ k1 =>
   have H := HA.out
   clear HA
   simp only [garnerref21_at.l0] at H
   by_cases c3 : Aa < (l0.length : Int)
   rotate_left
   ·rw [if_neg c3] at H
    have c3b0 : decide (Aa < (l0.length : Int)) = false := decide_eq_false c3
    clear c3
    obtain rfl := Option.some.inj H
    go_wp2
    go_ret
    exact ⟨by first | rfl | (simp; done) | (simp [*]; done), by repeat (first | exact Drawn0.refl _ | apply Drawn0.step)⟩
   rw [if_pos c3] at H
   have c3b0 : decide (Aa < (l0.length : Int)) = true := decide_eq_true c3
   clear c3
   by_cases c4 : 0 ≤ Aa
   rotate_left
   ·rw [if_neg c4] at H
    exact absurd H (by simp)
   rw [if_pos c4] at H
   have c4b0 : decide (0 ≤ Aa) = true := decide_eq_true c4
   clear c4
   by_cases c5 : ((rd_T35 l0 Aa).f0) = a1
   ·rw [if_pos c5] at H
    have c5b0 : (((rd_T35 l0 Aa).f0) == a1) = true := beq_iff_eq.mpr c5
    have c5b1 : (((rd_T35 l0 Aa).f0) != a1) = false := bne_eq_false_iff_eq.mpr c5
    clear c5
    obtain rfl := Option.some.inj H
    have p107 : 0 ≤ (Aa : Int) := of_decide_eq_true pS
    have q107 : Aa < (l0.length : Int) := of_decide_eq_true pS
    obtain ⟨Ai, Ah, c107_1, e107, Ad, Ae, Ab, Ac⟩ := at_T35 HR0.out Aa p107 q107
    cases e107
    have Af := Am Ac
    have Ag := Am Ab
    clear Ac Ab
    replace p107 := eq_true p107
    replace q107 := eq_true q107
    go_wp2
    go_ret
    exact ⟨by first | rfl | (simp; done) | (simp [*]; done), by repeat (first | exact Drawn0.refl _ | apply Drawn0.step)⟩
   rw [if_neg c5] at H
   have c5b0 : (((rd_T35 l0 Aa).f0) == a1) = false := beq_eq_false_iff_ne.mpr c5
   have c5b1 : (((rd_T35 l0 Aa).f0) != a1) = true := bne_iff_ne.mpr c5
   have H' := Am H
   clear H
   have p107 : 0 ≤ (Aa : Int) := of_decide_eq_true pS
   have q107 : Aa < (l0.length : Int) := of_decide_eq_true pS
   obtain ⟨Ai, Ah, c107_1, e107, Ad, Ae, Ab, Ac⟩ := at_T35 HR0.out Aa p107 q107
   cases e107
   have Af := Am Ac
   have Ag := Am Ab
   clear Ac Ab
   replace p107 := eq_true p107
   replace q107 := eq_true q107
   go_wp2
   go_roundg k1
   case measure => have := HK1.out; omega
   case rel => exact ⟨(wrap64 (Aa + 1)), (by first | rfl | (simp; done) | (simp [*]; done)), H', ⟨by have := HK1.out; omega⟩, by repeat (first | exact Drawn0.refl _ | apply Drawn0.step)⟩
end
section
def pt (x : S25) : Value := .agg #[.int .i64 x.f0, .int .i64 x.f1, .int .i64 x.f2, .int .u32 x.f3]
def IP (w : World) (m : Nat) (g : List (Int × S25)) : Prop := IM w m (g.map fun p => (p.1, pt p.2))
/-- Block b is a relay, its moves' map is block m, and the moves are these. -/
def Rl (w : World) (b m : Nat) (ms : List (Int × List (Int × S25))) : Prop :=
 w.heap[b]? = some (.cells #[.map (some m)] 61 (0, 0)) ∧ ∃ g : List (Int × (Nat × List (Int × S25))), IM w m (g.map fun p => (p.1, Value.map (some p.2.1))) ∧ (∀ p ∈ g, p.2.1 ≠ m ∧ IP w p.2.1 p.2.2) ∧ ms = g.map fun p => (p.1, p.2.2)
/-- Block m alone has turned; others are new. -/
def Tn (w w' : World) (m : Nat) : Prop := (∀ B, B ≤ w.heap.size → B ≤ m → Below B w w') ∧ ∀ k, k < w.heap.size → k ≠ m → w'.heap[k]? = w.heap[k]?
theorem Tn.of_below {w w' : World} {m : Nat} (h : Below w.heap.size w w') : Tn w w' m := ⟨fun B hB _ => h.mono hB, fun k hk _ => h.block k hk⟩
theorem Tn.trans {w w1 w2 : World} {m : Nat} (h : Tn w w1 m) (h2 : Tn w1 w2 m) : Tn w w2 m := by
 have hs := (h.1 0 (Nat.zero_le _) (Nat.zero_le _)).size
 by_cases e : w.heap.size ≤ w1.heap.size
 ·exact ⟨fun B hB hm => (h.1 B hB hm).trans (h2.1 B (by omega) hm), fun k hk hne => (h2.2 k (by omega) hne).trans (h.2 k hk hne)⟩
 ·exact absurd ((h.1 0 (Nat.zero_le _) (Nat.zero_le _)).size) (by omega)
theorem Tn.grown {w w' : World} {m : Nat} (h : w.grownBy w' (some m)) : Tn w w' m :=
 ⟨fun B hB hm => (Below.refl B w).grown h hB (fun k hk => by cases hk; exact hm), fun k hk hne => h.block k hk (fun e => hne (by cases e; rfl))⟩
section
variable {w w' : World} {b m : Nat} {ms : List (Int × List (Int × S25))}
theorem Rl.b_lt (h : Rl w b m ms) : b < w.heap.size := blk_lt h.1
theorem Rl.m_lt (h : Rl w b m ms) : m < w.heap.size := by
 obtain ⟨_, g, h2, _⟩ := h
 exact h2.lt
theorem Rl.ne (h : Rl w b m ms) : b ≠ m := by
 obtain ⟨h1, g, ⟨es, c, h2, _⟩, _⟩ := h
 rintro rfl
 rw [h1] at h2
 cases h2
theorem Rl.below (h : Rl w b m ms) (hb : Below w.heap.size w w') : Rl w' b m ms := by
 obtain ⟨h1, g, h2, h3, h4⟩ := h
 exact ⟨(hb.block b (blk_lt h1)).trans h1, g, h2.below hb, fun p hp => ⟨(h3 p hp).1, (h3 p hp).2.below hb⟩, h4⟩
/-- The moves' map has turned, and nothing else. -/
theorem Rl.turn (h : Rl w b m ms) (ht : Tn w w' m) {g : List (Int × (Nat × List (Int × S25)))} (h2 : IM w' m (g.map fun p => (p.1, Value.map (some p.2.1)))) (h3 : ∀ p ∈ g, p.2.1 ≠ m ∧ IP w' p.2.1 p.2.2) : Rl w' b m (g.map fun p => (p.1, p.2.2)) :=
 ⟨(ht.2 b h.b_lt h.ne).trans h.1, g, h2, h3, rfl⟩
end
theorem gdel_none {α : Type} {k : Int} : ∀ {g : List (Int × α)}, gat k g = none → gdel k g = g
 | [], _ => rfl
 | p :: r, h => by
  simp only [gat] at h
  split at h
  ·cases h
  ·rename_i hne
   simp only [gdel, if_neg hne, gdel_none h]
set_option maxHeartbeats 4000000 in
set_option maxRecDepth 100000 in
theorem relay_New (w : World) : Calls Try.prog 14 #[] w fun e w' => ∃ b m, e = .returned (.pointer (some ⟨b, 0, none⟩)) ∧ Rl w' b m [] ∧ w.heap.size ≤ m ∧ Below w.heap.size w w' := by
 have hmm : ∀ (t : TypeId) (w : World), (Instr.makeMap t none).run Try.prog w = .ok (.map (some w.heap.size)) (w.alloc (.map #[] 0)) := fun _ _ => rfl
 have hu61 := Try.underlying61
 go_enter Try.func14, Try.ntmps14
 go_wp2
 go_ret
 have hs : (w.alloc (.map #[] 0)).heap.size = w.heap.size + 1 := by simp
 refine ⟨w.heap.size + 1, w.heap.size, rfl, ⟨?_, [], ?_, (fun p hp => absurd hp List.not_mem_nil), rfl⟩, by omega, (((Below.refl _ _).alloc (Nat.le_refl _) _).alloc (by omega) _)⟩
 ·rw [← hs]; exact (MapKept.heap_alloc _ _).1
 ·exact (IM.made w).below ((Below.refl _ _).alloc (Nat.le_refl _) _)
set_option maxHeartbeats 4000000 in
set_option maxRecDepth 100000 in
theorem relay_is (w : World) (b m : Nat) (hb : w.heap[b]? = some (.cells #[.map (some m)] 61 (0, 0))) : Calls Try.prog 19 #[.pointer (some ⟨b, 0, none⟩)] w fun e w' => e = .returned (.bool true) ∧ w' = w := by
 have hu61 := Try.underlying61
 have hc : w.cell? ⟨b, 0, none⟩ = some (.map (some m)) := by simp [World.cell?, hb]
 have hne : ∀ (m : Nat) (W : World), (_root_.Go.binOp BinOp.neq 59 (.map (some m)) (.map none)).run Try.prog W = .ok (.bool true) W := fun m W => by kernel_rfl
 go_enter Try.func19, Try.ntmps19
 go_wp2
 go_ret
 exact ⟨rfl, rfl⟩
set_option maxHeartbeats 4000000 in
set_option maxRecDepth 100000 in
theorem relay_Drop (w : World) (b m : Nat) (ms : List (Int × List (Int × S25))) (seg : Int) (hR : Rl w b m ms) :
  Calls Try.prog 10 #[.pointer (some ⟨b, 0, none⟩), .int .i64 seg] w fun e w' => e = .returned (.int .i64 (if (gat seg ms).isSome then 0 else 3)) ∧ Rl w' b m (gdel seg ms) ∧ Tn w w' m := by
 have hu61 := Try.underlying61
 have hu59 := Try.underlying59
 have hu3 := Try.underlying3
 have HR := Am hR
 obtain ⟨hb, g, hm, hg, hms⟩ := hR
 have hc : w.cell? ⟨b, 0, none⟩ = some (.map (some m)) := by simp [World.cell?, hb]
 have hz : ∀ W : World, (zeroValue 58).run Try.prog W = .ok (.map none) W := fun W => by kernel_rfl
 have hl := hm.look hu59 hu3 seg false (.map none) (hz w)
 have hat : gat seg ms = (gat seg g).map (·.2) := by rw [hms]; exact gat_map (fun p : Nat × List (Int × S25) => p.2) seg g
 rw [gat_map (fun p : Nat × List (Int × S25) => Value.map (some p.1)) seg g] at hl
 cases hgs : gat seg g with
 | none =>
  rw [hgs] at hl hat
  simp only [Option.map_none, Option.getD_none, Bool.false_eq_true, if_false] at hl
  rw [show (if (gat seg ms).isSome = true then (0 : Int) else 3) = 3 from by rw [hat]; rfl, gdel_none (k := seg) (g := ms) hat]
  have HMS := Am hms
  clear hms hat
  have hne : ∀ (W : World), (_root_.Go.binOp BinOp.eql 58 (.map none) (.map none)).run Try.prog W = .ok (.bool true) W := fun W => by kernel_rfl
  go_enter Try.func10, Try.ntmps10
  go_wp2_with (go_at_call 19; refine (relay_is _ _ _ hb).mono ?_; rintro e w1 ⟨rfl, hw⟩; rw [hw])
  go_ret
  refine ⟨?_, ?_, Tn.of_below (Below.refl _ _)⟩
  ·rfl
  ·exact HR.out
 | some v =>
  rw [hgs] at hl hat
  simp only [Option.map_some, Option.getD_some, Bool.false_eq_true, if_false] at hl
  rw [show (if (gat seg ms).isSome = true then (0 : Int) else 3) = 0 from by rw [hat]; rfl]
  have HMS := Am hms
  clear hms hat
  have hne : ∀ (m : Nat) (W : World), (_root_.Go.binOp BinOp.eql 58 (.map (some m)) (.map none)).run Try.prog W = .ok (.bool false) W := fun m W => by kernel_rfl
  have HM := Am hm
  clear hm
  go_enter Try.func10, Try.ntmps10
  go_wp2_with (first | (go_at_call 19; refine (relay_is _ _ _ hb).mono ?_; rintro e w1 ⟨rfl, hw⟩; rw [hw]) | (at_delete; refine wpDel _ rfl _ _ 59 3 rfl hu59 hu3 m seg _ rfl rfl HM.out ?_; intro w1 hm1 hg1; have HM1 := Am hm1; have HG1 := Am hg1; clear hm1 hg1))
  go_ret
  have hT := Tn.grown HG1.out
  refine ⟨?_, ?_, hT⟩
  ·rfl
  ·have h1 := HM1.out
   rw [gdel_map (fun p : Nat × List (Int × S25) => Value.map (some p.1)) seg g] at h1
   have h2 := HR.out.turn hT h1 (fun p hp => ⟨(hg p (gdel_mem hp)).1, (hg p (gdel_mem hp)).2.move (hT.2 _ (hg p (gdel_mem hp)).2.lt (hg p (gdel_mem hp)).1)⟩)
   rw [HMS.out, gdel_map (fun p : Nat × List (Int × S25) => p.2) seg g]
   exact h2
def relay_ofs (l : List S37) : List (Int × S25) := l.foldl (fun g h => gput h.f0 h.f1 g) []
theorem relay_ofs_snoc (l : List S37) (i : Nat) (hi : i < l.length) : relay_ofs (l.take (i + 1)) = gput (rd_T37 l (i : Int)).f0 (rd_T37 l (i : Int)).f1 (relay_ofs (l.take i)) := by
 have e : rd_T37 l (i : Int) = l[i] := by simp [rd_T37, hi]
 rw [e]
 unfold relay_ofs
 rw [List.take_succ_eq_append_getElem hi, List.foldl_append]
 rfl
set_option maxHeartbeats 4000000 in
set_option maxRecDepth 100000 in
theorem relay_Set (w : World) (b m : Nat) (ms : List (Int × List (Int × S25))) (seg : Int) (A : Option Addr) (c : Nat) (l : List S37) (k : Nat) (r : Bool) (hR : Rl w b m ms) (hr : Kd.C k37 w A l.length l) (hc : l.length ≤ c) (h : relay_may.f k seg l = some r) :
  Calls Try.prog 15 #[.pointer (some ⟨b, 0, none⟩), .int .i64 seg, .slice A l.length c] w fun e w' => e = .returned (.int .i64 (if r then 0 else 1)) ∧ Rl w' b m (if r then gput seg (relay_ofs l) ms else ms) ∧ Tn w w' m := by
 have hu61 := Try.underlying61
 have hu59 := Try.underlying59
 have hu58 := Try.underlying58
 have hu37 := Try.underlying37
 have hu25 := Try.underlying25
 have hu3 := Try.underlying3
 have hmm : ∀ (t : TypeId) (w : World), (Instr.makeMap t none).run Try.prog w = .ok (.map (some w.heap.size)) (w.alloc (.map #[] 0)) := fun _ _ => rfl
 have HR := Am hR
 have HC := Am hr
 have HCC := Am hc
 have HM := Am h
 have hn : l.length ≤ 9223372036854775807 := Kd.C_max hr
 obtain ⟨hb, g, hm, hg, hms⟩ := hR
 have HB := Am hb
 have HG := Am hg
 have HMS := Am hms
 have HIM := Am hm
 clear hr hc h hm hg hms hb
 cases r with
 | false =>
  simp only [Bool.false_eq_true, if_false]
  go_enter Try.func15, Try.ntmps15
  go_wp2_with (first | (go_at_call 19; refine (relay_is _ _ _ HB.out).mono ?_; rintro e w1 ⟨rfl, hw⟩; rw [hw]) | (go_at_call 24; refine (relay_may.calls k _ _ _ l false _ HC.out HCC.out HM.out).mono ?_; rintro e w1 ⟨rfl, hB⟩; have HB1 := Am hB; clear hB))
  go_ret
  exact ⟨rfl, HR.out.below HB1.out, Tn.of_below HB1.out⟩
 | true =>
  simp only [if_true]
  go_enter Try.func15, Try.ntmps15
  go_wp2_with (first | (go_at_call 19; refine (relay_is _ _ _ HB.out).mono ?_; rintro e w1 ⟨rfl, hw⟩; rw [hw]) | (go_at_call 24; refine (relay_may.calls k _ _ _ l true _ HC.out HCC.out HM.out).mono ?_; rintro e w1 ⟨rfl, hB⟩; have HB1 := Am hB; clear hB))
  have hs1 := HB1.out.size
  have HB2 := Am (HB1.out.alloc hs1 (.map #[] 0))
  have HI2 := Am (IM.made w1)
  obtain ⟨X, hX⟩ : ∃ X, X = w1.heap.size := ⟨_, rfl⟩
  have HX := Am hX
  rw [← hX] at HI2 ⊢
  generalize w1.alloc (.map #[] 0) = w2 at HB2 HI2 ⊢
  clear hX
  go_loopw [22] (fun v22 wr => ∃ i : Nat, i ≤ l.length ∧ v22 = .int .i64 i ∧ Aside0 (IP wr X (relay_ofs (l.take i))) ∧ Aside0 (Below w.heap.size w wr)) (fun v22 _ => l.length - (intOf v22).toNat)
  case atStart => exact ⟨0, Nat.zero_le _, rfl, HI2, HB2⟩
  case round =>
   clear HB2 HI2
   obtain ⟨i, hi, rfl, HI, HB2⟩ := hrel
   by_cases hlt : i < l.length
   ·obtain ⟨ad, e0, h0, h1, h2, h3, h4⟩ := at_T37u HC.out (i : Int) (by omega) (by omega) HB2.out
    subst e0
    simp only [Int.toNat_natCast] at h0 h1 h2 h3 h4
    have hlt' : ((i : Int) < (l.length : Int)) := by omega
    have hsz := HB2.out.size
    obtain ⟨x, hx⟩ : ∃ x, x = rd_T37 l (i : Int) := ⟨_, rfl⟩
    rw [← hx] at h0 h1 h2 h3 h4
    have HX2 := Am hx
    clear hx
    go_wp2_with (first | (at_mapUpdate; refine wpUpd _ rfl _ _ _ 58 rfl hu58 hu3 X _ _ _ rfl rfl rfl (HI.out.below ((Below.refl _ _).alloc (Nat.le_refl _) _)) ?_; intro w3 hm3 hg3; have HI3 := Am hm3; have HG3 := Am hg3; clear hm3 hg3))
    go_roundw
    case rel =>
     refine ⟨i + 1, by omega, by go_num, ⟨?_⟩, ⟨(HB2.out.alloc hsz _).grown HG3.out (by simp; omega) (fun k hk => by cases hk; rw [HX.out]; exact HB1.out.size)⟩⟩
     rw [relay_ofs_snoc l i hlt, ← HX2.out]
     have h1 := HI3.out
     unfold IP
     rw [← gput_map]
     exact h1
    case measure => simp [intOf]; omega
   ·have hkl : i = l.length := by omega
    subst hkl
    rw [List.take_length] at HI
    have HR2 := Am (HR.out.below HB2.out)
    have hb2 : wr.heap[b]? = some (.cells #[.map (some m)] 61 (0, 0)) := HR2.out.1
    have hc : wr.cell? ⟨b, 0, none⟩ = some (.map (some m)) := by simp [World.cell?, hb2]
    have HI2 := Am (HIM.out.below HB2.out)
    have hmX : X ≠ m := by
     have h1 := HIM.out.lt
     have h2 := HB1.out.size
     rw [HX.out]
     omega
    go_wp2_with (first | (at_mapUpdate; refine wpUpd _ rfl _ _ _ 59 rfl hu59 hu3 m _ _ _ rfl rfl rfl HI2.out ?_; intro w3 hm3 hg3; have HI3 := Am hm3; have HG3 := Am hg3; clear hm3 hg3))
    go_ret
    have hT := (Tn.of_below HB2.out).trans (Tn.grown HG3.out)
    have hT3 := Tn.grown HG3.out
    refine ⟨rfl, ?_, hT⟩
    have h1 := HI3.out
    have h2 := HR2.out.turn hT3 (g := gput seg (X, relay_ofs l) g) (by rw [← gput_map (fun p : Nat × List (Int × S25) => Value.map (some p.1))]; exact h1) (fun p hp => by
     rcases gput_mem hp with rfl | hp
     ·exact ⟨hmX, HI.out.move (hT3.2 _ HI.out.lt hmX)⟩
     ·have h3 := HG.out p hp
      have h4 := h3.2.below HB2.out
      exact ⟨h3.1, h4.move (hT3.2 _ h4.lt h3.1)⟩)
    rw [HMS.out, gput_map (fun p : Nat × List (Int × S25) => p.2) seg (X, relay_ofs l) g]
    exact h2
end
section
def relay_Find.l0 : Nat → List (Int × List (Int × S25)) → S25 → Int → Option (S25 × Int × Int)
 | 0, _, _, _ => none
 | k + 1, ms, p, n => match gat p.f0 ms with
  | none => some (p, n, 0)
  | some g => match gat p.f1 g with
   | none => some (z25, 0, 3)
   | some q => if q.f2 = p.f2 then (if q.f3 = p.f3 then relay_Find.l0 k ms q (wrap64 (n + 1)) else some (z25, 0, 3)) else some (z25, 0, 3)
def relay_Find.f (k : Nat) (ms : List (Int × List (Int × S25))) (p : S25) : Option (S25 × Int × Int) :=
 (point_Check.f p.f0 p.f1 p.f2 p.f3).bind fun e => if e = 0 then relay_Find.l0 k ms p 0 else some (z25, 0, 1)
theorem relay_Find.mono_l : ∀ k ms p n, LeO (relay_Find.l0 k ms p n) (relay_Find.l0 (k + 1) ms p n)
 | 0, _, _, _ => fun r h => by simp [relay_Find.l0] at h
 | k + 1, ms, p, n => by
  rw [relay_Find.l0, relay_Find.l0]
  cases gat p.f0 ms with
  | none => exact LeO.refl _
  | some g =>
   cases hg : gat p.f1 g with
   | none => simp only [hg]; exact LeO.refl _
   | some q =>
    simp only [hg]
    exact LeO.ite (LeO.ite (relay_Find.mono_l k _ _ _) (LeO.refl _)) (LeO.refl _)
theorem relay_Find.mono : ∀ ms p k, LeO (relay_Find.f k ms p) (relay_Find.f (k + 1) ms p) := fun ms p k => LeO.bind (LeO.refl _) (fun _ => LeO.ite (relay_Find.mono_l k _ _ _) (LeO.refl _))
theorem point_Check.two {a b c d e : Int} (h : point_Check.f a b c d = some e) : e = 0 ∨ e = 1 := by
 unfold point_Check.f at h
 repeat' (first | (split at h) | (cases h; simp; done))
theorem blk4 {w : World} {k : Nat} {c0 c1 c2 c3 : Value} {E : TypeId} (v0 v1 v2 v3 : Value) (h : w.heap[k]? = some (.cells #[c0, c1, c2, c3] E (0, 0))) :
  ((((w.setCell ⟨k, 0, none⟩ v0).setCell ⟨k, 1, none⟩ v1).setCell ⟨k, 2, none⟩ v2).setCell ⟨k, 3, none⟩ v3).heap[k]? = some (.cells #[v0, v1, v2, v3] E (0, 0)) := bp4 h
theorem far4 {w : World} {j k : Nat} (v0 v1 v2 v3 : Value) (hne : j ≠ k) : ((((w.setCell ⟨k, 0, none⟩ v0).setCell ⟨k, 1, none⟩ v1).setCell ⟨k, 2, none⟩ v2).setCell ⟨k, 3, none⟩ v3).heap[j]? = w.heap[j]? := by
 rw [Below.heap_setCell _ _ _ _ hne, Below.heap_setCell _ _ _ _ hne, Below.heap_setCell _ _ _ _ hne, Below.heap_setCell _ _ _ _ hne]
theorem find_boxes {w w1 : World} {xs ys : Array Value} {s t : TypeId} (h : Below ((w.alloc (.cells xs s)).alloc (.cells ys t)).heap.size ((w.alloc (.cells xs s)).alloc (.cells ys t)) w1) :
  w1.heap[w.heap.size]? = some (.cells xs s (0, 0)) ∧ w1.heap[w.heap.size + 1]? = some (.cells ys t (0, 0)) := by
 have hs : (w.alloc (.cells xs s)).heap.size = w.heap.size + 1 := by simp
 have hs2 : ((w.alloc (.cells xs s)).alloc (.cells ys t)).heap.size = w.heap.size + 1 + 1 := by simp
 exact ⟨((h.block _ (by rw [hs2]; omega)).trans ((MapKept.heap_alloc _ _).2 _ (by rw [hs]; omega))).trans (MapKept.heap_alloc w _).1, (h.block _ (by rw [hs2]; omega)).trans (by rw [← hs]; exact (MapKept.heap_alloc _ _).1)⟩
theorem cells4 {w : World} {k : Nat} {v0 v1 v2 v3 : Value} {E : TypeId} (h : w.heap[k]? = some (.cells #[v0, v1, v2, v3] E (0, 0))) :
  w.cell? ⟨k, 0, none⟩ = some v0 ∧ w.cell? ⟨k, 1, none⟩ = some v1 ∧ w.cell? ⟨k, 2, none⟩ = some v2 ∧ w.cell? ⟨k, 3, none⟩ = some v3 ∧ ∀ j, w.frozen? ⟨k, j, none⟩ = false := by
 refine ⟨?_, ?_, ?_, ?_, fun j => ?_⟩ <;> simp [World.cell?, World.frozen?, h]
set_option maxHeartbeats 4000000 in
set_option maxRecDepth 100000 in
theorem relay_Find.calls (w : World) (b m : Nat) (ms : List (Int × List (Int × S25))) (p : S25) (k : Nat) (r : S25 × Int × Int) (hR : Rl w b m ms) (h : relay_Find.f k ms p = some r) :
  Calls Try.prog 9 #[.pointer (some ⟨b, 0, none⟩), .agg #[.int .i64 p.f0, .int .i64 p.f1, .int .i64 p.f2, .int .u32 p.f3]] w fun e w' => e = .returned (.tuple #[.agg #[.int .i64 r.1.f0, .int .i64 r.1.f1, .int .i64 r.1.f2, .int .u32 r.1.f3], .int .i64 r.2.1, .int .i64 r.2.2]) ∧ Below w.heap.size w w' := by
 have hu61 := Try.underlying61
 have hu59 := Try.underlying59
 have hu58 := Try.underlying58
 have hu25 := Try.underlying25
 have hu3 := Try.underlying3
 obtain ⟨p0, p1, p2, p3⟩ := p
 obtain ⟨⟨q0, q1, q2, q3⟩, rn, re⟩ := r
 replace h := Option.bind_eq_some_iff.mp h
 obtain ⟨ec, hchk, h⟩ := h
 simp only at hchk h ⊢
 have HR := Am hR
 have hbw := hR.b_lt
 have hb := hR.1
 clear hR
 have HB := Am (Below.refl w.heap.size w)
 have HCK := Am hchk
 have HH := Am h
 clear hchk h
 have hc : ∀ W, Below w.heap.size w W → W.cell? ⟨b, 0, none⟩ = some (.map (some m)) := fun W h => by
  have := (h.block b hbw).trans hb
  simp [World.cell?, this]
 have hnn : ∀ (W : World), (_root_.Go.binOp BinOp.eql 58 (.map none) (.map none)).run Try.prog W = .ok (.bool true) W := fun W => by kernel_rfl
 have hne : ∀ (m : Nat) (W : World), (_root_.Go.binOp BinOp.eql 58 (.map (some m)) (.map none)).run Try.prog W = .ok (.bool false) W := fun m W => by kernel_rfl
 have hz58 : ∀ W : World, (zeroValue 58).run Try.prog W = .ok (.map none) W := fun W => by kernel_rfl
 have hz25 : ∀ W : World, (zeroValue 25).run Try.prog W = .ok (.agg #[.int .i64 0, .int .i64 0, .int .i64 0, .int .u32 0]) W := fun W => by kernel_rfl
 rcases point_Check.two HCK.out with rfl | rfl
 ·go_enter Try.func9, Try.ntmps9
  go_wp2_with (first | (go_at_call 19; refine (relay_is _ b m (((pB HB.out : Below w.heap.size w _).block b hbw).trans hb)).mono ?_; rintro e w1 ⟨rfl, hw⟩; rw [hw]) | (go_at_call 20; refine (point_Check.calls p0 p1 p2 p3 0 _ HCK.out).mono ?_; rintro e w1 ⟨rfl, hb1⟩; obtain ⟨hp1, hq1⟩ := find_boxes hb1; have A1 := Am hp1; have A2 := Am hq1; obtain ⟨i0, i1, i2, i3, j0⟩ := cells4 hq1; clear hp1 hq1; replace HB := Am (below_step (pB HB.out) hb1); clear hb1))
  clear i0 i1 i2 i3 j0
  have HH0 : relay_Find.l0 k ms ⟨p0, p1, p2, p3⟩ 0 = some (⟨q0, q1, q2, q3⟩, rn, re) := by simpa using HH.out
  replace HH := Am HH0
  clear HH0
  go_loopg [7] k (fun kq v7 wr => ∃ (p : S25) (n : Int), v7 = .int .i64 n ∧ Aside0 (relay_Find.l0 kq ms p n = some (⟨q0, q1, q2, q3⟩, rn, re)) ∧ Aside0 (kq ≤ k) ∧ Aside0 (wr.heap[w.heap.size]? = some (.cells #[.int .i64 p.f0, .int .i64 p.f1, .int .i64 p.f2, .int .u32 p.f3] 25 (0, 0))) ∧ Aside0 (wr.heap[w.heap.size + 1]? = some (.cells #[.int .i64 0, .int .i64 0, .int .i64 0, .int .u32 0] 25 (0, 0))) ∧ Aside0 (Below w.heap.size w wr))
  case atStart => exact ⟨⟨p0, p1, p2, p3⟩, 0, rfl, HH, ⟨Nat.le_refl _⟩, A1, A2, HB⟩
  case round =>
   clear A1 A2 HB HH
   obtain ⟨⟨p0, p1, p2, p3⟩, n, rfl, HA, HK, A1, A2, HB⟩ := hrel
   cases gk with
   | zero => exact absurd HA.out (by simp [relay_Find.l0])
   | succ k2 =>
    have H := HA.out
    clear HA
    rw [relay_Find.l0] at H
    simp only at H
    obtain ⟨g, hm, hg, hms⟩ := HR.out.2
    have hmw := hm.lt
    have hmW : IM wr m _ := hm.move (HB.out.block m hm.lt)
    have hatm : gat p0 ms = (gat p0 g).map (·.2) := by rw [hms]; exact gat_map (fun p : Nat × List (Int × S25) => p.2) p0 g
    have hl1 : ∀ nq, (Instr.lookup 59 (.map (some m)) (.int .i64 p0) false).run Try.prog (wr.drewN nq) = .ok (((gat p0 g).map fun v => Value.map (some v.1)).getD (.map none)) (wr.drewN nq) := fun nq => by
     have h1 := (hmW.move (w1 := wr.drewN nq) rfl).look hu59 hu3 p0 false (.map none) (hz58 _)
     rw [gat_map (fun p : Nat × List (Int × S25) => Value.map (some p.1)) p0 g] at h1
     simpa using h1
    rw [hatm] at H
    have HG := Am hg
    clear hm hg hms hmW hatm
    have hcw := hc _ HB.out
    obtain ⟨e0, e1, e2, e3, f0⟩ := cells4 A1.out
    obtain ⟨i0, i1, i2, i3, j0⟩ := cells4 A2.out
    cases hgp : gat p0 g with
    | none =>
     rw [hgp] at H hl1
     simp only [Option.map_none, Option.getD_none, Option.some.injEq, Prod.mk.injEq, S25.mk.injEq] at H hl1
     obtain ⟨⟨rfl, rfl, rfl, rfl⟩, rfl, rfl⟩ := H
     go_wp2
     go_quiet (fail)
     go_wp2
     have HB5 : Below w.heap.size w (wr.drewN nq) := pB HB.out
     refine bodyPost_ret (results_ctt rfl _ _ (w.heap.size + 1) 25 #[.int .i64 p0, .int .i64 p1, .int .i64 p2, .int .u32 p3] (0, 0) _ rfl (blk4 _ _ _ _ (show (wr.drewN nq).heap[w.heap.size + 1]? = _ from A2.out)) Try.underlying25 rfl (by kernel_rfl)) rfl ?_
     exact ⟨rfl, (((HB5.setCell (by simp) _).setCell (by simp) _).setCell (by simp) _).setCell (by simp) _⟩
    | some v =>
     obtain ⟨mi, gi⟩ := v
     rw [hgp] at H hl1
     simp only [Option.map_some, Option.getD_some] at H hl1
     have hgi := (HG.out _ (gat_mem hgp)).2
     have hmiw := hgi.lt
     have hmiW : IM wr mi _ := hgi.move (HB.out.block mi hgi.lt)
     have hl2 : ∀ nq, (Instr.lookup 58 (.map (some mi)) (.int .i64 p1) true).run Try.prog (wr.drewN nq) = .ok (.tuple #[((gat p1 gi).map pt).getD (.agg #[.int .i64 0, .int .i64 0, .int .i64 0, .int .u32 0]), .bool (gat p1 gi).isSome]) (wr.drewN nq) := fun nq => by
      have h1 := (hmiW.move (w1 := wr.drewN nq) rfl).look hu58 hu3 p1 true (.agg #[.int .i64 0, .int .i64 0, .int .i64 0, .int .u32 0]) (hz25 _)
      rw [gat_map pt p1 gi] at h1
      simpa using h1
     clear hgi hmiW hgp
     go_wp2
     go_quiet (fail)
     obtain ⟨w2, hw2⟩ : ∃ w2, w2 = wr.drewN nq := ⟨_, rfl⟩
     have HB2 : Below w.heap.size w w2 := by rw [hw2]; exact pB HB.out
     have hl2' := hl2 nq
     have hx2 : w2.heap = wr.heap := by rw [hw2]; rfl
     rw [← hw2] at hl2' ⊢
     clear hl1 hl2 e0 e1 e2 e3 f0 i0 i1 i2 i3 j0 hcw HB
     have hp2 := A1.out
     have hq2 := A2.out
     rw [← hx2] at hp2 hq2
     clear hw2 hx2 A1 A2
     obtain ⟨e0, e1, e2, e3, f0⟩ := cells4 hp2
     obtain ⟨i0, i1, i2, i3, j0⟩ := cells4 hq2
     have hpw2 := blk_lt hp2
     have hqw2 := blk_lt hq2
     have ap : ∀ o, (w2.alloc o).heap[w.heap.size]? = some (.cells #[.int .i64 p0, .int .i64 p1, .int .i64 p2, .int .u32 p3] 25 (0, 0)) := fun o => ((MapKept.heap_alloc w2 o).2 _ hpw2).trans hp2
     have aq : ∀ o, (w2.alloc o).heap[w.heap.size + 1]? = some (.cells #[.int .i64 0, .int .i64 0, .int .i64 0, .int .u32 0] 25 (0, 0)) := fun o => ((MapKept.heap_alloc w2 o).2 _ hqw2).trans hq2
     have e2a := fun o => (cells4 (ap o)).2.2.1
     have e3a := fun o => (cells4 (ap o)).2.2.2.1
     have f0a := fun o => (cells4 (ap o)).2.2.2.2
     have e0a := fun o => (cells4 (ap o)).1
     have e1a := fun o => (cells4 (ap o)).2.1
     have i0a := fun o => (cells4 (aq o)).1
     have i1a := fun o => (cells4 (aq o)).2.1
     have i2a := fun o => (cells4 (aq o)).2.2.1
     have i3a := fun o => (cells4 (aq o)).2.2.2.1
     have j0a := fun o => (cells4 (aq o)).2.2.2.2
     have AQ := Am aq
     have AP := Am ap
     have HB4 := fun o => (HB2.alloc (by omega : w.heap.size ≤ w2.heap.size) o)
     have HB3 := Am HB4
     have HB2' := Am HB2
     clear hp2 hq2 hpw2 hqw2 ap aq HB4 HB2
     cases hq : gat p1 gi with
     | none =>
      rw [hq] at H hl2'
      simp only [Option.map_none, Option.getD_none, Option.isSome_none, Option.some.injEq, Prod.mk.injEq, z25, S25.mk.injEq] at H hl2'
      obtain ⟨⟨rfl, rfl, rfl, rfl⟩, rfl, rfl⟩ := H
      go_wp2
      refine bodyPost_ret (results_ctt rfl _ _ (w.heap.size + 1) 25 #[.int .i64 0, .int .i64 0, .int .i64 0, .int .u32 0] (0, 0) _ rfl (blk4 _ _ _ _ (AQ.out _)) Try.underlying25 rfl (by kernel_rfl)) rfl ?_
      exact ⟨rfl, ((((HB3.out _).setCell (by simp) _).setCell (by simp) _).setCell (by simp) _).setCell (by simp) _⟩
     | some y =>
      obtain ⟨y0, y1, y2, y3⟩ := y
      rw [hq] at H hl2'
      simp only [Option.map_some, Option.getD_some, Option.isSome_some, pt] at H hl2'
      by_cases h2 : y2 = p2
      ·by_cases h3 : y3 = p3
       ·rw [if_pos h2, if_pos h3] at H
        subst h2 h3
        have HA := Am H
        clear H
        go_wp2
        go_roundg k2
        case measure => have := HK.out; omega
        case rel =>
         refine ⟨⟨y0, y1, y2, y3⟩, wrap64 (n + 1), rfl, HA, ⟨by have := HK.out; omega⟩, ⟨blk4 _ _ _ _ (AP.out _)⟩, ⟨(far4 _ _ _ _ (by omega)).trans (AQ.out _)⟩, ⟨((((HB3.out _).setCell (Nat.le_refl _) _).setCell (Nat.le_refl _) _).setCell (Nat.le_refl _) _).setCell (Nat.le_refl _) _⟩⟩
       ·rw [if_pos h2, if_neg h3] at H
        simp only [Option.some.injEq, Prod.mk.injEq, z25, S25.mk.injEq] at H
        obtain ⟨⟨rfl, rfl, rfl, rfl⟩, rfl, rfl⟩ := H
        go_wp2
        refine bodyPost_ret (results_ctt rfl _ _ (w.heap.size + 1) 25 #[.int .i64 0, .int .i64 0, .int .i64 0, .int .u32 0] (0, 0) _ rfl (blk4 _ _ _ _ (AQ.out _)) Try.underlying25 rfl (by kernel_rfl)) rfl ?_
        exact ⟨rfl, ((((HB3.out _).setCell (by simp) _).setCell (by simp) _).setCell (by simp) _).setCell (by simp) _⟩
      ·rw [if_neg h2] at H
       simp only [Option.some.injEq, Prod.mk.injEq, z25, S25.mk.injEq] at H
       obtain ⟨⟨rfl, rfl, rfl, rfl⟩, rfl, rfl⟩ := H
       go_wp2
       refine bodyPost_ret (results_ctt rfl _ _ (w.heap.size + 1) 25 #[.int .i64 0, .int .i64 0, .int .i64 0, .int .u32 0] (0, 0) _ rfl (blk4 _ _ _ _ (AQ.out _)) Try.underlying25 rfl (by kernel_rfl)) rfl ?_
       exact ⟨rfl, ((((HB3.out _).setCell (by simp) _).setCell (by simp) _).setCell (by simp) _).setCell (by simp) _⟩
 ·go_enter Try.func9, Try.ntmps9
  go_wp2_with (first | (go_at_call 19; refine (relay_is _ b m (((pB HB.out : Below w.heap.size w _).block b hbw).trans hb)).mono ?_; rintro e w1 ⟨rfl, hw⟩; rw [hw]) | (go_at_call 20; refine (point_Check.calls p0 p1 p2 p3 1 _ HCK.out).mono ?_; rintro e w1 ⟨rfl, hb1⟩; obtain ⟨hp1, hq1⟩ := find_boxes hb1; have A1 := Am hp1; have A2 := Am hq1; obtain ⟨i0, i1, i2, i3, j0⟩ := cells4 hq1; clear hp1 hq1; replace HB := Am (below_step (pB HB.out) hb1); clear hb1))
  have H := HH.out
  simp only [if_neg (show ¬ (1 : Int) = 0 by omega), Option.some.injEq, Prod.mk.injEq, z25, S25.mk.injEq] at H
  obtain ⟨⟨rfl, rfl, rfl, rfl⟩, rfl, rfl⟩ := H
  refine bodyPost_ret (results_ctt rfl _ _ (w.heap.size + 1) 25 #[.int .i64 0, .int .i64 0, .int .i64 0, .int .u32 0] (0, 0) _ rfl (blk4 _ _ _ _ A2.out) Try.underlying25 rfl (by kernel_rfl)) rfl ?_
  exact ⟨rfl, (((HB.out.setCell (by simp) _).setCell (by simp) _).setCell (by simp) _).setCell (by simp) _⟩
end
section
attribute [local go_sem] max2_int min2_int max_two min_two max_three min_three max_four min_four
attribute [local go_sem] wrap64_l1 wrap64_l2 wrap64_l3 wrap64_l4 wrap64_l5
def garnerref21_Drop.f (k : Nat) (l0 : List (S35)) (a1 : Int) : Option ((List (S35)) × Bool) := (garnerref21_at.f k l0 a1).bind fun t108 => (if t108 < 0 then (some (l0, false)) else ((some (([] : List (S35)) : List (S35))).bind fun y109 => (if 0 ≤ t108 then (if t108 ≤ (l0.length : Int) then ((some (l0.take (t108 : Int).toNat : List (S35))).bind fun y112 => (if y109.length + y112.length < 4398046511104 then ((some (y109 ++ y112 : List (S35))).bind fun y117 => (if 0 ≤ (wrap64 (t108 + 1)) then (if (wrap64 (t108 + 1)) ≤ (l0.length : Int) then ((some (l0.drop ((wrap64 (t108 + 1)) : Int).toNat : List (S35))).bind fun y120 => (if y117.length + y120.length < 4398046511104 then (some ((y117 ++ y120), true)) else (none))) else (none)) else (none))) else (none))) else (none)) else (none))))
theorem garnerref21_Drop.mono : ∀ a0 a1 k, LeO (garnerref21_Drop.f k a0 a1) (garnerref21_Drop.f (k + 1) a0 a1) := by
 intro a0 a1 k
 unfold garnerref21_Drop.f
 repeat' first
   | (with_reducible exact garnerref21_at.mono _ _ _)
   | (with_reducible exact LeO.refl _)
   | (with_reducible exact LeO.none _)
   | (with_reducible refine LeO.ite ?_ ?_)
   | (with_reducible refine LeO.bind ?_ (fun _ => ?_))
   | exact garnerref21_at.mono _ _ _
   | exact LeO.none _
   | refine LeO.ite ?_ ?_
   | refine LeO.bind ?_ (fun _ => ?_)
def garnerref21_Drop.T4 : Bool × List (List Nat × List Nat) := (true, [([], []), ([], []), ([], []), ([1, 2], [1, 2]), ([0, 3], [0, 3]), ([], []), ([], []), ([6], [6]), ([5, 7], [5, 7]), ([4, 8, 4], [4, 8]), ([9, 9, 0, 1, 2, 3, 4, 5, 6, 7, 8, 9], [9]), ([10, 0, 1, 2, 3, 4, 5, 6, 7, 8, 9, 10], [])])
def garnerref21_Drop.B4 : List Nat := [0, 0, 0, 6, 15, 0, 0, 64, 224, 511, 1023, 2047]
theorem garnerref21_Drop.tab4 : rtab .any (opsOf Try.f16 4) = garnerref21_Drop.T4 := by kernel_rfl
theorem garnerref21_Drop.bits4 : waitsOk garnerref21_Drop.T4.2 garnerref21_Drop.B4 = true := by kernel_rfl
set_option maxHeartbeats 8000000 in
set_option maxRecDepth 100000 in
theorem garnerref21_Drop.calls (k : Nat) (P0_ : Nat → Prop) (A0 : Option Addr) (c0 : Nat) (l0 : List (S35)) (a1 : Int) (r1 : List (S35)) (r2 : Bool) (w : World) (hs0 : Kd.V k35 35 w w.heap.size (fun k_ => P0_ k_) (.slice A0 l0.length c0) l0) (h : garnerref21_Drop.f k l0 a1 = some (r1, r2)) :
  Calls Try.prog 16 #[.slice A0 l0.length c0, .int .i64 a1] w fun e w' => ∃ v0_ : Value, e = .returned (.tuple #[v0_, .bool r2]) ∧ Kd.V k35 35 w' w.heap.size (fun k_ => (P0_ k_ ∨ w.heap.size ≤ k_)) v0_ r1 ∧ Below w.heap.size w w' := by
 have Ad := Am (show Kd.V k35 35 w w.heap.size (fun k_ => (P0_ k_ ∨ w.heap.size ≤ k_)) (.slice A0 l0.length c0) l0 from Kd.V_mono hs0 (fun k_ hk => .inl hk))
 have HB := Am (Below.refl w.heap.size w)
 have H : ((garnerref21_at.f k l0 a1).bind fun t108 => (if t108 < 0 then (some (l0, false)) else ((some (([] : List (S35)) : List (S35))).bind fun y109 => (if 0 ≤ t108 then (if t108 ≤ (l0.length : Int) then ((some (l0.take (t108 : Int).toNat : List (S35))).bind fun y112 => (if y109.length + y112.length < 4398046511104 then ((some (y109 ++ y112 : List (S35))).bind fun y117 => (if 0 ≤ (wrap64 (t108 + 1)) then (if (wrap64 (t108 + 1)) ≤ (l0.length : Int) then ((some (l0.drop ((wrap64 (t108 + 1)) : Int).toNat : List (S35))).bind fun y120 => (if y117.length + y120.length < 4398046511104 then (some ((y117 ++ y120), true)) else (none))) else (none)) else (none))) else (none))) else (none)) else (none))))) = some (r1, r2) := h
 clear h
 replace H := Option.bind_eq_some_iff.mp H
 obtain ⟨t108, A30, H⟩ := H
 replace H : (if t108 < 0 then (some (l0, false)) else ((some (([] : List (S35)) : List (S35))).bind fun y109 => (if 0 ≤ t108 then (if t108 ≤ (l0.length : Int) then ((some (l0.take (t108 : Int).toNat : List (S35))).bind fun y112 => (if y109.length + y112.length < 4398046511104 then ((some (y109 ++ y112 : List (S35))).bind fun y117 => (if 0 ≤ (wrap64 (t108 + 1)) then (if (wrap64 (t108 + 1)) ≤ (l0.length : Int) then ((some (l0.drop ((wrap64 (t108 + 1)) : Int).toNat : List (S35))).bind fun y120 => (if y117.length + y120.length < 4398046511104 then (some ((y117 ++ y120), true)) else (none))) else (none)) else (none))) else (none))) else (none)) else (none)))) = some (r1, r2) := H
 have A3 := Am A30
 clear A30
 by_cases c4 : t108 < 0
 ·rw [if_pos c4] at H
  have c4b0 : decide (t108 < 0) = true := decide_eq_true c4
  clear c4
  simp only [Option.some.injEq, Prod.mk.injEq] at H
  obtain ⟨rfl, rfl⟩ := H
  go_enter Try.func16, Try.ntmps16
  go_wp2_with (first | ((with_reducible refine gate_callee (f := 23) rfl ?_); refine goesL_ (some 9) rfl rfl Try.func23 (by kernel_rfl) rfl #[.slice A0 l0.length c0, .int .i64 a1] rfl pL ?_; (with_reducible refine (garnerref21_at.calls k _ _ l0 a1 t108 _ ?Ag ?Ah A3.out).mono ?_); (case Ag => exact pC (Kd.V_reads' Ad.out).2.2); (case Ah => exact (Kd.V_reads' Ad.out).2.1); rintro e w' ⟨rfl, ⟨nd, rfl⟩⟩; refine ⟨_, rfl, ?_⟩))
  go_ret2
  exact ⟨_, pX, by (with_reducible repeat (first | apply Kd.V_alloc | apply Kd.V_drewN | apply Kd.V_drew)); exact Ad.out, pB HB.out⟩
 rw [if_neg c4] at H
 have c4b0 : decide (t108 < 0) = false := decide_eq_false c4
 clear c4
 obtain ⟨y109, hy109⟩ : ∃ y_ : List (S35), y_ = (([] : List (S35))) := ⟨_, rfl⟩
 replace H : (if 0 ≤ t108 then (if t108 ≤ (l0.length : Int) then ((some (l0.take (t108 : Int).toNat : List (S35))).bind fun y112 => (if y109.length + y112.length < 4398046511104 then ((some (y109 ++ y112 : List (S35))).bind fun y117 => (if 0 ≤ (wrap64 (t108 + 1)) then (if (wrap64 (t108 + 1)) ≤ (l0.length : Int) then ((some (l0.drop ((wrap64 (t108 + 1)) : Int).toNat : List (S35))).bind fun y120 => (if y117.length + y120.length < 4398046511104 then (some ((y117 ++ y120), true)) else (none))) else (none)) else (none))) else (none))) else (none)) else (none)) = some (r1, r2) := by first | (rw [hy109]; with_reducible exact H) | (have H2_ := (Option.bind_some _ _).symm.trans H; rw [hy109]; with_reducible exact H2_) | (have H2_ := (Option.bind_some _ _).symm.trans H; with_reducible exact H2_) | with_reducible exact H | (rw [hy109]; exact H) | exact H
 have Ny109 := Am hy109
 clear hy109
 by_cases c5 : 0 ≤ t108
 rotate_left
 ·rw [if_neg c5] at H
  exact absurd H (by simp)
 rw [if_pos c5] at H
 have c5b0 := eq_true c5
 have c5b1 : decide (0 ≤ t108) = true := decide_eq_true c5
 clear c5
 by_cases c6 : t108 ≤ (l0.length : Int)
 rotate_left
 ·rw [if_neg c6] at H
  exact absurd H (by simp)
 rw [if_pos c6] at H
 have c6b0 := eq_true c6
 have c6b1 : decide (t108 ≤ (l0.length : Int)) = true := decide_eq_true c6
 clear c6
 obtain ⟨y112, hy112⟩ : ∃ y_ : List (S35), y_ = (l0.take (t108 : Int).toNat) := ⟨_, rfl⟩
 replace H : (if y109.length + y112.length < 4398046511104 then ((some (y109 ++ y112 : List (S35))).bind fun y117 => (if 0 ≤ (wrap64 (t108 + 1)) then (if (wrap64 (t108 + 1)) ≤ (l0.length : Int) then ((some (l0.drop ((wrap64 (t108 + 1)) : Int).toNat : List (S35))).bind fun y120 => (if y117.length + y120.length < 4398046511104 then (some ((y117 ++ y120), true)) else (none))) else (none)) else (none))) else (none)) = some (r1, r2) := by first | (rw [hy112]; with_reducible exact H) | (have H2_ := (Option.bind_some _ _).symm.trans H; rw [hy112]; with_reducible exact H2_) | (have H2_ := (Option.bind_some _ _).symm.trans H; with_reducible exact H2_) | with_reducible exact H | (rw [hy112]; exact H) | exact H
 have Ny112 := Am hy112
 clear hy112
 by_cases c7 : y109.length + y112.length < 4398046511104
 rotate_left
 ·rw [if_neg c7] at H
  exact absurd H (by simp)
 rw [if_pos c7] at H
 have LMc7 := Am c7
 clear c7
 obtain ⟨y117, hy117⟩ : ∃ y_ : List (S35), y_ = (y109 ++ y112) := ⟨_, rfl⟩
 replace H : (if 0 ≤ (wrap64 (t108 + 1)) then (if (wrap64 (t108 + 1)) ≤ (l0.length : Int) then ((some (l0.drop ((wrap64 (t108 + 1)) : Int).toNat : List (S35))).bind fun y120 => (if y117.length + y120.length < 4398046511104 then (some ((y117 ++ y120), true)) else (none))) else (none)) else (none)) = some (r1, r2) := by first | (rw [hy117]; with_reducible exact H) | (have H2_ := (Option.bind_some _ _).symm.trans H; rw [hy117]; with_reducible exact H2_) | (have H2_ := (Option.bind_some _ _).symm.trans H; with_reducible exact H2_) | with_reducible exact H | (rw [hy117]; exact H) | exact H
 have Ny117 := Am hy117
 clear hy117
 obtain ⟨ji8, hji8⟩ : ∃ j_ : Int, (wrap64 (t108 + 1)) = j_ := ⟨_, rfl⟩
 replace H : (if 0 ≤ (ji8) then (if (ji8) ≤ (l0.length : Int) then ((some (l0.drop ((ji8) : Int).toNat : List (S35))).bind fun y120 => (if y117.length + y120.length < 4398046511104 then (some ((y117 ++ y120), true)) else (none))) else (none)) else (none)) = some (r1, r2) := by first | (rw [hji8] at H; exact H) | (simp only [hji8] at H ⊢; exact H)
 (try rw [hji8] at A3)
 have hji8w : (IntKind.i64.wrap (t108 + 1)) = ji8 := (i64_w _).trans hji8
 by_cases c9 : 0 ≤ (ji8)
 rotate_left
 ·rw [if_neg c9] at H
  exact absurd H (by simp)
 rw [if_pos c9] at H
 have c9b0 := eq_true c9
 have c9b1 : decide (0 ≤ (ji8)) = true := decide_eq_true c9
 clear c9
 by_cases c10 : (ji8) ≤ (l0.length : Int)
 rotate_left
 ·rw [if_neg c10] at H
  exact absurd H (by simp)
 rw [if_pos c10] at H
 have c10b0 := eq_true c10
 have c10b1 : decide ((ji8) ≤ (l0.length : Int)) = true := decide_eq_true c10
 clear c10
 obtain ⟨y120, hy120⟩ : ∃ y_ : List (S35), y_ = (l0.drop ((ji8) : Int).toNat) := ⟨_, rfl⟩
 replace H : (if y117.length + y120.length < 4398046511104 then (some ((y117 ++ y120), true)) else (none)) = some (r1, r2) := by first | (rw [hy120]; with_reducible exact H) | (have H2_ := (Option.bind_some _ _).symm.trans H; rw [hy120]; with_reducible exact H2_) | (have H2_ := (Option.bind_some _ _).symm.trans H; with_reducible exact H2_) | with_reducible exact H | (rw [hy120]; exact H) | exact H
 have Ny120 := Am hy120
 clear hy120
 by_cases c11 : y117.length + y120.length < 4398046511104
 rotate_left
 ·rw [if_neg c11] at H
  exact absurd H (by simp)
 rw [if_pos c11] at H
 have LMc11 := Am c11
 clear c11
 obtain ⟨y125, hy125⟩ : ∃ y_ : List (S35), y_ = (y117 ++ y120) := ⟨_, rfl⟩
 replace H : (some (y125, true)) = some (r1, r2) := by first | (rw [hy125]; with_reducible exact H) | (have H2_ := (Option.bind_some _ _).symm.trans H; rw [hy125]; with_reducible exact H2_) | (have H2_ := (Option.bind_some _ _).symm.trans H; with_reducible exact H2_) | with_reducible exact H | (rw [hy125]; exact H) | exact H
 have Ny125 := Am hy125
 clear hy125
 simp only [Option.some.injEq, Prod.mk.injEq] at H
 obtain ⟨rfl, rfl⟩ := H
 go_enter Try.func16, Try.ntmps16
 try go_wp2_with (first | ((with_reducible refine gate_callee (f := 23) rfl ?_); refine goesL_ (some 9) rfl rfl Try.func23 (by kernel_rfl) rfl #[.slice A0 l0.length c0, .int .i64 a1] rfl pL ?_; (with_reducible refine (garnerref21_at.calls k _ _ l0 a1 t108 _ ?Ag ?Ah A3.out).mono ?_); (case Ag => exact pC (Kd.V_reads' Ad.out).2.2); (case Ah => exact (Kd.V_reads' Ad.out).2.1); rintro e w' ⟨rfl, ⟨nd, rfl⟩⟩; refine ⟨_, rfl, ?_⟩))
 obtain ⟨wn, hwn⟩ : ∃ wn, wn = w.drewN nd := ⟨_, rfl⟩
 replace Ad : Aside0 (Kd.V k35 35 wn w.heap.size (fun k_ => P0_ k_ ∨ w.heap.size ≤ k_) (.slice A0 l0.length c0) l0) := ⟨by rw [hwn]; exact Kd.V_drewN Ad.out nd⟩
 replace HB : Aside0 (Below w.heap.size w wn) := ⟨by rw [hwn]; exact pB HB.out⟩
 rw [← hwn]
 clear hwn
 replace Ad := dVa Ad
 replace HB := bDa HB
 have q13 : (t108 : Int) ≤ ((l0.length : Int) : Int) := of_decide_eq_true pS
 obtain ⟨i013, hi013, _, Ar, _⟩ := info_parts info35
 have Ae : l0.length ≤ c0 := (Kd.V_reads' Ad.out).2.1
 have Ap : Kd.F k35 _ _ A0 l0.length l0 := (Kd.V_at (base := w.heap.size) Ad.out).2.2
 have An := cut_to (P := Try.prog) 30 35 .i64 Try.underlying30 hi013 A0 l0.length c0 t108 (of_decide_eq_true pS) q13 Ae
 have Al := Kd.F_take (m := (t108 : Int).toNat) Ap (by omega)
 have hy13 : y112.length = (t108 : Int).toNat := (by rw [Ny112.out, List.length_take]; omega)
 rw [← Ny112.out] at Al
 rw [← hy13] at An
 have Aa := Am (show Kd.V k35 35 _ w.heap.size _ (.slice A0 y112.length c0) y112 from Kd.V_mk (by omega) Al)
 have HC116 := Am (show y112.length ≤ c0 from by omega)
 clear Al Ap Ae hi013 Ar
 have KY13 := Am hy13
 clear hy13
 replace q13 := eq_true q13
 have q14 : ((ji8) : Int) ≤ ((l0.length : Int) : Int) := of_decide_eq_true pS
 obtain ⟨i014, hi014, _, Ai, _⟩ := info_parts info35
 have Ac : l0.length ≤ c0 := (Kd.V_reads' Ad.out).2.1
 have Aq : Kd.F k35 _ _ A0 l0.length l0 := (Kd.V_at (base := w.heap.size) Ad.out).2.2
 have q014 : (0 : Int) ≤ ((ji8) : Int) := of_decide_eq_true pS
 have Ao := cut_from (P := Try.prog) 30 35 .i64 Try.underlying30 hi014 2 Ai A0 l0.length c0 (ji8) q014 q14
 have Af := Kd.F_cut (m := ((ji8) : Int).toNat) (c := c0) Aq (by omega) Ac
 obtain ⟨A14, hA14⟩ : ∃ AX_, AX_ = (if c0 = ((ji8) : Int).toNat then A0 else (A0 : Option Addr).map (·.add (((ji8) : Int).toNat * 2))) := ⟨_, rfl⟩
 obtain ⟨c14, hc14⟩ : ∃ cX_, cX_ = c0 - ((ji8) : Int).toNat := ⟨_, rfl⟩
 have hy14 : y120.length = l0.length - ((ji8) : Int).toNat := (by rw [Ny120.out, List.length_drop] <;> omega)
 rw [show (l0).drop ((ji8) : Int).toNat = y120 from Ny120.out.symm] at Af
 replace Af : Kd.F k35 _ _ A14 y120.length y120 := (by rw [hA14]; exact Af)
 rw [← hy14, ← hA14, ← hc14] at Ao
 have Ab := Am (show Kd.V k35 35 _ w.heap.size _ (.slice A14 y120.length c14) y120 from Kd.V_mk (by rw [hy14, hc14]; exact Nat.sub_le_sub_right Ac _) Af)
 have HC124 := Am (show y120.length ≤ c14 from by rw [hy14, hc14]; exact Nat.sub_le_sub_right Ac _)
 clear Af Aq Ac hi014 Ai hc14
 have KY14 := Am hy14
 have KA14 := Am hA14
 clear hy14 hA14
 replace q14 := eq_true q14
 refine start_ (n := 12) (S := fun w' => True) (ds := []) #[false, false, false, false, false, false, false, false, false, false, false, false] (by kernel_rfl) rfl rfl trivial (fun hHeld => ?_); refine with_tabW garnerref21_Drop.tab4 garnerref21_Drop.bits4 (fun HT_ HW_ => ?_)
 generalize wn.drew = w12 at Ad HB Aa Ab hHeld ⊢
 refine pui 1 14 12 2 HT_ ?_
 refine pui 2 15 12 6 HT_ ?_
 refine pui 3 16 12 14 HT_ ?_
 refine pui 5 18 12 46 HT_ ?_
 refine pui 6 19 12 110 HT_ ?_
 refine pui 7 20 12 238 HT_ ?_
 refine pui 8 21 12 494 HT_ ?_
 refine onei 0 13 12 495 HT_ (fun K hK => ?_)
 refine Kd.N_lit_step k35 _ 35 ?hg (N' := 13) ?hd (xs := ([] : List (S35))) (inner := []) (ok := (fun k_ => (P0_ k_ ∨ w.heap.size ≤ k_))) (okp := (fun k_ => (P0_ k_ ∨ w.heap.size ≤ k_))) ?hr ?hp (fun _ hk => hk) ((show ∀ k_, w12.heap.size ≤ k_ → (fun k_ => (P0_ k_ ∨ w.heap.size ≤ k_)) k_ from fun k_ hk => (.inr (Nat.le_trans (below_size (pB HB.out)) hk))) _ (Nat.le_refl _)) (Below.refl _ _) (Nat.le_refl _) (by simp) ?_; (case hd => rfl); (case hg => rfl); (case hr => first | (go_simp; done) | (go_simp; rfl)); (case hp => exact (Reps.none _ _))
 intro v110 w15 ho16 hb hg_ hnew_
 clear hg_ hnew_
 (first | rw [← Ny109.out] at ho16 | (simp only [Int.reduceToNat] at ho16; rw [← Ny109.out] at ho16))
 replace Ad := Am (Kd.V_elder' (pV Ad.out) (Kd.N_base ho16) hb)
 replace Aa := Am (Kd.V_elder' (pV Aa.out) (Kd.N_base ho16) hb)
 replace Ab := Am (Kd.V_elder' (pV Ab.out) (Kd.N_base ho16) hb)
 have Aj := Am (Kd.N_lower ho16 (below_size (pB HB.out)))
 replace HB := Am (below_step (pB HB.out) hb)
 clear hb ho16
 refine hK.out _ _ trivial (fun hHeld => ?_)
 clear hK K
 refine norm_ (a' := ?_) ?_ ?_
 rotate_left
 ·show Act.put _ (some 13) _ = _
  simp only [Act.put, List.setIfInBounds_toArray, List.set_cons_zero, List.set_cons_succ, i64_w, i32_w]
  rfl
 refine onei 4 17 12 511 HT_ (fun K hK => ?_)
 refine Kd.N_append_rows_step k35 (w0 := w) w.heap.size (by rfl) (.tmp 13) (.tmp 16) 30 35 (.agg #[(.int .i64 0), (.slice none 0 0)]) 32 rfl Try.underlying30 info35 rfl (by decide) (by omega) v110 y109 y112 _ _ _ (fun k_ => (P0_ k_ ∨ w.heap.size ≤ k_)) (fun k_ => ((fun k_ => (P0_ k_ ∨ w.heap.size ≤ k_))) k_ ∧ some k_ ≠ (v110 : Value).ownBlock) rfl rfl ?aO ?aR (fun _ hk => hk) ?aF ?aB ?aS ?aL ?_
 (case aR => exact (by skip; exact Kd.V_F (Kd.V_mono (ok' := (fun k_ => ((fun k_ => (P0_ k_ ∨ w.heap.size ≤ k_))) k_ ∧ some k_ ≠ (v110 : Value).ownBlock)) (Aa.out) (fun k_ hk => ⟨hk.1, hk.2⟩))))
 (case aB => exact (pB HB.out))
 (case aF => exact (fun k_ hk => (.inr (Nat.le_trans (below_size (pB HB.out)) hk))))
 (case aO => exact (pN Aj.out))
 (case aS => exact (below_size (pB HB.out)))
 (case aL => have := LMc7.out; omega)
 intro v118 w17 ho hb hg hat
 rw [← Ny117.out] at ho
 replace Ad := Am (Kd.V_afterv (ok := (fun k_ => (P0_ k_ ∨ w.heap.size ≤ k_))) (pV Ad.out) hg hat)
 replace Aa := Am (Kd.V_afterv (ok := (fun k_ => (P0_ k_ ∨ w.heap.size ≤ k_))) (pV Aa.out) hg hat)
 replace Ab := Am (Kd.V_afterv (ok := (fun k_ => (P0_ k_ ∨ w.heap.size ≤ k_))) (pV Ab.out) hg hat)
 replace HB := Am (hb)
 have Ak := Am (ho)
 clear Aj
 clear ho hb hg hat
 refine hK.out _ _ trivial (fun hHeld => ?_)
 clear hK K
 refine norm_ (a' := ?_) ?_ ?_
 rotate_left
 ·show Act.put _ (some 17) _ = _
  simp only [Act.put, List.setIfInBounds_toArray, List.set_cons_zero, List.set_cons_succ, i64_w, i32_w]
  rfl
 refine onei 9 22 12 1023 HT_ (fun K hK => ?_)
 refine Kd.N_append_rows_step k35 (w0 := w) w.heap.size (by rfl) (.tmp 17) (.tmp 21) 30 35 (.agg #[(.int .i64 0), (.slice none 0 0)]) 32 rfl Try.underlying30 info35 rfl (by decide) (by omega) v118 y117 y120 _ _ _ (fun k_ => (P0_ k_ ∨ w.heap.size ≤ k_)) (fun k_ => ((fun k_ => (P0_ k_ ∨ w.heap.size ≤ k_))) k_ ∧ some k_ ≠ (v118 : Value).ownBlock) rfl rfl ?aO ?aR (fun _ hk => hk) ?aF ?aB ?aS ?aL ?_
 (case aR => exact (by skip; exact Kd.V_F (Kd.V_mono (ok' := (fun k_ => ((fun k_ => (P0_ k_ ∨ w.heap.size ≤ k_))) k_ ∧ some k_ ≠ (v118 : Value).ownBlock)) (Ab.out) (fun k_ hk => ⟨hk.1, hk.2⟩))))
 (case aB => exact (pB HB.out))
 (case aF => exact (fun k_ hk => (.inr (Nat.le_trans (below_size (pB HB.out)) hk))))
 (case aO => exact (pN Ak.out))
 (case aS => exact (below_size (pB HB.out)))
 (case aL => have := LMc11.out; omega)
 intro v126 w18 ho hb hg hat
 rw [← Ny125.out] at ho
 replace Ad := Am (Kd.V_afterv (ok := (fun k_ => (P0_ k_ ∨ w.heap.size ≤ k_))) (pV Ad.out) hg hat)
 replace Aa := Am (Kd.V_afterv (ok := (fun k_ => (P0_ k_ ∨ w.heap.size ≤ k_))) (pV Aa.out) hg hat)
 replace Ab := Am (Kd.V_afterv (ok := (fun k_ => (P0_ k_ ∨ w.heap.size ≤ k_))) (pV Ab.out) hg hat)
 replace HB := Am (hb)
 have As := Am (ho)
 clear Ak
 clear ho hb hg hat
 refine hK.out _ _ trivial (fun hHeld => ?_)
 clear hK K
 refine norm_ (a' := ?_) ?_ ?_
 rotate_left
 ·show Act.put _ (some 22) _ = _
  simp only [Act.put, List.setIfInBounds_toArray, List.set_cons_zero, List.set_cons_succ, i64_w, i32_w]
  rfl
 refine pui 10 4 12 2047 HT_ ?_
 refine pui 11 5 12 4095 HT_ ?_
 refine done_ (done_of HT_.out (by kernel_rfl)) ?_
 try go_wp2
 go_ret2
 exact ⟨_, by first | rfl | (simp [errW_none, errW_some] <;> rfl) | (simp only [← hji8]; first | rfl | (simp [errW_none, errW_some] <;> rfl)) | (simp [*, errW_none, errW_some] <;> rfl), Kd.N_V (pN As.out), pB HB.out⟩
end
section
section
variable {P : Program} {ops : Array Oper} {rest : List Oper} {o : Oper} {a : Act} {Q : Exit → Act → World → Prop} {Kc : Act → World → Prop} {α : Type}
/-- append(l[:k:k], x): what is cut has no room behind, so that a new row is made; l is only read. -/
theorem tight_run (d : Kd α) {W : World} (base : Nat) (t ty e : TypeId) (z : Value) (bytes : Nat)
  (ht : P.underlying t = some (.slice e)) (hinfo : (P.info? e).map (fun i => (i.zero, i.size, i.bytes)) = some (some z, d.sz, bytes)) (hz : z.cells.size = d.sz) (hs0 : 0 < d.sz) (hb0 : 0 < bytes)
  (ad : Addr) (xs : List α) (p : α) (cs : List Value) (okv okp ok : Nat → Prop) (HV : Kd.F d W okv (some ad) xs.length xs) (hp : Kd.FK d W okp p cs)
  (hokv : ∀ k, okv k → ok k) (hokp : ∀ k, okp k → ok k) (hfresh : ∀ k, W.heap.size ≤ k → ok k) (hbase : base ≤ W.heap.size) (hl : (xs.length + 1) * bytes ≤ 140737488355328) :
  ∃ v1 w1, (Builtin.append_ #[t, t] ty #[.slice (some ad) xs.length xs.length, .slice (some ⟨W.heap.size, 0, none⟩) 1 1]).run P (W.alloc (.cells cs.toArray e)) = .ok v1 w1 ∧ Kd.N d e w1 base ok v1 (xs ++ [p]) ∧ W.grownBy w1 none ∧ (∃ b, v1.ownBlock = some b ∧ W.heap.size ≤ b) ∧ (W.alloc (.cells cs.toArray e)).grownBy w1 none := by
 obtain ⟨i0, hi, hzz⟩ := Option.map_eq_some_iff.1 hinfo
 simp only [Prod.mk.injEq] at hzz
 obtain ⟨hz0, hz1, hz2⟩ := hzz
 obtain ⟨news, hnl, hnr, hnf⟩ := Kd.reads_raw (Kd.F_rows HV) (fun y c hk => ⟨d.K_len (Kd.FK_now hk), d.K_one (Kd.FK_now hk)⟩)
 obtain ⟨inner, hreps, hcell⟩ := ReadsRow.inner_ hnr
 have hil : inner.length = xs.length * d.sz := by rw [← hnl]; exact hreps.1
 have hcl := d.K_len (Kd.FK_now hp)
 have hcells : ∀ j u, inner[j]? = some u → (W.alloc (.cells cs.toArray e)).cell? (ad.add j) = some u := fun j u hj => by
  have h1 := hcell j u hj
  exact (World.cell?_alloc_lt _ _ _ (World.block_lt_of_cell? W _ h1)).trans h1
 have h63 : xs.length + 1 ≤ 140737488355328 := by
  have := Nat.le_mul_of_pos_right (xs.length + 1) hb0
  omega
 obtain ⟨v1, w1, hrun, hown1, hg1⟩ := run_append_arg_grows (P := P) (w := W.alloc (.cells cs.toArray e)) t ty e i0 z d.sz bytes ht hi hz0 hz1 hz2 hz hs0 ad xs.length xs.length inner hil hcells ⟨W.heap.size, 0, none⟩ 1 1 cs (by rw [hcl]; simp) (by simpa using World.news_of_block (cs := cs.toArray) (t := e) (fr := (0, 0)) (heap_alloc_new W (.cells cs.toArray e))) (by omega) (by simp only [maxLen]; omega) hl
 have hg : W.grownBy w1 none := World.grownBy.trans (World.grownBy_alloc W _ _) hg1
 have hb : ∃ b, v1.ownBlock = some b ∧ W.heap.size ≤ b := by
  rcases hown1.2 with ⟨rfl, hn⟩ | ⟨g, cap, cur, rfl, hgb, _⟩
  ·exact absurd hn (by omega)
  ·refine ⟨g, rfl, ?_⟩
   have hsz : (W.alloc (.cells cs.toArray e)).heap.size = W.heap.size + 1 := by simp
   omega
 have hR : (Kd.raw d.sz).R e w1 base (fun _ => True) v1 ([] ++ (news ++ [cs])) := by
  refine ⟨fun _ _ => trivial, inner ++ cs, ?_, ?_⟩
  ·have h1 : ([] ++ (news ++ [cs])).length = xs.length + 1 := by simp [hnl]
   rw [h1]
   exact own_weaken hown1 (by simp; omega)
  ·exact (hreps.imp_ (fun y ys hy => hy)).snoc (Kd.FK_raw hp) hcl
 refine ⟨v1, w1, hrun, ?_, hg, hb, hg1⟩
 refine Kd.N_appended (d := d) (W := W) (v := .slice none 0 0) (xs := []) (ys := xs ++ [p]) (rows := []) (news := news ++ [cs]) (okp := fun k => okv k ∨ okp k) (fun k hk => by simp [Value.ownBlock] at hk) rfl (fun j x c hx => by simp at hx) (by simp [hnl]) (fun j x c hx hc => ?_) (fun k hk => ⟨hk.elim (hokv k) (hokp k), by simp [Value.ownBlock]⟩) hfresh hR (by simpa [Value.ownBlock] using hg) (.inr hb)
 rcases Nat.lt_or_ge j xs.length with hlt | hge
 ·rw [List.getElem?_append_left hlt] at hx
  rw [List.getElem?_append_left (by omega)] at hc
  exact Kd.FK_mono (hnf j x c hx hc) (fun k hk => .inl hk)
 ·rw [List.getElem?_append_right hge] at hx
  rw [List.getElem?_append_right (by omega), hnl] at hc
  generalize j - xs.length = i at hx hc
  rcases i with _ | i
  ·simp only [List.getElem?_cons_zero, Option.some.injEq] at hx hc
   rw [← hx, ← hc]
   exact Kd.FK_mono hp (fun k hk => .inr hk)
  ·simp at hx
theorem tight_step (d : Kd α) {w0 W : World} (base : Nat) (hw : Region.wanted o (yielded ops a.tmps) = true) (s x : Operand) (t e : TypeId) (z : Value) (bytes : Nat)
  (ho : o.op = .call { callee := .builtin .append, args := #[s, x], argTypes := #[t, t] })
  (ht : P.underlying t = some (.slice e)) (hinfo : (P.info? e).map (fun i => (i.zero, i.size, i.bytes)) = some (some z, d.sz, bytes)) (hz : z.cells.size = d.sz) (hs0 : 0 < d.sz) (hb0 : 0 < bytes)
  (A : Option Addr) (n : Nat) (xs : List α) (p : α) (cs : List Value) (okv okp ok : Nat → Prop) (hn : n = xs.length) (hs : a.eval s = .slice A n n) (hx : a.eval x = .slice (some ⟨W.heap.size, 0, none⟩) 1 1) (HV : Kd.F d W okv A xs.length xs) (hp : Kd.FK d W okp p cs)
  (hokv : ∀ k, okv k → ok k) (hokp : ∀ k, okp k → ok k) (hfresh : ∀ k, W.heap.size ≤ k → ok k) (HB : Below base w0 W) (hbase : base ≤ W.heap.size) (hl : (xs.length + 1) * bytes ≤ 140737488355328)
  (h : ∀ v1 w1, Kd.N d e w1 base ok v1 (xs ++ [p]) → Below base w0 w1 → W.grownBy w1 none → (∀ b, v1.ownBlock = some b → W.heap.size ≤ b) → Kc (a.put o.dst v1) w1) :
  if Region.wanted o (yielded ops a.tmps) = true then Oper.wp P o a (W.alloc (.cells cs.toArray e)) Kc Q else Kc (a.put o.dst undef) (W.alloc (.cells cs.toArray e)) := by
 subst hn
 cases A with
 | none =>
  have hxs : xs = [] := by
   rcases Nat.eq_zero_or_pos xs.length with h0 | h0
   ·exact List.eq_nil_of_length_eq_zero h0
   ·obtain ⟨ad, h, _⟩ := (Kd.F_now HV).2.2 h0
    cases h
  subst hxs
  refine Kd.N_append_step d base hw s x t e z bytes ho ht hinfo hz hs0 hb0 (.slice none 0 0) [] p cs ok okp hs hx hp (fun k hk => ⟨hokp k hk, by simp [Value.ownBlock]⟩) hfresh (Kd.N_nil _ _ _ _ _) HB hbase hl ?_
  intro v1 w1 h1 h2 h3 h4
  exact h v1 w1 h1 h2 (by simpa [Value.ownBlock] using h3) (fun b hb => by
   rcases h4 with h4 | ⟨b', h4, h5⟩
   ·rw [h4] at hb; simp [Value.ownBlock] at hb
   ·rw [h4] at hb; cases hb; exact h5)
 | some ad =>
  obtain ⟨v1, w1, hrun, hN, hg, hb, hg1⟩ := tight_run d base t o.type e z bytes ht hinfo hz hs0 hb0 ad xs p cs okv okp ok HV hp hokv hokp hfresh hbase hl
  rw [if_pos hw]
  unfold Oper.wp execOp
  simp only [ho, resolve, invoke, builtin, Sem.run_bind, Sem.run_pure, Result.andThen_ok, List.map_toArray, List.map_cons, List.map_nil, hs, hx, hrun]
  exact h v1 w1 hN ((HB.alloc hbase _).grown hg1 (by simp; omega) (fun k hk => by cases hk)) hg (fun b' hb' => by
   obtain ⟨b, h1, h2⟩ := hb
   rw [h1] at hb'
   cases hb'
   exact h2)
end
theorem cut_tight {P : Program} (t e : TypeId) (kh km : IntKind) {i : TypeInfo} (ht : P.underlying t = some (.slice e)) (hi : P.info? e = some i) (A : Option Addr) (n c : Nat) (j : Int) (h0 : 0 ≤ j) (hm : j ≤ n) (hc : n ≤ c) :
  ∀ W : World, (Instr.slice t (.slice A n c) none (some (.int kh j)) (some (.int km j))).run P W = .ok (.slice A j.toNat j.toNat) W := by
 intro W
 have hel : P.elem t = e := by simp [Program.elem, ht]
 have hu : P.underlying t = some (.slice (P.elem t)) := by rw [hel]; exact ht
 have ha : (A.map fun x => x.add 0) = A := by cases A <;> simp [Addr.add]
 rw [run_slice_hm W t A n c hu kh km j j h0 (Int.le_refl _) (by omega), hel]
 simp [sizeOf, typeInfo, hi, sliced, Result.andThen, ha]
theorem box_behind {w w1 : World} {xs : Array Value} {s : TypeId} (h : Below (w.alloc (.cells xs s)).heap.size (w.alloc (.cells xs s)) w1) : w1.heap[w.heap.size]? = some (.cells xs s (0, 0)) := by
 have hs : (w.alloc (.cells xs s)).heap.size = w.heap.size + 1 := by simp
 exact (h.block _ (by rw [hs]; omega)).trans (MapKept.heap_alloc w _).1
/-- The place of a segment's move among moves by rising segments. -/
def posS (l : List S35) (seg : Int) : Nat → Nat
 | 0 => 0
 | j + 1 => if seg < (rd_T35 l (j : Int)).f0 then posS l seg j else j + 1
theorem posS_le (l : List S35) (seg : Int) : ∀ j, posS l seg j ≤ j
 | 0 => Nat.le_refl _
 | j + 1 => by
  simp only [posS]
  split
  ·exact Nat.le_succ_of_le (posS_le l seg j)
  ·exact Nat.le_refl _
def garnerref21_Set.f (k : Nat) (l0 : List S35) (a : S35) : Option (List S35) :=
 (garnerref21_Drop.f k l0 a.f0).bind fun (l, _) => if l.length + 2 < 4398046511104 then some ((l.take (posS l a.f0 l.length) ++ [a]) ++ l.drop (posS l a.f0 l.length)) else none
theorem garnerref21_Set.mono : ∀ l a k, LeO (garnerref21_Set.f k l a) (garnerref21_Set.f (k + 1) l a) := fun l a k => LeO.bind (garnerref21_Drop.mono _ _ _) (fun ⟨_, _⟩ => LeO.refl _)
def garnerref21_Set.T6 : Bool × List (List Nat × List Nat) := (true,
 [([], []), ([], []), ([], []), ([0, 1, 2], [0, 1, 2]), ([], []), ([4], [4]), ([3, 5], [3, 5]), ([], []),
  ([6, 7, 6], [6, 7]), ([8, 8, 0, 1, 2, 3, 4, 5, 6, 7, 8], [8])])
def garnerref21_Set.B6 : List Nat := [0, 0, 0, 7, 0, 16, 63, 0, 255, 511]
theorem garnerref21_Set.tab6 : rtab .any (opsOf Try.f18 6) = garnerref21_Set.T6 := by kernel_rfl
theorem garnerref21_Set.bits6 : waitsOk garnerref21_Set.T6.2 garnerref21_Set.B6 = true := by kernel_rfl
theorem cells2 {w : World} {k : Nat} {v0 v1 : Value} {E : TypeId} (h : w.heap[k]? = some (.cells #[v0, v1] E (0, 0))) :
  w.cell? ⟨k, 0, none⟩ = some v0 ∧ w.cell? ⟨k, 1, none⟩ = some v1 := by
 refine ⟨?_, ?_⟩ <;> simp [World.cell?, h]
set_option maxHeartbeats 8000000 in
set_option maxRecDepth 100000 in
theorem garnerref21_Set.calls (k : Nat) (P0_ : Nat → Prop) (A0 : Option Addr) (c0 : Nat) (l0 : List S35) (a1_0 : Int) (A1 : Option Addr) (c1 : Nat) (l1 : List S37) (r : List S35) (w : World)
  (hs0 : Kd.V k35 35 w w.heap.size P0_ (.slice A0 l0.length c0) l0) (hs1 : Kd.V k37 37 w w.heap.size P0_ (.slice A1 l1.length c1) l1) (h : garnerref21_Set.f k l0 ⟨a1_0, l1⟩ = some r) :
  Calls Try.prog 18 #[.slice A0 l0.length c0, .agg #[.int .i64 a1_0, .slice A1 l1.length c1]] w fun e w' => ∃ v0_ : Value, e = .returned v0_ ∧ Kd.V k35 35 w' w.heap.size (fun k_ => P0_ k_ ∨ w.heap.size ≤ k_) v0_ r ∧ Below w.heap.size w w' := by
 have hu35 := Try.underlying35
 have hu30 := Try.underlying30
 replace h := Option.bind_eq_some_iff.mp h
 obtain ⟨⟨l, td⟩, hd, h⟩ := h
 simp only at hd h
 by_cases hlim : l.length + 2 < 4398046511104
 rotate_left
 ·rw [if_neg hlim] at h; cases h
 rw [if_pos hlim] at h
 have HR := Am (Option.some.inj h)
 have HD := Am hd
 have LM := Am hlim
 have V0 := Am hs0
 have V1 := Am (Kd.V_mono (ok' := fun k_ => P0_ k_ ∨ w.heap.size ≤ k_) hs1 (fun _ hk => .inl hk))
 have HB := Am (Below.refl w.heap.size w)
 clear hd hlim hs0 hs1 h
 go_enter Try.func18, Try.ntmps18
 go_wp2_with (go_at_call 16; refine (garnerref21_Drop.calls k (fun k_ => P0_ k_) A0 c0 l0 a1_0 l td _ (show Kd.V k35 35 _ _ _ _ _ from Kd.V_alloc V0.out _) HD.out).mono ?_; rintro e w1 ⟨v0, rfl, hv, hb⟩; obtain ⟨A, c, rfl⟩ := Kd.V_slice hv; have BK := Am (box_behind hb); have V2 := Am (show Kd.V k35 35 w1 w.heap.size (fun k_ => P0_ k_ ∨ w.heap.size ≤ k_) (.slice A l.length c) l from Kd.V_mono hv (fun k_ hk => hk.imp id (fun h => by simp at h; omega))); replace V1 := Am (Kd.V_below (Kd.V_alloc V1.out _) hb); replace HB := Am (below_step (pB HB.out) hb); clear hv hb)
 go_loopw [5] (fun v5 wr => ∃ j : Nat, j ≤ l.length ∧ v5 = .int .i64 j ∧ Aside0 (posS l a1_0 j = posS l a1_0 l.length) ∧ Aside0 (Kd.V k35 35 wr w.heap.size (fun k_ => P0_ k_ ∨ w.heap.size ≤ k_) (.slice A l.length c) l) ∧ Aside0 (Kd.V k37 37 wr w.heap.size (fun k_ => P0_ k_ ∨ w.heap.size ≤ k_) (.slice A1 l1.length c1) l1) ∧ Aside0 (wr.heap[w.heap.size]? = some (.cells #[.int .i64 a1_0, .slice A1 l1.length c1] 35 (0, 0))) ∧ Aside0 (Below w.heap.size w wr)) (fun v5 _ => (intOf v5).toNat)
 case atStart => exact ⟨l.length, Nat.le_refl _, rfl, ⟨rfl⟩, V2, V1, BK, HB⟩
 case round =>
  clear V2 V1 BK HB
  obtain ⟨j, hj, rfl, HP, V2, V1, BK, HB⟩ := hrel
  obtain ⟨e0, e1⟩ := cells2 BK.out
  have hn : l.length ≤ 9223372036854775807 := by have := LM.out; omega
  obtain ⟨J, hJ⟩ : ∃ J : Int, J = (j : Int) := ⟨_, rfl⟩
  rw [← hJ]
  by_cases hx : 0 < j ∧ a1_0 < (rd_T35 l ((j - 1 : Nat) : Int)).f0
  ·obtain ⟨j', rfl⟩ : ∃ j', j = j' + 1 := ⟨j - 1, by omega⟩
   obtain ⟨_, hlt⟩ := hx
   simp only [Nat.add_sub_cancel] at hlt
   obtain ⟨ad, A', c', eA, h0, h1, _, _⟩ := at_T35 (Kd.V_reads' V2.out).2.2 (j' : Int) (by omega) (by omega)
   subst eA
   simp only [Int.toNat_natCast] at h0
   have hJ0 : 0 < J := by omega
   have hJw : IntKind.i64.wrap (J - 1) = (j' : Int) := by
    have h2 := IntWalk.i64_in (J - 1) (by omega)
    omega
   have hjl : (j' : Int) < (l.length : Int) := by omega
   have hj0 : (0 : Int) ≤ (j' : Int) := by omega
   have HJ := Am hJ
   obtain ⟨y, hy⟩ : ∃ y, y = (rd_T35 l (j' : Int)).f0 := ⟨_, rfl⟩
   have HY := Am hy
   rw [← hy] at h0 hlt
   clear hJ hy h1
   go_wp2
   go_quiet (fail)
   go_wp2
   go_roundw
   case rel =>
    refine ⟨j', by omega, rfl, ⟨?_⟩, ⟨Kd.V_drewN V2.out nq⟩, ⟨Kd.V_drewN V1.out nq⟩, ⟨BK.out⟩, ⟨pB HB.out⟩⟩
    rw [← HP.out, posS, ← HY.out, if_pos hlt]
   case measure =>
    have := HJ.out
    simp [intOf]
    omega
  ·obtain ⟨xx, hxx⟩ : ∃ xx, xx = posS l a1_0 l.length := ⟨_, rfl⟩
   have hjx : J = (xx : Int) := by
    rw [hJ, hxx, ← HP.out]
    cases j with
    | zero => rfl
    | succ j' =>
     rw [posS, if_neg (fun h => hx ⟨Nat.succ_pos _, by simpa using h⟩)]
   have hxl : xx ≤ l.length := by omega
   have HXX := Am hxx
   have HJX := Am hjx
   clear hxx
   rcases Nat.eq_zero_or_pos j with hj0 | hj0
   focus
    have hJd : decide (0 < J) = false := decide_eq_false (by omega)
    have HJ := Am hJ
    clear hJ hjx hx
    go_wp2
    go_quiet (fail)
    clear hJd e0 e1
   rotate_left
   focus
    obtain ⟨j', rfl⟩ : ∃ j', j = j' + 1 := ⟨j - 1, by omega⟩
    have hlt : ¬ a1_0 < (rd_T35 l (j' : Int)).f0 := fun h => hx ⟨hj0, by simpa using h⟩
    obtain ⟨ad, A', c', eA, h0, h1, _, _⟩ := at_T35 (Kd.V_reads' V2.out).2.2 (j' : Int) (by omega) (by omega)
    subst eA
    simp only [Int.toNat_natCast] at h0
    have hJ0 : 0 < J := by omega
    have hJw : IntKind.i64.wrap (J - 1) = (j' : Int) := by
     have h2 := IntWalk.i64_in (J - 1) (by omega)
     omega
    have hjl : (j' : Int) < (l.length : Int) := by omega
    have hj0 : (0 : Int) ≤ (j' : Int) := by omega
    have HJ := Am hJ
    obtain ⟨y, hy⟩ : ∃ y, y = (rd_T35 l (j' : Int)).f0 := ⟨_, rfl⟩
    have HY := Am hy
    rw [← hy] at h0 hlt
    have hltd : decide (a1_0 < y) = false := decide_eq_false hlt
    clear hJ hjx hx hy h1
    go_wp2
    go_quiet (fail)
    obtain ⟨A, hA⟩ : ∃ A, A = some ad := ⟨_, rfl⟩
    rw [← hA] at V2 ⊢
    clear hA h0 hJ0 hJw hjl hj0 hlt hltd e0 e1
   all_goals
    obtain ⟨w2, hw2⟩ : ∃ w2, w2 = wr.drewN nq := ⟨_, rfl⟩
    replace V2 : Aside0 (Kd.V k35 35 w2 w.heap.size (fun k_ => P0_ k_ ∨ w.heap.size ≤ k_) (.slice A l.length c) l) := ⟨by rw [hw2]; exact Kd.V_drewN V2.out nq⟩
    replace V1 : Aside0 (Kd.V k37 37 w2 w.heap.size (fun k_ => P0_ k_ ∨ w.heap.size ≤ k_) (.slice A1 l1.length c1) l1) := ⟨by rw [hw2]; exact Kd.V_drewN V1.out nq⟩
    replace BK : Aside0 (w2.heap[w.heap.size]? = some (.cells #[.int .i64 a1_0, .slice A1 l1.length c1] 35 (0, 0))) := ⟨by rw [hw2]; exact BK.out⟩
    replace HB : Aside0 (Below w.heap.size w w2) := ⟨by rw [hw2]; exact pB HB.out⟩
    rw [← hw2]
    clear hw2
    obtain ⟨i0, hi, _, Ai, _⟩ := info_parts info35
    have hcap : l.length ≤ c := (Kd.V_reads' V2.out).2.1
    have hF : Kd.F k35 _ _ A l.length l := (Kd.V_at (base := w.heap.size) V2.out).2.2
    have Ao := cut_from (P := Try.prog) 30 35 .i64 Try.underlying30 hi 2 Ai A l.length c J (by rw [HJX.out]; omega) (by rw [HJX.out]; omega)
    have Ag := cut_tight (P := Try.prog) 30 35 .i64 .i64 Try.underlying30 hi A l.length c J (by rw [HJX.out]; omega) (by rw [HJX.out]; omega) hcap
    have hJn : J.toNat = xx := by rw [HJX.out]; simp
    rw [hJn] at Ao Ag
    have Af := Kd.F_cut (m := xx) (c := c) hF hxl hcap
    have At := Kd.F_take (m := xx) hF hxl
    obtain ⟨rest, hrest⟩ : ∃ x, x = l.drop xx := ⟨_, rfl⟩
    obtain ⟨A14, hA14⟩ : ∃ AX_, AX_ = (if c = xx then A else A.map (·.add (xx * 2))) := ⟨_, rfl⟩
    obtain ⟨c14, hc14⟩ : ∃ cX_, cX_ = c - xx := ⟨_, rfl⟩
    have hrl : rest.length = l.length - xx := by rw [hrest, List.length_drop]
    rw [← hrest] at Af
    replace Af : Kd.F k35 w2 (fun k_ => P0_ k_ ∨ w.heap.size ≤ k_) A14 rest.length rest := by rw [hA14]; exact Af
    rw [← hrl, ← hA14, ← hc14] at Ao
    have Vd := Am (show Kd.V k35 35 w2 w.heap.size (fun k_ => P0_ k_ ∨ w.heap.size ≤ k_) (.slice A14 rest.length c14) rest from Kd.V_mk (by rw [hrl, hc14]; omega) Af)
    have htl : (l.take xx).length = xx := by rw [List.length_take]; omega
    have FT := Am At
    have HREST := Am hrest
    have HCAP := Am hcap
    have HTL := Am htl
    have HRL := Am hrl
    clear hrl Af At hF hi Ai hA14 hc14 hrest hcap htl hJn
    go_wp2_with (first | ((with_reducible refine gate_dst (N := 31) rfl ?_); refine Kd.N_lit k35 _ 35 ?hg (N' := 31) ?hd (xs := ([] : List S35)) (inner := []) (ok := fun k_ => P0_ k_ ∨ w.heap.size ≤ k_) (okp := fun k_ => P0_ k_ ∨ w.heap.size ≤ k_) ?hr ?hp (fun _ hk => hk) (Or.inr (below_size HB.out)) (Below.refl _ _) (Nat.le_refl _) (by simp) ?_; (case hd => rfl); (case hg => rfl); (case hr => first | (go_simp; done) | (go_simp; rfl)); (case hp => exact (Reps.none _ _)); intro v31 w3 ho hb hg_ hnew_; have hv31 := Am (Kd.N_base ho); have HS2 := Am (blk_lt BK.out); replace V2 := Am (Kd.V_elder' V2.out (Kd.N_base ho) hb); replace Vd := Am (Kd.V_elder' Vd.out (Kd.N_base ho) hb); replace V1 := Am (Kd.V_elder' V1.out (Kd.N_base ho) hb); replace BK := Am ((hb.block _ HS2.out).trans BK.out); have N31 := Am (Kd.N_lower ho (below_size HB.out)); replace HB := Am (below_step (pB HB.out) hb); clear hg_ hnew_ hb ho) | ((with_reducible refine gate_builtin (b := .append) (xs := #[.tmp 31, .tmp 34]) rfl ?_); at_builtin; refine Kd.N_append_rows k35 (w0 := w) w.heap.size rfl (.tmp 31) (.tmp 34) 30 35 (.agg #[.int .i64 0, .slice none 0 0]) 32 rfl Try.underlying30 info35 rfl (by decide) (by omega) v31 [] rest _ _ _ (fun k_ => P0_ k_ ∨ w.heap.size ≤ k_) (fun k_ => (P0_ k_ ∨ w.heap.size ≤ k_) ∧ some k_ ≠ (v31 : Value).ownBlock) rfl rfl ?aO ?aR (fun _ hk => hk) ?aF ?aB ?aS ?aL ?_; (case aO => exact N31.out); (case aR => exact Kd.V_F Vd.out); (case aF => exact fun k_ hk => .inr (Nat.le_trans (below_size HB.out) hk)); (case aB => exact HB.out); (case aS => exact below_size HB.out); (case aL => have := LM.out; have := HRL.out; simp only [List.length_nil]; omega); intro v35 w4 ho hb hg hat; replace V2 := Am (Kd.V_mono (Kd.V_afterv (ok := fun k_ => P0_ k_ ∨ w.heap.size ≤ k_) V2.out hg hat) (fun _ hk => hk.1)); replace V1 := Am (Kd.V_mono (Kd.V_afterv (ok := fun k_ => P0_ k_ ∨ w.heap.size ≤ k_) V1.out hg hat) (fun _ hk => hk.1)); replace BK := Am ((hg.block _ (blk_lt BK.out) (fun e => by have h1 := hv31.out _ e.symm; have h2 := HS2.out; omega)).trans BK.out); have N35 := Am ho; replace HB := Am hb; clear ho hb hg hat))
    rw [List.nil_append] at N35
    obtain ⟨A35, c35, rfl⟩ := Kd.V_slice (Kd.N_V (base' := 0) N35.out)
    clear N31 hv31 HS2 Vd
    have FT := Am (Kd.F_take (m := xx) (Kd.V_at (base := w.heap.size) V2.out).2.2 hxl)
    refine start_ (n := 10) (S := fun w' => cG w' w.heap.size 0 (.int .i64 a1_0) ∧ cG w' w.heap.size 1 (.slice A1 l1.length c1)) (ds := []) #[false, false, false, false, false, false, false, false, false, false] (by kernel_rfl) rfl rfl (cells2 (kDa BK).out) (fun hHeld => ?_)
    refine with_tabW garnerref21_Set.tab6 garnerref21_Set.bits6 (fun HT_ HW_ => ?_)
    replace V1 := dVa V1
    replace HB := bDa HB
    replace BK := kDa BK
    replace N35 := dNa N35
    replace FT : Aside0 (Kd.F k35 w4.drew (fun k_ => P0_ k_ ∨ w.heap.size ≤ k_) A (l.take xx).length (l.take xx)) := ⟨Kd.F_drew FT.out⟩
    clear V2
    generalize w4.drew = w5 at V1 HB BK N35 FT hHeld ⊢
    refine pui 0 36 10 1 HT_ ?_
    refine pui 1 37 10 3 HT_ ?_
    refine pui 2 38 10 7 HT_ ?_
    refine pui 3 39 10 15 HT_ ?_
    refine pui 7 43 10 143 HT_ ?_
    refine tki 4 40 10 159 HT_ HW_ hHeld ?_
    refine onei 5 41 10 191 HT_ (fun K hK => ?_)
    refine value_ (w1 := ?_) (v := ?_) (by rfl) rfl ?_ ?_
    rotate_left 2
    ·go_simp
     constructor
     ·rfl
     ·rfl
    refine hK.out _ _ (cells2 (blk_alloc BK.out _)) (fun hHeld => ?_)
    clear hK K
    refine norm_ (a' := ?_) ?_ ?_
    rotate_left
    ·show Act.put _ (some 41) _ = _
     simp only [Act.put, List.setIfInBounds_toArray, List.set_cons_zero, List.set_cons_succ, i64_w, i32_w]
     rfl
    refine onei 6 42 10 255 HT_ (fun K hK => ?_)
    refine tight_step k35 (w0 := w) w.heap.size (by rfl) (.tmp 39) (.tmp 41) 30 35 (.agg #[.int .i64 0, .slice none 0 0]) 32 rfl Try.underlying30 info35 rfl (by decide) (by omega) A xx (l.take xx) (⟨a1_0, l1⟩ : S35) [.int .i64 a1_0, .slice A1 l1.length c1] (fun k_ => P0_ k_ ∨ w.heap.size ≤ k_) (fun k_ => P0_ k_ ∨ w.heap.size ≤ k_) (fun k_ => P0_ k_ ∨ w.heap.size ≤ k_) HTL.out.symm rfl rfl FT.out (k35_mkF _ _ (⟨a1_0, l1⟩ : S35) (Kd.V_reads' V1.out).2.1 (Kd.V_F (Kd.V_mono V1.out ?aP))) (fun _ hk => hk) (fun _ hk => hk) ?aF ?aB ?aS ?aL ?_
    (case aP => exact fun _ hk => by first | exact hk | exact hk.1)
    (case aF => exact fun k_ hk => .inr (Nat.le_trans (below_size HB.out) hk))
    (case aB => exact HB.out)
    (case aS => exact below_size HB.out)
    (case aL => have := LM.out; have := HTL.out; omega)
    intro v42 w6 hN hb hg hat
    have hbw : Below w5.heap.size w5 w6 := (Below.refl _ _).grown hg (Nat.le_refl _) (fun k hk => by cases hk)
    replace N35 := Am (Kd.N_elder' N35.out hat hbw)
    have HS5 := Am (blk_lt BK.out)
    have HV42 := Am hat
    replace BK := Am ((hbw.block _ (blk_lt BK.out)).trans BK.out)
    have N42 := Am hN
    replace HB := Am hb
    clear hN hb hg hat hbw FT V1
    refine hK.out _ _ (cells2 BK.out) (fun hHeld => ?_)
    clear hK K
    refine norm_ (a' := ?_) ?_ ?_
    rotate_left
    ·show Act.put _ (some 42) _ = _
     simp only [Act.put, List.setIfInBounds_toArray, List.set_cons_zero, List.set_cons_succ, i64_w, i32_w]
     rfl
    refine onei 8 44 10 511 HT_ (fun K hK => ?_)
    refine Kd.N_append_rows_step k35 (w0 := w) w.heap.size (by rfl) (.tmp 42) (.tmp 43) 30 35 (.agg #[(.int .i64 0), (.slice none 0 0)]) 32 rfl Try.underlying30 info35 rfl (by decide) (by omega) v42 (l.take xx ++ [(⟨a1_0, l1⟩ : S35)]) rest _ _ _ (fun k_ => P0_ k_ ∨ w.heap.size ≤ k_) (fun k_ => (P0_ k_ ∨ w.heap.size ≤ k_) ∧ some k_ ≠ (v42 : Value).ownBlock) rfl rfl N42.out (Kd.V_F (Kd.N_V (base' := 0) N35.out)) (fun _ hk => hk) ?aF ?aB ?aS ?aL ?_
    (case aF => exact fun k_ hk => .inr (Nat.le_trans (below_size HB.out) hk))
    (case aB => exact HB.out)
    (case aS => exact below_size HB.out)
    (case aL => have := LM.out; have := HTL.out; rw [List.length_append, HTL.out, HRL.out]; simp only [List.length_cons, List.length_nil]; omega)
    intro v44 w7 hN hb hg hat
    replace BK := Am ((hg.block _ (blk_lt BK.out) (fun e => by have h1 := HV42.out _ e.symm; have h2 := HS5.out; omega)).trans BK.out)
    have N44 := Am hN
    replace HB := Am hb
    clear hN hb hg hat N42 N35
    refine hK.out _ _ (cells2 BK.out) (fun hHeld => ?_)
    clear hK K
    refine norm_ (a' := ?_) ?_ ?_
    rotate_left
    ·show Act.put _ (some 44) _ = _
     simp only [Act.put, List.setIfInBounds_toArray, List.set_cons_zero, List.set_cons_succ, i64_w, i32_w]
     rfl
    refine pui 9 4 10 1023 HT_ ?_
    refine done_ (done_of HT_.out (by kernel_rfl)) ?_
    try go_wp2
    go_ret
    refine ⟨_, rfl, ?_, HB.out⟩
    rw [← HR.out, ← HXX.out]
    rw [HREST.out] at N44
    exact Kd.N_V N44.out
end
end Go.Proofs.Ytklpoeaoojgljaa.PRelayDrops
