/- What the law reaches, as plain Lean functions, and that the machine's calls answer just that. -/
import Derived.Test.YtlcajceefhgalaaProg
import Derived.Below
import Derived.Deep.Draws
import Derived.Deep.AppendLies
import Derived.Maps.AppendAt
import Derived.OwnWalk
import Derived.Laws.BytesArg
import Derived.Laws.MakeOwn
import Derived.Laws.OwnMore
import Derived.Deep.OwnRows
import Derived.Tactics
import Derived.Lib.ConvBytes
import Derived.Laws.Slices
import Derived.WalkKit
import Derived.KernelRfl
import Derived.RowKit3
import Derived.Deep.LoopGhost
import Derived.Deep.QuietTactic
import Derived.BigQuiet
import Derived.WideLaws
import Derived.Deep.DeepCutAuto
import Derived.Deep.CutBlock
import Derived.Deep.RegionHeld3
import Derived.Laws.Rows
import Derived.Lib.AppendStr
import Derived.ArgAppend
import Derived.Laws.IdiomCopy
import Derived.OrdersHeld
import Derived.Laws.BitsLemmas
import Derived.RowKit
import Derived.Lib.Bytealg
import Derived.Laws.Externs
import Derived.WalkSpells
import Derived.Laws.CopyRow
import Derived.Lib.Overlaps
import Derived.Lib.AppendZeros
import Derived.Lib.AppendZerosOnto
import Derived.Deep.AppendSrc
import Derived.Deep.RegionLaw
import Derived.Shelf.Sort.Plain
import Derived.Shelf.Slices.In.SortNone
import Derived.Lib.SortBridge
import Derived.Test.YtlcajceefhgalaaZ0
namespace Go.Proofs.Ytlcajceefhgalaa.PNameAll
open Go.RowKit Go.Proofs.YtlcajceefhgalaaW.PrintWords Go.Proofs.YtlcajceefhgalaaW.PrintLast Go.Proofs.YtlcajceefhgalaaW.PrintMore
attribute [local go_sem] max2_int min2_int max_two min_two max_three min_three max_four min_four
set_option linter.unusedVariables false
set_option linter.unusedSimpArgs false
def errW : Option Int → Value
 | none => .nilIface
 | some c => .iface 0 (.int .i64 c)
theorem errW_none : errW none = .nilIface := rfl
theorem errW_some (c : Int) : errW (some c) = .iface 0 (.int .i64 c) := rfl
theorem pB {P Q : Prop} (h : P) (e : P → Q := by intro h_; repeat (first | (with_reducible first | exact h_ | apply below_alloc | apply pw_below_drewN | apply below_drew1) | exact h_)) : Q := e h
theorem pE {P P2 Q : Prop} (h : P) (h2 : P2) (e : P → P2 → Q := by intro h_ h2_; repeat (first | (with_reducible first | exact h_ | apply below_alloc | apply pw_below_drewN | apply below_drew1 | refine below_set ?_ h2_) | exact h_)) : Q := e h h2
theorem pR {P Q : Prop} (h : P) (e : P → Q := by intro h_; (with_reducible repeat (first | apply Kd.R_alloc | apply Kd.R_drewN | apply Kd.R_drew)); exact h_) : Q := e h
theorem pN {P Q : Prop} (h : P) (e : P → Q := by intro h_; (with_reducible repeat (first | apply Kd.N_alloc | apply Kd.N_drewN | apply Kd.N_drew)); exact h_) : Q := e h
theorem pV {P Q : Prop} (h : P) (e : P → Q := by intro h_; (with_reducible repeat (first | apply Kd.V_alloc | apply Kd.V_drewN | apply Kd.V_drew)); exact h_) : Q := e h
theorem pK {P Q : Prop} (h : P) (e : P → Q := by intro h_; (with_reducible repeat (first | refine blk_drewN ?_ _ | refine blk_drew ?_ | refine blk_alloc ?_ _)); exact h_) : Q := e h
theorem pC {P Q : Prop} (h : P) (e : P → Q := by intro h_; repeat (first | exact h_ | (with_reducible refine Kd.C_alloc ?_ _) | (with_reducible refine Kd.C_drewN ?_ _) | (with_reducible refine Kd.C_drew ?_))) : Q := e h
theorem pA {P Q : Prop} (h : P) (e : P → Q := by intro h_; first | (rw [add_block]; exact h_) | (show (Addr.add _ _).block ≠ _; rw [add_block]; exact h_) | exact h_) : Q := e h
theorem pS {Q : Prop} (h : Q := by first | (with_reducible assumption) | assumption) : Q := h
theorem pE2 {P P2 P3 Q : Prop} (h : P) (h2 : P2) (h3 : P3) (e : P → P2 → P3 → Q := by intro h_ h2_ h3_; repeat (first | (with_reducible first | exact h_ | apply below_alloc | apply pw_below_drewN | apply below_drew1 | refine below_set ?_ h2_ | refine below_set ?_ h3_) | exact h_)) : Q := e h h2 h3
theorem pE3 {P P2 P3 P4 Q : Prop} (h : P) (h2 : P2) (h3 : P3) (h4 : P4) (e : P → P2 → P3 → P4 → Q := by intro h_ h2_ h3_ h4_; repeat (first | (with_reducible first | exact h_ | apply below_alloc | apply pw_below_drewN | apply below_drew1 | refine below_set ?_ h2_ | refine below_set ?_ h3_ | refine below_set ?_ h4_) | exact h_)) : Q := e h h2 h3 h4
theorem pX {Q : Prop} (h : Q := by first | rfl | (simp [bne, errW_none, errW_some]; done) | (simp [errW_none, errW_some] <;> rfl) | (simp [*, errW_none, errW_some] <;> rfl)) : Q := h
theorem cU {w w1 : World} {a : Addr} {v : Value} (h : Below w.heap.size w w1) (hx : w.cell? a = some v) : w1.cell? a = some v := (h.cell (World.block_lt_of_cell? w _ hx)).trans hx
theorem cT {w w1 w2 : World} {a : Addr} {v : Value} (h : Below w.heap.size w w1) (hx : w.cell? a = some v) (e : w2.cell? a = w1.cell? a := by rfl) : w2.cell? a = some v := e.trans (cU h hx)
abbrev cA (w : World) (p : Addr) (k : Nat) (v : Value) : Prop := w.cell? ⟨p.block, p.off + k, none⟩ = some v
abbrev cG (w : World) (g k : Nat) (v : Value) : Prop := w.cell? ⟨g, k, none⟩ = some v
/-- Which operations are done: as many bits, out of a number. -/
def bv : Nat → Nat → List Bool
 | 0, _ => []
 | n + 1, m => (m % 2 == 1) :: bv n (m / 2)
def bw (n m : Nat) : Array Bool := ⟨bv n m⟩
theorem pu {P : Program} {ops : Array Oper} {Q : Exit → Act → World → Prop} {md : Region.Mode} {S : World → Prop} {ds : List Nat} {T : Bool × List (List Nat × List Nat)} (i : Nat) (N : Option Tmp) {oi : Oper} {v : Value} {fuel : Nat} {l : Array Bool} {a : Act} {w : World} (l' : Array Bool) (hT : rtab md ops = T) (hi : ops[i]? = some oi := by rfl) (hN : oi.dst = N := by rfl)
  (hc : anyT T l.toList l'.toList i = true := by kernel_rfl) (hQ : ∀ c a w, Q (.panic c) (a.put oi.dst v) w → Q (.panic c) a w := by exact fun _ _ _ h => h) (hy : Yields P ops oi v a := by exact Or.inl ⟨by rfl, by intro w'; go_simp; with_reducible rfl⟩) {a' : Act} (ha : a.put N v = a' := by simp only [Act.put, List.setIfInBounds_toArray, List.set_cons_zero, List.set_cons_succ, i64_w, i32_w]; rfl)
  (h : wpAnyLast P md ops Q S ds fuel l' a' w) : wpAnyLast P md ops Q S ds (fuel + 1) l a w := pure_ l' hi hN (any_of hT hc) hQ hy ha h
theorem tk {P : Program} {ops : Array Oper} {Q : Exit → Act → World → Prop} {md : Region.Mode} {S : World → Prop} {ds : List Nat} {T : Bool × List (List Nat × List Nat)} {B : List Nat} (i : Nat) (N : Option Tmp) {oi : Oper} {v : Value} {fuel : Nat} {l : Array Bool} {a : Act} {w : World} (l' : Array Bool) (hT : rtab md ops = T) (hB : waitsOk T.2 B = true) (hS : S w) (hi : ops[i]? = some oi := by rfl) (hN : oi.dst = N := by rfl)
  (hc : takeW T B ds l.toList l'.toList i = true := by kernel_rfl) (hQ : ∀ c a w, Q (.panic c) (a.put oi.dst v) w → Q (.panic c) a w := by exact fun _ _ _ h => h) (hy : YieldsIf P ops S oi v a := by exact Or.inl ⟨by rfl, by intro w' hs_; repeat (have h_ := And.left hs_; replace hs_ := And.right hs_); go_simp; with_reducible rfl⟩) {a' : Act} (ha : a.put N v = a' := by simp only [Act.put, List.setIfInBounds_toArray, List.set_cons_zero, List.set_cons_succ, i64_w, i32_w]; rfl)
  (h : wpAnyLast P md ops Q S ds fuel l' a' w) : wpAnyLast P md ops Q S ds (fuel + 1) l a w := take_ l' hi hN (take_ofW hT hB hc) hQ hy hS ha h
theorem pd {P : Program} {ops : Array Oper} {Q : Exit → Act → World → Prop} {md : Region.Mode} {S : World → Prop} {ds : List Nat} {T : Bool × List (List Nat × List Nat)} (i : Nat) (N : Option Tmp) {oi : Oper} {fuel : Nat} {l : Array Bool} {a : Act} {w : World} (l' : Array Bool) (hT : rtab md ops = T) (hi : ops[i]? = some oi := by rfl) (hN : oi.dst = N := by rfl)
  (hc : anyT T l.toList l'.toList i = true := by kernel_rfl) (hQ : ∀ c a w, Q (.panic c) (a.put oi.dst undef) w → Q (.panic c) a w := by exact fun _ _ _ h => h) (hy : Yields P ops oi undef a := by exact Or.inr ⟨by rfl, rfl⟩) {a' : Act} (ha : a.put N undef = a' := by simp only [Act.put, List.setIfInBounds_toArray, List.set_cons_zero, List.set_cons_succ, i64_w, i32_w]; rfl)
  (h : wpAnyLast P md ops Q S ds fuel l' a' w) : wpAnyLast P md ops Q S ds (fuel + 1) l a w := pure_ l' hi hN (any_of hT hc) hQ hy ha h
theorem pL {Q : Prop} (h : Q := by (try simp only [List.map_toArray, List.map_cons, List.map_nil]); first | done | rfl | (simp only [List.length_drop, List.length_take]; rfl)) : Q := h
theorem bp2 {w : World} {g : Nat} {t : TypeId} {c0 c1 v0 v1 : Value} (h : w.heap[g]? = some (.cells #[c0, c1] t (0, 0))) : ((w.setCell ⟨g, 0, none⟩ v0).setCell ⟨g, 1, none⟩ v1).heap[g]? = some (.cells #[v0, v1] t (0, 0)) := blk_put (cs' := #[v0, v1]) (blk_put (cs' := #[v0, c1]) (h) 0 v0 rfl) 1 v1 rfl
theorem bc2 {w : World} {g : Nat} {t : TypeId} {v0 v1 : Value} (h : w.heap[g]? = some (.cells #[v0, v1] t (0, 0))) : w.cell? ⟨g, 0, none⟩ = some v0 ∧ w.cell? ⟨g, 1, none⟩ = some v1 := ⟨(blk_cell h 0).trans rfl, (blk_cell h 1).trans rfl⟩
theorem bf2 {w : World} {g : Nat} {t : TypeId} {cs : Array Value} (h : w.heap[g]? = some (.cells cs t (0, 0))) : w.frozen? ⟨g, 0, none⟩ = false ∧ w.frozen? ⟨g, 1, none⟩ = false := ⟨blk_frozen h 0, blk_frozen h 1⟩
theorem kB {w0 w1 w2 : World} {g : Nat} {o : Obj} (h : w0.heap[g]? = some o) (hb : Below w1.heap.size w1 w2) (e : w0.heap[g]? = some o → w1.heap[g]? = some o := by intro h_; (with_reducible repeat (first | refine blk_drewN ?_ _ | refine blk_drew ?_ | refine blk_alloc ?_ _)); exact h_) : w2.heap[g]? = some o := blk_below (e h) hb
theorem kL {w0 w1 : World} {g : Nat} {o : Obj} (h : w0.heap[g]? = some o) (e : w0.heap[g]? = some o → w1.heap[g]? = some o := by intro h_; (with_reducible repeat (first | refine blk_drewN ?_ _ | refine blk_drew ?_ | refine blk_alloc ?_ _)); exact h_) : g < w1.heap.size := blk_lt (e h)
theorem kF {w0 w1 : World} {g : Nat} {o : Obj} (h : w0.heap[g]? = some o) (k : Nat) (hk : w1.heap.size ≤ k) (e : w0.heap[g]? = some o → w1.heap[g]? = some o := by intro h_; (with_reducible repeat (first | refine blk_drewN ?_ _ | refine blk_drew ?_ | refine blk_alloc ?_ _)); exact h_) : k ≠ g := Kd.freshB (e h) k hk
theorem kX0 {w0 : World} {g : Nat} {o : Obj} {Q : Prop} (h : w0.heap[g]? = some o) (e : w0.heap[g]? = some o → Q := by intro h_; (with_reducible repeat (first | exact h_ | apply blk_drewN | apply blk_drew | apply blk_alloc | apply bp2)); first | done | exact h_) : Q := e h
theorem kX1 {w0 : World} {g : Nat} {o : Obj} {Q : Prop} {N0 : Prop} (h : w0.heap[g]? = some o) (n0 : N0) (e : w0.heap[g]? = some o → N0 → Q := by intro h_ n0_; (with_reducible repeat (first | exact h_ | apply blk_drewN | apply blk_drew | apply blk_alloc | apply bp2 | apply blk_far (hp := n0_))); first | done | exact h_) : Q := e h n0
theorem cX1 {P Q : Prop} {N0 : Prop} (h : P) (n0 : N0) (e : P → N0 → Q := by intro h_ n0_; (repeat (first | (with_reducible exact h_) | refine (cell_far n0_ _).trans ?_)); first | done | exact h_) : Q := e h n0
theorem kX2 {w0 : World} {g : Nat} {o : Obj} {Q : Prop} {N0 : Prop} {N1 : Prop} (h : w0.heap[g]? = some o) (n0 : N0) (n1 : N1) (e : w0.heap[g]? = some o → N0 → N1 → Q := by intro h_ n0_ n1_; (with_reducible repeat (first | exact h_ | apply blk_drewN | apply blk_drew | apply blk_alloc | apply bp2 | apply blk_far (hp := n0_) | apply blk_far (hp := n1_))); first | done | exact h_) : Q := e h n0 n1
theorem cX2 {P Q : Prop} {N0 : Prop} {N1 : Prop} (h : P) (n0 : N0) (n1 : N1) (e : P → N0 → N1 → Q := by intro h_ n0_ n1_; (repeat (first | (with_reducible exact h_) | refine (cell_far n0_ _).trans ?_ | refine (cell_far n1_ _).trans ?_)); first | done | exact h_) : Q := e h n0 n1
theorem kX3 {w0 : World} {g : Nat} {o : Obj} {Q : Prop} {N0 : Prop} {N1 : Prop} {N2 : Prop} (h : w0.heap[g]? = some o) (n0 : N0) (n1 : N1) (n2 : N2) (e : w0.heap[g]? = some o → N0 → N1 → N2 → Q := by intro h_ n0_ n1_ n2_; (with_reducible repeat (first | exact h_ | apply blk_drewN | apply blk_drew | apply blk_alloc | apply bp2 | apply blk_far (hp := n0_) | apply blk_far (hp := n1_) | apply blk_far (hp := n2_))); first | done | exact h_) : Q := e h n0 n1 n2
theorem cX3 {P Q : Prop} {N0 : Prop} {N1 : Prop} {N2 : Prop} (h : P) (n0 : N0) (n1 : N1) (n2 : N2) (e : P → N0 → N1 → N2 → Q := by intro h_ n0_ n1_ n2_; (repeat (first | (with_reducible exact h_) | refine (cell_far n0_ _).trans ?_ | refine (cell_far n1_ _).trans ?_ | refine (cell_far n2_ _).trans ?_)); first | done | exact h_) : Q := e h n0 n1 n2
theorem bA {w : World} {a : Addr} {v : Value} {g : Nat} (h : w.cell? a = some v) (hg : w.heap.size ≤ g) : a.block ≠ g := Nat.ne_of_lt (Nat.lt_of_lt_of_le (World.block_lt_of_cell? _ _ h) hg)
theorem tz : ((0 : Int)).toNat = 0 := rfl
theorem Am {p : Prop} (h : p) : Aside0 p := ⟨h⟩
theorem kBa {w0 w1 w2 : World} {g : Nat} {o : Obj} (h : Aside0 (w0.heap[g]? = some o)) (hb : Below w1.heap.size w1 w2) (e : w0.heap[g]? = some o → w1.heap[g]? = some o := by intro h_; (with_reducible repeat (first | refine blk_drewN ?_ _ | refine blk_drew ?_ | refine blk_alloc ?_ _)); exact h_) : Aside0 (w2.heap[g]? = some o) := ⟨blk_below (e h.out) hb⟩
theorem kDa {w : World} {g : Nat} {o : Obj} (h : Aside0 (w.heap[g]? = some o)) : Aside0 (w.drew.heap[g]? = some o) := ⟨blk_drew h.out⟩
theorem bDa {base : Nat} {w W : World} (h : Aside0 (Below base w W)) : Aside0 (Below base w W.drew) := ⟨below_drew1 h.out⟩
theorem dNa {α : Type} {d : Kd α} {e base : Nat} {ok : Nat → Prop} {w : World} {v : Value} {xs : List α} (h : Aside0 (d.N e w base ok v xs)) : Aside0 (d.N e w.drew base ok v xs) := ⟨Kd.N_drew h.out⟩
theorem bNa {α : Type} {d : Kd α} {e base : Nat} {ok : Nat → Prop} {w0 w w1 : World} {v : Value} {xs : List α} (h : Aside0 (d.N e w0 base ok v xs)) (hb : Below w.heap.size w w1) (q : d.N e w0 base ok v xs → d.N e w base ok v xs := by intro h_; (with_reducible repeat (first | apply Kd.N_alloc | apply Kd.N_drewN | apply Kd.N_drew)); exact h_) : Aside0 (d.N e w1 base ok v xs) := ⟨Kd.N_below (q h.out) hb⟩
theorem dVa {α : Type} {d : Kd α} {e base : Nat} {ok : Nat → Prop} {w : World} {v : Value} {xs : List α} (h : Aside0 (d.V e w base ok v xs)) : Aside0 (d.V e w.drew base ok v xs) := ⟨Kd.V_drew h.out⟩
theorem bVa {α : Type} {d : Kd α} {e base : Nat} {ok : Nat → Prop} {w0 w w1 : World} {v : Value} {xs : List α} (h : Aside0 (d.V e w0 base ok v xs)) (hb : Below w.heap.size w w1) (q : d.V e w0 base ok v xs → d.V e w base ok v xs := by intro h_; (with_reducible repeat (first | apply Kd.V_alloc | apply Kd.V_drewN | apply Kd.V_drew)); exact h_) : Aside0 (d.V e w1 base ok v xs) := ⟨Kd.V_below (q h.out) hb⟩
theorem dRa {α : Type} {d : Kd α} {e base : Nat} {ok : Nat → Prop} {w : World} {v : Value} {xs : List α} (h : Aside0 (d.R e w base ok v xs)) : Aside0 (d.R e w.drew base ok v xs) := ⟨Kd.R_drew h.out⟩
theorem bRa {α : Type} {d : Kd α} {e base : Nat} {ok : Nat → Prop} {w0 w w1 : World} {v : Value} {xs : List α} (h : Aside0 (d.R e w0 base ok v xs)) (hb : Below w.heap.size w w1) (q : d.R e w0 base ok v xs → d.R e w base ok v xs := by intro h_; (with_reducible repeat (first | apply Kd.R_alloc | apply Kd.R_drewN | apply Kd.R_drew)); exact h_) : Aside0 (d.R e w1 base ok v xs) := ⟨Kd.R_below (q h.out) hb⟩
theorem dSa {α : Type} {d : Kd α} {e base : Nat} {ok : Nat → Prop} {w : World} {v : Value} {xs : List α} (h : Aside0 (d.S e w base ok v xs)) : Aside0 (d.S e w.drew base ok v xs) := ⟨Kd.S_drew h.out⟩
theorem pui {P : Program} {ops : Array Oper} {Q : Exit → Act → World → Prop} {md : Region.Mode} {S : World → Prop} {ds : List Nat} {T : Bool × List (List Nat × List Nat)} (i n nn m : Nat) {oi : Oper} {v : Value} {fuel : Nat} {l : Array Bool} {a a' : Act} {w : World} (hT : Aside0 (rtab md ops = T)) (h : wpAnyLast P md ops Q S ds fuel (bw nn m) a' w) (hi : ops[i]? = some oi := by rfl) (hN : oi.dst = some n := by rfl) (hc : anyT T l.toList (bw nn m).toList i = true := by kernel_rfl) (hQ : ∀ c a w, Q (.panic c) (a.put oi.dst v) w → Q (.panic c) a w := by exact fun _ _ _ h => h) (hy : Yields P ops oi v a := by exact Or.inl ⟨by rfl, by intro w'; go_simp; with_reducible rfl⟩) (ha : a.put (some n) v = a' := by simp only [Act.put, List.setIfInBounds_toArray, List.set_cons_zero, List.set_cons_succ, i64_w, i32_w]; rfl) : wpAnyLast P md ops Q S ds (fuel + 1) l a w := pure_ (bw nn m) hi hN (any_of hT.out hc) hQ hy ha h
theorem pdi {P : Program} {ops : Array Oper} {Q : Exit → Act → World → Prop} {md : Region.Mode} {S : World → Prop} {ds : List Nat} {T : Bool × List (List Nat × List Nat)} (i n nn m : Nat) {oi : Oper} {fuel : Nat} {l : Array Bool} {a a' : Act} {w : World} (hT : Aside0 (rtab md ops = T)) (h : wpAnyLast P md ops Q S ds fuel (bw nn m) a' w) (hi : ops[i]? = some oi := by rfl) (hN : oi.dst = some n := by rfl) (hc : anyT T l.toList (bw nn m).toList i = true := by kernel_rfl) (hQ : ∀ c a w, Q (.panic c) (a.put oi.dst undef) w → Q (.panic c) a w := by exact fun _ _ _ h => h) (hy : Yields P ops oi undef a := by exact Or.inr ⟨by rfl, rfl⟩) (ha : a.put (some n) undef = a' := by simp only [Act.put, List.setIfInBounds_toArray, List.set_cons_zero, List.set_cons_succ, i64_w, i32_w]; rfl) : wpAnyLast P md ops Q S ds (fuel + 1) l a w := pure_ (bw nn m) hi hN (any_of hT.out hc) hQ hy ha h
theorem tki {P : Program} {ops : Array Oper} {Q : Exit → Act → World → Prop} {md : Region.Mode} {S : World → Prop} {ds : List Nat} {T : Bool × List (List Nat × List Nat)} {B : List Nat} (i n nn m : Nat) {oi : Oper} {v : Value} {fuel : Nat} {l : Array Bool} {a a' : Act} {w : World} (hT : Aside0 (rtab md ops = T)) (hB : Aside0 (waitsOk T.2 B = true)) (hS : S w) (h : wpAnyLast P md ops Q S ds fuel (bw nn m) a' w) (hi : ops[i]? = some oi := by rfl) (hN : oi.dst = some n := by rfl) (hc : takeW T B ds l.toList (bw nn m).toList i = true := by kernel_rfl) (hQ : ∀ c a w, Q (.panic c) (a.put oi.dst v) w → Q (.panic c) a w := by exact fun _ _ _ h => h) (hy : YieldsIf P ops S oi v a := by exact Or.inl ⟨by rfl, by intro w' hs_; repeat (have h_ := And.left hs_; replace hs_ := And.right hs_); go_simp; with_reducible rfl⟩) (ha : a.put (some n) v = a' := by simp only [Act.put, List.setIfInBounds_toArray, List.set_cons_zero, List.set_cons_succ, i64_w, i32_w]; rfl) : wpAnyLast P md ops Q S ds (fuel + 1) l a w := take_ (bw nn m) hi hN (take_ofW hT.out hB.out hc) hQ hy hS ha h
theorem onei {P : Program} {ops : Array Oper} {Q : Exit → Act → World → Prop} {md : Region.Mode} {S : World → Prop} {ds : List Nat} {T : Bool × List (List Nat × List Nat)} (i n nn m : Nat) {oi : Oper} {fuel : Nat} {l : Array Bool} {a : Act} {w : World} (hT : Aside0 (rtab md ops = T)) (h : ∀ K : Act → World → Prop, Shut (∀ a' w', S w' → (S w' → wpAnyLast P md ops Q S ds fuel (bw nn m) a' w') → K a' w') → if Region.wanted oi (yielded ops a.tmps) = true then Oper.wp P oi a w K Q else K (a.put (some n) undef) w) (hi : ops[i]? = some oi := by rfl) (hN : oi.dst = some n := by rfl) (hc : (readyT T.2 l.toList == [i] && l.toList.set i true == (bw nn m).toList) = true := by kernel_rfl) (hd : i ∉ ds := by decide) : wpAnyLast P md ops Q S ds (fuel + 1) l a w := one_ (bw nn m) hi hN (one_of hT.out hc) hd h
theorem wrap64_l1 : wrap64 1 = 1 := by unfold wrap64; omega
theorem wrap64_l2 : wrap64 2 = 2 := by unfold wrap64; omega
theorem wrap64_l3 : wrap64 3 = 3 := by unfold wrap64; omega
theorem wrap64_l4 : wrap64 4 = 4 := by unfold wrap64; omega
theorem wrap64_l5 : wrap64 5 = 5 := by unfold wrap64; omega
theorem info3 : (Try.prog.info? 3).map (fun i => (i.zero, i.size, i.bytes)) = some (some (.int .i64 0), 1, 8) := by kernel_rfl
theorem info5 : (Try.prog.info? 5).map (fun i => (i.zero, i.size, i.bytes)) = some (some (.int .u8 0), 1, 1) := by kernel_rfl
theorem info9 : (Try.prog.info? 9).map (fun i => (i.zero, i.size, i.bytes)) = some (some (.string ⟨#[]⟩), 1, 16) := by kernel_rfl
end Go.Proofs.Ytlcajceefhgalaa.PNameAll
