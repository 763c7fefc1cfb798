/- What the law reaches, as plain Lean functions, and that the machine's calls answer just that. -/
import Derived.Test.YtklpoeaoojgljaaPRelayFindsx8
import Derived.Test.YtklpoeaoojgljaaPRelayFindsx3
import Derived.Shelf.SlIterI.Nil
import Derived.Shelf.SortM.Plain
import Derived.Shelf.SortM.SortNone
namespace Go.Proofs.Ytklpoeaoojgljaa.PRelayFinds
open Go.RowKit Go.Proofs.YtklpoeaoojgljaaW.PrintWords Go.Proofs.YtklpoeaoojgljaaW.PrintLast Go.Proofs.YtklpoeaoojgljaaW.PrintMore
set_option linter.unusedVariables false
set_option linter.unusedSimpArgs false
section
section
variable {P : Program} {ops : Array Oper} {rest : List Oper} {o : Oper} {a : Act} {Q : Exit → Act → World → Prop} {Kc : Act → World → Prop} {α : Type}
/-- append(l[:k:k], x): what is cut has no room behind, so that a new row is made; l is only read. -/
theorem tight_run (d : Kd α) {W : World} (base : Nat) (t ty e : TypeId) (z : Value) (bytes : Nat)
  (ht : P.underlying t = some (.slice e)) (hinfo : (P.info? e).map (fun i => (i.zero, i.size, i.bytes)) = some (some z, d.sz, bytes)) (hz : z.cells.size = d.sz) (hs0 : 0 < d.sz) (hb0 : 0 < bytes)
  (ad : Addr) (xs : List α) (p : α) (cs : List Value) (okv okp ok : Nat → Prop) (HV : Kd.F d W okv (some ad) xs.length xs) (hp : Kd.FK d W okp p cs)
  (hokv : ∀ k, okv k → ok k) (hokp : ∀ k, okp k → ok k) (hfresh : ∀ k, W.heap.size ≤ k → ok k) (hbase : base ≤ W.heap.size) (hl : (xs.length + 1) * bytes ≤ 140737488355328) :
  ∃ v1 w1, (Builtin.append_ #[t, t] ty #[.slice (some ad) xs.length xs.length, .slice (some ⟨W.heap.size, 0, none⟩) 1 1]).run P (W.alloc (.cells cs.toArray e)) = .ok v1 w1 ∧ Kd.N d e w1 base ok v1 (xs ++ [p]) ∧ W.grownBy w1 none ∧ (∃ b, v1.ownBlock = some b ∧ W.heap.size ≤ b) ∧ (W.alloc (.cells cs.toArray e)).grownBy w1 none := by
 obtain ⟨i0, hi, hzz⟩ := Option.map_eq_some_iff.1 hinfo
 simp only [Prod.mk.injEq] at hzz
 obtain ⟨hz0, hz1, hz2⟩ := hzz
 obtain ⟨news, hnl, hnr, hnf⟩ := Kd.reads_raw (Kd.F_rows HV) (fun y c hk => ⟨d.K_len (Kd.FK_now hk), d.K_one (Kd.FK_now hk)⟩)
 obtain ⟨inner, hreps, hcell⟩ := ReadsRow.inner_ hnr
 have hil : inner.length = xs.length * d.sz := by rw [← hnl]; exact hreps.1
 have hcl := d.K_len (Kd.FK_now hp)
 have hcells : ∀ j u, inner[j]? = some u → (W.alloc (.cells cs.toArray e)).cell? (ad.add j) = some u := fun j u hj => by
  have h1 := hcell j u hj
  exact (World.cell?_alloc_lt _ _ _ (World.block_lt_of_cell? W _ h1)).trans h1
 have h63 : xs.length + 1 ≤ 140737488355328 := by
  have := Nat.le_mul_of_pos_right (xs.length + 1) hb0
  omega
 obtain ⟨v1, w1, hrun, hown1, hg1⟩ := run_append_arg_grows (P := P) (w := W.alloc (.cells cs.toArray e)) t ty e i0 z d.sz bytes ht hi hz0 hz1 hz2 hz hs0 ad xs.length xs.length inner hil hcells ⟨W.heap.size, 0, none⟩ 1 1 cs (by rw [hcl]; simp) (by simpa using World.news_of_block (cs := cs.toArray) (t := e) (fr := (0, 0)) (heap_alloc_new W (.cells cs.toArray e))) (by omega) (by simp only [maxLen]; omega) hl
 have hg : W.grownBy w1 none := World.grownBy.trans (World.grownBy_alloc W _ _) hg1
 have hb : ∃ b, v1.ownBlock = some b ∧ W.heap.size ≤ b := by
  rcases hown1.2 with ⟨rfl, hn⟩ | ⟨g, cap, cur, rfl, hgb, _⟩
  ·exact absurd hn (by omega)
  ·refine ⟨g, rfl, ?_⟩
   have hsz : (W.alloc (.cells cs.toArray e)).heap.size = W.heap.size + 1 := by simp
   omega
 have hR : (Kd.raw d.sz).R e w1 base (fun _ => True) v1 ([] ++ (news ++ [cs])) := by
  refine ⟨fun _ _ => trivial, inner ++ cs, ?_, ?_⟩
  ·have h1 : ([] ++ (news ++ [cs])).length = xs.length + 1 := by simp [hnl]
   rw [h1]
   exact own_weaken hown1 (by simp; omega)
  ·exact (hreps.imp_ (fun y ys hy => hy)).snoc (Kd.FK_raw hp) hcl
 refine ⟨v1, w1, hrun, ?_, hg, hb, hg1⟩
 refine Kd.N_appended (d := d) (W := W) (v := .slice none 0 0) (xs := []) (ys := xs ++ [p]) (rows := []) (news := news ++ [cs]) (okp := fun k => okv k ∨ okp k) (fun k hk => by simp [Value.ownBlock] at hk) rfl (fun j x c hx => by simp at hx) (by simp [hnl]) (fun j x c hx hc => ?_) (fun k hk => ⟨hk.elim (hokv k) (hokp k), by simp [Value.ownBlock]⟩) hfresh hR (by simpa [Value.ownBlock] using hg) (.inr hb)
 rcases Nat.lt_or_ge j xs.length with hlt | hge
 ·rw [List.getElem?_append_left hlt] at hx
  rw [List.getElem?_append_left (by omega)] at hc
  exact Kd.FK_mono (hnf j x c hx hc) (fun k hk => .inl hk)
 ·rw [List.getElem?_append_right hge] at hx
  rw [List.getElem?_append_right (by omega), hnl] at hc
  generalize j - xs.length = i at hx hc
  rcases i with _ | i
  ·simp only [List.getElem?_cons_zero, Option.some.injEq] at hx hc
   rw [← hx, ← hc]
   exact Kd.FK_mono hp (fun k hk => .inr hk)
  ·simp at hx
theorem tight_step (d : Kd α) {w0 W : World} (base : Nat) (hw : Region.wanted o (yielded ops a.tmps) = true) (s x : Operand) (t e : TypeId) (z : Value) (bytes : Nat)
  (ho : o.op = .call { callee := .builtin .append, args := #[s, x], argTypes := #[t, t] })
  (ht : P.underlying t = some (.slice e)) (hinfo : (P.info? e).map (fun i => (i.zero, i.size, i.bytes)) = some (some z, d.sz, bytes)) (hz : z.cells.size = d.sz) (hs0 : 0 < d.sz) (hb0 : 0 < bytes)
  (A : Option Addr) (n : Nat) (xs : List α) (p : α) (cs : List Value) (okv okp ok : Nat → Prop) (hn : n = xs.length) (hs : a.eval s = .slice A n n) (hx : a.eval x = .slice (some ⟨W.heap.size, 0, none⟩) 1 1) (HV : Kd.F d W okv A xs.length xs) (hp : Kd.FK d W okp p cs)
  (hokv : ∀ k, okv k → ok k) (hokp : ∀ k, okp k → ok k) (hfresh : ∀ k, W.heap.size ≤ k → ok k) (HB : Below base w0 W) (hbase : base ≤ W.heap.size) (hl : (xs.length + 1) * bytes ≤ 140737488355328)
  (h : ∀ v1 w1, Kd.N d e w1 base ok v1 (xs ++ [p]) → Below base w0 w1 → W.grownBy w1 none → (∀ b, v1.ownBlock = some b → W.heap.size ≤ b) → Kc (a.put o.dst v1) w1) :
  if Region.wanted o (yielded ops a.tmps) = true then Oper.wp P o a (W.alloc (.cells cs.toArray e)) Kc Q else Kc (a.put o.dst undef) (W.alloc (.cells cs.toArray e)) := by
 subst hn
 cases A with
 | none =>
  have hxs : xs = [] := by
   rcases Nat.eq_zero_or_pos xs.length with h0 | h0
   ·exact List.eq_nil_of_length_eq_zero h0
   ·obtain ⟨ad, h, _⟩ := (Kd.F_now HV).2.2 h0
    cases h
  subst hxs
  refine Kd.N_append_step d base hw s x t e z bytes ho ht hinfo hz hs0 hb0 (.slice none 0 0) [] p cs ok okp hs hx hp (fun k hk => ⟨hokp k hk, by simp [Value.ownBlock]⟩) hfresh (Kd.N_nil _ _ _ _ _) HB hbase hl ?_
  intro v1 w1 h1 h2 h3 h4
  exact h v1 w1 h1 h2 (by simpa [Value.ownBlock] using h3) (fun b hb => by
   rcases h4 with h4 | ⟨b', h4, h5⟩
   ·rw [h4] at hb; simp [Value.ownBlock] at hb
   ·rw [h4] at hb; cases hb; exact h5)
 | some ad =>
  obtain ⟨v1, w1, hrun, hN, hg, hb, hg1⟩ := tight_run d base t o.type e z bytes ht hinfo hz hs0 hb0 ad xs p cs okv okp ok HV hp hokv hokp hfresh hbase hl
  rw [if_pos hw]
  unfold Oper.wp execOp
  simp only [ho, resolve, invoke, builtin, Sem.run_bind, Sem.run_pure, Result.andThen_ok, List.map_toArray, List.map_cons, List.map_nil, hs, hx, hrun]
  exact h v1 w1 hN ((HB.alloc hbase _).grown hg1 (by simp; omega) (fun k hk => by cases hk)) hg (fun b' hb' => by
   obtain ⟨b, h1, h2⟩ := hb
   rw [h1] at hb'
   cases hb'
   exact h2)
end
theorem cut_tight {P : Program} (t e : TypeId) (kh km : IntKind) {i : TypeInfo} (ht : P.underlying t = some (.slice e)) (hi : P.info? e = some i) (A : Option Addr) (n c : Nat) (j : Int) (h0 : 0 ≤ j) (hm : j ≤ n) (hc : n ≤ c) :
  ∀ W : World, (Instr.slice t (.slice A n c) none (some (.int kh j)) (some (.int km j))).run P W = .ok (.slice A j.toNat j.toNat) W := by
 intro W
 have hel : P.elem t = e := by simp [Program.elem, ht]
 have hu : P.underlying t = some (.slice (P.elem t)) := by rw [hel]; exact ht
 have ha : (A.map fun x => x.add 0) = A := by cases A <;> simp [Addr.add]
 rw [run_slice_hm W t A n c hu kh km j j h0 (Int.le_refl _) (by omega), hel]
 simp [sizeOf, typeInfo, hi, sliced, Result.andThen, ha]
theorem box_behind {w w1 : World} {xs : Array Value} {s : TypeId} (h : Below (w.alloc (.cells xs s)).heap.size (w.alloc (.cells xs s)) w1) : w1.heap[w.heap.size]? = some (.cells xs s (0, 0)) := by
 have hs : (w.alloc (.cells xs s)).heap.size = w.heap.size + 1 := by simp
 exact (h.block _ (by rw [hs]; omega)).trans (MapKept.heap_alloc w _).1
/-- The place of a segment's move among moves by rising segments. -/
def posS (l : List S35) (seg : Int) : Nat → Nat
 | 0 => 0
 | j + 1 => if seg < (rd_T35 l (j : Int)).f0 then posS l seg j else j + 1
theorem posS_le (l : List S35) (seg : Int) : ∀ j, posS l seg j ≤ j
 | 0 => Nat.le_refl _
 | j + 1 => by
  simp only [posS]
  split
  ·exact Nat.le_succ_of_le (posS_le l seg j)
  ·exact Nat.le_refl _
def garnerref21_Set.f (k : Nat) (l0 : List S35) (a : S35) : Option (List S35) :=
 (garnerref21_Drop.f k l0 a.f0).bind fun (l, _) => if l.length + 2 < 4398046511104 then some ((l.take (posS l a.f0 l.length) ++ [a]) ++ l.drop (posS l a.f0 l.length)) else none
theorem garnerref21_Set.mono : ∀ l a k, LeO (garnerref21_Set.f k l a) (garnerref21_Set.f (k + 1) l a) := fun l a k => LeO.bind (garnerref21_Drop.mono _ _ _) (fun ⟨_, _⟩ => LeO.refl _)
def garnerref21_Set.T6 : Bool × List (List Nat × List Nat) := (true,
 [([], []), ([], []), ([], []), ([0, 1, 2], [0, 1, 2]), ([], []), ([4], [4]), ([3, 5], [3, 5]), ([], []),
  ([6, 7, 6], [6, 7]), ([8, 8, 0, 1, 2, 3, 4, 5, 6, 7, 8], [8])])
def garnerref21_Set.B6 : List Nat := [0, 0, 0, 7, 0, 16, 63, 0, 255, 511]
theorem garnerref21_Set.tab6 : rtab .any (opsOf Try.f18 6) = garnerref21_Set.T6 := by kernel_rfl
theorem garnerref21_Set.bits6 : waitsOk garnerref21_Set.T6.2 garnerref21_Set.B6 = true := by kernel_rfl
theorem cells2 {w : World} {k : Nat} {v0 v1 : Value} {E : TypeId} (h : w.heap[k]? = some (.cells #[v0, v1] E (0, 0))) :
  w.cell? ⟨k, 0, none⟩ = some v0 ∧ w.cell? ⟨k, 1, none⟩ = some v1 := by
 refine ⟨?_, ?_⟩ <;> simp [World.cell?, h]
set_option maxHeartbeats 8000000 in
set_option maxRecDepth 100000 in
theorem garnerref21_Set.calls (k : Nat) (P0_ : Nat → Prop) (A0 : Option Addr) (c0 : Nat) (l0 : List S35) (a1_0 : Int) (A1 : Option Addr) (c1 : Nat) (l1 : List S37) (r : List S35) (w : World)
  (hs0 : Kd.V k35 35 w w.heap.size P0_ (.slice A0 l0.length c0) l0) (hs1 : Kd.V k37 37 w w.heap.size P0_ (.slice A1 l1.length c1) l1) (h : garnerref21_Set.f k l0 ⟨a1_0, l1⟩ = some r) :
  Calls Try.prog 18 #[.slice A0 l0.length c0, .agg #[.int .i64 a1_0, .slice A1 l1.length c1]] w fun e w' => ∃ v0_ : Value, e = .returned v0_ ∧ Kd.V k35 35 w' w.heap.size (fun k_ => P0_ k_ ∨ w.heap.size ≤ k_) v0_ r ∧ Below w.heap.size w w' := by
 have hu35 := Try.underlying35
 have hu30 := Try.underlying30
 replace h := Option.bind_eq_some_iff.mp h
 obtain ⟨⟨l, td⟩, hd, h⟩ := h
 simp only at hd h
 by_cases hlim : l.length + 2 < 4398046511104
 rotate_left
 ·rw [if_neg hlim] at h; cases h
 rw [if_pos hlim] at h
 have HR := Am (Option.some.inj h)
 have HD := Am hd
 have LM := Am hlim
 have V0 := Am hs0
 have V1 := Am (Kd.V_mono (ok' := fun k_ => P0_ k_ ∨ w.heap.size ≤ k_) hs1 (fun _ hk => .inl hk))
 have HB := Am (Below.refl w.heap.size w)
 clear hd hlim hs0 hs1 h
 go_enter Try.func18, Try.ntmps18
 go_wp2_with (go_at_call 16; refine (garnerref21_Drop.calls k (fun k_ => P0_ k_) A0 c0 l0 a1_0 l td _ (show Kd.V k35 35 _ _ _ _ _ from Kd.V_alloc V0.out _) HD.out).mono ?_; rintro e w1 ⟨v0, rfl, hv, hb⟩; obtain ⟨A, c, rfl⟩ := Kd.V_slice hv; have BK := Am (box_behind hb); have V2 := Am (show Kd.V k35 35 w1 w.heap.size (fun k_ => P0_ k_ ∨ w.heap.size ≤ k_) (.slice A l.length c) l from Kd.V_mono hv (fun k_ hk => hk.imp id (fun h => by simp at h; omega))); replace V1 := Am (Kd.V_below (Kd.V_alloc V1.out _) hb); replace HB := Am (below_step (pB HB.out) hb); clear hv hb)
 go_loopw [5] (fun v5 wr => ∃ j : Nat, j ≤ l.length ∧ v5 = .int .i64 j ∧ Aside0 (posS l a1_0 j = posS l a1_0 l.length) ∧ Aside0 (Kd.V k35 35 wr w.heap.size (fun k_ => P0_ k_ ∨ w.heap.size ≤ k_) (.slice A l.length c) l) ∧ Aside0 (Kd.V k37 37 wr w.heap.size (fun k_ => P0_ k_ ∨ w.heap.size ≤ k_) (.slice A1 l1.length c1) l1) ∧ Aside0 (wr.heap[w.heap.size]? = some (.cells #[.int .i64 a1_0, .slice A1 l1.length c1] 35 (0, 0))) ∧ Aside0 (Below w.heap.size w wr)) (fun v5 _ => (intOf v5).toNat)
 case atStart => exact ⟨l.length, Nat.le_refl _, rfl, ⟨rfl⟩, V2, V1, BK, HB⟩
 case round =>
  clear V2 V1 BK HB
  obtain ⟨j, hj, rfl, HP, V2, V1, BK, HB⟩ := hrel
  obtain ⟨e0, e1⟩ := cells2 BK.out
  have hn : l.length ≤ 9223372036854775807 := by have := LM.out; omega
  obtain ⟨J, hJ⟩ : ∃ J : Int, J = (j : Int) := ⟨_, rfl⟩
  rw [← hJ]
  by_cases hx : 0 < j ∧ a1_0 < (rd_T35 l ((j - 1 : Nat) : Int)).f0
  ·obtain ⟨j', rfl⟩ : ∃ j', j = j' + 1 := ⟨j - 1, by omega⟩
   obtain ⟨_, hlt⟩ := hx
   simp only [Nat.add_sub_cancel] at hlt
   obtain ⟨ad, A', c', eA, h0, h1, _, _⟩ := at_T35 (Kd.V_reads' V2.out).2.2 (j' : Int) (by omega) (by omega)
   subst eA
   simp only [Int.toNat_natCast] at h0
   have hJ0 : 0 < J := by omega
   have hJw : IntKind.i64.wrap (J - 1) = (j' : Int) := by
    have h2 := IntWalk.i64_in (J - 1) (by omega)
    omega
   have hjl : (j' : Int) < (l.length : Int) := by omega
   have hj0 : (0 : Int) ≤ (j' : Int) := by omega
   have HJ := Am hJ
   obtain ⟨y, hy⟩ : ∃ y, y = (rd_T35 l (j' : Int)).f0 := ⟨_, rfl⟩
   have HY := Am hy
   rw [← hy] at h0 hlt
   clear hJ hy h1
   go_wp2
   go_quiet (fail)
   go_wp2
   go_roundw
   case rel =>
    refine ⟨j', by omega, rfl, ⟨?_⟩, ⟨Kd.V_drewN V2.out nq⟩, ⟨Kd.V_drewN V1.out nq⟩, ⟨BK.out⟩, ⟨pB HB.out⟩⟩
    rw [← HP.out, posS, ← HY.out, if_pos hlt]
   case measure =>
    have := HJ.out
    simp [intOf]
    omega
  ·obtain ⟨xx, hxx⟩ : ∃ xx, xx = posS l a1_0 l.length := ⟨_, rfl⟩
   have hjx : J = (xx : Int) := by
    rw [hJ, hxx, ← HP.out]
    cases j with
    | zero => rfl
    | succ j' =>
     rw [posS, if_neg (fun h => hx ⟨Nat.succ_pos _, by simpa using h⟩)]
   have hxl : xx ≤ l.length := by omega
   have HXX := Am hxx
   have HJX := Am hjx
   clear hxx
   rcases Nat.eq_zero_or_pos j with hj0 | hj0
   focus
    have hJd : decide (0 < J) = false := decide_eq_false (by omega)
    have HJ := Am hJ
    clear hJ hjx hx
    go_wp2
    go_quiet (fail)
    clear hJd e0 e1
   rotate_left
   focus
    obtain ⟨j', rfl⟩ : ∃ j', j = j' + 1 := ⟨j - 1, by omega⟩
    have hlt : ¬ a1_0 < (rd_T35 l (j' : Int)).f0 := fun h => hx ⟨hj0, by simpa using h⟩
    obtain ⟨ad, A', c', eA, h0, h1, _, _⟩ := at_T35 (Kd.V_reads' V2.out).2.2 (j' : Int) (by omega) (by omega)
    subst eA
    simp only [Int.toNat_natCast] at h0
    have hJ0 : 0 < J := by omega
    have hJw : IntKind.i64.wrap (J - 1) = (j' : Int) := by
     have h2 := IntWalk.i64_in (J - 1) (by omega)
     omega
    have hjl : (j' : Int) < (l.length : Int) := by omega
    have hj0 : (0 : Int) ≤ (j' : Int) := by omega
    have HJ := Am hJ
    obtain ⟨y, hy⟩ : ∃ y, y = (rd_T35 l (j' : Int)).f0 := ⟨_, rfl⟩
    have HY := Am hy
    rw [← hy] at h0 hlt
    have hltd : decide (a1_0 < y) = false := decide_eq_false hlt
    clear hJ hjx hx hy h1
    go_wp2
    go_quiet (fail)
    obtain ⟨A, hA⟩ : ∃ A, A = some ad := ⟨_, rfl⟩
    rw [← hA] at V2 ⊢
    clear hA h0 hJ0 hJw hjl hj0 hlt hltd e0 e1
   all_goals
    obtain ⟨w2, hw2⟩ : ∃ w2, w2 = wr.drewN nq := ⟨_, rfl⟩
    replace V2 : Aside0 (Kd.V k35 35 w2 w.heap.size (fun k_ => P0_ k_ ∨ w.heap.size ≤ k_) (.slice A l.length c) l) := ⟨by rw [hw2]; exact Kd.V_drewN V2.out nq⟩
    replace V1 : Aside0 (Kd.V k37 37 w2 w.heap.size (fun k_ => P0_ k_ ∨ w.heap.size ≤ k_) (.slice A1 l1.length c1) l1) := ⟨by rw [hw2]; exact Kd.V_drewN V1.out nq⟩
    replace BK : Aside0 (w2.heap[w.heap.size]? = some (.cells #[.int .i64 a1_0, .slice A1 l1.length c1] 35 (0, 0))) := ⟨by rw [hw2]; exact BK.out⟩
    replace HB : Aside0 (Below w.heap.size w w2) := ⟨by rw [hw2]; exact pB HB.out⟩
    rw [← hw2]
    clear hw2
    obtain ⟨i0, hi, _, Ai, _⟩ := info_parts info35
    have hcap : l.length ≤ c := (Kd.V_reads' V2.out).2.1
    have hF : Kd.F k35 _ _ A l.length l := (Kd.V_at (base := w.heap.size) V2.out).2.2
    have Ao := cut_from (P := Try.prog) 30 35 .i64 Try.underlying30 hi 2 Ai A l.length c J (by rw [HJX.out]; omega) (by rw [HJX.out]; omega)
    have Ag := cut_tight (P := Try.prog) 30 35 .i64 .i64 Try.underlying30 hi A l.length c J (by rw [HJX.out]; omega) (by rw [HJX.out]; omega) hcap
    have hJn : J.toNat = xx := by rw [HJX.out]; simp
    rw [hJn] at Ao Ag
    have Af := Kd.F_cut (m := xx) (c := c) hF hxl hcap
    have At := Kd.F_take (m := xx) hF hxl
    obtain ⟨rest, hrest⟩ : ∃ x, x = l.drop xx := ⟨_, rfl⟩
    obtain ⟨A14, hA14⟩ : ∃ AX_, AX_ = (if c = xx then A else A.map (·.add (xx * 2))) := ⟨_, rfl⟩
    obtain ⟨c14, hc14⟩ : ∃ cX_, cX_ = c - xx := ⟨_, rfl⟩
    have hrl : rest.length = l.length - xx := by rw [hrest, List.length_drop]
    rw [← hrest] at Af
    replace Af : Kd.F k35 w2 (fun k_ => P0_ k_ ∨ w.heap.size ≤ k_) A14 rest.length rest := by rw [hA14]; exact Af
    rw [← hrl, ← hA14, ← hc14] at Ao
    have Vd := Am (show Kd.V k35 35 w2 w.heap.size (fun k_ => P0_ k_ ∨ w.heap.size ≤ k_) (.slice A14 rest.length c14) rest from Kd.V_mk (by rw [hrl, hc14]; omega) Af)
    have htl : (l.take xx).length = xx := by rw [List.length_take]; omega
    have FT := Am At
    have HREST := Am hrest
    have HCAP := Am hcap
    have HTL := Am htl
    have HRL := Am hrl
    clear hrl Af At hF hi Ai hA14 hc14 hrest hcap htl hJn
    go_wp2_with (first | ((with_reducible refine gate_dst (N := 31) rfl ?_); refine Kd.N_lit k35 _ 35 ?hg (N' := 31) ?hd (xs := ([] : List S35)) (inner := []) (ok := fun k_ => P0_ k_ ∨ w.heap.size ≤ k_) (okp := fun k_ => P0_ k_ ∨ w.heap.size ≤ k_) ?hr ?hp (fun _ hk => hk) (Or.inr (below_size HB.out)) (Below.refl _ _) (Nat.le_refl _) (by simp) ?_; (case hd => rfl); (case hg => rfl); (case hr => first | (go_simp; done) | (go_simp; rfl)); (case hp => exact (Reps.none _ _)); intro v31 w3 ho hb hg_ hnew_; have hv31 := Am (Kd.N_base ho); have HS2 := Am (blk_lt BK.out); replace V2 := Am (Kd.V_elder' V2.out (Kd.N_base ho) hb); replace Vd := Am (Kd.V_elder' Vd.out (Kd.N_base ho) hb); replace V1 := Am (Kd.V_elder' V1.out (Kd.N_base ho) hb); replace BK := Am ((hb.block _ HS2.out).trans BK.out); have N31 := Am (Kd.N_lower ho (below_size HB.out)); replace HB := Am (below_step (pB HB.out) hb); clear hg_ hnew_ hb ho) | ((with_reducible refine gate_builtin (b := .append) (xs := #[.tmp 31, .tmp 34]) rfl ?_); at_builtin; refine Kd.N_append_rows k35 (w0 := w) w.heap.size rfl (.tmp 31) (.tmp 34) 30 35 (.agg #[.int .i64 0, .slice none 0 0]) 32 rfl Try.underlying30 info35 rfl (by decide) (by omega) v31 [] rest _ _ _ (fun k_ => P0_ k_ ∨ w.heap.size ≤ k_) (fun k_ => (P0_ k_ ∨ w.heap.size ≤ k_) ∧ some k_ ≠ (v31 : Value).ownBlock) rfl rfl ?aO ?aR (fun _ hk => hk) ?aF ?aB ?aS ?aL ?_; (case aO => exact N31.out); (case aR => exact Kd.V_F Vd.out); (case aF => exact fun k_ hk => .inr (Nat.le_trans (below_size HB.out) hk)); (case aB => exact HB.out); (case aS => exact below_size HB.out); (case aL => have := LM.out; have := HRL.out; simp only [List.length_nil]; omega); intro v35 w4 ho hb hg hat; replace V2 := Am (Kd.V_mono (Kd.V_afterv (ok := fun k_ => P0_ k_ ∨ w.heap.size ≤ k_) V2.out hg hat) (fun _ hk => hk.1)); replace V1 := Am (Kd.V_mono (Kd.V_afterv (ok := fun k_ => P0_ k_ ∨ w.heap.size ≤ k_) V1.out hg hat) (fun _ hk => hk.1)); replace BK := Am ((hg.block _ (blk_lt BK.out) (fun e => by have h1 := hv31.out _ e.symm; have h2 := HS2.out; omega)).trans BK.out); have N35 := Am ho; replace HB := Am hb; clear ho hb hg hat))
    rw [List.nil_append] at N35
    obtain ⟨A35, c35, rfl⟩ := Kd.V_slice (Kd.N_V (base' := 0) N35.out)
    clear N31 hv31 HS2 Vd
    have FT := Am (Kd.F_take (m := xx) (Kd.V_at (base := w.heap.size) V2.out).2.2 hxl)
    refine start_ (n := 10) (S := fun w' => cG w' w.heap.size 0 (.int .i64 a1_0) ∧ cG w' w.heap.size 1 (.slice A1 l1.length c1)) (ds := []) #[false, false, false, false, false, false, false, false, false, false] (by kernel_rfl) rfl rfl (cells2 (kDa BK).out) (fun hHeld => ?_)
    refine with_tabW garnerref21_Set.tab6 garnerref21_Set.bits6 (fun HT_ HW_ => ?_)
    replace V1 := dVa V1
    replace HB := bDa HB
    replace BK := kDa BK
    replace N35 := dNa N35
    replace FT : Aside0 (Kd.F k35 w4.drew (fun k_ => P0_ k_ ∨ w.heap.size ≤ k_) A (l.take xx).length (l.take xx)) := ⟨Kd.F_drew FT.out⟩
    clear V2
    generalize w4.drew = w5 at V1 HB BK N35 FT hHeld ⊢
    refine pui 0 36 10 1 HT_ ?_
    refine pui 1 37 10 3 HT_ ?_
    refine pui 2 38 10 7 HT_ ?_
    refine pui 3 39 10 15 HT_ ?_
    refine pui 7 43 10 143 HT_ ?_
    refine tki 4 40 10 159 HT_ HW_ hHeld ?_
    refine onei 5 41 10 191 HT_ (fun K hK => ?_)
    refine value_ (w1 := ?_) (v := ?_) (by rfl) rfl ?_ ?_
    rotate_left 2
    ·go_simp
     constructor
     ·rfl
     ·rfl
    refine hK.out _ _ (cells2 (blk_alloc BK.out _)) (fun hHeld => ?_)
    clear hK K
    refine norm_ (a' := ?_) ?_ ?_
    rotate_left
    ·show Act.put _ (some 41) _ = _
     simp only [Act.put, List.setIfInBounds_toArray, List.set_cons_zero, List.set_cons_succ, i64_w, i32_w]
     rfl
    refine onei 6 42 10 255 HT_ (fun K hK => ?_)
    refine tight_step k35 (w0 := w) w.heap.size (by rfl) (.tmp 39) (.tmp 41) 30 35 (.agg #[.int .i64 0, .slice none 0 0]) 32 rfl Try.underlying30 info35 rfl (by decide) (by omega) A xx (l.take xx) (⟨a1_0, l1⟩ : S35) [.int .i64 a1_0, .slice A1 l1.length c1] (fun k_ => P0_ k_ ∨ w.heap.size ≤ k_) (fun k_ => P0_ k_ ∨ w.heap.size ≤ k_) (fun k_ => P0_ k_ ∨ w.heap.size ≤ k_) HTL.out.symm rfl rfl FT.out (k35_mkF _ _ (⟨a1_0, l1⟩ : S35) (Kd.V_reads' V1.out).2.1 (Kd.V_F (Kd.V_mono V1.out ?aP))) (fun _ hk => hk) (fun _ hk => hk) ?aF ?aB ?aS ?aL ?_
    (case aP => exact fun _ hk => by first | exact hk | exact hk.1)
    (case aF => exact fun k_ hk => .inr (Nat.le_trans (below_size HB.out) hk))
    (case aB => exact HB.out)
    (case aS => exact below_size HB.out)
    (case aL => have := LM.out; have := HTL.out; omega)
    intro v42 w6 hN hb hg hat
    have hbw : Below w5.heap.size w5 w6 := (Below.refl _ _).grown hg (Nat.le_refl _) (fun k hk => by cases hk)
    replace N35 := Am (Kd.N_elder' N35.out hat hbw)
    have HS5 := Am (blk_lt BK.out)
    have HV42 := Am hat
    replace BK := Am ((hbw.block _ (blk_lt BK.out)).trans BK.out)
    have N42 := Am hN
    replace HB := Am hb
    clear hN hb hg hat hbw FT V1
    refine hK.out _ _ (cells2 BK.out) (fun hHeld => ?_)
    clear hK K
    refine norm_ (a' := ?_) ?_ ?_
    rotate_left
    ·show Act.put _ (some 42) _ = _
     simp only [Act.put, List.setIfInBounds_toArray, List.set_cons_zero, List.set_cons_succ, i64_w, i32_w]
     rfl
    refine onei 8 44 10 511 HT_ (fun K hK => ?_)
    refine Kd.N_append_rows_step k35 (w0 := w) w.heap.size (by rfl) (.tmp 42) (.tmp 43) 30 35 (.agg #[(.int .i64 0), (.slice none 0 0)]) 32 rfl Try.underlying30 info35 rfl (by decide) (by omega) v42 (l.take xx ++ [(⟨a1_0, l1⟩ : S35)]) rest _ _ _ (fun k_ => P0_ k_ ∨ w.heap.size ≤ k_) (fun k_ => (P0_ k_ ∨ w.heap.size ≤ k_) ∧ some k_ ≠ (v42 : Value).ownBlock) rfl rfl N42.out (Kd.V_F (Kd.N_V (base' := 0) N35.out)) (fun _ hk => hk) ?aF ?aB ?aS ?aL ?_
    (case aF => exact fun k_ hk => .inr (Nat.le_trans (below_size HB.out) hk))
    (case aB => exact HB.out)
    (case aS => exact below_size HB.out)
    (case aL => have := LM.out; have := HTL.out; rw [List.length_append, HTL.out, HRL.out]; simp only [List.length_cons, List.length_nil]; omega)
    intro v44 w7 hN hb hg hat
    replace BK := Am ((hg.block _ (blk_lt BK.out) (fun e => by have h1 := HV42.out _ e.symm; have h2 := HS5.out; omega)).trans BK.out)
    have N44 := Am hN
    replace HB := Am hb
    clear hN hb hg hat N42 N35
    refine hK.out _ _ (cells2 BK.out) (fun hHeld => ?_)
    clear hK K
    refine norm_ (a' := ?_) ?_ ?_
    rotate_left
    ·show Act.put _ (some 44) _ = _
     simp only [Act.put, List.setIfInBounds_toArray, List.set_cons_zero, List.set_cons_succ, i64_w, i32_w]
     rfl
    refine pui 9 4 10 1023 HT_ ?_
    refine done_ (done_of HT_.out (by kernel_rfl)) ?_
    try go_wp2
    go_ret
    refine ⟨_, rfl, ?_, HB.out⟩
    rw [← HR.out, ← HXX.out]
    rw [HREST.out] at N44
    exact Kd.N_V N44.out
end
section
set_option maxHeartbeats 4000000 in
set_option maxRecDepth 100000 in
theorem awake_walk (w : World) : Calls Try.prog 7 #[] w fun e w' => e = .returned (.bool true) ∧ Below w.heap.size w w' := by
 have hu25 := Try.underlying25
 have hu37 := Try.underlying37
 have HB := Am (Below.refl w.heap.size w)
 have hmay : relay_may.f 3 1 [(⟨2, ⟨3, 9, 0, 0⟩⟩ : S37)] = some true := by decide +kernel
 have hfind : relay_Find.f 3 (gput 1 (relay_ofs [(⟨2, ⟨3, 9, 0, 0⟩⟩ : S37)]) []) ⟨1, 2, 0, 0⟩ = some (⟨3, 9, 0, 0⟩, 1, 0) := by
  simp [relay_Find.f, point_Check.f, relay_ofs, gput, relay_Find.l0, gat, wrap64_l1]
 have HM := Am hmay
 have HF := Am hfind
 clear hmay hfind
 go_enter Try.func7, Try.ntmps7
 go_wp2_with (first
  | (go_at_call 14; refine (relay_New _).mono ?_; rintro e w1 ⟨b, m, rfl, hR, hm, h1⟩; have HR := Am hR; have Hm := Am (Nat.le_trans (below_size HB.out) hm); replace HB := Am (below_step (pB HB.out) h1); clear h1 hR hm)
  | ((with_reducible refine gate_dst (N := 10) rfl ?_); refine Kd.R_lit k37 _ 37 ?hg (N := 10) ?hd (xs := ([(⟨2, ⟨3, 9, 0, 0⟩⟩ : S37)] : List (S37))) (inner := [.int .i64 2, .int .i64 3, .int .i64 9, .int .i64 0, .int .u32 0]) (ok := fun _ => True) (okp := fun _ => True) ?hr ?hp (fun _ hk => hk) trivial (Below.refl _ _) (Nat.le_refl _) (by simp) ?_; (case hd => rfl); (case hg => rfl); (case hr => first | (go_simp; done) | (go_simp; rfl)); (case hp => exact (Reps.c5 (show Kd.M k37 _ _ _ (⟨2, ⟨3, 9, 0, 0⟩⟩ : S37) [.int .i64 2, .int .i64 3, .int .i64 9, .int .i64 0, .int .u32 0] from (k37_mkM _ _ _ (⟨2, ⟨3, 9, 0, 0⟩⟩ : S37))) (Reps.none _ _))); intro v154 w17 ho18 hb hg_ hnew_; clear hg_ hnew_; replace HR := Am (HR.out.below hb); replace HB := Am (below_step (pB HB.out) hb); have Aa := Am ho18; clear hb ho18; obtain ⟨Ai, Aj, Ak⟩ := Kd.R_slice Aa.out; subst Ak)
  | (go_at_call 15; refine (relay_Set _ _ _ _ 1 _ _ [(⟨2, ⟨3, 9, 0, 0⟩⟩ : S37)] 3 true HR.out (Kd.R_reads' Aa.out).2.2 (Kd.R_reads' Aa.out).2.1 HM.out).mono ?_; rintro e w1 ⟨rfl, hR, hT⟩; replace HR := Am hR; replace HB := Am (Below.trans (pB HB.out) (hT.1 w.heap.size (below_size (pB HB.out)) Hm.out)); clear hR hT)
  | (go_at_call 9; refine (relay_Find.calls _ _ _ _ ⟨1, 2, 0, 0⟩ 3 (⟨3, 9, 0, 0⟩, 1, 0) HR.out HF.out).mono ?_; rintro e w1 ⟨rfl, h1⟩; replace HB := Am (below_step (pB HB.out) h1); clear h1))
 go_ret
 exact ⟨rfl, pB HB.out⟩
theorem k25_heap : Kd.Heap k25 := Kd.heap_iso _ (Kd.heap_pair (Kd.heap_int .i64) (Kd.heap_pair (Kd.heap_int .i64) (Kd.heap_pair (Kd.heap_int .i64) (Kd.heap_int .u32))))
theorem k37_heap : Kd.Heap k37 := Kd.heap_iso _ (Kd.heap_pair (Kd.heap_int .i64) k25_heap)
abbrev Mvs := List (Int × List (Int × S25))
/-- One act: the relay's moves and the document's, behind it; none where they would not agree. -/
def play_st (k : Nat) (a : S50) (ms : Mvs) (ws : List S35) : Option (Mvs × List S35) :=
 if a.f0 = true then (garnerref21_Drop.f k ws a.f1.f0).bind fun (x, ok) => if (gat a.f1.f0 ms).isSome = ok then some (gdel a.f1.f0 ms, x) else none
 else (relay_may.f k a.f1.f0 a.f1.f1).bind fun p => (garnerref21_May.f k a.f1.f0 a.f1.f1).bind fun q => if p = q then (if q = true then (garnerref21_Set.f k ws a.f1).bind fun x => some (gput a.f1.f0 (relay_ofs a.f1.f1) ms, x) else some (ms, ws)) else none
def play_l0 (k : Nat) : List S50 → Mvs → List S35 → Option (Mvs × List S35)
 | [], ms, ws => some (ms, ws)
 | a :: r, ms, ws => (play_st k a ms ws).bind fun (ms1, ws1) => play_l0 k r ms1 ws1
def play_f (k : Nat) (l : List S50) : Option (Mvs × List S35) := play_l0 k l [] []
def play_T12 : Bool × List (List Nat × List Nat) := (true,
 [([], []), ([], []), ([1], [1]), ([2], [2]), ([], []), ([4], [4]), ([5], [5]), ([0, 3, 6], [0, 3, 6]), ([7], [7]),
  ([], []), ([9], [9]), ([10, 7], [10]), ([8, 11], [8, 11])])
def play_B12 : List Nat := [0, 0, 2, 6, 0, 16, 48, 127, 255, 0, 512, 1791, 4095]
theorem play_tab12 : rtab .any (opsOf Try.f8 12) = play_T12 := by kernel_rfl
theorem play_bits12 : waitsOk play_T12.2 play_B12 = true := by kernel_rfl
theorem cells3 {w : World} {k : Nat} {v0 v1 v2 : Value} {E : TypeId} (h : w.heap[k]? = some (.cells #[v0, v1, v2] E (0, 0))) :
  w.cell? ⟨k, 0, none⟩ = some v0 ∧ w.cell? ⟨k, 1, none⟩ = some v1 ∧ w.cell? ⟨k, 2, none⟩ = some v2 := by
 refine ⟨?_, ?_, ?_⟩ <;> simp [World.cell?, h]
theorem relay_Drop_t (w : World) (b m : Nat) (ms : Mvs) (seg : Int) (hR : Rl w b m ms) (h : (gat seg ms).isSome = true) :
  Calls Try.prog 10 #[.pointer (some ⟨b, 0, none⟩), .int .i64 seg] w fun e w' => e = .returned (.int .i64 0) ∧ Rl w' b m (gdel seg ms) ∧ Tn w w' m := by
 have h1 := relay_Drop w b m ms seg hR
 rw [h] at h1
 exact h1
theorem relay_Drop_f (w : World) (b m : Nat) (ms : Mvs) (seg : Int) (hR : Rl w b m ms) (h : (gat seg ms).isSome = false) :
  Calls Try.prog 10 #[.pointer (some ⟨b, 0, none⟩), .int .i64 seg] w fun e w' => e = .returned (.int .i64 3) ∧ Rl w' b m (gdel seg ms) ∧ Tn w w' m := by
 have h1 := relay_Drop w b m ms seg hR
 rw [h] at h1
 exact h1
theorem Rl.alloc {w : World} {b m : Nat} {ms : Mvs} (h : Rl w b m ms) (o : Obj) : Rl (w.alloc o) b m ms := h.below ((Below.refl _ _).alloc (Nat.le_refl _) o)
theorem Rl.drew {w : World} {b m : Nat} {ms : Mvs} (h : Rl w b m ms) : Rl w.drew b m ms := h.below (below_drew1 (Below.refl _ _))
theorem Rl.drewN {w : World} {b m : Nat} {ms : Mvs} (h : Rl w b m ms) (n : Nat) : Rl (w.drewN n) b m ms := h.below (pB (Below.refl w.heap.size w))
set_option maxHeartbeats 8000000 in
set_option maxRecDepth 100000 in
theorem play_calls (k : Nat) (A0 : Option Addr) (c0 : Nat) (l0 : List S50) (msF : Mvs) (wsF : List S35) (w : World) (hr0 : Kd.C k50 w A0 l0.length l0) (hc0 : l0.length ≤ c0) (h : play_f k l0 = some (msF, wsF)) :
  Calls Try.prog 8 #[.slice A0 l0.length c0] w fun e w' => ∃ b m v, e = .returned (.tuple #[.pointer (some ⟨b, 0, none⟩), v, .bool true]) ∧ Rl w' b m msF ∧ w.heap.size ≤ m ∧ Kd.V k35 35 w' w.heap.size (fun k_ => k_ ≠ m) v wsF ∧ Below w.heap.size w w' := by
 have hu50 := Try.underlying50
 have hu35 := Try.underlying35
 have hu37 := Try.underlying37
 have HC := Am hr0
 have HCC := Am hc0
 have HH := Am h
 have HB := Am (Below.refl w.heap.size w)
 have hn : l0.length ≤ 9223372036854775807 := Kd.C_max hr0
 clear hr0 hc0 h
 go_enter Try.func8, Try.ntmps8
 go_wp2_with (first
  | (go_at_call 14; refine (relay_New _).mono ?_; rintro e w1 ⟨b, m, rfl, hR, hm, h1⟩; have HR := Am hR; have Hm := Am (Nat.le_trans (below_size HB.out) hm); replace HB := Am (below_step (pB HB.out) h1); clear h1 hR hm)
  | ((with_reducible refine gate_dst (N := 12) rfl ?_); refine Kd.N_lit k35 _ 35 ?hg (N' := 12) ?hd (xs := ([] : List S35)) (inner := []) (ok := fun k_ => k_ ≠ m) (okp := fun k_ => k_ ≠ m) ?hr ?hp (fun _ hk => hk) (fun e => by have := HR.out.m_lt; omega) (Below.refl _ _) (Nat.le_refl _) (by simp) ?_; (case hd => rfl); (case hg => rfl); (case hr => first | (go_simp; done) | (go_simp; rfl)); (case hp => exact (Reps.none _ _)); intro v12 w2 ho hb hg_ hnew_; replace HR := Am (HR.out.below hb); replace HB := Am (below_step (pB HB.out) hb); have V12 := Am (show Kd.V k35 35 w2 w.heap.size (fun k_ => k_ ≠ m) v12 [] from Kd.N_V ho); clear hg_ hnew_ hb ho))
 go_loopw [6, 7] (fun v6 v7 wr => ∃ (i : Nat) (ms : Mvs) (ws : List S35), i ≤ l0.length ∧ v7 = .int .i64 i ∧ Aside0 (play_l0 k (l0.drop i) ms ws = some (msF, wsF)) ∧ Aside0 (Rl wr b m ms) ∧ Aside0 (Kd.V k35 35 wr w.heap.size (fun k_ => k_ ≠ m) v6 ws) ∧ Aside0 (Below w.heap.size w wr)) (fun _ v7 _ => l0.length - (intOf v7).toNat)
 case atStart => exact ⟨0, [], [], Nat.zero_le _, rfl, HH, HR, V12, HB⟩
 case round =>
  clear HH HR V12 HB
  obtain ⟨i, ms, ws, hi, rfl, HH, HR, V6, HB⟩ := hrel
  by_cases hlt : i < l0.length
  ·obtain ⟨ad, A2, c2, e0, h0, h1, h2, hc2, hC2, _, _, _⟩ := at_T50w HC.out (i : Int) (by omega) (by omega) HB.out
   subst e0
   simp only [Int.toNat_natCast] at h0 h1 h2
   have hlt' : ((i : Int) < (l0.length : Int)) := by omega
   have hi0 : (0 : Int) ≤ (i : Int) := by omega
   have hiw : IntKind.i64.wrap ((i : Int) + 1) = ((i + 1 : Nat) : Int) := by
    have h3 := IntWalk.i64_in ((i : Int) + 1) (by omega)
    omega
   have H := HH.out
   rw [List.drop_eq_getElem_cons hlt] at H
   have ea : rd_T50 l0 (i : Int) = l0[i] := by simp [rd_T50, hlt]
   rw [← ea] at H
   obtain ⟨⟨f0, seg, hops⟩, hx⟩ : ∃ x, x = rd_T50 l0 (i : Int) := ⟨_, rfl⟩
   rw [← hx] at H h0 h1 h2 hc2 hC2
   clear ea hx HH
   rw [play_l0] at H
   replace H := Option.bind_eq_some_iff.mp H
   obtain ⟨⟨ms1, ws1⟩, hst, H⟩ := H
   simp only at hst H
   obtain ⟨Aw, cw, rfl⟩ := Kd.V_slice V6.out
   have HC2 := Am hC2
   have HCC2 := Am hc2
   have HN := Am H
   have HW := Am hiw
   have hsz := HB.out.size
   have hmle := Hm.out
   have HML := Am HR.out.m_lt
   have HFo := Am (show Kd.F k37 wr (fun k_ => k_ ≠ m) A2 hops.length hops from Kd.F_mono (Kd.F_below (Kd.C_F k37_heap HC2.out) HB.out) (fun k_ hk => by omega))
   have HLT := Am (show i + 1 ≤ l0.length from hlt)
   clear hC2 hc2 H hiw hlt hi
   cases f0 with
   | true =>
    rw [play_st, if_pos rfl] at hst
    replace hst := Option.bind_eq_some_iff.mp hst
    obtain ⟨⟨x, ok⟩, hD, hst⟩ := hst
    simp only at hD hst
    by_cases hok : (gat seg ms).isSome = ok
    rotate_left
    ·rw [if_neg hok] at hst; cases hst
    rw [if_pos hok] at hst
    simp only [Option.some.injEq, Prod.mk.injEq] at hst
    obtain ⟨rfl, rfl⟩ := hst
    have HD := Am hD
    have HOK := Am hok
    clear hD hok hsz hmle
    cases ok
    focus
     go_wp2_with (first
      | (go_at_call 16; refine (garnerref21_Drop.calls k (fun k_ => k_ ≠ m) Aw cw ws seg x false _ (show Kd.V k35 35 _ _ _ _ _ from Kd.V_alloc V6.out _) HD.out).mono ?_; rintro e w2 ⟨v, rfl, hv, hb⟩; obtain ⟨Ax, cx, rfl⟩ := Kd.V_slice hv; replace HR := Am ((HR.out.alloc _).below hb); have V7 := Am (show Kd.V k35 35 w2 w.heap.size (fun k_ => k_ ≠ m) (.slice Ax x.length cx) x from Kd.V_mono hv (fun k_ hk => hk.elim id (fun h => by have := HML.out; simp at h; omega))); have BK := Am (box_behind hb); obtain ⟨b0, b1, b2⟩ := cells3 BK.out; replace HB := Am (below_step (pB HB.out) hb); clear hv hb)
      | (go_at_call 10; refine (relay_Drop_f _ b m ms seg HR.out HOK.out).mono ?_; rintro e w3 ⟨rfl, hR, hT⟩; replace HR := Am hR; replace V7 := Am (Kd.V_step V7.out (fun k_ hk hlt => hT.2 k_ hlt hk)); replace HB := Am (Below.trans HB.out (hT.1 w.heap.size (below_size HB.out) Hm.out)); clear hR hT))
     go_roundw
     case rel => exact ⟨i + 1, _, x, HLT.out, by first | rfl | (rw [HW.out]) | (rw [← HW.out]; rfl), HN, HR, V7, HB⟩
     case measure => have := HLT.out; simp [intOf]; omega
    focus
     go_wp2_with (first
      | (go_at_call 16; refine (garnerref21_Drop.calls k (fun k_ => k_ ≠ m) Aw cw ws seg x true _ (show Kd.V k35 35 _ _ _ _ _ from Kd.V_alloc V6.out _) HD.out).mono ?_; rintro e w2 ⟨v, rfl, hv, hb⟩; obtain ⟨Ax, cx, rfl⟩ := Kd.V_slice hv; replace HR := Am ((HR.out.alloc _).below hb); have V7 := Am (show Kd.V k35 35 w2 w.heap.size (fun k_ => k_ ≠ m) (.slice Ax x.length cx) x from Kd.V_mono hv (fun k_ hk => hk.elim id (fun h => by have := HML.out; simp at h; omega))); have BK := Am (box_behind hb); obtain ⟨b0, b1, b2⟩ := cells3 BK.out; replace HB := Am (below_step (pB HB.out) hb); clear hv hb)
      | (go_at_call 10; refine (relay_Drop_t _ b m ms seg HR.out HOK.out).mono ?_; rintro e w3 ⟨rfl, hR, hT⟩; replace HR := Am hR; replace V7 := Am (Kd.V_step V7.out (fun k_ hk hlt => hT.2 k_ hlt hk)); replace HB := Am (Below.trans HB.out (hT.1 w.heap.size (below_size HB.out) Hm.out)); clear hR hT))
     go_roundw
     case rel => exact ⟨i + 1, _, x, HLT.out, by first | rfl | (rw [HW.out]) | (rw [← HW.out]; rfl), HN, HR, V7, HB⟩
     case measure => have := HLT.out; simp [intOf]; omega
   | false =>
    rw [play_st, if_neg (by simp)] at hst
    replace hst := Option.bind_eq_some_iff.mp hst
    obtain ⟨p, hP, hst⟩ := hst
    replace hst := Option.bind_eq_some_iff.mp hst
    obtain ⟨q, hQ, hst⟩ := hst
    by_cases hpq : p = q
    rotate_left
    ·rw [if_neg hpq] at hst; cases hst
    rw [if_pos hpq] at hst
    subst hpq
    simp only at hP hQ
    have HP := Am hP
    have HQ := Am hQ
    clear hP hQ
    cases p
    focus
     simp only [Bool.false_eq_true, if_false, if_true] at hst
     simp only [Option.some.injEq, Prod.mk.injEq] at hst
     obtain ⟨rfl, rfl⟩ := hst
     clear hsz hmle
     go_wp2
     have BK := Am (show (wr.alloc (.cells #[.bool false, .int .i64 seg, .slice A2 hops.length c2] 50)).heap[wr.heap.size]? = some (.cells #[.bool false, .int .i64 seg, .slice A2 hops.length c2] 50 (0, 0)) from (MapKept.heap_alloc wr _).1)
     replace HR := Am (HR.out.alloc (.cells #[.bool false, .int .i64 seg, .slice A2 hops.length c2] 50))
     have V7 := Am (Kd.V_alloc V6.out (.cells #[.bool false, .int .i64 seg, .slice A2 hops.length c2] 50))
     have HF2 := Am (Kd.F_alloc HFo.out (.cells #[.bool false, .int .i64 seg, .slice A2 hops.length c2] 50))
     replace HB := Am (show Below w.heap.size w (wr.alloc (.cells #[.bool false, .int .i64 seg, .slice A2 hops.length c2] 50)) from pB HB.out)
     clear h0 h1 h2 V6 HFo
     obtain ⟨B, hB⟩ : ∃ B, B = wr.heap.size := ⟨_, rfl⟩
     rw [← hB] at BK ⊢
     have HBm := Am (show B ≠ m from by have := HML.out; omega)
     clear hB
     refine start_ (n := 13) (S := fun w' => cG w' B 0 (.bool false) ∧ cG w' B 1 (.int .i64 seg) ∧ cG w' B 2 (.slice A2 hops.length c2)) (ds := []) #[false, false, false, false, false, false, false, false, false, false, false, false, false] (by kernel_rfl) rfl rfl (cells3 (kDa BK).out) (fun hHeld => ?_)
     refine with_tabW play_tab12 play_bits12 (fun HT_ HW_ => ?_)
     replace HR := Am HR.out.drew
     replace V7 := dVa V7
     replace HF2 := Am (Kd.F_drew HF2.out)
     replace BK := kDa BK
     replace HB := bDa HB
     generalize (wr.alloc (.cells #[.bool false, .int .i64 seg, .slice A2 hops.length c2] 50)).drew = w2 at HR V7 HF2 BK HB hHeld ⊢
     refine pui 0 44 13 1 HT_ ?_
     refine pui 1 45 13 3 HT_ ?_
     refine pui 2 46 13 7 HT_ ?_
     refine tki 3 47 13 15 HT_ HW_ hHeld ?_
     refine pui 4 48 13 31 HT_ ?_
     refine pui 5 49 13 63 HT_ ?_
     refine tki 6 50 13 127 HT_ HW_ hHeld ?_
     refine pui 9 53 13 639 HT_ ?_
     refine tki 10 54 13 1663 HT_ HW_ hHeld ?_
     refine onei 7 51 13 1791 HT_ (fun K hK => ?_)
     refine goes_ Try.func15 (by kernel_rfl) rfl #[.pointer (some ⟨b, 0, none⟩), .int .i64 seg, .slice A2 hops.length c2] (by rfl) rfl rfl pL ?_
     refine (relay_Set _ b m ms seg A2 c2 hops k false HR.out (Kd.F_now HF2.out) HCC2.out HP.out).mono ?_
     simp only [Bool.false_eq_true, if_false, if_true]
     rintro e w3 ⟨rfl, hR, hT⟩
     refine ⟨_, rfl, ?_⟩
     replace BK := Am ((hT.2 B (blk_lt BK.out) HBm.out).trans BK.out)
     replace V7 := Am (Kd.V_step V7.out (fun k_ hk hlt => hT.2 k_ hlt hk))
     replace HF2 := Am (Kd.F_step HF2.out (fun k_ hk hlt => hT.2 k_ hlt hk))
     replace HB := Am (Below.trans HB.out (hT.1 w.heap.size (below_size HB.out) Hm.out))
     replace HR := Am hR
     clear hR hT
     refine hK.out _ _ (cells3 BK.out) (fun hHeld => ?_)
     clear hK K
     refine norm_ (a' := ?_) ?_ ?_
     rotate_left
     ·show Act.put _ (some 51) _ = _
      simp only [Act.put, List.setIfInBounds_toArray, List.set_cons_zero, List.set_cons_succ, i64_w, i32_w]
      rfl
     refine pui 8 52 13 2047 HT_ ?_
     refine onei 11 55 13 4095 HT_ (fun K hK => ?_)
     refine goes_ Try.func17 (by kernel_rfl) rfl #[.agg #[.int .i64 seg, .slice A2 hops.length c2]] (by rfl) rfl rfl pL ?_
     refine (garnerref21_May.calls k seg A2 c2 hops false _ (Kd.F_now HF2.out) HCC2.out HQ.out).mono ?_
     rintro e w4 ⟨rfl, hb⟩
     refine ⟨_, rfl, ?_⟩
     replace BK := Am ((hb.block B (blk_lt BK.out)).trans BK.out)
     replace V7 := Am (Kd.V_below V7.out hb)
     replace HF2 := Am (Kd.F_below HF2.out hb)
     replace HR := Am (HR.out.below hb)
     replace HB := Am (below_step HB.out hb)
     clear hb
     refine hK.out _ _ (cells3 BK.out) (fun hHeld => ?_)
     clear hK K
     refine norm_ (a' := ?_) ?_ ?_
     rotate_left
     ·show Act.put _ (some 55) _ = _
      simp only [Act.put, List.setIfInBounds_toArray, List.set_cons_zero, List.set_cons_succ, i64_w, i32_w]
      rfl
     refine pui 12 56 13 8191 HT_ ?_
     refine done_ (done_of HT_.out (by kernel_rfl)) ?_
     obtain ⟨b0, b1, b2⟩ := cells3 BK.out
     clear hHeld HT_ HW_
     go_wp2_with (go_at_call 17; refine (garnerref21_May.calls k seg A2 c2 hops false _ (Kd.F_now HF2.out) HCC2.out HQ.out).mono ?_; rintro e w5 ⟨rfl, hb⟩; replace BK := Am ((hb.block B (blk_lt BK.out)).trans BK.out); obtain ⟨d0, d1, d2⟩ := cells3 BK.out; replace V7 := Am (Kd.V_below V7.out hb); replace HF2 := Am (Kd.F_below HF2.out hb); replace HR := Am (HR.out.below hb); replace HML := Am HR.out.m_lt; replace HB := Am (below_step HB.out hb); clear hb)
     go_roundw
     case rel => exact ⟨i + 1, _, _, HLT.out, by first | rfl | (rw [HW.out]) | (rw [← HW.out]; rfl), HN, HR, V7, HB⟩
     case measure => have := HLT.out; simp [intOf]; omega
    focus
     simp only [Bool.false_eq_true, if_false, if_true] at hst
     replace hst := Option.bind_eq_some_iff.mp hst
     obtain ⟨x, hS, hst⟩ := hst
     simp only [Option.some.injEq, Prod.mk.injEq] at hst
     obtain ⟨rfl, rfl⟩ := hst
     have HS := Am hS
     clear hS
     clear hsz hmle
     go_wp2
     have BK := Am (show (wr.alloc (.cells #[.bool false, .int .i64 seg, .slice A2 hops.length c2] 50)).heap[wr.heap.size]? = some (.cells #[.bool false, .int .i64 seg, .slice A2 hops.length c2] 50 (0, 0)) from (MapKept.heap_alloc wr _).1)
     replace HR := Am (HR.out.alloc (.cells #[.bool false, .int .i64 seg, .slice A2 hops.length c2] 50))
     have V7 := Am (Kd.V_alloc V6.out (.cells #[.bool false, .int .i64 seg, .slice A2 hops.length c2] 50))
     have HF2 := Am (Kd.F_alloc HFo.out (.cells #[.bool false, .int .i64 seg, .slice A2 hops.length c2] 50))
     replace HB := Am (show Below w.heap.size w (wr.alloc (.cells #[.bool false, .int .i64 seg, .slice A2 hops.length c2] 50)) from pB HB.out)
     clear h0 h1 h2 V6 HFo
     obtain ⟨B, hB⟩ : ∃ B, B = wr.heap.size := ⟨_, rfl⟩
     rw [← hB] at BK ⊢
     have HBm := Am (show B ≠ m from by have := HML.out; omega)
     clear hB
     refine start_ (n := 13) (S := fun w' => cG w' B 0 (.bool false) ∧ cG w' B 1 (.int .i64 seg) ∧ cG w' B 2 (.slice A2 hops.length c2)) (ds := []) #[false, false, false, false, false, false, false, false, false, false, false, false, false] (by kernel_rfl) rfl rfl (cells3 (kDa BK).out) (fun hHeld => ?_)
     refine with_tabW play_tab12 play_bits12 (fun HT_ HW_ => ?_)
     replace HR := Am HR.out.drew
     replace V7 := dVa V7
     replace HF2 := Am (Kd.F_drew HF2.out)
     replace BK := kDa BK
     replace HB := bDa HB
     generalize (wr.alloc (.cells #[.bool false, .int .i64 seg, .slice A2 hops.length c2] 50)).drew = w2 at HR V7 HF2 BK HB hHeld ⊢
     refine pui 0 44 13 1 HT_ ?_
     refine pui 1 45 13 3 HT_ ?_
     refine pui 2 46 13 7 HT_ ?_
     refine tki 3 47 13 15 HT_ HW_ hHeld ?_
     refine pui 4 48 13 31 HT_ ?_
     refine pui 5 49 13 63 HT_ ?_
     refine tki 6 50 13 127 HT_ HW_ hHeld ?_
     refine pui 9 53 13 639 HT_ ?_
     refine tki 10 54 13 1663 HT_ HW_ hHeld ?_
     refine onei 7 51 13 1791 HT_ (fun K hK => ?_)
     refine goes_ Try.func15 (by kernel_rfl) rfl #[.pointer (some ⟨b, 0, none⟩), .int .i64 seg, .slice A2 hops.length c2] (by rfl) rfl rfl pL ?_
     refine (relay_Set _ b m ms seg A2 c2 hops k true HR.out (Kd.F_now HF2.out) HCC2.out HP.out).mono ?_
     simp only [Bool.false_eq_true, if_false, if_true]
     rintro e w3 ⟨rfl, hR, hT⟩
     refine ⟨_, rfl, ?_⟩
     replace BK := Am ((hT.2 B (blk_lt BK.out) HBm.out).trans BK.out)
     replace V7 := Am (Kd.V_step V7.out (fun k_ hk hlt => hT.2 k_ hlt hk))
     replace HF2 := Am (Kd.F_step HF2.out (fun k_ hk hlt => hT.2 k_ hlt hk))
     replace HB := Am (Below.trans HB.out (hT.1 w.heap.size (below_size HB.out) Hm.out))
     replace HR := Am hR
     clear hR hT
     refine hK.out _ _ (cells3 BK.out) (fun hHeld => ?_)
     clear hK K
     refine norm_ (a' := ?_) ?_ ?_
     rotate_left
     ·show Act.put _ (some 51) _ = _
      simp only [Act.put, List.setIfInBounds_toArray, List.set_cons_zero, List.set_cons_succ, i64_w, i32_w]
      rfl
     refine pui 8 52 13 2047 HT_ ?_
     refine onei 11 55 13 4095 HT_ (fun K hK => ?_)
     refine goes_ Try.func17 (by kernel_rfl) rfl #[.agg #[.int .i64 seg, .slice A2 hops.length c2]] (by rfl) rfl rfl pL ?_
     refine (garnerref21_May.calls k seg A2 c2 hops true _ (Kd.F_now HF2.out) HCC2.out HQ.out).mono ?_
     rintro e w4 ⟨rfl, hb⟩
     refine ⟨_, rfl, ?_⟩
     replace BK := Am ((hb.block B (blk_lt BK.out)).trans BK.out)
     replace V7 := Am (Kd.V_below V7.out hb)
     replace HF2 := Am (Kd.F_below HF2.out hb)
     replace HR := Am (HR.out.below hb)
     replace HB := Am (below_step HB.out hb)
     clear hb
     refine hK.out _ _ (cells3 BK.out) (fun hHeld => ?_)
     clear hK K
     refine norm_ (a' := ?_) ?_ ?_
     rotate_left
     ·show Act.put _ (some 55) _ = _
      simp only [Act.put, List.setIfInBounds_toArray, List.set_cons_zero, List.set_cons_succ, i64_w, i32_w]
      rfl
     refine pui 12 56 13 8191 HT_ ?_
     refine done_ (done_of HT_.out (by kernel_rfl)) ?_
     obtain ⟨b0, b1, b2⟩ := cells3 BK.out
     clear hHeld HT_ HW_
     go_wp2_with (first
      | (go_at_call 17; refine (garnerref21_May.calls k seg A2 c2 hops true _ (Kd.F_now HF2.out) HCC2.out HQ.out).mono ?_; rintro e w5 ⟨rfl, hb⟩; replace BK := Am ((hb.block B (blk_lt BK.out)).trans BK.out); obtain ⟨d0, d1, d2⟩ := cells3 BK.out; replace V7 := Am (Kd.V_below V7.out hb); replace HF2 := Am (Kd.F_below HF2.out hb); replace HR := Am (HR.out.below hb); replace HML := Am HR.out.m_lt; replace HB := Am (below_step HB.out hb); clear hb)
      | (go_at_call 18; refine (garnerref21_Set.calls k (fun k_ => k_ ≠ m) Aw cw ws seg A2 c2 hops x _ (show Kd.V k35 35 _ _ _ _ _ from V7.out) (Kd.V_mk HCC2.out HF2.out) HS.out).mono ?_; rintro e w6 ⟨v, rfl, hv, hb⟩; replace HR := Am (HR.out.below hb); have V8 := Am (show Kd.V k35 35 w6 w.heap.size (fun k_ => k_ ≠ m) v x from Kd.V_mono hv (fun k_ hk => hk.elim id (fun h => by have := HML.out; omega))); replace HB := Am (below_step HB.out hb); clear hv hb))
     go_roundw
     case rel => exact ⟨i + 1, _, x, HLT.out, by first | rfl | (rw [HW.out]) | (rw [← HW.out]; rfl), HN, HR, V8, HB⟩
     case measure => have := HLT.out; simp [intOf]; omega
  ·have hkl : i = l0.length := by omega
   subst hkl
   have H := HH.out
   rw [List.drop_length, play_l0] at H
   simp only [Option.some.injEq, Prod.mk.injEq] at H
   obtain ⟨rfl, rfl⟩ := H
   go_wp2
   go_ret3
   exact ⟨_, _, _, rfl, HR.out, Hm.out, V6.out, HB.out⟩
theorem Rl.ne_cells {w : World} {b m g : Nat} {ms : Mvs} {xs : Array Value} {s : TypeId} (h : Rl w b m ms) (hg : w.heap[g]? = some (.cells xs s (0, 0))) : g ≠ m := by
 obtain ⟨_, _, ⟨es, c, h2, _⟩, _⟩ := h
 rintro rfl
 rw [hg] at h2
 cases h2
theorem box_behindN {w w1 : World} {xs : Array Value} {s : TypeId} {n : Nat} (h : Below ((w.alloc (.cells xs s)).drewN n).heap.size ((w.alloc (.cells xs s)).drewN n) w1) : w1.heap[w.heap.size]? = some (.cells xs s (0, 0)) := by
 have hs : ((w.alloc (.cells xs s)).drewN n).heap.size = w.heap.size + 1 := by show (w.alloc (.cells xs s)).heap.size = _; simp
 exact (h.block _ (by rw [hs]; omega)).trans (MapKept.heap_alloc w _).1
end
section
def keysA_ren : Go.Shelf.Ren := ⟨fun | 7 => 22 | 10 => 27 | n => n, fun | 23 => 59 | 26 => 3 | 3 => 58 | 28 => 65 | 0 => 0 | 27 => 64 | 33 => 70 | 4 => 4 | n => n, fun | n => n⟩
theorem keysA : Go.Proofs.SlLaysZI.n7 Try.prog keysA_ren := {
  mixed := by kernel_rfl
  f7 := ⟨Try.f22.name, by decide, Try.func22.trans (congrArg some (by kernel_rfl))⟩
  f10 := ⟨Try.f27.name, by decide, Try.func27.trans (congrArg some (by kernel_rfl))⟩
  t0 := Try.underlying0
  a0 := Try.isAgg0
  z0 := Try.sizeOf0
  v0 := Try.zeroValue0
  t4 := Try.underlying4
  a4 := Try.isAgg4
  z4 := Try.sizeOf4
  v4 := Try.zeroValue4
  t23 := Try.underlying59
  a23 := Try.isAgg59
  z23 := Try.sizeOf59
  v23 := Try.zeroValue59
  t26 := Try.underlying3
  a26 := Try.isAgg3
  z26 := Try.sizeOf3
  v26 := Try.zeroValue3
  t27 := Try.underlying64
  a27 := Try.isAgg64
  z27 := Try.sizeOf64
  v27 := Try.zeroValue64
  t28 := Try.underlying65
  a28 := Try.isAgg65
  z28 := Try.sizeOf65
  v28 := Try.zeroValue65
  t33 := Try.underlying70
  a33 := Try.isAgg70
  z33 := Try.sizeOf70
  v33 := Try.zeroValue70 }
def sortedA_ren : Go.Shelf.Ren := ⟨fun | 6 => 21 | 8 => 25 | 9 => 26 | 11 => 28 | 13 => 30 | 12 => 29 | 23 => 40 | 24 => 41 | 14 => 31 | 15 => 32 | 16 => 33 | 17 => 34 | 18 => 35 | 19 => 36 | 20 => 37 | 21 => 38 | 22 => 39 | 25 => 42 | 26 => 43 | 27 => 44 | 28 => 45 | 29 => 46 | 30 => 47 | 31 => 48 | n => n, fun | 26 => 3 | 28 => 65 | 24 => 43 | 0 => 0 | 3 => 3 | 37 => 74 | 48 => 23 | 50 => 86 | 4 => 4 | 40 => 77 | 39 => 76 | 45 => 82 | 5 => 5 | 9 => 9 | 51 => 87 | 55 => 91 | 57 => 93 | 58 => 94 | 33 => 70 | n => n, fun | n => n⟩
theorem sortedA : Go.Proofs.SlLaysZI.n6 Try.prog sortedA_ren := {
  mixed := by kernel_rfl
  f6 := ⟨Try.f21.name, by decide, Try.func21.trans (congrArg some (by kernel_rfl))⟩
  f8 := ⟨Try.f25.name, by decide, Try.func25.trans (congrArg some (by kernel_rfl))⟩
  f11 := ⟨Try.f28.name, by decide, Try.func28.trans (congrArg some (by kernel_rfl))⟩
  t0 := Try.underlying0
  a0 := Try.isAgg0
  z0 := Try.sizeOf0
  v0 := Try.zeroValue0
  t24 := Try.underlying43
  a24 := Try.isAgg43
  z24 := Try.sizeOf43
  v24 := Try.zeroValue43
  t26 := Try.underlying3
  a26 := Try.isAgg3
  z26 := Try.sizeOf3
  v26 := Try.zeroValue3
  t28 := Try.underlying65
  a28 := Try.isAgg65
  z28 := Try.sizeOf65
  v28 := Try.zeroValue65
  i26 := by kernel_rfl }
def sortA_ren : Go.Shelf.Ren := ⟨fun | 5 => 26 | 8 => 30 | 7 => 29 | 19 => 40 | 20 => 41 | 10 => 31 | 11 => 32 | 12 => 33 | 13 => 34 | 14 => 35 | 15 => 36 | 16 => 37 | 17 => 38 | 18 => 39 | 30 => 42 | 31 => 43 | 32 => 44 | 33 => 45 | 34 => 46 | 35 => 47 | 40 => 48 | n => n, fun | 23 => 43 | 25 => 3 | 3 => 3 | 32 => 74 | 22 => 43 | 0 => 0 | 44 => 23 | 46 => 86 | 4 => 4 | 36 => 77 | 35 => 76 | 41 => 82 | 5 => 5 | 9 => 9 | 53 => 87 | 57 => 91 | 63 => 93 | 64 => 94 | n => n, fun | n => n⟩
theorem sortA : Go.Proofs.SlLaysM.n5 Try.prog sortA_ren := {
  mixed := by kernel_rfl
  f5 := ⟨Try.f26.name, by decide, Try.func26.trans (congrArg some (by kernel_rfl))⟩
  f7 := ⟨Try.f29.name, by decide, Try.func29.trans (congrArg some (by kernel_rfl))⟩
  f8 := Try.func30.trans (congrArg some (by kernel_rfl))
  f10 := ⟨Try.f31.name, by decide, Try.func31.trans (congrArg some (by kernel_rfl))⟩
  f11 := ⟨Try.f32.name, by decide, Try.func32.trans (congrArg some (by kernel_rfl))⟩
  f12 := ⟨Try.f33.name, by decide, Try.func33.trans (congrArg some (by kernel_rfl))⟩
  f13 := ⟨Try.f34.name, by decide, Try.func34.trans (congrArg some (by kernel_rfl))⟩
  f14 := ⟨Try.f35.name, by decide, Try.func35.trans (congrArg some (by kernel_rfl))⟩
  f15 := ⟨Try.f36.name, by decide, Try.func36.trans (congrArg some (by kernel_rfl))⟩
  f16 := ⟨Try.f37.name, by decide, Try.func37.trans (congrArg some (by kernel_rfl))⟩
  f17 := ⟨Try.f38.name, by decide, Try.func38.trans (congrArg some (by kernel_rfl))⟩
  f18 := ⟨Try.f39.name, by decide, Try.func39.trans (congrArg some (by kernel_rfl))⟩
  f19 := Try.func40.trans (congrArg some (by kernel_rfl))
  f20 := Try.func41.trans (congrArg some (by kernel_rfl))
  f30 := ⟨Try.f42.name, by decide, Try.func42.trans (congrArg some (by kernel_rfl))⟩
  f31 := Try.func43.trans (congrArg some (by kernel_rfl))
  f32 := Try.func44.trans (congrArg some (by kernel_rfl))
  f33 := ⟨Try.f45.name, by decide, Try.func45.trans (congrArg some (by kernel_rfl))⟩
  f34 := ⟨Try.f46.name, by decide, Try.func46.trans (congrArg some (by kernel_rfl))⟩
  f35 := ⟨Try.f47.name, by decide, Try.func47.trans (congrArg some (by kernel_rfl))⟩
  f40 := ⟨Try.f48.name, by decide, Try.func48.trans (congrArg some (by kernel_rfl))⟩
  t0 := Try.underlying0
  a0 := Try.isAgg0
  z0 := Try.sizeOf0
  v0 := Try.zeroValue0
  t3 := Try.underlying3
  a3 := Try.isAgg3
  z3 := Try.sizeOf3
  v3 := Try.zeroValue3
  t4 := Try.underlying4
  a4 := Try.isAgg4
  z4 := Try.sizeOf4
  v4 := Try.zeroValue4
  t5 := Try.underlying5
  a5 := Try.isAgg5
  z5 := Try.sizeOf5
  v5 := Try.zeroValue5
  t9 := Try.underlying9
  a9 := Try.isAgg9
  z9 := Try.sizeOf9
  v9 := Try.zeroValue9
  t22 := Try.underlying43
  a22 := Try.isAgg43
  z22 := Try.sizeOf43
  v22 := Try.zeroValue43
  t23 := Try.underlying43
  a23 := Try.isAgg43
  z23 := Try.sizeOf43
  v23 := Try.zeroValue43
  t25 := Try.underlying3
  a25 := Try.isAgg3
  z25 := Try.sizeOf3
  v25 := Try.zeroValue3
  t32 := Try.underlying74
  a32 := Try.isAgg74
  z32 := Try.sizeOf74
  v32 := Try.zeroValue74
  t35 := Try.underlying76
  a35 := Try.isAgg76
  z35 := Try.sizeOf76
  v35 := Try.zeroValue76
  t36 := Try.underlying77
  a36 := Try.isAgg77
  z36 := Try.sizeOf77
  v36 := Try.zeroValue77
  t41 := Try.underlying82
  a41 := Try.isAgg82
  z41 := Try.sizeOf82
  v41 := Try.zeroValue82
  t44 := Try.underlying23
  a44 := Try.isAgg23
  z44 := Try.sizeOf23
  v44 := Try.zeroValue23
  t46 := Try.underlying86
  a46 := Try.isAgg86
  z46 := Try.sizeOf86
  v46 := Try.zeroValue86
  t53 := Try.underlying87
  a53 := Try.isAgg87
  z53 := Try.sizeOf87
  v53 := Try.zeroValue87
  t57 := Try.underlying91
  a57 := Try.isAgg91
  z57 := Try.sizeOf91
  v57 := Try.zeroValue91
  t63 := Try.underlying93
  a63 := Try.isAgg93
  z63 := Try.sizeOf93
  v63 := Try.zeroValue93
  t64 := Try.underlying94
  a64 := Try.isAgg94
  z64 := Try.sizeOf94
  v64 := Try.zeroValue94 }
/-- slices.Sort's two contracts at this dump, at the fence that asks nothing. -/
theorem sortsA (m : Nat) : AnyZI.SortsIn Try.prog sortedA_ren Fence.wide m :=
  ⟨fun blk off cap ss W hH hblk hsz => callsIn_wide.2 (AnyM.slices_Sort_int sortA blk off cap ss W hH hblk hsz),
   fun p cap W => callsIn_wide.2 (AnyM.slices_Sort_int_none sortA p cap W)⟩
/-- A map of whole numbers in the library's words. -/
theorem IM.owns {w : World} {m : Nat} {g : List (Int × Value)} (h : IM w m g) (hk : ∀ p ∈ g, (Lit.int .i64 p.1).wf = true) (hl : g.length ≤ maxLen) :
    ∃ D0 : DataW Unit, w.ownsMap Try.prog 3 (fun _ => some (.lit (.bool true), [])) m g.length D0 ∧ (Go.intKeys D0).Perm (g.map (·.1)) ∧ Maps.size D0 = g.length := by
  obtain ⟨es, c, hb, he, hst⟩ := h
  have hlen : es.toList.length = g.length := by
    have h1 := congrArg List.length he
    simpa using h1
  have hrd : ∀ (l : List MapEntry) (g : List (Int × Value)), l.map (fun e => (e.key, e.val)) = g.map (fun p => (Value.int .i64 p.1, p.2)) → (∀ p ∈ g, (Lit.int .i64 p.1).wf = true) →
      (∀ x ∈ l, ∃ y, Go.WideElems.rd Try.prog 3 (H := Unit) (fun _ => some (.lit (.bool true), [])) x = some y) ∧ (l.map (Go.WideElems.rg Try.prog 3 (H := Unit) (fun _ => some (.lit (.bool true), [])))).map (fun p => Go.intOf p.1) = g.map (·.1) := by
    intro l
    induction l with
    | nil =>
      intro g h _
      cases g with
      | nil => exact ⟨fun x hx => (by cases hx), rfl⟩
      | cons p r => simp at h
    | cons e l ih =>
      intro g h hw
      cases g with
      | nil => simp at h
      | cons p r =>
        simp only [List.map_cons, List.cons.injEq, Prod.mk.injEq] at h
        obtain ⟨⟨h1, h2⟩, h3⟩ := h
        obtain ⟨h4, h5⟩ := ih r h3 (fun q hq => hw q (List.mem_cons_of_mem _ hq))
        have hko : keyOf Try.prog 3 e.key = some (.int .i64 p.1) := by rw [h1]; exact Maps.keyOf_int_mk Try.underlying3 (hw p List.mem_cons_self)
        have hre : Go.WideElems.rd Try.prog 3 (H := Unit) (fun _ => some (.lit (.bool true), [])) e = some (.int .i64 p.1, .lit (.bool true)) := by simp [Go.WideElems.rd, hko]
        refine ⟨fun x hx => ?_, ?_⟩
        · rcases List.mem_cons.1 hx with rfl | hx
          · exact ⟨_, hre⟩
          · exact h4 x hx
        · simp only [List.map_cons, h5, Go.WideElems.rg, hre, Option.getD_some]
          rfl
  obtain ⟨h1, h2⟩ := hrd es.toList g he hk
  refine ⟨_, ⟨es, c, hb, ⟨by simpa using (by omega : es.toList.length ≤ maxLen), hst, h1⟩, by simpa using (by omega : es.toList.length ≤ g.length), rfl⟩, ?_, ?_⟩
  · rw [← h2]
    exact (Go.WideShapes.sorted_perm _).map _
  · show ((es.toList.map _).foldr DataW.insert []).length = _
    rw [length_sorted, List.length_map, hlen]
set_option maxHeartbeats 4000000 in
set_option maxRecDepth 100000 in
theorem relay_Segs (w : World) (b m : Nat) (ms : List (Int × List (Int × S25))) (hR : Rl w b m ms) (hk : ∀ p ∈ ms, (Lit.int .i64 p.1).wf = true) (hl : ms.length ≤ 1000000) :
    Calls Try.prog 12 #[.pointer (some ⟨b, 0, none⟩)] w fun e w' => ∃ v, e = .returned v ∧ Kd.R (Kd.int .i64) 3 w' w.heap.size (fun _ => True) v ((ms.map (·.1)).mergeSort fun x y => decide (x ≤ y)) ∧ Below w.heap.size w w' := by
  have hu61 := Try.underlying61
  have hu59 := Try.underlying59
  have hbl := hR.m_lt
  obtain ⟨hb, g, hm, _, hms⟩ := hR
  have hc : w.cell? ⟨b, 0, none⟩ = some (.map (some m)) := by simp [World.cell?, hb]
  have hgk : ∀ p ∈ g.map (fun p => (p.1, Value.map (some p.2.1))), (Lit.int .i64 p.1).wf = true := by
    intro p hp
    obtain ⟨q, hq, rfl⟩ := List.mem_map.1 hp
    exact hk (q.1, q.2.2) (by rw [hms]; exact List.mem_map.2 ⟨q, hq, rfl⟩)
  have hgl : (g.map (fun p => (p.1, Value.map (some p.2.1)))).length ≤ 1000000 := by rw [hms] at hl; simpa using hl
  obtain ⟨D0, hown, hperm, hsize⟩ := hm.owns hgk (by unfold maxLen; omega)
  have hkeys : (g.map (fun p => (p.1, Value.map (some p.2.1)))).map (·.1) = ms.map (·.1) := by rw [hms]; simp
  rw [hkeys] at hperm
  have hseq : SeqGives Fence.wide 2 Try.prog 27 #[.pointer (some ⟨w.heap.size, 0, none⟩)] encZ (fun ss => ss.Perm (Go.intKeys D0)) (Maps.size D0) (w.alloc (.cells #[.map (some m)] 59)) :=
    AnyZI.keys_gives (ρ := keysA_ren) { keysA with } Fence.wide _ trivial rfl (by omega) w.heap.size m _ D0 _ (by simp) (by simp) (by
      obtain ⟨es, clock, hb, Ft, hs, hD⟩ := hown
      exact ⟨es, clock, (Below.heap_alloc _ _ m hbl).trans hb, Ft, hs, hD⟩)
  have cK : Calls Try.prog 22 #[.map (some m)] w fun e w' => e = .returned (.func (.func 27) #[] #[.pointer (some ⟨w.heap.size, 0, none⟩)]) ∧ w' = w.alloc (.cells #[.map (some m)] 59) := (callsIn_wide (n := 5)).1 (AnyZI.keys_in keysA Fence.wide 5 trivial rfl (some m) w)
  have cS0 := AnyZI.sorted_in sortedA Fence.wide 5 trivial trivial trivial trivial rfl (by omega) (sortsA _) (enters_of Try.func26 (by kernel_rfl) rfl) 27 #[.pointer (some ⟨w.heap.size, 0, none⟩)] trivial (enters_of Try.func27 (by kernel_rfl) rfl) _ _ (by rw [hsize]; unfold maxLen; omega) (by rw [hsize]; omega) _ hseq
  change CallsIn _ _ Try.prog 21 _ _ _ at cS0
  have cS := (callsIn_wide (n := 5)).1 cS0
  have HCS := Am cS
  have HCK := Am cK
  clear cS0 cS cK hseq hown
  go_enter Try.func12, Try.ntmps12
  go_wp2_with (first
    | (go_at_call 19; refine (relay_is _ _ _ hb).mono ?_; rintro e w1 ⟨rfl, hw⟩; rw [hw])
    | (go_at_call 22; refine HCK.out.mono ?_; rintro e w1 ⟨rfl, hw⟩; rw [hw])
    | (go_at_call 21; refine HCS.out.mono ?_; rintro e w1 ⟨v, ss, rfl, hS, hrow, hnil, hbb⟩; have HS := Am hS; have HROW := Am hrow; have HBB := Am hbb; clear hS hrow hnil hbb))
  go_ret
  have hsort : ss.mergeSort (fun x y => decide (x ≤ y)) = (ms.map (·.1)).mergeSort (fun x y => decide (x ≤ y)) := mergeSort_of_perm_i (HS.out.trans hperm)
  refine ⟨v, rfl, ?_, ((Below.refl _ w).alloc (Nat.le_refl _) _).trans (HBB.out.mono (by simp))⟩
  rw [← hsort]
  refine Kd.R_of_own ?_ (fun _ _ => trivial)
  have h1 := own_weaken (base' := w.heap.size) HROW.out (by simp)
  have h2 : (ss.mergeSort fun x y => decide (x ≤ y)).length = ss.length := List.length_mergeSort _
  rw [h2]
  exact h1
end
section
def skeys (ms : Mvs) : List Int := (ms.map (·.1)).mergeSort fun x y => decide (x ≤ y)
def same6 (r : S25 × Int × Int) (x0 x1 x2 x3 n e : Int) : Prop := r.1.f0 = x0 ∧ r.1.f1 = x1 ∧ r.1.f2 = x2 ∧ r.1.f3 = x3 ∧ r.2.1 = n ∧ r.2.2 = e
instance (r : S25 × Int × Int) (x0 x1 x2 x3 n e : Int) : Decidable (same6 r x0 x1 x2 x3 n e) := by unfold same6; infer_instance
def garnerlaw21_RelayFinds.f (k : Nat) (l : List S50) (p0 p1 p2 p3 : Int) : Option Bool :=
 (garnerlaw21_light.f k l).bind fun lt => if lt = false then some true else
 (play_f k l).bind fun (ms, ws) =>
 if ms.length ≤ 1000000 ∧ ws.length ≤ 1000000 ∧ (ms.all fun p => decide (1 ≤ p.1 ∧ p.1 ≤ 2147483647)) = true then
  (garnerref03_Ints.f k (skeys ms) (ws.map (·.f0))).bind fun q => if q = false then none else
  (relay_Find.f k ms ⟨p0, p1, p2, p3⟩).bind fun r1 =>
  (garnerref04_May.f p0 p1 p2 p3).bind fun mp =>
  if mp = false then (if same6 r1 0 0 0 0 0 1 then some true else none) else
  (garnerref21_Find.f k ws p0 p1 p2 p3).bind fun (x0, x1, x2, x3, n, there) =>
  if there = false then (if same6 r1 0 0 0 0 0 3 then some true else none) else
  if same6 r1 x0 x1 x2 x3 n 0 ∧ x2 = p2 ∧ x3 = p3 ∧ n ≤ (ws.length : Int) then some true else none
 else none
theorem garnerlaw21_RelayFinds.only {k : Nat} {l : List S50} {p0 p1 p2 p3 : Int} {r : Bool} (h : garnerlaw21_RelayFinds.f k l p0 p1 p2 p3 = some r) : r = true := by
 unfold garnerlaw21_RelayFinds.f at h
 obtain ⟨lt, _, h⟩ := Option.bind_eq_some_iff.mp h
 split at h
 ·exact (Option.some.inj h).symm
 obtain ⟨⟨ms, ws⟩, _, h⟩ := Option.bind_eq_some_iff.mp h
 simp only at h
 split at h
 rotate_left
 ·cases h
 obtain ⟨q, _, h⟩ := Option.bind_eq_some_iff.mp h
 split at h
 ·cases h
 obtain ⟨r1, _, h⟩ := Option.bind_eq_some_iff.mp h
 obtain ⟨mp, _, h⟩ := Option.bind_eq_some_iff.mp h
 split at h
 ·split at h
  ·exact (Option.some.inj h).symm
  ·cases h
 obtain ⟨⟨x0, x1, x2, x3, n, there⟩, _, h⟩ := Option.bind_eq_some_iff.mp h
 simp only at h
 split at h
 ·split at h
  ·exact (Option.some.inj h).symm
  ·cases h
 split at h
 ·exact (Option.some.inj h).symm
 ·cases h
theorem info3 : (Try.prog.info? 3).map (fun i => (i.zero, i.size, i.bytes)) = some (some (.int .i64 0), 1, 8) := by kernel_rfl
theorem segs_snoc (ws : List S35) (i : Nat) (hi : i < ws.length) : (ws.take (i + 1)).map (·.f0) = (ws.take i).map (·.f0) ++ [(rd_T35 ws (i : Int)).f0] := by
 have e : rd_T35 ws (i : Int) = ws[i] := by simp [rd_T35, hi]
 rw [e, List.take_succ_eq_append_getElem hi, List.map_append]
 rfl
set_option maxHeartbeats 8000000 in
set_option maxRecDepth 100000 in
theorem garnerlaw21_RelayFinds.calls (k : Nat) (A0 : Option Addr) (c0 : Nat) (l0 : List S50) (a1_0 : Int) (a1_1 : Int) (a1_2 : Int) (a1_3 : Int) (r : Bool) (w : World) (hr0 : Kd.C k50 w A0 l0.length l0) (hc0 : l0.length ≤ c0) (h : garnerlaw21_RelayFinds.f k l0 a1_0 a1_1 a1_2 a1_3 = some r) :
  Calls Try.prog 4 #[.slice A0 l0.length c0, .agg #[.int .i64 a1_0, .int .i64 a1_1, .int .i64 a1_2, .int .u32 a1_3]] w fun e w' => e = .returned (.bool r) ∧ Below w.heap.size w w' := by
 obtain rfl := garnerlaw21_RelayFinds.only h
 have hu25 := Try.underlying25
 have hu35 := Try.underlying35
 have HB := Am (Below.refl w.heap.size w)
 have HC := Am hr0
 have HCC := Am hc0
 clear hr0 hc0
 replace h := Option.bind_eq_some_iff.mp h
 obtain ⟨lt, hlt, h⟩ := h
 have HLT := Am hlt
 clear hlt
 cases lt
 focus
  clear h
  go_enter Try.func4, Try.ntmps4
  go_wp2_with (first
   | (go_at_call 5; refine (garnerlaw21_light.calls k _ _ l0 false _ (Kd.C_below HC.out (pB HB.out)) HCC.out HLT.out).mono ?_; rintro e w1 ⟨rfl, nd, rfl⟩)
   | (go_at_call 7; refine (awake_walk _).mono ?_; rintro e w2 ⟨rfl, h1⟩; replace HB := Am (below_step (pB HB.out) h1); clear h1))
  go_ret
  exact ⟨rfl, pB HB.out⟩
 rw [if_neg (by simp)] at h
 replace h := Option.bind_eq_some_iff.mp h
 obtain ⟨⟨ms, ws⟩, hpl, h⟩ := h
 simp only at h
 split at h
 rotate_left
 ·cases h
 rename_i hok
 replace h := Option.bind_eq_some_iff.mp h
 obtain ⟨q, hints, h⟩ := h
 cases q
 ·rw [if_pos rfl] at h; cases h
 rw [if_neg (by simp)] at h
 replace h := Option.bind_eq_some_iff.mp h
 obtain ⟨⟨⟨q0, q1, q2, q3⟩, n, e⟩, hf1, h⟩ := h
 replace h := Option.bind_eq_some_iff.mp h
 obtain ⟨mp, hmp, h⟩ := h
 have HPL := Am hpl
 have HOK := Am hok
 have HIN := Am hints
 have HF1 := Am hf1
 have HMP := Am hmp
 have HH := Am h
 clear hpl hok hints hf1 hmp h
 go_enter Try.func4, Try.ntmps4
 go_wp2_with (first
   | (go_at_call 5; refine (garnerlaw21_light.calls k _ _ l0 true _ (Kd.C_below HC.out (pB HB.out)) HCC.out HLT.out).mono ?_; rintro e w1 ⟨rfl, nd, rfl⟩)
   | (go_at_call 8; refine (play_calls k _ _ l0 ms ws _ (Kd.C_below HC.out (pB HB.out)) HCC.out HPL.out).mono ?_; rintro e w3 ⟨b, m, v, rfl, hR, hm, hV, h1⟩; obtain ⟨Aw, cw, rfl⟩ := Kd.V_slice hV; have HR := Am hR; have HV := Am hV; have HM := Am (Nat.le_trans (below_size (pB HB.out)) hm); have BX := Am (box_behindN h1); replace HB := Am (below_step (pB HB.out) h1); clear hR hV hm h1)
   | ((with_reducible refine gate_dst (N := 26) rfl ?_); refine Kd.R_lit (Kd.int .i64) _ 3 ?hg (N := 26) ?hd (xs := ([] : List Int)) (inner := []) (ok := fun _ => True) (okp := fun _ => True) ?hr ?hp (fun _ hk => hk) trivial (Below.refl _ _) (Nat.le_refl _) (by simp) ?_; (case hd => rfl); (case hg => rfl); (case hr => first | (go_simp; done) | (go_simp; rfl)); (case hp => exact (Reps.none _ _)); intro v26 w4 ho hb hg_ hnew_; have S0 := Am ho; have HB3 := Am hb; clear ho hb hg_ hnew_))
 have hwn : ws.length ≤ 9223372036854775807 := Kd.C_max (Kd.V_reads' HV.out).2.2
 go_loopw [8, 9] (fun v8 v9 wr => ∃ i : Nat, i ≤ ws.length ∧ v9 = .int .i64 i ∧ Aside0 (Kd.R (Kd.int .i64) 3 wr w3.heap.size (fun _ => True) v8 ((ws.take i).map (·.f0))) ∧ Aside0 (Below w3.heap.size w3 wr)) (fun _ v9 _ => ws.length - (intOf v9).toNat)
 case atStart => exact ⟨0, Nat.zero_le _, rfl, S0, HB3⟩
 case round =>
  clear S0 HB3
  obtain ⟨i, hi, rfl, S0, HB3⟩ := hrel
  by_cases hlt : i < ws.length
  ·obtain ⟨ad, A2, c2, e0, h0, h1, hc2, hC2⟩ := at_T35 (Kd.C_below (Kd.V_reads' HV.out).2.2 HB3.out) (i : Int) (by omega) (by omega)
   subst e0
   simp only [Int.toNat_natCast] at h0
   have hlt' : ((i : Int) < (ws.length : Int)) := by omega
   have hi0 : (0 : Int) ≤ (i : Int) := by omega
   have hiw : IntKind.i64.wrap ((i : Int) + 1) = ((i + 1 : Nat) : Int) := by
    have h3 := IntWalk.i64_in ((i : Int) + 1) (by omega)
    omega
   obtain ⟨y, hy⟩ : ∃ y, y = (rd_T35 ws (i : Int)).f0 := ⟨_, rfl⟩
   rw [← hy] at h0
   have HY := Am hy
   have HLTI := Am hlt
   clear h1 hc2 hC2 hy hlt hi
   go_wp2_with ((with_reducible refine gate_builtin (b := .append) (xs := #[.tmp 33, .tmp 39]) rfl ?_); at_builtin; refine Kd.R_append (Kd.int .i64) (w0 := w3) w3.heap.size rfl (.tmp 33) (.tmp 39) 43 3 (.int .i64 0) 8 rfl Try.underlying43 info3 rfl (by decide) (by omega) u8 ((ws.take i).map (·.f0)) y [.int .i64 y] (fun _ => True) (fun _ => False) rfl rfl rfl (fun _ hk => hk.elim) (fun _ _ => trivial) ?aO ?aB ?aS ?aL ?_; (case aO => exact S0.out); (case aB => exact HB3.out); (case aS => exact below_size HB3.out); (case aL => have := HOK.out; have := HLTI.out; simp only [List.length_map, List.length_take]; omega); intro v1 w5 ho hb hg hat; replace S0 := Am ho; replace HB3 := Am hb; clear ho hb hg hat)
   go_roundw
   case rel => exact ⟨i + 1, HLTI.out, by first | rfl | (rw [hiw]) | (rw [← hiw]; rfl), ⟨by rw [segs_snoc ws i HLTI.out, ← HY.out]; exact S0.out⟩, HB3⟩
   case measure => have := HLTI.out; simp [intOf]; omega
  ·have hie : i = ws.length := by omega
   subst hie
   clear hlt hi
   rw [List.take_length] at S0
   obtain ⟨sg, hsg⟩ : ∃ x, x = ws.map (·.f0) := ⟨_, rfl⟩
   obtain ⟨ks, hks⟩ : ∃ x, x = skeys ms := ⟨_, rfl⟩
   rw [← hsg] at S0
   have HIN2 := HIN.out
   rw [← hsg, ← hks] at HIN2
   replace HIN := Am HIN2
   have HKS := Am hks
   clear hsg hks HIN2
   obtain ⟨Au, cu, rfl⟩ := Kd.R_slice S0.out
   have hbb := HB3.out
   replace HR := Am (HR.out.below hbb)
   replace BX := Am ((hbb.block _ (blk_lt BX.out)).trans BX.out)
   replace HV := Am (Kd.V_below HV.out hbb)
   replace HB := Am (below_step (pB HB.out) hbb)
   clear hbb HB3 hwn
   have HK := Am (show ∀ p ∈ ms, (Lit.int .i64 p.1).wf = true from fun p hp => by
    have h1 := of_decide_eq_true (List.all_eq_true.1 HOK.out.2.2 p hp)
    exact WalkArith.wf_i64 (by omega))
   have h := HH.out
   clear HH
   cases mp with
   | false =>
    rw [if_pos rfl] at h
    split at h
    rotate_left
    ·cases h
    rename_i hs
    clear h
    obtain ⟨h1, h2, h3, h4, h5, h6⟩ := hs
    simp only at h1 h2 h3 h4 h5 h6
    subst h1 h2 h3 h4 h5 h6
    go_wp2_with
    (first
     | (go_at_call 12; refine (relay_Segs _ b m ms HR.out HK.out HOK.out.1).mono ?_; rintro e w5 ⟨v, rfl, hrow, hb⟩; replace hrow : Kd.R (Kd.int .i64) 3 w5 wr.heap.size (fun _ => True) v ks := (by rw [HKS.out]; exact hrow); obtain ⟨As, cs, rfl⟩ := Kd.R_slice hrow; have SS := Am hrow; replace S0 := Am (Kd.R_below S0.out hb); replace HR := Am (HR.out.below hb); replace BX := Am ((hb.block _ (blk_lt BX.out)).trans BX.out); replace HV := Am (Kd.V_below HV.out hb); replace HB := Am (below_step (pB HB.out) hb); clear hrow hb)
     | (go_at_call 11; refine (garnerref03_Ints.calls k As cs ks Au cu sg true _ (Kd.R_reads' SS.out).2.2 (Kd.R_reads' SS.out).2.1 (Kd.R_reads' S0.out).2.2 (Kd.R_reads' S0.out).2.1 HIN.out).mono ?_; rintro e w6 ⟨rfl, ⟨nd2, hw6⟩⟩; replace HR := Am (show Rl w6 b m ms from by rw [hw6]; exact HR.out.drewN nd2); replace BX := Am (show w6.heap[w.heap.size]? = some (.cells #[.int .i64 a1_0, .int .i64 a1_1, .int .i64 a1_2, .int .u32 a1_3] 25 (0, 0)) from by rw [hw6]; exact BX.out); replace HV := Am (show Kd.V k35 35 w6 w.heap.size (fun k_ => k_ ≠ m) (.slice Aw ws.length cw) ws from by rw [hw6]; exact Kd.V_drewN HV.out nd2); replace HB := Am (show Below w.heap.size w w6 from by rw [hw6]; exact pB HB.out); clear hw6 S0 SS; obtain ⟨b0, b1, b2, b3, bf⟩ := cells4 BX.out)
     | (go_at_call 9; refine (relay_Find.calls _ b m ms ⟨a1_0, a1_1, a1_2, a1_3⟩ k _ HR.out HF1.out).mono ?_; rintro e w7 ⟨rfl, h1⟩; replace BX := Am ((h1.block _ (blk_lt BX.out)).trans BX.out); replace HV := Am (Kd.V_below HV.out h1); replace HB := Am (below_step (pB HB.out) h1); have BX7 := Am (fun o => blk_alloc BX.out o); have BY7 := Am (fun o => (MapKept.heap_alloc w7 o).1); have d0a := fun o => (cells4 (BX7.out o)).1; have d1a := fun o => (cells4 (BX7.out o)).2.1; have d2a := fun o => (cells4 (BX7.out o)).2.2.1; have d3a := fun o => (cells4 (BX7.out o)).2.2.2.1; clear h1)
     | (go_at_call 6; refine (garnerref04_May.calls a1_0 a1_1 a1_2 a1_3 false _ HMP.out).mono ?_; rintro e w8 ⟨rfl, h1⟩; have BX8 := Am ((h1.block _ (blk_lt (BX7.out _))).trans (BX7.out _)); have BY8 := Am ((h1.block _ (blk_lt (BY7.out _))).trans (BY7.out _)); replace HV := Am (Kd.V_below (Kd.V_alloc HV.out _) h1); replace HB := Am (below_step (pB HB.out) h1); clear h1 d0a d1a d2a d3a; obtain ⟨e0, e1, e2, e3, ef⟩ := cells4 BX8.out; obtain ⟨g0, g1, g2, g3, gf⟩ := cells4 BY8.out)
     | (go_at_call 7; refine (awake_walk _).mono ?_; rintro e w2 ⟨rfl, h1⟩; replace HB := Am (below_step (pB HB.out) h1); clear h1))
    go_ret
    exact ⟨rfl, pB HB.out⟩
   | true =>
    rw [if_neg (by simp)] at h
    replace h := Option.bind_eq_some_iff.mp h
    obtain ⟨⟨x0, x1, x2, x3, n2, there⟩, hf2, h⟩ := h
    simp only at hf2 h
    cases there with
    | false =>
     rw [if_pos rfl] at h
     split at h
     rotate_left
     ·cases h
     rename_i hs
     clear h
     obtain ⟨h1, h2, h3, h4, h5, h6⟩ := hs
     simp only at h1 h2 h3 h4 h5 h6
     subst h1 h2 h3 h4 h5 h6
     have HF2 := Am hf2
     clear hf2
     go_wp2_with
    (first
      | (go_at_call 12; refine (relay_Segs _ b m ms HR.out HK.out HOK.out.1).mono ?_; rintro e w5 ⟨v, rfl, hrow, hb⟩; replace hrow : Kd.R (Kd.int .i64) 3 w5 wr.heap.size (fun _ => True) v ks := (by rw [HKS.out]; exact hrow); obtain ⟨As, cs, rfl⟩ := Kd.R_slice hrow; have SS := Am hrow; replace S0 := Am (Kd.R_below S0.out hb); replace HR := Am (HR.out.below hb); replace BX := Am ((hb.block _ (blk_lt BX.out)).trans BX.out); replace HV := Am (Kd.V_below HV.out hb); replace HB := Am (below_step (pB HB.out) hb); clear hrow hb)
      | (go_at_call 11; refine (garnerref03_Ints.calls k As cs ks Au cu sg true _ (Kd.R_reads' SS.out).2.2 (Kd.R_reads' SS.out).2.1 (Kd.R_reads' S0.out).2.2 (Kd.R_reads' S0.out).2.1 HIN.out).mono ?_; rintro e w6 ⟨rfl, ⟨nd2, hw6⟩⟩; replace HR := Am (show Rl w6 b m ms from by rw [hw6]; exact HR.out.drewN nd2); replace BX := Am (show w6.heap[w.heap.size]? = some (.cells #[.int .i64 a1_0, .int .i64 a1_1, .int .i64 a1_2, .int .u32 a1_3] 25 (0, 0)) from by rw [hw6]; exact BX.out); replace HV := Am (show Kd.V k35 35 w6 w.heap.size (fun k_ => k_ ≠ m) (.slice Aw ws.length cw) ws from by rw [hw6]; exact Kd.V_drewN HV.out nd2); replace HB := Am (show Below w.heap.size w w6 from by rw [hw6]; exact pB HB.out); clear hw6 S0 SS; obtain ⟨b0, b1, b2, b3, bf⟩ := cells4 BX.out)
      | (go_at_call 9; refine (relay_Find.calls _ b m ms ⟨a1_0, a1_1, a1_2, a1_3⟩ k _ HR.out HF1.out).mono ?_; rintro e w7 ⟨rfl, h1⟩; replace BX := Am ((h1.block _ (blk_lt BX.out)).trans BX.out); replace HV := Am (Kd.V_below HV.out h1); replace HB := Am (below_step (pB HB.out) h1); have BX7 := Am (fun o => blk_alloc BX.out o); have BY7 := Am (fun o => (MapKept.heap_alloc w7 o).1); have d0a := fun o => (cells4 (BX7.out o)).1; have d1a := fun o => (cells4 (BX7.out o)).2.1; have d2a := fun o => (cells4 (BX7.out o)).2.2.1; have d3a := fun o => (cells4 (BX7.out o)).2.2.2.1; clear h1)
      | (go_at_call 6; refine (garnerref04_May.calls a1_0 a1_1 a1_2 a1_3 true _ HMP.out).mono ?_; rintro e w8 ⟨rfl, h1⟩; have BX8 := Am ((h1.block _ (blk_lt (BX7.out _))).trans (BX7.out _)); have BY8 := Am ((h1.block _ (blk_lt (BY7.out _))).trans (BY7.out _)); replace HV := Am (Kd.V_below (Kd.V_alloc HV.out _) h1); replace HB := Am (below_step (pB HB.out) h1); clear h1 d0a d1a d2a d3a; obtain ⟨e0, e1, e2, e3, ef⟩ := cells4 BX8.out; obtain ⟨g0, g1, g2, g3, gf⟩ := cells4 BY8.out)
      | (go_at_call 13; refine (garnerref21_Find.calls k Aw cw ws a1_0 a1_1 a1_2 a1_3 x0 x1 x2 x3 n2 false _ (Kd.V_reads' HV.out).2.2 (Kd.V_reads' HV.out).2.1 HF2.out).mono ?_; rintro e w9 ⟨rfl, h1⟩; have BX9 := Am ((h1.block _ (blk_lt BX8.out)).trans BX8.out); have BY9 := Am ((h1.block _ (blk_lt BY8.out)).trans BY8.out); have BX9a := Am (fun o => blk_alloc BX9.out o); have BY9a := Am (fun o => blk_alloc BY9.out o); replace HB := Am (below_step (pB HB.out) h1); clear h1; have e0a := fun o => (cells4 (BX9a.out o)).1; have e1a := fun o => (cells4 (BX9a.out o)).2.1; have e2a := fun o => (cells4 (BX9a.out o)).2.2.1; have e3a := fun o => (cells4 (BX9a.out o)).2.2.2.1; have g0a := fun o => (cells4 (BY9a.out o)).1; have g1a := fun o => (cells4 (BY9a.out o)).2.1; have g2a := fun o => (cells4 (BY9a.out o)).2.2.1; have g3a := fun o => (cells4 (BY9a.out o)).2.2.2.1)
      | (go_at_call 7; refine (awake_walk _).mono ?_; rintro e w2 ⟨rfl, h1⟩; replace HB := Am (below_step (pB HB.out) h1); clear h1))
     go_ret
     exact ⟨rfl, pB HB.out⟩
    | true =>
     rw [if_neg (by simp)] at h
     split at h
     rotate_left
     ·cases h
     rename_i hs
     clear h
     obtain ⟨⟨h1, h2, h3, h4, h5, h6⟩, h7, h8, h9⟩ := hs
     simp only at h1 h2 h3 h4 h5 h6
     subst h1 h2 h3 h4 h5 h6 h7 h8
     have HF2 := Am hf2
     clear hf2
     go_wp2_with
    (first
      | (go_at_call 12; refine (relay_Segs _ b m ms HR.out HK.out HOK.out.1).mono ?_; rintro e w5 ⟨v, rfl, hrow, hb⟩; replace hrow : Kd.R (Kd.int .i64) 3 w5 wr.heap.size (fun _ => True) v ks := (by rw [HKS.out]; exact hrow); obtain ⟨As, cs, rfl⟩ := Kd.R_slice hrow; have SS := Am hrow; replace S0 := Am (Kd.R_below S0.out hb); replace HR := Am (HR.out.below hb); replace BX := Am ((hb.block _ (blk_lt BX.out)).trans BX.out); replace HV := Am (Kd.V_below HV.out hb); replace HB := Am (below_step (pB HB.out) hb); clear hrow hb)
      | (go_at_call 11; refine (garnerref03_Ints.calls k As cs ks Au cu sg true _ (Kd.R_reads' SS.out).2.2 (Kd.R_reads' SS.out).2.1 (Kd.R_reads' S0.out).2.2 (Kd.R_reads' S0.out).2.1 HIN.out).mono ?_; rintro e w6 ⟨rfl, ⟨nd2, hw6⟩⟩; replace HR := Am (show Rl w6 b m ms from by rw [hw6]; exact HR.out.drewN nd2); replace BX := Am (show w6.heap[w.heap.size]? = some (.cells #[.int .i64 a1_0, .int .i64 a1_1, .int .i64 q2, .int .u32 q3] 25 (0, 0)) from by rw [hw6]; exact BX.out); replace HV := Am (show Kd.V k35 35 w6 w.heap.size (fun k_ => k_ ≠ m) (.slice Aw ws.length cw) ws from by rw [hw6]; exact Kd.V_drewN HV.out nd2); replace HB := Am (show Below w.heap.size w w6 from by rw [hw6]; exact pB HB.out); clear hw6 S0 SS; obtain ⟨b0, b1, b2, b3, bf⟩ := cells4 BX.out)
      | (go_at_call 9; refine (relay_Find.calls _ b m ms ⟨a1_0, a1_1, q2, q3⟩ k _ HR.out HF1.out).mono ?_; rintro e w7 ⟨rfl, h1⟩; replace BX := Am ((h1.block _ (blk_lt BX.out)).trans BX.out); replace HV := Am (Kd.V_below HV.out h1); replace HB := Am (below_step (pB HB.out) h1); have BX7 := Am (fun o => blk_alloc BX.out o); have BY7 := Am (fun o => (MapKept.heap_alloc w7 o).1); have d0a := fun o => (cells4 (BX7.out o)).1; have d1a := fun o => (cells4 (BX7.out o)).2.1; have d2a := fun o => (cells4 (BX7.out o)).2.2.1; have d3a := fun o => (cells4 (BX7.out o)).2.2.2.1; clear h1)
      | (go_at_call 6; refine (garnerref04_May.calls a1_0 a1_1 q2 q3 true _ HMP.out).mono ?_; rintro e w8 ⟨rfl, h1⟩; have BX8 := Am ((h1.block _ (blk_lt (BX7.out _))).trans (BX7.out _)); have BY8 := Am ((h1.block _ (blk_lt (BY7.out _))).trans (BY7.out _)); replace HV := Am (Kd.V_below (Kd.V_alloc HV.out _) h1); replace HB := Am (below_step (pB HB.out) h1); clear h1 d0a d1a d2a d3a; obtain ⟨e0, e1, e2, e3, ef⟩ := cells4 BX8.out; obtain ⟨g0, g1, g2, g3, gf⟩ := cells4 BY8.out)
      | (go_at_call 13; refine (garnerref21_Find.calls k Aw cw ws a1_0 a1_1 q2 q3 q0 q1 q2 q3 n true _ (Kd.V_reads' HV.out).2.2 (Kd.V_reads' HV.out).2.1 HF2.out).mono ?_; rintro e w9 ⟨rfl, h1⟩; have BX9 := Am ((h1.block _ (blk_lt BX8.out)).trans BX8.out); have BY9 := Am ((h1.block _ (blk_lt BY8.out)).trans BY8.out); have BX9a := Am (fun o => blk_alloc BX9.out o); have BY9a := Am (fun o => blk_alloc BY9.out o); replace HB := Am (below_step (pB HB.out) h1); clear h1; have e0a := fun o => (cells4 (BX9a.out o)).1; have e1a := fun o => (cells4 (BX9a.out o)).2.1; have e2a := fun o => (cells4 (BX9a.out o)).2.2.1; have e3a := fun o => (cells4 (BX9a.out o)).2.2.2.1; have g0a := fun o => (cells4 (BY9a.out o)).1; have g1a := fun o => (cells4 (BY9a.out o)).2.1; have g2a := fun o => (cells4 (BY9a.out o)).2.2.1; have g3a := fun o => (cells4 (BY9a.out o)).2.2.2.1)
      | (go_at_call 7; refine (awake_walk _).mono ?_; rintro e w2 ⟨rfl, h1⟩; replace HB := Am (below_step (pB HB.out) h1); clear h1))
     go_ret
     exact ⟨rfl, pB HB.out⟩
end
end Go.Proofs.Ytklpoeaoojgljaa.PRelayFinds
