/- What the law reaches, as plain Lean functions, and that the machine's calls answer just that. -/
import Derived.Test.YtpefjfibhjnijaaPLivePutsx17
namespace Go.Proofs.Ytpefjfibhjnijaa.PLivePuts
open Go.RowKit Go.Proofs.YtpefjfibhjnijaaW.PrintWords Go.Proofs.YtpefjfibhjnijaaW.PrintLast Go.Proofs.YtpefjfibhjnijaaW.PrintMore
set_option linter.unusedVariables false
set_option linter.unusedSimpArgs false
set_option maxHeartbeats 4000000 in
set_option maxRecDepth 100000 in
theorem of1 (w : World) (B : Nat) (s : Int) (x : S24) (hb : w.heap[B]? = some (.cells #[.int .i64 s] 3 (0, 0))) : Calls Try.prog 31 #[pv x, .pointer (some ⟨B, 0, none⟩)] w fun e w' => e = .returned (.bool (!decide (x.f0 = s))) ∧ Below w.heap.size w w' := by
 have hu24 := Try.underlying24
 have hc : w.cell? ⟨B, 0, none⟩ = some (.int .i64 s) := blk_cell hb 0
 have hlt := blk_lt hb
 obtain ⟨w1, hw1⟩ : ∃ w1, w.alloc (.cells #[.int .i64 x.f0, .int .i64 x.f1, .int .i64 x.f2, .int .u32 x.f3] 24) = w1 := ⟨_, rfl⟩
 have hb1 : Below w.heap.size w w1 := by rw [← hw1]; exact (Below.refl _ w).alloc (Nat.le_refl _) _
 have hc1 : w1.cell? ⟨B, 0, none⟩ = some (.int .i64 s) := blk_cell ((hb1.block _ hlt).trans hb) 0
 obtain ⟨q0, q1, q2, q3⟩ := bc4 (show w1.heap[w.heap.size]? = some (.cells #[.int .i64 x.f0, .int .i64 x.f1, .int .i64 x.f2, .int .u32 x.f3] 24 (0, 0)) by rw [← hw1]; exact World.alloc_heap_new w _)
 obtain ⟨q, hq⟩ : ∃ q, w.heap.size = q := ⟨_, rfl⟩
 rw [hq] at q0 q1 q2 q3
 unfold pv
 by_cases hs : x.f0 = s
 ·have h1 : (x.f0 != s) = false := by simp [hs]
  have h2 : decide (x.f0 = s) = true := decide_eq_true hs
  rw [h2]
  have HB := Am hb1
  clear hs hb1 h2 hlt
  go_enter Try.func31, Try.ntmps31
  go_wp2
  go_ret
  exact ⟨rfl, by first | exact HB.out | (rw [hw1]; exact HB.out)⟩
 ·have h1 : (x.f0 != s) = true := by simp [hs]
  have h2 : decide (x.f0 = s) = false := decide_eq_false hs
  rw [h2]
  have HB := Am hb1
  clear hs hb1 h2 hlt
  go_enter Try.func31, Try.ntmps31
  go_wp2
  go_ret
  exact ⟨rfl, by first | exact HB.out | (rw [hw1]; exact HB.out)⟩
/-- The first place whose point is of another segment. -/
def firstN (s : Int) : List S24 → Nat
 | [] => 0
 | x :: r => if x.f0 = s then firstN s r + 1 else 0
theorem firstN_le (s : Int) : ∀ l : List S24, firstN s l ≤ l.length
 | [] => Nat.le_refl _
 | x :: r => by
  simp only [firstN]
  split
  ·have := firstN_le s r; simp; omega
  ·simp
theorem firstN_all (s : Int) : ∀ l : List S24, firstN s l = l.length → l.filter (fun x => decide (x.f0 = s)) = l
 | [], _ => rfl
 | x :: r, h => by
  simp only [firstN] at h
  split at h
  ·rename_i e
   rw [List.filter_cons_of_pos (by simpa using e), firstN_all s r (by simpa using h)]
  ·simp at h
theorem firstN_take (s : Int) : ∀ l : List S24, (l.take (firstN s l)).filter (fun x => decide (x.f0 = s)) = l.take (firstN s l)
 | [] => rfl
 | x :: r => by
  simp only [firstN]
  split
  ·rename_i e
   rw [List.take_succ_cons, List.filter_cons_of_pos (by simpa using e), firstN_take s r]
  ·rfl
theorem firstN_at (s : Int) : ∀ (l : List S24) (h : firstN s l < l.length), ¬ (l[firstN s l]'h).f0 = s
 | [], h => absurd h (by simp [firstN])
 | x :: r, h => by
  by_cases e : x.f0 = s
  ·have e2 : firstN s (x :: r) = firstN s r + 1 := by simp [firstN, e]
   have h2 : firstN s r < r.length := by rw [e2] at h; simpa using h
   have := firstN_at s r h2
   simpa [e2] using this
  ·have e2 : firstN s (x :: r) = 0 := by simp [firstN, e]
   simpa [e2] using e
theorem firstN_before (s : Int) : ∀ (l : List S24) (i : Nat) (h : i < l.length), (∀ j, j < i → ∀ hj : j < l.length, (l[j]'hj).f0 = s) → ¬ (l[i]'h).f0 = s → firstN s l = i
 | [], i, h, _, _ => by simp at h
 | x :: r, 0, h, _, h2 => by
  have h2' : ¬ x.f0 = s := h2
  simp [firstN, h2']
 | x :: r, i + 1, h, h1, h2 => by
  have h3 : x.f0 = s := h1 0 (by omega) (by simp)
  have := firstN_before s r i (by simpa using h) (fun j hj hjl => h1 (j + 1) (by omega) (by simpa using hjl)) h2
  simp [firstN, h3, this]
set_option maxHeartbeats 4000000 in
set_option maxRecDepth 100000 in
theorem index31 (w : World) (A : Option Addr) (c B : Nat) (s : Int) (l : List S24) (hr : Kd.C k24 w A l.length l) (hc : l.length ≤ c) (hb : w.heap[B]? = some (.cells #[.int .i64 s] 3 (0, 0))) :
  Calls Try.prog 52 #[.slice A l.length c, .func (.func 31) #[] #[.pointer (some ⟨B, 0, none⟩)]] w fun e w' => e = .returned (.int .i64 (if firstN s l = l.length then -1 else (firstN s l : Int))) ∧ Below w.heap.size w w' := by
 have hu24 := Try.underlying24
 have HR := Am hr
 have HBX := Am hb
 have hn : l.length ≤ 9223372036854775807 := Kd.C_max hr
 obtain ⟨R, hR⟩ : ∃ R : Int, R = (if firstN s l = l.length then -1 else (firstN s l : Int)) := ⟨_, rfl⟩
 rw [← hR]
 have HRR := Am hR
 clear hr hb hR
 go_enter Try.func52, Try.ntmps52
 go_wp2
 go_loopw [8] (fun v8 wr => ∃ i : Nat, i ≤ l.length ∧ v8 = .int .i64 i ∧ Aside0 (∀ j, j < i → ∀ hj : j < l.length, (l[j]'hj).f0 = s) ∧ Aside0 (Below w.heap.size w wr)) (fun v8 _ => l.length - (intOf v8).toNat)
 case atStart => exact ⟨0, Nat.zero_le _, rfl, ⟨fun j h => by omega⟩, ⟨Below.refl _ _⟩⟩
 case round =>
  obtain ⟨i, hi, rfl, HJ, HB⟩ := hrel
  by_cases hlt : i < l.length
  ·obtain ⟨ad, e0, h0, h1, h2, h3⟩ := at_T24u HR.out (i : Int) (by omega) (by omega) HB.out
   subst e0
   simp only [Int.toNat_natCast] at h0 h1 h2 h3
   have hlt' : ((i : Int) < (l.length : Int)) := by omega
   obtain ⟨x, hx⟩ : ∃ x, x = rd_T24 l (i : Int) := ⟨_, rfl⟩
   have hxi : x = l[i] := by rw [hx]; simp [rd_T24, hlt]
   rw [← hx] at h0 h1 h2 h3
   have HX := Am hxi
   have hB2 := Am ((HB.out.block _ (blk_lt HBX.out)).trans HBX.out)
   clear hx hxi
   by_cases he : x.f0 = s
   ·have HE := Am he
    have hd : decide (x.f0 = s) = true := decide_eq_true he
    clear he
    go_wp2_with (first | ((with_reducible refine gate_callee (f := 31) rfl ?_); go_loud (refine goesL_ (some 16) rfl rfl Try.func31 (by kernel_rfl) rfl #[.agg #[.int .i64 x.f0, .int .i64 x.f1, .int .i64 x.f2, .int .u32 x.f3], .pointer (some ⟨B, 0, none⟩)] rfl rfl ?_; refine (of1 _ B s x hB2.out).mono ?_; rintro e w3 ⟨rfl, hb3⟩; rw [hd]; refine ⟨_, rfl, ?_⟩; have HB3 := Am (below_step HB.out hb3); clear hb3)) | (go_at_call 31; refine (of1 _ B s x hB2.out).mono ?_; rintro e w3 ⟨rfl, hb3⟩; rw [hd]; have HB3 := Am (below_step HB.out hb3); clear hb3))
    go_roundw
    case rel =>
     refine ⟨i + 1, by omega, by go_num, ⟨fun j hj hjl => ?_⟩, HB3⟩
     by_cases e : j = i
     ·subst e
      rw [← HX.out]
      exact HE.out
     ·exact HJ.out j (by omega) hjl
    case measure => simp [intOf]; omega
   ·have HE := Am he
    have hd : decide (x.f0 = s) = false := decide_eq_false he
    clear he
    go_wp2_with (first | (go_at_call 31; refine (of1 _ B s x hB2.out).mono ?_; rintro e w3 ⟨rfl, hb3⟩; rw [hd]; have HB3 := Am (below_step HB.out hb3); clear hb3))
    go_ret
    have hf := firstN_before s l i hlt HJ.out (by rw [← HX.out]; exact HE.out)
    refine ⟨?_, HB3.out⟩
    rw [HRR.out, hf, if_neg (by omega)]
    rfl
  ·have hkl : i = l.length := by omega
   subst hkl
   go_wp2
   go_ret
   have hf : firstN s l = l.length := by
    rcases Nat.lt_or_ge (firstN s l) l.length with h | h
    ·exact absurd (HJ.out _ h h) (firstN_at s l h)
    ·exact Nat.le_antisymm (firstN_le s l) h
   refine ⟨?_, HB.out⟩
   rw [HRR.out, if_pos hf]
   rfl
theorem flat4_len : ∀ l : List S24, (flat4 l).length = l.length * 4
 | [] => rfl
 | x :: l => by
  rw [flat4, List.length_append, flat4_len l, List.length_cons]
  show 4 + _ = _
  omega
theorem flat4_get : ∀ (l : List S24) (j : Nat) (h : j < l.length) (k : Nat), k < 4 → (flat4 l)[j * 4 + k]? = (cs4 (l[j]'h))[k]?
 | [], j, h, _, _ => by simp at h
 | x :: l, 0, _, k, hk => by
  rw [flat4, List.getElem?_append_left (by show _ < 4; omega)]
  simp
 | x :: l, j + 1, h, k, hk => by
  rw [flat4, List.getElem?_append_right (by show 4 ≤ _; omega)]
  have e : (j + 1) * 4 + k - (cs4 x).length = j * 4 + k := by show _ - 4 = _; omega
  rw [e, flat4_get l j (by simpa using h) k hk]
  rfl
theorem flat4_append : ∀ a b : List S24, flat4 (a ++ b) = flat4 a ++ flat4 b
 | [], _ => rfl
 | x :: a, b => by rw [List.cons_append, flat4, flat4, flat4_append a b, List.append_assoc]
theorem flat4_set : ∀ (l : List S24) (i : Nat) (x : S24), i < l.length → flat4 (l.set i x) = ((((flat4 l).set (i * 4) (.int .i64 x.f0)).set (i * 4 + 1) (.int .i64 x.f1)).set (i * 4 + 2) (.int .i64 x.f2)).set (i * 4 + 3) (.int .u32 x.f3)
 | [], i, x, h => by simp at h
 | y :: l, 0, x, _ => rfl
 | y :: l, i + 1, x, h => by
  rw [List.set_cons_succ, flat4, flat4_set l i x (by simpa using h), flat4]
  have e : ∀ k, (i + 1) * 4 + k = 4 + (i * 4 + k) := fun k => by omega
  have hh : ∀ (L : List Value) (k : Nat) (v : Value), (cs4 y ++ L).set (4 + k) v = cs4 y ++ L.set k v := fun L k v => by
   rw [List.set_append_right _ _ (by show 4 ≤ _; omega)]
   show _ ++ L.set (4 + k - 4) v = _
   rw [Nat.add_sub_cancel_left]
  rw [show (i + 1) * 4 = 4 + i * 4 by omega, hh, show 4 + i * 4 + 1 = 4 + (i * 4 + 1) by omega, hh, show 4 + i * 4 + 2 = 4 + (i * 4 + 2) by omega, hh, show 4 + i * 4 + 3 = 4 + (i * 4 + 3) by omega, hh]
theorem take_set4 (L : List Value) (m i : Nat) (a b c d : Value) : ((((L.set (i * 4) a).set (i * 4 + 1) b).set (i * 4 + 2) c).set (i * 4 + 3) d).take m = ((((L.take m).set (i * 4) a).set (i * 4 + 1) b).set (i * 4 + 2) c).set (i * 4 + 3) d := by
 simp only [List.take_set]
section
variable {P : Program}
theorem run_clear_row4 (w : World) (t e ty : TypeId) (z : Value) (ht : P.underlying t = some (.slice e)) (hv : ∀ w, (zeroValue e).run P w = .ok z w) (g o n c : Nat) (hn : 0 < n) (cur : Array Value) (T : TypeId) (hg : w.heap[g]? = some (.cells cur T (0, 0)))
  (zs : List Value) (hz : zs = (Builtin.zeroCells z.cells n).toList) (h1 : ∀ u ∈ zs, u.oneCell' = true) (hfit : o + zs.length ≤ cur.size) :
  (Builtin.clear_ #[t] ty #[.slice (some ⟨g, o, none⟩) n c]).run P w = .ok (.tuple #[]) (w.setRow g (cur.toList.take o ++ zs ++ cur.toList.drop (o + zs.length)).toArray) := by
 have hst := run_storeCells_at P g o T zs 0 cur w hg (by simpa using hfit) h1
 simp only [Nat.add_zero] at hst
 cases n with
 | zero => omega
 | succ n => simp [Builtin.clear_, run_underlying ht, hv, ← hz, hst]
theorem wpList_clear4 (w : World) {ops : Array Oper} {rest : List Oper} {o : Oper} {a : Act} {Q : Exit → Act → World → Prop} (hgd : o.guard = none) (s : Operand) (t : TypeId)
  (ho : o.op = .call { callee := .builtin .clear, args := #[s], argTypes := #[t] }) (v : Value) (hs : a.eval s = v) {v' : Value} {w' : World}
  (hr : (Builtin.clear_ #[t] o.type #[v]).run P w = .ok v' w') (h : wpList P ops Q rest (a.put o.dst v') w') : wpList P ops Q (o :: rest) a w :=
 wpList_plain hgd fun _ hK => by
  unfold Oper.wp execOp
  simp only [ho, resolve, invoke, builtin, Sem.run_bind, Sem.run_pure, Result.andThen_ok, List.map_toArray, List.map_cons, List.map_nil, hs, hr]
  exact hK _ _ h
end
/-- What is kept of the points ahead of j. -/
def kept (s : Int) (l : List S24) (j : Nat) : List S24 := (l.take j).filter (fun x => decide (x.f0 = s))
theorem kept_next {s : Int} {l : List S24} {j : Nat} (h : j < l.length) : kept s l (j + 1) = kept s l j ++ (if (l[j]'h).f0 = s then [l[j]'h] else []) := by
 unfold kept
 rw [List.take_succ_eq_append_getElem h, List.filter_append]
 congr 1
 split
 ·rename_i e
  rw [List.filter_cons_of_pos (by simpa using e)]
  rfl
 ·rename_i e
  rw [List.filter_cons_of_neg (by simpa using e)]
  rfl
theorem kept_le (s : Int) (l : List S24) (j : Nat) : (kept s l j).length ≤ j := Nat.le_trans (List.length_filter_le _ _) (by rw [List.length_take]; omega)
/-- Between two rounds: the row's block, what stands ahead of i and from j on. -/
structure DelAt (w wr : World) (base g c B : Nat) (s : Int) (l : List S24) (j : Nat) : Prop where
 row : ∃ (cur : Array Value) (l' : List S24), wr.heap[g]? = some (.cells cur 24 (0, 0)) ∧ cur.size = c * 4 ∧ cur.toList.take (l.length * 4) = flat4 l' ∧ l'.length = l.length ∧ l'.take (kept s l j).length = kept s l j ∧ l'.drop j = l.drop j
 lt : (kept s l j).length < j
 box : wr.heap[B]? = some (.cells #[.int .i64 s] 3 (0, 0))
 below : Below base w wr
theorem four_at {w : World} {g : Nat} {cur : Array Value} {t : TypeId} (h : w.heap[g]? = some (.cells cur t (0, 0))) {i : Nat} (hi : i * 4 + 4 ≤ cur.size) : ∃ v0 v1 v2 v3, w.cell? ⟨g, i * 4, none⟩ = some v0 ∧ w.cell? ⟨g, i * 4 + 1, none⟩ = some v1 ∧ w.cell? ⟨g, i * 4 + 2, none⟩ = some v2 ∧ w.cell? ⟨g, i * 4 + 3, none⟩ = some v3 := by
 have hc : ∀ o, o < cur.size → ∃ v, w.cell? ⟨g, o, none⟩ = some v := fun o ho => ⟨cur[o], by simp [World.cell?, h, ho]⟩
 obtain ⟨v0, h0⟩ := hc (i * 4) (by omega)
 obtain ⟨v1, h1⟩ := hc (i * 4 + 1) (by omega)
 obtain ⟨v2, h2⟩ := hc (i * 4 + 2) (by omega)
 obtain ⟨v3, h3⟩ := hc (i * 4 + 3) (by omega)
 exact ⟨v0, v1, v2, v3, h0, h1, h2, h3⟩
theorem frozen_at {w : World} {g : Nat} {cur : Array Value} {t : TypeId} (h : w.heap[g]? = some (.cells cur t (0, 0))) (o : Nat) : w.frozen? ⟨g, o, none⟩ = false := by simp [World.frozen?, h]
set_option maxHeartbeats 8000000 in
set_option maxRecDepth 100000 in
theorem delete31 (w : World) (base g c B : Nat) (s : Int) (l : List S24) (hrow : w.ownsRow base 24 4 (.slice (some ⟨g, 0, none⟩) l.length c) l.length (flat4 l)) (hbase : base ≤ w.heap.size) (hb : w.heap[B]? = some (.cells #[.int .i64 s] 3 (0, 0))) (hgB : g ≠ B) :
  Calls Try.prog 30 #[.slice (some ⟨g, 0, none⟩) l.length c, .func (.func 31) #[] #[.pointer (some ⟨B, 0, none⟩)]] w fun e w' => ∃ v, e = .returned v ∧ Kd.R k24 24 w' base (fun _ => True) v (l.filter (fun x => decide (x.f0 = s))) ∧ Below base w w' := by
 have hu24 := Try.underlying24
 have hu36 := Try.underlying36
 have hz24 : ∀ W : World, (zeroValue 24).run Try.prog W = .ok (.agg #[.int .i64 0, .int .i64 0, .int .i64 0, .int .u32 0]) W := fun W => by kernel_rfl
 obtain ⟨cur0, hg0, hbg, hnc, hcm, hcs0, hct0⟩ : ∃ cur, w.heap[g]? = some (.cells cur 24 (0, 0)) ∧ base ≤ g ∧ l.length ≤ c ∧ c ≤ maxLen ∧ cur.size = c * 4 ∧ cur.toList.take (l.length * 4) = flat4 l := by
  rcases hrow.2 with ⟨h, _⟩ | ⟨g', cap, cur, hv, h1, h2, h3, h4, h5, h6⟩
  ·cases h
  ·cases hv
   exact ⟨cur, h2, h1, h3, h4, h5, h6⟩
 have hR : Kd.R k24 24 w base (fun _ => True) (.slice (some ⟨g, 0, none⟩) l.length c) l := ⟨fun _ _ => trivial, flat4 l, hrow, flat4_reps _ _ _ _⟩
 have hC := (Kd.R_reads' hR).2.2
 have hml : maxLen ≤ 9223372036854775807 := by decide
 have HC := Am hC
 have HB := Am hb
 have HR := Am hR
 have HG0 := Am hg0
 have HCS0 := Am hcs0
 have HCT0 := Am hct0
 have HNC := Am hnc
 have HCM := Am hcm
 have HBG := Am hbg
 have HBASE := Am hbase
 have HGB := Am hgB
 have HF0 := Am (firstN_le s l)
 obtain ⟨R, hRR⟩ : ∃ R : Int, R = (if firstN s l = l.length then -1 else (firstN s l : Int)) := ⟨_, rfl⟩
 have HRR := Am hRR
 clear hrow hb hR hC hcs0 hct0 hg0 hnc hcm hbg hbase hgB hRR
 go_enter Try.func30, Try.ntmps30
 go_upto_if 12 with (go_at_call 52; refine (index31 _ _ c B s l HC.out HNC.out HB.out).mono ?_; rintro e w1 ⟨rfl, hb1⟩; rw [← HRR.out]; have HB1 := Am hb1; clear hb1)
 have HBX1 := Am ((HB1.out.block _ (blk_lt HB.out)).trans HB.out)
 have HG1 := Am ((HB1.out.block _ (blk_lt HG0.out)).trans HG0.out)
 have HR1 := Am (Kd.R_below HR.out HB1.out)
 have HBW := Am (HB1.out.mono HBASE.out)
 clear HR HB HG0
 by_cases hall : firstN s l = l.length
 ·have hR1 : R = -1 := by rw [HRR.out, if_pos hall]
  have HALL := Am hall
  rw [hR1]
  clear hR1 hall
  go_wp2
  go_ret
  refine ⟨_, rfl, ?_, HBW.out⟩
  rw [firstN_all s l HALL.out]
  exact HR1.out
 ·have hlt : firstN s l < l.length := by have := HF0.out; omega
  have hR1 : R = (firstN s l : Int) := by rw [HRR.out, if_neg hall]
  obtain ⟨i0, hi0⟩ : ∃ i0, i0 = firstN s l := ⟨_, rfl⟩
  rw [← hi0] at hR1 hlt
  have HI0 := Am hi0
  have HLT := Am hlt
  have hneg : (R == -1) = false := by rw [hR1]; exact beq_eq_false_iff_ne.2 (by omega)
  have hw1 : (IntKind.i64.wrap (R + 1)) = ((i0 + 1 : Nat) : Int) := by
   have h1 := HNC.out
   have h2 := HCM.out
   have h3 := IntWalk.i64_in ((i0 : Int) + 1) (by omega)
   rw [hR1, h3]
   rfl
  have HR2 := Am hR1
  clear hall hlt hi0 hR1
  go_wp2
  rw [HR2.out]
  clear hneg hw1
  have hK0 : kept s l (i0 + 1) = l.take i0 := by
   have h1 : i0 < l.length := HLT.out
   have h2 := firstN_at s l (by rw [← HI0.out]; exact h1)
   rw [kept_next h1, if_neg (by simpa [HI0.out] using h2), List.append_nil]
   unfold kept
   rw [HI0.out]
   exact firstN_take s l
  have hKl : (kept s l (i0 + 1)).length = i0 := by rw [hK0, List.length_take]; have := HLT.out; omega
  have HD : Aside0 (DelAt w w1 base g c B s l (i0 + 1)) := ⟨⟨⟨cur0, l, HG1.out, HCS0.out, HCT0.out, rfl, by rw [hKl, hK0], rfl⟩, by rw [hKl]; omega, HBX1.out, HBW.out⟩⟩
  clear HG1 HR1 HBX1 HBW
  go_loopw [5, 6] (fun v5 v6 wr => ∃ j : Nat, j ≤ l.length ∧ v5 = .int .i64 ((kept s l j).length : Int) ∧ v6 = .int .i64 (j : Int) ∧ Aside0 (DelAt w wr base g c B s l j)) (fun _ v6 _ => l.length - (intOf v6).toNat)
  case atStart => exact ⟨i0 + 1, HLT.out, by rw [hKl], rfl, HD⟩
  case round =>
   clear HD hK0 hKl
   obtain ⟨j, hj, rfl, rfl, HD⟩ := hrel
   obtain ⟨I, hI⟩ : ∃ I, I = (kept s l j).length := ⟨_, rfl⟩
   rw [← hI]
   obtain ⟨⟨cur, l', hg1, hcs, hct, hl', htk, hdr⟩, hij, hbx, hbw⟩ := HD.out
   rw [← hI] at htk hij
   have HI := Am hI
   clear HD hI
   have hnc := HNC.out
   have hcm := HCM.out
   by_cases hlt : j < l.length
   ·have hxj : l'[j]'(by omega) = l[j] := by
     have h1 : (l'.drop j)[0]? = (l.drop j)[0]? := by rw [hdr]
     rw [List.getElem?_drop, List.getElem?_drop, Nat.add_zero, List.getElem?_eq_getElem (by omega), List.getElem?_eq_getElem hlt] at h1
     exact Option.some.inj h1
    obtain ⟨x, hx⟩ : ∃ x, x = l[j] := ⟨_, rfl⟩
    have hcell : ∀ (i : Nat) (hi : i < l'.length) (k : Nat), k < 4 → ∀ u, (cs4 (l'[i]'hi))[k]? = some u → wr.cell? ⟨g, i * 4 + k, none⟩ = some u := fun i hi k hk u hu => by
     have h1 := flat4_get l' i hi k hk
     rw [hu, ← hct, List.getElem?_take, if_pos (by omega)] at h1
     simp only [World.cell?, hg1]
     simpa using h1
    have c0 := hcell j (by omega) 0 (by omega) (.int .i64 x.f0) (by rw [hxj, ← hx]; rfl)
    have c1 := hcell j (by omega) 1 (by omega) (.int .i64 x.f1) (by rw [hxj, ← hx]; rfl)
    have c2 := hcell j (by omega) 2 (by omega) (.int .i64 x.f2) (by rw [hxj, ← hx]; rfl)
    have c3 := hcell j (by omega) 3 (by omega) (.int .u32 x.f3) (by rw [hxj, ← hx]; rfl)
    rw [Nat.add_zero] at c0
    have g1 : ((j : Int) < (l.length : Int)) := by omega
    have g2 : ((I : Int) < (l.length : Int)) := by omega
    have g3 : I < l.length := by omega
    have hgl := blk_lt hg1
    have hbs := hbw.size
    obtain ⟨w2, hw2⟩ : ∃ w2, wr.alloc (.cells #[.int .i64 x.f0, .int .i64 x.f1, .int .i64 x.f2, .int .u32 x.f3] 24) = w2 := ⟨_, rfl⟩
    have hb2 : Below wr.heap.size wr w2 := by rw [← hw2]; exact (Below.refl _ wr).alloc (Nat.le_refl _) _
    have HG2 := Am ((hb2.block _ hgl).trans hg1)
    have HBX2 := Am ((hb2.block _ (blk_lt hbx)).trans hbx)
    have HBW2 := Am (hbw.trans (hb2.mono (Nat.le_trans HBASE.out hbs)))
    have HX2 := Am (show w2.heap[wr.heap.size]? = some (.cells #[.int .i64 x.f0, .int .i64 x.f1, .int .i64 x.f2, .int .u32 x.f3] 24 (0, 0)) by rw [← hw2]; exact World.alloc_heap_new wr _)
    have HXL := Am (show g < wr.heap.size from hgl)
    have HXJ := Am hx
    have HCS := Am hcs
    have HCT := Am hct
    have HL' := Am hl'
    have HTK := Am htk
    have HDR := Am hdr
    have HIJ := Am hij
    have HJ := Am hlt
    have HKN := Am (kept_next (s := s) hlt)
    have HJW := Am (show wrap64 ((j : Int) + 1) = ((j + 1 : Nat) : Int) from by have h3 := IntWalk.i64_in ((j : Int) + 1) (by omega); rw [← i64_w, h3]; rfl)
    have HIW := Am (show wrap64 ((I : Int) + 1) = ((I + 1 : Nat) : Int) from by have h3 := IntWalk.i64_in ((I : Int) + 1) (by omega); rw [← i64_w, h3]; rfl)
    obtain ⟨q, hq⟩ : ∃ q, wr.heap.size = q := ⟨_, rfl⟩
    obtain ⟨q0, q1, q2, q3⟩ := bc4 (hq ▸ HX2.out)
    rw [hq] at HX2 HXL
    clear hcell hxj hx hg1 hcs hct hl' htk hdr hbx hbw hb2 hgl hbs hij hnc hcm
    by_cases he : x.f0 = s
    ·have hd : decide (x.f0 = s) = true := decide_eq_true he
     have HE := Am he
     clear he
     go_wp2_with (first | (go_at_call 31; (try rw [hw2]); refine (of1 _ B s x HBX2.out).mono ?_; rintro e w3 ⟨rfl, hb3⟩; rw [hd]; have HG3 := Am ((hb3.block _ (blk_lt HG2.out)).trans HG2.out); have HBX3 := Am ((hb3.block _ (blk_lt HBX2.out)).trans HBX2.out); have HBW3 := Am (HBW2.out.trans (hb3.mono (Nat.le_trans HBASE.out HBW2.out.size))); have HX3 := Am ((hb3.block _ (blk_lt HX2.out)).trans HX2.out); obtain ⟨s0, s1, s2, s3⟩ := bc4 HX3.out; obtain ⟨v0, v1, v2, v3, t0, t1, t2, t3⟩ := four_at HG3.out (i := I) (by have := HCS.out; have := HIJ.out; have := HNC.out; have := HJ.out; omega); have hfz := frozen_at HG3.out; have hfz0 := hfz (I * 4); have hfz1 := hfz (I * 4 + 1); have hfz2 := hfz (I * 4 + 2); have hfz3 := hfz (I * 4 + 3); clear hb3 hfz))
     obtain ⟨w4, hw4⟩ : ∃ w4, (((w3.setCell ⟨g, I * 4, none⟩ (.int .i64 x.f0)).setCell ⟨g, I * 4 + 1, none⟩ (.int .i64 x.f1)).setCell ⟨g, I * 4 + 2, none⟩ (.int .i64 x.f2)).setCell ⟨g, I * 4 + 3, none⟩ (.int .u32 x.f3) = w4 := ⟨_, rfl⟩
     rw [hw4]
     have hg4 := blk_set (blk_set (blk_set (blk_set HG3.out (I * 4) (.int .i64 x.f0)) (I * 4 + 1) (.int .i64 x.f1)) (I * 4 + 2) (.int .i64 x.f2)) (I * 4 + 3) (.int .u32 x.f3)
     rw [hw4] at hg4
     have hB4 : Below base w w4 := by
      rw [← hw4]
      exact (((HBW3.out.setCell (p := ⟨g, I * 4, none⟩) HBG.out _).setCell (p := ⟨g, I * 4 + 1, none⟩) HBG.out _).setCell (p := ⟨g, I * 4 + 2, none⟩) HBG.out _).setCell (p := ⟨g, I * 4 + 3, none⟩) HBG.out _
     have hbx4 : w4.heap[B]? = some (.cells #[.int .i64 s] 3 (0, 0)) := by
      rw [← hw4]
      exact blk_far (blk_far (blk_far (blk_far HBX3.out (p := ⟨g, I * 4, none⟩) (Ne.symm HGB.out) _) (p := ⟨g, I * 4 + 1, none⟩) (Ne.symm HGB.out) _) (p := ⟨g, I * 4 + 2, none⟩) (Ne.symm HGB.out) _) (p := ⟨g, I * 4 + 3, none⟩) (Ne.symm HGB.out) _
     have hk : kept s l (j + 1) = kept s l j ++ [x] := by rw [HKN.out, if_pos (by rw [← HXJ.out]; exact HE.out), ← HXJ.out]
     have hkl : (kept s l (j + 1)).length = I + 1 := by rw [hk, List.length_append, ← HI.out]; rfl
     have hil : I < l'.length := by rw [HL'.out]; have := HIJ.out; have := HJ.out; omega
     refine ⟨⟨j + 1, HJ.out, by rw [HIW.out, hkl], by rw [HJW.out], ⟨⟨⟨_, l'.set I x, hg4, ?_, ?_, by rw [List.length_set]; exact HL'.out, ?_, ?_⟩, by rw [hkl]; have := HIJ.out; omega, hbx4, hB4⟩⟩⟩, ?_⟩
     ·simp only [Array.size_setIfInBounds]
      exact HCS.out
     ·simp only [Array.toList_setIfInBounds]
      rw [take_set4, HCT.out, flat4_set l' I x hil]
     ·rw [hkl, hk, List.take_succ_eq_append_getElem (by rw [List.length_set]; exact hil), List.take_set_of_le (Nat.le_refl _)]
      congr 1
      ·have := HTK.out
       rwa [HI.out] at this ⊢
      ·simp
     ·have h1 := congrArg (List.drop 1) HDR.out
      rw [List.drop_drop, List.drop_drop] at h1
      rw [List.drop_set_of_lt (by have := HIJ.out; omega)]
      exact h1
     ·rw [HJW.out]
      simp [intOf]
      have := HJ.out
      omega
    ·have hd : decide (x.f0 = s) = false := decide_eq_false he
     have HE := Am he
     clear he
     go_wp2_with (first | (go_at_call 31; (try rw [hw2]); refine (of1 _ B s x HBX2.out).mono ?_; rintro e w3 ⟨rfl, hb3⟩; rw [hd]; have HG3 := Am ((hb3.block _ (blk_lt HG2.out)).trans HG2.out); have HBX3 := Am ((hb3.block _ (blk_lt HBX2.out)).trans HBX2.out); have HBW3 := Am (HBW2.out.trans (hb3.mono (Nat.le_trans HBASE.out HBW2.out.size))); clear hb3))
     go_roundw
     case rel =>
      have hk : kept s l (j + 1) = kept s l j := by rw [HKN.out, if_neg (by rw [← HXJ.out]; exact HE.out), List.append_nil]
      refine ⟨j + 1, HJ.out, by rw [hk, HI.out], by rw [HJW.out], ⟨⟨⟨cur, l', HG3.out, HCS.out, HCT.out, HL'.out, by rw [hk, ← HI.out]; exact HTK.out, ?_⟩, by rw [hk, ← HI.out]; have := HIJ.out; omega, HBX3.out, HBW3.out⟩⟩⟩
      have h1 := congrArg (List.drop 1) HDR.out
      rwa [List.drop_drop, List.drop_drop] at h1
     case measure =>
      rw [HJW.out]
      simp [intOf]
      have := HJ.out
      omega
   ·have hjn : j = l.length := by omega
    have hkf : kept s l j = l.filter (fun x => decide (x.f0 = s)) := by
     unfold kept
     rw [hjn, List.take_length]
    have HKF := Am hkf
    have hIl : I < l.length := by omega
    obtain ⟨zs, hzs'⟩ : ∃ zs : List Value, zs = (Builtin.zeroCells (Value.agg #[.int .i64 0, .int .i64 0, .int .i64 0, .int .u32 0]).cells (l.length - I)).toList := ⟨_, rfl⟩
    have hlz : zs.length = (l.length - I) * 4 := by rw [hzs']; simp [Builtin.zeroCells, Value.cells]
    have oz : ∀ u ∈ zs, u.oneCell' = true := by
     rw [hzs']
     intro u hu
     simp only [Builtin.zeroCells, Value.cells, Array.mem_toList_iff, Array.mem_map] at hu
     obtain ⟨i, _, rfl⟩ := hu
     have h4 : i % 4 = 0 ∨ i % 4 = 1 ∨ i % 4 = 2 ∨ i % 4 = 3 := by omega
     show Value.oneCell' (#[Value.int .i64 0, .int .i64 0, .int .i64 0, .int .u32 0][i % 4]!) = true
     rcases h4 with h | h | h | h <;> rw [h] <;> rfl
    obtain ⟨cur2, hc2⟩ : ∃ cur2 : Array Value, cur2 = (cur.toList.take (I * 4) ++ zs ++ cur.toList.drop (I * 4 + zs.length)).toArray := ⟨_, rfl⟩
    have hclr : ∀ ty cc, (Builtin.clear_ #[36] ty #[.slice (some ⟨g, I * 4, none⟩) (l.length - I) cc]).run Try.prog wr = .ok (.tuple #[]) (wr.setRow g cur2) := fun ty cc => by
     rw [hc2]
     exact run_clear_row4 wr 36 24 ty _ Try.underlying36 hz24 g (I * 4) (l.length - I) cc (by omega) cur 24 hg1 zs hzs' oz (by rw [hlz]; omega)
    have hg2 : (wr.setRow g cur2).heap[g]? = some (.cells cur2 24 (0, 0)) := setRow_heap wr g cur cur2 24 (0, 0) hg1
    have hcs2 : cur2.size = c * 4 := by
     rw [hc2, List.size_toArray, List.length_append, List.length_append, List.length_take, List.length_drop, Array.length_toList, hlz]
     omega
    have hct2 : cur2.toList.take (I * 4) = flat4 (kept s l j) := by
     have hl : (cur.toList.take (I * 4)).length = I * 4 := by rw [List.length_take, Array.length_toList]; omega
     rw [hc2]
     show (cur.toList.take (I * 4) ++ zs ++ _).take (I * 4) = _
     rw [List.append_assoc, List.take_append_of_le_length (by omega), List.take_take, Nat.min_self]
     have h1 : cur.toList.take (I * 4) = (flat4 l').take (I * 4) := by
      rw [← hct, List.take_take]
      congr 1
      omega
     have h2 : flat4 l' = flat4 (l'.take I) ++ flat4 (l'.drop I) := by rw [← flat4_append, List.take_append_drop]
     rw [h1, h2, htk, List.take_append_of_le_length (by rw [flat4_len, ← HI.out]; omega), List.take_of_length_le (by rw [flat4_len, ← HI.out]; omega)]
    have hfin : Kd.R k24 24 (wr.setRow g cur2) base (fun _ => True) (.slice (some ⟨g, 0, none⟩) I c) (l.filter (fun x => decide (x.f0 = s))) := by
     have hlen : (l.filter (fun x => decide (x.f0 = s))).length = I := by rw [← hkf, ← HI.out]
     refine ⟨fun _ _ => trivial, flat4 (l.filter (fun x => decide (x.f0 = s))), ?_, flat4_reps _ _ _ _⟩
     rw [hlen]
     refine ⟨by rw [flat4_len, hlen]; rfl, .inr ⟨g, c, cur2, rfl, HBG.out, hg2, by omega, hcm, hcs2, ?_⟩⟩
     rw [← hkf]
     exact hct2
    have hbe : Below base w (wr.setRow g cur2) := hbw.grown (row := some g) (slices_Insert_api_Share.grown_setRow _ _ _) (Nat.le_trans HBASE.out hbw.size) (fun k e => by cases e; exact HBG.out)
    have HFIN := Am hfin
    have HBE := Am hbe
    have q1 : I ≤ l.length := by omega
    have q2 : (I : Int) ≤ (l.length : Int) := by omega
    have q3 : ¬ (c = I) := by omega
    have q4 : I ≤ c := by omega
    have q5 : (I : Int) ≤ (c : Int) := by omega
    have q6 : ¬ ((j : Int) < (l.length : Int)) := by omega
    have q7 : j = l.length := hjn
    clear hg2 hcs2 hct2 hfin hbe hzs' hlz oz hc2 hct htk hdr hbx hbw hcs hl' hkf hlt hIl hnc hcm hij
    go_wp2_with (at_builtin; refine wpList_clear4 _ rfl _ 36 rfl _ rfl (hclr _ _) ?_)
    go_ret
    exact ⟨_, rfl, HFIN.out, HBE.out⟩
set_option maxHeartbeats 4000000 in
set_option maxRecDepth 100000 in
theorem nil_Index7 (w : World) (v : Value) : Calls Try.prog 52 #[.slice none 0 0, v] w fun e w' => e = .returned (.int .i64 (-1)) ∧ w' = w := by
 go_enter Try.func52, Try.ntmps52
 go_wp2
 go_loopw [8] (fun v_ wr => v_ = .int .i64 0 ∧ wr = w) (fun _ _ => 0)
 case atStart => exact ⟨rfl, rfl⟩
 case round =>
  obtain ⟨rfl, rfl⟩ := hrel
  go_wp2
  go_ret
  exact ⟨rfl, rfl⟩
set_option maxHeartbeats 4000000 in
set_option maxRecDepth 100000 in
theorem nil_Delete7 (w : World) (v : Value) : Calls Try.prog 30 #[.slice none 0 0, v] w fun e w' => e = .returned (.slice none 0 0) ∧ w' = w := by
 go_enter Try.func30, Try.ntmps30
 go_wp2_with (go_at_call 52; refine (nil_Index7 _ v).mono ?_; rintro e w1 ⟨rfl, hw⟩; rw [hw])
 go_ret
 exact ⟨rfl, rfl⟩
theorem reps_flat4 {w : World} {base : Nat} {ok : Nat → Prop} : ∀ {l : List S24} {inner : List Value}, Reps (k24.M w base ok) 4 l inner → inner = flat4 l
 | [], inner, h => List.eq_nil_of_length_eq_zero (by simpa using h.1)
 | x :: l, inner, h => by
  have h0 := h.2 0 x rfl
  have h1 := k24_openM h0
  have hl := h.1
  rw [List.length_cons] at hl
  have h2 : Reps (k24.M w base ok) 4 l (inner.drop 4) := by
   refine ⟨by rw [List.length_drop, hl]; omega, fun j p hj => ?_⟩
   have h3 := h.2 (j + 1) p (by simpa using hj)
   rw [show (j + 1) * 4 = 4 + j * 4 by omega, ← List.drop_drop] at h3
   exact h3
  have h4 := reps_flat4 h2
  have h5 : inner = inner.take 4 ++ inner.drop 4 := (List.take_append_drop 4 inner).symm
  rw [h5, h4, flat4]
  congr 1
theorem live_Of_del {w : World} {base B : Nat} {s : Int} {l : List S24} {v : Value} (hR : Kd.R k24 24 w base (fun _ => True) v l) (hbase : base ≤ w.heap.size) (hb : w.heap[B]? = some (.cells #[.int .i64 s] 3 (0, 0))) (hB : B < base) :
  Calls Try.prog 30 #[v, .func (.func 31) #[] #[.pointer (some ⟨B, 0, none⟩)]] w fun e w' => ∃ v, e = .returned v ∧ Kd.R k24 24 w' base (fun _ => True) v (l.filter (fun x => decide (x.f0 = s))) ∧ Below base w w' := by
 obtain ⟨A, c, rfl⟩ := Kd.R_slice hR
 cases A with
 | none =>
  have hl : l = [] := by
   cases l with
   | nil => rfl
   | cons x y =>
    obtain ⟨ad, had, _⟩ := (Kd.R_reads' hR).2.2.2.2 (by simp)
    cases had
  subst hl
  have hv : c = 0 := by
   obtain ⟨_, inner, hown, _⟩ := hR
   rcases hown.2 with ⟨h, _⟩ | ⟨g', cap, cur, h, _⟩
   ·injection h
   ·injection h with h1
    cases h1
  subst hv
  refine (nil_Delete7 w _).mono ?_
  rintro e w' ⟨rfl, rfl⟩
  exact ⟨_, rfl, hR, Below.refl _ _⟩
 | some ad =>
  obtain ⟨g, rfl⟩ := Kd.R_head hR
  obtain ⟨_, inner, hown, hreps⟩ := hR
  have hin := reps_flat4 hreps
  subst hin
  refine delete31 w base g c B s l hown hbase hb ?_
  rcases hown.2 with ⟨h, _⟩ | ⟨g', cap, cur, h, h1, _⟩
  ·cases h
  ·injection h with h2
   injection h2 with h2
   injection h2 with h2
   omega
set_option maxHeartbeats 4000000 in
set_option maxRecDepth 100000 in
theorem live_Of (w : World) (b m : Nat) (g : List ((Int × Int) × S24)) (r : List S24) (s : Int) (hL : Ls w b m g) (hN : g.length ≤ 1000000) (hO : ∀ ps : List S24, ps.Perm (g.map (·.2)) → ∃ k, point_Order.f k ps = some r) :
  Calls Try.prog 12 #[.pointer (some ⟨b, 0, none⟩), .int .i64 s] w fun e w' => ∃ v, e = .returned v ∧ Kd.R k24 24 w' w.heap.size (fun _ => True) v (r.filter (fun x => decide (x.f0 = s))) ∧ Below w.heap.size w w' := by
 have HL := Am hL
 have HN := Am hN
 have HO := Am hO
 clear hO
 clear hN
 clear hL
 obtain ⟨w1, hw1⟩ : ∃ w1, w.alloc (.cells #[.int .i64 s] 3) = w1 := ⟨_, rfl⟩
 have HB1 := Am (show Below w.heap.size w w1 by rw [← hw1]; exact (Below.refl _ w).alloc (Nat.le_refl _) _)
 have HX1 := Am (show w1.heap[w.heap.size]? = some (.cells #[.int .i64 s] 3 (0, 0)) by rw [← hw1]; exact World.alloc_heap_new w _)
 have HS1 := Am (show w1.heap.size = w.heap.size + 1 by rw [← hw1]; simp)
 obtain ⟨q, hq⟩ : ∃ q, w.heap.size = q := ⟨_, rfl⟩
 rw [hq] at HX1
 go_enter Try.func12, Try.ntmps12
 go_upto_region 1 with fail
 (try rw [hw1])
 (try rw [hq])
 clear hw1
 go_wp2_with (first | (go_at_call 11; refine (live_All _ b m g r (HL.out.below HB1.out) HN.out HO.out).mono ?_; rintro e w2 ⟨v, rfl, hR, hB⟩; have HR2 := Am hR; have HB2 := Am hB; have HX2 := Am ((hB.block _ (blk_lt HX1.out)).trans HX1.out); clear hR hB) | (go_at_call 30; have HD : Calls Try.prog 30 #[v, .func (.func 31) #[] #[.pointer (some ⟨q, 0, none⟩)]] w2 (fun e w' => ∃ v, e = .returned v ∧ Kd.R k24 24 w' w1.heap.size (fun _ => True) v (r.filter (fun x => decide (x.f0 = s))) ∧ Below w1.heap.size w2 w') := live_Of_del HR2.out HB2.out.size HX2.out (by have := HS1.out; omega); refine HD.mono ?_; rintro e w3 ⟨v3, rfl, hR, hB⟩; have HR3 := Am hR; have HB3 := Am hB; clear hR hB HD))
 go_ret
 refine ⟨_, rfl, Kd.R_lower HR3.out (by have := HS1.out; omega), ?_⟩
 exact HB1.out.trans ((HB2.out.trans HB3.out).mono (by have := HS1.out; omega))
end Go.Proofs.Ytpefjfibhjnijaa.PLivePuts
