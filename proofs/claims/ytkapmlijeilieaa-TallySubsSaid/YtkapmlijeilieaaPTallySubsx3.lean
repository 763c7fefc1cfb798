/- What the law reaches, as plain Lean functions, and that the machine's calls answer just that. -/
import Derived.Test.YtkapmlijeilieaaPTallySubsx0
import Derived.Test.YtkapmlijeilieaaPTallySubsx2
namespace Go.Proofs.Ytkapmlijeilieaa.PTallySubs
open Go.RowKit Go.Proofs.YtkapmlijeilieaaW.PrintWords Go.Proofs.YtkapmlijeilieaaW.PrintLast Go.Proofs.YtkapmlijeilieaaW.PrintMore
attribute [local go_sem] max2_int min2_int max_two min_two max_three min_three max_four min_four
set_option linter.unusedVariables false
set_option linter.unusedSimpArgs false
attribute [local go_sem] wrap64_l1 wrap64_l2 wrap64_l3 wrap64_l4 wrap64_l5
def slices_ContainsFunc_api_Point.f (k : Nat) (l0 : List (S43))  : Option (Bool) := (slices_IndexFunc_api_Point.f k l0).bind fun t122 => (some (decide (t122 ≥ 0)))
theorem slices_ContainsFunc_api_Point.mono : ∀ a0 k, LeO (slices_ContainsFunc_api_Point.f k a0) (slices_ContainsFunc_api_Point.f (k + 1) a0) := by
 intro a0 k
 unfold slices_ContainsFunc_api_Point.f
 repeat' first
   | (with_reducible exact slices_IndexFunc_api_Point.mono _ _)
   | (with_reducible exact LeO.refl _)
   | (with_reducible exact LeO.none _)
   | (with_reducible refine LeO.ite ?_ ?_)
   | (with_reducible refine LeO.bind ?_ (fun _ => ?_))
   | exact slices_IndexFunc_api_Point.mono _ _
   | exact LeO.none _
   | refine LeO.ite ?_ ?_
   | refine LeO.bind ?_ (fun _ => ?_)
set_option maxHeartbeats 8000000 in
set_option maxRecDepth 100000 in
theorem slices_ContainsFunc_api_Point.calls (k : Nat) (A0 : Option Addr) (c0 : Nat) (l0 : List (S43))  (r : Bool) (w : World) (hr0 : Kd.C k43 w A0 l0.length l0) (hc0 : l0.length ≤ c0) (h : slices_ContainsFunc_api_Point.f k l0 = some r) :
  Calls Try.prog 29 #[.slice A0 l0.length c0, .func (.func 30) #[] #[]] w fun e w' => e = .returned (.bool r) ∧ Below w.heap.size w w' := by
 have HR0 := Am hr0
 have HC0 := Am hc0
 clear hr0 hc0
 have HB := Am (Below.refl w.heap.size w)
 have H : ((slices_IndexFunc_api_Point.f k l0).bind fun t122 => (some (decide (t122 ≥ 0)))) = some r := h
 clear h
 replace H := Option.bind_eq_some_iff.mp H
 obtain ⟨t122, A30, H⟩ := H
 replace H : (some (decide (t122 ≥ 0))) = some r := H
 have A3 := Am A30
 clear A30
 obtain rfl := Option.some.inj H
 go_enter Try.func29, Try.ntmps29
 go_wp2_with (first | ((with_reducible refine gate_callee (f := 36) rfl ?_); refine goesL_ (some 7) rfl rfl Try.func36 (by kernel_rfl) rfl #[.slice A0 l0.length c0, .func (.func 30) #[] #[]] rfl pL ?_; (with_reducible refine (slices_IndexFunc_api_Point.calls k _ _ l0 t122 _ ?side1 ?side2 A3.out).mono ?_); (case side1 => repeat (first | exact HR0.out | (with_reducible refine Kd.C_alloc ?_ _) | (with_reducible refine Kd.C_drewN ?_ _) | (with_reducible refine Kd.C_drew ?_))); (case side2 => exact HC0.out); rintro e w4 ⟨rfl, hb⟩; refine ⟨_, rfl, ?_⟩; replace HB := Am (below_step (pB HB.out) hb); (try clear hb); (try clear hb2); (try clear hk); (try clear hi)))
 go_ret
 exact ⟨pX, pB HB.out⟩
def tally_may.f (k : Nat) (l0 : List (S46)) (l1 : List (S43)) : Option (Bool) := (tally_Check.f k l0).bind fun t123 => (if t123 = 0 then ((slices_ContainsFunc_api_Point.f k l1).bind fun t124 => (some (!t124))) else (some false))
theorem tally_may.mono : ∀ a0 a1 k, LeO (tally_may.f k a0 a1) (tally_may.f (k + 1) a0 a1) := by
 intro a0 a1 k
 unfold tally_may.f
 repeat' first
   | (with_reducible exact slices_ContainsFunc_api_Point.mono _ _)
   | (with_reducible exact tally_Check.mono _ _)
   | (with_reducible exact LeO.refl _)
   | (with_reducible exact LeO.none _)
   | (with_reducible refine LeO.ite ?_ ?_)
   | (with_reducible refine LeO.bind ?_ (fun _ => ?_))
   | exact slices_ContainsFunc_api_Point.mono _ _
   | exact tally_Check.mono _ _
   | exact LeO.none _
   | refine LeO.ite ?_ ?_
   | refine LeO.bind ?_ (fun _ => ?_)
set_option maxHeartbeats 8000000 in
set_option maxRecDepth 100000 in
theorem tally_may.calls (k : Nat) (A0 : Option Addr) (c0 : Nat) (l0 : List (S46)) (A1 : Option Addr) (c1 : Nat) (l1 : List (S43)) (r : Bool) (w : World) (hr0 : Kd.C k46 w A0 l0.length l0) (hc0 : l0.length ≤ c0) (hr1 : Kd.C k43 w A1 l1.length l1) (hc1 : l1.length ≤ c1) (h : tally_may.f k l0 l1 = some r) :
  Calls Try.prog 21 #[.slice A0 l0.length c0, .slice A1 l1.length c1] w fun e w' => e = .returned (.bool r) ∧ Below w.heap.size w w' := by
 have HR0 := Am hr0
 have HC0 := Am hc0
 clear hr0 hc0
 have HR1 := Am hr1
 have HC1 := Am hc1
 clear hr1 hc1
 have HB := Am (Below.refl w.heap.size w)
 have H : ((tally_Check.f k l0).bind fun t123 => (if t123 = 0 then ((slices_ContainsFunc_api_Point.f k l1).bind fun t124 => (some (!t124))) else (some false))) = some r := h
 clear h
 replace H := Option.bind_eq_some_iff.mp H
 obtain ⟨t123, A30, H⟩ := H
 replace H : (if t123 = 0 then ((slices_ContainsFunc_api_Point.f k l1).bind fun t124 => (some (!t124))) else (some false)) = some r := H
 have A3 := Am A30
 clear A30
 by_cases c4 : t123 = 0
 rotate_left
 ·rw [if_neg c4] at H
  have c4b0 : (t123 == 0) = false := beq_eq_false_iff_ne.mpr c4
  have c4b1 : (t123 != 0) = true := bne_iff_ne.mpr c4
  obtain rfl := Option.some.inj H
  go_enter Try.func21, Try.ntmps21
  go_wp2_with (first | ((with_reducible refine gate_callee (f := 12) rfl ?_); refine goesL_ (some 6) rfl rfl Try.func12 (by kernel_rfl) rfl #[.slice A0 l0.length c0] rfl pL ?_; (with_reducible refine (tally_Check.calls k _ _ l0 t123 _ ?Aa ?Ab A3.out).mono ?_); (case Aa => repeat (first | exact HR0.out | (with_reducible refine Kd.C_alloc ?_ _) | (with_reducible refine Kd.C_drewN ?_ _) | (with_reducible refine Kd.C_drew ?_))); (case Ab => exact HC0.out); rintro e w8 ⟨rfl, hb⟩; refine ⟨_, rfl, ?_⟩; replace HB := Am (below_step (pB HB.out) hb); (try clear hb); (try clear hb2); (try clear hk); (try clear hi)))
  go_ret
  exact ⟨pX, pB HB.out⟩
 rw [if_pos c4] at H
 have c4b0 : (t123 == 0) = true := beq_iff_eq.mpr c4
 have c4b1 : (t123 != 0) = false := bne_eq_false_iff_eq.mpr c4
 clear c4
 replace H := Option.bind_eq_some_iff.mp H
 obtain ⟨t124, A50, H⟩ := H
 replace H : (some (!t124)) = some r := H
 have A5 := Am A50
 clear A50
 obtain rfl := Option.some.inj H
 go_enter Try.func21, Try.ntmps21
 go_wp2_with (first | ((with_reducible refine gate_callee (f := 12) rfl ?_); refine goesL_ (some 6) rfl rfl Try.func12 (by kernel_rfl) rfl #[.slice A0 l0.length c0] rfl pL ?_; (with_reducible refine (tally_Check.calls k _ _ l0 t123 _ ?Aa ?Ab A3.out).mono ?_); (case Aa => repeat (first | exact HR0.out | (with_reducible refine Kd.C_alloc ?_ _) | (with_reducible refine Kd.C_drewN ?_ _) | (with_reducible refine Kd.C_drew ?_))); (case Ab => exact HC0.out); rintro e w6 ⟨rfl, hb⟩; refine ⟨_, rfl, ?_⟩; replace HB := Am (below_step (pB HB.out) hb); (try clear hb); (try clear hb2); (try clear hk); (try clear hi)) | (go_at_call 29; (with_reducible refine (slices_ContainsFunc_api_Point.calls k _ _ l1 t124 _ ?Aa ?Ab A5.out).mono ?_); (case Aa => exact pC (Kd.C_below HR1.out HB.out)); (case Ab => exact HC1.out); rintro e w7 ⟨rfl, hb⟩; replace HB := Am (below_step (pB HB.out) hb); (try clear hb); (try clear hb2); (try clear hk); (try clear hi)))
 go_ret
 exact ⟨pX, pB HB.out⟩
def slices_Clone_api_Share.f (l0 : List (S46)) : Option (List (S46)) := if l0.length < 8796093022208 then some l0 else none
set_option maxHeartbeats 4000000 in
set_option maxRecDepth 100000 in
theorem slices_Clone_api_Share.calls (A0 : Option Addr) (c0 : Nat) (l0 : List (S46)) (r : List (S46)) (w : World) (hr0 : Kd.C k46 w A0 l0.length l0) (hc0 : l0.length ≤ c0) (h : slices_Clone_api_Share.f l0 = some r) :
  Calls Try.prog 22 #[.slice A0 l0.length c0] w fun e w' => ∃ v0_ : Value, e = .returned (v0_) ∧ Kd.R k46 46 w' w.heap.size (fun _ => True) v0_ r ∧ Below w.heap.size w w' := by
 unfold slices_Clone_api_Share.f at h
 by_cases hl : l0.length < 8796093022208
 ·rw [if_pos hl] at h
  obtain rfl := Option.some.inj h
  have HR0 := Aside0.mk hr0
  have HC0 := Aside0.mk hc0
  have LM := Aside0.mk hl
  clear hr0 hc0 hl h
  have HB := Aside0.mk (Below.refl w.heap.size w)
  have heq := fun (W : World) (a : Option Addr) (n c : Nat) => Lib.run_eql_slice_nil (P := Try.prog) W 22 46 a n c 0 0 Try.underlying22
  cases A0 with
  | none =>
   have e0 : l0 = [] := by
    cases l0 with
    | nil => rfl
    | cons x y =>
     obtain ⟨ad, had, _⟩ := HR0.out.2.2 (by simp)
     cases had
   subst e0
   go_enter Try.func22, Try.ntmps22
   go_wp2
   go_ret
   exact ⟨_, rfl, Kd.R_nil _ _ _ _ _, HB.out⟩
  | some ad =>
   go_enter Try.func22, Try.ntmps22
   go_wp2_with (first | ((with_reducible refine gate_dst (N := 5) rfl ?_); refine Kd.R_lit k46 _ 46 ?hg (N := 5) ?hd (xs := ([] : List (S46))) (inner := []) (ok := fun _ => True) (okp := fun _ => True) ?hr ?hp (fun _ hk => hk) trivial (Below.refl _ _) (Nat.le_refl _) (by simp) ?_; (case hd => rfl); (case hg => rfl); (case hr => first | (go_simp; done) | (go_simp; rfl)); (case hp => exact (Reps.none _ _)); intro v182 w12 ho13 hb hg_ hnew_; clear hg_ hnew_; have n0_ := Aside0.mk (Kd.R_lower ho13 (below_size (by repeat (first | (with_reducible first | exact HB.out | apply below_alloc | apply pw_below_drewN | apply below_drew1) | exact HB.out)))); have n1_ := Aside0.mk (below_step (by repeat (first | (with_reducible first | exact HB.out | apply below_alloc | apply pw_below_drewN | apply below_drew1) | exact HB.out)) hb); clear HB; have HO183 := n0_; have HB := n1_; clear n0_ n1_; clear hb ho13) | ((with_reducible refine gate_builtin (b := .append) (xs := #[.tmp 5, .tmp 6]) rfl ?_); at_builtin; refine Kd.R_append_rows k46 (w0 := w) w.heap.size rfl (.tmp 5) (.tmp 6) 22 46 (.agg #[(.int .i64 0), (.int .i64 0)]) 16 rfl Try.underlying22 info46 rfl (by decide) (by omega) v182 [] l0 _ _ _ (fun _ => True) (fun _ => False) rfl rfl ?aO ?aR (fun _ _ h => h) (fun _ h => h.elim) ?aF ?aB ?aS ?aL ?_; (case aR => repeat (first | exact (Kd.C_below HR0.out HB.out) | (with_reducible refine Kd.C_alloc ?_ _) | (with_reducible refine Kd.C_drewN ?_ _) | (with_reducible refine Kd.C_drew ?_))); (case aB => exact (by repeat (first | (with_reducible first | exact HB.out | apply below_alloc | apply pw_below_drewN | apply below_drew1) | exact HB.out))); (case aF => exact (fun _ _ => trivial)); (case aO => exact (by (with_reducible repeat (first | apply Kd.R_alloc | apply Kd.R_drewN | apply Kd.R_drew)); exact HO183.out)); (case aS => exact (below_size (by repeat (first | (with_reducible first | exact HB.out | apply below_alloc | apply pw_below_drewN | apply below_drew1) | exact HB.out)))); (case aL => have := LM.out; simp only [List.length_nil]; omega); intro v185 w14 ho hb hg hat; have n0_ := Aside0.mk (hb); have n1_ := Aside0.mk (ho); clear HB; clear HO183; have HB := n0_; have HO186 := n1_; clear n0_ n1_; clear ho hb hg hat))
   go_ret
   exact ⟨_, rfl, HO186.out, HB.out⟩
 ·rw [if_neg hl] at h
  cases h
section
variable {P : Program}
theorem slices_Insert_api_Share.run_copy_rowN (w : World) (dT sT ty elem : TypeId) (sz : Nat) (g o dLen dCap : Nat) (a : Addr) (sLen sCap : Nat) (cur : Array Value) (t : TypeId) (cs : List Value)
  (hu : P.underlying dT = some (.slice elem)) (hs : (P.info? elem).map (·.size) = some sz)
  (hg : w.heap[g]? = some (.cells cur t (0, 0))) (hn : cs.length = Nat.min sLen dLen * sz)
  (hsrc : ∀ j v, cs[j]? = some v → w.cell? (a.add j) = some v) (hfit : o + cs.length ≤ cur.size) (h1 : ∀ v ∈ cs, v.oneCell' = true) :
  (Builtin.copy_ #[dT, sT] ty #[.slice (some ⟨g, o, none⟩) dLen dCap, .slice (some a) sLen sCap]).run P w =
   .ok (goInt (Nat.min sLen dLen)) (w.setRow g (cur.toList.take o ++ cs ++ cur.toList.drop (o + cs.length)).toArray) := by
 have hl := run_loadCells_list (P := P) w a cs hsrc
 have hst := run_storeCells_at P g o t cs 0 cur w hg (by simpa using hfit) h1
 cases hq : P.info? elem with
 | none => simp [hq] at hs
 | some i =>
  have hi : i.size = sz := by simpa [hq] using hs
  simp [Builtin.copy_, run_underlying hu, Builtin.lenOf, Builtin.firstCells, sizeOf, typeInfo, hq, hi, ← hn, hl, hst]
theorem slices_Insert_api_Share.wp_copy_runN (w : World) {o : Oper} {a : Act} {K : Act → World → Prop} {Q : Exit → Act → World → Prop} (d s : Operand) (t t' : TypeId)
  (ho : o.op = .call { callee := .builtin .copy, args := #[d, s], argTypes := #[t, t'] }) (v u : Value) (hd : a.eval d = v) (hs : a.eval s = u) {v' : Value} {w' : World}
  (hr : (Builtin.copy_ #[t, t'] o.type #[v, u]).run P w = .ok v' w') (h : K (a.put o.dst v') w') : o.wp P a w K Q := by
 unfold Oper.wp execOp
 simp only [ho, resolve, invoke, builtin, Sem.run_bind, Sem.run_pure, Result.andThen_ok, List.map_toArray, List.map_cons, List.map_nil, hd, hs, hr]
 exact h
theorem slices_Insert_api_Share.wpList_copy_runN (w : World) {ops : Array Oper} {rest : List Oper} {o : Oper} {a : Act} {Q : Exit → Act → World → Prop} (hgd : o.guard = none) (d s : Operand) (t t' : TypeId)
  (ho : o.op = .call { callee := .builtin .copy, args := #[d, s], argTypes := #[t, t'] }) (v u : Value) (hd : a.eval d = v) (hs : a.eval s = u) {v' : Value} {w' : World}
  (hr : (Builtin.copy_ #[t, t'] o.type #[v, u]).run P w = .ok v' w') (h : wpList P ops Q rest (a.put o.dst v') w') : wpList P ops Q (o :: rest) a w :=
 wpList_plain hgd fun _ hK => slices_Insert_api_Share.wp_copy_runN w d s t t' ho v u hd hs hr (hK _ _ h)
theorem slices_Insert_api_Share.step_copy_runN {ops : Array Oper} {o : Oper} {a : Act} {w : World} {K : Act → World → Prop} {Q : Exit → Act → World → Prop} {E : Prop}
  (hg : o.guard = none) (d x : Operand) (dT sT : TypeId) (hop : o.op = Op.call { callee := Callee.builtin Builtin.copy, args := #[d, x], argTypes := #[dT, sT] })
  (v u : Value) (hd : a.eval d = v) (hx : a.eval x = u) {v' : Value} {w' : World} (hr : (Builtin.copy_ #[dT, sT] o.type #[v, u]).run P w = .ok v' w') (hK : K (a.put o.dst v') w') :
  if Region.wanted o (yielded ops a.tmps) = true then Oper.wp P o a w K Q else E := by
 have hw : Region.wanted o (yielded ops a.tmps) = true := by simp [Region.wanted, hg]
 rw [if_pos hw]
 unfold Oper.wp
 simp [execOp, hop, resolve, invoke, builtin, hd, hx, hr, Result.andThen]
 exact hK
end
theorem slices_Insert_api_Share.splice_two {α : Type} (L X Y R : List α) (p : Nat) (hp : p + Y.length ≤ L.length) :
  (((L.take (p + Y.length) ++ X ++ R).take p ++ Y ++ (L.take (p + Y.length) ++ X ++ R).drop (p + Y.length)).take (p + Y.length + X.length)) = L.take p ++ Y ++ X := by
 have hl : (L.take (p + Y.length)).length = p + Y.length := by rw [List.length_take]; omega
 have e1 : (L.take (p + Y.length) ++ X ++ R).take p = L.take p := by
  rw [List.append_assoc, List.take_append_of_le_length (by omega), List.take_take, Nat.min_eq_left (by omega)]
 have e2 : (L.take (p + Y.length) ++ X ++ R).drop (p + Y.length) = X ++ R := by
  rw [List.append_assoc]
  conv => lhs; arg 1; rw [← hl]
  exact List.drop_left
 rw [e1, e2, ← List.append_assoc]
 have hl2 : (L.take p ++ Y ++ X).length = p + Y.length + X.length := by rw [List.length_append, List.length_append, List.length_take]; omega
 rw [← hl2]
 exact List.take_left
theorem slices_Insert_api_Share.grown_setRow (w : World) (g : Nat) (cs : Array Value) : w.grownBy (w.setRow g cs) (some g) := ⟨rfl, rfl, rfl, by simp [World.setRow], fun k _ hk => setRow_other w g k cs (fun e => hk (by rw [e]))⟩
theorem slices_Insert_api_Share.grown_drew (w : World) (r : Option Nat) : w.grownBy w.drew r := ⟨rfl, rfl, rfl, Nat.le_refl _, fun _ _ _ => rfl⟩
set_option maxHeartbeats 4000000 in
set_option maxRecDepth 100000 in
/-- There is room, ahead of the end: in place. -/
theorem slices_Insert_api_Share.ins_shift (b n c i vb vc : Nat) (cur curv : Array Value) (w : World) (hi : i < n) (hroom : n + 1 ≤ c) (hcm : c ≤ maxLen) (hvb : vb ≠ b)
  (hb : w.heap[b]? = some (.cells cur 46 (0, 0))) (hcs : cur.size = c * 2) (hv : w.heap[vb]? = some (.cells curv 46 (0, 0))) (hvs : curv.size = vc * 2) (hv1 : 1 ≤ vc)
  (h1 : ∀ u ∈ cur.toList.take (n * 2), u.oneCell' = true) (h1v : ∀ u ∈ curv.toList.take 2, u.oneCell' = true) :
  Calls Try.prog 32 #[.slice (some ⟨b, 0, none⟩) n c, .int .i64 i, .slice (some ⟨vb, 0, none⟩) 1 vc] w fun e w' =>
   e = .returned (.slice (some ⟨b, 0, none⟩) (n + 1) c) ∧ w.grownBy w' (some b) ∧ ∃ cur' : Array Value, w'.heap[b]? = some (.cells cur' 46 (0, 0)) ∧ cur'.size = c * 2 ∧
    cur'.toList.take ((n + 1) * 2) = cur.toList.take (i * 2) ++ curv.toList.take 2 ++ (cur.toList.drop (i * 2)).take ((n - i) * 2) := by
 have hu22 := Try.underlying22
 have c63 : (c : Int) ≤ 9223372036854775807 := by unfold maxLen at hcm; omega
 have hz2 : ¬ ((i : Int) = (n : Int)) := by omega
 have hsz : (Try.prog.info? 46).map (·.size) = some 2 := by kernel_rfl
 have hw1 : IntKind.i64.wrap ((i : Int) + 1) = (i : Int) + 1 := by rw [IntKind.wrap_i64]; omega
 have q1 : (0 : Int) ≤ (i : Int) + 1 := by omega
 have q2 : i ≤ n := by omega
 have q3 : ((i : Int) + 1).toNat = i + 1 := by omega
 have q4 : ¬ (c = i + 1) := by omega
 have q5 : (i : Int) ≤ (n : Int) + 1 := by omega
 have q6 : ¬ (c = i) := by omega
 have q7 : i ≤ n + 1 := by omega
 have hw2 : IntKind.i64.wrap ((n : Int) + 1) = ((n + 1 : Nat) : Int) := by rw [IntKind.wrap_i64]; omega
 have hsb : w.shape? b = some (46, cur.size) := by simp [World.shape?, hb]
 have hsa : w.shape? vb = some (46, curv.size) := by simp [World.shape?, hv]
 have hfa : ∀ k, w.frozen? ⟨vb, k, none⟩ = false := fun k => by simp [World.frozen?, hv]
 have hzz : ∀ W : World, (Go.sizeOf 46).run Try.prog W = .ok 2 W := fun W => by kernel_rfl
 have hov : ∀ lb cb, (callFunc 37 #[.slice (some ⟨vb, 0, none⟩) 1 vc, .slice (some ⟨b, (i + 1) * 2, none⟩) lb cb]).run Try.prog w = .ok (.value (.bool false)) w := fun lb cb => by
  rw [run_callFunc_extern Try.func37 (by kernel_rfl) (by kernel_rfl) (by kernel_rfl) (e := Extern.SlicesOverlaps.overlaps #[22, 22] #[4]) (by kernel_rfl),
   Lib.run_overlaps_apart w 22 4 46 Try.underlying22 2 hzz ⟨vb, 0, none⟩ ⟨b, (i + 1) * 2, none⟩ 1 vc lb cb hvb 46 46 curv.size cur.size hsa hsb (by omega) (hfa 0) (hfa _)]
  rfl
 obtain ⟨cs1, hcs1⟩ : ∃ cs1, cs1 = (cur.toList.drop (i * 2)).take ((n - i) * 2) := ⟨_, rfl⟩
 obtain ⟨vs, hvs1⟩ : ∃ vs, vs = curv.toList.take 2 := ⟨_, rfl⟩
 have hl1 : cs1.length = (n - i) * 2 := by rw [hcs1, List.length_take, List.length_drop, Array.length_toList]; omega
 have hl2 : vs.length = 2 := by rw [hvs1, List.length_take, Array.length_toList]; omega
 have hm1 : Nat.min (n + 1 - i) (n - i) = n - i := by simp only [Nat.min_def]; split <;> omega
 have hm2 : Nat.min 1 (n + 1 - i) = 1 := by simp only [Nat.min_def]; split <;> omega
 have hn1 : n + 1 - (i + 1) = n - i := by omega
 obtain ⟨cur1, hc1⟩ : ∃ cur1 : Array Value, cur1 = (cur.toList.take ((i + 1) * 2) ++ cs1 ++ cur.toList.drop ((i + 1) * 2 + cs1.length)).toArray := ⟨_, rfl⟩
 have hcs1' : cur1.size = cur.size := by rw [hc1, List.size_toArray, List.length_append, List.length_append, List.length_take, List.length_drop, Array.length_toList, hl1]; omega
 have hcp1 : ∀ ty dc sc, (Builtin.copy_ #[22, 22] ty #[.slice (some ⟨b, (i + 1) * 2, none⟩) (n - i) dc, .slice (some ⟨b, i * 2, none⟩) (n + 1 - i) sc]).run Try.prog w.drew = .ok (goInt ((n - i : Nat) : Int)) (w.drew.setRow b cur1) := fun ty dc sc => by
  have := slices_Insert_api_Share.run_copy_rowN (P := Try.prog) w.drew 22 22 ty 46 2 b ((i + 1) * 2) (n - i) dc ⟨b, i * 2, none⟩ (n + 1 - i) sc cur 46 cs1 Try.underlying22 hsz hb (by rw [hl1, hm1]) (fun j v hj => by
   rw [hcs1, List.getElem?_take] at hj
   split at hj
   ·rw [List.getElem?_drop] at hj
    rw [Addr.add_lit]
    show w.cell? _ = _
    simp [World.cell?, hb]
    simpa using hj
   ·cases hj) (by rw [hl1]; omega) (fun u hu => h1 u (by rw [hcs1] at hu; have e : (cur.toList.take (n * 2)).drop (i * 2) = (cur.toList.drop (i * 2)).take ((n - i) * 2) := (by rw [List.drop_take, show n * 2 - i * 2 = (n - i) * 2 by omega]); rw [← e] at hu; exact List.mem_of_mem_drop hu))
  rw [hm1, ← hc1] at this
  exact this
 obtain ⟨cur2, hc2⟩ : ∃ cur2 : Array Value, cur2 = (cur1.toList.take (i * 2) ++ vs ++ cur1.toList.drop (i * 2 + vs.length)).toArray := ⟨_, rfl⟩
 have hb1 : (w.drew.setRow b cur1).heap[b]? = some (.cells cur1 46 (0, 0)) := setRow_heap w.drew b cur cur1 46 (0, 0) hb
 have hcp2 : ∀ ty dc, (Builtin.copy_ #[22, 22] ty #[.slice (some ⟨b, i * 2, none⟩) (n + 1 - i) dc, .slice (some ⟨vb, 0, none⟩) 1 vc]).run Try.prog (w.drew.setRow b cur1) = .ok (goInt 1) ((w.drew.setRow b cur1).setRow b cur2) := fun ty dc => by
  have := slices_Insert_api_Share.run_copy_rowN (P := Try.prog) (w.drew.setRow b cur1) 22 22 ty 46 2 b (i * 2) (n + 1 - i) dc ⟨vb, 0, none⟩ 1 vc cur1 46 vs Try.underlying22 hsz hb1 (by rw [hl2, hm2]) (fun j v hj => by
   rw [hvs1, List.getElem?_take] at hj
   split at hj
   ·rw [Addr.add_lit]
    have hv' : (w.drew.setRow b cur1).heap[vb]? = some (.cells curv 46 (0, 0)) := (setRow_other w.drew b vb cur1 hvb).trans hv
    simp [World.cell?, hv']
    simpa using hj
   ·cases hj) (by rw [hl2, hcs1']; omega) (fun u hu => h1v u (by rw [hvs1] at hu; exact hu))
  rw [hm2, ← hc2] at this
  exact this
 have HX : Aside0 (w.grownBy ((w.drew.setRow b cur1).setRow b cur2) (some b) ∧ ∃ cur' : Array Value, ((w.drew.setRow b cur1).setRow b cur2).heap[b]? = some (.cells cur' 46 (0, 0)) ∧ cur'.size = c * 2 ∧
   cur'.toList.take ((n + 1) * 2) = cur.toList.take (i * 2) ++ curv.toList.take 2 ++ (cur.toList.drop (i * 2)).take ((n - i) * 2)) := ⟨by
  refine ⟨((slices_Insert_api_Share.grown_drew w _).trans (slices_Insert_api_Share.grown_setRow _ _ _)).trans (slices_Insert_api_Share.grown_setRow _ _ _), cur2, setRow_heap _ b cur1 cur2 46 (0, 0) hb1, ?_, ?_⟩
  ·rw [hc2, List.size_toArray, List.length_append, List.length_append, List.length_take, List.length_drop, Array.length_toList, hl2, hcs1']; omega
  ·have := slices_Insert_api_Share.splice_two cur.toList cs1 vs (cur.toList.drop ((i + 1) * 2 + cs1.length)) (i * 2) (by rw [hl2, Array.length_toList]; omega)
   rw [hl2, hl1, show i * 2 + 2 = (i + 1) * 2 by omega, show (i + 1) * 2 + (n - i) * 2 = (n + 1) * 2 by omega] at this
   rw [← hvs1, ← hcs1, hc2, hc1, hl1, hl2, show i * 2 + 2 = (i + 1) * 2 by omega, show (i + 1) * 2 + (n - i) * 2 = (n + 1) * 2 by omega]
   exact this⟩
 clear hc1 hc2 hcs1 hvs1 hcs1' hl1 hl2 hb1
 go_enter Try.func32, Try.ntmps32
 go_wp2_with (simp only [hov])
 go_region_law (refine slices_Insert_api_Share.step_copy_runN rfl _ _ 22 22 rfl _ _ (by simp [Act.eval, Act.put]) (by simp [Act.eval, Act.put]) (hcp1 _ _ _) ?_)
 go_wp2_with (at_builtin; refine slices_Insert_api_Share.wpList_copy_runN _ rfl _ _ 22 22 rfl _ _ rfl rfl (hcp2 _ _) ?_)
 go_ret
 exact ⟨rfl, HX.out⟩
set_option maxHeartbeats 4000000 in
set_option maxRecDepth 100000 in
/-- There is no room, ahead of the end: a new row. -/
theorem slices_Insert_api_Share.ins_grow (b n c i vb vc : Nat) (cur curv : Array Value) (w : World) (hi : i < n) (hnc : n ≤ c) (hroom : c < n + 1) (hbig : (n + 1) * 16 ≤ 140737488355328)
  (hb : w.heap[b]? = some (.cells cur 46 (0, 0))) (hcs : cur.size = c * 2) (hv : w.heap[vb]? = some (.cells curv 46 (0, 0))) (hvs : curv.size = vc * 2) (hv1 : 1 ≤ vc)
  (h1 : ∀ u ∈ cur.toList.take (n * 2), u.oneCell' = true) (h1v : ∀ u ∈ curv.toList.take 2, u.oneCell' = true) :
  Calls Try.prog 32 #[.slice (some ⟨b, 0, none⟩) n c, .int .i64 i, .slice (some ⟨vb, 0, none⟩) 1 vc] w fun e w' =>
   ∃ c' : Nat, e = .returned (.slice (some ⟨w.heap.size, 0, none⟩) (n + 1) c') ∧ w.grownBy w' none ∧ n + 1 ≤ c' ∧ c' ≤ maxLen ∧ ∃ cur' : Array Value, w'.heap[w.heap.size]? = some (.cells cur' 46 (0, 0)) ∧ cur'.size = c' * 2 ∧
    cur'.toList.take ((n + 1) * 2) = cur.toList.take (i * 2) ++ curv.toList.take 2 ++ (cur.toList.drop (i * 2)).take ((n - i) * 2) := by
 have hu22 := Try.underlying22
 have hu3 := Try.underlying3
 have hsz : (Try.prog.info? 46).map (·.size) = some 2 := by kernel_rfl
 obtain ⟨i0, hi0, hz0, hzs, hzb⟩ := info_parts info46
 have hw1 : IntKind.i64.wrap ((i : Int) + 1) = (i : Int) + 1 := by rw [IntKind.wrap_i64]; omega
 have hw2 : IntKind.i64.wrap ((n : Int) + 1) = (n : Int) + 1 := by rw [IntKind.wrap_i64]; omega
 have hw3 : IntKind.i64.wrap ((n : Int) + 1 - (i : Int)) = (n : Int) + 1 - (i : Int) := by rw [IntKind.wrap_i64]; omega
 have hz2 : ¬ ((i : Int) = (n : Int)) := by omega
 have hz3 : (c : Int) < (n : Int) + 1 := by omega
 have q1 : (0 : Int) ≤ (i : Int) + 1 := by omega
 have q2 : i ≤ n := by omega
 have q3 : ((i : Int) + 1).toNat = i + 1 := by omega
 have hkk : (n : Int) + 1 - (i : Int) = ((n + 1 - i : Nat) : Int) := by omega
 have hik : i + (n + 1 - i) = n + 1 := by omega
 have hold : (Builtin.firstCells i0.size i (.slice (some ⟨b, 0, none⟩) i c)).run Try.prog w.drew = .ok (cur.toList.take (i * 2)).toArray w.drew := by
  rw [hzs]
  exact run_firstCells_some w.drew 2 i ⟨b, 0, none⟩ i c (cur.toList.take (i * 2)) (by rw [List.length_take, Array.length_toList]; omega) (fun j v hj => by
   rw [List.getElem?_take] at hj
   split at hj
   ·rw [Addr.add_lit]
    show w.cell? _ = _
    simp [World.cell?, hb]
    simpa using hj
   ·cases hj)
 obtain ⟨G, hG⟩ : ∃ G, G = grownCap w (n + 1) c 46 := ⟨_, rfl⟩
 obtain ⟨ROW, hROW⟩ : ∃ ROW : Array Value, ROW = (cur.toList.take (i * 2)).toArray ++ Builtin.zeroCells (Value.agg #[.int .i64 0, .int .i64 0]).cells (n + 1 - i) ++ Builtin.zeroCells (Value.agg #[.int .i64 0, .int .i64 0]).cells (G - (n + 1)) := ⟨_, rfl⟩
 have hrz : ∀ ty, (Builtin.append_ #[22, 3] ty #[.slice (some ⟨b, 0, none⟩) i c, .int .i64 ((n : Int) + 1 - (i : Int))]).run Try.prog w = .ok (.slice (some ⟨w.heap.size, 0, none⟩) (n + 1) G) (w.drew.alloc (.cells ROW 46)) := fun ty => by
  have h := Lib.run_append_grow_zeros w 22 3 ty 46 i0 _ .i64 .i64 Try.underlying22 Try.underlying3 hi0 hz0 (some ⟨b, 0, none⟩) i c (cur.toList.take (i * 2)) hold (n + 1 - i) (by omega) (by omega) (by omega) (by omega) (by rw [hzb]; omega) (by rw [hzb, hik]; exact growslice_fits (by omega) hbig)
  rw [hik, ← hG, ← hROW] at h
  rw [hkk]
  exact h
 have hGn : n + 1 ≤ G := by rw [hG]; exact grownCap_ge w _ _ _
 have hGm : G ≤ maxLen := by rw [hG]; exact grownCap_le_maxLen w (n + 1) c 46 (by unfold maxLen; omega)
 have hG63 : (G : Int) ≤ 9223372036854775807 := by unfold maxLen at hGm; omega
 have hRs : ROW.size = G * 2 := by
  rw [hROW]
  simp [Builtin.zeroCells, Value.cells]
  omega
 have hbw : b < w.heap.size := (Array.getElem?_eq_some_iff.1 hb).1
 have hvw : vb < w.heap.size := (Array.getElem?_eq_some_iff.1 hv).1
 have q4 : ¬ (G = i + 1) := by omega
 have q5 : ¬ (G = i) := by omega
 have q6 : ¬ (c = i) := by omega
 have q7 : i ≤ n + 1 := by omega
 have q8 : (i : Int) ≤ (n : Int) := by omega
 obtain ⟨cs1, hcs1⟩ : ∃ cs1, cs1 = (cur.toList.drop (i * 2)).take ((n - i) * 2) := ⟨_, rfl⟩
 obtain ⟨vs, hvs1⟩ : ∃ vs, vs = curv.toList.take 2 := ⟨_, rfl⟩
 have hl1 : cs1.length = (n - i) * 2 := by rw [hcs1, List.length_take, List.length_drop, Array.length_toList]; omega
 have hl2 : vs.length = 2 := by rw [hvs1, List.length_take, Array.length_toList]; omega
 have hm1 : Nat.min (n - i) (n - i) = n - i := Nat.min_self _
 have hm2 : Nat.min 1 (n + 1 - i) = 1 := by simp only [Nat.min_def]; split <;> omega
 obtain ⟨W1, hW1⟩ : ∃ W1, W1 = w.drew.alloc (.cells ROW 46) := ⟨_, rfl⟩
 have hg1 : W1.heap[w.heap.size]? = some (.cells ROW 46 (0, 0)) := by rw [hW1]; exact heap_alloc_new w.drew _
 have hb1 : W1.heap[b]? = some (.cells cur 46 (0, 0)) := by rw [hW1]; exact (heap_alloc_old w.drew _ hbw).trans hb
 have hv1' : W1.heap[vb]? = some (.cells curv 46 (0, 0)) := by rw [hW1]; exact (heap_alloc_old w.drew _ hvw).trans hv
 obtain ⟨row2, hr2⟩ : ∃ row2 : Array Value, row2 = (ROW.toList.take (i * 2) ++ vs ++ ROW.toList.drop (i * 2 + vs.length)).toArray := ⟨_, rfl⟩
 obtain ⟨row3, hr3⟩ : ∃ row3 : Array Value, row3 = (row2.toList.take ((i + 1) * 2) ++ cs1 ++ row2.toList.drop ((i + 1) * 2 + cs1.length)).toArray := ⟨_, rfl⟩
 have hr2s : row2.size = ROW.size := by rw [hr2, List.size_toArray, List.length_append, List.length_append, List.length_take, List.length_drop, Array.length_toList, hl2]; omega
 have hcpA : ∀ W : World, W.heap = W1.heap → ∀ ty dc, (Builtin.copy_ #[22, 22] ty #[.slice (some ⟨w.heap.size, i * 2, none⟩) (n + 1 - i) dc, .slice (some ⟨vb, 0, none⟩) 1 vc]).run Try.prog W = .ok (goInt 1) (W.setRow w.heap.size row2) := fun W hW ty dc => by
  have := slices_Insert_api_Share.run_copy_rowN (P := Try.prog) W 22 22 ty 46 2 w.heap.size (i * 2) (n + 1 - i) dc ⟨vb, 0, none⟩ 1 vc ROW 46 vs Try.underlying22 hsz (by rw [hW]; exact hg1) (by rw [hl2, hm2]) (fun j v hj => by
   rw [hvs1, List.getElem?_take] at hj
   split at hj
   ·rw [Addr.add_lit]
    show W.cell? _ = _
    simp [World.cell?, hW, hv1']
    simpa using hj
   ·cases hj) (by rw [hl2]; omega) (fun u hu => h1v u (by rw [hvs1] at hu; exact hu))
  rw [hm2, ← hr2] at this
  exact this
 have hb2 : (W1.setRow w.heap.size row2).heap[b]? = some (.cells cur 46 (0, 0)) := (setRow_other W1 w.heap.size b row2 (Nat.ne_of_lt hbw)).trans hb1
 have hg2 : (W1.setRow w.heap.size row2).heap[w.heap.size]? = some (.cells row2 46 (0, 0)) := setRow_heap W1 w.heap.size ROW row2 46 (0, 0) hg1
 have hcpB : ∀ W : World, W.heap = (W1.setRow w.heap.size row2).heap → ∀ ty dc sc, (Builtin.copy_ #[22, 22] ty #[.slice (some ⟨w.heap.size, (i + 1) * 2, none⟩) (n - i) dc, .slice (some ⟨b, i * 2, none⟩) (n - i) sc]).run Try.prog W = .ok (goInt ((n - i : Nat) : Int)) (W.setRow w.heap.size row3) := fun W hW ty dc sc => by
  have := slices_Insert_api_Share.run_copy_rowN (P := Try.prog) W 22 22 ty 46 2 w.heap.size ((i + 1) * 2) (n - i) dc ⟨b, i * 2, none⟩ (n - i) sc row2 46 cs1 Try.underlying22 hsz (by rw [hW]; exact hg2) (by rw [hl1, hm1]) (fun j v hj => by
   rw [hcs1, List.getElem?_take] at hj
   split at hj
   ·rw [List.getElem?_drop] at hj
    rw [Addr.add_lit]
    show W.cell? _ = _
    simp [World.cell?, hW, hb2]
    simpa using hj
   ·cases hj) (by rw [hl1]; omega) (fun u hu => h1 u (by rw [hcs1] at hu; have e : (cur.toList.take (n * 2)).drop (i * 2) = (cur.toList.drop (i * 2)).take ((n - i) * 2) := (by rw [List.drop_take, show n * 2 - i * 2 = (n - i) * 2 by omega]); rw [← e] at hu; exact List.mem_of_mem_drop hu))
  rw [hm1, ← hr3] at this
  exact this
 have hr3s : row3.size = ROW.size := by rw [hr3, List.size_toArray, List.length_append, List.length_append, List.length_take, List.length_drop, Array.length_toList, hl1, hr2s]; omega
 have HX : Aside0 (w.grownBy ((((w.alloc (.cells ROW 46)).drew.setRow w.heap.size row2).drew).setRow w.heap.size row3) none ∧ n + 1 ≤ G ∧ G ≤ maxLen ∧ ∃ cur' : Array Value, ((((w.alloc (.cells ROW 46)).drew.setRow w.heap.size row2).drew).setRow w.heap.size row3).heap[w.heap.size]? = some (.cells cur' 46 (0, 0)) ∧ cur'.size = G * 2 ∧
   cur'.toList.take ((n + 1) * 2) = cur.toList.take (i * 2) ++ curv.toList.take 2 ++ (cur.toList.drop (i * 2)).take ((n - i) * 2)) := ⟨by
  have g0 : w.grownBy (w.alloc (.cells ROW 46)).drew none := (World.grownBy_alloc w _ none).trans (slices_Insert_api_Share.grown_drew _ _)
  have g1 : w.grownBy ((w.alloc (.cells ROW 46)).drew.setRow w.heap.size row2) none := g0.andThen (slices_Insert_api_Share.grown_setRow _ _ _) (fun j hj => by cases hj; exact .inl (Nat.le_refl _))
  have g2 := g1.trans (slices_Insert_api_Share.grown_drew _ _)
  have hg2' : (((w.alloc (.cells ROW 46)).drew.setRow w.heap.size row2).drew).heap[w.heap.size]? = some (.cells row2 46 (0, 0)) := by
   rw [hW1] at hg2
   exact hg2
  refine ⟨g2.andThen (slices_Insert_api_Share.grown_setRow _ _ _) (fun j hj => by cases hj; exact .inl (Nat.le_refl _)), hGn, hGm, row3, setRow_heap _ w.heap.size row2 row3 46 (0, 0) hg2', by rw [hr3s, hRs], ?_⟩
  have hRt : ROW.toList.take (i * 2) = cur.toList.take (i * 2) := by
   rw [hROW, Array.toList_append, Array.toList_append, List.append_assoc]
   show (cur.toList.take (i * 2) ++ _).take (i * 2) = _
   rw [List.take_append_of_le_length (by rw [List.length_take, Array.length_toList]; omega), List.take_take, Nat.min_self]
  have hlt : (ROW.toList.take (i * 2) ++ vs).length = (i + 1) * 2 := by rw [List.length_append, List.length_take, Array.length_toList, hl2, hRs]; omega
  have e2 : row2.toList.take ((i + 1) * 2) = ROW.toList.take (i * 2) ++ vs := by
   rw [hr2]
   show (ROW.toList.take (i * 2) ++ vs ++ _).take ((i + 1) * 2) = _
   rw [← hlt]
   exact List.take_left
  rw [← hvs1, ← hcs1, hr3]
  show (row2.toList.take ((i + 1) * 2) ++ cs1 ++ _).take ((n + 1) * 2) = _
  rw [e2, hRt]
  have hl3 : (cur.toList.take (i * 2) ++ vs ++ cs1).length = (n + 1) * 2 := by rw [List.length_append, List.length_append, List.length_take, Array.length_toList, hl1, hl2]; omega
  rw [← hl3]
  exact List.take_left⟩
 have hH1 : ((w.alloc (.cells ROW 46)).drew).heap = W1.heap := by rw [hW1]; rfl
 have hH2 : (w.drew.alloc (.cells ROW 46)).heap = W1.heap := by rw [hW1]
 have hH3 : ((w.alloc (.cells ROW 46)).drew.setRow w.heap.size row2).drew.heap = (W1.setRow w.heap.size row2).heap := by rw [hW1]; rfl
 have hH4 : ((w.drew.alloc (.cells ROW 46)).setRow w.heap.size row2).drew.heap = (W1.setRow w.heap.size row2).heap := by rw [hW1]; rfl
 clear hkk hik hold hROW hG hr2 hr3 hcs1 hvs1 hl1 hl2 hW1 hg1 hb1 hv1' hb2 hg2
 go_enter Try.func32, Try.ntmps32
 go_wp2_with (first
  | (at_builtin; refine Lib.wpList_append_run _ rfl _ _ _ _ rfl _ _ rfl rfl _ _ (hrz _) ?_)
  | (at_builtin; refine slices_Insert_api_Share.wpList_copy_runN _ rfl _ _ 22 22 rfl _ _ rfl rfl (hcpA _ (by first | exact hH1 | exact hH2) _ _) ?_))
 go_region_law (refine slices_Insert_api_Share.step_copy_runN rfl _ _ 22 22 rfl _ _ (by simp [Act.eval, Act.put]) (by simp [Act.eval, Act.put]) (hcpB _ (by first | exact hH3 | exact hH4) _ _ _) ?_)
 go_wp2
 go_ret
 exact ⟨G, rfl, HX.out⟩
def slices_Insert_api_Share.f (l0 : List S46) (a1 : Int) (l2 : List S46) : Option (List S46) := if 0 ≤ a1 ∧ a1 ≤ l0.length ∧ l2.length = 1 ∧ l0.length < 8796093022207 then some (l0.take a1.toNat ++ l2 ++ l0.drop a1.toNat) else none
theorem slices_Insert_api_Share.m46_any {w w' : World} {base base' : Nat} {ok ok' : Nat → Prop} {xs : List S46} {cs : List Value} (h : Reps (k46.M w base ok) 2 xs cs) : Reps (k46.M w' base' ok') 2 xs cs := h.imp_ (fun p c hp => by rw [k46_openM hp]; exact k46_mkM _ _ _ _)
theorem slices_Insert_api_Share.m46_one {w : World} {base : Nat} {ok : Nat → Prop} {xs : List S46} {cs : List Value} (h : Reps (k46.M w base ok) 2 xs cs) : ∀ u ∈ cs, u.oneCell' = true := Kd.reps_one h (by decide) (fun p c hp u hu => by
 rw [k46_openM hp] at hu
 simp at hu
 rcases hu with rfl | rfl <;> rfl)
/-- What lies in a row told of its first cells. -/
theorem slices_Insert_api_Share.r46_mk {w' : World} {base g cap : Nat} {ok : Nat → Prop} {cur' : Array Value} {xs : List S46} {W : World} {b0 : Nat} {ok0 : Nat → Prop} {inner : List Value} (hok : ok g) (hg : base ≤ g) (hh : w'.heap[g]? = some (.cells cur' 46 (0, 0))) (hn : xs.length ≤ cap) (hm : cap ≤ maxLen) (hs : cur'.size = cap * 2) (hi : cur'.toList.take (xs.length * 2) = inner) (hr : Reps (k46.M W b0 ok0) 2 xs inner) : Kd.R k46 46 w' base ok (.slice (some ⟨g, 0, none⟩) xs.length cap) xs :=
 ⟨fun k hk => by
  have : g = k := by simpa [Value.ownBlock] using hk
  subst this
  exact hok, inner, ⟨hr.1, .inr ⟨g, cap, cur', rfl, hg, hh, hn, hm, hs, hi⟩⟩, slices_Insert_api_Share.m46_any hr⟩
set_option maxHeartbeats 4000000 in
set_option maxRecDepth 100000 in
theorem slices_Insert_api_Share.calls (P0_ : Nat → Prop) (u9000_ : Value) (l0 : List (S46)) (a1 : Int) (P2_ : Nat → Prop) (u9001_ : Value) (l2 : List (S46)) (r : List (S46)) (w0 w : World) (hB : Below w0.heap.size w0 w) (ho0 : Kd.R k46 46 w w0.heap.size P0_ u9000_ l0) (hp0_2 : ∀ k_, P0_ k_ → ¬ P2_ k_) (ho2 : Kd.R k46 46 w w0.heap.size P2_ u9001_ l2) (hp2_0 : ∀ k_, P2_ k_ → ¬ P0_ k_) (h : slices_Insert_api_Share.f l0 a1 l2 = some r) :
  Calls Try.prog 32 #[u9000_, .int .i64 a1, u9001_] w fun e w' => ∃ v0_ : Value, e = .returned (v0_) ∧ Kd.R k46 46 w' w0.heap.size (fun k_ => ((P0_ k_ ∨ P2_ k_) ∨ w.heap.size ≤ k_)) v0_ r ∧ Below w0.heap.size w0 w' ∧ Kept w w' (fun k_ => P0_ k_ ∨ P2_ k_) := by
 unfold slices_Insert_api_Share.f at h
 split at h
 rotate_left
 ·cases h
 rename_i hc
 obtain ⟨hc1, hc2, hc3, hc4⟩ := hc
 obtain rfl := Option.some.inj h
 clear h
 obtain ⟨i, rfl⟩ : ∃ i : Nat, a1 = i := ⟨a1.toNat, by omega⟩
 have hil : i ≤ l0.length := by omega
 rw [Int.toNat_natCast]
 obtain ⟨hk0, inner0, ⟨hlen0, hown0⟩, hrep0⟩ := ho0
 obtain ⟨hk2, inner2, ⟨hlen2, hown2⟩, hrep2⟩ := ho2
 have hl0 : inner0.length = l0.length * 2 := hlen0
 rcases hown2 with ⟨_, hn2⟩ | ⟨gv, cv, curv, rfl, hbv, hhv, hnv, hmv, hsv, htv⟩
 ·omega
 have hP2 : P2_ gv := hk2 gv rfl
 have hrep : Reps (k46.M w w0.heap.size (fun _ => True)) 2 (l0.take i ++ l2 ++ l0.drop i) (inner0.take (i * 2) ++ inner2 ++ inner0.drop (i * 2)) := Kd.reps_append (Kd.reps_append (Kd.reps_take (slices_Insert_api_Share.m46_any hrep0) hil) (slices_Insert_api_Share.m46_any hrep2)) (Kd.reps_drop (slices_Insert_api_Share.m46_any hrep0))
 have hrl : (l0.take i ++ l2 ++ l0.drop i).length = l0.length + 1 := by rw [List.length_append, List.length_append, List.length_take, List.length_drop]; omega
 have hl2e : inner2.length = 2 := by rw [hlen2, hc3]; rfl
 have hP0 : ∀ k, (P0_ k ∨ P2_ k ∨ w.heap.size ≤ k) → ((P0_ k ∨ P2_ k) ∨ w.heap.size ≤ k) := fun k hk => by rcases hk with h | h | h; exact .inl (.inl h); exact .inl (.inr h); exact .inr h
 rcases Nat.lt_or_eq_of_le hil with hlt | heq
 ·rcases hown0 with ⟨_, hn0⟩ | ⟨g, c, cur, rfl, hbg, hhg, hng, hmg, hsg, htg⟩
  ·omega
  have hP0g : P0_ g := hk0 g rfl
  replace htg : cur.toList.take (l0.length * 2) = inner0 := htg
  replace hsg : cur.size = c * 2 := hsg
  replace htv : curv.toList.take (l2.length * 2) = inner2 := htv
  replace hsv : curv.size = cv * 2 := hsv
  have hne : gv ≠ g := fun e => hp0_2 g hP0g (e ▸ hP2)
  have e1 : cur.toList.take (i * 2) = inner0.take (i * 2) := by rw [← htg, List.take_take, Nat.min_eq_left (by omega)]
  have e2 : (cur.toList.drop (i * 2)).take ((l0.length - i) * 2) = inner0.drop (i * 2) := by rw [← htg, List.drop_take, show l0.length * 2 - i * 2 = (l0.length - i) * 2 by omega]
  have e3 : curv.toList.take 2 = inner2 := by rw [← htv, hc3]
  have o1 : ∀ u ∈ cur.toList.take (l0.length * 2), u.oneCell' = true := by rw [htg]; exact slices_Insert_api_Share.m46_one hrep0
  have o2 : ∀ u ∈ curv.toList.take 2, u.oneCell' = true := by rw [e3]; exact slices_Insert_api_Share.m46_one hrep2
  rw [hc3]
  by_cases hroom : l0.length + 1 ≤ c
  ·refine (slices_Insert_api_Share.ins_shift g l0.length c i gv cv cur curv w hlt hroom hmg hne hhg hsg hhv hsv (by omega) o1 o2).mono ?_
   rintro e w' ⟨rfl, hg1, cur', hh', hs', ht'⟩
   rw [e1, e2, e3] at ht'
   refine ⟨_, rfl, ?_, hB.grown hg1 hB.size (fun k hk => by cases hk; exact hbg), Kept.of_grown hg1 (Kept.refl w _) (fun k hk => by cases hk; exact .inl (.inl hP0g))⟩
   rw [← hrl]
   exact slices_Insert_api_Share.r46_mk (.inl (.inl hP0g)) hbg hh' (by omega) hmg hs' (by rw [hrl]; exact ht') hrep
  ·refine (slices_Insert_api_Share.ins_grow g l0.length c i gv cv cur curv w hlt hng (by omega) (by omega) hhg hsg hhv hsv (by omega) o1 o2).mono ?_
   rintro e w' ⟨c', rfl, hg1, hn', hm', cur', hh', hs', ht'⟩
   rw [e1, e2, e3] at ht'
   refine ⟨_, rfl, ?_, hB.grown hg1 hB.size (fun k hk => by cases hk), Kept.of_grown hg1 (Kept.refl w _) (fun k hk => by cases hk)⟩
   rw [← hrl]
   exact slices_Insert_api_Share.r46_mk (.inr (Nat.le_refl _)) hB.size hh' (by omega) hm' hs' (by rw [hrl]; exact ht') hrep
 ·subst heq
  have HO : Kd.R k46 46 w w0.heap.size (fun k_ => ((P0_ k_ ∨ P2_ k_) ∨ w.heap.size ≤ k_)) u9000_ l0 := Kd.R_mono ⟨hk0, inner0, ⟨hlen0, hown0⟩, hrep0⟩ (fun k hk => .inl (.inl hk))
  have HR : Kd.C k46 w (some ⟨gv, 0, none⟩) l2.length l2 := (Kd.R_reads' (⟨hk2, inner2, ⟨hlen2, .inr ⟨gv, cv, curv, rfl, hbv, hhv, hnv, hmv, hsv, htv⟩⟩, hrep2⟩ : Kd.R k46 46 w w0.heap.size P2_ (.slice (some ⟨gv, 0, none⟩) l2.length cv) l2)).2.2
  have hKM : ∀ (x : S46) (cs : List Value), k46.K w x cs → k46.M w w0.heap.size (fun _ => False) x cs := fun x cs hx => by rw [k46_open hx]; exact k46_mkM _ _ _ _
  have erl : l0.take l0.length ++ l2 ++ l0.drop l0.length = l0 ++ l2 := by rw [List.take_length, List.drop_length, List.append_nil]
  rw [erl]
  have hu22 := Try.underlying22
  have hgr : ∀ (v1 : Value) (w1 : World), Kd.R k46 46 w1 w0.heap.size (fun k_ => ((P0_ k_ ∨ P2_ k_) ∨ w.heap.size ≤ k_)) v1 (l0 ++ l2) → Below w0.heap.size w0 w1 → w.grownBy w1 u9000_.ownBlock → ∃ v0_ : Value, Ending.returned v1 = .returned (v0_) ∧ Kd.R k46 46 w1 w0.heap.size (fun k_ => ((P0_ k_ ∨ P2_ k_) ∨ w.heap.size ≤ k_)) v0_ (l0 ++ l2) ∧ Below w0.heap.size w0 w1 ∧ Kept w w1 (fun k_ => P0_ k_ ∨ P2_ k_) := fun v1 w1 h1 h2 h3 => ⟨v1, rfl, h1, h2, Kept.of_grown h3 (Kept.refl w _) (fun k hk => .inl (.inl (hk0 k hk)))⟩
  replace hgr := Am hgr
  replace HO := Am HO
  replace HR := Am HR
  replace hB := Am hB
  rcases hown0 with ⟨rfl, hn0⟩ | ⟨g, c, cur, rfl, hbg, hhg, hng, hmg, hsg, htg⟩
  ·have e0 : l0 = [] := List.eq_nil_of_length_eq_zero hn0
   subst e0
   clear hrep hrl hrep0 hrep2 hlen0 hlen2 htv
   rw [hc3] at HR ⊢
   go_enter Try.func32, Try.ntmps32
   go_wp2_with (at_builtin; refine Kd.R_append_rows k46 w0.heap.size rfl _ _ 22 46 _ 16 rfl Try.underlying22 info46 rfl (by decide) (by decide) _ [] l2 _ 1 cv _ (fun _ => False) rfl rfl HO.out HR.out hKM (fun k hk => hk.elim) (fun k hk => .inr hk) hB.out hB.out.size (by simp) ?_; intro v1 w1 h1 h2 h3 _; have HX := Am (hgr.out v1 w1 h1 h2 h3); clear h1 h2 h3)
   go_ret
   exact HX.out
  ·have c63 : (c : Int) ≤ 9223372036854775807 := by unfold maxLen at hmg; omega
   clear hrep hrl hrep0 hrep2 hlen0 hlen2 htv htg
   rw [hc3] at HR ⊢
   go_enter Try.func32, Try.ntmps32
   go_wp2_with (at_builtin; refine Kd.R_append_rows k46 w0.heap.size rfl _ _ 22 46 _ 16 rfl Try.underlying22 info46 rfl (by decide) (by decide) _ l0 l2 _ 1 cv _ (fun _ => False) rfl rfl HO.out HR.out hKM (fun k hk => hk.elim) (fun k hk => .inr hk) hB.out hB.out.size (by omega) ?_; intro v1 w1 h1 h2 h3 _; have HX := Am (hgr.out v1 w1 h1 h2 h3); clear h1 h2 h3)
   all_goals (go_ret; exact HX.out)
def tally_more.f (k : Nat) (l0 : List (S46)) (a1 : Int) (a2 : Int) : Option ((List (S46))) := if a2 = 0 then (some l0) else ((tally_find.f k l0 a1).bind fun bt125 => (if bt125.2 = true then (if 0 ≤ bt125.1 then (if bt125.1 < (l0.length : Int) then (some (l0.set (bt125.1 : Int).toNat (⟨(rd_T46 l0 bt125.1).f0, wrap64 (((rd_T46 l0 bt125.1).f1) + a2)⟩ : S46))) else (none)) else (none)) else ((slices_Insert_api_Share.f l0 bt125.1 (([(⟨a1, a2⟩ : S46)] : List (S46)))).bind fun t132 => (some t132))))
theorem tally_more.mono : ∀ a0 a1 a2 k, LeO (tally_more.f k a0 a1 a2) (tally_more.f (k + 1) a0 a1 a2) := by
 intro a0 a1 a2 k
 unfold tally_more.f
 repeat' first
   | (with_reducible exact tally_find.mono _ _ _)
   | (with_reducible exact LeO.refl _)
   | (with_reducible exact LeO.none _)
   | (with_reducible refine LeO.ite ?_ ?_)
   | (with_reducible refine LeO.bind ?_ (fun _ => ?_))
   | exact tally_find.mono _ _ _
   | exact LeO.none _
   | refine LeO.ite ?_ ?_
   | refine LeO.bind ?_ (fun _ => ?_)
set_option maxHeartbeats 8000000 in
set_option maxRecDepth 100000 in
theorem tally_more.calls (k : Nat) (P0_ : Nat → Prop) (u9000_ : Value) (l0 : List (S46)) (a1 : Int) (a2 : Int) (r : List (S46)) (w0 w : World) (hB : Below w0.heap.size w0 w) (ho0 : Kd.R k46 46 w w0.heap.size P0_ u9000_ l0) (h : tally_more.f k l0 a1 a2 = some r) :
  Calls Try.prog 23 #[u9000_, .int .i64 a1, .int .i64 a2] w fun e w' => ∃ v0_ : Value, e = .returned (v0_) ∧ Kd.R k46 46 w' w0.heap.size (fun k_ => (P0_ k_ ∨ w.heap.size ≤ k_)) v0_ r ∧ Below w0.heap.size w0 w' ∧ Kept w w' (fun k_ => P0_ k_) := by
 have hu46 := Try.underlying46
 have Aa := Am (show Kd.R k46 46 w w0.heap.size (fun k_ => (P0_ k_ ∨ w.heap.size ≤ k_)) u9000_ l0 from Kd.R_mono ho0 (fun k_ hk => (.inl hk)))
 have HK := Am (Kept.refl w (fun k_ => P0_ k_))
 have HW0 := Am hB.size
 have HB := Am hB
 clear hB
 have H : (if a2 = 0 then (some l0) else ((tally_find.f k l0 a1).bind fun bt125 => (if bt125.2 = true then (if 0 ≤ bt125.1 then (if bt125.1 < (l0.length : Int) then (some (l0.set (bt125.1 : Int).toNat (⟨(rd_T46 l0 bt125.1).f0, wrap64 (((rd_T46 l0 bt125.1).f1) + a2)⟩ : S46))) else (none)) else (none)) else ((slices_Insert_api_Share.f l0 bt125.1 (([(⟨a1, a2⟩ : S46)] : List (S46)))).bind fun t132 => (some t132))))) = some r := h
 clear h
 by_cases c4 : a2 = 0
 ·rw [if_pos c4] at H
  have c4b0 : (a2 == 0) = true := beq_iff_eq.mpr c4
  have c4b1 : (a2 != 0) = false := bne_eq_false_iff_eq.mpr c4
  clear c4
  obtain rfl := Option.some.inj H
  go_enter Try.func23, Try.ntmps23
  go_wp2
  go_ret
  exact ⟨_, pX, by (with_reducible repeat (first | apply Kd.R_alloc | apply Kd.R_drewN | apply Kd.R_drew)); exact Aa.out, pB HB.out, by repeat (first | (with_reducible first | exact HK.out | apply Kept.alloc | apply Kept.drewN | apply Kept.drew) | exact HK.out)⟩
 rw [if_neg c4] at H
 have c4b0 : (a2 == 0) = false := beq_eq_false_iff_ne.mpr c4
 have c4b1 : (a2 != 0) = true := bne_iff_ne.mpr c4
 replace H := Option.bind_eq_some_iff.mp H
 obtain ⟨⟨t125, t126⟩, A50, H⟩ := H
 replace H : (if t126 = true then (if 0 ≤ t125 then (if t125 < (l0.length : Int) then (some (l0.set (t125 : Int).toNat (⟨(rd_T46 l0 t125).f0, wrap64 (((rd_T46 l0 t125).f1) + a2)⟩ : S46))) else (none)) else (none)) else ((slices_Insert_api_Share.f l0 t125 (([(⟨a1, a2⟩ : S46)] : List (S46)))).bind fun t132 => (some t132))) = some r := H
 have A5 := Am A50
 clear A50
 by_cases c6 : t126 = true
 rotate_left
 ·replace c6 := Bool.eq_false_iff.mpr c6
  subst c6
  have H1 : ((slices_Insert_api_Share.f l0 t125 (([(⟨a1, a2⟩ : S46)] : List (S46)))).bind fun t132 => (some t132)) = some r := by rw [if_neg (show ¬ (false = true) by decide)] at H; exact H
  clear H
  have H := H1
  clear H1
  obtain ⟨y129, hy129⟩ : ∃ y_ : List (S46), y_ = (([(⟨a1, a2⟩ : S46)] : List (S46))) := ⟨_, rfl⟩
  replace H : ((slices_Insert_api_Share.f l0 t125 y129).bind fun t132 => (some t132)) = some r := by first | (rw [hy129]; with_reducible exact H) | (have H2_ := (Option.bind_some _ _).symm.trans H; rw [hy129]; with_reducible exact H2_) | (have H2_ := (Option.bind_some _ _).symm.trans H; with_reducible exact H2_) | with_reducible exact H | (rw [hy129]; exact H) | exact H
  have Ny129 := Am hy129
  clear hy129
  replace H := Option.bind_eq_some_iff.mp H
  obtain ⟨t132, A140, H⟩ := H
  replace H : (some t132) = some r := H
  have A14 := Am A140
  clear A140
  obtain rfl := Option.some.inj H
  obtain ⟨Ae, Af, At⟩ := Kd.R_slice Aa.out
  subst At
  go_enter Try.func23, Try.ntmps23
  go_wp2_with (first | ((with_reducible refine gate_callee (f := 26) rfl ?_); refine goesL_ (some 15) rfl rfl Try.func26 (by kernel_rfl) rfl #[.slice Ae l0.length Af, .int .i64 a1] rfl pL ?_; (with_reducible refine (tally_find.calls k _ _ l0 a1 t125 false _ ?Ac ?Ad A5.out).mono ?_); (case Ac => exact pC (Kd.R_reads' Aa.out).2.2); (case Ad => exact (Kd.R_reads' Aa.out).2.1); rintro e w16 ⟨rfl, hb⟩; refine ⟨_, rfl, ?_⟩; replace Aa := bRa Aa hb; replace HK := Am (Kept.below (S := (fun k_ => P0_ k_)) (by repeat (first | (with_reducible first | exact HK.out | apply Kept.alloc | apply Kept.drewN | apply Kept.drew) | exact HK.out)) hb); replace HB := Am (below_step (pB HB.out) hb); (try clear hb); (try clear hb2); (try clear hk); (try clear hi)) | ((with_reducible refine gate_dst (N := 34) rfl ?_); refine Kd.R_lit k46 _ 46 ?hg (N := 34) ?hd (xs := ([(⟨a1, a2⟩ : S46)] : List (S46))) (inner := [.int .i64 a1, .int .i64 a2]) (ok := fun _ => True) (okp := fun _ => True) ?hr ?hp (fun _ hk => hk) trivial (Below.refl _ _) (Nat.le_refl _) (by simp) ?_; (case hd => rfl); (case hg => rfl); (case hr => first | (go_simp; done) | (go_simp; rfl)); (case hp => exact (Reps.c2 (show Kd.M k46 _ _ _ (⟨a1, a2⟩ : S46) [.int .i64 a1, .int .i64 a2] from (k46_mkM _ _ _ (⟨a1, a2⟩ : S46) )) (Reps.none _ _))); intro v130 w17 ho18 hb hg_ hnew_; clear hg_ hnew_; (first | rw [← Ny129.out] at ho18 | (simp only [Int.reduceToNat] at ho18; rw [← Ny129.out] at ho18)); have Ab := Am (Kd.R_lower (Kd.R_new' (Kd.R_newM (M := fun k_ => (P0_ k_ ∨ w.heap.size ≤ k_)) ho18 (by first | exact HK.out.1 | exact (show Kept w _ (fun k_ => P0_ k_) from by repeat (first | (with_reducible first | exact HK.out | apply Kept.alloc | apply Kept.drewN | apply Kept.drew) | exact HK.out)).1) (fun k_ h_ => .inr h_)) (Kd.R_lt (pR Aa.out))) (below_size (pB HB.out))); replace Aa := Am (Kd.R_elder' (pR Aa.out) (Kd.R_base ho18) hb); replace HK := Am (Kept.below (S := (fun k_ => P0_ k_)) (by repeat (first | (with_reducible first | exact HK.out | apply Kept.alloc | apply Kept.drewN | apply Kept.drew) | exact HK.out)) hb); replace HB := Am (below_step (pB HB.out) hb); clear hb ho18; obtain ⟨Aj, Ak, Au⟩ := Kd.R_slice Ab.out; subst Au) | ((with_reducible refine gate_callee (f := 32) rfl ?_); refine goesL_ (some 35) rfl rfl Try.func32 (by kernel_rfl) rfl #[.slice Ae l0.length Af, .int .i64 t125, .slice Aj y129.length Ak] rfl pL ?_; (with_reducible refine (slices_Insert_api_Share.calls (fun k_ => some k_ = (.slice Ae l0.length Af : Value).ownBlock) (.slice Ae l0.length Af) l0 t125 (fun k_ => some k_ = (.slice Aj y129.length Ak : Value).ownBlock) (.slice Aj y129.length Ak) y129 t132 w0 _ ?Ac ?Ad ?An ?Ao ?Ap A14.out).mono ?_); (case Ac => repeat (first | (with_reducible first | exact HB.out | apply below_alloc | apply pw_below_drewN | apply below_drew1) | exact HB.out)); (case Ad => exact Kd.R_tight rfl Aa.out); (case An => exact fun k_ e_ => (Aa.out.1 k_ e_.symm).2); (case Ao => exact Kd.R_tight rfl Ab.out); (case Ap => exact fun k_ e_ => (Ab.out.1 k_ e_.symm).2); rintro e w20 ⟨v133, rfl, ho0, hb, hkp⟩; refine ⟨_, rfl, ?_⟩; have Aq := Am (Kd.R_mono (ok' := fun k_ => (P0_ k_ ∨ w.heap.size ≤ k_)) ho0 (fun k_ hk_ => Or.elim hk_ (fun hs_ => Or.elim hs_ (fun hs_ => (Aa.out.1 k_ (hs_).symm).1) (fun hs_ => (Ab.out.1 k_ (hs_).symm).1.1)) (fun hn_ => (.inr (Nat.le_trans (by first | exact HK.out.1 | exact (show Kept w _ (fun k_ => P0_ k_) from by repeat (first | (with_reducible first | exact HK.out | apply Kept.alloc | apply Kept.drewN | apply Kept.drew) | exact HK.out)).1) hn_))))); replace HK := Am (Kept.then_ (S := (fun k_ => P0_ k_)) (by repeat (first | (with_reducible first | exact HK.out | apply Kept.alloc | apply Kept.drewN | apply Kept.drew) | exact HK.out)) hkp (fun k_ hs_ => Or.elim hs_ (fun e_ => (fun e_ => (Aa.out.1 k_ e_.symm).1) e_) (fun e_ => (fun e_ => (Ab.out.1 k_ e_.symm).1.1) e_))); replace HB := Am (hb); clear Aa Ab; (try clear hb); (try clear hkp); (try clear ho0)))
  go_ret
  exact ⟨_, pX, by (with_reducible repeat (first | apply Kd.R_alloc | apply Kd.R_drewN | apply Kd.R_drew)); exact Aq.out, pB HB.out, by repeat (first | (with_reducible first | exact HK.out | apply Kept.alloc | apply Kept.drewN | apply Kept.drew) | exact HK.out)⟩
 subst c6
 have H1 : (if 0 ≤ t125 then (if t125 < (l0.length : Int) then (some (l0.set (t125 : Int).toNat (⟨(rd_T46 l0 t125).f0, wrap64 (((rd_T46 l0 t125).f1) + a2)⟩ : S46))) else (none)) else (none)) = some r := by rw [if_pos rfl] at H; exact H
 clear H
 have H := H1
 clear H1
 by_cases c7 : 0 ≤ t125
 rotate_left
 ·rw [if_neg c7] at H
  exact absurd H (by simp)
 rw [if_pos c7] at H
 have c7b0 : decide (0 ≤ t125) = true := decide_eq_true c7
 clear c7
 by_cases c8 : t125 < (l0.length : Int)
 rotate_left
 ·rw [if_neg c8] at H
  exact absurd H (by simp)
 rw [if_pos c8] at H
 have c8b0 : decide (t125 < (l0.length : Int)) = true := decide_eq_true c8
 clear c8
 obtain ⟨y128, hy128⟩ : ∃ y_ : List (S46), y_ = (l0.set (t125 : Int).toNat (⟨(rd_T46 l0 t125).f0, wrap64 (((rd_T46 l0 t125).f1) + a2)⟩ : S46)) := ⟨_, rfl⟩
 replace H : (some y128) = some r := by first | (rw [hy128]; with_reducible exact H) | (have H2_ := (Option.bind_some _ _).symm.trans H; rw [hy128]; with_reducible exact H2_) | (have H2_ := (Option.bind_some _ _).symm.trans H; with_reducible exact H2_) | with_reducible exact H | (rw [hy128]; exact H) | exact H
 have Ny128 := Am hy128
 clear hy128
 obtain rfl := Option.some.inj H
 obtain ⟨Ar, Ai, As⟩ := Kd.R_slice Aa.out
 subst As
 go_enter Try.func23, Try.ntmps23
 go_wp2_with (first | ((with_reducible refine gate_callee (f := 26) rfl ?_); refine goesL_ (some 15) rfl rfl Try.func26 (by kernel_rfl) rfl #[.slice Ar l0.length Ai, .int .i64 a1] rfl pL ?_; (with_reducible refine (tally_find.calls k _ _ l0 a1 t125 true _ ?Ac ?Ad A5.out).mono ?_); (case Ac => exact pC (Kd.R_reads' Aa.out).2.2); (case Ad => exact (Kd.R_reads' Aa.out).2.1); rintro e w11 ⟨rfl, hb⟩; refine ⟨_, rfl, ?_⟩; replace Aa := bRa Aa hb; replace HK := Am (Kept.below (S := (fun k_ => P0_ k_)) (by repeat (first | (with_reducible first | exact HK.out | apply Kept.alloc | apply Kept.drewN | apply Kept.drew) | exact HK.out)) hb); replace HB := Am (below_step (pB HB.out) hb); (try clear hb); (try clear hb2); (try clear hk); (try clear hi); have p127 : 0 ≤ (t125 : Int) := of_decide_eq_true pS; have q127 : t125 < (l0.length : Int) := of_decide_eq_true pS; obtain ⟨ad127, e127, Ag, Ah⟩ := at_T46 (Kd.R_reads' Aa.out).2.2 t125 p127 q127; cases e127; replace p127 := eq_true p127; replace q127 := eq_true q127; have p9 : 0 ≤ (t125 : Int) := of_decide_eq_true pS; have q9 : (t125 : Int) < ((l0.length : Int) : Int) := of_decide_eq_true pS; obtain ⟨go9, co9, Av, Aw, gl9, cl9, HG9⟩ := Kd.R_form Aa.out (by omega); (first | cases Av | (injection Av with ea_ en_ ec_; (first | subst ea_ | (injection ea_ with ea_; subst ea_)); subst ec_; clear en_)); have GB9 := Am Aw; have GG9 := Am HG9; clear Aw gl9 HG9; have HMgo9 := Am (show (P0_ go9 ∨ w.heap.size ≤ go9) from (Aa.out.1 _ rfl)); (first | simp only [add_plain] at Ag | skip); (first | simp only [add_plain] at Ah | skip); obtain ⟨ce9, hcl9, hM9, hcc9, hfr9⟩ := Kd.R_elem Aa.out z46 (t125 : Int) p9 q9; obtain rfl := k46_openM hM9; have hx9_0 : w11.cell? ⟨go9, (t125 : Int).toNat * 2, none⟩ = some (.int .i64 ((rd_T46 l0 t125).f0)) := hcc9 0 _ rfl; have hx9_1 : w11.cell? ⟨go9, (t125 : Int).toNat * 2 + 1, none⟩ = some (.int .i64 ((rd_T46 l0 t125).f1)) := hcc9 1 _ rfl; have hf9_0 : w11.frozen? ⟨go9, (t125 : Int).toNat * 2, none⟩ = false := hfr9 0; have hf9_1 : w11.frozen? ⟨go9, (t125 : Int).toNat * 2 + 1, none⟩ = false := hfr9 1; clear hcl9 hcc9 hfr9 hM9; replace p9 := eq_true p9; replace q9 := eq_true q9; have HX12 := Am (show Kd.R k46 46 w11 w0.heap.size (fun k_ => (P0_ k_ ∨ w.heap.size ≤ k_)) (.slice (some ⟨go9, 0, none⟩) l0.length Ai) l0 from (pR Aa.out)); obtain ⟨ce12, hcl12, hM12, hcc12, hfr12⟩ := Kd.R_elem HX12.out z46 (t125 : Int) (of_decide_eq_true pS) (by have h_ : (t125 : Int) < ((l0.length : Int) : Int) := of_decide_eq_true pS; first | exact h_ | (have e_ := (Kd.R_reads' Aa.out).1; omega) | simpa using h_); obtain rfl := k46_openM hM12; have HP12 := Kd.R_seg HX12.out (t125 : Int) (of_decide_eq_true pS) (by have h_ : (t125 : Int) < ((l0.length : Int) : Int) := of_decide_eq_true pS; first | exact h_ | (have e_ := (Kd.R_reads' Aa.out).1; omega) | simpa using h_) (seg := [.int .i64 (wrap64 (((rd_T46 l0 t125).f1) + a2))]) (j := 1) hcl12 hcc12 (show 2 ≤ 2 from by decide) (x' := (⟨(rd_T46 l0 t125).f0, wrap64 (((rd_T46 l0 t125).f1) + a2)⟩ : S46)) (k46_mkM _ _ _ (⟨(rd_T46 l0 t125).f0, wrap64 (((rd_T46 l0 t125).f1) + a2)⟩ : S46) ) (fun _ hk => hk); have Al := hcc12 1 _ rfl; (try simp only [show (k46).sz = 2 from rfl, Nat.mul_one, Nat.add_zero] at Al); have hf12_1 := hfr12 1; (try simp only [show (k46).sz = 2 from rfl, Nat.mul_one, Nat.add_zero] at hf12_1); clear hcl12 hcc12 hfr12 hM12) | ((with_reducible refine gate_store (t := 3) (p := 27) rfl ?_); refine store_event (t := 3) (p := 27) (v := ?vo_w13) (w1 := (w11.setCell ⟨go9, (t125 : Int).toNat * 2 + 1, none⟩ (.int .i64 (wrap64 (((rd_T46 l0 t125).f1) + a2))))) ?hg ?ho ?hn ?hr ?_; (case ho => rfl); (case hg => rfl); (case hn => rfl); (case hr => first | (go_simp; done) | (go_simp; rfl)); intro w13 hw; have hg : w11.grownBy w13 (some go9) := (by rw [hw]; exact HP12.2); have hp_ : Kd.R k46 46 w13 w0.heap.size (fun k_ => (P0_ k_ ∨ w.heap.size ≤ k_)) (.slice (some ⟨go9, 0, none⟩) l0.length Ai) y128 := (by rw [hw, Ny128.out]; exact HP12.1); clear HP12; replace HB := Am ((by rw [hw]; exact below_set (HB.out) GB9.out : Below w0.heap.size w0 w13)); replace HK := Am (Kept.of_grown (S := (fun k_ => P0_ k_)) hg (by repeat (first | (with_reducible first | exact HK.out | apply Kept.alloc | apply Kept.drewN | apply Kept.drew) | exact HK.out)) (fun k_ e_ => (Aa.out.1 k_ e_))); replace Aa := Am (hp_); clear hg hw hp_))
 go_ret
 exact ⟨_, pX, by (with_reducible repeat (first | apply Kd.R_alloc | apply Kd.R_drewN | apply Kd.R_drew)); exact Aa.out, pB HB.out, by repeat (first | (with_reducible first | exact HK.out | apply Kept.alloc | apply Kept.drewN | apply Kept.drew) | exact HK.out)⟩
def tally_full.f (k : Nat) (l0 : List (S46)) : Option ((List (S46)) × Int) := (tally_Check.f k l0).bind fun t135 => (if t135 = 0 then (some (l0, 0)) else (some (([] : List (S46)), 7)))
theorem tally_full.mono : ∀ a0 k, LeO (tally_full.f k a0) (tally_full.f (k + 1) a0) := by
 intro a0 k
 unfold tally_full.f
 repeat' first
   | (with_reducible exact tally_Check.mono _ _)
   | (with_reducible exact LeO.refl _)
   | (with_reducible exact LeO.none _)
   | (with_reducible refine LeO.ite ?_ ?_)
   | (with_reducible refine LeO.bind ?_ (fun _ => ?_))
   | exact tally_Check.mono _ _
   | exact LeO.none _
   | refine LeO.ite ?_ ?_
   | refine LeO.bind ?_ (fun _ => ?_)
set_option maxHeartbeats 8000000 in
set_option maxRecDepth 100000 in
theorem tally_full.calls (k : Nat) (P0_ : Nat → Prop) (u9000_ : Value) (l0 : List (S46)) (r1 : List (S46)) (r2 : Int) (w0 w : World) (hB : Below w0.heap.size w0 w) (ho0 : Kd.R k46 46 w w0.heap.size P0_ u9000_ l0) (h : tally_full.f k l0 = some (r1, r2)) :
  Calls Try.prog 24 #[u9000_] w fun e w' => ∃ v0_ : Value, e = .returned (.tuple #[v0_, .int .i64 r2]) ∧ Kd.R k46 46 w' w0.heap.size (fun k_ => (P0_ k_ ∨ w.heap.size ≤ k_)) v0_ r1 ∧ Below w0.heap.size w0 w' ∧ Kept w w' (fun k_ => P0_ k_) := by
 have Aa := Am (show Kd.R k46 46 w w0.heap.size (fun k_ => (P0_ k_ ∨ w.heap.size ≤ k_)) u9000_ l0 from Kd.R_mono ho0 (fun k_ hk => (.inl hk)))
 have HK := Am (Kept.refl w (fun k_ => P0_ k_))
 have HW0 := Am hB.size
 have HB := Am hB
 clear hB
 have H : ((tally_Check.f k l0).bind fun t135 => (if t135 = 0 then (some (l0, 0)) else (some (([] : List (S46)), 7)))) = some (r1, r2) := h
 clear h
 replace H := Option.bind_eq_some_iff.mp H
 obtain ⟨t135, A20, H⟩ := H
 replace H : (if t135 = 0 then (some (l0, 0)) else (some (([] : List (S46)), 7))) = some (r1, r2) := H
 have A2 := Am A20
 clear A20
 by_cases c3 : t135 = 0
 ·rw [if_pos c3] at H
  have c3b0 : (t135 == 0) = true := beq_iff_eq.mpr c3
  have c3b1 : (t135 != 0) = false := bne_eq_false_iff_eq.mpr c3
  clear c3
  simp only [Option.some.injEq, Prod.mk.injEq] at H
  obtain ⟨rfl, rfl⟩ := H
  obtain ⟨Ad, Ae, Af⟩ := Kd.R_slice Aa.out
  subst Af
  go_enter Try.func24, Try.ntmps24
  go_wp2_with (first | ((with_reducible refine gate_callee (f := 12) rfl ?_); refine goesL_ (some 5) rfl rfl Try.func12 (by kernel_rfl) rfl #[.slice Ad l0.length Ae] rfl pL ?_; (with_reducible refine (tally_Check.calls k _ _ l0 t135 _ ?Ab ?Ac A2.out).mono ?_); (case Ab => exact pC (Kd.R_reads' Aa.out).2.2); (case Ac => exact (Kd.R_reads' Aa.out).2.1); rintro e w5 ⟨rfl, hb⟩; refine ⟨_, rfl, ?_⟩; replace Aa := bRa Aa hb; replace HK := Am (Kept.below (S := (fun k_ => P0_ k_)) (by repeat (first | (with_reducible first | exact HK.out | apply Kept.alloc | apply Kept.drewN | apply Kept.drew) | exact HK.out)) hb); replace HB := Am (below_step (pB HB.out) hb); (try clear hb); (try clear hb2); (try clear hk); (try clear hi)))
  go_ret2
  exact ⟨_, pX, by (with_reducible repeat (first | apply Kd.R_alloc | apply Kd.R_drewN | apply Kd.R_drew)); exact Aa.out, pB HB.out, by repeat (first | (with_reducible first | exact HK.out | apply Kept.alloc | apply Kept.drewN | apply Kept.drew) | exact HK.out)⟩
 rw [if_neg c3] at H
 have c3b0 : (t135 == 0) = false := beq_eq_false_iff_ne.mpr c3
 have c3b1 : (t135 != 0) = true := bne_iff_ne.mpr c3
 simp only [Option.some.injEq, Prod.mk.injEq] at H
 obtain ⟨rfl, rfl⟩ := H
 obtain ⟨Ag, Ah, Ai⟩ := Kd.R_slice Aa.out
 subst Ai
 go_enter Try.func24, Try.ntmps24
 go_wp2_with (first | ((with_reducible refine gate_callee (f := 12) rfl ?_); refine goesL_ (some 5) rfl rfl Try.func12 (by kernel_rfl) rfl #[.slice Ag l0.length Ah] rfl pL ?_; (with_reducible refine (tally_Check.calls k _ _ l0 t135 _ ?Ab ?Ac A2.out).mono ?_); (case Ab => exact pC (Kd.R_reads' Aa.out).2.2); (case Ac => exact (Kd.R_reads' Aa.out).2.1); rintro e w7 ⟨rfl, hb⟩; refine ⟨_, rfl, ?_⟩; replace Aa := bRa Aa hb; replace HK := Am (Kept.below (S := (fun k_ => P0_ k_)) (by repeat (first | (with_reducible first | exact HK.out | apply Kept.alloc | apply Kept.drewN | apply Kept.drew) | exact HK.out)) hb); replace HB := Am (below_step (pB HB.out) hb); (try clear hb); (try clear hb2); (try clear hk); (try clear hi)))
 go_ret2
 exact ⟨_, pX, by first | exact Kd.R_nil _ _ _ _ _ | exact Kd.N_nil _ _ _ _ _ | exact Kd.V_nil _ _ _ _ _ | exact Kd.Q_nil _ _ _ _ _ | exact Kd.S_nil _ _ _ _ _, pB HB.out, by repeat (first | (with_reducible first | exact HK.out | apply Kept.alloc | apply Kept.drewN | apply Kept.drew) | exact HK.out)⟩
def tally_Add.l0 : Nat → List (S46) → List (S43) → Int → Int → Option ((List (S46)) × Int)
 | 0, _, _, _, _ => none
 | k + 1, x6, x15, x16, x17 => if x17 < x16 then (if 0 ≤ x17 then (if x17 < (x15.length : Int) then ((tally_more.f k x6 ((rd_T43 x15 x17).f0) ((rd_T43 x15 x17).f2)).bind fun t142 => (tally_Add.l0 k t142 x15 x16 (wrap64 (x17 + 1)))) else (none)) else (none)) else ((tally_full.f k x6).bind fun bt145 => (some (bt145.1, bt145.2)))
def tally_Add.f (k : Nat) (l0 : List (S46)) (l1 : List (S43)) : Option ((List (S46)) × Int) := (tally_may.f k l0 l1).bind fun t136 => (if t136 = true then ((slices_Clone_api_Share.f l0).bind fun t137 => (tally_Add.l0 k t137 l1 (l1.length : Int) 0)) else (some (([] : List (S46)), 1)))
theorem tally_Add.mono_l : ∀ k, (∀ y0 y1 y2 y3, LeO (tally_Add.l0 k y0 y1 y2 y3) (tally_Add.l0 (k + 1) y0 y1 y2 y3))
 | 0 => fun _ _ _ _ r h => by simp [tally_Add.l0] at h
 | k + 1 => by
  have ih0 := tally_Add.mono_l k
  ·intro y0 y1 y2 y3
   unfold tally_Add.l0
   repeat' first
   | (with_reducible exact ih0 _ _ _ _)
   | (with_reducible exact tally_full.mono _ _)
   | (with_reducible exact tally_may.mono _ _ _)
   | (with_reducible exact tally_more.mono _ _ _ _)
   | (with_reducible exact LeO.refl _)
   | (with_reducible exact LeO.none _)
   | (with_reducible refine LeO.ite ?_ ?_)
   | (with_reducible refine LeO.bind ?_ (fun _ => ?_))
   | exact ih0 _ _ _ _
   | exact tally_full.mono _ _
   | exact tally_may.mono _ _ _
   | exact tally_more.mono _ _ _ _
   | exact LeO.none _
   | refine LeO.ite ?_ ?_
   | refine LeO.bind ?_ (fun _ => ?_)
theorem tally_Add.mono : ∀ a0 a1 k, LeO (tally_Add.f k a0 a1) (tally_Add.f (k + 1) a0 a1) := by
 intro a0 a1 k
 have ih0 := tally_Add.mono_l k
 unfold tally_Add.f
 repeat' first
   | (with_reducible exact ih0 _ _ _ _)
   | (with_reducible exact tally_full.mono _ _)
   | (with_reducible exact tally_may.mono _ _ _)
   | (with_reducible exact tally_more.mono _ _ _ _)
   | (with_reducible exact LeO.refl _)
   | (with_reducible exact LeO.none _)
   | (with_reducible refine LeO.ite ?_ ?_)
   | (with_reducible refine LeO.bind ?_ (fun _ => ?_))
   | exact ih0 _ _ _ _
   | exact tally_full.mono _ _
   | exact tally_may.mono _ _ _
   | exact tally_more.mono _ _ _ _
   | exact LeO.none _
   | refine LeO.ite ?_ ?_
   | refine LeO.bind ?_ (fun _ => ?_)
set_option maxHeartbeats 8000000 in
set_option maxRecDepth 100000 in
theorem tally_Add.calls (k : Nat) (A0 : Option Addr) (c0 : Nat) (l0 : List (S46)) (A1 : Option Addr) (c1 : Nat) (l1 : List (S43)) (r1 : List (S46)) (r2 : Int) (w : World) (hr0 : Kd.C k46 w A0 l0.length l0) (hc0 : l0.length ≤ c0) (hr1 : Kd.C k43 w A1 l1.length l1) (hc1 : l1.length ≤ c1) (h : tally_Add.f k l0 l1 = some (r1, r2)) :
  Calls Try.prog 9 #[.slice A0 l0.length c0, .slice A1 l1.length c1] w fun e w' => ∃ v0_ : Value, e = .returned (.tuple #[v0_, .int .i64 r2]) ∧ Kd.R k46 46 w' w.heap.size (fun _ => True) v0_ r1 ∧ Below w.heap.size w w' := by
 have hu43 := Try.underlying43
 have HR0 := Am hr0
 have HC0 := Am hc0
 clear hr0 hc0
 have HR1 := Am hr1
 have HC1 := Am hc1
 clear hr1 hc1
 have HB := Am (Below.refl w.heap.size w)
 have H : ((tally_may.f k l0 l1).bind fun t136 => (if t136 = true then ((slices_Clone_api_Share.f l0).bind fun t137 => (tally_Add.l0 k t137 l1 (l1.length : Int) 0)) else (some (([] : List (S46)), 1)))) = some (r1, r2) := h
 clear h
 replace H := Option.bind_eq_some_iff.mp H
 obtain ⟨t136, A30, H⟩ := H
 replace H : (if t136 = true then ((slices_Clone_api_Share.f l0).bind fun t137 => (tally_Add.l0 k t137 l1 (l1.length : Int) 0)) else (some (([] : List (S46)), 1))) = some (r1, r2) := H
 have A3 := Am A30
 clear A30
 by_cases c4 : t136 = true
 rotate_left
 ·replace c4 := Bool.eq_false_iff.mpr c4
  subst c4
  have H1 : (some (([] : List (S46)), 1)) = some (r1, r2) := by rw [if_neg (show ¬ (false = true) by decide)] at H; exact H
  clear H
  have H := H1
  clear H1
  simp only [Option.some.injEq, Prod.mk.injEq] at H
  obtain ⟨rfl, rfl⟩ := H
  go_enter Try.func9, Try.ntmps9
  go_wp2_with (first | ((with_reducible refine gate_callee (f := 21) rfl ?_); refine goesL_ (some 11) rfl rfl Try.func21 (by kernel_rfl) rfl #[.slice A0 l0.length c0, .slice A1 l1.length c1] rfl pL ?_; (with_reducible refine (tally_may.calls k _ _ l0 _ _ l1 false _ ?Ac ?Ad ?Ah ?Ai A3.out).mono ?_); (case Ac => repeat (first | exact HR0.out | (with_reducible refine Kd.C_alloc ?_ _) | (with_reducible refine Kd.C_drewN ?_ _) | (with_reducible refine Kd.C_drew ?_))); (case Ad => exact HC0.out); (case Ah => repeat (first | exact HR1.out | (with_reducible refine Kd.C_alloc ?_ _) | (with_reducible refine Kd.C_drewN ?_ _) | (with_reducible refine Kd.C_drew ?_))); (case Ai => exact HC1.out); rintro e w21 ⟨rfl, hb⟩; refine ⟨_, rfl, ?_⟩; replace HB := Am (below_step (pB HB.out) hb); (try clear hb); (try clear hb2); (try clear hk); (try clear hi)))
  go_ret2
  exact ⟨_, pX, by first | exact Kd.R_nil _ _ _ _ _ | exact Kd.N_nil _ _ _ _ _ | exact Kd.V_nil _ _ _ _ _ | exact Kd.Q_nil _ _ _ _ _ | exact Kd.S_nil _ _ _ _ _, pB HB.out⟩
 subst c4
 have H1 : ((slices_Clone_api_Share.f l0).bind fun t137 => (tally_Add.l0 k t137 l1 (l1.length : Int) 0)) = some (r1, r2) := by rw [if_pos rfl] at H; exact H
 clear H
 have H := H1
 clear H1
 replace H := Option.bind_eq_some_iff.mp H
 obtain ⟨t137, A50, H⟩ := H
 replace H : (tally_Add.l0 k t137 l1 (l1.length : Int) 0) = some (r1, r2) := H
 have A5 := Am A50
 clear A50
 have H' := Am H
 clear H
 go_enter Try.func9, Try.ntmps9
 go_wp2_with (first | ((with_reducible refine gate_callee (f := 21) rfl ?_); refine goesL_ (some 11) rfl rfl Try.func21 (by kernel_rfl) rfl #[.slice A0 l0.length c0, .slice A1 l1.length c1] rfl pL ?_; (with_reducible refine (tally_may.calls k _ _ l0 _ _ l1 true _ ?Ac ?Ad ?Ah ?Ai A3.out).mono ?_); (case Ac => repeat (first | exact HR0.out | (with_reducible refine Kd.C_alloc ?_ _) | (with_reducible refine Kd.C_drewN ?_ _) | (with_reducible refine Kd.C_drew ?_))); (case Ad => exact HC0.out); (case Ah => repeat (first | exact HR1.out | (with_reducible refine Kd.C_alloc ?_ _) | (with_reducible refine Kd.C_drewN ?_ _) | (with_reducible refine Kd.C_drew ?_))); (case Ai => exact HC1.out); rintro e w6 ⟨rfl, hb⟩; refine ⟨_, rfl, ?_⟩; replace HB := Am (below_step (pB HB.out) hb); (try clear hb); (try clear hb2); (try clear hk); (try clear hi)) | ((with_reducible refine gate_callee (f := 22) rfl ?_); refine goesL_ (some 14) rfl rfl Try.func22 (by kernel_rfl) rfl #[.slice A0 l0.length c0] rfl pL ?_; (with_reducible refine (slices_Clone_api_Share.calls _ _ l0 t137 _ ?Ac ?Ad A5.out).mono ?_); (case Ac => exact pC (Kd.C_below HR0.out HB.out)); (case Ad => exact HC0.out); rintro e w7 ⟨v138, rfl, ho0, hb⟩; refine ⟨_, rfl, ?_⟩; have Ap := Am (Kd.R_lower ho0 (below_size (pB HB.out))); replace HB := Am (below_step (pB HB.out) hb); (try clear hb); (try clear hb2); (try clear hk); (try clear hi); (try clear ho0)))
 go_loopg [6, 17] k (fun kq v6 v17 w' => ∃ (Ae : List (S46)) (Aa : Int), v17 = .int .i64 Aa ∧ Aside0 (tally_Add.l0 kq Ae l1 (l1.length : Int) Aa = some (r1, r2)) ∧ Aside0 (kq ≤ k) ∧ Aside0 (Kd.R k46 46 w' w.heap.size (fun _ => True) v6 Ae) ∧ Aside0 (Below w.heap.size w w'))
 case atStart => exact ⟨(t137), (0), (by first | rfl | (simp; done) | (simp [*]; done)), H', ⟨Nat.le_refl _⟩, ⟨by (with_reducible repeat (first | apply Kd.R_alloc | apply Kd.R_drewN | apply Kd.R_drew)); exact Ap.out⟩, ⟨pB HB.out⟩⟩
 case round =>
  clear H'
  try clear c1
  try clear c2
  try clear p2
  try clear c4
  obtain ⟨Ae, Aa, rfl, HA, HK1, Af, HB⟩ := hrel
  cases gk with
  | zero => exact absurd HA.out (by simp [tally_Add.l0])
  | succ k1 =>
   have H := HA.out
   clear HA
   simp only [tally_Add.l0] at H
   by_cases c8 : Aa < (l1.length : Int)
   rotate_left
   ·rw [if_neg c8] at H
    have c8b0 : decide (Aa < (l1.length : Int)) = false := decide_eq_false c8
    clear c8
    replace H := Option.bind_eq_some_iff.mp H
    obtain ⟨⟨t145, t148⟩, A180, H⟩ := H
    replace H : (some (t145, t148)) = some (r1, r2) := H
    have A18 := Am A180
    clear A180
    simp only [Option.some.injEq, Prod.mk.injEq] at H
    obtain ⟨rfl, rfl⟩ := H
    obtain ⟨An, Ao, Au⟩ := Kd.R_slice Af.out
    subst Au
    go_wp2_with (first | ((with_reducible refine gate_callee (f := 24) rfl ?_); refine goesL_ (some 29) rfl rfl Try.func24 (by kernel_rfl) rfl #[.slice An Ae.length Ao] rfl pL ?_; (with_reducible refine (tally_full.calls k1 (fun k_ => some k_ = (.slice An Ae.length Ao : Value).ownBlock) (.slice An Ae.length Ao) Ae t145 t148 w _ ?Ac ?Ad A18.out).mono ?_); (case Ac => repeat (first | (with_reducible first | exact HB.out | apply below_alloc | apply pw_below_drewN | apply below_drew1) | exact HB.out)); (case Ad => exact Kd.R_tight rfl Af.out); rintro e w20 ⟨v146, rfl, ho0, hb, hkp⟩; refine ⟨_, rfl, ?_⟩; have As := Am (Kd.R_mono (ok' := fun k_ => True) ho0 (fun k_ hk_ => trivial)); replace HB := Am (hb); clear Af; (try clear hb); (try clear hkp); (try clear ho0)))
    go_ret2
    exact ⟨_, pX, by (with_reducible repeat (first | apply Kd.R_alloc | apply Kd.R_drewN | apply Kd.R_drew)); exact As.out, pB HB.out⟩
   rw [if_pos c8] at H
   have c8b0 : decide (Aa < (l1.length : Int)) = true := decide_eq_true c8
   clear c8
   by_cases c9 : 0 ≤ Aa
   rotate_left
   ·rw [if_neg c9] at H
    exact absurd H (by simp)
   rw [if_pos c9] at H
   have c9b0 : decide (0 ≤ Aa) = true := decide_eq_true c9
   clear c9
   by_cases c10 : Aa < (l1.length : Int)
   rotate_left
   ·rw [if_neg c10] at H
    exact absurd H (by simp)
   rw [if_pos c10] at H
   have c10b0 : decide (Aa < (l1.length : Int)) = true := decide_eq_true c10
   clear c10
   replace H := Option.bind_eq_some_iff.mp H
   obtain ⟨t142, A110, H⟩ := H
   replace H : (tally_Add.l0 k1 t142 l1 (l1.length : Int) (wrap64 (Aa + 1))) = some (r1, r2) := H
   have A11 := Am A110
   clear A110
   have H' := Am H
   clear H
   have p140 : 0 ≤ (Aa : Int) := of_decide_eq_true pS
   have q140 : Aa < (l1.length : Int) := of_decide_eq_true pS
   obtain ⟨ad140, e140, hx140_0, hx140_1, hx140_2, hx140_3⟩ := at_T43u HR1.out Aa p140 q140 HB.out
   cases e140
   replace p140 := eq_true p140
   replace q140 := eq_true q140
   go_wp2_with (first | ((with_reducible refine gate_dst (N := 8) rfl ?_); refine box_event ?hg (N := 8) ?hd (cs := #[.int .i64 0, .int .i64 0, .int .i64 0, .int .u32 0]) (t := 43) ?hr ?_; (case hd => rfl); (case hg => rfl); (case hr => first | (go_simp; done) | (go_simp; rfl)); intro Ag hg w12 hbox hb; replace Af := bRa Af hb; have Ab := Am (hbox); have Aq := Am ((by rw [hg]; exact (below_size (pB HB.out)) : w.heap.size ≤ Ag)); replace HB := Am (below_step (pB HB.out) hb); have Aj := Aq; clear hb hbox hg; obtain ⟨_, _, _, _⟩ := bc4 Ab.out; obtain ⟨_, _, _, _⟩ := bf4 Ab.out) | ((with_reducible refine gate_store (t := 43) (p := 8) rfl ?_); refine store_event (t := 43) (p := 8) (v := ?vo_w14) (w1 := ((((w12.setCell ⟨Ag, 0, none⟩ (.int .i64 ((rd_T43 l1 Aa).f0))).setCell ⟨Ag, 1, none⟩ (.int .i64 ((rd_T43 l1 Aa).f1))).setCell ⟨Ag, 2, none⟩ (.int .i64 ((rd_T43 l1 Aa).f2))).setCell ⟨Ag, 3, none⟩ (.int .u32 ((rd_T43 l1 Aa).f3)))) ?hg ?ho ?hn ?hr ?_; (case ho => rfl); (case hg => rfl); (case hn => rfl); (case hr => first | (go_simp; done) | (go_simp; rfl)); intro w14 hw; replace Af : Aside0 (Kd.R k46 46 w14 w.heap.size (fun _ => True) u6 Ae) := ⟨(by rw [hw]; exact (by (with_reducible repeat (first | apply Kd.R_alloc | apply Kd.R_drewN | apply Kd.R_drew)); exact Kd.R_mono (Rf4 (g := Ag) (Kd.R_types Af.out Ab.out (by decide)) (fun _ hk => hk.2)) (fun _ hk => trivial)))⟩; replace Ab : Aside0 (w14.heap[Ag]? = some (.cells #[.int .i64 ((rd_T43 l1 Aa).f0), .int .i64 ((rd_T43 l1 Aa).f1), .int .i64 ((rd_T43 l1 Aa).f2), .int .u32 ((rd_T43 l1 Aa).f3)] 43 (0, 0))) := ⟨(by rw [hw]; exact (kX0 Ab.out))⟩; replace HB : Aside0 (Below w.heap.size w w14) := ⟨(by rw [hw]; exact (pE HB.out Aj.out))⟩; clear hw; obtain ⟨_, _, _, _⟩ := bc4 Ab.out; obtain ⟨_, _, _, _⟩ := bf4 Ab.out; obtain ⟨Ak, Al, At⟩ := Kd.R_slice Af.out; subst At) | ((with_reducible refine gate_callee (f := 23) rfl ?_); refine goesL_ (some 26) rfl rfl Try.func23 (by kernel_rfl) rfl #[.slice Ak Ae.length Al, .int .i64 ((rd_T43 l1 Aa).f0), .int .i64 ((rd_T43 l1 Aa).f2)] rfl pL ?_; (with_reducible refine (tally_more.calls k1 (fun k_ => some k_ = (.slice Ak Ae.length Al : Value).ownBlock) (.slice Ak Ae.length Al) Ae ((rd_T43 l1 Aa).f0) ((rd_T43 l1 Aa).f2) t142 w _ ?Ac ?Ad A11.out).mono ?_); (case Ac => repeat (first | (with_reducible first | exact HB.out | apply below_alloc | apply pw_below_drewN | apply below_drew1 | refine below_set ?_ Aj.out) | exact HB.out)); (case Ad => exact Kd.R_tight rfl Af.out); rintro e w17 ⟨v143, rfl, ho0, hb, hkp⟩; refine ⟨_, rfl, ?_⟩; replace Ab := Am (blk_kept (pK Ab.out) hkp (fun hs_ => (fun e_ => (Kd.R_ne Af.out Ab.out (by decide)) e_) hs_)); have Ar := Am (Kd.R_mono (ok' := fun k_ => True) ho0 (fun k_ hk_ => trivial)); replace HB := Am (hb); clear Af; (try clear hb); (try clear hkp); (try clear ho0)))
   go_roundg k1
   case measure => have := HK1.out; omega
   case rel => exact ⟨(t142), (wrap64 (Aa + 1)), (by first | rfl | (simp; done) | (simp [*]; done)), H', ⟨by have := HK1.out; omega⟩, ⟨by (with_reducible repeat (first | apply Kd.R_alloc | apply Kd.R_drewN | apply Kd.R_drew)); exact Ar.out⟩, ⟨pE HB.out Aj.out⟩⟩
def tally_Of.f (k : Nat) (l0 : List (S43)) : Option ((List (S46)) × Int) := (tally_Add.f k ([] : List (S46)) l0).bind fun bt149 => (some (bt149.1, bt149.2))
theorem tally_Of.mono : ∀ a0 k, LeO (tally_Of.f k a0) (tally_Of.f (k + 1) a0) := by
 intro a0 k
 unfold tally_Of.f
 repeat' first
   | (with_reducible exact tally_Add.mono _ _ _)
   | (with_reducible exact LeO.refl _)
   | (with_reducible exact LeO.none _)
   | (with_reducible refine LeO.ite ?_ ?_)
   | (with_reducible refine LeO.bind ?_ (fun _ => ?_))
   | exact tally_Add.mono _ _ _
   | exact LeO.none _
   | refine LeO.ite ?_ ?_
   | refine LeO.bind ?_ (fun _ => ?_)
set_option maxHeartbeats 8000000 in
set_option maxRecDepth 100000 in
theorem tally_Of.calls (k : Nat) (A0 : Option Addr) (c0 : Nat) (l0 : List (S43)) (r1 : List (S46)) (r2 : Int) (w : World) (hr0 : Kd.C k43 w A0 l0.length l0) (hc0 : l0.length ≤ c0) (h : tally_Of.f k l0 = some (r1, r2)) :
  Calls Try.prog 15 #[.slice A0 l0.length c0] w fun e w' => ∃ v0_ : Value, e = .returned (.tuple #[v0_, .int .i64 r2]) ∧ Kd.R k46 46 w' w.heap.size (fun _ => True) v0_ r1 ∧ Below w.heap.size w w' := by
 have HR0 := Am hr0
 have HC0 := Am hc0
 clear hr0 hc0
 have HB := Am (Below.refl w.heap.size w)
 have H : ((tally_Add.f k ([] : List (S46)) l0).bind fun bt149 => (some (bt149.1, bt149.2))) = some (r1, r2) := h
 clear h
 replace H := Option.bind_eq_some_iff.mp H
 obtain ⟨⟨t149, t150⟩, A20, H⟩ := H
 replace H : (some (t149, t150)) = some (r1, r2) := H
 have A2 := Am A20
 clear A20
 simp only [Option.some.injEq, Prod.mk.injEq] at H
 obtain ⟨rfl, rfl⟩ := H
 go_enter Try.func15, Try.ntmps15
 go_wp2_with (first | ((with_reducible refine gate_callee (f := 9) rfl ?_); refine goesL_ (some 5) rfl rfl Try.func9 (by kernel_rfl) rfl #[.slice none 0 0, .slice A0 l0.length c0] rfl pL ?_; (refine (tally_Add.calls k _ _ ([] : List (S46)) _ _ l0 t149 t150 _ ?side1 ?side2 ?side3 ?side4 A2.out).mono ?_); (case side1 => exact Kd.C_nil _ _); (case side2 => exact Nat.le_refl _); (case side3 => repeat (first | exact HR0.out | (with_reducible refine Kd.C_alloc ?_ _) | (with_reducible refine Kd.C_drewN ?_ _) | (with_reducible refine Kd.C_drew ?_))); (case side4 => exact HC0.out); rintro e w3 ⟨v151, rfl, ho0, hb⟩; refine ⟨_, rfl, ?_⟩; have HO152 := Am (Kd.R_lower ho0 (below_size (pB HB.out))); replace HB := Am (below_step (pB HB.out) hb); (try clear hb); (try clear hb2); (try clear hk); (try clear hi); (try clear ho0)))
 go_ret2
 exact ⟨_, pX, by (with_reducible repeat (first | apply Kd.R_alloc | apply Kd.R_drewN | apply Kd.R_drew)); exact HO152.out, pB HB.out⟩
end Go.Proofs.Ytkapmlijeilieaa.PTallySubs
