/- What the law reaches, as plain Lean functions, and that the machine's calls answer just that. -/
import Derived.Test.YtdanmjfkocjgjaaPWalGetsx0
import Derived.Test.YtdanmjfkocjgjaaPWalGetsx3
import Derived.Test.YtdanmjfkocjgjaaPWalGetsx6
import Derived.Test.YtdanmjfkocjgjaaPWalGetsx7
namespace Go.Proofs.Ytdanmjfkocjgjaa.PWalGets
open Go.RowKit Go.Proofs.YtdanmjfkocjgjaaW.PrintWords Go.Proofs.YtdanmjfkocjgjaaW.PrintLast Go.Proofs.YtdanmjfkocjgjaaW.PrintMore
attribute [local go_sem] max2_int min2_int max_two min_two max_three min_three max_four min_four
set_option linter.unusedVariables false
set_option linter.unusedSimpArgs false
attribute [local go_sem] wrap64_l1 wrap64_l2 wrap64_l3 wrap64_l4 wrap64_l5
def hard_Step.f (a0_0 : Int) (a0_1 : Int) (a0_2 : Int) (a1_0 : Int) (a1_1 : Int) (a1_2 : Int) (a2 : Int) : Option (Int) := (hard_Check.f a0_0 a0_1 a0_2).bind fun t204 => (if t204 = 0 then ((hard_Check.f a1_0 a1_1 a1_2).bind fun t205 => (if t205 = 0 then (if a1_0 < a0_0 then (none) else (if a1_2 < a0_2 then (none) else (if a1_0 = a0_0 then (none) else (if a1_2 > a2 then (none) else (some 0))))) else (none))) else (none))
set_option maxHeartbeats 8000000 in
set_option maxRecDepth 100000 in
theorem hard_Step.calls (a0_0 : Int) (a0_1 : Int) (a0_2 : Int) (a1_0 : Int) (a1_1 : Int) (a1_2 : Int) (a2 : Int) (r : Int) (w : World) (h : hard_Step.f a0_0 a0_1 a0_2 a1_0 a1_1 a1_2 a2 = some r) :
 Calls Try.prog 77 #[.agg #[.int .i64 a0_0, .int .i64 a0_1, .int .i64 a0_2], .agg #[.int .i64 a1_0, .int .i64 a1_1, .int .i64 a1_2], .int .i64 a2] w fun e w' => e = .returned (.int .i64 r) ∧ Below w.heap.size w w' := by
 have hu28 := Try.underlying28
 have HB := Am (Below.refl w.heap.size w)
 unfold hard_Step.f at h
 have H := h
 clear h
 replace H := Option.bind_eq_some_iff.mp H
 obtain ⟨t204, A40, H⟩ := H
 have A4 := Am A40
 clear A40
 obtain ⟨c5, H⟩ := zI H
 have c5b0 := beq_iff_eq.mpr c5
 have c5b1 := bne_eq_false_iff_eq.mpr c5
 clear c5
 replace H := Option.bind_eq_some_iff.mp H
 obtain ⟨t205, A60, H⟩ := H
 have A6 := Am A60
 clear A60
 obtain ⟨c7, H⟩ := zI H
 have c7b0 := beq_iff_eq.mpr c7
 have c7b1 := bne_eq_false_iff_eq.mpr c7
 clear c7
 obtain ⟨c8, H⟩ := zJ H
 have c8b0 := decide_eq_false c8
 clear c8
 obtain ⟨c9, H⟩ := zJ H
 have c9b0 := decide_eq_false c9
 clear c9
 obtain ⟨c10, H⟩ := zJ H
 have c10b0 := beq_eq_false_iff_ne.mpr c10
 have c10b1 := bne_iff_ne.mpr c10
 obtain ⟨c11, H⟩ := zJ H
 have c11b0 : decide (a2 < a1_2) = false := decide_eq_false c11
 clear c11
 obtain rfl := Option.some.inj H
 go_enter Try.func77, Try.ntmps77
 go_wp2_with (first | ((with_reducible refine gate_dst (N := 3) rfl ?_); refine zE 3 #[.int .i64 a0_0, .int .i64 a0_1, .int .i64 a0_2] 28 ?_; intro Af hg w12 hbox hb; have Aa := Am (hbox); have Ai := Am (zG hg (below_size (pB HB.out))); replace HB := Am (below_step (pB HB.out) hb); have Ac := Ai; clear hb hbox hg) | ((with_reducible refine gate_dst (N := 4) rfl ?_); refine zE 4 #[.int .i64 a1_0, .int .i64 a1_1, .int .i64 a1_2] 28 ?_; intro Ag hg w13 hbox hb; have Ab := Am (hbox); have Aj := Am (zG hg (below_size (pE HB.out Ac.out))); replace HB := Am (below_step (pE HB.out Ac.out) hb); have Ah := Aj; have Ad := Am (zN hg (kL Aa.out)); have Ae := Am (zM hg (kL Aa.out)); replace Aa := kBa Aa hb; clear hb hbox hg; have hnb14 := Ad.out; have hnc14 := Ae.out; obtain ⟨_, _, _⟩ := bc3 Aa.out; obtain ⟨_, _, _⟩ := bf3 Aa.out) | ((with_reducible refine gate_callee (f := 32) rfl ?_); refine goesL_ (some 9) rfl rfl Try.func32 (by kernel_rfl) rfl #[.agg #[.int .i64 a0_0, .int .i64 a0_1, .int .i64 a0_2]] rfl pL ?_; (with_reducible refine (hard_Check.calls a0_0 a0_1 a0_2 t204 _ A4.out).mono ?_); rintro e w16 ⟨rfl, hb⟩; refine ⟨_, rfl, ?_⟩; replace Aa := kBa Aa hb; replace Ab := kBa Ab hb; replace HB := Am (below_step (pE2 HB.out Ac.out Ah.out) hb); (try clear hb); (try clear hb2); (try clear hk); (try clear hi); obtain ⟨_, _, _⟩ := bc3 Ab.out; obtain ⟨_, _, _⟩ := bf3 Ab.out) | (go_at_call 32; (with_reducible refine (hard_Check.calls a1_0 a1_1 a1_2 t205 _ A6.out).mono ?_); rintro e w18 ⟨rfl, hb⟩; replace Aa := kBa Aa hb; replace Ab := kBa Ab hb; replace HB := Am (below_step (pE2 HB.out Ac.out Ah.out) hb); (try clear hb); (try clear hb2); (try clear hk); (try clear hi); obtain ⟨_, _, _⟩ := bc3 Ab.out; obtain ⟨_, _, _⟩ := bf3 Ab.out; obtain ⟨_, _, _⟩ := bc3 Aa.out; obtain ⟨_, _, _⟩ := bf3 Aa.out))
 go_ret
 exact ⟨pX, pE2 HB.out Ac.out Ah.out⟩
def raft_Vote.f (k : Nat) (a0_0 : Int) (a0_1 : Int) (l0_2 : List (S52)) (a0_3 : Int) (a0_4 : Int) (a0_5 : Int) (a0_6 : Int) (a1_0 : Int) (a1_1 : Int) (a1_2 : Int) : Option (Int × Int × (List (S52)) × Int × Int × Int × Int × Int) := (raft_Check.f k a0_0 a0_1 l0_2 a0_3 a0_4 a0_5 a0_6).bind fun t209 => (if t209 = 0 then ((raft_Last.f k a0_0 a0_1 l0_2 a0_3 a0_4 a0_5 a0_6).bind fun bt210 => ((hard_Step.f a0_3 a0_4 a0_5 a1_0 a1_1 a1_2 bt210.1).bind fun t212 => (if t212 = 0 then ((raft_owns.f k l0_2).bind fun t213 => (some (a0_0, a0_1, t213, a1_0, a1_1, a1_2, a0_6, 0))) else (none)))) else (none))
theorem raft_Vote.mono : ∀ a0 a1 a2 a3 a4 a5 a6 a7 a8 a9 k, LeO (raft_Vote.f k a0 a1 a2 a3 a4 a5 a6 a7 a8 a9) (raft_Vote.f (k + 1) a0 a1 a2 a3 a4 a5 a6 a7 a8 a9) := by
 intro a0 a1 a2 a3 a4 a5 a6 a7 a8 a9 k
 unfold raft_Vote.f
 repeat' (with_reducible first | exact raft_Check.mono .. | exact raft_Last.mono .. | exact raft_owns.mono .. | exact LeO.refl .. | exact LeO.none .. | refine LeO.ite ?_ ?_ | refine LeO.bind ?_ (fun _ => ?_))
def raft_Vote.T7 : Bool × List (List Nat × List Nat) := (true, [([], []), ([0], [0]), ([1], [1]), ([], []), ([0, 1, 2], []), ([4, 2, 2, 0, 1, 2], [2, 4]), ([0, 1, 2, 3, 4, 5], []), ([6, 3, 5, 0, 1, 2, 3, 4, 5], [3, 6])])
def raft_Vote.B7 : List Nat := [0, 1, 3, 0, 7, 23, 63, 127]
theorem raft_Vote.tab7 : rtab .any (opsOf Try.f63 7) = raft_Vote.T7 := by kernel_rfl
theorem raft_Vote.bits7 : waitsOk raft_Vote.T7.2 raft_Vote.B7 = true := by kernel_rfl
set_option maxHeartbeats 8000000 in
set_option maxRecDepth 100000 in
theorem raft_Vote.calls (k : Nat) (a0_0 : Int) (a0_1 : Int) (A0_2 : Option Addr) (c0_2 : Nat) (l0_2 : List (S52)) (a0_3 : Int) (a0_4 : Int) (a0_5 : Int) (a0_6 : Int) (a1_0 : Int) (a1_1 : Int) (a1_2 : Int) (r1 : Int) (r2 : Int) (r3 : List (S52)) (r4 : Int) (r5 : Int) (r6 : Int) (r7 : Int) (r8 : Int) (w : World) (hr0_2 : Kd.C k52 w A0_2 l0_2.length l0_2) (hc0_2 : l0_2.length ≤ c0_2) (h : raft_Vote.f k a0_0 a0_1 l0_2 a0_3 a0_4 a0_5 a0_6 a1_0 a1_1 a1_2 = some (r1, r2, r3, r4, r5, r6, r7, r8)) :
 Calls Try.prog 63 #[.agg #[.int .i64 a0_0, .int .i64 a0_1, .slice A0_2 l0_2.length c0_2, .int .i64 a0_3, .int .i64 a0_4, .int .i64 a0_5, .int .i64 a0_6], .agg #[.int .i64 a1_0, .int .i64 a1_1, .int .i64 a1_2]] w fun e w' => ∃ v2_ : Value, e = .returned (.tuple #[.agg #[.int .i64 r1, .int .i64 r2, v2_, .int .i64 r4, .int .i64 r5, .int .i64 r6, .int .i64 r7], .int .i64 r8]) ∧ Kd.S k52 52 w' w.heap.size (fun _ => True) v2_ r3 ∧ Below w.heap.size w w' := by
 have hu54 := Try.underlying54
 have hu28 := Try.underlying28
 have As := Am hr0_2
 have At := Am hc0_2
 clear hr0_2 hc0_2
 have HB := Am (Below.refl w.heap.size w)
 unfold raft_Vote.f at h
 have H := h
 clear h
 replace H := Option.bind_eq_some_iff.mp H
 obtain ⟨t209, A30, H⟩ := H
 have A3 := Am A30
 clear A30
 obtain ⟨c4, H⟩ := zI H
 have c4b0 := beq_iff_eq.mpr c4
 have c4b1 := bne_eq_false_iff_eq.mpr c4
 clear c4
 replace H := Option.bind_eq_some_iff.mp H
 obtain ⟨⟨t210, t211⟩, A50, H⟩ := H
 dsimp only at H
 have A5 := Am A50
 clear A50
 replace H := Option.bind_eq_some_iff.mp H
 obtain ⟨t212, A60, H⟩ := H
 have A6 := Am A60
 clear A60
 obtain ⟨c7, H⟩ := zI H
 have c7b0 := beq_iff_eq.mpr c7
 have c7b1 := bne_eq_false_iff_eq.mpr c7
 clear c7
 replace H := Option.bind_eq_some_iff.mp H
 obtain ⟨t213, A80, H⟩ := H
 have A8 := Am A80
 clear A80
 simp only [Option.some.injEq, Prod.mk.injEq] at H
 obtain ⟨rfl, rfl, rfl, rfl, rfl, rfl, rfl, rfl⟩ := H
 go_enter Try.func63, Try.ntmps63
 try go_wp2_with (first | ((with_reducible refine gate_dst (N := 2) rfl ?_); refine zE 2 #[.int .i64 a0_0, .int .i64 a0_1, .slice A0_2 l0_2.length c0_2, .int .i64 a0_3, .int .i64 a0_4, .int .i64 a0_5, .int .i64 a0_6] 54 ?_; intro Af hg w9 hbox hb; have Aa := Am (hbox); have Ay := Am (zG hg (below_size (pB HB.out))); replace HB := Am (below_step (pB HB.out) hb); have Ai := Ay; clear hb hbox hg) | ((with_reducible refine gate_dst (N := 3) rfl ?_); refine zE 3 #[.int .i64 a1_0, .int .i64 a1_1, .int .i64 a1_2] 28 ?_; intro Aj hg w10 hbox hb; have Ac := Am (hbox); have Az := Am (zG hg (below_size (pE HB.out Ai.out))); replace HB := Am (below_step (pE HB.out Ai.out) hb); have Ak := Az; have Ag := Am (zN hg (kL Aa.out)); have Ab := Am (zM hg (kL Aa.out)); replace Aa := kBa Aa hb; clear hb hbox hg) | ((with_reducible refine gate_dst (N := 4) rfl ?_); refine zE 4 #[.int .i64 0, .int .i64 0, .slice none 0 0, .int .i64 0, .int .i64 0, .int .i64 0, .int .i64 0] 54 ?_; intro Al hg w11 hbox hb; have Ae := Am (hbox); have A0 := Am (zG hg (below_size (pE2 HB.out Ai.out Ak.out))); replace HB := Am (below_step (pE2 HB.out Ai.out Ak.out) hb); have An := A0; have Ah := Am (zN hg (kL Aa.out)); have Ad := Am (zM hg (kL Aa.out)); replace Aa := kBa Aa hb; have Aq := Am (zN hg (kL Ac.out)); have Ar := Am (zM hg (kL Ac.out)); replace Ac := kBa Ac hb; clear hb hbox hg; have hnb12 := Ag.out; have hnc12 := Ab.out; have hnb13 := Ah.out; have hnc13 := Ad.out; obtain ⟨_, _, _, _, _, _, _⟩ := bc7 Aa.out; obtain ⟨_, _, _, _, _, _, _⟩ := bf7 Aa.out) | ((with_reducible refine gate_callee (f := 37) rfl ?_); refine goesL_ (some 10) rfl rfl Try.func37 (by kernel_rfl) rfl #[.agg #[.int .i64 a0_0, .int .i64 a0_1, .slice A0_2 l0_2.length c0_2, .int .i64 a0_3, .int .i64 a0_4, .int .i64 a0_5, .int .i64 a0_6]] rfl pL ?_; (with_reducible refine (raft_Check.calls k a0_0 a0_1 _ _ l0_2 a0_3 a0_4 a0_5 a0_6 t209 _ ?Ao ?Ap A3.out).mono ?_); (case Ao => exact pC (Kd.C_below As.out HB.out)); (case Ap => exact At.out); rintro e w15 ⟨rfl, hb⟩; refine ⟨_, rfl, ?_⟩; replace Aa := kBa Aa hb; replace Ac := kBa Ac hb; replace Ae := kBa Ae hb; replace HB := Am (below_step (pE3 HB.out Ai.out Ak.out An.out) hb); (try clear hb); (try clear hb2); (try clear hk); (try clear hi); obtain ⟨_, _, _, _, _, _, _⟩ := bc7 Aa.out; obtain ⟨_, _, _, _, _, _, _⟩ := bf7 Aa.out) | ((with_reducible refine gate_callee (f := 74) rfl ?_); refine goesL_ (some 15) rfl rfl Try.func74 (by kernel_rfl) rfl #[.agg #[.int .i64 a0_0, .int .i64 a0_1, .slice A0_2 l0_2.length c0_2, .int .i64 a0_3, .int .i64 a0_4, .int .i64 a0_5, .int .i64 a0_6]] rfl pL ?_; (with_reducible refine (raft_Last.calls k a0_0 a0_1 _ _ l0_2 a0_3 a0_4 a0_5 a0_6 t210 t211 _ ?Ao ?Ap A5.out).mono ?_); (case Ao => exact pC (Kd.C_below As.out HB.out)); (case Ap => exact At.out); rintro e w17 ⟨rfl, hb⟩; refine ⟨_, rfl, ?_⟩; replace Aa := kBa Aa hb; replace Ac := kBa Ac hb; replace Ae := kBa Ae hb; replace HB := Am (below_step (pE3 HB.out Ai.out Ak.out An.out) hb); (try clear hb); (try clear hb2); (try clear hk); (try clear hi); obtain ⟨_, _, _, _, _, _, _⟩ := bc7 Aa.out; obtain ⟨_, _, _, _, _, _, _⟩ := bf7 Aa.out; have hnb19 := Aq.out; have hnc19 := Ar.out; obtain ⟨_, _, _⟩ := bc3 Ac.out; obtain ⟨_, _, _⟩ := bf3 Ac.out) | ((with_reducible refine gate_callee (f := 77) rfl ?_); refine goesL_ (some 22) rfl rfl Try.func77 (by kernel_rfl) rfl #[.agg #[.int .i64 a0_3, .int .i64 a0_4, .int .i64 a0_5], .agg #[.int .i64 a1_0, .int .i64 a1_1, .int .i64 a1_2], .int .i64 t210] rfl pL ?_; (with_reducible refine (hard_Step.calls a0_3 a0_4 a0_5 a1_0 a1_1 a1_2 t210 t212 _ A6.out).mono ?_); rintro e w21 ⟨rfl, hb⟩; refine ⟨_, rfl, ?_⟩; replace Aa := kBa Aa hb; replace Ac := kBa Ac hb; replace Ae := kBa Ae hb; replace HB := Am (below_step (pE3 HB.out Ai.out Ak.out An.out) hb); (try clear hb); (try clear hb2); (try clear hk); (try clear hi)))
 replace Aa := kDa Aa
 replace Ac := kDa Ac
 replace Ae := kDa Ae
 replace HB := bDa HB
 refine start_ (n := 8) (S := fun w' => cG w' Aj 0 (.int .i64 a1_0) ∧ cG w' Aj 1 (.int .i64 a1_1) ∧ cG w' Aj 2 (.int .i64 a1_2)) (ds := []) #[false, false, false, false, false, false, false, false] (by kernel_rfl) rfl rfl ⟨(blk_cell Ac.out 0).trans rfl, (blk_cell Ac.out 1).trans rfl, (blk_cell Ac.out 2).trans rfl⟩ (fun hHeld => ?_); refine with_tabW raft_Vote.tab7 raft_Vote.bits7 (fun HT_ HW_ => ?_)
 generalize w21.drew = w22 at Aa Ac Ae HB hHeld ⊢
 refine pui 0 27 8 1 HT_ ?_
 refine tki 3 30 8 9 HT_ HW_ hHeld ?_
 refine onei 1 28 8 11 HT_ (fun K hK => ?_)
 have hcl_ : w22.cell? ⟨Af, 2, none⟩ = some (.slice A0_2 l0_2.length c0_2) := (blk_cell Aa.out 2).trans rfl
 refine value_ (w1 := ?_) (v := ?_) (by rfl) rfl ?_ ?_
 rotate_left 2
 ·go_simp
  constructor
  ·rfl
  rfl
 clear hcl_
 refine hK.out _ _ ⟨hHeld.1, hHeld.2.1, hHeld.2.2⟩ (fun hHeld => ?_)
 clear hK K
 refine norm_ (a' := ?_) ?_ ?_
 rotate_left
 ·show Act.put _ (some 28) _ = _
  simp only [Act.put, List.setIfInBounds_toArray, List.set_cons_zero, List.set_cons_succ, i64_w, i32_w]
  rfl
 refine onei 2 29 8 15 HT_ (fun K hK => ?_)
 refine goes_ Try.func76 (by kernel_rfl) rfl #[.slice A0_2 l0_2.length c0_2] (by rfl) rfl rfl pL ?_
 with_reducible refine (raft_owns.calls k _ _ l0_2 t213 _ ?Ao ?Ap A8.out).mono ?_
 (case Ao => exact pC (Kd.C_below As.out HB.out))
 (case Ap => exact At.out)
 rintro e w23 ⟨v214, rfl, ho0, hb⟩
 refine ⟨_, rfl, ?_⟩
 have Au := Am (Kd.S_lower ho0 (below_size (pE3 HB.out Ai.out Ak.out An.out)))
 replace Aa := kBa Aa hb
 replace Ac := kBa Ac hb
 replace Ae := kBa Ae hb
 replace HB := Am (below_step (pE3 HB.out Ai.out Ak.out An.out) hb)
 (try clear hb)
 (try clear hb2)
 (try clear hk)
 (try clear hi)
 (try clear ho0)
 obtain ⟨Av, Aw, Ax⟩ := Kd.S_slice Au.out
 (first | subst Ax | (injection Ax with f1_ f2_ f3_; have f4_ := f1_.symm; have f5_ := f3_.symm; clear f1_ f2_ f3_; subst f4_; subst f5_))
 refine hK.out _ _ ⟨(blk_cell Ac.out 0).trans rfl, (blk_cell Ac.out 1).trans rfl, (blk_cell Ac.out 2).trans rfl⟩ (fun hHeld => ?_)
 clear hK K
 refine norm_ (a' := ?_) ?_ ?_
 rotate_left
 ·show Act.put _ (some 29) _ = _
  simp only [Act.put, List.setIfInBounds_toArray, List.set_cons_zero, List.set_cons_succ, i64_w, i32_w]
  rfl
 refine pui 4 31 8 31 HT_ ?_
 refine one_ (i := 5) (N := none) (bw 8 63) rfl rfl (one_of HT_.out (by kernel_rfl)) (by decide) (fun K hK => ?_)
 have hs25 : w23.cell? ⟨Af, 2, none⟩ = some (.slice A0_2 l0_2.length c0_2) := (blk_cell Aa.out 2).trans rfl
 have hfs25 := blk_frozen Aa.out 2
 have hns25_1 := Ab.out
 have hns25_2 := Ad.out
 have hms25_1 := Ag.out
 have hms25_2 := Ah.out
 refine skip_ (w1 := ?_) (by rfl) rfl ?_ ?_
 rotate_left
 ·go_simp
  rfl
 refine hK.out _ _ ⟨(cX1 hHeld.1 Ab.out), (cX1 hHeld.2.1 Ab.out), (cX1 hHeld.2.2 Ab.out)⟩ (fun hHeld => ?_)
 clear hK K
 refine pui 6 32 8 127 HT_ ?_
 refine one_ (i := 7) (N := none) (bw 8 255) rfl rfl (one_of HT_.out (by kernel_rfl)) (by decide) (fun K hK => ?_)
 have hs26 : w23.cell? ⟨Af, 3, none⟩ = some (.int .i64 a0_3) := (blk_cell Aa.out 3).trans rfl
 have hfs26 := blk_frozen Aa.out 3
 have hns26_1 := Ab.out
 have hns26_2 := Ad.out
 have hms26_1 := Ag.out
 have hms26_2 := Ah.out
 have hs27 : w23.cell? ⟨Af, 4, none⟩ = some (.int .i64 a0_4) := (blk_cell Aa.out 4).trans rfl
 have hfs27 := blk_frozen Aa.out 4
 have hns27_1 := Ab.out
 have hns27_2 := Ad.out
 have hms27_1 := Ag.out
 have hms27_2 := Ah.out
 have hs28 : w23.cell? ⟨Af, 5, none⟩ = some (.int .i64 a0_5) := (blk_cell Aa.out 5).trans rfl
 have hfs28 := blk_frozen Aa.out 5
 have hns28_1 := Ab.out
 have hns28_2 := Ad.out
 have hms28_1 := Ag.out
 have hms28_2 := Ah.out
 refine skip_ (w1 := ?_) (by rfl) rfl ?_ ?_
 rotate_left
 ·go_simp
  rfl
 refine hK.out _ _ ⟨(cX1 hHeld.1 Ab.out), (cX1 hHeld.2.1 Ab.out), (cX1 hHeld.2.2 Ab.out)⟩ (fun hHeld => ?_)
 clear hK K
 refine done_ (done_of HT_.out (by kernel_rfl)) ?_
 obtain ⟨_, _, _, _, _, _, _⟩ := bc7 Aa.out
 obtain ⟨_, _, _, _, _, _, _⟩ := bf7 Aa.out
 obtain ⟨_, _, _, _, _, _, _⟩ := bc7 Ae.out
 obtain ⟨_, _, _, _, _, _, _⟩ := bf7 Ae.out
 try go_wp2
 refine bodyPost_ret (results_ct rfl _ _ Al 54 #[.int .i64 a0_0, .int .i64 a0_1, .slice Av t213.length Aw, .int .i64 a1_0, .int .i64 a1_1, .int .i64 a1_2, .int .i64 a0_6] (0, 0) _ rfl (kX1 Ae.out Ad.out) Try.underlying54 rfl (by kernel_rfl)) rfl ?_
 exact ⟨_, pX, by (with_reducible repeat (first | apply Kd.S_alloc | apply Kd.S_drewN | apply Kd.S_drew)); have h0_ := Kd.S_types (Kd.S_types Au.out Aa.out (by decide)) Ae.out (by decide); have h1_ := Kd.S_far (p := ⟨Af, 2, none⟩) h0_ (fun _ hk => hk.1.2) (.slice Av t213.length Aw); have h2_ := Kd.S_far (p := ⟨Af, 3, none⟩) h1_ (fun _ hk => hk.1.2) (.int .i64 a1_0); have h3_ := Kd.S_far (p := ⟨Af, 4, none⟩) h2_ (fun _ hk => hk.1.2) (.int .i64 a1_1); have h4_ := Kd.S_far (p := ⟨Af, 5, none⟩) h3_ (fun _ hk => hk.1.2) (.int .i64 a1_2); exact Kd.S_mono (Sf7 (g := Al) (h4_) (fun _ hk => hk.2)) (fun _ hk => trivial), pE3 HB.out Ai.out Ak.out An.out⟩
def raft_Apply.f (k : Nat) (a0_0 : Int) (a0_1 : Int) (l0_2 : List (S52)) (a0_3 : Int) (a0_4 : Int) (a0_5 : Int) (a0_6 : Int) (a1 : Int) : Option (Int × Int × (List (S52)) × Int × Int × Int × Int × (List (S52)) × Int) := (raft_Check.f k a0_0 a0_1 l0_2 a0_3 a0_4 a0_5 a0_6).bind fun t218 => (if t218 = 0 then (if a1 < a0_6 then (none) else (if a1 > a0_5 then (none) else (if 0 ≤ (wrap64 (a0_6 - a0_0)) then (if (wrap64 (a0_6 - a0_0)) ≤ (wrap64 (a1 - a0_0)) then (if (wrap64 (a1 - a0_0)) ≤ (l0_2.length : Int) then ((raft_owns.f k ((l0_2.take ((wrap64 (a1 - a0_0)) : Int).toNat).drop ((wrap64 (a0_6 - a0_0)) : Int).toNat)).bind fun t223 => ((raft_owns.f k l0_2).bind fun t226 => (some (a0_0, a0_1, t226, a0_3, a0_4, a0_5, a1, t223, 0)))) else (none)) else (none)) else (none)))) else (none))
theorem raft_Apply.mono : ∀ a0 a1 a2 a3 a4 a5 a6 a7 k, LeO (raft_Apply.f k a0 a1 a2 a3 a4 a5 a6 a7) (raft_Apply.f (k + 1) a0 a1 a2 a3 a4 a5 a6 a7) := by
 intro a0 a1 a2 a3 a4 a5 a6 a7 k
 unfold raft_Apply.f
 repeat' (with_reducible first | exact raft_Check.mono .. | exact raft_owns.mono .. | exact LeO.refl .. | exact LeO.none .. | refine LeO.ite ?_ ?_ | refine LeO.bind ?_ (fun _ => ?_))
set_option maxHeartbeats 8000000 in
set_option maxRecDepth 100000 in
theorem raft_Apply.calls (k : Nat) (a0_0 : Int) (a0_1 : Int) (A0_2 : Option Addr) (c0_2 : Nat) (l0_2 : List (S52)) (a0_3 : Int) (a0_4 : Int) (a0_5 : Int) (a0_6 : Int) (a1 : Int) (r1 : Int) (r2 : Int) (r3 : List (S52)) (r4 : Int) (r5 : Int) (r6 : Int) (r7 : Int) (r8 : List (S52)) (r9 : Int) (w : World) (hr0_2 : Kd.C k52 w A0_2 l0_2.length l0_2) (hc0_2 : l0_2.length ≤ c0_2) (h : raft_Apply.f k a0_0 a0_1 l0_2 a0_3 a0_4 a0_5 a0_6 a1 = some (r1, r2, r3, r4, r5, r6, r7, r8, r9)) :
 Calls Try.prog 64 #[.agg #[.int .i64 a0_0, .int .i64 a0_1, .slice A0_2 l0_2.length c0_2, .int .i64 a0_3, .int .i64 a0_4, .int .i64 a0_5, .int .i64 a0_6], .int .i64 a1] w fun e w' => ∃ v2_ v7_ : Value, e = .returned (.tuple #[.agg #[.int .i64 r1, .int .i64 r2, v2_, .int .i64 r4, .int .i64 r5, .int .i64 r6, .int .i64 r7], v7_, .int .i64 r9]) ∧ Kd.S k52 52 w' w.heap.size (fun k_ => some k_ ≠ (v7_ : Value).ownBlock) v2_ r3 ∧ Kd.S k52 52 w' w.heap.size (fun k_ => some k_ ≠ (v2_ : Value).ownBlock) v7_ r8 ∧ Below w.heap.size w w' := by
 have hu54 := Try.underlying54
 have Ao := Am hr0_2
 have Ap := Am hc0_2
 clear hr0_2 hc0_2
 have HB := Am (Below.refl w.heap.size w)
 unfold raft_Apply.f at h
 have H := h
 clear h
 replace H := Option.bind_eq_some_iff.mp H
 obtain ⟨t218, A30, H⟩ := H
 have A3 := Am A30
 clear A30
 obtain ⟨c4, H⟩ := zI H
 have c4b0 := beq_iff_eq.mpr c4
 have c4b1 := bne_eq_false_iff_eq.mpr c4
 clear c4
 obtain ⟨c5, H⟩ := zJ H
 have c5b0 := decide_eq_false c5
 clear c5
 obtain ⟨c6, H⟩ := zJ H
 have c6b0 : decide (a0_5 < a1) = false := decide_eq_false c6
 clear c6
 obtain ⟨ji7, hji7⟩ : ∃ j_ : Int, (wrap64 (a0_6 - a0_0)) = j_ := ⟨_, rfl⟩
 replace H : (if 0 ≤ (ji7) then (if (ji7) ≤ (wrap64 (a1 - a0_0)) then (if (wrap64 (a1 - a0_0)) ≤ (l0_2.length : Int) then ((raft_owns.f k ((l0_2.take ((wrap64 (a1 - a0_0)) : Int).toNat).drop ((ji7) : Int).toNat)).bind fun t223 => ((raft_owns.f k l0_2).bind fun t226 => (some (a0_0, a0_1, t226, a0_3, a0_4, a0_5, a1, t223, 0)))) else (none)) else (none)) else (none)) = some (r1, r2, r3, r4, r5, r6, r7, r8, r9) := by first | (rw [hji7] at H; exact H) | (simp only [hji7] at H ⊢; exact H)
 (try rw [hji7] at A3)
 have hji7w : (IntKind.i64.wrap (a0_6 - a0_0)) = ji7 := (i64_w _).trans hji7
 obtain ⟨c8, H⟩ := zI H
 have c8b0 := eq_true c8
 have c8b1 := decide_eq_true c8
 clear c8
 obtain ⟨c9, H⟩ := zI H
 have c9b0 := eq_true c9
 have c9b1 := decide_eq_true c9
 clear c9
 obtain ⟨c10, H⟩ := zI H
 have c10b0 := eq_true c10
 have c10b1 := decide_eq_true c10
 clear c10
 obtain ⟨y219, hy219⟩ : ∃ y_ : List (S52), y_ = ((l0_2.take ((wrap64 (a1 - a0_0)) : Int).toNat).drop ((ji7) : Int).toNat) := ⟨_, rfl⟩
 replace H : ((raft_owns.f k y219).bind fun t223 => ((raft_owns.f k l0_2).bind fun t226 => (some (a0_0, a0_1, t226, a0_3, a0_4, a0_5, a1, t223, 0)))) = some (r1, r2, r3, r4, r5, r6, r7, r8, r9) := by first | (rw [hy219]; with_reducible exact H) | (have H2_ := (Option.bind_some _ _).symm.trans H; rw [hy219]; with_reducible exact H2_) | (have H2_ := (Option.bind_some _ _).symm.trans H; with_reducible exact H2_) | with_reducible exact H | (rw [hy219]; exact H) | exact H
 have Ny219 := Am hy219
 clear hy219
 replace H := Option.bind_eq_some_iff.mp H
 obtain ⟨t223, A110, H⟩ := H
 have A11 := Am A110
 clear A110
 replace H := Option.bind_eq_some_iff.mp H
 obtain ⟨t226, A120, H⟩ := H
 have A12 := Am A120
 clear A120
 simp only [Option.some.injEq, Prod.mk.injEq] at H
 obtain ⟨rfl, rfl, rfl, rfl, rfl, rfl, rfl, rfl, rfl⟩ := H
 go_enter Try.func64, Try.ntmps64
 go_wp2_with (first | ((with_reducible refine gate_dst (N := 2) rfl ?_); refine zE 2 #[.int .i64 a0_0, .int .i64 a0_1, .slice A0_2 l0_2.length c0_2, .int .i64 a0_3, .int .i64 a0_4, .int .i64 a0_5, .int .i64 a0_6] 54 ?_; intro Ae hg w13 hbox hb; have Aa := Am (hbox); have Aw := Am (zG hg (below_size (pB HB.out))); replace HB := Am (below_step (pB HB.out) hb); have Ac := Aw; clear hb hbox hg) | ((with_reducible refine gate_dst (N := 4) rfl ?_); refine zE 4 #[.int .i64 0, .int .i64 0, .slice none 0 0, .int .i64 0, .int .i64 0, .int .i64 0, .int .i64 0] 54 ?_; intro Af hg w14 hbox hb; have Ab := Am (hbox); have Ax := Am (zG hg (below_size (pE HB.out Ac.out))); replace HB := Am (below_step (pE HB.out Ac.out) hb); have Ag := Ax; have Al := Am (zN hg (kL Aa.out)); have Ah := Am (zM hg (kL Aa.out)); replace Aa := kBa Aa hb; clear hb hbox hg; have hnb15 := Al.out; have hnc15 := Ah.out; obtain ⟨_, _, _, _, _, _, _⟩ := bc7 Aa.out; obtain ⟨_, _, _, _, _, _, _⟩ := bf7 Aa.out) | ((with_reducible refine gate_callee (f := 37) rfl ?_); refine goesL_ (some 10) rfl rfl Try.func37 (by kernel_rfl) rfl #[.agg #[.int .i64 a0_0, .int .i64 a0_1, .slice A0_2 l0_2.length c0_2, .int .i64 a0_3, .int .i64 a0_4, .int .i64 a0_5, .int .i64 a0_6]] rfl pL ?_; (with_reducible refine (raft_Check.calls k a0_0 a0_1 _ _ l0_2 a0_3 a0_4 a0_5 a0_6 t218 _ ?Ai ?Aj A3.out).mono ?_); (case Ai => exact pC (Kd.C_below Ao.out HB.out)); (case Aj => exact Ap.out); rintro e w17 ⟨rfl, hb⟩; refine ⟨_, rfl, ?_⟩; replace Aa := kBa Aa hb; replace Ab := kBa Ab hb; replace HB := Am (below_step (pE2 HB.out Ac.out Ag.out) hb); (try clear hb); (try clear hb2); (try clear hk); (try clear hi); obtain ⟨_, _, _, _, _, _, _⟩ := bc7 Aa.out; obtain ⟨_, _, _, _, _, _, _⟩ := bf7 Aa.out; have q19 : ((wrap64 (a1 - a0_0)) : Int) ≤ ((l0_2.length : Int) : Int) := of_decide_eq_true pS; obtain ⟨i019, hi019, _, Aq, _⟩ := info_parts info52; have Ad : l0_2.length ≤ c0_2 := Ap.out; have Av : Kd.C k52 _ A0_2 l0_2.length l0_2 := Ao.out; have ql19 : ((ji7) : Int) ≤ ((wrap64 (a1 - a0_0)) : Int) := of_decide_eq_true pS; have q019 : (0 : Int) ≤ ((ji7) : Int) := of_decide_eq_true pS; have Au := cut_mid (P := Try.prog) 26 52 .i64 .i64 Try.underlying26 hi019 10 Aq A0_2 l0_2.length c0_2 (ji7) (wrap64 (a1 - a0_0)) q019 ql19 q19 Ad; have An := Kd.C_mid (lo := ((ji7) : Int).toNat) (hi := ((wrap64 (a1 - a0_0)) : Int).toNat) (c := c0_2) Av (by omega) (by omega) Ad; obtain ⟨A19, hA19⟩ : ∃ AX_, AX_ = (if c0_2 = ((ji7) : Int).toNat then A0_2 else (A0_2 : Option Addr).map (·.add (((ji7) : Int).toNat * 10))) := ⟨_, rfl⟩; obtain ⟨c19, hc19⟩ : ∃ cX_, cX_ = c0_2 - ((ji7) : Int).toNat := ⟨_, rfl⟩; have hy19 : y219.length = ((wrap64 (a1 - a0_0)) : Int).toNat - ((ji7) : Int).toNat := (by rw [Ny219.out, List.length_drop, List.length_take] <;> omega); rw [show ((l0_2).take ((wrap64 (a1 - a0_0)) : Int).toNat).drop ((ji7) : Int).toNat = y219 from Ny219.out.symm] at An; replace An : Kd.C k52 _ A19 y219.length y219 := (by rw [hA19]; exact An); rw [← hy19, ← hA19, ← hc19] at Au; have HR222 := Am An; have HC222 := Am (show y219.length ≤ c19 from by rw [hy19, hc19]; exact Nat.sub_le_sub_right (Nat.le_trans (by omega) Ad) _); clear An Av Ad hi019 Aq hc19; have KY19 := Am hy19; have KA19 := Am hA19; clear hy19 hA19; replace q19 := eq_true q19) | ((with_reducible refine gate_callee (f := 76) rfl ?_); refine goesL_ (some 38) rfl rfl Try.func76 (by kernel_rfl) rfl #[.slice A19 y219.length c19] rfl pL ?_; (with_reducible refine (raft_owns.calls k _ _ y219 t223 _ ?Ai ?Aj A11.out).mono ?_); (case Ai => exact pC (Kd.C_below HR222.out HB.out)); (case Aj => exact HC222.out); rintro e w20 ⟨v224, rfl, ho0, hb⟩; refine ⟨_, rfl, ?_⟩; have Ak := Am (Kd.S_lower ho0 (below_size (pE2 HB.out Ac.out Ag.out))); replace Aa := kBa Aa hb; replace Ab := kBa Ab hb; replace HB := Am (below_step (pE2 HB.out Ac.out Ag.out) hb); (try clear hb); (try clear hb2); (try clear hk); (try clear hi); (try clear ho0); obtain ⟨_, _, _, _, _, _, _⟩ := bc7 Aa.out; obtain ⟨_, _, _, _, _, _, _⟩ := bf7 Aa.out) | ((with_reducible refine gate_callee (f := 76) rfl ?_); refine goesL_ (some 41) rfl rfl Try.func76 (by kernel_rfl) rfl #[.slice A0_2 l0_2.length c0_2] rfl pL ?_; (with_reducible refine (raft_owns.calls k _ _ l0_2 t226 _ ?Ai ?Aj A12.out).mono ?_); (case Ai => exact pC (Kd.C_below Ao.out HB.out)); (case Aj => exact Ap.out); rintro e w22 ⟨v227, rfl, ho0, hb⟩; refine ⟨_, rfl, ?_⟩; have Ar := Am (Kd.S_lower (Kd.S_new' ho0 (Kd.S_lt (zS Ak.out))) (below_size (pE2 HB.out Ac.out Ag.out))); replace Ak := Am (Kd.S_elder' (zS Ak.out) (Kd.S_base ho0) hb); replace Aa := kBa Aa hb; replace Ab := kBa Ab hb; replace HB := Am (below_step (pE2 HB.out Ac.out Ag.out) hb); (try clear hb); (try clear hb2); (try clear hk); (try clear hi); (try clear ho0); obtain ⟨As, At, Ay⟩ := Kd.S_slice Ar.out; subst Ay; obtain ⟨_, _, _, _, _, _, _⟩ := bc7 Aa.out; obtain ⟨_, _, _, _, _, _, _⟩ := bf7 Aa.out; obtain ⟨_, _, _, _, _, _, _⟩ := bc7 Ab.out; obtain ⟨_, _, _, _, _, _, _⟩ := bf7 Ab.out))
 refine bodyPost_ret (results_ctt rfl _ _ Af 54 #[.int .i64 a0_0, .int .i64 a0_1, .slice As t226.length At, .int .i64 a0_3, .int .i64 a0_4, .int .i64 a0_5, .int .i64 a1] (0, 0) _ rfl (kX1 Ab.out Ah.out) Try.underlying54 rfl (by kernel_rfl)) rfl ?_
 exact ⟨_, _, by first | rfl | (simp [errW_none, errW_some] <;> rfl) | (simp only [← hji7]; first | rfl | (simp [errW_none, errW_some] <;> rfl)) | (simp [*, errW_none, errW_some] <;> rfl), by (with_reducible repeat (first | apply Kd.S_alloc | apply Kd.S_drewN | apply Kd.S_drew)); have h0_ := Kd.S_types (Kd.S_types Ar.out Aa.out (by decide)) Ab.out (by decide); have h1_ := Kd.S_far (p := ⟨Ae, 2, none⟩) h0_ (fun _ hk => hk.1.2) (.slice As t226.length At); have h2_ := Kd.S_far (p := ⟨Ae, 6, none⟩) h1_ (fun _ hk => hk.1.2) (.int .i64 a1); exact Kd.S_mono (Sf7 (g := Af) (h2_) (fun _ hk => hk.2)) (fun _ hk => hk.1.1.2), by (with_reducible repeat (first | apply Kd.S_alloc | apply Kd.S_drewN | apply Kd.S_drew)); have h0_ := Kd.S_types (Kd.S_types Ak.out Aa.out (by decide)) Ab.out (by decide); have h1_ := Kd.S_far (p := ⟨Ae, 2, none⟩) h0_ (fun _ hk => hk.1.2) (.slice As t226.length At); have h2_ := Kd.S_far (p := ⟨Ae, 6, none⟩) h1_ (fun _ hk => hk.1.2) (.int .i64 a1); exact Kd.S_mono (Sf7 (g := Af) (h2_) (fun _ hk => hk.2)) (fun _ hk => hk.1.1.2), pE2 HB.out Ac.out Ag.out⟩
def wal_do.f (k : Nat) (a0_0 : Int) (a0_1 : Int) (l0_2 : List (S52)) (a0_3 : Int) (a0_4 : Int) (a0_5 : Int) (a0_6 : Int) (a1_0 : Int) (l1_1 : List (S52)) (a1_2 : Int) (a1_3 : Int) (a1_4 : Int) (a1_5 : Int) : Option (Int × Int × (List (S52)) × Int × Int × Int × Int × Int) := if a1_0 = 1 then ((raft_Put.f k a0_0 a0_1 l0_2 a0_3 a0_4 a0_5 a0_6 l1_1).bind fun bt232 => (some (bt232.1, bt232.2.1, bt232.2.2.1, bt232.2.2.2.1, bt232.2.2.2.2.1, bt232.2.2.2.2.2.1, bt232.2.2.2.2.2.2.1, bt232.2.2.2.2.2.2.2))) else (if a1_0 = 2 then ((raft_Vote.f k a0_0 a0_1 l0_2 a0_3 a0_4 a0_5 a0_6 a1_2 a1_3 a1_4).bind fun bt242 => (some (bt242.1, bt242.2.1, bt242.2.2.1, bt242.2.2.2.1, bt242.2.2.2.2.1, bt242.2.2.2.2.2.1, bt242.2.2.2.2.2.2.1, bt242.2.2.2.2.2.2.2))) else ((raft_Apply.f k a0_0 a0_1 l0_2 a0_3 a0_4 a0_5 a0_6 a1_5).bind fun bt252 => (some (bt252.1, bt252.2.1, bt252.2.2.1, bt252.2.2.2.1, bt252.2.2.2.2.1, bt252.2.2.2.2.2.1, bt252.2.2.2.2.2.2.1, bt252.2.2.2.2.2.2.2.2))))
theorem wal_do.mono : ∀ a0 a1 a2 a3 a4 a5 a6 a7 a8 a9 a10 a11 a12 k, LeO (wal_do.f k a0 a1 a2 a3 a4 a5 a6 a7 a8 a9 a10 a11 a12) (wal_do.f (k + 1) a0 a1 a2 a3 a4 a5 a6 a7 a8 a9 a10 a11 a12) := by
 intro a0 a1 a2 a3 a4 a5 a6 a7 a8 a9 a10 a11 a12 k
 unfold wal_do.f
 repeat' (with_reducible first | exact raft_Apply.mono .. | exact raft_Put.mono .. | exact raft_Vote.mono .. | exact LeO.refl .. | exact LeO.none .. | refine LeO.ite ?_ ?_ | refine LeO.bind ?_ (fun _ => ?_))
set_option maxHeartbeats 8000000 in
set_option maxRecDepth 100000 in
theorem wal_do.calls (k : Nat) (a0_0 : Int) (a0_1 : Int) (A0_2 : Option Addr) (c0_2 : Nat) (l0_2 : List (S52)) (a0_3 : Int) (a0_4 : Int) (a0_5 : Int) (a0_6 : Int) (a1_0 : Int) (A1_1 : Option Addr) (c1_1 : Nat) (l1_1 : List (S52)) (a1_2 : Int) (a1_3 : Int) (a1_4 : Int) (a1_5 : Int) (r1 : Int) (r2 : Int) (r3 : List (S52)) (r4 : Int) (r5 : Int) (r6 : Int) (r7 : Int) (r8 : Int) (w : World) (hr0_2 : Kd.C k52 w A0_2 l0_2.length l0_2) (hc0_2 : l0_2.length ≤ c0_2) (hr1_1 : Kd.C k52 w A1_1 l1_1.length l1_1) (hc1_1 : l1_1.length ≤ c1_1) (h : wal_do.f k a0_0 a0_1 l0_2 a0_3 a0_4 a0_5 a0_6 a1_0 l1_1 a1_2 a1_3 a1_4 a1_5 = some (r1, r2, r3, r4, r5, r6, r7, r8)) :
 Calls Try.prog 40 #[.agg #[.int .i64 a0_0, .int .i64 a0_1, .slice A0_2 l0_2.length c0_2, .int .i64 a0_3, .int .i64 a0_4, .int .i64 a0_5, .int .i64 a0_6], .agg #[.int .i64 a1_0, .slice A1_1 l1_1.length c1_1, .int .i64 a1_2, .int .i64 a1_3, .int .i64 a1_4, .int .i64 a1_5]] w fun e w' => ∃ v2_ : Value, e = .returned (.tuple #[.agg #[.int .i64 r1, .int .i64 r2, v2_, .int .i64 r4, .int .i64 r5, .int .i64 r6, .int .i64 r7], .int .i64 r8]) ∧ Kd.N k52 52 w' w.heap.size (fun k_ => (w.heap.size ≤ k_)) v2_ r3 ∧ Below w.heap.size w w' := by
 have hu54 := Try.underlying54
 have hu30 := Try.underlying30
 have hu28 := Try.underlying28
 have Av := Am hr0_2
 have Aw := Am hc0_2
 clear hr0_2 hc0_2
 have A2 := Am hr1_1
 have A3 := Am hc1_1
 clear hr1_1 hc1_1
 have HB := Am (Below.refl w.heap.size w)
 unfold wal_do.f at h
 have H := h
 clear h
 by_cases c3 : a1_0 = 1
 ·rw [if_pos c3] at H
  have c3b0 := beq_iff_eq.mpr c3
  have c3b1 := bne_eq_false_iff_eq.mpr c3
  clear c3
  replace H := Option.bind_eq_some_iff.mp H
  obtain ⟨⟨t232, t233, t234, t237, t238, t239, t240, t241⟩, A40, H⟩ := H
  dsimp only at H
  have A4 := Am A40
  clear A40
  simp only [Option.some.injEq, Prod.mk.injEq] at H
  obtain ⟨rfl, rfl, rfl, rfl, rfl, rfl, rfl, rfl⟩ := H
  go_enter Try.func40, Try.ntmps40
  go_wp2_with (first | ((with_reducible refine gate_dst (N := 2) rfl ?_); refine zE 2 #[.int .i64 a0_0, .int .i64 a0_1, .slice A0_2 l0_2.length c0_2, .int .i64 a0_3, .int .i64 a0_4, .int .i64 a0_5, .int .i64 a0_6] 54 ?_; intro Ad hg w5 hbox hb; have Aa := Am (hbox); have Aq := Am (zG hg (below_size (pB HB.out))); replace HB := Am (below_step (pB HB.out) hb); have Ae := Aq; clear hb hbox hg) | ((with_reducible refine gate_dst (N := 3) rfl ?_); refine zE 3 #[.int .i64 a1_0, .slice A1_1 l1_1.length c1_1, .int .i64 a1_2, .int .i64 a1_3, .int .i64 a1_4, .int .i64 a1_5] 30 ?_; intro Ag hg w6 hbox hb; have Ab := Am (hbox); have Ar := Am (zG hg (below_size (pE HB.out Ae.out))); replace HB := Am (below_step (pE HB.out Ae.out) hb); have Af := Ar; have Ak := Am (zN hg (kL Aa.out)); have Al := Am (zM hg (kL Aa.out)); replace Aa := kBa Aa hb; clear hb hbox hg) | ((with_reducible refine gate_dst (N := 4) rfl ?_); refine zE 4 #[.int .i64 0, .int .i64 0, .slice none 0 0, .int .i64 0, .int .i64 0, .int .i64 0, .int .i64 0] 54 ?_; intro Ac hg w7 hbox hb; have Ah := Am (hbox); have As := Am (zG hg (below_size (pE2 HB.out Ae.out Af.out))); replace HB := Am (below_step (pE2 HB.out Ae.out Af.out) hb); have Ai := As; have An := Am (zN hg (kL Aa.out)); have Aj := Am (zM hg (kL Aa.out)); replace Aa := kBa Aa hb; have Ao := Am (zN hg (kL Ab.out)); have Ap := Am (zM hg (kL Ab.out)); replace Ab := kBa Ab hb; clear hb hbox hg; have hnb8 := Al.out; have hnc8 := Ak.out; have hnb9 := Ao.out; have hnc9 := Ap.out; obtain ⟨_, _, _, _, _, _⟩ := bc6 Ab.out; obtain ⟨_, _, _, _, _, _⟩ := bf6 Ab.out; have hnb11 := An.out; have hnc11 := Aj.out; obtain ⟨_, _, _, _, _, _, _⟩ := bc7 Aa.out; obtain ⟨_, _, _, _, _, _, _⟩ := bf7 Aa.out) | ((with_reducible refine gate_callee (f := 62) rfl ?_); refine goesL_ (some 15) rfl rfl Try.func62 (by kernel_rfl) rfl #[.agg #[.int .i64 a0_0, .int .i64 a0_1, .slice A0_2 l0_2.length c0_2, .int .i64 a0_3, .int .i64 a0_4, .int .i64 a0_5, .int .i64 a0_6], .slice A1_1 l1_1.length c1_1] rfl pL ?_; (with_reducible refine (raft_Put.calls k a0_0 a0_1 _ _ l0_2 a0_3 a0_4 a0_5 a0_6 _ _ l1_1 t232 t233 t234 t237 t238 t239 t240 t241 _ ?At ?Au ?A5 ?A6 A4.out).mono ?_); (case At => exact pC (Kd.C_below Av.out HB.out)); (case Au => exact Aw.out); (case A5 => exact pC (Kd.C_below A2.out HB.out)); (case A6 => exact A3.out); rintro e w13 ⟨v235, rfl, ho0, hb⟩; refine ⟨_, rfl, ?_⟩; have Ax := Am (Kd.N_lower (Kd.N_mono (ok' := fun k_ => (w.heap.size ≤ k_) ∧ k_ ≠ Ad ∧ k_ ≠ Ag ∧ k_ ≠ Ac) ho0 (fun k_ hk_ => ⟨(Nat.le_trans (below_size (pE3 HB.out Ae.out Af.out Ai.out)) hk_), (kF Aa.out k_ hk_), (kF Ab.out k_ hk_), (kF Ah.out k_ hk_)⟩)) (below_size (pE3 HB.out Ae.out Af.out Ai.out))); replace Aa := kBa Aa hb; replace Ab := kBa Ab hb; replace Ah := kBa Ah hb; replace HB := Am (below_step (pE3 HB.out Ae.out Af.out Ai.out) hb); (try clear hb); (try clear hb2); (try clear hk); (try clear hi); (try clear ho0); obtain ⟨_, _, _, _, _, _, _⟩ := bc7 Ah.out; obtain ⟨_, _, _, _, _, _, _⟩ := bf7 Ah.out; obtain ⟨A7, A8, A9⟩ := Kd.N_slice Ax.out; subst A9))
  refine bodyPost_ret (results_ct rfl _ _ Ac 54 #[.int .i64 t232, .int .i64 t233, .slice A7 t234.length A8, .int .i64 t237, .int .i64 t238, .int .i64 t239, .int .i64 t240] (0, 0) _ rfl (kX0 Ah.out) Try.underlying54 rfl (by kernel_rfl)) rfl ?_
  exact ⟨_, pX, by (with_reducible repeat (first | apply Kd.N_alloc | apply Kd.N_drewN | apply Kd.N_drew)); exact Kd.N_mono (Nf7 (g := Ac) (Kd.N_mono Ax.out (fun k_ hk => (⟨hk, hk.2.2.2⟩ : _ ∧ k_ ≠ Ac))) (fun _ hk => hk.2)) (fun _ hk => hk.1.1), pE3 HB.out Ae.out Af.out Ai.out⟩
 rw [if_neg c3] at H
 have c3b0 := beq_eq_false_iff_ne.mpr c3
 have c3b1 := bne_iff_ne.mpr c3
 by_cases c16 : a1_0 = 2
 ·rw [if_pos c16] at H
  have c16b0 := beq_iff_eq.mpr c16
  have c16b1 := bne_eq_false_iff_eq.mpr c16
  clear c16
  replace H := Option.bind_eq_some_iff.mp H
  obtain ⟨⟨t242, t243, t244, t247, t248, t249, t250, t251⟩, A170, H⟩ := H
  dsimp only at H
  have A17 := Am A170
  clear A170
  simp only [Option.some.injEq, Prod.mk.injEq] at H
  obtain ⟨rfl, rfl, rfl, rfl, rfl, rfl, rfl, rfl⟩ := H
  go_enter Try.func40, Try.ntmps40
  go_wp2_with (first | ((with_reducible refine gate_dst (N := 2) rfl ?_); refine zE 2 #[.int .i64 a0_0, .int .i64 a0_1, .slice A0_2 l0_2.length c0_2, .int .i64 a0_3, .int .i64 a0_4, .int .i64 a0_5, .int .i64 a0_6] 54 ?_; intro Ad hg w18 hbox hb; have Aa := Am (hbox); have Aq := Am (zG hg (below_size (pB HB.out))); replace HB := Am (below_step (pB HB.out) hb); have Ae := Aq; clear hb hbox hg) | ((with_reducible refine gate_dst (N := 3) rfl ?_); refine zE 3 #[.int .i64 a1_0, .slice A1_1 l1_1.length c1_1, .int .i64 a1_2, .int .i64 a1_3, .int .i64 a1_4, .int .i64 a1_5] 30 ?_; intro Ag hg w19 hbox hb; have Ab := Am (hbox); have Ar := Am (zG hg (below_size (pE HB.out Ae.out))); replace HB := Am (below_step (pE HB.out Ae.out) hb); have Af := Ar; have Ak := Am (zN hg (kL Aa.out)); have Al := Am (zM hg (kL Aa.out)); replace Aa := kBa Aa hb; clear hb hbox hg) | ((with_reducible refine gate_dst (N := 4) rfl ?_); refine zE 4 #[.int .i64 0, .int .i64 0, .slice none 0 0, .int .i64 0, .int .i64 0, .int .i64 0, .int .i64 0] 54 ?_; intro Ac hg w20 hbox hb; have Ah := Am (hbox); have As := Am (zG hg (below_size (pE2 HB.out Ae.out Af.out))); replace HB := Am (below_step (pE2 HB.out Ae.out Af.out) hb); have Ai := As; have An := Am (zN hg (kL Aa.out)); have Aj := Am (zM hg (kL Aa.out)); replace Aa := kBa Aa hb; have Ao := Am (zN hg (kL Ab.out)); have Ap := Am (zM hg (kL Ab.out)); replace Ab := kBa Ab hb; clear hb hbox hg; have hnb21 := Al.out; have hnc21 := Ak.out; have hnb22 := Ao.out; have hnc22 := Ap.out; obtain ⟨_, _, _, _, _, _⟩ := bc6 Ab.out; obtain ⟨_, _, _, _, _, _⟩ := bf6 Ab.out; have hnb24 := An.out; have hnc24 := Aj.out; obtain ⟨_, _, _, _, _, _, _⟩ := bc7 Aa.out; obtain ⟨_, _, _, _, _, _, _⟩ := bf7 Aa.out) | ((with_reducible refine gate_callee (f := 63) rfl ?_); refine goesL_ (some 23) rfl rfl Try.func63 (by kernel_rfl) rfl #[.agg #[.int .i64 a0_0, .int .i64 a0_1, .slice A0_2 l0_2.length c0_2, .int .i64 a0_3, .int .i64 a0_4, .int .i64 a0_5, .int .i64 a0_6], .agg #[.int .i64 a1_2, .int .i64 a1_3, .int .i64 a1_4]] rfl pL ?_; (with_reducible refine (raft_Vote.calls k a0_0 a0_1 _ _ l0_2 a0_3 a0_4 a0_5 a0_6 a1_2 a1_3 a1_4 t242 t243 t244 t247 t248 t249 t250 t251 _ ?At ?Au A17.out).mono ?_); (case At => exact pC (Kd.C_below Av.out HB.out)); (case Au => exact Aw.out); rintro e w26 ⟨v245, rfl, ho0, hb⟩; refine ⟨_, rfl, ?_⟩; have Ay := Am (Kd.N_lower (Kd.N_mono (ok' := fun k_ => (w.heap.size ≤ k_) ∧ k_ ≠ Ad ∧ k_ ≠ Ag ∧ k_ ≠ Ac) (Kd.S_N (Kd.S_bound ho0)) (fun k_ hk_ => ⟨(Nat.le_trans (below_size (pE3 HB.out Ae.out Af.out Ai.out)) hk_.2.1), (kF Aa.out k_ hk_.2.1), (kF Ab.out k_ hk_.2.1), (kF Ah.out k_ hk_.2.1)⟩)) (below_size (pE3 HB.out Ae.out Af.out Ai.out))); replace Aa := kBa Aa hb; replace Ab := kBa Ab hb; replace Ah := kBa Ah hb; replace HB := Am (below_step (pE3 HB.out Ae.out Af.out Ai.out) hb); (try clear hb); (try clear hb2); (try clear hk); (try clear hi); (try clear ho0); obtain ⟨_, _, _, _, _, _, _⟩ := bc7 Ah.out; obtain ⟨_, _, _, _, _, _, _⟩ := bf7 Ah.out; obtain ⟨Ba, Bb, Bc⟩ := Kd.N_slice Ay.out; subst Bc))
  refine bodyPost_ret (results_ct rfl _ _ Ac 54 #[.int .i64 t242, .int .i64 t243, .slice Ba t244.length Bb, .int .i64 t247, .int .i64 t248, .int .i64 t249, .int .i64 t250] (0, 0) _ rfl (kX0 Ah.out) Try.underlying54 rfl (by kernel_rfl)) rfl ?_
  exact ⟨_, pX, by (with_reducible repeat (first | apply Kd.N_alloc | apply Kd.N_drewN | apply Kd.N_drew)); exact Kd.N_mono (Nf7 (g := Ac) (Kd.N_mono Ay.out (fun k_ hk => (⟨hk, hk.2.2.2⟩ : _ ∧ k_ ≠ Ac))) (fun _ hk => hk.2)) (fun _ hk => hk.1.1), pE3 HB.out Ae.out Af.out Ai.out⟩
 rw [if_neg c16] at H
 have c16b0 := beq_eq_false_iff_ne.mpr c16
 have c16b1 := bne_iff_ne.mpr c16
 replace H := Option.bind_eq_some_iff.mp H
 obtain ⟨⟨t252, t253, t254, t257, t258, t259, t260, t261, t264⟩, A290, H⟩ := H
 dsimp only at H
 have A29 := Am A290
 clear A290
 simp only [Option.some.injEq, Prod.mk.injEq] at H
 obtain ⟨rfl, rfl, rfl, rfl, rfl, rfl, rfl, rfl⟩ := H
 go_enter Try.func40, Try.ntmps40
 go_wp2_with (first | ((with_reducible refine gate_dst (N := 2) rfl ?_); refine zE 2 #[.int .i64 a0_0, .int .i64 a0_1, .slice A0_2 l0_2.length c0_2, .int .i64 a0_3, .int .i64 a0_4, .int .i64 a0_5, .int .i64 a0_6] 54 ?_; intro Ad hg w30 hbox hb; have Aa := Am (hbox); have Aq := Am (zG hg (below_size (pB HB.out))); replace HB := Am (below_step (pB HB.out) hb); have Ae := Aq; clear hb hbox hg) | ((with_reducible refine gate_dst (N := 3) rfl ?_); refine zE 3 #[.int .i64 a1_0, .slice A1_1 l1_1.length c1_1, .int .i64 a1_2, .int .i64 a1_3, .int .i64 a1_4, .int .i64 a1_5] 30 ?_; intro Ag hg w31 hbox hb; have Ab := Am (hbox); have Ar := Am (zG hg (below_size (pE HB.out Ae.out))); replace HB := Am (below_step (pE HB.out Ae.out) hb); have Af := Ar; have Ak := Am (zN hg (kL Aa.out)); have Al := Am (zM hg (kL Aa.out)); replace Aa := kBa Aa hb; clear hb hbox hg) | ((with_reducible refine gate_dst (N := 4) rfl ?_); refine zE 4 #[.int .i64 0, .int .i64 0, .slice none 0 0, .int .i64 0, .int .i64 0, .int .i64 0, .int .i64 0] 54 ?_; intro Ac hg w32 hbox hb; have Ah := Am (hbox); have As := Am (zG hg (below_size (pE2 HB.out Ae.out Af.out))); replace HB := Am (below_step (pE2 HB.out Ae.out Af.out) hb); have Ai := As; have An := Am (zN hg (kL Aa.out)); have Aj := Am (zM hg (kL Aa.out)); replace Aa := kBa Aa hb; have Ao := Am (zN hg (kL Ab.out)); have Ap := Am (zM hg (kL Ab.out)); replace Ab := kBa Ab hb; clear hb hbox hg; have hnb33 := Al.out; have hnc33 := Ak.out; have hnb34 := Ao.out; have hnc34 := Ap.out; obtain ⟨_, _, _, _, _, _⟩ := bc6 Ab.out; obtain ⟨_, _, _, _, _, _⟩ := bf6 Ab.out; have hnb36 := An.out; have hnc36 := Aj.out; obtain ⟨_, _, _, _, _, _, _⟩ := bc7 Aa.out; obtain ⟨_, _, _, _, _, _, _⟩ := bf7 Aa.out) | ((with_reducible refine gate_callee (f := 64) rfl ?_); refine goesL_ (some 30) rfl rfl Try.func64 (by kernel_rfl) rfl #[.agg #[.int .i64 a0_0, .int .i64 a0_1, .slice A0_2 l0_2.length c0_2, .int .i64 a0_3, .int .i64 a0_4, .int .i64 a0_5, .int .i64 a0_6], .int .i64 a1_5] rfl pL ?_; (with_reducible refine (raft_Apply.calls k a0_0 a0_1 _ _ l0_2 a0_3 a0_4 a0_5 a0_6 a1_5 t252 t253 t254 t257 t258 t259 t260 t261 t264 _ ?At ?Au A29.out).mono ?_); (case At => exact pC (Kd.C_below Av.out HB.out)); (case Au => exact Aw.out); rintro e w38 ⟨v255, v262, rfl, ho0, ho1, hb⟩; refine ⟨_, rfl, ?_⟩; have Az := Am (Kd.N_lower (Kd.N_mono (ok' := fun k_ => (w.heap.size ≤ k_) ∧ some k_ ≠ (v262 : Value).ownBlock ∧ k_ ≠ Ad ∧ k_ ≠ Ag ∧ k_ ≠ Ac) (Kd.S_N (Kd.S_bound ho0)) (fun k_ hk_ => ⟨(Nat.le_trans (below_size (pE3 HB.out Ae.out Af.out Ai.out)) hk_.2.1), hk_.1, (kF Aa.out k_ hk_.2.1), (kF Ab.out k_ hk_.2.1), (kF Ah.out k_ hk_.2.1)⟩)) (below_size (pE3 HB.out Ae.out Af.out Ai.out))); have HO263 := Am (Kd.N_lower (Kd.N_mono (ok' := fun k_ => (w.heap.size ≤ k_) ∧ some k_ ≠ (v255 : Value).ownBlock ∧ k_ ≠ Ad ∧ k_ ≠ Ag ∧ k_ ≠ Ac) (Kd.S_N (Kd.S_bound ho1)) (fun k_ hk_ => ⟨(Nat.le_trans (below_size (pE3 HB.out Ae.out Af.out Ai.out)) hk_.2.1), hk_.1, (kF Aa.out k_ hk_.2.1), (kF Ab.out k_ hk_.2.1), (kF Ah.out k_ hk_.2.1)⟩)) (below_size (pE3 HB.out Ae.out Af.out Ai.out))); replace Aa := kBa Aa hb; replace Ab := kBa Ab hb; replace Ah := kBa Ah hb; replace HB := Am (below_step (pE3 HB.out Ae.out Af.out Ai.out) hb); (try clear hb); (try clear hb2); (try clear hk); (try clear hi); (try clear ho0); (try clear ho1); obtain ⟨_, _, _, _, _, _, _⟩ := bc7 Aa.out; obtain ⟨_, _, _, _, _, _, _⟩ := bf7 Aa.out; obtain ⟨A0, A1, Bd⟩ := Kd.N_slice Az.out; subst Bd; obtain ⟨_, _, _, _, _, _, _⟩ := bc7 Ah.out; obtain ⟨_, _, _, _, _, _, _⟩ := bf7 Ah.out))
 refine bodyPost_ret (results_ct rfl _ _ Ac 54 #[.int .i64 t252, .int .i64 t253, .slice A0 t254.length A1, .int .i64 t257, .int .i64 t258, .int .i64 t259, .int .i64 t260] (0, 0) _ rfl (kX1 Ah.out Aj.out) Try.underlying54 rfl (by kernel_rfl)) rfl ?_
 exact ⟨_, pX, by (with_reducible repeat (first | apply Kd.N_alloc | apply Kd.N_drewN | apply Kd.N_drew)); have h0_ := Kd.N_mono (Kd.N_mono Az.out (fun k_ hk => (⟨hk, hk.2.2.1⟩ : _ ∧ k_ ≠ Ad))) (fun k_ hk => (⟨hk, hk.1.2.2.2.2⟩ : _ ∧ k_ ≠ Ac)); have h1_ := Kd.N_far (p := ⟨Ad, 0, none⟩) h0_ (fun _ hk => hk.1.2) (.int .i64 t252); have h2_ := Kd.N_far (p := ⟨Ad, 1, none⟩) h1_ (fun _ hk => hk.1.2) (.int .i64 t253); have h3_ := Kd.N_far (p := ⟨Ad, 2, none⟩) h2_ (fun _ hk => hk.1.2) (.slice A0 t254.length A1); have h4_ := Kd.N_far (p := ⟨Ad, 3, none⟩) h3_ (fun _ hk => hk.1.2) (.int .i64 t257); have h5_ := Kd.N_far (p := ⟨Ad, 4, none⟩) h4_ (fun _ hk => hk.1.2) (.int .i64 t258); have h6_ := Kd.N_far (p := ⟨Ad, 5, none⟩) h5_ (fun _ hk => hk.1.2) (.int .i64 t259); have h7_ := Kd.N_far (p := ⟨Ad, 6, none⟩) h6_ (fun _ hk => hk.1.2) (.int .i64 t260); exact Kd.N_mono (Nf7 (g := Ac) (h7_) (fun _ hk => hk.2)) (fun _ hk => hk.1.1.1), pE3 HB.out Ae.out Af.out Ai.out⟩
def wal_Make.l0 : Nat → List (S30) → List (S30) → Int → Int → Int → Int → List (S52) → Int → Int → Int → Int → Option (Int × Int × (List (S52)) × Int × Int × Int × Int × Int × Int)
 | 0, _, _, _, _, _, _, _, _, _, _, _ => none
 | k + 1, x1, x25, x26, x27, x266000, x266001, x266002, x266003, x266004, x266005, x266006 => if x27 < x26 then (if 0 ≤ x27 then (if x27 < (x25.length : Int) then ((wal_do.f k x266000 x266001 x266002 x266003 x266004 x266005 x266006 ((rd_T30 x25 x27).f0) ((rd_T30 x25 x27).f1) ((rd_T30 x25 x27).f2.f0) ((rd_T30 x25 x27).f2.f1) ((rd_T30 x25 x27).f2.f2) ((rd_T30 x25 x27).f3)).bind fun bt271 => (if bt271.2.2.2.2.2.2.2 = 0 then (wal_Make.l0 k x1 x25 x26 (wrap64 (x27 + 1)) bt271.1 bt271.2.1 bt271.2.2.1 bt271.2.2.2.1 bt271.2.2.2.2.1 bt271.2.2.2.2.2.1 bt271.2.2.2.2.2.2.1) else (none))) else (none)) else (none)) else (some (x266000, x266001, x266002, x266003, x266004, x266005, x266006, (x1.length : Int), 0))
def wal_Make.f (k : Nat) (a0_0 : Int) (a0_1 : Int) (l0_2 : List (S52)) (a0_3 : Int) (a0_4 : Int) (a0_5 : Int) (a0_6 : Int) (l1 : List (S30)) : Option (Int × Int × (List (S52)) × Int × Int × Int × Int × Int × Int) := (raft_Check.f k a0_0 a0_1 l0_2 a0_3 a0_4 a0_5 a0_6).bind fun t267 => (if t267 = 0 then (if (l0_2.length : Int) > 0 then (none) else ((slices_ContainsFunc_api_Rec.f k l1).bind fun t268 => (if t268 = true then (none) else (wal_Make.l0 k l1 l1 (l1.length : Int) 0 a0_0 a0_1 l0_2 a0_3 a0_4 a0_5 a0_6)))) else (none))
theorem wal_Make.mono_l : ∀ k, (∀ y0 y1 y2 y3 y4 y5 y6 y7 y8 y9 y10, LeO (wal_Make.l0 k y0 y1 y2 y3 y4 y5 y6 y7 y8 y9 y10) (wal_Make.l0 (k + 1) y0 y1 y2 y3 y4 y5 y6 y7 y8 y9 y10))
 | 0 => fun _ _ _ _ _ _ _ _ _ _ _ r h => by simp [wal_Make.l0] at h
 | k + 1 => by
  have ih0 := wal_Make.mono_l k
  ·intro y0 y1 y2 y3 y4 y5 y6 y7 y8 y9 y10
   unfold wal_Make.l0
   repeat' (with_reducible first | exact ih0 .. | exact raft_Check.mono .. | exact slices_ContainsFunc_api_Rec.mono .. | exact wal_do.mono .. | exact LeO.refl .. | exact LeO.none .. | refine LeO.ite ?_ ?_ | refine LeO.bind ?_ (fun _ => ?_))
theorem wal_Make.mono : ∀ a0 a1 a2 a3 a4 a5 a6 a7 k, LeO (wal_Make.f k a0 a1 a2 a3 a4 a5 a6 a7) (wal_Make.f (k + 1) a0 a1 a2 a3 a4 a5 a6 a7) := by
 intro a0 a1 a2 a3 a4 a5 a6 a7 k
 have ih0 := wal_Make.mono_l k
 unfold wal_Make.f
 repeat' (with_reducible first | exact ih0 .. | exact raft_Check.mono .. | exact slices_ContainsFunc_api_Rec.mono .. | exact wal_do.mono .. | exact LeO.refl .. | exact LeO.none .. | refine LeO.ite ?_ ?_ | refine LeO.bind ?_ (fun _ => ?_))
set_option maxHeartbeats 8000000 in
set_option maxRecDepth 100000 in
theorem wal_Make.calls (k : Nat) (a0_0 : Int) (a0_1 : Int) (P0_2_ : Nat → Prop) (A0_2 : Option Addr) (c0_2 : Nat) (l0_2 : List (S52)) (a0_3 : Int) (a0_4 : Int) (a0_5 : Int) (a0_6 : Int) (A1 : Option Addr) (c1 : Nat) (l1 : List (S30)) (r1 : Int) (r2 : Int) (r3 : List (S52)) (r4 : Int) (r5 : Int) (r6 : Int) (r7 : Int) (r8 : Int) (r9 : Int) (w : World) (hs0_2 : Kd.V k52 52 w w.heap.size (fun k_ => P0_2_ k_) (.slice A0_2 l0_2.length c0_2) l0_2) (hr1 : Kd.C k30 w A1 l1.length l1) (hc1 : l1.length ≤ c1) (h : wal_Make.f k a0_0 a0_1 l0_2 a0_3 a0_4 a0_5 a0_6 l1 = some (r1, r2, r3, r4, r5, r6, r7, r8, r9)) :
 Calls Try.prog 16 #[.agg #[.int .i64 a0_0, .int .i64 a0_1, .slice A0_2 l0_2.length c0_2, .int .i64 a0_3, .int .i64 a0_4, .int .i64 a0_5, .int .i64 a0_6], .slice A1 l1.length c1] w fun e w' => ∃ v2_ : Value, e = .returned (.tuple #[.agg #[.int .i64 r1, .int .i64 r2, v2_, .int .i64 r4, .int .i64 r5, .int .i64 r6, .int .i64 r7], .int .i64 r8, .int .i64 r9]) ∧ Kd.V k52 52 w' w.heap.size (fun k_ => (P0_2_ k_ ∨ w.heap.size ≤ k_)) v2_ r3 ∧ Below w.heap.size w w' := by
 have hu54 := Try.underlying54
 have hu30 := Try.underlying30
 have HO0_2 := Am (show Kd.V k52 52 w w.heap.size (fun k_ => (P0_2_ k_ ∨ w.heap.size ≤ k_)) (.slice A0_2 l0_2.length c0_2) l0_2 from Kd.V_mono hs0_2 (fun k_ hk => .inl hk))
 have HR1 := Am hr1
 have HC1 := Am hc1
 clear hr1 hc1
 have HB := Am (Below.refl w.heap.size w)
 unfold wal_Make.f at h
 have H := h
 clear h
 replace H := Option.bind_eq_some_iff.mp H
 obtain ⟨t267, A30, H⟩ := H
 have A3 := Am A30
 clear A30
 obtain ⟨c4, H⟩ := zI H
 have c4b0 := beq_iff_eq.mpr c4
 have c4b1 := bne_eq_false_iff_eq.mpr c4
 clear c4
 obtain ⟨c5, H⟩ := zJ H
 have c5b0 : decide (0 < (l0_2.length : Int)) = false := decide_eq_false c5
 have c5b1 : decide (0 < l0_2.length) = false := decide_eq_false (by omega)
 clear c5
 replace H := Option.bind_eq_some_iff.mp H
 obtain ⟨t268, A60, H⟩ := H
 have A6 := Am A60
 clear A60
 by_cases c7 : t268 = true
 ·subst c7
  rw [if_pos rfl] at H
  exact absurd H (by simp)
 replace c7 := Bool.eq_false_iff.mpr c7
 subst c7
 rw [if_neg zF] at H
 have H' := Am H
 clear H
 go_enter Try.func16, Try.ntmps16
 go_wp2_with (first | ((with_reducible refine gate_dst (N := 2) rfl ?_); (try (refine gate_guard (by rfl) ?_; dsimp only)); refine zE 2 #[.int .i64 a0_0, .int .i64 a0_1, .slice A0_2 l0_2.length c0_2, .int .i64 a0_3, .int .i64 a0_4, .int .i64 a0_5, .int .i64 a0_6] 54 ?_; intro Ao hg w8 hbox hb; replace HO0_2 := Am (Kd.V_below (Kd.V_elderB (pV HO0_2.out) Ao (Nat.le_of_eq hg.symm)) hb); have Ab := Am (hbox); have Ck := Am (zG hg (below_size (pB HB.out))); replace HB := Am (below_step (pB HB.out) hb); have Aq := Ck; clear hb hbox hg) | ((with_reducible refine gate_dst (N := 4) rfl ?_); (try (refine gate_guard (by rfl) ?_; dsimp only)); refine zE 4 #[.int .i64 0, .int .i64 0, .slice none 0 0, .int .i64 0, .int .i64 0, .int .i64 0, .int .i64 0] 54 ?_; intro Al hg w9 hbox hb; replace HO0_2 := Am (Kd.V_below (Kd.V_elderB (pV HO0_2.out) Al (Nat.le_of_eq hg.symm)) hb); have Ad := Am (hbox); have Cl := Am (zG hg (below_size (pE HB.out Aq.out))); replace HB := Am (below_step (pE HB.out Aq.out) hb); have Ar := Cl; have A0 := Am (zN hg (kL Ab.out)); have As := Am (zM hg (kL Ab.out)); replace Ab := kBa Ab hb; clear hb hbox hg; have hnb10 := A0.out; have hnc10 := As.out; obtain ⟨Bl, Bm, Bn, Bo, Bp, Bq, Br⟩ := bc7 Ab.out; obtain ⟨Bs, Bt, Bu, Bv, Bw, Bx, By⟩ := bf7 Ab.out) | ((with_reducible refine gate_callee (f := 37) rfl ?_); refine goesL_ (some 12) rfl rfl Try.func37 (by kernel_rfl) rfl #[.agg #[.int .i64 a0_0, .int .i64 a0_1, .slice A0_2 l0_2.length c0_2, .int .i64 a0_3, .int .i64 a0_4, .int .i64 a0_5, .int .i64 a0_6]] rfl pL ?_; (with_reducible refine (raft_Check.calls k a0_0 a0_1 _ _ l0_2 a0_3 a0_4 a0_5 a0_6 t267 _ ?A9 ?Ba A3.out).mono ?_); (case A9 => exact pC (Kd.V_reads' HO0_2.out).2.2); (case Ba => exact (Kd.V_reads' HO0_2.out).2.1); rintro e w12 ⟨rfl, hb⟩; refine ⟨_, rfl, ?_⟩; replace HO0_2 := bVa HO0_2 hb; replace Ab := kBa Ab hb; replace Ad := kBa Ad hb; replace HB := Am (below_step (pE2 HB.out Aq.out Ar.out) hb); (try clear hb); (try clear hb2); (try clear hk); (try clear hi); obtain ⟨Bz, B0, B1, B2, B3, B4, B5⟩ := bc7 Ab.out; obtain ⟨B6, B7, B8, B9, Ca, Cb, Cc⟩ := bf7 Ab.out) | (go_at_call 38; (with_reducible refine (slices_ContainsFunc_api_Rec.calls k _ _ l1 false _ ?A9 ?Ba A6.out).mono ?_); (case A9 => exact pC (Kd.C_below HR1.out HB.out)); (case Ba => exact HC1.out); rintro e w14 ⟨rfl, hb⟩; replace HO0_2 := bVa HO0_2 hb; replace Ab := kBa Ab hb; replace Ad := kBa Ad hb; replace HB := Am (below_step (pE2 HB.out Aq.out Ar.out) hb); (try clear hb); (try clear hb2); (try clear hk); (try clear hi)))
 go_loopg [27] k (fun kq v27 w' => ∃ (Aa : Int) (Af : Int) (Ag : Int) (Ae : List (S52)) (Ah : Int) (Ai : Int) (Aj : Int) (Ak : Int) (At : Int) (Au : Int) (Av : Int) (Aw : Int) (Ax : Int) (Ay : Int) (u266002 : Value), v27 = .int .i64 Aa ∧ Aside0 (wal_Make.l0 kq l1 l1 (l1.length : Int) Aa Af Ag Ae Ah Ai Aj Ak = some (r1, r2, r3, r4, r5, r6, r7, r8, r9)) ∧ Aside0 (kq ≤ k) ∧ Aside0 (Kd.V k52 52 w' w.heap.size (fun k_ => (P0_2_ k_ ∨ w.heap.size ≤ k_) ∧ k_ ≠ Ao ∧ k_ ≠ Al) u266002 Ae) ∧ Aside0 (w'.heap[Ao]? = some (.cells #[.int .i64 Af, .int .i64 Ag, u266002, .int .i64 Ah, .int .i64 Ai, .int .i64 Aj, .int .i64 Ak] 54 (0, 0))) ∧ Aside0 (w'.heap[Al]? = some (.cells #[.int .i64 At, .int .i64 Au, (.slice none 0 0), .int .i64 Av, .int .i64 Aw, .int .i64 Ax, .int .i64 Ay] 54 (0, 0))) ∧ Aside0 (Below w.heap.size w w'))
 case atStart => exact ⟨(0), (a0_0), (a0_1), (l0_2), (a0_3), (a0_4), (a0_5), (a0_6), (0), (0), (0), (0), (0), (0), (.slice A0_2 l0_2.length c0_2), zr, H', ⟨Nat.le_refl _⟩, ⟨by (with_reducible repeat (first | apply Kd.V_alloc | apply Kd.V_drewN | apply Kd.V_drew)); exact Kd.V_mono HO0_2.out (fun _ hk => ⟨hk.1.1, ⟨hk.1.2, hk.2⟩⟩)⟩, ⟨pK Ab.out⟩, ⟨pK Ad.out⟩, ⟨pE2 HB.out Aq.out Ar.out⟩⟩
 case round =>
  clear H'
  try clear c1
  try clear p2
  try clear c3
  try clear c4
  try clear c4b0
  try clear c4b1
  try clear c5
  try clear c5b0
  try clear c5b1
  try clear c7
  try clear c10
  try clear Bl Bm Bn Bo Bp Bq Br
  try clear Bz B0 B1 B2 B3 B4 B5
  try clear Bs Bt Bu Bv Bw Bx By
  try clear B6 B7 B8 B9 Ca Cb Cc
  obtain ⟨Aa, Af, Ag, Ae, Ah, Ai, Aj, Ak, At, Au, Av, Aw, Ax, Ay, u266002, rfl, HA, HK1, Ac, Ab, Ad, HB⟩ := hrel
  cases gk with
  | zero => exact absurd HA.out (by simp [wal_Make.l0])
  | succ k1 =>
   have H := HA.out
   clear HA
   simp only [wal_Make.l0] at H
   by_cases c15 : Aa < (l1.length : Int)
   rotate_left
   ·rw [if_neg c15] at H
    have c15b0 := decide_eq_false c15
    clear c15
    simp only [Option.some.injEq, Prod.mk.injEq] at H
    obtain ⟨rfl, rfl, rfl, rfl, rfl, rfl, rfl, rfl, rfl⟩ := H
    have hnb35 := A0.out
    have hnc35 := As.out
    obtain ⟨_, _, _, _, _, _, _⟩ := bc7 Ab.out
    obtain ⟨_, _, _, _, _, _, _⟩ := bf7 Ab.out
    obtain ⟨_, _, _, _, _, _, _⟩ := bc7 Ad.out
    obtain ⟨_, _, _, _, _, _, _⟩ := bf7 Ad.out
    obtain ⟨Ct, Cu, Cv⟩ := Kd.V_slice Ac.out
    subst Cv
    go_wp2
    refine bodyPost_ret (results_ctt rfl _ _ Al 54 #[.int .i64 Af, .int .i64 Ag, .slice Ct Ae.length Cu, .int .i64 Ah, .int .i64 Ai, .int .i64 Aj, .int .i64 Ak] (0, 0) _ rfl (kX0 Ad.out) Try.underlying54 rfl (by kernel_rfl)) rfl ?_
    exact ⟨_, pX, by (with_reducible repeat (first | apply Kd.V_alloc | apply Kd.V_drewN | apply Kd.V_drew)); exact Kd.V_mono (Vf7 (g := Al) (Kd.V_mono Ac.out (fun k_ hk => (⟨hk, hk.2.2⟩ : _ ∧ k_ ≠ Al))) (fun _ hk => hk.2)) (fun _ hk => hk.1.1), pE2 HB.out Aq.out Ar.out⟩
   rw [if_pos c15] at H
   have c15b0 := decide_eq_true c15
   clear c15
   obtain ⟨c16, H⟩ := zI H
   have c16b0 := decide_eq_true c16
   clear c16
   obtain ⟨c17, H⟩ := zI H
   have c17b0 := decide_eq_true c17
   clear c17
   replace H := Option.bind_eq_some_iff.mp H
   obtain ⟨⟨t271, t272, t273, t276, t277, t278, t279, t280⟩, A180, H⟩ := H
   dsimp only at H
   have A18 := Am A180
   clear A180
   obtain ⟨c19, H⟩ := zI H
   have c19b0 := beq_iff_eq.mpr c19
   have c19b1 := bne_eq_false_iff_eq.mpr c19
   clear c19
   have H' := Am H
   clear H
   have p269 : 0 ≤ (Aa : Int) := of_decide_eq_true pS
   have q269 : Aa < (l1.length : Int) := of_decide_eq_true pS
   obtain ⟨ad269, Bk, c269_1, e269, hx269_0, hx269_1, hx269_2, hx269_3, hx269_4, hx269_5, Bc, Bd⟩ := at_T30u HR1.out Aa p269 q269 HB.out
   cases e269
   have Cd := Am Bd
   have Ce := Am Bc
   clear Bd Bc
   replace p269 := eq_true p269
   replace q269 := eq_true q269
   go_wp2_with (first | ((with_reducible refine gate_dst (N := 8) rfl ?_); (try (refine gate_guard (by rfl) ?_; dsimp only)); refine zE 8 #[.int .i64 0, .slice none 0 0, .int .i64 0, .int .i64 0, .int .i64 0, .int .i64 0] 30 ?_; intro Ap hg w20 hbox hb; replace Ac := Am (Kd.V_below (Kd.V_elderB (pV Ac.out) Ap (Nat.le_of_eq hg.symm)) hb); have Az := Am (hbox); have Cm := Am (zG hg (below_size (pE2 HB.out Aq.out Ar.out))); replace HB := Am (below_step (pE2 HB.out Aq.out Ar.out) hb); have A5 := Cm; have A2 := Am (zN hg (kL Ab.out)); have Be := Am (zM hg (kL Ab.out)); replace Ab := kBa Ab hb; have A4 := Am (zN hg (kL Ad.out)); have Bf := Am (zM hg (kL Ad.out)); replace Ad := kBa Ad hb; clear hb hbox hg; have hnb21 := Be.out; have hnc21 := A2.out; have hnb22 := Bf.out; have hnc22 := A4.out; obtain ⟨_, _, _, _, _, _⟩ := bc6 Az.out; obtain ⟨_, _, _, _, _, _⟩ := bf6 Az.out; have hnb24 := A0.out; have hnc24 := As.out; obtain ⟨_, _, _, _, _, _, _⟩ := bc7 Ab.out; obtain ⟨_, _, _, _, _, _, _⟩ := bf7 Ab.out; obtain ⟨Ch, Cg, Cr⟩ := Kd.V_slice Ac.out; subst Cr) | ((with_reducible refine gate_callee (f := 40) rfl ?_); refine goesL_ (some 35) rfl rfl Try.func40 (by kernel_rfl) rfl #[.agg #[.int .i64 Af, .int .i64 Ag, .slice Ch Ae.length Cg, .int .i64 Ah, .int .i64 Ai, .int .i64 Aj, .int .i64 Ak], .agg #[.int .i64 ((rd_T30 l1 Aa).f0), .slice Bk ((rd_T30 l1 Aa).f1).length c269_1, .int .i64 ((rd_T30 l1 Aa).f2.f0), .int .i64 ((rd_T30 l1 Aa).f2.f1), .int .i64 ((rd_T30 l1 Aa).f2.f2), .int .i64 ((rd_T30 l1 Aa).f3)]] rfl pL ?_; (with_reducible refine (wal_do.calls k1 Af Ag _ _ Ae Ah Ai Aj Ak ((rd_T30 l1 Aa).f0) _ _ ((rd_T30 l1 Aa).f1) ((rd_T30 l1 Aa).f2.f0) ((rd_T30 l1 Aa).f2.f1) ((rd_T30 l1 Aa).f2.f2) ((rd_T30 l1 Aa).f3) t271 t272 t273 t276 t277 t278 t279 t280 _ ?A9 ?Ba ?Cn ?Co A18.out).mono ?_); (case A9 => refine (Kd.V_reads' (e := 52) (base := w.heap.size) (ok := fun k_ => (((P0_2_ k_ ∨ w.heap.size ≤ k_) ∧ (k_ ≠ Ao ∧ k_ ≠ Al)) ∧ k_ ≠ Ap)) (n := Ae.length) (c := Cg) ?_).2.2; exact (by (with_reducible repeat (first | apply Kd.V_alloc | apply Kd.V_drewN | apply Kd.V_drew)); exact (Kd.V_mono (Vf6 (g := Ap) (Kd.V_mono Ac.out (fun k_ hk => (⟨hk, hk.2⟩ : _ ∧ k_ ≠ Ap))) (fun _ hk => hk.2)) (fun _ h_ => h_.1)))); (case Ba => exact (Kd.V_reads' Ac.out).2.1); (case Cn => exact Kd.C_below Cd.out (pE3 HB.out Aq.out Ar.out A5.out)); (case Co => exact Ce.out); rintro e w27 ⟨v274, rfl, ho0, hb⟩; refine ⟨_, rfl, ?_⟩; replace Ac := Am (Kd.V_elder' (by (with_reducible repeat (first | apply Kd.V_alloc | apply Kd.V_drewN | apply Kd.V_drew)); exact (Kd.V_mono (Vf6 (g := Ap) (Kd.V_mono Ac.out (fun k_ hk => (⟨hk, hk.2⟩ : _ ∧ k_ ≠ Ap))) (fun _ hk => hk.2)) (fun _ h_ => h_.1))) (Kd.N_base ho0) hb); have Bb := Am (Kd.N_lower (Kd.N_mono (ok' := fun k_ => (P0_2_ k_ ∨ w.heap.size ≤ k_) ∧ k_ ≠ Ao ∧ k_ ≠ Al ∧ k_ ≠ Ap) ho0 (fun k_ hk_ => ⟨(.inr (Nat.le_trans (below_size (pE3 HB.out Aq.out Ar.out A5.out)) hk_)), (Kd.freshB (g := Ao) (o := .cells #[.int .i64 Af, .int .i64 Ag, .slice Ch Ae.length Cg, .int .i64 Ah, .int .i64 Ai, .int .i64 Aj, .int .i64 Ak] 54 (0, 0)) (kX1 Ab.out A2.out) k_ hk_), (Kd.freshB (g := Al) (o := .cells #[.int .i64 At, .int .i64 Au, .slice none 0 0, .int .i64 Av, .int .i64 Aw, .int .i64 Ax, .int .i64 Ay] 54 (0, 0)) (kX1 Ad.out A4.out) k_ hk_), (Kd.freshB (g := Ap) (o := .cells #[.int .i64 ((rd_T30 l1 Aa).f0), .slice Bk ((rd_T30 l1 Aa).f1).length c269_1, .int .i64 ((rd_T30 l1 Aa).f2.f0), .int .i64 ((rd_T30 l1 Aa).f2.f1), .int .i64 ((rd_T30 l1 Aa).f2.f2), .int .i64 ((rd_T30 l1 Aa).f3)] 30 (0, 0)) (kX0 Az.out) k_ hk_)⟩)) (below_size (pE3 HB.out Aq.out Ar.out A5.out))); replace Ab := Am (blk_below (g := Ao) (kX1 Ab.out A2.out) hb); replace Ad := Am (blk_below (g := Al) (kX1 Ad.out A4.out) hb); replace Az := Am (blk_below (g := Ap) (kX0 Az.out) hb); replace HB := Am (below_step (pE3 HB.out Aq.out Ar.out A5.out) hb); (try clear hb); (try clear hb2); (try clear hk); (try clear hi); (try clear ho0)) | ((with_reducible refine gate_dst (N := 9) rfl ?_); (try (refine gate_guard (by rfl) ?_; dsimp only)); refine zE 9 #[.int .i64 0, .int .i64 0, .slice none 0 0, .int .i64 0, .int .i64 0, .int .i64 0, .int .i64 0] 54 ?_; intro An hg w28 hbox hb; replace Ac := Am (Kd.V_below (Kd.V_elderB (pV Ac.out) An (Nat.le_of_eq hg.symm)) hb); replace Bb := Am (Kd.N_below (Kd.N_elderB (pN Bb.out) An (Nat.le_of_eq hg.symm)) hb); have Cf := Am (hbox); have Cp := Am (zG hg (below_size (pE3 HB.out Aq.out Ar.out A5.out))); replace HB := Am (below_step (pE3 HB.out Aq.out Ar.out A5.out) hb); have Cq := Cp; have A7 := Am (zN hg (kL Ab.out)); have Bg := Am (zM hg (kL Ab.out)); replace Ab := kBa Ab hb; have A8 := Am (zN hg (kL Ad.out)); have Bh := Am (zM hg (kL Ad.out)); replace Ad := kBa Ad hb; have Bi := Am (zN hg (kL Az.out)); have Bj := Am (zM hg (kL Az.out)); replace Az := kBa Az hb; clear hb hbox hg; have hnb29 := Bg.out; have hnc29 := A7.out; have hnb30 := Bh.out; have hnc30 := A8.out; have hnb31 := Bj.out; have hnc31 := Bi.out; obtain ⟨_, _, _, _, _, _, _⟩ := bc7 Cf.out; obtain ⟨_, _, _, _, _, _, _⟩ := bf7 Cf.out; obtain ⟨Ci, Cj, Cs⟩ := Kd.N_slice Bb.out; subst Cs; obtain ⟨_, _, _, _, _, _, _⟩ := bc7 Ab.out; obtain ⟨_, _, _, _, _, _, _⟩ := bf7 Ab.out))
   go_roundg k1
   case measure => have := HK1.out; omega
   case rel => exact ⟨(wrap64 (Aa + 1)), (t271), (t272), (t273), (t276), (t277), (t278), (t279), (At), (Au), (Av), (Aw), (Ax), (Ay), (.slice Ci t273.length Cj), zr, H', ⟨by have := HK1.out; omega⟩, ⟨Kd.N_V (by (with_reducible repeat (first | apply Kd.N_alloc | apply Kd.N_drewN | apply Kd.N_drew)); have h0_ := Kd.N_mono (Kd.N_mono Bb.out (fun k_ hk => (⟨hk, hk.2⟩ : _ ∧ k_ ≠ An))) (fun k_ hk => (⟨hk, hk.1.1.2.1⟩ : _ ∧ k_ ≠ Ao)); have h1_ := Kd.N_far (p := ⟨An, 0, none⟩) h0_ (fun _ hk => hk.1.2) (.int .i64 t271); have h2_ := Kd.N_far (p := ⟨An, 1, none⟩) h1_ (fun _ hk => hk.1.2) (.int .i64 t272); have h3_ := Kd.N_far (p := ⟨An, 2, none⟩) h2_ (fun _ hk => hk.1.2) (.slice Ci t273.length Cj); have h4_ := Kd.N_far (p := ⟨An, 3, none⟩) h3_ (fun _ hk => hk.1.2) (.int .i64 t276); have h5_ := Kd.N_far (p := ⟨An, 4, none⟩) h4_ (fun _ hk => hk.1.2) (.int .i64 t277); have h6_ := Kd.N_far (p := ⟨An, 5, none⟩) h5_ (fun _ hk => hk.1.2) (.int .i64 t278); have h7_ := Kd.N_far (p := ⟨An, 6, none⟩) h6_ (fun _ hk => hk.1.2) (.int .i64 t279); exact Kd.N_mono (Nf7 (g := Ao) (h7_) (fun _ hk => hk.2)) (fun _ hk => ⟨hk.1.1.1.1, ⟨hk.1.1.1.2.1, hk.1.1.1.2.2.1⟩⟩))⟩, ⟨kX1 Ab.out A7.out⟩, ⟨kX2 Ad.out As.out A8.out⟩, ⟨pE4 HB.out Aq.out Ar.out A5.out Cq.out⟩⟩
def garnerlaw24_awake.f (k : Nat)  : Option (Bool) := (wal_Make.f k 0 0 ([] : List (S52)) 0 0 0 0 (([(⟨1, (([(⟨1, 1, 1, (⟨#[97]⟩ : ByteArray), (⟨false, ([] : List Int), (⟨0, 0, 0, 0⟩ : S48)⟩ : S50)⟩ : S52), (⟨2, 1, 2, (⟨#[97]⟩ : ByteArray), (⟨false, ([] : List Int), (⟨0, 0, 0, 0⟩ : S48)⟩ : S50)⟩ : S52)] : List (S52))), (⟨0, 0, 0⟩ : S28), 0⟩ : S30), (⟨2, ([] : List (S52)), (⟨1, 0, 1⟩ : S28), 0⟩ : S30), (⟨3, ([] : List (S52)), (⟨0, 0, 0⟩ : S28), 1⟩ : S30)] : List (S30)))).bind fun bt288 => (if bt288.2.2.2.2.2.2.2.2 = 0 then (if bt288.2.2.2.2.2.2.2.1 = 3 then (if (bt288.2.2.1.length : Int) = 2 then (if bt288.2.2.2.2.2.1 = 1 then (some (bt288.2.2.2.2.2.2.1 == 1)) else (none)) else (none)) else (none)) else (none))
theorem garnerlaw24_awake.mono : ∀ k, LeO (garnerlaw24_awake.f k ) (garnerlaw24_awake.f (k + 1) ) := by
 intro  k
 unfold garnerlaw24_awake.f
 repeat' (with_reducible first | exact wal_Make.mono .. | exact LeO.refl .. | exact LeO.none .. | refine LeO.ite ?_ ?_ | refine LeO.bind ?_ (fun _ => ?_))
set_option maxHeartbeats 8000000 in
set_option maxRecDepth 100000 in
theorem garnerlaw24_awake.calls (k : Nat)  (r : Bool) (w : World) (h : garnerlaw24_awake.f k  = some r) :
 Calls Try.prog 5 #[] w fun e w' => e = .returned (.bool r) ∧ Below w.heap.size w w' := by
 have hu52 := Try.underlying52
 have hu54 := Try.underlying54
 have hu30 := Try.underlying30
 have hu28 := Try.underlying28
 have HB := Am (Below.refl w.heap.size w)
 unfold garnerlaw24_awake.f at h
 have H := h
 clear h
 obtain ⟨y282, hy282⟩ : ∃ y_ : List (S52), y_ = (([(⟨1, 1, 1, (⟨#[97]⟩ : ByteArray), (⟨false, ([] : List Int), (⟨0, 0, 0, 0⟩ : S48)⟩ : S50)⟩ : S52), (⟨2, 1, 2, (⟨#[97]⟩ : ByteArray), (⟨false, ([] : List Int), (⟨0, 0, 0, 0⟩ : S48)⟩ : S50)⟩ : S52)] : List (S52))) := ⟨_, rfl⟩
 replace H : ((wal_Make.f k 0 0 ([] : List (S52)) 0 0 0 0 (([(⟨1, y282, (⟨0, 0, 0⟩ : S28), 0⟩ : S30), (⟨2, ([] : List (S52)), (⟨1, 0, 1⟩ : S28), 0⟩ : S30), (⟨3, ([] : List (S52)), (⟨0, 0, 0⟩ : S28), 1⟩ : S30)] : List (S30)))).bind fun bt288 => (if bt288.2.2.2.2.2.2.2.2 = 0 then (if bt288.2.2.2.2.2.2.2.1 = 3 then (if (bt288.2.2.1.length : Int) = 2 then (if bt288.2.2.2.2.2.1 = 1 then (some (bt288.2.2.2.2.2.2.1 == 1)) else (none)) else (none)) else (none)) else (none))) = some r := by first | (rw [hy282]; with_reducible exact H) | (have H2_ := (Option.bind_some _ _).symm.trans H; rw [hy282]; with_reducible exact H2_) | (have H2_ := (Option.bind_some _ _).symm.trans H; with_reducible exact H2_) | with_reducible exact H | (rw [hy282]; exact H) | exact H
 have Ny282 := Am hy282
 clear hy282
 obtain ⟨y285, hy285⟩ : ∃ y_ : List (S30), y_ = (([(⟨1, y282, (⟨0, 0, 0⟩ : S28), 0⟩ : S30), (⟨2, ([] : List (S52)), (⟨1, 0, 1⟩ : S28), 0⟩ : S30), (⟨3, ([] : List (S52)), (⟨0, 0, 0⟩ : S28), 1⟩ : S30)] : List (S30))) := ⟨_, rfl⟩
 replace H : ((wal_Make.f k 0 0 ([] : List (S52)) 0 0 0 0 y285).bind fun bt288 => (if bt288.2.2.2.2.2.2.2.2 = 0 then (if bt288.2.2.2.2.2.2.2.1 = 3 then (if (bt288.2.2.1.length : Int) = 2 then (if bt288.2.2.2.2.2.1 = 1 then (some (bt288.2.2.2.2.2.2.1 == 1)) else (none)) else (none)) else (none)) else (none))) = some r := by first | (rw [hy285]; with_reducible exact H) | (have H2_ := (Option.bind_some _ _).symm.trans H; rw [hy285]; with_reducible exact H2_) | (have H2_ := (Option.bind_some _ _).symm.trans H; with_reducible exact H2_) | with_reducible exact H | (rw [hy285]; exact H) | exact H
 have Ny285 := Am hy285
 clear hy285
 replace H := Option.bind_eq_some_iff.mp H
 obtain ⟨⟨t288, t289, t290, t293, t294, t295, t296, t297, t298⟩, A10, H⟩ := H
 dsimp only at H
 have A1 := Am A10
 clear A10
 obtain ⟨c2, H⟩ := zI H
 have c2b0 := beq_iff_eq.mpr c2
 have c2b1 := bne_eq_false_iff_eq.mpr c2
 clear c2
 obtain ⟨c3, H⟩ := zI H
 have c3b0 := beq_iff_eq.mpr c3
 have c3b1 := bne_eq_false_iff_eq.mpr c3
 clear c3
 obtain ⟨c4, H⟩ := zI H
 have c4b0 := beq_iff_eq.mpr c4
 have c4b1 := bne_eq_false_iff_eq.mpr c4
 clear c4
 obtain ⟨c5, H⟩ := zI H
 have c5b0 := beq_iff_eq.mpr c5
 have c5b1 := bne_eq_false_iff_eq.mpr c5
 clear c5
 obtain rfl := Option.some.inj H
 go_enter Try.func5, Try.ntmps5
 go_wp2_with (first | ((with_reducible refine gate_dst (N := 7) rfl ?_); (try (refine gate_guard (by rfl) ?_; dsimp only)); refine Kd.N_lit k52 _ 52 ?hg (N' := 7) ?hd (xs := ([(⟨1, 1, 1, (⟨#[97]⟩ : ByteArray), (⟨false, ([] : List Int), (⟨0, 0, 0, 0⟩ : S48)⟩ : S50)⟩ : S52), (⟨2, 1, 2, (⟨#[97]⟩ : ByteArray), (⟨false, ([] : List Int), (⟨0, 0, 0, 0⟩ : S48)⟩ : S50)⟩ : S52)] : List (S52))) (inner := [.int .i64 1, .int .i64 1, .int .i64 1, .string (⟨#[97]⟩ : ByteArray), .bool false, .slice none 0 0, .int .i64 0, .int .i64 0, .int .i64 0, .int .u32 0, .int .i64 2, .int .i64 1, .int .i64 2, .string (⟨#[97]⟩ : ByteArray), .bool false, .slice none 0 0, .int .i64 0, .int .i64 0, .int .i64 0, .int .u32 0]) (ok := (fun _ => True)) (okp := (fun _ => True)) ?hr ?hp (fun _ hk => hk) ((show ∀ k_, w.heap.size ≤ k_ → (fun _ => True) k_ from fun k_ hk => trivial) _ (Nat.le_refl _)) (Below.refl _ _) (Nat.le_refl _) (by simp) ?_; (case hd => rfl); (case hg => rfl); (case hr => first | (go_simp; done) | (go_simp; rfl)); (case hp => exact (Reps.c10 (show Kd.FK k52 _ _ (⟨1, 1, 1, (⟨#[97]⟩ : ByteArray), (⟨false, ([] : List Int), (⟨0, 0, 0, 0⟩ : S48)⟩ : S50)⟩ : S52) [.int .i64 1, .int .i64 1, .int .i64 1, .string (⟨#[97]⟩ : ByteArray), .bool false, .slice none 0 0, .int .i64 0, .int .i64 0, .int .i64 0, .int .u32 0] from (k52_mkF _ _ (⟨1, 1, 1, (⟨#[97]⟩ : ByteArray), (⟨false, ([] : List Int), (⟨0, 0, 0, 0⟩ : S48)⟩ : S50)⟩ : S52) (Nat.le_refl _) (Kd.F_nil _ _ _))) (Reps.c10 (show Kd.FK k52 _ _ (⟨2, 1, 2, (⟨#[97]⟩ : ByteArray), (⟨false, ([] : List Int), (⟨0, 0, 0, 0⟩ : S48)⟩ : S50)⟩ : S52) [.int .i64 2, .int .i64 1, .int .i64 2, .string (⟨#[97]⟩ : ByteArray), .bool false, .slice none 0 0, .int .i64 0, .int .i64 0, .int .i64 0, .int .u32 0] from (k52_mkF _ _ (⟨2, 1, 2, (⟨#[97]⟩ : ByteArray), (⟨false, ([] : List Int), (⟨0, 0, 0, 0⟩ : S48)⟩ : S50)⟩ : S52) (Nat.le_refl _) (Kd.F_nil _ _ _))) (Reps.none _ _)))); intro v283 w6 ho7 hb hg_ hnew_; clear hg_ hnew_; (first | rw [← Ny282.out] at ho7 | (simp only [Int.reduceToNat] at ho7; rw [← Ny282.out] at ho7)); have Ab := Am (Kd.N_lower ho7 (below_size (pB HB.out))); replace HB := Am (below_step (pB HB.out) hb); clear hb ho7; obtain ⟨Ap, Aq, Ar⟩ := Kd.N_slice Ab.out; subst Ar) | ((with_reducible refine gate_dst (N := 15) rfl ?_); (try (refine gate_guard (by rfl) ?_; dsimp only)); refine Kd.N_lit k30 _ 30 ?hg (N' := 15) ?hd (xs := ([(⟨1, y282, (⟨0, 0, 0⟩ : S28), 0⟩ : S30), (⟨2, ([] : List (S52)), (⟨1, 0, 1⟩ : S28), 0⟩ : S30), (⟨3, ([] : List (S52)), (⟨0, 0, 0⟩ : S28), 1⟩ : S30)] : List (S30))) (inner := [.int .i64 1, .slice Ap y282.length Aq, .int .i64 0, .int .i64 0, .int .i64 0, .int .i64 0, .int .i64 2, .slice none 0 0, .int .i64 1, .int .i64 0, .int .i64 1, .int .i64 0, .int .i64 3, .slice none 0 0, .int .i64 0, .int .i64 0, .int .i64 0, .int .i64 1]) (ok := (fun _ => True)) (okp := (fun _ => True)) ?hr ?hp (fun _ hk => hk) ((show ∀ k_, w6.heap.size ≤ k_ → (fun _ => True) k_ from fun k_ hk => trivial) _ (Nat.le_refl _)) (Below.refl _ _) (Nat.le_refl _) (by simp) ?_; (case hd => rfl); (case hg => rfl); (case hr => first | (go_simp; done) | (go_simp; rfl)); (case hp => exact (Reps.c6 (show Kd.FK k30 _ _ (⟨1, y282, (⟨0, 0, 0⟩ : S28), 0⟩ : S30) [.int .i64 1, .slice Ap y282.length Aq, .int .i64 0, .int .i64 0, .int .i64 0, .int .i64 0] from (k30_mkF _ _ (⟨1, y282, (⟨0, 0, 0⟩ : S28), 0⟩ : S30) (Kd.N_reads' (Kd.N_mono (ok' := (fun _ => True)) (Ab.out) (fun k_ hk => trivial))).2.1 (Kd.N_F (Kd.N_mono (ok' := (fun _ => True)) (Ab.out) (fun k_ hk => trivial))))) (Reps.c6 (show Kd.FK k30 _ _ (⟨2, ([] : List (S52)), (⟨1, 0, 1⟩ : S28), 0⟩ : S30) [.int .i64 2, .slice none 0 0, .int .i64 1, .int .i64 0, .int .i64 1, .int .i64 0] from (k30_mkF _ _ (⟨2, ([] : List (S52)), (⟨1, 0, 1⟩ : S28), 0⟩ : S30) (Nat.le_refl _) (Kd.F_nil _ _ _))) (Reps.c6 (show Kd.FK k30 _ _ (⟨3, ([] : List (S52)), (⟨0, 0, 0⟩ : S28), 1⟩ : S30) [.int .i64 3, .slice none 0 0, .int .i64 0, .int .i64 0, .int .i64 0, .int .i64 1] from (k30_mkF _ _ (⟨3, ([] : List (S52)), (⟨0, 0, 0⟩ : S28), 1⟩ : S30) (Nat.le_refl _) (Kd.F_nil _ _ _))) (Reps.none _ _))))); intro v286 w9 ho10 hb hg_ hnew_; clear hg_ hnew_; (first | rw [← Ny285.out] at ho10 | (simp only [Int.reduceToNat] at ho10; rw [← Ny285.out] at ho10)); have Aa := Am (Kd.N_lower ho10 (below_size (pB HB.out))); replace HB := Am (below_step (pB HB.out) hb); clear Ab hb ho10; obtain ⟨Af, Ag, An⟩ := Kd.N_slice Aa.out; subst An) | ((with_reducible refine gate_callee (f := 16) rfl ?_); refine goesL_ (some 16) rfl rfl Try.func16 (by kernel_rfl) rfl #[.agg #[.int .i64 0, .int .i64 0, .slice none 0 0, .int .i64 0, .int .i64 0, .int .i64 0, .int .i64 0], .slice Af y285.length Ag] rfl pL ?_; (refine (wal_Make.calls k 0 0 (fun k_ => False) _ _ ([] : List (S52)) 0 0 0 0 _ _ y285 t288 t289 t290 t293 t294 t295 t296 t297 t298 _ ?Ah ?Ai ?Aj A1.out).mono ?_); (case Ah => exact Kd.V_nil _ _ _ _ _); (case Ai => exact pC (Kd.N_reads' Aa.out).2.2); (case Aj => exact (Kd.N_reads' Aa.out).2.1); rintro e w12 ⟨v291, rfl, ho0, hb⟩; refine ⟨_, rfl, ?_⟩; have Ac := Am (Kd.V_lower (Kd.V_mono (ok' := fun k_ => some k_ ≠ (.slice Af y285.length Ag : Value).ownBlock) ho0 (fun k_ hk_ => Or.elim hk_ (fun hs_ => (hs_).elim) (fun hn_ => (Kd.fresh' (Kd.N_lt (pN Aa.out)) k_ hn_)))) (below_size (pB HB.out))); replace Aa := bNa Aa hb; replace HB := Am (below_step (pB HB.out) hb); (try clear hb); (try clear hb2); (try clear hk); (try clear hi); (try clear ho0)) | ((with_reducible refine gate_dst (N := 2) rfl ?_); (try (refine gate_guard (by rfl) ?_; dsimp only)); refine zE 2 #[.int .i64 0, .int .i64 0, .slice none 0 0, .int .i64 0, .int .i64 0, .int .i64 0, .int .i64 0] 54 ?_; intro Ad hg w13 hbox hb; replace Aa := Am (Kd.N_below (Kd.N_elderB (pN Aa.out) Ad (Nat.le_of_eq hg.symm)) hb); replace Ac := Am (Kd.V_below (Kd.V_elderB (pV Ac.out) Ad (Nat.le_of_eq hg.symm)) hb); have Ae := Am (hbox); have Ak := Am (zG hg (below_size (pB HB.out))); replace HB := Am (below_step (pB HB.out) hb); have Al := Ak; clear hb hbox hg; obtain ⟨_, _, _, _, _, _, _⟩ := bc7 Ae.out; obtain ⟨_, _, _, _, _, _, _⟩ := bf7 Ae.out; obtain ⟨Ao15, co15, Ao⟩ := Kd.V_slice Ac.out; subst Ao))
 go_ret
 exact ⟨pX, pE HB.out Al.out⟩
end Go.Proofs.Ytdanmjfkocjgjaa.PWalGets
