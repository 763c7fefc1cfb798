/- What the law reaches, as plain Lean functions, and that the machine's calls answer just that. -/
import Derived.Test.YtdanmjfkocjgjaaPWalPutsx0
import Derived.Test.YtdanmjfkocjgjaaPWalPutsx5
import Derived.Test.YtdanmjfkocjgjaaPWalPutsx7
namespace Go.Proofs.Ytdanmjfkocjgjaa.PWalPuts
open Go.RowKit Go.Proofs.YtdanmjfkocjgjaaW.PrintWords Go.Proofs.YtdanmjfkocjgjaaW.PrintLast Go.Proofs.YtdanmjfkocjgjaaW.PrintMore
set_option linter.unusedVariables false
set_option linter.unusedSimpArgs false
section
attribute [local go_sem] max2_int min2_int max_two min_two max_three min_three max_four min_four
set_option maxHeartbeats 8000000
attribute [local go_sem] wrap64_l1 wrap64_l2 wrap64_l3 wrap64_l4 wrap64_l5
def hard_Step.f (a0_0 : Int) (a0_1 : Int) (a0_2 : Int) (a1_0 : Int) (a1_1 : Int) (a1_2 : Int) (a2 : Int) : Option (Int) := (hard_Check.f a0_0 a0_1 a0_2).bind fun t204 => (if t204 = 0 then ((hard_Check.f a1_0 a1_1 a1_2).bind fun t205 => (if t205 = 0 then (if a1_0 < a0_0 then (none) else (if a1_2 < a0_2 then (none) else (if a1_0 = a0_0 then (none) else (if a1_2 > a2 then (none) else (some 0))))) else (none))) else (none))
set_option maxRecDepth 100000 in
theorem hard_Step.calls (a0_0 : Int) (a0_1 : Int) (a0_2 : Int) (a1_0 : Int) (a1_1 : Int) (a1_2 : Int) (a2 : Int) (r : Int) (w : World) (h : hard_Step.f a0_0 a0_1 a0_2 a1_0 a1_1 a1_2 a2 = some r) :
 Calls Try.prog 77 #[.agg #[.int .i64 a0_0, .int .i64 a0_1, .int .i64 a0_2], .agg #[.int .i64 a1_0, .int .i64 a1_1, .int .i64 a1_2], .int .i64 a2] w fun e w' => e = .returned (.int .i64 r) ∧ Below w.heap.size w w' := by
 have hu28 := Try.underlying28
 have HB := Am (Below.refl w.heap.size w)
 unfold hard_Step.f at h
 have H := h
 clear h
 obtain ⟨t204, A4, H⟩ := zb H
 obtain ⟨c5, H⟩ := zI H
 obtain ⟨c5b0, c5b1⟩ := zc c5
 clear c5
 obtain ⟨t205, A6, H⟩ := zb H
 obtain ⟨c7, H⟩ := zI H
 obtain ⟨c7b0, c7b1⟩ := zc c7
 clear c7
 obtain ⟨c8, H⟩ := zJ H
 have c8b0 := decide_eq_false c8
 clear c8
 obtain ⟨c9, H⟩ := zJ H
 have c9b0 := decide_eq_false c9
 clear c9
 obtain ⟨c10, H⟩ := zJ H
 obtain ⟨c10b0, c10b1⟩ := zk c10
 obtain ⟨c11, H⟩ := zJ H
 have c11b0 : decide (a2 < a1_2) = false := decide_eq_false c11
 clear c11
 obtain rfl := Option.some.inj H
 go_enter Try.func77, Try.ntmps77
 go_wp2_with (first | ((with_reducible refine zD 3 rfl ?_); refine zE 3 #[.int .i64 a0_0, .int .i64 a0_1, .int .i64 a0_2] 28 ?_; intro Af hg w12 hbox hb; have Aa := Am (hbox); have Ai := zA hg HB; replace HB := zB HB hb; have Ac := Ai; clear hb hbox hg) | ((with_reducible refine zD 4 rfl ?_); refine zE 4 #[.int .i64 a1_0, .int .i64 a1_1, .int .i64 a1_2] 28 ?_; intro Ag hg w13 hbox hb; have Ab := Am (hbox); have Aj := zY1 hg HB Ac.out; replace HB := zX1 HB Ac.out hb; have Ah := Aj; have Ad := Am (zN hg (kL Aa.out)); have Ae := Am (zM hg (kL Aa.out)); replace Aa := kBa Aa hb; clear hb hbox hg; have hnb14 := Ad.out; have hnc14 := Ae.out; obtain ⟨_, _, _⟩ := bc3 Aa.out; obtain ⟨_, _, _⟩ := bf3 Aa.out) | ((with_reducible refine zC 32 rfl ?_); refine zL (some 9) Try.func32 #[.agg #[.int .i64 a0_0, .int .i64 a0_1, .int .i64 a0_2]] ?_; (with_reducible refine (hard_Check.calls a0_0 a0_1 a0_2 t204 _ A4.out).mono ?_); rintro e w16 ⟨rfl, hb⟩; refine ⟨_, rfl, ?_⟩; replace Aa := kBa Aa hb; replace Ab := kBa Ab hb; replace HB := zX2 HB Ac.out Ah.out hb; (try clear hb); obtain ⟨_, _, _⟩ := bc3 Ab.out; obtain ⟨_, _, _⟩ := bf3 Ab.out) | (go_at_call 32; (with_reducible refine (hard_Check.calls a1_0 a1_1 a1_2 t205 _ A6.out).mono ?_); rintro e w18 ⟨rfl, hb⟩; replace Aa := kBa Aa hb; replace Ab := kBa Ab hb; replace HB := zX2 HB Ac.out Ah.out hb; (try clear hb); obtain ⟨_, _, _⟩ := bc3 Ab.out; obtain ⟨_, _, _⟩ := bf3 Ab.out; obtain ⟨_, _, _⟩ := bc3 Aa.out; obtain ⟨_, _, _⟩ := bf3 Aa.out))
 go_ret
 exact ⟨pX, pE2 HB.out Ac.out Ah.out⟩
def raft_Vote.f (k : Nat) (a0_0 : Int) (a0_1 : Int) (l0_2 : List (S52)) (a0_3 : Int) (a0_4 : Int) (a0_5 : Int) (a0_6 : Int) (a1_0 : Int) (a1_1 : Int) (a1_2 : Int) : Option (Int × Int × (List (S52)) × Int × Int × Int × Int × Int) := (raft_Check.f k a0_0 a0_1 l0_2 a0_3 a0_4 a0_5 a0_6).bind fun t209 => (if t209 = 0 then ((raft_Last.f k a0_0 a0_1 l0_2 a0_3 a0_4 a0_5 a0_6).bind fun bt210 => ((hard_Step.f a0_3 a0_4 a0_5 a1_0 a1_1 a1_2 bt210.1).bind fun t212 => (if t212 = 0 then ((raft_owns.f k l0_2).bind fun t213 => (some (a0_0, a0_1, t213, a1_0, a1_1, a1_2, a0_6, 0))) else (none)))) else (none))
theorem raft_Vote.mono : ∀ a0 a1 a2 a3 a4 a5 a6 a7 a8 a9 k, LeO (raft_Vote.f k a0 a1 a2 a3 a4 a5 a6 a7 a8 a9) (raft_Vote.f (k + 1) a0 a1 a2 a3 a4 a5 a6 a7 a8 a9) := by
 intro a0 a1 a2 a3 a4 a5 a6 a7 a8 a9 k
 unfold raft_Vote.f
 repeat' (with_reducible first | exact raft_Check.mono .. | exact raft_Last.mono .. | exact raft_owns.mono .. | exact LeO.refl .. | exact LeO.none .. | refine LeO.ite ?_ ?_ | refine LeO.bind ?_ (fun _ => ?_))
def raft_Vote.T7 : Bool × List (List Nat × List Nat) := (true, [([], []), ([0], [0]), ([1], [1]), ([], []), ([0, 1, 2], []), ([4, 2, 2, 0, 1, 2], [2, 4]), ([0, 1, 2, 3, 4, 5], []), ([6, 3, 5, 0, 1, 2, 3, 4, 5], [3, 6])])
def raft_Vote.B7 : List Nat := [0, 1, 3, 0, 7, 23, 63, 127]
theorem raft_Vote.tab7 : rtab .any (opsOf Try.f63 7) = raft_Vote.T7 := by kernel_rfl
theorem raft_Vote.bits7 : waitsOk raft_Vote.T7.2 raft_Vote.B7 = true := by kernel_rfl
set_option maxRecDepth 100000 in
theorem raft_Vote.calls (k : Nat) (a0_0 : Int) (a0_1 : Int) (A0_2 : Option Addr) (c0_2 : Nat) (l0_2 : List (S52)) (a0_3 : Int) (a0_4 : Int) (a0_5 : Int) (a0_6 : Int) (a1_0 : Int) (a1_1 : Int) (a1_2 : Int) (r1 : Int) (r2 : Int) (r3 : List (S52)) (r4 : Int) (r5 : Int) (r6 : Int) (r7 : Int) (r8 : Int) (w : World) (hr0_2 : Kd.C k52 w A0_2 l0_2.length l0_2) (hc0_2 : l0_2.length ≤ c0_2) (h : raft_Vote.f k a0_0 a0_1 l0_2 a0_3 a0_4 a0_5 a0_6 a1_0 a1_1 a1_2 = some (r1, r2, r3, r4, r5, r6, r7, r8)) :
 Calls Try.prog 63 #[.agg #[.int .i64 a0_0, .int .i64 a0_1, .slice A0_2 l0_2.length c0_2, .int .i64 a0_3, .int .i64 a0_4, .int .i64 a0_5, .int .i64 a0_6], .agg #[.int .i64 a1_0, .int .i64 a1_1, .int .i64 a1_2]] w fun e w' => ∃ v2_ : Value, e = .returned (.tuple #[.agg #[.int .i64 r1, .int .i64 r2, v2_, .int .i64 r4, .int .i64 r5, .int .i64 r6, .int .i64 r7], .int .i64 r8]) ∧ Kd.S k52 52 w' w.heap.size (fun _ => True) v2_ r3 ∧ Below w.heap.size w w' := by
 have hu54 := Try.underlying54
 have hu28 := Try.underlying28
 have As := Am hr0_2
 have At := Am hc0_2
 clear hr0_2 hc0_2
 have HB := Am (Below.refl w.heap.size w)
 unfold raft_Vote.f at h
 have H := h
 clear h
 obtain ⟨t209, A3, H⟩ := zb H
 obtain ⟨c4, H⟩ := zI H
 obtain ⟨c4b0, c4b1⟩ := zc c4
 clear c4
 obtain ⟨⟨t210, t211⟩, A5, H⟩ := zb H
 dsimp only at H
 obtain ⟨t212, A6, H⟩ := zb H
 obtain ⟨c7, H⟩ := zI H
 obtain ⟨c7b0, c7b1⟩ := zc c7
 clear c7
 obtain ⟨t213, A8, H⟩ := zb H
 simp only [Option.some.injEq, Prod.mk.injEq] at H
 obtain ⟨rfl, rfl, rfl, rfl, rfl, rfl, rfl, rfl⟩ := H
 go_enter Try.func63, Try.ntmps63
 try go_wp2_with (first | ((with_reducible refine zD 2 rfl ?_); refine zE 2 #[.int .i64 a0_0, .int .i64 a0_1, .slice A0_2 l0_2.length c0_2, .int .i64 a0_3, .int .i64 a0_4, .int .i64 a0_5, .int .i64 a0_6] 54 ?_; intro Af hg w9 hbox hb; have Aa := Am (hbox); have Ay := zA hg HB; replace HB := zB HB hb; have Ai := Ay; clear hb hbox hg) | ((with_reducible refine zD 3 rfl ?_); refine zE 3 #[.int .i64 a1_0, .int .i64 a1_1, .int .i64 a1_2] 28 ?_; intro Aj hg w10 hbox hb; have Ac := Am (hbox); have Az := zY1 hg HB Ai.out; replace HB := zX1 HB Ai.out hb; have Ak := Az; have Ag := Am (zN hg (kL Aa.out)); have Ab := Am (zM hg (kL Aa.out)); replace Aa := kBa Aa hb; clear hb hbox hg) | ((with_reducible refine zD 4 rfl ?_); refine zE 4 #[.int .i64 0, .int .i64 0, .slice none 0 0, .int .i64 0, .int .i64 0, .int .i64 0, .int .i64 0] 54 ?_; intro Al hg w11 hbox hb; have Ae := Am (hbox); have A0 := zY2 hg HB Ai.out Ak.out; replace HB := zX2 HB Ai.out Ak.out hb; have An := A0; have Ah := Am (zN hg (kL Aa.out)); have Ad := Am (zM hg (kL Aa.out)); replace Aa := kBa Aa hb; have Aq := Am (zN hg (kL Ac.out)); have Ar := Am (zM hg (kL Ac.out)); replace Ac := kBa Ac hb; clear hb hbox hg; have hnb12 := Ag.out; have hnc12 := Ab.out; have hnb13 := Ah.out; have hnc13 := Ad.out; obtain ⟨_, _, _, _, _, _, _⟩ := bc7 Aa.out; obtain ⟨_, _, _, _, _, _, _⟩ := bf7 Aa.out) | ((with_reducible refine zC 37 rfl ?_); refine zL (some 10) Try.func37 #[.agg #[.int .i64 a0_0, .int .i64 a0_1, .slice A0_2 l0_2.length c0_2, .int .i64 a0_3, .int .i64 a0_4, .int .i64 a0_5, .int .i64 a0_6]] ?_; (with_reducible refine (raft_Check.calls k a0_0 a0_1 _ _ l0_2 a0_3 a0_4 a0_5 a0_6 t209 _ ?Ao ?Ap A3.out).mono ?_); (case Ao => exact pC (Kd.C_below As.out HB.out)); (case Ap => exact At.out); rintro e w15 ⟨rfl, hb⟩; refine ⟨_, rfl, ?_⟩; replace Aa := kBa Aa hb; replace Ac := kBa Ac hb; replace Ae := kBa Ae hb; replace HB := zX3 HB Ai.out Ak.out An.out hb; (try clear hb); obtain ⟨_, _, _, _, _, _, _⟩ := bc7 Aa.out; obtain ⟨_, _, _, _, _, _, _⟩ := bf7 Aa.out) | ((with_reducible refine zC 74 rfl ?_); refine zL (some 15) Try.func74 #[.agg #[.int .i64 a0_0, .int .i64 a0_1, .slice A0_2 l0_2.length c0_2, .int .i64 a0_3, .int .i64 a0_4, .int .i64 a0_5, .int .i64 a0_6]] ?_; (with_reducible refine (raft_Last.calls k a0_0 a0_1 _ _ l0_2 a0_3 a0_4 a0_5 a0_6 t210 t211 _ ?Ao ?Ap A5.out).mono ?_); (case Ao => exact pC (Kd.C_below As.out HB.out)); (case Ap => exact At.out); rintro e w17 ⟨rfl, hb⟩; refine ⟨_, rfl, ?_⟩; replace Aa := kBa Aa hb; replace Ac := kBa Ac hb; replace Ae := kBa Ae hb; replace HB := zX3 HB Ai.out Ak.out An.out hb; (try clear hb); obtain ⟨_, _, _, _, _, _, _⟩ := bc7 Aa.out; obtain ⟨_, _, _, _, _, _, _⟩ := bf7 Aa.out; have hnb19 := Aq.out; have hnc19 := Ar.out; obtain ⟨_, _, _⟩ := bc3 Ac.out; obtain ⟨_, _, _⟩ := bf3 Ac.out) | ((with_reducible refine zC 77 rfl ?_); refine zL (some 22) Try.func77 #[.agg #[.int .i64 a0_3, .int .i64 a0_4, .int .i64 a0_5], .agg #[.int .i64 a1_0, .int .i64 a1_1, .int .i64 a1_2], .int .i64 t210] ?_; (with_reducible refine (hard_Step.calls a0_3 a0_4 a0_5 a1_0 a1_1 a1_2 t210 t212 _ A6.out).mono ?_); rintro e w21 ⟨rfl, hb⟩; refine ⟨_, rfl, ?_⟩; replace Aa := kBa Aa hb; replace Ac := kBa Ac hb; replace Ae := kBa Ae hb; replace HB := zX3 HB Ai.out Ak.out An.out hb; (try clear hb)))
 replace Aa := kDa Aa
 replace Ac := kDa Ac
 replace Ae := kDa Ae
 replace HB := bDa HB
 refine start_ (n := 8) (S := fun w' => cG w' Aj 0 (.int .i64 a1_0) ∧ cG w' Aj 1 (.int .i64 a1_1) ∧ cG w' Aj 2 (.int .i64 a1_2)) (ds := []) #[false, false, false, false, false, false, false, false] (by kernel_rfl) rfl rfl ⟨(blk_cell Ac.out 0).trans rfl, (blk_cell Ac.out 1).trans rfl, (blk_cell Ac.out 2).trans rfl⟩ (fun hHeld => ?_); refine with_tabW raft_Vote.tab7 raft_Vote.bits7 (fun HT_ HW_ => ?_)
 generalize w21.drew = w22 at Aa Ac Ae HB hHeld ⊢
 refine pui 0 27 8 1 HT_ ?_
 refine zw 3 (h := ?_)
 refine onei 1 28 8 11 HT_ (fun K hK => ?_)
 have hcl_ : w22.cell? ⟨Af, 2, none⟩ = some (.slice A0_2 l0_2.length c0_2) := (blk_cell Aa.out 2).trans rfl
 refine value_ (w1 := ?_) (v := ?_) (by rfl) rfl ?_ ?_
 rotate_left 2
 ·go_simp
  constructor
  ·rfl
  rfl
 clear hcl_
 refine hK.out _ _ ⟨hHeld.1, hHeld.2.1, hHeld.2.2⟩ (fun hHeld => ?_)
 clear hK K
 refine norm_ (a' := ?_) ?_ ?_
 rotate_left
 ·show Act.put _ (some 28) _ = _
  simp only [Act.put, List.setIfInBounds_toArray, List.set_cons_zero, List.set_cons_succ, i64_w, i32_w]
  rfl
 refine onei 2 29 8 15 HT_ (fun K hK => ?_)
 refine goes_ Try.func76 (by kernel_rfl) rfl #[.slice A0_2 l0_2.length c0_2] (by rfl) rfl rfl pL ?_
 with_reducible refine (raft_owns.calls k _ _ l0_2 t213 _ ?Ao ?Ap A8.out).mono ?_
 (case Ao => exact pC (Kd.C_below As.out HB.out))
 (case Ap => exact At.out)
 rintro e w23 ⟨v214, rfl, ho0, hb⟩
 refine ⟨_, rfl, ?_⟩
 have Au := Am (Kd.S_lower ho0 (below_size (pE3 HB.out Ai.out Ak.out An.out)))
 replace Aa := kBa Aa hb
 replace Ac := kBa Ac hb
 replace Ae := kBa Ae hb
 replace HB := zX3 HB Ai.out Ak.out An.out hb
 (try clear hb)
 (try clear hb2)
 (try clear hk)
 (try clear hi)
 (try clear ho0)
 obtain ⟨Av, Aw, Ax⟩ := Kd.S_slice Au.out
 (first | subst Ax | (injection Ax with f1_ f2_ f3_; have f4_ := f1_.symm; have f5_ := f3_.symm; clear f1_ f2_ f3_; subst f4_; subst f5_))
 refine hK.out _ _ ⟨(blk_cell Ac.out 0).trans rfl, (blk_cell Ac.out 1).trans rfl, (blk_cell Ac.out 2).trans rfl⟩ (fun hHeld => ?_)
 clear hK K
 refine norm_ (a' := ?_) ?_ ?_
 rotate_left
 ·show Act.put _ (some 29) _ = _
  simp only [Act.put, List.setIfInBounds_toArray, List.set_cons_zero, List.set_cons_succ, i64_w, i32_w]
  rfl
 refine pui 4 31 8 31 HT_ ?_
 refine one_ (i := 5) (N := none) (bw 8 63) rfl rfl (one_of HT_.out (by kernel_rfl)) (by decide) (fun K hK => ?_)
 have hs25 : w23.cell? ⟨Af, 2, none⟩ = some (.slice A0_2 l0_2.length c0_2) := (blk_cell Aa.out 2).trans rfl
 have hfs25 := blk_frozen Aa.out 2
 have hns25_1 := Ab.out
 have hns25_2 := Ad.out
 have hms25_1 := Ag.out
 have hms25_2 := Ah.out
 refine skip_ (w1 := ?_) (by rfl) rfl ?_ ?_
 rotate_left
 ·go_simp
  rfl
 refine hK.out _ _ ⟨(cX1 hHeld.1 Ab.out), (cX1 hHeld.2.1 Ab.out), (cX1 hHeld.2.2 Ab.out)⟩ (fun hHeld => ?_)
 clear hK K
 refine pui 6 32 8 127 HT_ ?_
 refine one_ (i := 7) (N := none) (bw 8 255) rfl rfl (one_of HT_.out (by kernel_rfl)) (by decide) (fun K hK => ?_)
 have hs26 : w23.cell? ⟨Af, 3, none⟩ = some (.int .i64 a0_3) := (blk_cell Aa.out 3).trans rfl
 have hfs26 := blk_frozen Aa.out 3
 have hns26_1 := Ab.out
 have hns26_2 := Ad.out
 have hms26_1 := Ag.out
 have hms26_2 := Ah.out
 have hs27 : w23.cell? ⟨Af, 4, none⟩ = some (.int .i64 a0_4) := (blk_cell Aa.out 4).trans rfl
 have hfs27 := blk_frozen Aa.out 4
 have hns27_1 := Ab.out
 have hns27_2 := Ad.out
 have hms27_1 := Ag.out
 have hms27_2 := Ah.out
 have hs28 : w23.cell? ⟨Af, 5, none⟩ = some (.int .i64 a0_5) := (blk_cell Aa.out 5).trans rfl
 have hfs28 := blk_frozen Aa.out 5
 have hns28_1 := Ab.out
 have hns28_2 := Ad.out
 have hms28_1 := Ag.out
 have hms28_2 := Ah.out
 refine skip_ (w1 := ?_) (by rfl) rfl ?_ ?_
 rotate_left
 ·go_simp
  rfl
 refine hK.out _ _ ⟨(cX1 hHeld.1 Ab.out), (cX1 hHeld.2.1 Ab.out), (cX1 hHeld.2.2 Ab.out)⟩ (fun hHeld => ?_)
 clear hK K
 refine done_ (done_of HT_.out (by kernel_rfl)) ?_
 obtain ⟨_, _, _, _, _, _, _⟩ := bc7 Aa.out
 obtain ⟨_, _, _, _, _, _, _⟩ := bf7 Aa.out
 obtain ⟨_, _, _, _, _, _, _⟩ := bc7 Ae.out
 obtain ⟨_, _, _, _, _, _, _⟩ := bf7 Ae.out
 try go_wp2
 refine bodyPost_ret (results_ct rfl _ _ Al 54 #[.int .i64 a0_0, .int .i64 a0_1, .slice Av t213.length Aw, .int .i64 a1_0, .int .i64 a1_1, .int .i64 a1_2, .int .i64 a0_6] (0, 0) _ rfl (kX1 Ae.out Ad.out) Try.underlying54 rfl (by kernel_rfl)) rfl ?_
 exact ⟨_, pX, by (with_reducible repeat (first | apply Kd.S_alloc | apply Kd.S_drewN | apply Kd.S_drew)); have h0_ := Kd.S_types (Kd.S_types Au.out Aa.out (by decide)) Ae.out (by decide); have h1_ := Kd.S_far (p := ⟨Af, 2, none⟩) h0_ (fun _ hk => hk.1.2) (.slice Av t213.length Aw); have h2_ := Kd.S_far (p := ⟨Af, 3, none⟩) h1_ (fun _ hk => hk.1.2) (.int .i64 a1_0); have h3_ := Kd.S_far (p := ⟨Af, 4, none⟩) h2_ (fun _ hk => hk.1.2) (.int .i64 a1_1); have h4_ := Kd.S_far (p := ⟨Af, 5, none⟩) h3_ (fun _ hk => hk.1.2) (.int .i64 a1_2); exact Kd.S_mono (Sf7 (g := Al) (h4_) (fun _ hk => hk.2)) (fun _ hk => trivial), pE3 HB.out Ai.out Ak.out An.out⟩
def raft_Apply.f (k : Nat) (a0_0 : Int) (a0_1 : Int) (l0_2 : List (S52)) (a0_3 : Int) (a0_4 : Int) (a0_5 : Int) (a0_6 : Int) (a1 : Int) : Option (Int × Int × (List (S52)) × Int × Int × Int × Int × (List (S52)) × Int) := (raft_Check.f k a0_0 a0_1 l0_2 a0_3 a0_4 a0_5 a0_6).bind fun t218 => (if t218 = 0 then (if a1 < a0_6 then (none) else (if a1 > a0_5 then (none) else (if 0 ≤ (wrap64 (a0_6 - a0_0)) then (if (wrap64 (a0_6 - a0_0)) ≤ (wrap64 (a1 - a0_0)) then (if (wrap64 (a1 - a0_0)) ≤ (l0_2.length : Int) then ((raft_owns.f k ((l0_2.take ((wrap64 (a1 - a0_0)) : Int).toNat).drop ((wrap64 (a0_6 - a0_0)) : Int).toNat)).bind fun t223 => ((raft_owns.f k l0_2).bind fun t226 => (some (a0_0, a0_1, t226, a0_3, a0_4, a0_5, a1, t223, 0)))) else (none)) else (none)) else (none)))) else (none))
theorem raft_Apply.mono : ∀ a0 a1 a2 a3 a4 a5 a6 a7 k, LeO (raft_Apply.f k a0 a1 a2 a3 a4 a5 a6 a7) (raft_Apply.f (k + 1) a0 a1 a2 a3 a4 a5 a6 a7) := by
 intro a0 a1 a2 a3 a4 a5 a6 a7 k
 unfold raft_Apply.f
 repeat' (with_reducible first | exact raft_Check.mono .. | exact raft_owns.mono .. | exact LeO.refl .. | exact LeO.none .. | refine LeO.ite ?_ ?_ | refine LeO.bind ?_ (fun _ => ?_))
set_option maxRecDepth 100000 in
theorem raft_Apply.calls (k : Nat) (a0_0 : Int) (a0_1 : Int) (A0_2 : Option Addr) (c0_2 : Nat) (l0_2 : List (S52)) (a0_3 : Int) (a0_4 : Int) (a0_5 : Int) (a0_6 : Int) (a1 : Int) (r1 : Int) (r2 : Int) (r3 : List (S52)) (r4 : Int) (r5 : Int) (r6 : Int) (r7 : Int) (r8 : List (S52)) (r9 : Int) (w : World) (hr0_2 : Kd.C k52 w A0_2 l0_2.length l0_2) (hc0_2 : l0_2.length ≤ c0_2) (h : raft_Apply.f k a0_0 a0_1 l0_2 a0_3 a0_4 a0_5 a0_6 a1 = some (r1, r2, r3, r4, r5, r6, r7, r8, r9)) :
 Calls Try.prog 64 #[.agg #[.int .i64 a0_0, .int .i64 a0_1, .slice A0_2 l0_2.length c0_2, .int .i64 a0_3, .int .i64 a0_4, .int .i64 a0_5, .int .i64 a0_6], .int .i64 a1] w fun e w' => ∃ v2_ v7_ : Value, e = .returned (.tuple #[.agg #[.int .i64 r1, .int .i64 r2, v2_, .int .i64 r4, .int .i64 r5, .int .i64 r6, .int .i64 r7], v7_, .int .i64 r9]) ∧ Kd.S k52 52 w' w.heap.size (fun k_ => some k_ ≠ (v7_ : Value).ownBlock) v2_ r3 ∧ Kd.S k52 52 w' w.heap.size (fun k_ => some k_ ≠ (v2_ : Value).ownBlock) v7_ r8 ∧ Below w.heap.size w w' := by
 have hu54 := Try.underlying54
 have Ao := Am hr0_2
 have Ap := Am hc0_2
 clear hr0_2 hc0_2
 have HB := Am (Below.refl w.heap.size w)
 unfold raft_Apply.f at h
 have H := h
 clear h
 obtain ⟨t218, A3, H⟩ := zb H
 obtain ⟨c4, H⟩ := zI H
 obtain ⟨c4b0, c4b1⟩ := zc c4
 clear c4
 obtain ⟨c5, H⟩ := zJ H
 have c5b0 := decide_eq_false c5
 clear c5
 obtain ⟨c6, H⟩ := zJ H
 have c6b0 : decide (a0_5 < a1) = false := decide_eq_false c6
 clear c6
 obtain ⟨ji7, hji7⟩ : ∃ j_ : Int, (wrap64 (a0_6 - a0_0)) = j_ := ⟨_, rfl⟩
 replace H : (if 0 ≤ (ji7) then (if (ji7) ≤ (wrap64 (a1 - a0_0)) then (if (wrap64 (a1 - a0_0)) ≤ (l0_2.length : Int) then ((raft_owns.f k ((l0_2.take ((wrap64 (a1 - a0_0)) : Int).toNat).drop ((ji7) : Int).toNat)).bind fun t223 => ((raft_owns.f k l0_2).bind fun t226 => (some (a0_0, a0_1, t226, a0_3, a0_4, a0_5, a1, t223, 0)))) else (none)) else (none)) else (none)) = some (r1, r2, r3, r4, r5, r6, r7, r8, r9) := by first | (rw [hji7] at H; exact H) | (simp only [hji7] at H ⊢; exact H)
 (try rw [hji7] at A3)
 have hji7w : (IntKind.i64.wrap (a0_6 - a0_0)) = ji7 := (i64_w _).trans hji7
 obtain ⟨c8, H⟩ := zI H
 have c8b0 := eq_true c8
 have c8b1 := decide_eq_true c8
 clear c8
 obtain ⟨c9, H⟩ := zI H
 have c9b0 := eq_true c9
 have c9b1 := decide_eq_true c9
 clear c9
 obtain ⟨c10, H⟩ := zI H
 have c10b0 := eq_true c10
 have c10b1 := decide_eq_true c10
 clear c10
 obtain ⟨y219, hy219⟩ : ∃ y_ : List (S52), y_ = ((l0_2.take ((wrap64 (a1 - a0_0)) : Int).toNat).drop ((ji7) : Int).toNat) := ⟨_, rfl⟩
 replace H : ((raft_owns.f k y219).bind fun t223 => ((raft_owns.f k l0_2).bind fun t226 => (some (a0_0, a0_1, t226, a0_3, a0_4, a0_5, a1, t223, 0)))) = some (r1, r2, r3, r4, r5, r6, r7, r8, r9) := zy hy219 H
 have Ny219 := Am hy219
 clear hy219
 obtain ⟨t223, A11, H⟩ := zb H
 obtain ⟨t226, A12, H⟩ := zb H
 simp only [Option.some.injEq, Prod.mk.injEq] at H
 obtain ⟨rfl, rfl, rfl, rfl, rfl, rfl, rfl, rfl, rfl⟩ := H
 go_enter Try.func64, Try.ntmps64
 go_wp2_with (first | ((with_reducible refine zD 2 rfl ?_); refine zE 2 #[.int .i64 a0_0, .int .i64 a0_1, .slice A0_2 l0_2.length c0_2, .int .i64 a0_3, .int .i64 a0_4, .int .i64 a0_5, .int .i64 a0_6] 54 ?_; intro Ae hg w13 hbox hb; have Aa := Am (hbox); have Aw := zA hg HB; replace HB := zB HB hb; have Ac := Aw; clear hb hbox hg) | ((with_reducible refine zD 4 rfl ?_); refine zE 4 #[.int .i64 0, .int .i64 0, .slice none 0 0, .int .i64 0, .int .i64 0, .int .i64 0, .int .i64 0] 54 ?_; intro Af hg w14 hbox hb; have Ab := Am (hbox); have Ax := zY1 hg HB Ac.out; replace HB := zX1 HB Ac.out hb; have Ag := Ax; have Al := Am (zN hg (kL Aa.out)); have Ah := Am (zM hg (kL Aa.out)); replace Aa := kBa Aa hb; clear hb hbox hg; have hnb15 := Al.out; have hnc15 := Ah.out; obtain ⟨_, _, _, _, _, _, _⟩ := bc7 Aa.out; obtain ⟨_, _, _, _, _, _, _⟩ := bf7 Aa.out) | ((with_reducible refine zC 37 rfl ?_); refine zL (some 10) Try.func37 #[.agg #[.int .i64 a0_0, .int .i64 a0_1, .slice A0_2 l0_2.length c0_2, .int .i64 a0_3, .int .i64 a0_4, .int .i64 a0_5, .int .i64 a0_6]] ?_; (with_reducible refine (raft_Check.calls k a0_0 a0_1 _ _ l0_2 a0_3 a0_4 a0_5 a0_6 t218 _ ?Ai ?Aj A3.out).mono ?_); (case Ai => exact pC (Kd.C_below Ao.out HB.out)); (case Aj => exact Ap.out); rintro e w17 ⟨rfl, hb⟩; refine ⟨_, rfl, ?_⟩; replace Aa := kBa Aa hb; replace Ab := kBa Ab hb; replace HB := zX2 HB Ac.out Ag.out hb; (try clear hb); obtain ⟨_, _, _, _, _, _, _⟩ := bc7 Aa.out; obtain ⟨_, _, _, _, _, _, _⟩ := bf7 Aa.out; have q19 : ((wrap64 (a1 - a0_0)) : Int) ≤ ((l0_2.length : Int) : Int) := of_decide_eq_true pS; obtain ⟨i019, hi019, _, Aq, _⟩ := info_parts info52; have Ad : l0_2.length ≤ c0_2 := Ap.out; have Av : Kd.C k52 _ A0_2 l0_2.length l0_2 := Ao.out; have ql19 : ((ji7) : Int) ≤ ((wrap64 (a1 - a0_0)) : Int) := of_decide_eq_true pS; have q019 : (0 : Int) ≤ ((ji7) : Int) := of_decide_eq_true pS; have Au := cut_mid (P := Try.prog) 26 52 .i64 .i64 Try.underlying26 hi019 10 Aq A0_2 l0_2.length c0_2 (ji7) (wrap64 (a1 - a0_0)) q019 ql19 q19 Ad; have An := Kd.C_mid (lo := ((ji7) : Int).toNat) (hi := ((wrap64 (a1 - a0_0)) : Int).toNat) (c := c0_2) Av (by omega) (by omega) Ad; obtain ⟨A19, hA19⟩ : ∃ AX_, AX_ = (if c0_2 = ((ji7) : Int).toNat then A0_2 else (A0_2 : Option Addr).map (·.add (((ji7) : Int).toNat * 10))) := ⟨_, rfl⟩; obtain ⟨c19, hc19⟩ : ∃ cX_, cX_ = c0_2 - ((ji7) : Int).toNat := ⟨_, rfl⟩; have hy19 : y219.length = ((wrap64 (a1 - a0_0)) : Int).toNat - ((ji7) : Int).toNat := (by rw [Ny219.out, List.length_drop, List.length_take] <;> omega); rw [show ((l0_2).take ((wrap64 (a1 - a0_0)) : Int).toNat).drop ((ji7) : Int).toNat = y219 from Ny219.out.symm] at An; replace An : Kd.C k52 _ A19 y219.length y219 := (by rw [hA19]; exact An); rw [← hy19, ← hA19, ← hc19] at Au; have HR222 := Am An; have HC222 := Am (show y219.length ≤ c19 from by rw [hy19, hc19]; exact Nat.sub_le_sub_right (Nat.le_trans (by omega) Ad) _); clear An Av Ad hi019 Aq hc19; have KY19 := Am hy19; have KA19 := Am hA19; clear hy19 hA19; replace q19 := eq_true q19) | ((with_reducible refine zC 76 rfl ?_); refine zL (some 38) Try.func76 #[.slice A19 y219.length c19] ?_; (with_reducible refine (raft_owns.calls k _ _ y219 t223 _ ?Ai ?Aj A11.out).mono ?_); (case Ai => exact pC (Kd.C_below HR222.out HB.out)); (case Aj => exact HC222.out); rintro e w20 ⟨v224, rfl, ho0, hb⟩; refine ⟨_, rfl, ?_⟩; have Ak := Am (Kd.S_lower ho0 (below_size (pE2 HB.out Ac.out Ag.out))); replace Aa := kBa Aa hb; replace Ab := kBa Ab hb; replace HB := zX2 HB Ac.out Ag.out hb; (try clear hb); (try clear ho0); obtain ⟨_, _, _, _, _, _, _⟩ := bc7 Aa.out; obtain ⟨_, _, _, _, _, _, _⟩ := bf7 Aa.out) | ((with_reducible refine zC 76 rfl ?_); refine zL (some 41) Try.func76 #[.slice A0_2 l0_2.length c0_2] ?_; (with_reducible refine (raft_owns.calls k _ _ l0_2 t226 _ ?Ai ?Aj A12.out).mono ?_); (case Ai => exact pC (Kd.C_below Ao.out HB.out)); (case Aj => exact Ap.out); rintro e w22 ⟨v227, rfl, ho0, hb⟩; refine ⟨_, rfl, ?_⟩; have Ar := Am (Kd.S_lower (Kd.S_new' ho0 (Kd.S_lt (zS Ak.out))) (below_size (pE2 HB.out Ac.out Ag.out))); replace Ak := Am (Kd.S_elder' (zS Ak.out) (Kd.S_base ho0) hb); replace Aa := kBa Aa hb; replace Ab := kBa Ab hb; replace HB := zX2 HB Ac.out Ag.out hb; (try clear hb); (try clear ho0); obtain ⟨As, At, Ay⟩ := Kd.S_slice Ar.out; subst Ay; obtain ⟨_, _, _, _, _, _, _⟩ := bc7 Aa.out; obtain ⟨_, _, _, _, _, _, _⟩ := bf7 Aa.out; obtain ⟨_, _, _, _, _, _, _⟩ := bc7 Ab.out; obtain ⟨_, _, _, _, _, _, _⟩ := bf7 Ab.out))
 refine bodyPost_ret (results_ctt rfl _ _ Af 54 #[.int .i64 a0_0, .int .i64 a0_1, .slice As t226.length At, .int .i64 a0_3, .int .i64 a0_4, .int .i64 a0_5, .int .i64 a1] (0, 0) _ rfl (kX1 Ab.out Ah.out) Try.underlying54 rfl (by kernel_rfl)) rfl ?_
 exact ⟨_, _, by first | rfl | (simp [errW_none, errW_some] <;> rfl) | (simp only [← hji7]; first | rfl | (simp [errW_none, errW_some] <;> rfl)) | (simp [*, errW_none, errW_some] <;> rfl), by (with_reducible repeat (first | apply Kd.S_alloc | apply Kd.S_drewN | apply Kd.S_drew)); have h0_ := Kd.S_types (Kd.S_types Ar.out Aa.out (by decide)) Ab.out (by decide); have h1_ := Kd.S_far (p := ⟨Ae, 2, none⟩) h0_ (fun _ hk => hk.1.2) (.slice As t226.length At); have h2_ := Kd.S_far (p := ⟨Ae, 6, none⟩) h1_ (fun _ hk => hk.1.2) (.int .i64 a1); exact Kd.S_mono (Sf7 (g := Af) (h2_) (fun _ hk => hk.2)) (fun _ hk => hk.1.1.2), by (with_reducible repeat (first | apply Kd.S_alloc | apply Kd.S_drewN | apply Kd.S_drew)); have h0_ := Kd.S_types (Kd.S_types Ak.out Aa.out (by decide)) Ab.out (by decide); have h1_ := Kd.S_far (p := ⟨Ae, 2, none⟩) h0_ (fun _ hk => hk.1.2) (.slice As t226.length At); have h2_ := Kd.S_far (p := ⟨Ae, 6, none⟩) h1_ (fun _ hk => hk.1.2) (.int .i64 a1); exact Kd.S_mono (Sf7 (g := Af) (h2_) (fun _ hk => hk.2)) (fun _ hk => hk.1.1.2), pE2 HB.out Ac.out Ag.out⟩
def wal_do.f (k : Nat) (a0_0 : Int) (a0_1 : Int) (l0_2 : List (S52)) (a0_3 : Int) (a0_4 : Int) (a0_5 : Int) (a0_6 : Int) (a1_0 : Int) (l1_1 : List (S52)) (a1_2 : Int) (a1_3 : Int) (a1_4 : Int) (a1_5 : Int) : Option (Int × Int × (List (S52)) × Int × Int × Int × Int × Int) := if a1_0 = 1 then ((raft_Put.f k a0_0 a0_1 l0_2 a0_3 a0_4 a0_5 a0_6 l1_1).bind fun bt232 => (some (bt232.1, bt232.2.1, bt232.2.2.1, bt232.2.2.2.1, bt232.2.2.2.2.1, bt232.2.2.2.2.2.1, bt232.2.2.2.2.2.2.1, bt232.2.2.2.2.2.2.2))) else (if a1_0 = 2 then ((raft_Vote.f k a0_0 a0_1 l0_2 a0_3 a0_4 a0_5 a0_6 a1_2 a1_3 a1_4).bind fun bt242 => (some (bt242.1, bt242.2.1, bt242.2.2.1, bt242.2.2.2.1, bt242.2.2.2.2.1, bt242.2.2.2.2.2.1, bt242.2.2.2.2.2.2.1, bt242.2.2.2.2.2.2.2))) else ((raft_Apply.f k a0_0 a0_1 l0_2 a0_3 a0_4 a0_5 a0_6 a1_5).bind fun bt252 => (some (bt252.1, bt252.2.1, bt252.2.2.1, bt252.2.2.2.1, bt252.2.2.2.2.1, bt252.2.2.2.2.2.1, bt252.2.2.2.2.2.2.1, bt252.2.2.2.2.2.2.2.2))))
theorem wal_do.mono : ∀ a0 a1 a2 a3 a4 a5 a6 a7 a8 a9 a10 a11 a12 k, LeO (wal_do.f k a0 a1 a2 a3 a4 a5 a6 a7 a8 a9 a10 a11 a12) (wal_do.f (k + 1) a0 a1 a2 a3 a4 a5 a6 a7 a8 a9 a10 a11 a12) := by
 intro a0 a1 a2 a3 a4 a5 a6 a7 a8 a9 a10 a11 a12 k
 unfold wal_do.f
 repeat' (with_reducible first | exact raft_Apply.mono .. | exact raft_Put.mono .. | exact raft_Vote.mono .. | exact LeO.refl .. | exact LeO.none .. | refine LeO.ite ?_ ?_ | refine LeO.bind ?_ (fun _ => ?_))
set_option maxRecDepth 100000 in
theorem wal_do.calls (k : Nat) (a0_0 : Int) (a0_1 : Int) (A0_2 : Option Addr) (c0_2 : Nat) (l0_2 : List (S52)) (a0_3 : Int) (a0_4 : Int) (a0_5 : Int) (a0_6 : Int) (a1_0 : Int) (A1_1 : Option Addr) (c1_1 : Nat) (l1_1 : List (S52)) (a1_2 : Int) (a1_3 : Int) (a1_4 : Int) (a1_5 : Int) (r1 : Int) (r2 : Int) (r3 : List (S52)) (r4 : Int) (r5 : Int) (r6 : Int) (r7 : Int) (r8 : Int) (w : World) (hr0_2 : Kd.C k52 w A0_2 l0_2.length l0_2) (hc0_2 : l0_2.length ≤ c0_2) (hr1_1 : Kd.C k52 w A1_1 l1_1.length l1_1) (hc1_1 : l1_1.length ≤ c1_1) (h : wal_do.f k a0_0 a0_1 l0_2 a0_3 a0_4 a0_5 a0_6 a1_0 l1_1 a1_2 a1_3 a1_4 a1_5 = some (r1, r2, r3, r4, r5, r6, r7, r8)) :
 Calls Try.prog 40 #[.agg #[.int .i64 a0_0, .int .i64 a0_1, .slice A0_2 l0_2.length c0_2, .int .i64 a0_3, .int .i64 a0_4, .int .i64 a0_5, .int .i64 a0_6], .agg #[.int .i64 a1_0, .slice A1_1 l1_1.length c1_1, .int .i64 a1_2, .int .i64 a1_3, .int .i64 a1_4, .int .i64 a1_5]] w fun e w' => ∃ v2_ : Value, e = .returned (.tuple #[.agg #[.int .i64 r1, .int .i64 r2, v2_, .int .i64 r4, .int .i64 r5, .int .i64 r6, .int .i64 r7], .int .i64 r8]) ∧ Kd.N k52 52 w' w.heap.size (fun k_ => (w.heap.size ≤ k_)) v2_ r3 ∧ Below w.heap.size w w' := by
 have hu54 := Try.underlying54
 have hu30 := Try.underlying30
 have hu28 := Try.underlying28
 have Av := Am hr0_2
 have Aw := Am hc0_2
 clear hr0_2 hc0_2
 have A2 := Am hr1_1
 have A3 := Am hc1_1
 clear hr1_1 hc1_1
 have HB := Am (Below.refl w.heap.size w)
 unfold wal_do.f at h
 have H := h
 clear h
 by_cases c3 : a1_0 = 1
 ·rw [if_pos c3] at H
  obtain ⟨c3b0, c3b1⟩ := zc c3
  clear c3
  obtain ⟨⟨t232, t233, t234, t237, t238, t239, t240, t241⟩, A4, H⟩ := zb H
  dsimp only at H
  simp only [Option.some.injEq, Prod.mk.injEq] at H
  obtain ⟨rfl, rfl, rfl, rfl, rfl, rfl, rfl, rfl⟩ := H
  go_enter Try.func40, Try.ntmps40
  go_wp2_with (first | ((with_reducible refine zD 2 rfl ?_); refine zE 2 #[.int .i64 a0_0, .int .i64 a0_1, .slice A0_2 l0_2.length c0_2, .int .i64 a0_3, .int .i64 a0_4, .int .i64 a0_5, .int .i64 a0_6] 54 ?_; intro Ad hg w5 hbox hb; have Aa := Am (hbox); have Aq := zA hg HB; replace HB := zB HB hb; have Ae := Aq; clear hb hbox hg) | ((with_reducible refine zD 3 rfl ?_); refine zE 3 #[.int .i64 a1_0, .slice A1_1 l1_1.length c1_1, .int .i64 a1_2, .int .i64 a1_3, .int .i64 a1_4, .int .i64 a1_5] 30 ?_; intro Ag hg w6 hbox hb; have Ab := Am (hbox); have Ar := zY1 hg HB Ae.out; replace HB := zX1 HB Ae.out hb; have Af := Ar; have Ak := Am (zN hg (kL Aa.out)); have Al := Am (zM hg (kL Aa.out)); replace Aa := kBa Aa hb; clear hb hbox hg) | ((with_reducible refine zD 4 rfl ?_); refine zE 4 #[.int .i64 0, .int .i64 0, .slice none 0 0, .int .i64 0, .int .i64 0, .int .i64 0, .int .i64 0] 54 ?_; intro Ac hg w7 hbox hb; have Ah := Am (hbox); have As := zY2 hg HB Ae.out Af.out; replace HB := zX2 HB Ae.out Af.out hb; have Ai := As; have An := Am (zN hg (kL Aa.out)); have Aj := Am (zM hg (kL Aa.out)); replace Aa := kBa Aa hb; have Ao := Am (zN hg (kL Ab.out)); have Ap := Am (zM hg (kL Ab.out)); replace Ab := kBa Ab hb; clear hb hbox hg; have hnb8 := Al.out; have hnc8 := Ak.out; have hnb9 := Ao.out; have hnc9 := Ap.out; obtain ⟨_, _, _, _, _, _⟩ := bc6 Ab.out; obtain ⟨_, _, _, _, _, _⟩ := bf6 Ab.out; have hnb11 := An.out; have hnc11 := Aj.out; obtain ⟨_, _, _, _, _, _, _⟩ := bc7 Aa.out; obtain ⟨_, _, _, _, _, _, _⟩ := bf7 Aa.out) | ((with_reducible refine zC 62 rfl ?_); refine zL (some 15) Try.func62 #[.agg #[.int .i64 a0_0, .int .i64 a0_1, .slice A0_2 l0_2.length c0_2, .int .i64 a0_3, .int .i64 a0_4, .int .i64 a0_5, .int .i64 a0_6], .slice A1_1 l1_1.length c1_1] ?_; (with_reducible refine (raft_Put.calls k a0_0 a0_1 _ _ l0_2 a0_3 a0_4 a0_5 a0_6 _ _ l1_1 t232 t233 t234 t237 t238 t239 t240 t241 _ ?At ?Au ?A5 ?A6 A4.out).mono ?_); (case At => exact pC (Kd.C_below Av.out HB.out)); (case Au => exact Aw.out); (case A5 => exact pC (Kd.C_below A2.out HB.out)); (case A6 => exact A3.out); rintro e w13 ⟨v235, rfl, ho0, hb⟩; refine ⟨_, rfl, ?_⟩; have Ax := Am (Kd.N_lower (Kd.N_mono (ok' := fun k_ => (w.heap.size ≤ k_) ∧ k_ ≠ Ad ∧ k_ ≠ Ag ∧ k_ ≠ Ac) ho0 (fun k_ hk_ => ⟨(Nat.le_trans (below_size (pE3 HB.out Ae.out Af.out Ai.out)) hk_), (kF Aa.out k_ hk_), (kF Ab.out k_ hk_), (kF Ah.out k_ hk_)⟩)) (below_size (pE3 HB.out Ae.out Af.out Ai.out))); replace Aa := kBa Aa hb; replace Ab := kBa Ab hb; replace Ah := kBa Ah hb; replace HB := zX3 HB Ae.out Af.out Ai.out hb; (try clear hb); (try clear ho0); obtain ⟨_, _, _, _, _, _, _⟩ := bc7 Ah.out; obtain ⟨_, _, _, _, _, _, _⟩ := bf7 Ah.out; obtain ⟨A7, A8, A9⟩ := Kd.N_slice Ax.out; subst A9))
  refine bodyPost_ret (results_ct rfl _ _ Ac 54 #[.int .i64 t232, .int .i64 t233, .slice A7 t234.length A8, .int .i64 t237, .int .i64 t238, .int .i64 t239, .int .i64 t240] (0, 0) _ rfl (kX0 Ah.out) Try.underlying54 rfl (by kernel_rfl)) rfl ?_
  exact ⟨_, pX, by (with_reducible repeat (first | apply Kd.N_alloc | apply Kd.N_drewN | apply Kd.N_drew)); exact Kd.N_mono (Nf7 (g := Ac) (Kd.N_mono Ax.out (fun k_ hk => (⟨hk, hk.2.2.2⟩ : _ ∧ k_ ≠ Ac))) (fun _ hk => hk.2)) (fun _ hk => hk.1.1), pE3 HB.out Ae.out Af.out Ai.out⟩
 rw [if_neg c3] at H
 obtain ⟨c3b0, c3b1⟩ := zk c3
 by_cases c16 : a1_0 = 2
 ·rw [if_pos c16] at H
  obtain ⟨c16b0, c16b1⟩ := zc c16
  clear c16
  obtain ⟨⟨t242, t243, t244, t247, t248, t249, t250, t251⟩, A17, H⟩ := zb H
  dsimp only at H
  simp only [Option.some.injEq, Prod.mk.injEq] at H
  obtain ⟨rfl, rfl, rfl, rfl, rfl, rfl, rfl, rfl⟩ := H
  go_enter Try.func40, Try.ntmps40
  go_wp2_with (first | ((with_reducible refine zD 2 rfl ?_); refine zE 2 #[.int .i64 a0_0, .int .i64 a0_1, .slice A0_2 l0_2.length c0_2, .int .i64 a0_3, .int .i64 a0_4, .int .i64 a0_5, .int .i64 a0_6] 54 ?_; intro Ad hg w18 hbox hb; have Aa := Am (hbox); have Aq := zA hg HB; replace HB := zB HB hb; have Ae := Aq; clear hb hbox hg) | ((with_reducible refine zD 3 rfl ?_); refine zE 3 #[.int .i64 a1_0, .slice A1_1 l1_1.length c1_1, .int .i64 a1_2, .int .i64 a1_3, .int .i64 a1_4, .int .i64 a1_5] 30 ?_; intro Ag hg w19 hbox hb; have Ab := Am (hbox); have Ar := zY1 hg HB Ae.out; replace HB := zX1 HB Ae.out hb; have Af := Ar; have Ak := Am (zN hg (kL Aa.out)); have Al := Am (zM hg (kL Aa.out)); replace Aa := kBa Aa hb; clear hb hbox hg) | ((with_reducible refine zD 4 rfl ?_); refine zE 4 #[.int .i64 0, .int .i64 0, .slice none 0 0, .int .i64 0, .int .i64 0, .int .i64 0, .int .i64 0] 54 ?_; intro Ac hg w20 hbox hb; have Ah := Am (hbox); have As := zY2 hg HB Ae.out Af.out; replace HB := zX2 HB Ae.out Af.out hb; have Ai := As; have An := Am (zN hg (kL Aa.out)); have Aj := Am (zM hg (kL Aa.out)); replace Aa := kBa Aa hb; have Ao := Am (zN hg (kL Ab.out)); have Ap := Am (zM hg (kL Ab.out)); replace Ab := kBa Ab hb; clear hb hbox hg; have hnb21 := Al.out; have hnc21 := Ak.out; have hnb22 := Ao.out; have hnc22 := Ap.out; obtain ⟨_, _, _, _, _, _⟩ := bc6 Ab.out; obtain ⟨_, _, _, _, _, _⟩ := bf6 Ab.out; have hnb24 := An.out; have hnc24 := Aj.out; obtain ⟨_, _, _, _, _, _, _⟩ := bc7 Aa.out; obtain ⟨_, _, _, _, _, _, _⟩ := bf7 Aa.out) | ((with_reducible refine zC 63 rfl ?_); refine zL (some 23) Try.func63 #[.agg #[.int .i64 a0_0, .int .i64 a0_1, .slice A0_2 l0_2.length c0_2, .int .i64 a0_3, .int .i64 a0_4, .int .i64 a0_5, .int .i64 a0_6], .agg #[.int .i64 a1_2, .int .i64 a1_3, .int .i64 a1_4]] ?_; (with_reducible refine (raft_Vote.calls k a0_0 a0_1 _ _ l0_2 a0_3 a0_4 a0_5 a0_6 a1_2 a1_3 a1_4 t242 t243 t244 t247 t248 t249 t250 t251 _ ?At ?Au A17.out).mono ?_); (case At => exact pC (Kd.C_below Av.out HB.out)); (case Au => exact Aw.out); rintro e w26 ⟨v245, rfl, ho0, hb⟩; refine ⟨_, rfl, ?_⟩; have Ay := Am (Kd.N_lower (Kd.N_mono (ok' := fun k_ => (w.heap.size ≤ k_) ∧ k_ ≠ Ad ∧ k_ ≠ Ag ∧ k_ ≠ Ac) (Kd.S_N (Kd.S_bound ho0)) (fun k_ hk_ => ⟨(Nat.le_trans (below_size (pE3 HB.out Ae.out Af.out Ai.out)) hk_.2.1), (kF Aa.out k_ hk_.2.1), (kF Ab.out k_ hk_.2.1), (kF Ah.out k_ hk_.2.1)⟩)) (below_size (pE3 HB.out Ae.out Af.out Ai.out))); replace Aa := kBa Aa hb; replace Ab := kBa Ab hb; replace Ah := kBa Ah hb; replace HB := zX3 HB Ae.out Af.out Ai.out hb; (try clear hb); (try clear ho0); obtain ⟨_, _, _, _, _, _, _⟩ := bc7 Ah.out; obtain ⟨_, _, _, _, _, _, _⟩ := bf7 Ah.out; obtain ⟨Ba, Bb, Bc⟩ := Kd.N_slice Ay.out; subst Bc))
  refine bodyPost_ret (results_ct rfl _ _ Ac 54 #[.int .i64 t242, .int .i64 t243, .slice Ba t244.length Bb, .int .i64 t247, .int .i64 t248, .int .i64 t249, .int .i64 t250] (0, 0) _ rfl (kX0 Ah.out) Try.underlying54 rfl (by kernel_rfl)) rfl ?_
  exact ⟨_, pX, by (with_reducible repeat (first | apply Kd.N_alloc | apply Kd.N_drewN | apply Kd.N_drew)); exact Kd.N_mono (Nf7 (g := Ac) (Kd.N_mono Ay.out (fun k_ hk => (⟨hk, hk.2.2.2⟩ : _ ∧ k_ ≠ Ac))) (fun _ hk => hk.2)) (fun _ hk => hk.1.1), pE3 HB.out Ae.out Af.out Ai.out⟩
 rw [if_neg c16] at H
 obtain ⟨c16b0, c16b1⟩ := zk c16
 obtain ⟨⟨t252, t253, t254, t257, t258, t259, t260, t261, t264⟩, A29, H⟩ := zb H
 dsimp only at H
 simp only [Option.some.injEq, Prod.mk.injEq] at H
 obtain ⟨rfl, rfl, rfl, rfl, rfl, rfl, rfl, rfl⟩ := H
 go_enter Try.func40, Try.ntmps40
 go_wp2_with (first | ((with_reducible refine zD 2 rfl ?_); refine zE 2 #[.int .i64 a0_0, .int .i64 a0_1, .slice A0_2 l0_2.length c0_2, .int .i64 a0_3, .int .i64 a0_4, .int .i64 a0_5, .int .i64 a0_6] 54 ?_; intro Ad hg w30 hbox hb; have Aa := Am (hbox); have Aq := zA hg HB; replace HB := zB HB hb; have Ae := Aq; clear hb hbox hg) | ((with_reducible refine zD 3 rfl ?_); refine zE 3 #[.int .i64 a1_0, .slice A1_1 l1_1.length c1_1, .int .i64 a1_2, .int .i64 a1_3, .int .i64 a1_4, .int .i64 a1_5] 30 ?_; intro Ag hg w31 hbox hb; have Ab := Am (hbox); have Ar := zY1 hg HB Ae.out; replace HB := zX1 HB Ae.out hb; have Af := Ar; have Ak := Am (zN hg (kL Aa.out)); have Al := Am (zM hg (kL Aa.out)); replace Aa := kBa Aa hb; clear hb hbox hg) | ((with_reducible refine zD 4 rfl ?_); refine zE 4 #[.int .i64 0, .int .i64 0, .slice none 0 0, .int .i64 0, .int .i64 0, .int .i64 0, .int .i64 0] 54 ?_; intro Ac hg w32 hbox hb; have Ah := Am (hbox); have As := zY2 hg HB Ae.out Af.out; replace HB := zX2 HB Ae.out Af.out hb; have Ai := As; have An := Am (zN hg (kL Aa.out)); have Aj := Am (zM hg (kL Aa.out)); replace Aa := kBa Aa hb; have Ao := Am (zN hg (kL Ab.out)); have Ap := Am (zM hg (kL Ab.out)); replace Ab := kBa Ab hb; clear hb hbox hg; have hnb33 := Al.out; have hnc33 := Ak.out; have hnb34 := Ao.out; have hnc34 := Ap.out; obtain ⟨_, _, _, _, _, _⟩ := bc6 Ab.out; obtain ⟨_, _, _, _, _, _⟩ := bf6 Ab.out; have hnb36 := An.out; have hnc36 := Aj.out; obtain ⟨_, _, _, _, _, _, _⟩ := bc7 Aa.out; obtain ⟨_, _, _, _, _, _, _⟩ := bf7 Aa.out) | ((with_reducible refine zC 64 rfl ?_); refine zL (some 30) Try.func64 #[.agg #[.int .i64 a0_0, .int .i64 a0_1, .slice A0_2 l0_2.length c0_2, .int .i64 a0_3, .int .i64 a0_4, .int .i64 a0_5, .int .i64 a0_6], .int .i64 a1_5] ?_; (with_reducible refine (raft_Apply.calls k a0_0 a0_1 _ _ l0_2 a0_3 a0_4 a0_5 a0_6 a1_5 t252 t253 t254 t257 t258 t259 t260 t261 t264 _ ?At ?Au A29.out).mono ?_); (case At => exact pC (Kd.C_below Av.out HB.out)); (case Au => exact Aw.out); rintro e w38 ⟨v255, v262, rfl, ho0, ho1, hb⟩; refine ⟨_, rfl, ?_⟩; have Az := Am (Kd.N_lower (Kd.N_mono (ok' := fun k_ => (w.heap.size ≤ k_) ∧ some k_ ≠ (v262 : Value).ownBlock ∧ k_ ≠ Ad ∧ k_ ≠ Ag ∧ k_ ≠ Ac) (Kd.S_N (Kd.S_bound ho0)) (fun k_ hk_ => ⟨(Nat.le_trans (below_size (pE3 HB.out Ae.out Af.out Ai.out)) hk_.2.1), hk_.1, (kF Aa.out k_ hk_.2.1), (kF Ab.out k_ hk_.2.1), (kF Ah.out k_ hk_.2.1)⟩)) (below_size (pE3 HB.out Ae.out Af.out Ai.out))); have HO263 := Am (Kd.N_lower (Kd.N_mono (ok' := fun k_ => (w.heap.size ≤ k_) ∧ some k_ ≠ (v255 : Value).ownBlock ∧ k_ ≠ Ad ∧ k_ ≠ Ag ∧ k_ ≠ Ac) (Kd.S_N (Kd.S_bound ho1)) (fun k_ hk_ => ⟨(Nat.le_trans (below_size (pE3 HB.out Ae.out Af.out Ai.out)) hk_.2.1), hk_.1, (kF Aa.out k_ hk_.2.1), (kF Ab.out k_ hk_.2.1), (kF Ah.out k_ hk_.2.1)⟩)) (below_size (pE3 HB.out Ae.out Af.out Ai.out))); replace Aa := kBa Aa hb; replace Ab := kBa Ab hb; replace Ah := kBa Ah hb; replace HB := zX3 HB Ae.out Af.out Ai.out hb; (try clear hb); (try clear ho0); (try clear ho1); obtain ⟨_, _, _, _, _, _, _⟩ := bc7 Aa.out; obtain ⟨_, _, _, _, _, _, _⟩ := bf7 Aa.out; obtain ⟨A0, A1, Bd⟩ := Kd.N_slice Az.out; subst Bd; obtain ⟨_, _, _, _, _, _, _⟩ := bc7 Ah.out; obtain ⟨_, _, _, _, _, _, _⟩ := bf7 Ah.out))
 refine bodyPost_ret (results_ct rfl _ _ Ac 54 #[.int .i64 t252, .int .i64 t253, .slice A0 t254.length A1, .int .i64 t257, .int .i64 t258, .int .i64 t259, .int .i64 t260] (0, 0) _ rfl (kX1 Ah.out Aj.out) Try.underlying54 rfl (by kernel_rfl)) rfl ?_
 exact ⟨_, pX, by (with_reducible repeat (first | apply Kd.N_alloc | apply Kd.N_drewN | apply Kd.N_drew)); have h0_ := Kd.N_mono (Kd.N_mono Az.out (fun k_ hk => (⟨hk, hk.2.2.1⟩ : _ ∧ k_ ≠ Ad))) (fun k_ hk => (⟨hk, hk.1.2.2.2.2⟩ : _ ∧ k_ ≠ Ac)); have h1_ := Kd.N_far (p := ⟨Ad, 0, none⟩) h0_ (fun _ hk => hk.1.2) (.int .i64 t252); have h2_ := Kd.N_far (p := ⟨Ad, 1, none⟩) h1_ (fun _ hk => hk.1.2) (.int .i64 t253); have h3_ := Kd.N_far (p := ⟨Ad, 2, none⟩) h2_ (fun _ hk => hk.1.2) (.slice A0 t254.length A1); have h4_ := Kd.N_far (p := ⟨Ad, 3, none⟩) h3_ (fun _ hk => hk.1.2) (.int .i64 t257); have h5_ := Kd.N_far (p := ⟨Ad, 4, none⟩) h4_ (fun _ hk => hk.1.2) (.int .i64 t258); have h6_ := Kd.N_far (p := ⟨Ad, 5, none⟩) h5_ (fun _ hk => hk.1.2) (.int .i64 t259); have h7_ := Kd.N_far (p := ⟨Ad, 6, none⟩) h6_ (fun _ hk => hk.1.2) (.int .i64 t260); exact Kd.N_mono (Nf7 (g := Ac) (h7_) (fun _ hk => hk.2)) (fun _ hk => hk.1.1.1), pE3 HB.out Ae.out Af.out Ai.out⟩
def wal_Make.l0 : Nat → List (S30) → List (S30) → Int → Int → Int → Int → List (S52) → Int → Int → Int → Int → Option (Int × Int × (List (S52)) × Int × Int × Int × Int × Int × Int)
 | 0, _, _, _, _, _, _, _, _, _, _, _ => none
 | k + 1, x1, x25, x26, x27, x266000, x266001, x266002, x266003, x266004, x266005, x266006 => if x27 < x26 then (if 0 ≤ x27 then (if x27 < (x25.length : Int) then ((wal_do.f k x266000 x266001 x266002 x266003 x266004 x266005 x266006 ((rd_T30 x25 x27).f0) ((rd_T30 x25 x27).f1) ((rd_T30 x25 x27).f2.f0) ((rd_T30 x25 x27).f2.f1) ((rd_T30 x25 x27).f2.f2) ((rd_T30 x25 x27).f3)).bind fun bt271 => (if bt271.2.2.2.2.2.2.2 = 0 then (wal_Make.l0 k x1 x25 x26 (wrap64 (x27 + 1)) bt271.1 bt271.2.1 bt271.2.2.1 bt271.2.2.2.1 bt271.2.2.2.2.1 bt271.2.2.2.2.2.1 bt271.2.2.2.2.2.2.1) else (none))) else (none)) else (none)) else (some (x266000, x266001, x266002, x266003, x266004, x266005, x266006, (x1.length : Int), 0))
def wal_Make.f (k : Nat) (a0_0 : Int) (a0_1 : Int) (l0_2 : List (S52)) (a0_3 : Int) (a0_4 : Int) (a0_5 : Int) (a0_6 : Int) (l1 : List (S30)) : Option (Int × Int × (List (S52)) × Int × Int × Int × Int × Int × Int) := (raft_Check.f k a0_0 a0_1 l0_2 a0_3 a0_4 a0_5 a0_6).bind fun t267 => (if t267 = 0 then (if (l0_2.length : Int) > 0 then (none) else ((slices_ContainsFunc_api_Rec.f k l1).bind fun t268 => (if t268 = true then (none) else (wal_Make.l0 k l1 l1 (l1.length : Int) 0 a0_0 a0_1 l0_2 a0_3 a0_4 a0_5 a0_6)))) else (none))
theorem wal_Make.mono_l : ∀ k, (∀ y0 y1 y2 y3 y4 y5 y6 y7 y8 y9 y10, LeO (wal_Make.l0 k y0 y1 y2 y3 y4 y5 y6 y7 y8 y9 y10) (wal_Make.l0 (k + 1) y0 y1 y2 y3 y4 y5 y6 y7 y8 y9 y10))
 | 0 => fun _ _ _ _ _ _ _ _ _ _ _ r h => by simp [wal_Make.l0] at h
 | k + 1 => by
  have ih0 := wal_Make.mono_l k
  ·intro y0 y1 y2 y3 y4 y5 y6 y7 y8 y9 y10
   unfold wal_Make.l0
   repeat' (with_reducible first | exact ih0 .. | exact raft_Check.mono .. | exact slices_ContainsFunc_api_Rec.mono .. | exact wal_do.mono .. | exact LeO.refl .. | exact LeO.none .. | refine LeO.ite ?_ ?_ | refine LeO.bind ?_ (fun _ => ?_))
theorem wal_Make.mono : ∀ a0 a1 a2 a3 a4 a5 a6 a7 k, LeO (wal_Make.f k a0 a1 a2 a3 a4 a5 a6 a7) (wal_Make.f (k + 1) a0 a1 a2 a3 a4 a5 a6 a7) := by
 intro a0 a1 a2 a3 a4 a5 a6 a7 k
 have ih0 := wal_Make.mono_l k
 unfold wal_Make.f
 repeat' (with_reducible first | exact ih0 .. | exact raft_Check.mono .. | exact slices_ContainsFunc_api_Rec.mono .. | exact wal_do.mono .. | exact LeO.refl .. | exact LeO.none .. | refine LeO.ite ?_ ?_ | refine LeO.bind ?_ (fun _ => ?_))
set_option maxRecDepth 100000 in
theorem wal_Make.calls (k : Nat) (a0_0 : Int) (a0_1 : Int) (P0_2_ : Nat → Prop) (A0_2 : Option Addr) (c0_2 : Nat) (l0_2 : List (S52)) (a0_3 : Int) (a0_4 : Int) (a0_5 : Int) (a0_6 : Int) (A1 : Option Addr) (c1 : Nat) (l1 : List (S30)) (r1 : Int) (r2 : Int) (r3 : List (S52)) (r4 : Int) (r5 : Int) (r6 : Int) (r7 : Int) (r8 : Int) (r9 : Int) (w : World) (hs0_2 : Kd.V k52 52 w w.heap.size (fun k_ => P0_2_ k_) (.slice A0_2 l0_2.length c0_2) l0_2) (hr1 : Kd.C k30 w A1 l1.length l1) (hc1 : l1.length ≤ c1) (h : wal_Make.f k a0_0 a0_1 l0_2 a0_3 a0_4 a0_5 a0_6 l1 = some (r1, r2, r3, r4, r5, r6, r7, r8, r9)) :
 Calls Try.prog 16 #[.agg #[.int .i64 a0_0, .int .i64 a0_1, .slice A0_2 l0_2.length c0_2, .int .i64 a0_3, .int .i64 a0_4, .int .i64 a0_5, .int .i64 a0_6], .slice A1 l1.length c1] w fun e w' => ∃ v2_ : Value, e = .returned (.tuple #[.agg #[.int .i64 r1, .int .i64 r2, v2_, .int .i64 r4, .int .i64 r5, .int .i64 r6, .int .i64 r7], .int .i64 r8, .int .i64 r9]) ∧ Kd.V k52 52 w' w.heap.size (fun k_ => (P0_2_ k_ ∨ w.heap.size ≤ k_)) v2_ r3 ∧ Below w.heap.size w w' := by
 have hu54 := Try.underlying54
 have hu30 := Try.underlying30
 have HO0_2 := Am (show Kd.V k52 52 w w.heap.size (fun k_ => (P0_2_ k_ ∨ w.heap.size ≤ k_)) (.slice A0_2 l0_2.length c0_2) l0_2 from Kd.V_mono hs0_2 (fun k_ hk => .inl hk))
 have HR1 := Am hr1
 have HC1 := Am hc1
 clear hr1 hc1
 have HB := Am (Below.refl w.heap.size w)
 unfold wal_Make.f at h
 have H := h
 clear h
 obtain ⟨t267, A3, H⟩ := zb H
 obtain ⟨c4, H⟩ := zI H
 obtain ⟨c4b0, c4b1⟩ := zc c4
 clear c4
 obtain ⟨c5, H⟩ := zJ H
 have c5b0 : decide (0 < (l0_2.length : Int)) = false := decide_eq_false c5
 have c5b1 : decide (0 < l0_2.length) = false := decide_eq_false (by omega)
 clear c5
 obtain ⟨t268, A6, H⟩ := zb H
 by_cases c7 : t268 = true
 ·subst c7
  rw [if_pos rfl] at H
  exact absurd H (by simp)
 replace c7 := Bool.eq_false_iff.mpr c7
 subst c7
 rw [if_neg zF] at H
 have H' := Am H
 clear H
 go_enter Try.func16, Try.ntmps16
 go_wp2_with (first | ((with_reducible refine zD 2 rfl ?_); (try (refine gate_guard (by rfl) ?_; dsimp only)); refine zE 2 #[.int .i64 a0_0, .int .i64 a0_1, .slice A0_2 l0_2.length c0_2, .int .i64 a0_3, .int .i64 a0_4, .int .i64 a0_5, .int .i64 a0_6] 54 ?_; intro Ao hg w8 hbox hb; replace HO0_2 := Am (Kd.V_below (Kd.V_elderB (pV HO0_2.out) Ao (Nat.le_of_eq hg.symm)) hb); have Ab := Am (hbox); have Ck := zA hg HB; replace HB := zB HB hb; have Aq := Ck; clear hb hbox hg) | ((with_reducible refine zD 4 rfl ?_); (try (refine gate_guard (by rfl) ?_; dsimp only)); refine zE 4 #[.int .i64 0, .int .i64 0, .slice none 0 0, .int .i64 0, .int .i64 0, .int .i64 0, .int .i64 0] 54 ?_; intro Al hg w9 hbox hb; replace HO0_2 := Am (Kd.V_below (Kd.V_elderB (pV HO0_2.out) Al (Nat.le_of_eq hg.symm)) hb); have Ad := Am (hbox); have Cl := zY1 hg HB Aq.out; replace HB := zX1 HB Aq.out hb; have Ar := Cl; have A0 := Am (zN hg (kL Ab.out)); have As := Am (zM hg (kL Ab.out)); replace Ab := kBa Ab hb; clear hb hbox hg; have hnb10 := A0.out; have hnc10 := As.out; obtain ⟨Bl, Bm, Bn, Bo, Bp, Bq, Br⟩ := bc7 Ab.out; obtain ⟨Bs, Bt, Bu, Bv, Bw, Bx, By⟩ := bf7 Ab.out) | ((with_reducible refine zC 37 rfl ?_); refine zL (some 12) Try.func37 #[.agg #[.int .i64 a0_0, .int .i64 a0_1, .slice A0_2 l0_2.length c0_2, .int .i64 a0_3, .int .i64 a0_4, .int .i64 a0_5, .int .i64 a0_6]] ?_; (with_reducible refine (raft_Check.calls k a0_0 a0_1 _ _ l0_2 a0_3 a0_4 a0_5 a0_6 t267 _ ?A9 ?Ba A3.out).mono ?_); (case A9 => exact pC (Kd.V_reads' HO0_2.out).2.2); (case Ba => exact (Kd.V_reads' HO0_2.out).2.1); rintro e w12 ⟨rfl, hb⟩; refine ⟨_, rfl, ?_⟩; replace HO0_2 := bVa HO0_2 hb; replace Ab := kBa Ab hb; replace Ad := kBa Ad hb; replace HB := zX2 HB Aq.out Ar.out hb; (try clear hb); obtain ⟨Bz, B0, B1, B2, B3, B4, B5⟩ := bc7 Ab.out; obtain ⟨B6, B7, B8, B9, Ca, Cb, Cc⟩ := bf7 Ab.out) | (go_at_call 38; (with_reducible refine (slices_ContainsFunc_api_Rec.calls k _ _ l1 false _ ?A9 ?Ba A6.out).mono ?_); (case A9 => exact pC (Kd.C_below HR1.out HB.out)); (case Ba => exact HC1.out); rintro e w14 ⟨rfl, hb⟩; replace HO0_2 := bVa HO0_2 hb; replace Ab := kBa Ab hb; replace Ad := kBa Ad hb; replace HB := zX2 HB Aq.out Ar.out hb; (try clear hb)))
 go_loopg [27] k (fun kq v27 w' => ∃ (Aa : Int) (Af : Int) (Ag : Int) (Ae : List (S52)) (Ah : Int) (Ai : Int) (Aj : Int) (Ak : Int) (At : Int) (Au : Int) (Av : Int) (Aw : Int) (Ax : Int) (Ay : Int) (u266002 : Value), v27 = .int .i64 Aa ∧ Aside0 (wal_Make.l0 kq l1 l1 (l1.length : Int) Aa Af Ag Ae Ah Ai Aj Ak = some (r1, r2, r3, r4, r5, r6, r7, r8, r9)) ∧ Aside0 (kq ≤ k) ∧ Aside0 (Kd.V k52 52 w' w.heap.size (fun k_ => (P0_2_ k_ ∨ w.heap.size ≤ k_) ∧ k_ ≠ Ao ∧ k_ ≠ Al) u266002 Ae) ∧ Aside0 (w'.heap[Ao]? = some (.cells #[.int .i64 Af, .int .i64 Ag, u266002, .int .i64 Ah, .int .i64 Ai, .int .i64 Aj, .int .i64 Ak] 54 (0, 0))) ∧ Aside0 (w'.heap[Al]? = some (.cells #[.int .i64 At, .int .i64 Au, (.slice none 0 0), .int .i64 Av, .int .i64 Aw, .int .i64 Ax, .int .i64 Ay] 54 (0, 0))) ∧ Aside0 (Below w.heap.size w w'))
 case atStart => exact ⟨(0), (a0_0), (a0_1), (l0_2), (a0_3), (a0_4), (a0_5), (a0_6), (0), (0), (0), (0), (0), (0), (.slice A0_2 l0_2.length c0_2), zr, H', ⟨Nat.le_refl _⟩, ⟨by (with_reducible repeat (first | apply Kd.V_alloc | apply Kd.V_drewN | apply Kd.V_drew)); exact Kd.V_mono HO0_2.out (fun _ hk => ⟨hk.1.1, ⟨hk.1.2, hk.2⟩⟩)⟩, ⟨pK Ab.out⟩, ⟨pK Ad.out⟩, ⟨pE2 HB.out Aq.out Ar.out⟩⟩
 case round =>
  clear H'
  try clear c1
  try clear p2
  try clear c3
  try clear c4
  try clear c4b0
  try clear c4b1
  try clear c5
  try clear c5b0
  try clear c5b1
  try clear c7
  try clear c10
  try clear Bl Bm Bn Bo Bp Bq Br
  try clear Bz B0 B1 B2 B3 B4 B5
  try clear Bs Bt Bu Bv Bw Bx By
  try clear B6 B7 B8 B9 Ca Cb Cc
  obtain ⟨Aa, Af, Ag, Ae, Ah, Ai, Aj, Ak, At, Au, Av, Aw, Ax, Ay, u266002, rfl, HA, HK1, Ac, Ab, Ad, HB⟩ := hrel
  cases gk with
  | zero => exact absurd HA.out (by simp [wal_Make.l0])
  | succ k1 =>
   have H := HA.out
   clear HA
   simp only [wal_Make.l0] at H
   by_cases c15 : Aa < (l1.length : Int)
   rotate_left
   ·rw [if_neg c15] at H
    have c15b0 := decide_eq_false c15
    clear c15
    simp only [Option.some.injEq, Prod.mk.injEq] at H
    obtain ⟨rfl, rfl, rfl, rfl, rfl, rfl, rfl, rfl, rfl⟩ := H
    have hnb35 := A0.out
    have hnc35 := As.out
    obtain ⟨_, _, _, _, _, _, _⟩ := bc7 Ab.out
    obtain ⟨_, _, _, _, _, _, _⟩ := bf7 Ab.out
    obtain ⟨_, _, _, _, _, _, _⟩ := bc7 Ad.out
    obtain ⟨_, _, _, _, _, _, _⟩ := bf7 Ad.out
    obtain ⟨Ct, Cu, Cv⟩ := Kd.V_slice Ac.out
    subst Cv
    go_wp2
    refine bodyPost_ret (results_ctt rfl _ _ Al 54 #[.int .i64 Af, .int .i64 Ag, .slice Ct Ae.length Cu, .int .i64 Ah, .int .i64 Ai, .int .i64 Aj, .int .i64 Ak] (0, 0) _ rfl (kX0 Ad.out) Try.underlying54 rfl (by kernel_rfl)) rfl ?_
    exact ⟨_, pX, by (with_reducible repeat (first | apply Kd.V_alloc | apply Kd.V_drewN | apply Kd.V_drew)); exact Kd.V_mono (Vf7 (g := Al) (Kd.V_mono Ac.out (fun k_ hk => (⟨hk, hk.2.2⟩ : _ ∧ k_ ≠ Al))) (fun _ hk => hk.2)) (fun _ hk => hk.1.1), pE2 HB.out Aq.out Ar.out⟩
   rw [if_pos c15] at H
   have c15b0 := decide_eq_true c15
   clear c15
   obtain ⟨c16, H⟩ := zI H
   have c16b0 := decide_eq_true c16
   clear c16
   obtain ⟨c17, H⟩ := zI H
   have c17b0 := decide_eq_true c17
   clear c17
   obtain ⟨⟨t271, t272, t273, t276, t277, t278, t279, t280⟩, A18, H⟩ := zb H
   dsimp only at H
   obtain ⟨c19, H⟩ := zI H
   obtain ⟨c19b0, c19b1⟩ := zc c19
   clear c19
   have H' := Am H
   clear H
   have p269 : 0 ≤ (Aa : Int) := of_decide_eq_true pS
   have q269 : Aa < (l1.length : Int) := of_decide_eq_true pS
   obtain ⟨ad269, Bk, c269_1, e269, hx269_0, hx269_1, hx269_2, hx269_3, hx269_4, hx269_5, Bc, Bd⟩ := at_T30u HR1.out Aa p269 q269 HB.out
   cases e269
   have Cd := Am Bd
   have Ce := Am Bc
   clear Bd Bc
   replace p269 := eq_true p269
   replace q269 := eq_true q269
   go_wp2_with (first | ((with_reducible refine zD 8 rfl ?_); (try (refine gate_guard (by rfl) ?_; dsimp only)); refine zE 8 #[.int .i64 0, .slice none 0 0, .int .i64 0, .int .i64 0, .int .i64 0, .int .i64 0] 30 ?_; intro Ap hg w20 hbox hb; replace Ac := Am (Kd.V_below (Kd.V_elderB (pV Ac.out) Ap (Nat.le_of_eq hg.symm)) hb); have Az := Am (hbox); have Cm := zY2 hg HB Aq.out Ar.out; replace HB := zX2 HB Aq.out Ar.out hb; have A5 := Cm; have A2 := Am (zN hg (kL Ab.out)); have Be := Am (zM hg (kL Ab.out)); replace Ab := kBa Ab hb; have A4 := Am (zN hg (kL Ad.out)); have Bf := Am (zM hg (kL Ad.out)); replace Ad := kBa Ad hb; clear hb hbox hg; have hnb21 := Be.out; have hnc21 := A2.out; have hnb22 := Bf.out; have hnc22 := A4.out; obtain ⟨_, _, _, _, _, _⟩ := bc6 Az.out; obtain ⟨_, _, _, _, _, _⟩ := bf6 Az.out; have hnb24 := A0.out; have hnc24 := As.out; obtain ⟨_, _, _, _, _, _, _⟩ := bc7 Ab.out; obtain ⟨_, _, _, _, _, _, _⟩ := bf7 Ab.out; obtain ⟨Ch, Cg, Cr⟩ := Kd.V_slice Ac.out; subst Cr) | ((with_reducible refine zC 40 rfl ?_); refine zL (some 35) Try.func40 #[.agg #[.int .i64 Af, .int .i64 Ag, .slice Ch Ae.length Cg, .int .i64 Ah, .int .i64 Ai, .int .i64 Aj, .int .i64 Ak], .agg #[.int .i64 ((rd_T30 l1 Aa).f0), .slice Bk ((rd_T30 l1 Aa).f1).length c269_1, .int .i64 ((rd_T30 l1 Aa).f2.f0), .int .i64 ((rd_T30 l1 Aa).f2.f1), .int .i64 ((rd_T30 l1 Aa).f2.f2), .int .i64 ((rd_T30 l1 Aa).f3)]] ?_; (with_reducible refine (wal_do.calls k1 Af Ag _ _ Ae Ah Ai Aj Ak ((rd_T30 l1 Aa).f0) _ _ ((rd_T30 l1 Aa).f1) ((rd_T30 l1 Aa).f2.f0) ((rd_T30 l1 Aa).f2.f1) ((rd_T30 l1 Aa).f2.f2) ((rd_T30 l1 Aa).f3) t271 t272 t273 t276 t277 t278 t279 t280 _ ?A9 ?Ba ?Cn ?Co A18.out).mono ?_); (case A9 => refine (Kd.V_reads' (e := 52) (base := w.heap.size) (ok := fun k_ => (((P0_2_ k_ ∨ w.heap.size ≤ k_) ∧ (k_ ≠ Ao ∧ k_ ≠ Al)) ∧ k_ ≠ Ap)) (n := Ae.length) (c := Cg) ?_).2.2; exact (by (with_reducible repeat (first | apply Kd.V_alloc | apply Kd.V_drewN | apply Kd.V_drew)); exact (Kd.V_mono (Vf6 (g := Ap) (Kd.V_mono Ac.out (fun k_ hk => (⟨hk, hk.2⟩ : _ ∧ k_ ≠ Ap))) (fun _ hk => hk.2)) (fun _ h_ => h_.1)))); (case Ba => exact (Kd.V_reads' Ac.out).2.1); (case Cn => exact Kd.C_below Cd.out (pE3 HB.out Aq.out Ar.out A5.out)); (case Co => exact Ce.out); rintro e w27 ⟨v274, rfl, ho0, hb⟩; refine ⟨_, rfl, ?_⟩; replace Ac := Am (Kd.V_elder' (by (with_reducible repeat (first | apply Kd.V_alloc | apply Kd.V_drewN | apply Kd.V_drew)); exact (Kd.V_mono (Vf6 (g := Ap) (Kd.V_mono Ac.out (fun k_ hk => (⟨hk, hk.2⟩ : _ ∧ k_ ≠ Ap))) (fun _ hk => hk.2)) (fun _ h_ => h_.1))) (Kd.N_base ho0) hb); have Bb := Am (Kd.N_lower (Kd.N_mono (ok' := fun k_ => (P0_2_ k_ ∨ w.heap.size ≤ k_) ∧ k_ ≠ Ao ∧ k_ ≠ Al ∧ k_ ≠ Ap) ho0 (fun k_ hk_ => ⟨(.inr (Nat.le_trans (below_size (pE3 HB.out Aq.out Ar.out A5.out)) hk_)), (Kd.freshB (g := Ao) (o := .cells #[.int .i64 Af, .int .i64 Ag, .slice Ch Ae.length Cg, .int .i64 Ah, .int .i64 Ai, .int .i64 Aj, .int .i64 Ak] 54 (0, 0)) (kX1 Ab.out A2.out) k_ hk_), (Kd.freshB (g := Al) (o := .cells #[.int .i64 At, .int .i64 Au, .slice none 0 0, .int .i64 Av, .int .i64 Aw, .int .i64 Ax, .int .i64 Ay] 54 (0, 0)) (kX1 Ad.out A4.out) k_ hk_), (Kd.freshB (g := Ap) (o := .cells #[.int .i64 ((rd_T30 l1 Aa).f0), .slice Bk ((rd_T30 l1 Aa).f1).length c269_1, .int .i64 ((rd_T30 l1 Aa).f2.f0), .int .i64 ((rd_T30 l1 Aa).f2.f1), .int .i64 ((rd_T30 l1 Aa).f2.f2), .int .i64 ((rd_T30 l1 Aa).f3)] 30 (0, 0)) (kX0 Az.out) k_ hk_)⟩)) (below_size (pE3 HB.out Aq.out Ar.out A5.out))); replace Ab := Am (blk_below (g := Ao) (kX1 Ab.out A2.out) hb); replace Ad := Am (blk_below (g := Al) (kX1 Ad.out A4.out) hb); replace Az := Am (blk_below (g := Ap) (kX0 Az.out) hb); replace HB := zX3 HB Aq.out Ar.out A5.out hb; (try clear hb); (try clear hk); (try clear ho0)) | ((with_reducible refine zD 9 rfl ?_); (try (refine gate_guard (by rfl) ?_; dsimp only)); refine zE 9 #[.int .i64 0, .int .i64 0, .slice none 0 0, .int .i64 0, .int .i64 0, .int .i64 0, .int .i64 0] 54 ?_; intro An hg w28 hbox hb; replace Ac := Am (Kd.V_below (Kd.V_elderB (pV Ac.out) An (Nat.le_of_eq hg.symm)) hb); replace Bb := Am (Kd.N_below (Kd.N_elderB (pN Bb.out) An (Nat.le_of_eq hg.symm)) hb); have Cf := Am (hbox); have Cp := zY3 hg HB Aq.out Ar.out A5.out; replace HB := zX3 HB Aq.out Ar.out A5.out hb; have Cq := Cp; have A7 := Am (zN hg (kL Ab.out)); have Bg := Am (zM hg (kL Ab.out)); replace Ab := kBa Ab hb; have A8 := Am (zN hg (kL Ad.out)); have Bh := Am (zM hg (kL Ad.out)); replace Ad := kBa Ad hb; have Bi := Am (zN hg (kL Az.out)); have Bj := Am (zM hg (kL Az.out)); replace Az := kBa Az hb; clear hb hbox hg; have hnb29 := Bg.out; have hnc29 := A7.out; have hnb30 := Bh.out; have hnc30 := A8.out; have hnb31 := Bj.out; have hnc31 := Bi.out; obtain ⟨_, _, _, _, _, _, _⟩ := bc7 Cf.out; obtain ⟨_, _, _, _, _, _, _⟩ := bf7 Cf.out; obtain ⟨Ci, Cj, Cs⟩ := Kd.N_slice Bb.out; subst Cs; obtain ⟨_, _, _, _, _, _, _⟩ := bc7 Ab.out; obtain ⟨_, _, _, _, _, _, _⟩ := bf7 Ab.out))
   go_roundg k1
   case measure => have := HK1.out; omega
   case rel => exact ⟨(wrap64 (Aa + 1)), (t271), (t272), (t273), (t276), (t277), (t278), (t279), (At), (Au), (Av), (Aw), (Ax), (Ay), (.slice Ci t273.length Cj), zr, H', ⟨by have := HK1.out; omega⟩, ⟨Kd.N_V (by (with_reducible repeat (first | apply Kd.N_alloc | apply Kd.N_drewN | apply Kd.N_drew)); have h0_ := Kd.N_mono (Kd.N_mono Bb.out (fun k_ hk => (⟨hk, hk.2⟩ : _ ∧ k_ ≠ An))) (fun k_ hk => (⟨hk, hk.1.1.2.1⟩ : _ ∧ k_ ≠ Ao)); have h1_ := Kd.N_far (p := ⟨An, 0, none⟩) h0_ (fun _ hk => hk.1.2) (.int .i64 t271); have h2_ := Kd.N_far (p := ⟨An, 1, none⟩) h1_ (fun _ hk => hk.1.2) (.int .i64 t272); have h3_ := Kd.N_far (p := ⟨An, 2, none⟩) h2_ (fun _ hk => hk.1.2) (.slice Ci t273.length Cj); have h4_ := Kd.N_far (p := ⟨An, 3, none⟩) h3_ (fun _ hk => hk.1.2) (.int .i64 t276); have h5_ := Kd.N_far (p := ⟨An, 4, none⟩) h4_ (fun _ hk => hk.1.2) (.int .i64 t277); have h6_ := Kd.N_far (p := ⟨An, 5, none⟩) h5_ (fun _ hk => hk.1.2) (.int .i64 t278); have h7_ := Kd.N_far (p := ⟨An, 6, none⟩) h6_ (fun _ hk => hk.1.2) (.int .i64 t279); exact Kd.N_mono (Nf7 (g := Ao) (h7_) (fun _ hk => hk.2)) (fun _ hk => ⟨hk.1.1.1.1, ⟨hk.1.1.1.2.1, hk.1.1.1.2.2.1⟩⟩))⟩, ⟨kX1 Ab.out A7.out⟩, ⟨kX2 Ad.out As.out A8.out⟩, ⟨pE4 HB.out Aq.out Ar.out A5.out Cq.out⟩⟩
def garnerlaw24_awake.f (k : Nat)  : Option (Bool) := (wal_Make.f k 0 0 ([] : List (S52)) 0 0 0 0 (([(⟨1, (([(⟨1, 1, 1, (⟨#[97]⟩ : ByteArray), (⟨false, ([] : List Int), (⟨0, 0, 0, 0⟩ : S48)⟩ : S50)⟩ : S52), (⟨2, 1, 2, (⟨#[97]⟩ : ByteArray), (⟨false, ([] : List Int), (⟨0, 0, 0, 0⟩ : S48)⟩ : S50)⟩ : S52)] : List (S52))), (⟨0, 0, 0⟩ : S28), 0⟩ : S30), (⟨2, ([] : List (S52)), (⟨1, 0, 1⟩ : S28), 0⟩ : S30), (⟨3, ([] : List (S52)), (⟨0, 0, 0⟩ : S28), 1⟩ : S30)] : List (S30)))).bind fun bt288 => (if bt288.2.2.2.2.2.2.2.2 = 0 then (if bt288.2.2.2.2.2.2.2.1 = 3 then (if (bt288.2.2.1.length : Int) = 2 then (if bt288.2.2.2.2.2.1 = 1 then (some (bt288.2.2.2.2.2.2.1 == 1)) else (none)) else (none)) else (none)) else (none))
theorem garnerlaw24_awake.mono : ∀ k, LeO (garnerlaw24_awake.f k ) (garnerlaw24_awake.f (k + 1) ) := by
 intro  k
 unfold garnerlaw24_awake.f
 repeat' (with_reducible first | exact wal_Make.mono .. | exact LeO.refl .. | exact LeO.none .. | refine LeO.ite ?_ ?_ | refine LeO.bind ?_ (fun _ => ?_))
set_option maxRecDepth 100000 in
theorem garnerlaw24_awake.calls (k : Nat)  (r : Bool) (w : World) (h : garnerlaw24_awake.f k  = some r) :
 Calls Try.prog 5 #[] w fun e w' => e = .returned (.bool r) ∧ Below w.heap.size w w' := by
 have hu52 := Try.underlying52
 have hu54 := Try.underlying54
 have hu30 := Try.underlying30
 have hu28 := Try.underlying28
 have HB := Am (Below.refl w.heap.size w)
 unfold garnerlaw24_awake.f at h
 have H := h
 clear h
 obtain ⟨y282, hy282⟩ : ∃ y_ : List (S52), y_ = (([(⟨1, 1, 1, (⟨#[97]⟩ : ByteArray), (⟨false, ([] : List Int), (⟨0, 0, 0, 0⟩ : S48)⟩ : S50)⟩ : S52), (⟨2, 1, 2, (⟨#[97]⟩ : ByteArray), (⟨false, ([] : List Int), (⟨0, 0, 0, 0⟩ : S48)⟩ : S50)⟩ : S52)] : List (S52))) := ⟨_, rfl⟩
 replace H : ((wal_Make.f k 0 0 ([] : List (S52)) 0 0 0 0 (([(⟨1, y282, (⟨0, 0, 0⟩ : S28), 0⟩ : S30), (⟨2, ([] : List (S52)), (⟨1, 0, 1⟩ : S28), 0⟩ : S30), (⟨3, ([] : List (S52)), (⟨0, 0, 0⟩ : S28), 1⟩ : S30)] : List (S30)))).bind fun bt288 => (if bt288.2.2.2.2.2.2.2.2 = 0 then (if bt288.2.2.2.2.2.2.2.1 = 3 then (if (bt288.2.2.1.length : Int) = 2 then (if bt288.2.2.2.2.2.1 = 1 then (some (bt288.2.2.2.2.2.2.1 == 1)) else (none)) else (none)) else (none)) else (none))) = some r := zy hy282 H
 have Ny282 := Am hy282
 clear hy282
 obtain ⟨y285, hy285⟩ : ∃ y_ : List (S30), y_ = (([(⟨1, y282, (⟨0, 0, 0⟩ : S28), 0⟩ : S30), (⟨2, ([] : List (S52)), (⟨1, 0, 1⟩ : S28), 0⟩ : S30), (⟨3, ([] : List (S52)), (⟨0, 0, 0⟩ : S28), 1⟩ : S30)] : List (S30))) := ⟨_, rfl⟩
 replace H : ((wal_Make.f k 0 0 ([] : List (S52)) 0 0 0 0 y285).bind fun bt288 => (if bt288.2.2.2.2.2.2.2.2 = 0 then (if bt288.2.2.2.2.2.2.2.1 = 3 then (if (bt288.2.2.1.length : Int) = 2 then (if bt288.2.2.2.2.2.1 = 1 then (some (bt288.2.2.2.2.2.2.1 == 1)) else (none)) else (none)) else (none)) else (none))) = some r := zy hy285 H
 have Ny285 := Am hy285
 clear hy285
 obtain ⟨⟨t288, t289, t290, t293, t294, t295, t296, t297, t298⟩, A1, H⟩ := zb H
 dsimp only at H
 obtain ⟨c2, H⟩ := zI H
 obtain ⟨c2b0, c2b1⟩ := zc c2
 clear c2
 obtain ⟨c3, H⟩ := zI H
 obtain ⟨c3b0, c3b1⟩ := zc c3
 clear c3
 obtain ⟨c4, H⟩ := zI H
 obtain ⟨c4b0, c4b1⟩ := zc c4
 clear c4
 obtain ⟨c5, H⟩ := zI H
 obtain ⟨c5b0, c5b1⟩ := zc c5
 clear c5
 obtain rfl := Option.some.inj H
 go_enter Try.func5, Try.ntmps5
 go_wp2_with (first | ((with_reducible refine zD 7 rfl ?_); (try (refine gate_guard (by rfl) ?_; dsimp only)); refine Kd.N_lit k52 _ 52 ?hg (N' := 7) ?hd (xs := ([(⟨1, 1, 1, (⟨#[97]⟩ : ByteArray), (⟨false, ([] : List Int), (⟨0, 0, 0, 0⟩ : S48)⟩ : S50)⟩ : S52), (⟨2, 1, 2, (⟨#[97]⟩ : ByteArray), (⟨false, ([] : List Int), (⟨0, 0, 0, 0⟩ : S48)⟩ : S50)⟩ : S52)] : List (S52))) (inner := [.int .i64 1, .int .i64 1, .int .i64 1, .string (⟨#[97]⟩ : ByteArray), .bool false, .slice none 0 0, .int .i64 0, .int .i64 0, .int .i64 0, .int .u32 0, .int .i64 2, .int .i64 1, .int .i64 2, .string (⟨#[97]⟩ : ByteArray), .bool false, .slice none 0 0, .int .i64 0, .int .i64 0, .int .i64 0, .int .u32 0]) (ok := (fun _ => True)) (okp := (fun _ => True)) ?hr ?hp (fun _ hk => hk) ((show ∀ k_, w.heap.size ≤ k_ → (fun _ => True) k_ from fun k_ hk => trivial) _ (Nat.le_refl _)) (Below.refl _ _) (Nat.le_refl _) (by simp) ?_; (case hd => rfl); (case hg => rfl); (case hr => first | (go_simp; done) | (go_simp; rfl)); (case hp => exact (Reps.c10 (show Kd.FK k52 _ _ (⟨1, 1, 1, (⟨#[97]⟩ : ByteArray), (⟨false, ([] : List Int), (⟨0, 0, 0, 0⟩ : S48)⟩ : S50)⟩ : S52) [.int .i64 1, .int .i64 1, .int .i64 1, .string (⟨#[97]⟩ : ByteArray), .bool false, .slice none 0 0, .int .i64 0, .int .i64 0, .int .i64 0, .int .u32 0] from (k52_mkF _ _ (⟨1, 1, 1, (⟨#[97]⟩ : ByteArray), (⟨false, ([] : List Int), (⟨0, 0, 0, 0⟩ : S48)⟩ : S50)⟩ : S52) (Nat.le_refl _) (Kd.F_nil _ _ _))) (Reps.c10 (show Kd.FK k52 _ _ (⟨2, 1, 2, (⟨#[97]⟩ : ByteArray), (⟨false, ([] : List Int), (⟨0, 0, 0, 0⟩ : S48)⟩ : S50)⟩ : S52) [.int .i64 2, .int .i64 1, .int .i64 2, .string (⟨#[97]⟩ : ByteArray), .bool false, .slice none 0 0, .int .i64 0, .int .i64 0, .int .i64 0, .int .u32 0] from (k52_mkF _ _ (⟨2, 1, 2, (⟨#[97]⟩ : ByteArray), (⟨false, ([] : List Int), (⟨0, 0, 0, 0⟩ : S48)⟩ : S50)⟩ : S52) (Nat.le_refl _) (Kd.F_nil _ _ _))) (Reps.none _ _)))); intro v283 w6 ho7 hb hg_ hnew_; clear hg_ hnew_; (first | rw [← Ny282.out] at ho7 | (simp only [Int.reduceToNat] at ho7; rw [← Ny282.out] at ho7)); have Ab := Am (Kd.N_lower ho7 (below_size (pB HB.out))); replace HB := zB HB hb; clear hb ho7; obtain ⟨Ap, Aq, Ar⟩ := Kd.N_slice Ab.out; subst Ar) | ((with_reducible refine zD 15 rfl ?_); (try (refine gate_guard (by rfl) ?_; dsimp only)); refine Kd.N_lit k30 _ 30 ?hg (N' := 15) ?hd (xs := ([(⟨1, y282, (⟨0, 0, 0⟩ : S28), 0⟩ : S30), (⟨2, ([] : List (S52)), (⟨1, 0, 1⟩ : S28), 0⟩ : S30), (⟨3, ([] : List (S52)), (⟨0, 0, 0⟩ : S28), 1⟩ : S30)] : List (S30))) (inner := [.int .i64 1, .slice Ap y282.length Aq, .int .i64 0, .int .i64 0, .int .i64 0, .int .i64 0, .int .i64 2, .slice none 0 0, .int .i64 1, .int .i64 0, .int .i64 1, .int .i64 0, .int .i64 3, .slice none 0 0, .int .i64 0, .int .i64 0, .int .i64 0, .int .i64 1]) (ok := (fun _ => True)) (okp := (fun _ => True)) ?hr ?hp (fun _ hk => hk) ((show ∀ k_, w6.heap.size ≤ k_ → (fun _ => True) k_ from fun k_ hk => trivial) _ (Nat.le_refl _)) (Below.refl _ _) (Nat.le_refl _) (by simp) ?_; (case hd => rfl); (case hg => rfl); (case hr => first | (go_simp; done) | (go_simp; rfl)); (case hp => exact (Reps.c6 (show Kd.FK k30 _ _ (⟨1, y282, (⟨0, 0, 0⟩ : S28), 0⟩ : S30) [.int .i64 1, .slice Ap y282.length Aq, .int .i64 0, .int .i64 0, .int .i64 0, .int .i64 0] from (k30_mkF _ _ (⟨1, y282, (⟨0, 0, 0⟩ : S28), 0⟩ : S30) (Kd.N_reads' (Kd.N_mono (ok' := (fun _ => True)) (Ab.out) (fun k_ hk => trivial))).2.1 (Kd.N_F (Kd.N_mono (ok' := (fun _ => True)) (Ab.out) (fun k_ hk => trivial))))) (Reps.c6 (show Kd.FK k30 _ _ (⟨2, ([] : List (S52)), (⟨1, 0, 1⟩ : S28), 0⟩ : S30) [.int .i64 2, .slice none 0 0, .int .i64 1, .int .i64 0, .int .i64 1, .int .i64 0] from (k30_mkF _ _ (⟨2, ([] : List (S52)), (⟨1, 0, 1⟩ : S28), 0⟩ : S30) (Nat.le_refl _) (Kd.F_nil _ _ _))) (Reps.c6 (show Kd.FK k30 _ _ (⟨3, ([] : List (S52)), (⟨0, 0, 0⟩ : S28), 1⟩ : S30) [.int .i64 3, .slice none 0 0, .int .i64 0, .int .i64 0, .int .i64 0, .int .i64 1] from (k30_mkF _ _ (⟨3, ([] : List (S52)), (⟨0, 0, 0⟩ : S28), 1⟩ : S30) (Nat.le_refl _) (Kd.F_nil _ _ _))) (Reps.none _ _))))); intro v286 w9 ho10 hb hg_ hnew_; clear hg_ hnew_; (first | rw [← Ny285.out] at ho10 | (simp only [Int.reduceToNat] at ho10; rw [← Ny285.out] at ho10)); have Aa := Am (Kd.N_lower ho10 (below_size (pB HB.out))); replace HB := zB HB hb; clear Ab hb ho10; obtain ⟨Af, Ag, An⟩ := Kd.N_slice Aa.out; subst An) | ((with_reducible refine zC 16 rfl ?_); refine zL (some 16) Try.func16 #[.agg #[.int .i64 0, .int .i64 0, .slice none 0 0, .int .i64 0, .int .i64 0, .int .i64 0, .int .i64 0], .slice Af y285.length Ag] ?_; (refine (wal_Make.calls k 0 0 (fun k_ => False) _ _ ([] : List (S52)) 0 0 0 0 _ _ y285 t288 t289 t290 t293 t294 t295 t296 t297 t298 _ ?Ah ?Ai ?Aj A1.out).mono ?_); (case Ah => exact Kd.V_nil _ _ _ _ _); (case Ai => exact pC (Kd.N_reads' Aa.out).2.2); (case Aj => exact (Kd.N_reads' Aa.out).2.1); rintro e w12 ⟨v291, rfl, ho0, hb⟩; refine ⟨_, rfl, ?_⟩; have Ac := Am (Kd.V_lower (Kd.V_mono (ok' := fun k_ => some k_ ≠ (.slice Af y285.length Ag : Value).ownBlock) ho0 (fun k_ hk_ => Or.elim hk_ (fun hs_ => (hs_).elim) (fun hn_ => (Kd.fresh' (Kd.N_lt (pN Aa.out)) k_ hn_)))) (below_size (pB HB.out))); replace Aa := bNa Aa hb; replace HB := zB HB hb; (try clear hb); (try clear ho0)) | ((with_reducible refine zD 2 rfl ?_); (try (refine gate_guard (by rfl) ?_; dsimp only)); refine zE 2 #[.int .i64 0, .int .i64 0, .slice none 0 0, .int .i64 0, .int .i64 0, .int .i64 0, .int .i64 0] 54 ?_; intro Ad hg w13 hbox hb; replace Aa := Am (Kd.N_below (Kd.N_elderB (pN Aa.out) Ad (Nat.le_of_eq hg.symm)) hb); replace Ac := Am (Kd.V_below (Kd.V_elderB (pV Ac.out) Ad (Nat.le_of_eq hg.symm)) hb); have Ae := Am (hbox); have Ak := zA hg HB; replace HB := zB HB hb; have Al := Ak; clear hb hbox hg; obtain ⟨_, _, _, _, _, _, _⟩ := bc7 Ae.out; obtain ⟨_, _, _, _, _, _, _⟩ := bf7 Ae.out; obtain ⟨Ao15, co15, Ao⟩ := Kd.V_slice Ac.out; subst Ao))
 go_ret
 exact ⟨pX, pE HB.out Al.out⟩
end
section
attribute [local go_sem] max2_int min2_int max_two min_two max_three min_three max_four min_four
set_option maxHeartbeats 8000000
attribute [local go_sem] wrap64_l1 wrap64_l2 wrap64_l3 wrap64_l4 wrap64_l5
mutual
def varint_Get.l0 : Nat → List Int → Int → Int → Option (Int × Int × Int)
 | 0, _, _, _ => none
 | k + 1, x0, x5, x6 => if x6 < (x0.length : Int) then (varint_Get.j1 k x0 x5 x6 (decide (x6 < 10))) else (varint_Get.j1 k x0 x5 x6 false)
def varint_Get.j1 : Nat → List Int → Int → Int → Bool → Option (Int × Int × Int)
 | 0, _, _, _, _ => none
 | k + 1, x0, x5, x6, x15 => if x15 = true then (if 0 ≤ x6 then (if x6 < (x0.length : Int) then (if x6 = 9 then (varint_Get.j2 k x0 x5 x6 (IntKind.u64.wrap (rd x0 x6)) (decide ((IntKind.u64.wrap (rd x0 x6)) > 1))) else (varint_Get.j2 k x0 x5 x6 (IntKind.u64.wrap (rd x0 x6)) false)) else (none)) else (none)) else (some (0, 0, 2))
def varint_Get.j2 : Nat → List Int → Int → Int → Int → Bool → Option (Int × Int × Int)
 | 0, _, _, _, _, _ => none
 | k + 1, x0, x5, x6, x7, x28 => if x28 = true then (some (0, 0, 2)) else (if 0 ≤ (wrap64 (7 * x6)) then (if x7 < 128 then (if x7 = 0 then (if x6 > 0 then (some (0, 0, 2)) else (some (Go.bits .or .u64 x5 (shl .u64 (Go.bits .andNot .u64 x7 128) (wrap64 (7 * x6))), wrap64 (x6 + 1), 0))) else (some (Go.bits .or .u64 x5 (shl .u64 (Go.bits .andNot .u64 x7 128) (wrap64 (7 * x6))), wrap64 (x6 + 1), 0))) else (varint_Get.l0 k x0 (Go.bits .or .u64 x5 (shl .u64 (Go.bits .andNot .u64 x7 128) (wrap64 (7 * x6)))) (wrap64 (x6 + 1)))) else (none))
end
def varint_Get.f (k : Nat) (l0 : List Int) : Option (Int × Int × Int) := varint_Get.l0 k l0 0 0
theorem varint_Get.mono_l : ∀ k, (∀ y0 y1 y2, LeO (varint_Get.l0 k y0 y1 y2) (varint_Get.l0 (k + 1) y0 y1 y2)) ∧ (∀ y0 y1 y2 y3, LeO (varint_Get.j1 k y0 y1 y2 y3) (varint_Get.j1 (k + 1) y0 y1 y2 y3)) ∧ (∀ y0 y1 y2 y3 y4, LeO (varint_Get.j2 k y0 y1 y2 y3 y4) (varint_Get.j2 (k + 1) y0 y1 y2 y3 y4))
 | 0 => ⟨fun _ _ _ r h => by simp [varint_Get.l0] at h, fun _ _ _ _ r h => by simp [varint_Get.j1] at h, fun _ _ _ _ _ r h => by simp [varint_Get.j2] at h⟩
 | k + 1 => by
  obtain ⟨ih0, ih1, ih2⟩ := varint_Get.mono_l k
  refine ⟨?_, ?_, ?_⟩
  ·intro y0 y1 y2
   unfold varint_Get.l0
   repeat' (with_reducible first | exact ih0 .. | exact ih1 .. | exact ih2 .. | exact LeO.refl .. | exact LeO.none .. | refine LeO.ite ?_ ?_ | refine LeO.bind ?_ (fun _ => ?_))
  ·intro y0 y1 y2 y3
   unfold varint_Get.j1
   repeat' (with_reducible first | exact ih0 .. | exact ih1 .. | exact ih2 .. | exact LeO.refl .. | exact LeO.none .. | refine LeO.ite ?_ ?_ | refine LeO.bind ?_ (fun _ => ?_))
  ·intro y0 y1 y2 y3 y4
   unfold varint_Get.j2
   repeat' (with_reducible first | exact ih0 .. | exact ih1 .. | exact ih2 .. | exact LeO.refl .. | exact LeO.none .. | refine LeO.ite ?_ ?_ | refine LeO.bind ?_ (fun _ => ?_))
theorem varint_Get.mono : ∀ a0 k, LeO (varint_Get.f k a0) (varint_Get.f (k + 1) a0) := by
 intro a0 k
 obtain ⟨ih0, ih1, ih2⟩ := varint_Get.mono_l k
 unfold varint_Get.f
 repeat' (with_reducible first | exact ih0 .. | exact ih1 .. | exact ih2 .. | exact LeO.refl .. | exact LeO.none .. | refine LeO.ite ?_ ?_ | refine LeO.bind ?_ (fun _ => ?_))
set_option maxRecDepth 100000 in
theorem varint_Get.calls (k : Nat) (A0 : Option Addr) (c0 : Nat) (l0 : List Int) (r1 : Int) (r2 : Int) (r3 : Int) (w : World) (hr0 : Kd.C (Kd.int .u8) w A0 l0.length l0) (hc0 : l0.length ≤ c0) (h : varint_Get.f k l0 = some (r1, r2, r3)) :
 Calls Try.prog 19 #[.slice A0 l0.length c0] w fun e w' => e = .returned (.tuple #[.int .u64 r1, .int .i64 r2, .int .i64 r3]) ∧ Drawn0 w w' := by
 have HR0 := Am hr0
 have HC0 := Am hc0
 clear hr0 hc0
 unfold varint_Get.f at h
 have H := h
 clear h
 have H' := Am H
 clear H
 go_enter Try.func19, Try.ntmps19
 go_wp2
 go_loopg [5, 6] k (fun kq v5 v6 w' => ∃ (Ab : Int) (Aa : Int), v5 = .int .u64 Ab ∧ v6 = .int .i64 Aa ∧ Aside0 (varint_Get.l0 kq l0 Ab Aa = some (r1, r2, r3)) ∧ Aside0 (kq ≤ k) ∧ Drawn0 w w')
 case atStart => exact ⟨(0), (0), zr, zr, H', ⟨Nat.le_refl _⟩, zd⟩
 case round =>
  clear H'
  try clear c1
  obtain ⟨Ab, Aa, rfl, rfl, HA, HK1, ⟨m1, rfl⟩⟩ := hrel
  cases gk with
  | zero => exact absurd HA.out (by simp [varint_Get.l0])
  | succ k1 =>
   have H := HA.out
   clear HA
   simp only [varint_Get.l0] at H
   have HC2 := Am H
   clear H
   go_upto_region 3 with (fail)
   go_cut [15] (fun v15 wc => ∃ (kq : Nat) (Ac : Bool), v15 = .bool Ac ∧ Aside0 (varint_Get.j1 kq l0 Ab Aa Ac = some (r1, r2, r3)) ∧ Aside0 (kq ≤ k1) ∧ Drawn0 w wc)
   case first =>
    have H := HC2.out
    clear HC2
    by_cases c3 : Aa < (l0.length : Int)
    ·rw [if_pos c3] at H
     have c3b0 := decide_eq_true c3
     clear c3
     (first | rw [c3b0] | (simp only [i64_w, i32_w]; rw [c3b0]) | skip)
     have H' := Am H
     clear H
     go_wp2
     go_meet
     case rel => exact ⟨_, (decide (Aa < 10)), zr, H', ⟨by have := HK1.out; first | omega | exact Nat.le_refl _⟩, zd⟩
    rw [if_neg c3] at H
    have c3b0 := decide_eq_false c3
    clear c3
    (first | rw [c3b0] | (simp only [i64_w, i32_w]; rw [c3b0]) | skip)
    have H' := Am H
    clear H
    go_wp2
    go_meet
    case rel => exact ⟨_, (false), zr, H', ⟨by have := HK1.out; first | omega | exact Nat.le_refl _⟩, zd⟩
   case rest =>
    clear HC2
    try clear c1
    try clear p2
    try clear c3
    try clear c3b0
    obtain ⟨kq, Ac, rfl, HA, HJ1, ⟨mc1, rfl⟩⟩ := hcut
    cases kq with
    | zero => exact absurd HA.out (by simp [varint_Get.j1])
    | succ kj1 =>
     have H := HA.out
     clear HA
     simp only [varint_Get.j1] at H
     by_cases c4 : Ac = true
     rotate_left
     ·replace c4 := Bool.eq_false_iff.mpr c4
      subst c4
      rw [if_neg zF] at H
      simp only [Option.some.injEq, Prod.mk.injEq] at H
      obtain ⟨rfl, rfl, rfl⟩ := H
      go_wp2
      go_ret3
      exact ⟨zr, zd⟩
     subst c4
     rw [if_pos rfl] at H
     obtain ⟨c5, H⟩ := zI H
     have c5b0 := decide_eq_true c5
     clear c5
     obtain ⟨c6, H⟩ := zI H
     have c6b0 := decide_eq_true c6
     clear c6
     have HC7 := Am H
     clear H
     have p300 : 0 ≤ (Aa : Int) := of_decide_eq_true pS
     have q300 : Aa < (l0.length : Int) := of_decide_eq_true pS
     obtain ⟨ad300, e300, Ae⟩ := Kd.at_int HR0.out Aa p300 q300
     cases e300
     replace p300 := eq_true p300
     replace q300 := eq_true q300
     go_upto_region 6 with (fail)
     go_cut [28] (fun v28 wc => ∃ (kq : Nat) (Ad : Bool), v28 = .bool Ad ∧ Aside0 (varint_Get.j2 kq l0 Ab Aa (IntKind.u64.wrap (rd l0 Aa)) Ad = some (r1, r2, r3)) ∧ Aside0 (kq ≤ kj1) ∧ Drawn0 w wc)
     case first =>
      have H := HC7.out
      clear HC7
      by_cases c8 : Aa = 9
      rotate_left
      ·rw [if_neg c8] at H
       obtain ⟨c8b0, c8b1⟩ := zk c8
       (first | rw [c8b0] | (simp only [i64_w, i32_w]; rw [c8b0]) | skip)
       have H' := Am H
       clear H
       go_wp2
       go_meet
       case rel => exact ⟨_, (false), zr, H', ⟨by have := HK1.out; have := HJ1.out; first | omega | exact Nat.le_refl _⟩, zd⟩
      rw [if_pos c8] at H
      obtain ⟨c8b0, c8b1⟩ := zc c8
      clear c8
      (first | rw [c8b0] | (simp only [i64_w, i32_w]; rw [c8b0]) | skip)
      have H' := Am H
      clear H
      go_wp2
      go_meet
      case rel => exact ⟨_, (decide ((IntKind.u64.wrap (rd l0 Aa)) > 1)), zr, H', ⟨by have := HK1.out; have := HJ1.out; first | omega | exact Nat.le_refl _⟩, zd⟩
     case rest =>
      clear HC7
      try clear c1
      try clear p2
      try clear c3
      try clear c3b0
      try clear p3
      try clear q3
      try clear hx3
      try clear c4
      try clear c5
      try clear c5b0
      try clear c6
      try clear c6b0
      try clear c8
      try clear c8b0
      try clear c8b1
      try clear Ae
      try clear p2
      try clear p300
      try clear q300
      obtain ⟨kq, Ad, rfl, HA, HJ6, ⟨mc6, rfl⟩⟩ := hcut
      cases kq with
      | zero => exact absurd HA.out (by simp [varint_Get.j2])
      | succ kj6 =>
       have H := HA.out
       clear HA
       simp only [varint_Get.j2] at H
       by_cases c9 : Ad = true
       ·subst c9
        rw [if_pos rfl] at H
        simp only [Option.some.injEq, Prod.mk.injEq] at H
        obtain ⟨rfl, rfl, rfl⟩ := H
        go_wp2
        go_ret3
        exact ⟨zr, zd⟩
       replace c9 := Bool.eq_false_iff.mpr c9
       subst c9
       rw [if_neg zF] at H
       obtain ⟨ji10, hji10⟩ : ∃ j_ : Int, (wrap64 (7 * Aa)) = j_ := ⟨_, rfl⟩
       replace H : (if 0 ≤ (ji10) then (if (IntKind.u64.wrap (rd l0 Aa)) < 128 then (if (IntKind.u64.wrap (rd l0 Aa)) = 0 then (if Aa > 0 then (some (0, 0, 2)) else (some (Go.bits .or .u64 Ab (shl .u64 (Go.bits .andNot .u64 (IntKind.u64.wrap (rd l0 Aa)) 128) (ji10)), wrap64 (Aa + 1), 0))) else (some (Go.bits .or .u64 Ab (shl .u64 (Go.bits .andNot .u64 (IntKind.u64.wrap (rd l0 Aa)) 128) (ji10)), wrap64 (Aa + 1), 0))) else (varint_Get.l0 kj6 l0 (Go.bits .or .u64 Ab (shl .u64 (Go.bits .andNot .u64 (IntKind.u64.wrap (rd l0 Aa)) 128) (ji10))) (wrap64 (Aa + 1)))) else (none)) = some (r1, r2, r3) := by first | (rw [hji10] at H; exact H) | (simp only [hji10] at H ⊢; exact H)
       have hji10w : (IntKind.i64.wrap (7 * Aa)) = ji10 := (i64_w _).trans hji10
       obtain ⟨c11, H⟩ := zI H
       have c11b0 := eq_true c11
       have c11b1 := decide_eq_true c11
       clear c11
       obtain ⟨ji12, hji12⟩ : ∃ j_ : Int, (shl .u64 (Go.bits .andNot .u64 (IntKind.u64.wrap (rd l0 Aa)) 128) (ji10)) = j_ := ⟨_, rfl⟩
       replace H : (if (IntKind.u64.wrap (rd l0 Aa)) < 128 then (if (IntKind.u64.wrap (rd l0 Aa)) = 0 then (if Aa > 0 then (some (0, 0, 2)) else (some (Go.bits .or .u64 Ab (ji12), wrap64 (Aa + 1), 0))) else (some (Go.bits .or .u64 Ab (ji12), wrap64 (Aa + 1), 0))) else (varint_Get.l0 kj6 l0 (Go.bits .or .u64 Ab (ji12)) (wrap64 (Aa + 1)))) = some (r1, r2, r3) := by first | (rw [hji12] at H; exact H) | (simp only [hji12] at H ⊢; exact H)
       have hji12_ : (IntKind.u64.wrap ((Go.bits .andNot .u64 (IntKind.u64.wrap (rd l0 Aa)) 128) * 2 ^ min (ji10).toNat 64)) = ji12 := hji12
       have hji12z : (ji10) ≤ 64 → (IntKind.u64.wrap ((Go.bits .andNot .u64 (IntKind.u64.wrap (rd l0 Aa)) 128) * 2 ^ (ji10).toNat)) = ji12 := shl_small hji12
       by_cases c13 : (IntKind.u64.wrap (rd l0 Aa)) < 128
       rotate_left
       ·rw [if_neg c13] at H
        have c13b0 := decide_eq_false c13
        clear c13
        have H' := Am H
        clear H
        go_wp2
        go_roundg kj6
        case measure => have := HK1.out; have := HJ1.out; have := HJ6.out; omega
        case rel => exact ⟨(Go.bits .or .u64 Ab (ji12)), (wrap64 (Aa + 1)), (by first | rfl | (simp; done) | (simp only [← hji12] <;> (first | rfl | simp)) | (simp [*]; done)), zr, H', ⟨by have := HK1.out; have := HJ1.out; have := HJ6.out; omega⟩, zd⟩
       rw [if_pos c13] at H
       have c13b0 := decide_eq_true c13
       clear c13
       by_cases c14 : (IntKind.u64.wrap (rd l0 Aa)) = 0
       rotate_left
       ·rw [if_neg c14] at H
        obtain ⟨c14b0, c14b1⟩ := zk c14
        simp only [Option.some.injEq, Prod.mk.injEq] at H
        obtain ⟨rfl, rfl, rfl⟩ := H
        go_wp2
        go_ret3
        exact ⟨by first | rfl | (simp; done) | (simp only [← hji10, ← hji12] <;> (first | rfl | simp)) | (simp [*]; done), zd⟩
       rw [if_pos c14] at H
       obtain ⟨c14b0, c14b1⟩ := zc c14
       clear c14
       by_cases c15 : Aa > 0
       ·rw [if_pos c15] at H
        have c15b0 : decide (0 < Aa) = true := decide_eq_true c15
        clear c15
        simp only [Option.some.injEq, Prod.mk.injEq] at H
        obtain ⟨rfl, rfl, rfl⟩ := H
        go_wp2
        go_ret3
        exact ⟨by first | rfl | (simp; done) | (simp only [← hji10, ← hji12] <;> (first | rfl | simp)) | (simp [*]; done), zd⟩
       rw [if_neg c15] at H
       have c15b0 : decide (0 < Aa) = false := decide_eq_false c15
       clear c15
       simp only [Option.some.injEq, Prod.mk.injEq] at H
       obtain ⟨rfl, rfl, rfl⟩ := H
       go_wp2
       go_ret3
       exact ⟨by first | rfl | (simp; done) | (simp only [← hji10, ← hji12] <;> (first | rfl | simp)) | (simp [*]; done), zd⟩
mutual
def varint_All.j0 : Nat → List Int → Int → Bool → Option (List Int × Int × Int)
 | 0, _, _, _ => none
 | k + 1, x0, x1, x17 => if x17 = true then (some (([] : List Int), 0, 1)) else (varint_All.l0 k x0 ([] : List Int) 0 x1 0)
def varint_All.l0 : Nat → List Int → List Int → Int → Int → Int → Option (List Int × Int × Int)
 | 0, _, _, _, _, _ => none
 | k + 1, x0, x7, x8, x18, x19 => if x19 < x18 then (if 0 ≤ x8 then (if x8 ≤ (x0.length : Int) then ((varint_Get.f k (x0.drop (x8 : Int).toNat)).bind fun bt302 => (if bt302.2.2 = 0 then (if x7.length < 17592186044416 then (varint_All.l0 k x0 (x7 ++ [bt302.1]) (wrap64 (x8 + bt302.2.1)) x18 (wrap64 (x19 + 1))) else (none)) else (some (([] : List Int), x8, bt302.2.2)))) else (none)) else (none)) else (some (x7, x8, 0))
end
def varint_All.f (k : Nat) (l0 : List Int) (a1 : Int) : Option (List Int × Int × Int) := if a1 < 0 then (varint_All.j0 k l0 a1 true) else (varint_All.j0 k l0 a1 (decide (a1 > 1000)))
theorem varint_All.mono_l : ∀ k, (∀ y0 y1 y2, LeO (varint_All.j0 k y0 y1 y2) (varint_All.j0 (k + 1) y0 y1 y2)) ∧ (∀ y0 y1 y2 y3 y4, LeO (varint_All.l0 k y0 y1 y2 y3 y4) (varint_All.l0 (k + 1) y0 y1 y2 y3 y4))
 | 0 => ⟨fun _ _ _ r h => by simp [varint_All.j0] at h, fun _ _ _ _ _ r h => by simp [varint_All.l0] at h⟩
 | k + 1 => by
  obtain ⟨ih0, ih1⟩ := varint_All.mono_l k
  refine ⟨?_, ?_⟩
  ·intro y0 y1 y2
   unfold varint_All.j0
   repeat' (with_reducible first | exact ih0 .. | exact ih1 .. | exact varint_Get.mono .. | exact LeO.refl .. | exact LeO.none .. | refine LeO.ite ?_ ?_ | refine LeO.bind ?_ (fun _ => ?_))
  ·intro y0 y1 y2 y3 y4
   unfold varint_All.l0
   repeat' (with_reducible first | exact ih0 .. | exact ih1 .. | exact varint_Get.mono .. | exact LeO.refl .. | exact LeO.none .. | refine LeO.ite ?_ ?_ | refine LeO.bind ?_ (fun _ => ?_))
theorem varint_All.mono : ∀ a0 a1 k, LeO (varint_All.f k a0 a1) (varint_All.f (k + 1) a0 a1) := by
 intro a0 a1 k
 obtain ⟨ih0, ih1⟩ := varint_All.mono_l k
 unfold varint_All.f
 repeat' (with_reducible first | exact ih0 .. | exact ih1 .. | exact varint_Get.mono .. | exact LeO.refl .. | exact LeO.none .. | refine LeO.ite ?_ ?_ | refine LeO.bind ?_ (fun _ => ?_))
set_option maxRecDepth 100000 in
theorem varint_All.calls (k : Nat) (A0 : Option Addr) (c0 : Nat) (l0 : List Int) (a1 : Int) (r1 : List Int) (r2 : Int) (r3 : Int) (w : World) (hr0 : Kd.C (Kd.int .u8) w A0 l0.length l0) (hc0 : l0.length ≤ c0) (h : varint_All.f k l0 a1 = some (r1, r2, r3)) :
 Calls Try.prog 43 #[.slice A0 l0.length c0, .int .i64 a1] w fun e w' => ∃ v0_ : Value, e = .returned (.tuple #[v0_, .int .i64 r2, .int .i64 r3]) ∧ Kd.R (Kd.int .u64) 61 w' w.heap.size (fun _ => True) v0_ r1 ∧ Below w.heap.size w w' := by
 have HR0 := Am hr0
 have HC0 := Am hc0
 clear hr0 hc0
 have HB := Am (Below.refl w.heap.size w)
 unfold varint_All.f at h
 have H := h
 clear h
 have HC3 := Am H
 clear H
 go_enter Try.func43, Try.ntmps43
 go_upto_region 1 with (fail)
 go_cut [17] (fun v17 wc => ∃ (kq : Nat) (Ad : Bool), v17 = .bool Ad ∧ Aside0 (varint_All.j0 kq l0 a1 Ad = some (r1, r2, r3)) ∧ Aside0 (kq ≤ k) ∧ Aside0 (Below w.heap.size w wc))
 case first =>
  have H := HC3.out
  clear HC3
  by_cases c4 : a1 < 0
  ·rw [if_pos c4] at H
   have c4b0 := decide_eq_true c4
   clear c4
   (first | rw [c4b0] | (simp only [i64_w, i32_w]; rw [c4b0]) | skip)
   have H' := Am H
   clear H
   go_wp2
   go_meet
   case rel => exact ⟨_, (true), zr, H', ⟨zo⟩, ⟨pB HB.out⟩⟩
  rw [if_neg c4] at H
  have c4b0 := decide_eq_false c4
  clear c4
  (first | rw [c4b0] | (simp only [i64_w, i32_w]; rw [c4b0]) | skip)
  have H' := Am H
  clear H
  go_wp2
  go_meet
  case rel => exact ⟨_, (decide (a1 > 1000)), zr, H', ⟨zo⟩, ⟨pB HB.out⟩⟩
 case rest =>
  clear HC3
  try clear p2
  try clear c4
  try clear c4b0
  obtain ⟨kq, Ad, rfl, HA, HJ2, HB⟩ := hcut
  cases kq with
  | zero => exact absurd HA.out (by simp [varint_All.j0])
  | succ kj2 =>
   have H := HA.out
   clear HA
   simp only [varint_All.j0] at H
   by_cases c5 : Ad = true
   ·subst c5
    rw [if_pos rfl] at H
    simp only [Option.some.injEq, Prod.mk.injEq] at H
    obtain ⟨rfl, rfl, rfl⟩ := H
    go_wp2
    go_ret3
    exact ⟨_, pX, zn, pB HB.out⟩
   replace c5 := Bool.eq_false_iff.mpr c5
   subst c5
   rw [if_neg zF] at H
   have H' := Am H
   clear H
   go_wp2
   go_loopg [7, 8, 19] kj2 (fun kq v7 v8 v19 w' => ∃ (Ac : List Int) (Aa : Int) (Ab : Int), v8 = .int .i64 Aa ∧ v19 = .int .i64 Ab ∧ Aside0 (varint_All.l0 kq l0 Ac Aa a1 Ab = some (r1, r2, r3)) ∧ Aside0 (kq ≤ kj2) ∧ Aside0 (Kd.R (Kd.int .u64) 61 w' w.heap.size (fun _ => True) v7 Ac) ∧ Aside0 (Below w.heap.size w w'))
   case atStart => exact ⟨(([] : List Int)), (0), (0), zr, zr, H', ⟨Nat.le_refl _⟩, ⟨zn⟩, ⟨pB HB.out⟩⟩
   case round =>
    clear H'
    try clear p2
    try clear c4
    try clear c4b0
    try clear c5
    try clear p2
    obtain ⟨Ac, Aa, Ab, rfl, rfl, HA, HK2, Ai, HB⟩ := hrel
    cases gk with
    | zero => exact absurd HA.out (by simp [varint_All.l0])
    | succ k2 =>
     have H := HA.out
     clear HA
     simp only [varint_All.l0] at H
     by_cases c6 : Ab < a1
     rotate_left
     ·rw [if_neg c6] at H
      have c6b0 := decide_eq_false c6
      clear c6
      simp only [Option.some.injEq, Prod.mk.injEq] at H
      obtain ⟨rfl, rfl, rfl⟩ := H
      go_wp2
      go_ret3
      exact ⟨_, pX, by (with_reducible repeat (first | apply Kd.R_alloc | apply Kd.R_drewN | apply Kd.R_drew)); exact Ai.out, pB HB.out⟩
     rw [if_pos c6] at H
     have c6b0 := decide_eq_true c6
     clear c6
     obtain ⟨c7, H⟩ := zI H
     have c7b0 := eq_true c7
     have c7b1 := decide_eq_true c7
     clear c7
     obtain ⟨c8, H⟩ := zI H
     have c8b0 := eq_true c8
     have c8b1 := decide_eq_true c8
     clear c8
     obtain ⟨⟨t302, t303, t304⟩, A9, H⟩ := zb H
     dsimp only at H
     by_cases c10 : t304 = 0
     rotate_left
     ·rw [if_neg c10] at H
      obtain ⟨c10b0, c10b1⟩ := zk c10
      simp only [Option.some.injEq, Prod.mk.injEq] at H
      obtain ⟨rfl, rfl, rfl⟩ := H
      obtain ⟨i014, hi014, _, Ah, _⟩ := info_parts info5
      obtain ⟨A14, hcut14, hA14, Ak⟩ := print_drop_of (P := Try.prog) (Value.int .u8) 0 22 5 .i64 Try.underlying22 hi014 Ah A0 c0 l0 Aa (of_decide_eq_true pS) (of_decide_eq_true pS) HC0.out
      have HR301 := Am (Kd.C_of_reads (h1 := fun _ => rfl) (hA14 _ (Kd.reads_of_C HR0.out)))
      have HC301 := Am Ak
      clear hA14 Ak hi014 Ah
      go_wp2_with (first | ((with_reducible refine zC 19 rfl ?_); refine goesL_ (some 25) rfl rfl Try.func19 (by kernel_rfl) rfl #[.slice A14 (l0.drop (Aa : Int).toNat).length (c0 - Aa.toNat)] rfl (by (try simp only [List.map_toArray, List.map_cons, List.map_nil]); first | done | (rw [show (l0.drop (Aa : Int).toNat).length = (l0.length - Aa.toNat) from List.length_drop] <;> rfl) | rfl | (simp only [List.length_drop, List.length_take]; rfl)) ?_; (with_reducible refine (varint_Get.calls k2 _ _ (l0.drop (Aa : Int).toNat) t302 t303 t304 _ ?Ae ?Af A9.out).mono ?_); (case Ae => exact pC (Kd.C_below HR301.out HB.out)); (case Af => exact HC301.out); rintro e w' ⟨rfl, ⟨nd, rfl⟩⟩; refine ⟨_, rfl, ?_⟩))
      go_ret3
      exact ⟨_, pX, zn, pB HB.out⟩
     rw [if_pos c10] at H
     obtain ⟨c10b0, c10b1⟩ := zc c10
     clear c10
     obtain ⟨c11, H⟩ := zI H
     have LMc11 := Am c11
     clear c11
     obtain ⟨y305, hy305⟩ : ∃ y_ : List Int, y_ = (Ac ++ [t302]) := ⟨_, rfl⟩
     replace H : (varint_All.l0 k2 l0 y305 (wrap64 (Aa + t303)) a1 (wrap64 (Ab + 1))) = some (r1, r2, r3) := zy hy305 H
     have Ny305 := Am hy305
     clear hy305
     have H' := Am H
     clear H
     obtain ⟨i012, hi012, _, Ag, _⟩ := info_parts info5
     obtain ⟨A12, hcut12, hA12, Aj⟩ := print_drop_of (P := Try.prog) (Value.int .u8) 0 22 5 .i64 Try.underlying22 hi012 Ag A0 c0 l0 Aa (of_decide_eq_true pS) (of_decide_eq_true pS) HC0.out
     have HR301 := Am (Kd.C_of_reads (h1 := fun _ => rfl) (hA12 _ (Kd.reads_of_C HR0.out)))
     have HC301 := Am Aj
     clear hA12 Aj hi012 Ag
     go_wp2_with (first | ((with_reducible refine zC 19 rfl ?_); refine goesL_ (some 25) rfl rfl Try.func19 (by kernel_rfl) rfl #[.slice A12 (l0.drop (Aa : Int).toNat).length (c0 - Aa.toNat)] rfl (by (try simp only [List.map_toArray, List.map_cons, List.map_nil]); first | done | (rw [show (l0.drop (Aa : Int).toNat).length = (l0.length - Aa.toNat) from List.length_drop] <;> rfl) | rfl | (simp only [List.length_drop, List.length_take]; rfl)) ?_; (with_reducible refine (varint_Get.calls k2 _ _ (l0.drop (Aa : Int).toNat) t302 t303 t304 _ ?Ae ?Af A9.out).mono ?_); (case Ae => exact pC (Kd.C_below HR301.out HB.out)); (case Af => exact HC301.out); rintro e w' ⟨rfl, ⟨nd, rfl⟩⟩; refine ⟨_, rfl, ?_⟩) | ((with_reducible refine gate_builtin (b := .append) (xs := #[.tmp 33, .tmp 35]) rfl ?_); at_builtin; refine Kd.R_append (Kd.int .u64) (w0 := w) w.heap.size rfl (.tmp 33) (.tmp 35) 91 61 (.int .u64 0) 8 rfl Try.underlying91 info61 rfl (by decide) (by omega) u7 Ac t302 [.int .u64 t302] (fun _ => True) (fun _ => False) rfl rfl ?aP (fun _ hk => hk.elim) ?aF ?aO ?aB ?aS ?aL ?_; (case aP => exact rfl); (case aB => exact (pB HB.out)); (case aF => exact (fun _ _ => trivial)); (case aO => exact (pR Ai.out)); (case aS => exact (below_size (pB HB.out))); (case aL => have := LMc11.out; omega); intro v306 w13 ho hb hg hat; rw [← Ny305.out] at ho; replace HB := Am (hb); have Al := Am (ho); clear Ai ho hb hg hat))
     go_roundg k2
     case measure => have := HJ2.out; have := HK2.out; omega
     case rel => exact ⟨(y305), (wrap64 (Aa + t303)), (wrap64 (Ab + 1)), zr, zr, H', ⟨by have := HJ2.out; have := HK2.out; omega⟩, ⟨by (with_reducible repeat (first | apply Kd.R_alloc | apply Kd.R_drewN | apply Kd.R_drew)); exact Al.out⟩, ⟨pB HB.out⟩⟩
def slices_Max_uint64_uint64.l0 : Nat → List Int → Int → Int → Option (Int)
 | 0, _, _, _ => none
 | k + 1, x0, x3, x4 => if x4 < (x0.length : Int) then (if 0 ≤ x4 then (slices_Max_uint64_uint64.l0 k x0 (mx x3 (rd x0 x4)) (wrap64 (x4 + 1))) else (none)) else (some x3)
def slices_Max_uint64_uint64.f (k : Nat) (l0 : List Int) : Option (Int) := if (l0.length : Int) < 1 then (none) else (if 0 < (l0.length : Int) then (slices_Max_uint64_uint64.l0 k l0 (rd l0 0) 1) else (none))
theorem slices_Max_uint64_uint64.mono_l : ∀ k, (∀ y0 y1 y2, LeO (slices_Max_uint64_uint64.l0 k y0 y1 y2) (slices_Max_uint64_uint64.l0 (k + 1) y0 y1 y2))
 | 0 => fun _ _ _ r h => by simp [slices_Max_uint64_uint64.l0] at h
 | k + 1 => by
  have ih0 := slices_Max_uint64_uint64.mono_l k
  ·intro y0 y1 y2
   unfold slices_Max_uint64_uint64.l0
   repeat' (with_reducible first | exact ih0 .. | exact LeO.refl .. | exact LeO.none .. | refine LeO.ite ?_ ?_ | refine LeO.bind ?_ (fun _ => ?_))
theorem slices_Max_uint64_uint64.mono : ∀ a0 k, LeO (slices_Max_uint64_uint64.f k a0) (slices_Max_uint64_uint64.f (k + 1) a0) := by
 intro a0 k
 have ih0 := slices_Max_uint64_uint64.mono_l k
 unfold slices_Max_uint64_uint64.f
 repeat' (with_reducible first | exact ih0 .. | exact LeO.refl .. | exact LeO.none .. | refine LeO.ite ?_ ?_ | refine LeO.bind ?_ (fun _ => ?_))
set_option maxRecDepth 100000 in
theorem slices_Max_uint64_uint64.calls (k : Nat) (A0 : Option Addr) (c0 : Nat) (l0 : List Int) (r : Int) (w : World) (hr0 : Kd.C (Kd.int .u64) w A0 l0.length l0) (hc0 : l0.length ≤ c0) (h : slices_Max_uint64_uint64.f k l0 = some r) :
 Calls Try.prog 87 #[.slice A0 l0.length c0] w fun e w' => e = .returned (.int .u64 r) ∧ Below w.heap.size w w' := by
 have HR0 := Am hr0
 have HC0 := Am hc0
 clear hr0 hc0
 have HB := Am (Below.refl w.heap.size w)
 unfold slices_Max_uint64_uint64.f at h
 have H := h
 clear h
 obtain ⟨c2, H⟩ := zJ H
 have c2b0 := decide_eq_false c2
 have c2b1 : decide (l0.length < 1) = false := decide_eq_false (by omega)
 clear c2
 obtain ⟨c3, H⟩ := zI H
 have c3b0 := decide_eq_true c3
 have c3b1 : decide (0 < l0.length) = true := decide_eq_true (by omega)
 clear c3
 have H' := Am H
 clear H
 have p308 : 0 ≤ (0 : Int) := (by omega)
 have q308 : 0 < (l0.length : Int) := of_decide_eq_true pS
 obtain ⟨Ae, e308, Ab⟩ := Kd.at_int HR0.out 0 p308 q308
 cases e308
 have qi308 : (0 < l0.length) = True := eq_true (by omega)
 (try simp only [tz, Addr.add_zero'] at Ab)
 replace p308 := eq_true p308
 replace q308 := eq_true q308
 go_enter Try.func87, Try.ntmps87
 go_wp2
 go_loopg [3, 4] k (fun kq v3 v4 w' => ∃ (Ad : Int) (Aa : Int), v3 = .int .u64 Ad ∧ v4 = .int .i64 Aa ∧ Aside0 (slices_Max_uint64_uint64.l0 kq l0 Ad Aa = some r) ∧ Aside0 (kq ≤ k) ∧ Aside0 (Below w.heap.size w w'))
 case atStart => exact ⟨(rd l0 0), (1), zr, zr, H', ⟨Nat.le_refl _⟩, ⟨pB HB.out⟩⟩
 case round =>
  clear H'
  try clear c2
  try clear c2b0
  try clear c2b1
  try clear p2
  try clear c3
  try clear c3b0
  try clear c3b1
  try clear p3
  try clear q3
  try clear hx3
  try clear qi3
  try clear Ab
  try clear p308
  try clear q308
  obtain ⟨Ad, Aa, rfl, rfl, HA, HK1, HB⟩ := hrel
  cases gk with
  | zero => exact absurd HA.out (by simp [slices_Max_uint64_uint64.l0])
  | succ k1 =>
   have H := HA.out
   clear HA
   simp only [slices_Max_uint64_uint64.l0] at H
   by_cases c4 : Aa < (l0.length : Int)
   rotate_left
   ·rw [if_neg c4] at H
    have c4b0 := decide_eq_false c4
    clear c4
    obtain rfl := Option.some.inj H
    go_wp2
    go_ret
    exact ⟨pX, pB HB.out⟩
   rw [if_pos c4] at H
   have c4b0 := decide_eq_true c4
   clear c4
   obtain ⟨c5, H⟩ := zI H
   have c5b0 := decide_eq_true c5
   clear c5
   obtain ⟨ji6, hji6⟩ : ∃ j_ : Int, (mx Ad (rd l0 Aa)) = j_ := ⟨_, rfl⟩
   replace H : (slices_Max_uint64_uint64.l0 k1 l0 ji6 (wrap64 (Aa + 1))) = some r := by first | (rw [hji6] at H; exact H) | (simp only [hji6] at H ⊢; exact H)
   have hji6_ : (if Ad < (rd l0 Aa) then (rd l0 Aa) else Ad) = ji6 := hji6
   have H' := Am H
   clear H
   have p309 : 0 ≤ (Aa : Int) := of_decide_eq_true pS
   have q309 : Aa < (l0.length : Int) := of_decide_eq_true pS
   obtain ⟨Af, e309, Ac⟩ := Kd.at_int HR0.out Aa p309 q309
   obtain rfl : Ae = Af := (by injection e309)
   replace Ac := cU HB.out Ac
   replace p309 := eq_true p309
   replace q309 := eq_true q309
   go_wp2
   go_roundg k1
   case measure => have := HK1.out; omega
   case rel => exact ⟨(ji6), (wrap64 (Aa + 1)), (by first | rfl | (simp; done) | (simp only [← hji6] <;> (first | rfl | simp)) | (simp [*]; done)), zr, H', ⟨by have := HK1.out; omega⟩, ⟨pB HB.out⟩⟩
def point_sumOf.f (l0 : List Int) : Option (Int) := if 0 < (l0.length : Int) then (if 1 < (l0.length : Int) then (if 2 < (l0.length : Int) then (if 3 < (l0.length : Int) then (some (Go.bits .or .u32 (Go.bits .or .u32 (Go.bits .or .u32 ((rd l0 0) % 4294967296) ((((rd l0 1) % 4294967296) * 256) % 4294967296)) ((((rd l0 2) % 4294967296) * 65536) % 4294967296)) ((((rd l0 3) % 4294967296) * 16777216) % 4294967296))) else (none)) else (none)) else (none)) else (none)
set_option maxRecDepth 100000 in
theorem point_sumOf.calls (A0 : Option Addr) (c0 : Nat) (l0 : List Int) (r : Int) (w : World) (hr0 : Kd.C (Kd.int .u8) w A0 l0.length l0) (hc0 : l0.length ≤ c0) (h : point_sumOf.f l0 = some r) :
 Calls Try.prog 88 #[.slice A0 l0.length c0] w fun e w' => e = .returned (.int .u32 r) ∧ Drawn0 w w' := by
 have HR0 := Am hr0
 have HC0 := Am hc0
 clear hr0 hc0
 unfold point_sumOf.f at h
 have H := h
 clear h
 obtain ⟨c2, H⟩ := zI H
 have c2b0 := decide_eq_true c2
 have c2b1 : decide (0 < l0.length) = true := decide_eq_true (by omega)
 clear c2
 obtain ⟨c3, H⟩ := zI H
 have c3b0 := decide_eq_true c3
 have c3b1 : decide (1 < l0.length) = true := decide_eq_true (by omega)
 clear c3
 obtain ⟨c4, H⟩ := zI H
 have c4b0 := decide_eq_true c4
 have c4b1 : decide (2 < l0.length) = true := decide_eq_true (by omega)
 clear c4
 obtain ⟨c5, H⟩ := zI H
 have c5b0 := decide_eq_true c5
 have c5b1 : decide (3 < l0.length) = true := decide_eq_true (by omega)
 clear c5
 obtain rfl := Option.some.inj H
 have p310 : 0 ≤ (0 : Int) := (by omega)
 have q310 : 0 < (l0.length : Int) := of_decide_eq_true pS
 obtain ⟨Ae, e310, Aa⟩ := Kd.at_int HR0.out 0 p310 q310
 cases e310
 have qi310 : (0 < l0.length) = True := eq_true (by omega)
 (try simp only [tz, Addr.add_zero'] at Aa)
 replace p310 := eq_true p310
 replace q310 := eq_true q310
 have p311 : 0 ≤ (1 : Int) := (by omega)
 have q311 : 1 < (l0.length : Int) := of_decide_eq_true pS
 obtain ⟨Af, e311, Ab⟩ := Kd.at_int HR0.out 1 p311 q311
 obtain rfl : Ae = Af := (by injection e311)
 (try simp only [show (1 : Int).toNat = 1 from rfl, Nat.reduceMul, Nat.reduceEqDiff, Go.Addr.add, ↓reduceIte] at Ab)
 have qi311 : (1 < l0.length) = True := eq_true (by omega)
 (try rw [show ((1 : Int)).toNat = 1 from rfl] at Ab)
 replace p311 := eq_true p311
 replace q311 := eq_true q311
 have p312 : 0 ≤ (2 : Int) := (by omega)
 have q312 : 2 < (l0.length : Int) := of_decide_eq_true pS
 obtain ⟨Ag, e312, Ac⟩ := Kd.at_int HR0.out 2 p312 q312
 obtain rfl : Ae = Ag := (by injection e312)
 (try simp only [show (2 : Int).toNat = 2 from rfl, Nat.reduceMul, Nat.reduceEqDiff, Go.Addr.add, ↓reduceIte] at Ac)
 have qi312 : (2 < l0.length) = True := eq_true (by omega)
 (try rw [show ((2 : Int)).toNat = 2 from rfl] at Ac)
 replace p312 := eq_true p312
 replace q312 := eq_true q312
 have p313 : 0 ≤ (3 : Int) := (by omega)
 have q313 : 3 < (l0.length : Int) := of_decide_eq_true pS
 obtain ⟨Ah, e313, Ad⟩ := Kd.at_int HR0.out 3 p313 q313
 obtain rfl : Ae = Ah := (by injection e313)
 (try simp only [show (3 : Int).toNat = 3 from rfl, Nat.reduceMul, Nat.reduceEqDiff, Go.Addr.add, ↓reduceIte] at Ad)
 have qi313 : (3 < l0.length) = True := eq_true (by omega)
 (try rw [show ((3 : Int)).toNat = 3 from rfl] at Ad)
 replace p313 := eq_true p313
 replace q313 := eq_true q313
 go_enter Try.func88, Try.ntmps88
 go_wp2
 repeat (go_quiet (fail); try go_wp2)
 go_ret
 exact ⟨zr, zd⟩
end
section
attribute [local go_sem] max2_int min2_int max_two min_two max_three min_three max_four min_four
attribute [local go_sem] wrap64_l1 wrap64_l2 wrap64_l3 wrap64_l4 wrap64_l5
def point_Get.j0 : Nat → List Int → List Int → Int → Bool → Option (Int × Int × Int × Int × Int × Int)
 | 0, _, _, _, _ => none
 | k + 1, x0, x5, x6, x28 => if x28 = true then (some (0, 0, 0, 0, 0, 2)) else (if 0 < (x5.length : Int) then (if 1 < (x5.length : Int) then (if 2 < (x5.length : Int) then (if 0 ≤ x6 then (if x6 ≤ (x0.length : Int) then ((point_sumOf.f (x0.drop (x6 : Int).toNat)).bind fun t325 => ((point_Check.f (wrap64 (rd x5 0)) (wrap64 (rd x5 1)) (wrap64 (rd x5 2)) t325).bind fun t327 => (if t327 = 0 then (some (wrap64 (rd x5 0), wrap64 (rd x5 1), wrap64 (rd x5 2), t325, wrap64 (x6 + 4), 0)) else (some (0, 0, 0, 0, 0, 2))))) else (none)) else (none)) else (none)) else (none)) else (none))
def point_Get.f (k : Nat) (l0 : List Int) : Option (Int × Int × Int × Int × Int × Int) := (varint_All.f k l0 3).bind fun bt315 => (if bt315.2.2 = 0 then ((slices_Max_uint64_uint64.f k bt315.1).bind fun t320 => (if t320 > 2147483647 then (point_Get.j0 k l0 bt315.1 bt315.2.1 true) else (point_Get.j0 k l0 bt315.1 bt315.2.1 (decide ((wrap64 ((l0.length : Int) - bt315.2.1)) < 4))))) else (point_Get.j0 k l0 bt315.1 bt315.2.1 true))
theorem point_Get.mono_l : ∀ k, (∀ y0 y1 y2 y3, LeO (point_Get.j0 k y0 y1 y2 y3) (point_Get.j0 (k + 1) y0 y1 y2 y3))
 | 0 => fun _ _ _ _ r h => by simp [point_Get.j0] at h
 | k + 1 => by
  have ih0 := point_Get.mono_l k
  ·intro y0 y1 y2 y3
   unfold point_Get.j0
   repeat' (with_reducible first | exact ih0 .. | exact slices_Max_uint64_uint64.mono .. | exact varint_All.mono .. | exact LeO.refl .. | exact LeO.none .. | refine LeO.ite ?_ ?_ | refine LeO.bind ?_ (fun _ => ?_))
theorem point_Get.mono : ∀ a0 k, LeO (point_Get.f k a0) (point_Get.f (k + 1) a0) := by
 intro a0 k
 have ih0 := point_Get.mono_l k
 unfold point_Get.f
 repeat' (with_reducible first | exact ih0 .. | exact slices_Max_uint64_uint64.mono .. | exact varint_All.mono .. | exact LeO.refl .. | exact LeO.none .. | refine LeO.ite ?_ ?_ | refine LeO.bind ?_ (fun _ => ?_))
def point_Get.T4 : Bool × List (List Nat × List Nat) := (true, [([], []), ([0], [0]), ([1], [1]), ([2], [2]), ([], []), ([4], [4]), ([5], [5]), ([6], [6]), ([], []), ([8], [8]), ([9], [9]), ([10], [10]), ([], []), ([], []), ([12, 13], [12, 13]), ([14], [14]), ([3, 7, 11, 15], [3, 7, 11, 15]), ([], []), ([17, 16, 15, 0, 1, 2, 3, 4, 5, 6, 7, 8, 9, 10, 11, 12, 13, 14, 15, 16, 17], [16, 17])])
def point_Get.B4 : List Nat := [0, 1, 3, 7, 0, 16, 48, 112, 0, 256, 768, 1792, 0, 0, 12288, 28672, 65535, 0, 262143]
theorem point_Get.tab4 : rtab .any (opsOf Try.f84 4) = point_Get.T4 := by kernel_rfl
theorem point_Get.bits4 : waitsOk point_Get.T4.2 point_Get.B4 = true := by kernel_rfl
set_option maxHeartbeats 8000000 in
set_option maxRecDepth 100000 in
theorem point_Get.calls (k : Nat) (A0 : Option Addr) (c0 : Nat) (l0 : List Int) (r1 : Int) (r2 : Int) (r3 : Int) (r4 : Int) (r5 : Int) (r6 : Int) (w : World) (hr0 : Kd.C (Kd.int .u8) w A0 l0.length l0) (hc0 : l0.length ≤ c0) (h : point_Get.f k l0 = some (r1, r2, r3, r4, r5, r6)) :
 Calls Try.prog 84 #[.slice A0 l0.length c0] w fun e w' => e = .returned (.tuple #[.agg #[.int .i64 r1, .int .i64 r2, .int .i64 r3, .int .u32 r4], .int .i64 r5, .int .i64 r6]) ∧ Below w.heap.size w w' := by
 have hu48 := Try.underlying48
 have HR0 := Am hr0
 have HC0 := Am hc0
 clear hr0 hc0
 have HB := Am (Below.refl w.heap.size w)
 unfold point_Get.f at h
 have H := h
 clear h
 obtain ⟨⟨t315, t316, t317⟩, A2, H⟩ := zb H
 dsimp only at H
 have HC3 := Am H
 clear H
 go_enter Try.func84, Try.ntmps84
 go_upto_region 2 with (first | ((with_reducible refine zD 2 rfl ?_); (try (refine gate_guard (by rfl) ?_; dsimp only)); refine zE 2 #[.int .i64 0, .int .i64 0, .int .i64 0, .int .u32 0] 48 ?_; intro Ai hg w4 hbox hb; have Ab := Am (hbox); have A5 := zA hg HB; replace HB := zB HB hb; have Ah := A5; clear hb hbox hg) | ((with_reducible refine zC 43 rfl ?_); refine zL (some 11) Try.func43 #[.slice A0 l0.length c0, .int .i64 3] ?_; (with_reducible refine (varint_All.calls k _ _ l0 3 t315 t316 t317 _ ?Ao ?Ap A2.out).mono ?_); (case Ao => exact pC (Kd.C_below HR0.out HB.out)); (case Ap => exact HC0.out); rintro e w5 ⟨v318, rfl, ho0, hb⟩; refine ⟨_, rfl, ?_⟩; have Aq := Am (Kd.R_lower ho0 (below_size (pE HB.out Ah.out))); replace Ab := kBa Ab hb; replace HB := zX1 HB Ah.out hb; (try clear hb); (try clear ho0)))
 (try simp only [Act.put, List.setIfInBounds_toArray, List.set_cons_zero, List.set_cons_succ])
 go_cut [28] (fun v28 wc => ∃ (kq : Nat) (As : Bool), v28 = .bool As ∧ Aside0 (point_Get.j0 kq l0 t315 t316 As = some (r1, r2, r3, r4, r5, r6)) ∧ Aside0 (kq ≤ k) ∧ Aside0 (Kd.R (Kd.int .u64) 61 wc w.heap.size (fun _ => True) v318 t315) ∧ Aside0 (wc.heap[Ai]? = some (.cells #[.int .i64 0, .int .i64 0, .int .i64 0, .int .u32 0] 48 (0, 0))) ∧ Aside0 (Below w.heap.size w wc))
 case first =>
  have H := HC3.out
  clear HC3
  by_cases c6 : t317 = 0
  rotate_left
  ·rw [if_neg c6] at H
   obtain ⟨c6b0, c6b1⟩ := zk c6
   (first | rw [c6b0] | (simp only [i64_w, i32_w]; rw [c6b0]) | skip)
   have H' := Am H
   clear H
   go_wp2
   go_meet
   case rel => exact ⟨_, (true), zr, H', ⟨zo⟩, ⟨by (with_reducible repeat (first | apply Kd.R_alloc | apply Kd.R_drewN | apply Kd.R_drew)); exact Aq.out⟩, ⟨pK Ab.out⟩, ⟨pE HB.out Ah.out⟩⟩
  rw [if_pos c6] at H
  obtain ⟨c6b0, c6b1⟩ := zc c6
  clear c6
  (first | rw [c6b0] | (simp only [i64_w, i32_w]; rw [c6b0]) | skip)
  obtain ⟨t320, A7, H⟩ := zb H
  by_cases c8 : t320 > 2147483647
  ·rw [if_pos c8] at H
   have c8b0 : decide (2147483647 < t320) = true := decide_eq_true c8
   clear c8
   have H' := Am H
   clear H
   obtain ⟨Ao9, co9, A8⟩ := Kd.R_slice Aq.out
   subst A8
   go_wp2_with (first | (go_at_call 87; (with_reducible refine (slices_Max_uint64_uint64.calls k _ _ t315 t320 _ ?Ao ?Ap A7.out).mono ?_); (case Ao => exact pC (Kd.R_reads' Aq.out).2.2); (case Ap => exact (Kd.R_reads' Aq.out).2.1); rintro e w10 ⟨rfl, hb⟩; replace Aq := bRa Aq hb; replace Ab := kBa Ab hb; replace HB := zX1 HB Ah.out hb; (try clear hb)))
   go_meet
   case rel => exact ⟨_, (true), zr, H', ⟨zo⟩, ⟨by (with_reducible repeat (first | apply Kd.R_alloc | apply Kd.R_drewN | apply Kd.R_drew)); exact Aq.out⟩, ⟨pK Ab.out⟩, ⟨pE HB.out Ah.out⟩⟩
  rw [if_neg c8] at H
  have c8b0 : decide (2147483647 < t320) = false := decide_eq_false c8
  clear c8
  have H' := Am H
  clear H
  obtain ⟨Ao11, co11, A6⟩ := Kd.R_slice Aq.out
  subst A6
  go_wp2_with (first | (go_at_call 87; (with_reducible refine (slices_Max_uint64_uint64.calls k _ _ t315 t320 _ ?Ao ?Ap A7.out).mono ?_); (case Ao => exact pC (Kd.R_reads' Aq.out).2.2); (case Ap => exact (Kd.R_reads' Aq.out).2.1); rintro e w12 ⟨rfl, hb⟩; replace Aq := bRa Aq hb; replace Ab := kBa Ab hb; replace HB := zX1 HB Ah.out hb; (try clear hb)))
  go_meet
  case rel => exact ⟨_, (decide ((wrap64 ((l0.length : Int) - t316)) < 4)), zr, H', ⟨zo⟩, ⟨by (with_reducible repeat (first | apply Kd.R_alloc | apply Kd.R_drewN | apply Kd.R_drew)); exact Aq.out⟩, ⟨pK Ab.out⟩, ⟨pE HB.out Ah.out⟩⟩
 case rest =>
  clear HC3
  try clear p2
  try clear c4
  try clear c6
  try clear c6b0
  try clear c6b1
  try clear p6
  try clear c8
  try clear c8b0
  obtain ⟨kq, As, rfl, HA, HJ2, Af, Ab, HB⟩ := hcut
  cases kq with
  | zero => exact absurd HA.out (by simp [point_Get.j0])
  | succ kj2 =>
   have H := HA.out
   clear HA
   simp only [point_Get.j0] at H
   by_cases c13 : As = true
   ·subst c13
    rw [if_pos rfl] at H
    simp only [Option.some.injEq, Prod.mk.injEq] at H
    obtain ⟨rfl, rfl, rfl, rfl, rfl, rfl⟩ := H
    obtain ⟨_, _, _, _⟩ := bc4 Ab.out
    obtain ⟨_, _, _, _⟩ := bf4 Ab.out
    go_wp2
    refine bodyPost_ret (results_ctt rfl _ _ Ai 48 #[.int .i64 0, .int .i64 0, .int .i64 0, .int .u32 0] (0, 0) _ rfl (kX0 Ab.out) Try.underlying48 rfl (by kernel_rfl)) rfl ?_
    exact ⟨pX, pE HB.out Ah.out⟩
   replace c13 := Bool.eq_false_iff.mpr c13
   subst c13
   rw [if_neg zF] at H
   obtain ⟨c15, H⟩ := zI H
   have c15b0 := decide_eq_true c15
   have c15b1 : decide (0 < t315.length) = true := decide_eq_true (by omega)
   clear c15
   obtain ⟨c16, H⟩ := zI H
   have c16b0 := decide_eq_true c16
   have c16b1 : decide (1 < t315.length) = true := decide_eq_true (by omega)
   clear c16
   obtain ⟨c17, H⟩ := zI H
   have c17b0 := decide_eq_true c17
   have c17b1 : decide (2 < t315.length) = true := decide_eq_true (by omega)
   clear c17
   obtain ⟨c18, H⟩ := zI H
   have c18b0 := eq_true c18
   have c18b1 := decide_eq_true c18
   clear c18
   obtain ⟨c19, H⟩ := zI H
   have c19b0 := eq_true c19
   have c19b1 := decide_eq_true c19
   clear c19
   obtain ⟨t325, A20, H⟩ := zb H
   obtain ⟨t327, A21, H⟩ := zb H
   by_cases c22 : t327 = 0
   rotate_left
   ·rw [if_neg c22] at H
    obtain ⟨c22b0, c22b1⟩ := zk c22
    simp only [Option.some.injEq, Prod.mk.injEq] at H
    obtain ⟨rfl, rfl, rfl, rfl, rfl, rfl⟩ := H
    try go_wp2
    replace Af := dRa Af
    replace Ab := kDa Ab
    replace HB := bDa HB
    obtain ⟨Ao38, A1, A3⟩ := Kd.R_slice Af.out
    (first | subst A3 | (injection A3 with f1_ f2_ f3_; have f4_ := f1_.symm; have f5_ := f3_.symm; clear f1_ f2_ f3_; subst f4_; subst f5_))
    have p321 : 0 ≤ (0 : Int) := (by omega)
    have q321 : 0 < (t315.length : Int) := of_decide_eq_true pS
    obtain ⟨Ag, e321, Aj⟩ := Kd.at_int (Kd.R_reads' Af.out).2.2 0 p321 q321
    cases e321
    have qi321 : (0 < t315.length) = True := eq_true (by omega)
    (try simp only [tz, Addr.add_zero'] at Aj)
    replace p321 := eq_true p321
    replace q321 := eq_true q321
    have p322 : 0 ≤ (1 : Int) := (by omega)
    have q322 : 1 < (t315.length : Int) := of_decide_eq_true pS
    obtain ⟨At, e322, Ak⟩ := Kd.at_int (Kd.R_reads' Af.out).2.2 1 p322 q322
    obtain rfl : Ag = At := (by injection e322)
    (try simp only [show (1 : Int).toNat = 1 from rfl, Nat.reduceMul, Nat.reduceEqDiff, Go.Addr.add, ↓reduceIte] at Ak)
    have qi322 : (1 < t315.length) = True := eq_true (by omega)
    (try rw [show ((1 : Int)).toNat = 1 from rfl] at Ak)
    replace p322 := eq_true p322
    replace q322 := eq_true q322
    have p323 : 0 ≤ (2 : Int) := (by omega)
    have q323 : 2 < (t315.length : Int) := of_decide_eq_true pS
    obtain ⟨Au, e323, Al⟩ := Kd.at_int (Kd.R_reads' Af.out).2.2 2 p323 q323
    obtain rfl : Ag = Au := (by injection e323)
    (try simp only [show (2 : Int).toNat = 2 from rfl, Nat.reduceMul, Nat.reduceEqDiff, Go.Addr.add, ↓reduceIte] at Al)
    have qi323 : (2 < t315.length) = True := eq_true (by omega)
    (try rw [show ((2 : Int)).toNat = 2 from rfl] at Al)
    replace p323 := eq_true p323
    replace q323 := eq_true q323
    obtain ⟨i039, hi039, _, Aw, _⟩ := info_parts info5
    obtain ⟨A39, hcut39, hA39, A4⟩ := print_drop_of (P := Try.prog) (Value.int .u8) 0 22 5 .i64 Try.underlying22 hi039 Aw A0 c0 l0 t316 (of_decide_eq_true pS) (of_decide_eq_true pS) HC0.out
    have HR324 := Am (Kd.C_of_reads (h1 := fun _ => rfl) (hA39 _ (Kd.reads_of_C HR0.out)))
    have HC324 := Am A4
    clear hA39 A4 hi039 Aw
    refine start_ (n := 19) (S := fun w' => w'.cell? Ag = some (.int .u64 (rd t315 0)) ∧ cA w' Ag 1 (.int .u64 (rd t315 1)) ∧ cA w' Ag 2 (.int .u64 (rd t315 2))) (ds := []) #[false, false, false, false, false, false, false, false, false, false, false, false, false, false, false, false, false, false, false] (by kernel_rfl) rfl rfl ⟨Aj, Ak, Al⟩ (fun hHeld => ?_); refine with_tabW point_Get.tab4 point_Get.bits4 (fun HT_ HW_ => ?_)
    (first | generalize wc.drew = w37 at Af Ab HB HR324 Aj Ak Al hHeld ⊢ | generalize wc.drew = w37 at Ab HB HR324 Aj Ak Al hHeld ⊢)
    refine pui 0 30 19 1 HT_ ?_
    refine zp 1 (h := zp 4 (h := zp 5 (h := zp 8 (h := zp 9 (h := zp 12 (h := zp 13 (h := zp 14 (h := zw 2 (h := zp 3 (h := zw 6 (h := zp 7 (h := zw 10 (h := zp 11 (h := ?_))))))))))))))
    refine join_ (σ := Nat) 1 #[true, true, true, true, true, true, true, true, true, true, true, true, true, true, true, true, true, true, false] (fun s_ => [(45, .int .u32 t325), (8, .pointer (some ⟨s_, 0, none⟩)), (46, .agg #[.int .i64 (wrap64 (rd t315 0)), .int .i64 (wrap64 (rd t315 1)), .int .i64 (wrap64 (rd t315 2)), .int .u32 t325])]) (fun s_ w' => (w'.cell? Ag = some (.int .u64 (rd t315 0)) ∧ cA w' Ag 1 (.int .u64 (rd t315 1)) ∧ cA w' Ag 2 (.int .u64 (rd t315 2))) ∧ (Kd.R (Kd.int .u64) 61 w' w.heap.size (fun _ => True) (.slice (some Ag) t315.length A1) t315) ∧ (w'.heap[Ai]? = some (.cells #[.int .i64 0, .int .i64 0, .int .i64 0, .int .u32 0] 48 (0, 0))) ∧ (w'.heap[s_]? = some (.cells #[.int .i64 0, .int .i64 0, .int .i64 0, .int .u32 0] 48 (0, 0))) ∧ (w.heap.size ≤ s_) ∧ (w.heap.size ≤ s_) ∧ (Ai ≠ s_) ∧ (s_ ≠ Ai) ∧ (Below w.heap.size w w')) ?_ ?_
    rotate_left
    ·intro hCont
     refine two_ (i := 15) (j := 17) (Ni := some 45) (Nj := some 8) (bw 19 65535) #[true, true, true, true, true, true, true, true, true, true, true, true, true, true, true, false, false, true, false] rfl rfl rfl rfl (two_of HT_.out (by kernel_rfl)) (by decide) (by decide) (fun K hK => ?_) (fun K hK => ?_)
     ·skip
      refine goes_ Try.func88 (by kernel_rfl) rfl #[.slice A39 (l0.drop (t316 : Int).toNat).length (c0 - t316.toNat)] (by rfl) rfl rfl (by (try simp only [List.map_toArray, List.map_cons, List.map_nil]); first | done | (rw [show (l0.drop (t316 : Int).toNat).length = (l0.length - t316.toNat) from List.length_drop] <;> rfl) | rfl | (simp only [List.length_drop, List.length_take]; rfl)) ?_
      with_reducible refine (point_sumOf.calls _ _ (l0.drop (t316 : Int).toNat) t325 _ ?Ao ?Ap A20.out).mono ?_
      (case Ao => exact pC (Kd.C_below HR324.out HB.out))
      (case Ap => exact HC324.out)
      rintro e w' ⟨rfl, ⟨nd, rfl⟩⟩
      refine ⟨_, rfl, ?_⟩
      refine hK.out _ _ ⟨hHeld.1, hHeld.2.1, hHeld.2.2⟩ (fun hHeld => ?_)
      clear hK K
      refine norm_ (a' := ?_) ?_ ?_
      rotate_left
      ·show Act.put _ (some 45) _ = _
       simp only [Act.put, List.setIfInBounds_toArray, List.set_cons_zero, List.set_cons_succ, i64_w, i32_w]
       rfl
      refine pui 16 46 19 131071 HT_ ?_
      refine onei 17 8 19 262143 HT_ (fun K hK => ?_)
      refine box_step ?hg (N := 8) ?hd (cs := #[.int .i64 0, .int .i64 0, .int .i64 0, .int .u32 0]) (t := 48) ?hr ?_; (case hd => rfl); (case hg => rfl); (case hr => first | (go_simp; done) | (go_simp; rfl))
      intro Ad hg w40 hbox hb
      have HS0_ := zH hb hHeld.1
      have HS1_ := zH hb hHeld.2.1
      have HS2_ := zH hb hHeld.2.2
      replace Af := bRa Af hb
      have Aa := Am (hbox)
      have Ar := zY1 hg HB Ah.out
      have An := zY1 hg HB Ah.out
      replace HB := zX1 HB Ah.out hb
      have Ac := Am (zN hg (kL Ab.out))
      have Ae := Am (zM hg (kL Ab.out))
      replace Ab := kBa Ab hb
      clear hb hbox hg
      refine hK.out _ _ ⟨HS0_, HS1_, HS2_⟩ (fun hHeld => ?_)
      clear hK K
      refine norm_ (a' := ?_) ?_ ?_
      rotate_left
      ·show Act.put _ (some 8) _ = _
       simp only [Act.put, List.setIfInBounds_toArray, List.set_cons_zero, List.set_cons_succ, i64_w, i32_w]
       rfl
      exact norm_ (by simp only [putAll, Act.put, List.setIfInBounds_toArray, List.set_cons_zero, List.set_cons_succ]) (hCont (Ad) _ ⟨hHeld, (pR Af.out), (pK Ab.out), (pK Aa.out), Ar.out, An.out, Ac.out, Ae.out, (pE2 HB.out Ah.out An.out)⟩)
     skip
     refine box_step ?hg (N := 8) ?hd (cs := #[.int .i64 0, .int .i64 0, .int .i64 0, .int .u32 0]) (t := 48) ?hr ?_; (case hd => rfl); (case hg => rfl); (case hr => first | (go_simp; done) | (go_simp; rfl))
     intro Ad hg w40 hbox hb
     have HS0_ := zH hb hHeld.1
     have HS1_ := zH hb hHeld.2.1
     have HS2_ := zH hb hHeld.2.2
     replace Af := bRa Af hb
     have Aa := Am (hbox)
     have Ar := zY1 hg HB Ah.out
     have An := zY1 hg HB Ah.out
     replace HB := zX1 HB Ah.out hb
     have Ac := Am (zN hg (kL Ab.out))
     have Ae := Am (zM hg (kL Ab.out))
     replace Ab := kBa Ab hb
     clear hb hbox hg
     refine hK.out _ _ ⟨HS0_, HS1_, HS2_⟩ (fun hHeld => ?_)
     clear hK K
     refine norm_ (a' := ?_) ?_ ?_
     rotate_left
     ·show Act.put _ (some 8) _ = _
      simp only [Act.put, List.setIfInBounds_toArray, List.set_cons_zero, List.set_cons_succ, i64_w, i32_w]
      rfl
     refine onei 15 45 19 196607 HT_ (fun K hK => ?_)
     refine goes_ Try.func88 (by kernel_rfl) rfl #[.slice A39 (l0.drop (t316 : Int).toNat).length (c0 - t316.toNat)] (by rfl) rfl rfl (by (try simp only [List.map_toArray, List.map_cons, List.map_nil]); first | done | (rw [show (l0.drop (t316 : Int).toNat).length = (l0.length - t316.toNat) from List.length_drop] <;> rfl) | rfl | (simp only [List.length_drop, List.length_take]; rfl)) ?_
     with_reducible refine (point_sumOf.calls _ _ (l0.drop (t316 : Int).toNat) t325 _ ?Ao ?Ap A20.out).mono ?_
     (case Ao => exact pC (Kd.C_below HR324.out HB.out))
     (case Ap => exact HC324.out)
     rintro e w' ⟨rfl, ⟨nd, rfl⟩⟩
     refine ⟨_, rfl, ?_⟩
     refine hK.out _ _ ⟨hHeld.1, hHeld.2.1, hHeld.2.2⟩ (fun hHeld => ?_)
     clear hK K
     refine norm_ (a' := ?_) ?_ ?_
     rotate_left
     ·show Act.put _ (some 45) _ = _
      simp only [Act.put, List.setIfInBounds_toArray, List.set_cons_zero, List.set_cons_succ, i64_w, i32_w]
      rfl
     refine pui 16 46 19 262143 HT_ ?_
     exact norm_ (by simp only [putAll, Act.put, List.setIfInBounds_toArray, List.set_cons_zero, List.set_cons_succ]) (hCont (Ad) _ ⟨hHeld, (pR Af.out), (pK Ab.out), (pK Aa.out), Ar.out, An.out, Ac.out, Ae.out, (pE2 HB.out Ah.out An.out)⟩)
    rintro Ad w41 ⟨hS_, h0_, h1_, h2_, h3_, h4_, h5_, h6_, h7_⟩
    replace Af : Aside0 (Kd.R (Kd.int .u64) 61 w41 w.heap.size (fun _ => True) (.slice (some Ag) t315.length A1) t315) := ⟨h0_⟩
    replace Ab : Aside0 (w41.heap[Ai]? = some (.cells #[.int .i64 0, .int .i64 0, .int .i64 0, .int .u32 0] 48 (0, 0))) := ⟨h1_⟩
    have Aa : Aside0 (w41.heap[Ad]? = some (.cells #[.int .i64 0, .int .i64 0, .int .i64 0, .int .u32 0] 48 (0, 0))) := ⟨h2_⟩
    have Ar : Aside0 (w.heap.size ≤ Ad) := ⟨h3_⟩
    have An : Aside0 (w.heap.size ≤ Ad) := ⟨h4_⟩
    have Ac : Aside0 (Ai ≠ Ad) := ⟨h5_⟩
    have Ae : Aside0 (Ad ≠ Ai) := ⟨h6_⟩
    replace HB : Aside0 (Below w.heap.size w w41) := ⟨h7_⟩
    clear h0_ h1_ h2_ h3_ h4_ h5_ h6_ h7_
    have hHeld : w41.cell? Ag = some (.int .u64 (rd t315 0)) ∧ w41.cell? ⟨Ag.block, Ag.off + 1, none⟩ = some (.int .u64 (rd t315 1)) ∧ w41.cell? ⟨Ag.block, Ag.off + 2, none⟩ = some (.int .u64 (rd t315 2)) := hS_
    refine norm_ (a' := ?_) ?_ ?_
    rotate_left
    ·simp only [putAll, Act.put, List.setIfInBounds_toArray, List.set_cons_zero, List.set_cons_succ]
     rfl
    refine one_ (i := 18) (N := none) (bw 19 524287) rfl rfl (one_of HT_.out (by kernel_rfl)) (by decide) (fun K hK => ?_)
    have hs42 : w41.cell? ⟨Ad, 0, none⟩ = some (.int .i64 0) := (blk_cell Aa.out 0).trans rfl
    have hfs42 := blk_frozen Aa.out 0
    have hns42_0 := Ac.out
    have hms42_0 := Ae.out
    have hs43 : w41.cell? ⟨Ad, 1, none⟩ = some (.int .i64 0) := (blk_cell Aa.out 1).trans rfl
    have hfs43 := blk_frozen Aa.out 1
    have hns43_0 := Ac.out
    have hms43_0 := Ae.out
    have hs44 : w41.cell? ⟨Ad, 2, none⟩ = some (.int .i64 0) := (blk_cell Aa.out 2).trans rfl
    have hfs44 := blk_frozen Aa.out 2
    have hns44_0 := Ac.out
    have hms44_0 := Ae.out
    have hs45 : w41.cell? ⟨Ad, 3, none⟩ = some (.int .u32 0) := (blk_cell Aa.out 3).trans rfl
    have hfs45 := blk_frozen Aa.out 3
    have hns45_0 := Ac.out
    have hms45_0 := Ae.out
    refine skip_ (w1 := ?_) (by rfl) rfl ?_ ?_
    rotate_left
    ·go_simp
     rfl
    refine hK.out _ _ ⟨(cX1 hHeld.1 (by first | exact Kd.own_blk (Kd.R_ne Af.out Aa.out (by decide)) | (rw [add_block]; exact Kd.own_blk (Kd.R_ne Af.out Aa.out (by decide))) | (show (Addr.add _ _).block ≠ _; rw [add_block]; exact Kd.own_blk (Kd.R_ne Af.out Aa.out (by decide))) | (dsimp only; exact Kd.own_blk (Kd.R_ne Af.out Aa.out (by decide))))), (cX1 hHeld.2.1 (by first | exact Kd.own_blk (Kd.R_ne Af.out Aa.out (by decide)) | (rw [add_block]; exact Kd.own_blk (Kd.R_ne Af.out Aa.out (by decide))) | (show (Addr.add _ _).block ≠ _; rw [add_block]; exact Kd.own_blk (Kd.R_ne Af.out Aa.out (by decide))) | (dsimp only; exact Kd.own_blk (Kd.R_ne Af.out Aa.out (by decide))))), (cX1 hHeld.2.2 (by first | exact Kd.own_blk (Kd.R_ne Af.out Aa.out (by decide)) | (rw [add_block]; exact Kd.own_blk (Kd.R_ne Af.out Aa.out (by decide))) | (show (Addr.add _ _).block ≠ _; rw [add_block]; exact Kd.own_blk (Kd.R_ne Af.out Aa.out (by decide))) | (dsimp only; exact Kd.own_blk (Kd.R_ne Af.out Aa.out (by decide)))))⟩ (fun hHeld => ?_)
    clear hK K
    refine done_ (done_of HT_.out (by kernel_rfl)) ?_
    have hnb46 := Ae.out
    have hnc46 := Ac.out
    obtain ⟨_, _, _, _⟩ := bc4 Aa.out
    obtain ⟨_, _, _, _⟩ := bf4 Aa.out
    try go_wp2_with (first | ((with_reducible refine zC 80 rfl ?_); refine zL (some 48) Try.func80 #[.agg #[.int .i64 (wrap64 (rd t315 0)), .int .i64 (wrap64 (rd t315 1)), .int .i64 (wrap64 (rd t315 2)), .int .u32 t325]] ?_; (with_reducible refine (point_Check.calls (wrap64 (rd t315 0)) (wrap64 (rd t315 1)) (wrap64 (rd t315 2)) t325 t327 _ A21.out).mono ?_); rintro e w48 ⟨rfl, hb⟩; refine ⟨_, rfl, ?_⟩; replace Af := Am (Kd.R_below (by (with_reducible repeat (first | apply Kd.R_alloc | apply Kd.R_drewN | apply Kd.R_drew)); exact (Kd.R_mono (Rf4 (g := Ad) (Kd.R_types Af.out Aa.out (by decide)) (fun _ hk => hk.2)) (fun _ h_ => h_.1))) hb); replace Ab := Am (blk_below (g := Ai) (kX1 Ab.out Ac.out) hb); replace Aa := Am (blk_below (g := Ad) (kX0 Aa.out) hb); replace HB := zX2 HB Ah.out An.out hb; (try clear hb); (try clear hk); obtain ⟨_, _, _, _⟩ := bc4 Ab.out; obtain ⟨_, _, _, _⟩ := bf4 Ab.out))
    refine bodyPost_ret (results_ctt rfl _ _ Ai 48 #[.int .i64 0, .int .i64 0, .int .i64 0, .int .u32 0] (0, 0) _ rfl (kX0 Ab.out) Try.underlying48 rfl (by kernel_rfl)) rfl ?_
    exact ⟨pX, pE2 HB.out Ah.out An.out⟩
   rw [if_pos c22] at H
   obtain ⟨c22b0, c22b1⟩ := zc c22
   clear c22
   simp only [Option.some.injEq, Prod.mk.injEq] at H
   obtain ⟨rfl, rfl, rfl, rfl, rfl, rfl⟩ := H
   try go_wp2
   replace Af := dRa Af
   replace Ab := kDa Ab
   replace HB := bDa HB
   obtain ⟨Ao24, Ax, Ay⟩ := Kd.R_slice Af.out
   (first | subst Ay | (injection Ay with f1_ f2_ f3_; have f4_ := f1_.symm; have f5_ := f3_.symm; clear f1_ f2_ f3_; subst f4_; subst f5_))
   have p321 : 0 ≤ (0 : Int) := (by omega)
   have q321 : 0 < (t315.length : Int) := of_decide_eq_true pS
   obtain ⟨Ag, e321, Aj⟩ := Kd.at_int (Kd.R_reads' Af.out).2.2 0 p321 q321
   cases e321
   have qi321 : (0 < t315.length) = True := eq_true (by omega)
   (try simp only [tz, Addr.add_zero'] at Aj)
   replace p321 := eq_true p321
   replace q321 := eq_true q321
   have p322 : 0 ≤ (1 : Int) := (by omega)
   have q322 : 1 < (t315.length : Int) := of_decide_eq_true pS
   obtain ⟨At, e322, Ak⟩ := Kd.at_int (Kd.R_reads' Af.out).2.2 1 p322 q322
   obtain rfl : Ag = At := (by injection e322)
   (try simp only [show (1 : Int).toNat = 1 from rfl, Nat.reduceMul, Nat.reduceEqDiff, Go.Addr.add, ↓reduceIte] at Ak)
   have qi322 : (1 < t315.length) = True := eq_true (by omega)
   (try rw [show ((1 : Int)).toNat = 1 from rfl] at Ak)
   replace p322 := eq_true p322
   replace q322 := eq_true q322
   have p323 : 0 ≤ (2 : Int) := (by omega)
   have q323 : 2 < (t315.length : Int) := of_decide_eq_true pS
   obtain ⟨Au, e323, Al⟩ := Kd.at_int (Kd.R_reads' Af.out).2.2 2 p323 q323
   obtain rfl : Ag = Au := (by injection e323)
   (try simp only [show (2 : Int).toNat = 2 from rfl, Nat.reduceMul, Nat.reduceEqDiff, Go.Addr.add, ↓reduceIte] at Al)
   have qi323 : (2 < t315.length) = True := eq_true (by omega)
   (try rw [show ((2 : Int)).toNat = 2 from rfl] at Al)
   replace p323 := eq_true p323
   replace q323 := eq_true q323
   obtain ⟨i025, hi025, _, Av, _⟩ := info_parts info5
   obtain ⟨A25, hcut25, hA25, Az⟩ := print_drop_of (P := Try.prog) (Value.int .u8) 0 22 5 .i64 Try.underlying22 hi025 Av A0 c0 l0 t316 (of_decide_eq_true pS) (of_decide_eq_true pS) HC0.out
   have HR324 := Am (Kd.C_of_reads (h1 := fun _ => rfl) (hA25 _ (Kd.reads_of_C HR0.out)))
   have HC324 := Am Az
   clear hA25 Az hi025 Av
   refine start_ (n := 19) (S := fun w' => w'.cell? Ag = some (.int .u64 (rd t315 0)) ∧ cA w' Ag 1 (.int .u64 (rd t315 1)) ∧ cA w' Ag 2 (.int .u64 (rd t315 2))) (ds := []) #[false, false, false, false, false, false, false, false, false, false, false, false, false, false, false, false, false, false, false] (by kernel_rfl) rfl rfl ⟨Aj, Ak, Al⟩ (fun hHeld => ?_); refine with_tabW point_Get.tab4 point_Get.bits4 (fun HT_ HW_ => ?_)
   (first | generalize wc.drew = w23 at Af Ab HB HR324 Aj Ak Al hHeld ⊢ | generalize wc.drew = w23 at Ab HB HR324 Aj Ak Al hHeld ⊢)
   refine pui 0 30 19 1 HT_ ?_
   refine zp 1 (h := zp 4 (h := zp 5 (h := zp 8 (h := zp 9 (h := zp 12 (h := zp 13 (h := zp 14 (h := zw 2 (h := zp 3 (h := zw 6 (h := zp 7 (h := zw 10 (h := zp 11 (h := ?_))))))))))))))
   refine join_ (σ := Nat) 1 #[true, true, true, true, true, true, true, true, true, true, true, true, true, true, true, true, true, true, false] (fun s_ => [(45, .int .u32 t325), (8, .pointer (some ⟨s_, 0, none⟩)), (46, .agg #[.int .i64 (wrap64 (rd t315 0)), .int .i64 (wrap64 (rd t315 1)), .int .i64 (wrap64 (rd t315 2)), .int .u32 t325])]) (fun s_ w' => (w'.cell? Ag = some (.int .u64 (rd t315 0)) ∧ cA w' Ag 1 (.int .u64 (rd t315 1)) ∧ cA w' Ag 2 (.int .u64 (rd t315 2))) ∧ (Kd.R (Kd.int .u64) 61 w' w.heap.size (fun _ => True) (.slice (some Ag) t315.length Ax) t315) ∧ (w'.heap[Ai]? = some (.cells #[.int .i64 0, .int .i64 0, .int .i64 0, .int .u32 0] 48 (0, 0))) ∧ (w'.heap[s_]? = some (.cells #[.int .i64 0, .int .i64 0, .int .i64 0, .int .u32 0] 48 (0, 0))) ∧ (w.heap.size ≤ s_) ∧ (w.heap.size ≤ s_) ∧ (Ai ≠ s_) ∧ (s_ ≠ Ai) ∧ (Below w.heap.size w w')) ?_ ?_
   rotate_left
   ·intro hCont
    refine two_ (i := 15) (j := 17) (Ni := some 45) (Nj := some 8) (bw 19 65535) #[true, true, true, true, true, true, true, true, true, true, true, true, true, true, true, false, false, true, false] rfl rfl rfl rfl (two_of HT_.out (by kernel_rfl)) (by decide) (by decide) (fun K hK => ?_) (fun K hK => ?_)
    ·skip
     refine goes_ Try.func88 (by kernel_rfl) rfl #[.slice A25 (l0.drop (t316 : Int).toNat).length (c0 - t316.toNat)] (by rfl) rfl rfl (by (try simp only [List.map_toArray, List.map_cons, List.map_nil]); first | done | (rw [show (l0.drop (t316 : Int).toNat).length = (l0.length - t316.toNat) from List.length_drop] <;> rfl) | rfl | (simp only [List.length_drop, List.length_take]; rfl)) ?_
     with_reducible refine (point_sumOf.calls _ _ (l0.drop (t316 : Int).toNat) t325 _ ?Ao ?Ap A20.out).mono ?_
     (case Ao => exact pC (Kd.C_below HR324.out HB.out))
     (case Ap => exact HC324.out)
     rintro e w' ⟨rfl, ⟨nd, rfl⟩⟩
     refine ⟨_, rfl, ?_⟩
     refine hK.out _ _ ⟨hHeld.1, hHeld.2.1, hHeld.2.2⟩ (fun hHeld => ?_)
     clear hK K
     refine norm_ (a' := ?_) ?_ ?_
     rotate_left
     ·show Act.put _ (some 45) _ = _
      simp only [Act.put, List.setIfInBounds_toArray, List.set_cons_zero, List.set_cons_succ, i64_w, i32_w]
      rfl
     refine pui 16 46 19 131071 HT_ ?_
     refine onei 17 8 19 262143 HT_ (fun K hK => ?_)
     refine box_step ?hg (N := 8) ?hd (cs := #[.int .i64 0, .int .i64 0, .int .i64 0, .int .u32 0]) (t := 48) ?hr ?_; (case hd => rfl); (case hg => rfl); (case hr => first | (go_simp; done) | (go_simp; rfl))
     intro Ad hg w26 hbox hb
     have HS0_ := zH hb hHeld.1
     have HS1_ := zH hb hHeld.2.1
     have HS2_ := zH hb hHeld.2.2
     replace Af := bRa Af hb
     have Aa := Am (hbox)
     have Ar := zY1 hg HB Ah.out
     have An := zY1 hg HB Ah.out
     replace HB := zX1 HB Ah.out hb
     have Ac := Am (zN hg (kL Ab.out))
     have Ae := Am (zM hg (kL Ab.out))
     replace Ab := kBa Ab hb
     clear hb hbox hg
     refine hK.out _ _ ⟨HS0_, HS1_, HS2_⟩ (fun hHeld => ?_)
     clear hK K
     refine norm_ (a' := ?_) ?_ ?_
     rotate_left
     ·show Act.put _ (some 8) _ = _
      simp only [Act.put, List.setIfInBounds_toArray, List.set_cons_zero, List.set_cons_succ, i64_w, i32_w]
      rfl
     exact norm_ (by simp only [putAll, Act.put, List.setIfInBounds_toArray, List.set_cons_zero, List.set_cons_succ]) (hCont (Ad) _ ⟨hHeld, (pR Af.out), (pK Ab.out), (pK Aa.out), Ar.out, An.out, Ac.out, Ae.out, (pE2 HB.out Ah.out An.out)⟩)
    skip
    refine box_step ?hg (N := 8) ?hd (cs := #[.int .i64 0, .int .i64 0, .int .i64 0, .int .u32 0]) (t := 48) ?hr ?_; (case hd => rfl); (case hg => rfl); (case hr => first | (go_simp; done) | (go_simp; rfl))
    intro Ad hg w26 hbox hb
    have HS0_ := zH hb hHeld.1
    have HS1_ := zH hb hHeld.2.1
    have HS2_ := zH hb hHeld.2.2
    replace Af := bRa Af hb
    have Aa := Am (hbox)
    have Ar := zY1 hg HB Ah.out
    have An := zY1 hg HB Ah.out
    replace HB := zX1 HB Ah.out hb
    have Ac := Am (zN hg (kL Ab.out))
    have Ae := Am (zM hg (kL Ab.out))
    replace Ab := kBa Ab hb
    clear hb hbox hg
    refine hK.out _ _ ⟨HS0_, HS1_, HS2_⟩ (fun hHeld => ?_)
    clear hK K
    refine norm_ (a' := ?_) ?_ ?_
    rotate_left
    ·show Act.put _ (some 8) _ = _
     simp only [Act.put, List.setIfInBounds_toArray, List.set_cons_zero, List.set_cons_succ, i64_w, i32_w]
     rfl
    refine onei 15 45 19 196607 HT_ (fun K hK => ?_)
    refine goes_ Try.func88 (by kernel_rfl) rfl #[.slice A25 (l0.drop (t316 : Int).toNat).length (c0 - t316.toNat)] (by rfl) rfl rfl (by (try simp only [List.map_toArray, List.map_cons, List.map_nil]); first | done | (rw [show (l0.drop (t316 : Int).toNat).length = (l0.length - t316.toNat) from List.length_drop] <;> rfl) | rfl | (simp only [List.length_drop, List.length_take]; rfl)) ?_
    with_reducible refine (point_sumOf.calls _ _ (l0.drop (t316 : Int).toNat) t325 _ ?Ao ?Ap A20.out).mono ?_
    (case Ao => exact pC (Kd.C_below HR324.out HB.out))
    (case Ap => exact HC324.out)
    rintro e w' ⟨rfl, ⟨nd, rfl⟩⟩
    refine ⟨_, rfl, ?_⟩
    refine hK.out _ _ ⟨hHeld.1, hHeld.2.1, hHeld.2.2⟩ (fun hHeld => ?_)
    clear hK K
    refine norm_ (a' := ?_) ?_ ?_
    rotate_left
    ·show Act.put _ (some 45) _ = _
     simp only [Act.put, List.setIfInBounds_toArray, List.set_cons_zero, List.set_cons_succ, i64_w, i32_w]
     rfl
    refine pui 16 46 19 262143 HT_ ?_
    exact norm_ (by simp only [putAll, Act.put, List.setIfInBounds_toArray, List.set_cons_zero, List.set_cons_succ]) (hCont (Ad) _ ⟨hHeld, (pR Af.out), (pK Ab.out), (pK Aa.out), Ar.out, An.out, Ac.out, Ae.out, (pE2 HB.out Ah.out An.out)⟩)
   rintro Ad w27 ⟨hS_, h0_, h1_, h2_, h3_, h4_, h5_, h6_, h7_⟩
   replace Af : Aside0 (Kd.R (Kd.int .u64) 61 w27 w.heap.size (fun _ => True) (.slice (some Ag) t315.length Ax) t315) := ⟨h0_⟩
   replace Ab : Aside0 (w27.heap[Ai]? = some (.cells #[.int .i64 0, .int .i64 0, .int .i64 0, .int .u32 0] 48 (0, 0))) := ⟨h1_⟩
   have Aa : Aside0 (w27.heap[Ad]? = some (.cells #[.int .i64 0, .int .i64 0, .int .i64 0, .int .u32 0] 48 (0, 0))) := ⟨h2_⟩
   have Ar : Aside0 (w.heap.size ≤ Ad) := ⟨h3_⟩
   have An : Aside0 (w.heap.size ≤ Ad) := ⟨h4_⟩
   have Ac : Aside0 (Ai ≠ Ad) := ⟨h5_⟩
   have Ae : Aside0 (Ad ≠ Ai) := ⟨h6_⟩
   replace HB : Aside0 (Below w.heap.size w w27) := ⟨h7_⟩
   clear h0_ h1_ h2_ h3_ h4_ h5_ h6_ h7_
   have hHeld : w27.cell? Ag = some (.int .u64 (rd t315 0)) ∧ w27.cell? ⟨Ag.block, Ag.off + 1, none⟩ = some (.int .u64 (rd t315 1)) ∧ w27.cell? ⟨Ag.block, Ag.off + 2, none⟩ = some (.int .u64 (rd t315 2)) := hS_
   refine norm_ (a' := ?_) ?_ ?_
   rotate_left
   ·simp only [putAll, Act.put, List.setIfInBounds_toArray, List.set_cons_zero, List.set_cons_succ]
    rfl
   refine one_ (i := 18) (N := none) (bw 19 524287) rfl rfl (one_of HT_.out (by kernel_rfl)) (by decide) (fun K hK => ?_)
   have hs28 : w27.cell? ⟨Ad, 0, none⟩ = some (.int .i64 0) := (blk_cell Aa.out 0).trans rfl
   have hfs28 := blk_frozen Aa.out 0
   have hns28_0 := Ac.out
   have hms28_0 := Ae.out
   have hs29 : w27.cell? ⟨Ad, 1, none⟩ = some (.int .i64 0) := (blk_cell Aa.out 1).trans rfl
   have hfs29 := blk_frozen Aa.out 1
   have hns29_0 := Ac.out
   have hms29_0 := Ae.out
   have hs30 : w27.cell? ⟨Ad, 2, none⟩ = some (.int .i64 0) := (blk_cell Aa.out 2).trans rfl
   have hfs30 := blk_frozen Aa.out 2
   have hns30_0 := Ac.out
   have hms30_0 := Ae.out
   have hs31 : w27.cell? ⟨Ad, 3, none⟩ = some (.int .u32 0) := (blk_cell Aa.out 3).trans rfl
   have hfs31 := blk_frozen Aa.out 3
   have hns31_0 := Ac.out
   have hms31_0 := Ae.out
   refine skip_ (w1 := ?_) (by rfl) rfl ?_ ?_
   rotate_left
   ·go_simp
    rfl
   refine hK.out _ _ ⟨(cX1 hHeld.1 (by first | exact Kd.own_blk (Kd.R_ne Af.out Aa.out (by decide)) | (rw [add_block]; exact Kd.own_blk (Kd.R_ne Af.out Aa.out (by decide))) | (show (Addr.add _ _).block ≠ _; rw [add_block]; exact Kd.own_blk (Kd.R_ne Af.out Aa.out (by decide))) | (dsimp only; exact Kd.own_blk (Kd.R_ne Af.out Aa.out (by decide))))), (cX1 hHeld.2.1 (by first | exact Kd.own_blk (Kd.R_ne Af.out Aa.out (by decide)) | (rw [add_block]; exact Kd.own_blk (Kd.R_ne Af.out Aa.out (by decide))) | (show (Addr.add _ _).block ≠ _; rw [add_block]; exact Kd.own_blk (Kd.R_ne Af.out Aa.out (by decide))) | (dsimp only; exact Kd.own_blk (Kd.R_ne Af.out Aa.out (by decide))))), (cX1 hHeld.2.2 (by first | exact Kd.own_blk (Kd.R_ne Af.out Aa.out (by decide)) | (rw [add_block]; exact Kd.own_blk (Kd.R_ne Af.out Aa.out (by decide))) | (show (Addr.add _ _).block ≠ _; rw [add_block]; exact Kd.own_blk (Kd.R_ne Af.out Aa.out (by decide))) | (dsimp only; exact Kd.own_blk (Kd.R_ne Af.out Aa.out (by decide)))))⟩ (fun hHeld => ?_)
   clear hK K
   refine done_ (done_of HT_.out (by kernel_rfl)) ?_
   have hnb32 := Ae.out
   have hnc32 := Ac.out
   obtain ⟨_, _, _, _⟩ := bc4 Aa.out
   obtain ⟨_, _, _, _⟩ := bf4 Aa.out
   try go_wp2_with (first | ((with_reducible refine zC 80 rfl ?_); refine zL (some 48) Try.func80 #[.agg #[.int .i64 (wrap64 (rd t315 0)), .int .i64 (wrap64 (rd t315 1)), .int .i64 (wrap64 (rd t315 2)), .int .u32 t325]] ?_; (with_reducible refine (point_Check.calls (wrap64 (rd t315 0)) (wrap64 (rd t315 1)) (wrap64 (rd t315 2)) t325 t327 _ A21.out).mono ?_); rintro e w34 ⟨rfl, hb⟩; refine ⟨_, rfl, ?_⟩; replace Af := Am (Kd.R_below (by (with_reducible repeat (first | apply Kd.R_alloc | apply Kd.R_drewN | apply Kd.R_drew)); exact (Kd.R_mono (Rf4 (g := Ad) (Kd.R_types Af.out Aa.out (by decide)) (fun _ hk => hk.2)) (fun _ h_ => h_.1))) hb); replace Ab := Am (blk_below (g := Ai) (kX1 Ab.out Ac.out) hb); replace Aa := Am (blk_below (g := Ad) (kX0 Aa.out) hb); replace HB := zX2 HB Ah.out An.out hb; (try clear hb); (try clear hk); obtain ⟨_, _, _, _⟩ := bc4 Aa.out; obtain ⟨_, _, _, _⟩ := bf4 Aa.out; obtain ⟨_, _, _, _⟩ := bc4 Ab.out; obtain ⟨_, _, _, _⟩ := bf4 Ab.out))
   refine bodyPost_ret (results_ctt rfl _ _ Ai 48 #[.int .i64 (wrap64 (rd t315 0)), .int .i64 (wrap64 (rd t315 1)), .int .i64 (wrap64 (rd t315 2)), .int .u32 t325] (0, 0) _ rfl (kX0 Ab.out) Try.underlying48 rfl (by kernel_rfl)) rfl ?_
   exact ⟨pX, pE2 HB.out Ah.out An.out⟩
def bytes_Clone.f (l0 : List Int) : Option (List Int) := if l0.length < 140737488355328 then some l0 else none
set_option maxHeartbeats 4000000 in
set_option maxRecDepth 100000 in
theorem bytes_Clone.calls (A0 : Option Addr) (c0 : Nat) (l0 : List Int) (r : List Int) (w : World) (hr0 : Kd.C (Kd.int .u8) w A0 l0.length l0) (hc0 : l0.length ≤ c0) (h : bytes_Clone.f l0 = some r) :
 Calls Try.prog 85 #[.slice A0 l0.length c0] w fun e w' => ∃ v0_ : Value, e = .returned (v0_) ∧ Kd.R (Kd.int .u8) 5 w' w.heap.size (fun _ => True) v0_ r ∧ Below w.heap.size w w' := by
 unfold bytes_Clone.f at h
 by_cases hl : l0.length < 140737488355328
 ·rw [if_pos hl] at h
  obtain rfl := Option.some.inj h
  have HR0 := Aside0.mk hr0
  have HC0 := Aside0.mk hc0
  have LM := Aside0.mk hl
  clear hr0 hc0 hl h
  have HB := Aside0.mk (Below.refl w.heap.size w)
  have heq := fun (W : World) (a : Option Addr) (n c : Nat) => Lib.run_eql_slice_nil (P := Try.prog) W 22 5 a n c 0 0 Try.underlying22
  cases A0 with
  | none =>
   have e0 : l0 = [] := by
    cases l0 with
    | nil => rfl
    | cons x y =>
     obtain ⟨ad, had, _⟩ := HR0.out.2.2 (by simp)
     cases had
   subst e0
   go_enter Try.func85, Try.ntmps85
   go_wp2
   go_ret
   exact ⟨_, rfl, Kd.R_nil _ _ _ _ _, HB.out⟩
  | some ad =>
   go_enter Try.func85, Try.ntmps85
   go_wp2_with (first | ((with_reducible refine zD 5 rfl ?_); refine Kd.R_lit (Kd.int .u8) _ 5 ?hg (N := 5) ?hd (xs := ([] : List Int)) (inner := []) (ok := fun _ => True) (okp := fun _ => True) ?hr ?hp (fun _ hk => hk) trivial (Below.refl _ _) (Nat.le_refl _) (by simp) ?_; (case hd => rfl); (case hg => rfl); (case hr => first | (go_simp; done) | (go_simp; rfl)); (case hp => exact (Reps.none _ _)); intro v182 w12 ho13 hb hg_ hnew_; clear hg_ hnew_; have n0_ := Aside0.mk (Kd.R_lower ho13 (below_size (by repeat (first | (with_reducible first | exact HB.out | apply below_alloc | apply pw_below_drewN | apply below_drew1) | exact HB.out)))); have n1_ := Aside0.mk (below_step (by repeat (first | (with_reducible first | exact HB.out | apply below_alloc | apply pw_below_drewN | apply below_drew1) | exact HB.out)) hb); clear HB; have HO183 := n0_; have HB := n1_; clear n0_ n1_; clear hb ho13) | ((with_reducible refine gate_builtin (b := .append) (xs := #[.tmp 5, .tmp 6]) rfl ?_); at_builtin; refine Kd.R_append_rows (Kd.int .u8) (w0 := w) w.heap.size rfl (.tmp 5) (.tmp 6) 22 5 (.int .u8 0) 1 rfl Try.underlying22 info5 rfl (by decide) (by omega) v182 [] l0 _ _ _ (fun _ => True) (fun _ => False) rfl rfl ?aO ?aR (fun _ _ h => h) (fun _ h => h.elim) ?aF ?aB ?aS ?aL ?_; (case aR => repeat (first | exact (Kd.C_below HR0.out HB.out) | (with_reducible refine Kd.C_alloc ?_ _) | (with_reducible refine Kd.C_drewN ?_ _) | (with_reducible refine Kd.C_drew ?_))); (case aB => exact (by repeat (first | (with_reducible first | exact HB.out | apply below_alloc | apply pw_below_drewN | apply below_drew1) | exact HB.out))); (case aF => exact (fun _ _ => trivial)); (case aO => exact (zR HO183.out)); (case aS => exact (below_size (by repeat (first | (with_reducible first | exact HB.out | apply below_alloc | apply pw_below_drewN | apply below_drew1) | exact HB.out)))); (case aL => have := LM.out; simp only [List.length_nil]; omega); intro v185 w14 ho hb hg hat; have n0_ := Aside0.mk (hb); have n1_ := Aside0.mk (ho); clear HB; clear HO183; have HB := n0_; have HO186 := n1_; clear n0_ n1_; clear ho hb hg hat))
   go_ret
   exact ⟨_, rfl, HO186.out, HB.out⟩
 ·rw [if_neg hl] at h
  cases h
end
end Go.Proofs.Ytdanmjfkocjgjaa.PWalPuts
