/- What the law reaches, as plain Lean functions, and that the machine's calls answer just that. -/
import Derived.Test.YtdanmjfkocjgjaaPWalPutsx0
import Derived.Test.YtdanmjfkocjgjaaPWalPutsx5
import Derived.Test.YtdanmjfkocjgjaaPWalPutsx10
import Derived.Test.YtdanmjfkocjgjaaPWalPutsx13
namespace Go.Proofs.Ytdanmjfkocjgjaa.PWalPuts
open Go.RowKit Go.Proofs.YtdanmjfkocjgjaaW.PrintWords Go.Proofs.YtdanmjfkocjgjaaW.PrintLast Go.Proofs.YtdanmjfkocjgjaaW.PrintMore
set_option linter.unusedVariables false
set_option maxHeartbeats 8000000
set_option linter.unusedSimpArgs false
section
attribute [local go_sem] max2_int min2_int max_two min_two max_three min_three max_four min_four
attribute [local go_sem] wrap64_l1 wrap64_l2 wrap64_l3 wrap64_l4 wrap64_l5
attribute [local go_sem high] eqA48
def wal_Get.j0 : Nat → Int → Int → Bool → Int → Int → Int → Int → Int → Option (Int × (List (S52)) × Int × Int × Int × Int × Int)
 | 0, _, _, _, _, _, _, _, _ => none
 | k + 1, x5, x6, x54, x364000, x364002, x364003, x364004, x364005 => if x54 = true then ((wal_Check.f k x364000 ([] : List (S52)) x364002 x364003 x364004 (wrap64 (x6))).bind fun t377 => (if t377 = 0 then (some (x364000, ([] : List (S52)), x364002, x364003, x364004, wrap64 (x6), 0)) else (some (0, ([] : List (S52)), 0, 0, 0, 0, 2)))) else (if x5 = 0 then ((wal_Check.f k x364000 ([] : List (S52)) x364002 x364003 x364004 x364005).bind fun t378 => (if t378 = 0 then (some (x364000, ([] : List (S52)), x364002, x364003, x364004, x364005, 0)) else (some (0, ([] : List (S52)), 0, 0, 0, 0, 2)))) else (some (0, ([] : List (S52)), 0, 0, 0, 0, 2)))
def wal_Get.f (k : Nat) (a0_0 : Int) (l0_1 : List Int) : Option (Int × (List (S52)) × Int × Int × Int × Int × Int) := if a0_0 = 11 then ((entry_Get.f k l0_1).bind fun bt364 => (if bt364.2 = 0 then ((wal_Check.f k (wrap64 (a0_0 - 10)) bt364.1 0 0 0 0).bind fun t368 => (if t368 = 0 then (some (wrap64 (a0_0 - 10), bt364.1, 0, 0, 0, 0, 0)) else (some (0, ([] : List (S52)), 0, 0, 0, 0, 2)))) else (some (0, ([] : List (S52)), 0, 0, 0, 0, 2)))) else (if a0_0 = 12 then ((hard_Get.f k l0_1).bind fun bt369 => (if bt369.2.2.2 = 0 then ((wal_Check.f k (wrap64 (a0_0 - 10)) ([] : List (S52)) bt369.1 bt369.2.1 bt369.2.2.1 0).bind fun t373 => (if t373 = 0 then (some (wrap64 (a0_0 - 10), ([] : List (S52)), bt369.1, bt369.2.1, bt369.2.2.1, 0, 0)) else (some (0, ([] : List (S52)), 0, 0, 0, 0, 2)))) else (some (0, ([] : List (S52)), 0, 0, 0, 0, 2)))) else (if a0_0 = 13 then ((varint_Get.f k l0_1).bind fun bt374 => (if bt374.2.2 = 0 then (if bt374.2.1 = (l0_1.length : Int) then (wal_Get.j0 k 2 bt374.1 (decide (bt374.1 ≤ 2147483647)) (wrap64 (a0_0 - 10)) 0 0 0 0) else (wal_Get.j0 k 2 bt374.1 false (wrap64 (a0_0 - 10)) 0 0 0 0)) else (wal_Get.j0 k 2 bt374.1 false (wrap64 (a0_0 - 10)) 0 0 0 0))) else (some (0, ([] : List (S52)), 0, 0, 0, 0, 2))))
theorem wal_Get.mono_l : ∀ k, (∀ y0 y1 y2 y3 y4 y5 y6 y7, LeO (wal_Get.j0 k y0 y1 y2 y3 y4 y5 y6 y7) (wal_Get.j0 (k + 1) y0 y1 y2 y3 y4 y5 y6 y7))
 | 0 => fun _ _ _ _ _ _ _ _ r h => by simp [wal_Get.j0] at h
 | k + 1 => by
  have ih0 := wal_Get.mono_l k
  ·intro y0 y1 y2 y3 y4 y5 y6 y7
   unfold wal_Get.j0
   repeat' (with_reducible first | exact ih0 .. | exact entry_Get.mono .. | exact hard_Get.mono .. | exact varint_Get.mono .. | exact wal_Check.mono .. | exact LeO.refl .. | exact LeO.none .. | refine LeO.ite ?_ ?_ | refine LeO.bind ?_ (fun _ => ?_))
theorem wal_Get.mono : ∀ a0 a1 k, LeO (wal_Get.f k a0 a1) (wal_Get.f (k + 1) a0 a1) := by
 intro a0 a1 k
 have ih0 := wal_Get.mono_l k
 unfold wal_Get.f
 repeat' (with_reducible first | exact ih0 .. | exact entry_Get.mono .. | exact hard_Get.mono .. | exact varint_Get.mono .. | exact wal_Check.mono .. | exact LeO.refl .. | exact LeO.none .. | refine LeO.ite ?_ ?_ | refine LeO.bind ?_ (fun _ => ?_))
set_option maxRecDepth 100000 in
theorem wal_Get.calls (k : Nat) (a0_0 : Int) (A0_1 : Option Addr) (c0_1 : Nat) (l0_1 : List Int) (r1 : Int) (r2 : List (S52)) (r3 : Int) (r4 : Int) (r5 : Int) (r6 : Int) (r7 : Int) (w : World) (hr0_1 : Kd.C (Kd.int .u8) w A0_1 l0_1.length l0_1) (hc0_1 : l0_1.length ≤ c0_1) (h : wal_Get.f k a0_0 l0_1 = some (r1, r2, r3, r4, r5, r6, r7)) :
 Calls Try.prog 6 #[.agg #[.int .i64 a0_0, .slice A0_1 l0_1.length c0_1]] w fun e w' => ∃ v1_ : Value, e = .returned (.tuple #[.agg #[.int .i64 r1, v1_, .int .i64 r3, .int .i64 r4, .int .i64 r5, .int .i64 r6], .int .i64 r7]) ∧ Kd.S k52 52 w' w.heap.size (fun _ => True) v1_ r2 ∧ Below w.heap.size w w' := by
 have hu24 := Try.underlying24
 have hu30 := Try.underlying30
 have hu28 := Try.underlying28
 have Aw := Am hr0_1
 have Ax := Am hc0_1
 clear hr0_1 hc0_1
 have HB := Am (Below.refl w.heap.size w)
 unfold wal_Get.f at h
 have H := h
 clear h
 by_cases c2 : a0_0 = 11
 ·rw [if_pos c2] at H
  obtain ⟨c2b0, c2b1⟩ := zc c2
  clear c2
  obtain ⟨⟨t364, t365⟩, A3, H⟩ := zb H
  dsimp only at H
  by_cases c4 : t365 = 0
  rotate_left
  ·rw [if_neg c4] at H
   obtain ⟨c4b0, c4b1⟩ := zk c4
   simp only [Option.some.injEq, Prod.mk.injEq] at H
   obtain ⟨rfl, rfl, rfl, rfl, rfl, rfl, rfl⟩ := H
   go_enter Try.func6, Try.ntmps6
   go_wp2_with (first | ((with_reducible refine zD 1 rfl ?_); (try (refine gate_guard (by rfl) ?_; dsimp only)); refine zE 1 #[.int .i64 a0_0, .slice A0_1 l0_1.length c0_1] 24 ?_; intro Aj hg w36 hbox hb; have Aa := Am (hbox); have As := zA hg HB; replace HB := zB HB hb; have Af := As; clear hb hbox hg) | ((with_reducible refine zD 2 rfl ?_); (try (refine gate_guard (by rfl) ?_; dsimp only)); refine zE 2 #[.int .i64 0, .slice none 0 0, .int .i64 0, .int .i64 0, .int .i64 0, .int .i64 0] 30 ?_; intro Ag hg w37 hbox hb; have Ab := Am (hbox); have At := zY1 hg HB Af.out; replace HB := zX1 HB Af.out hb; have Ai := At; have Ak := Am (zN hg (kL Aa.out)); have Al := Am (zM hg (kL Aa.out)); replace Aa := kBa Aa hb; clear hb hbox hg; have hnb38 := Ak.out; have hnc38 := Al.out; obtain ⟨Ek, El⟩ := bc2 Aa.out; obtain ⟨Em, En⟩ := bf2 Aa.out) | ((with_reducible refine zD 4 rfl ?_); (try (refine gate_guard (by rfl) ?_; dsimp only)); refine zE 4 #[.int .i64 0, .slice none 0 0, .int .i64 0, .int .i64 0, .int .i64 0, .int .i64 0] 30 ?_; intro Ah hg w40 hbox hb; have Ad := Am (hbox); have Au := zY2 hg HB Af.out Ai.out; replace HB := zX2 HB Af.out Ai.out hb; have Ap := Au; have Ae := Am (zN hg (kL Aa.out)); have An := Am (zM hg (kL Aa.out)); replace Aa := kBa Aa hb; have Ac := Am (zN hg (kL Ab.out)); have Ao := Am (zM hg (kL Ab.out)); replace Ab := kBa Ab hb; clear hb hbox hg; have hnb41 := An.out; have hnc41 := Ae.out; have hnb42 := Ao.out; have hnc42 := Ac.out; obtain ⟨Eo, Ep, Er, Es, Et, Eu⟩ := bc6 Ad.out; obtain ⟨Ew, Ex, Ey, Ez, E0, E1⟩ := bf6 Ad.out; obtain ⟨E2, E3⟩ := bc2 Aa.out; obtain ⟨E4, E5⟩ := bf2 Aa.out) | ((with_reducible refine zC 17 rfl ?_); refine zL (some 20) Try.func17 #[.slice A0_1 l0_1.length c0_1] ?_; (with_reducible refine (entry_Get.calls k _ _ l0_1 t364 t365 _ ?Aq ?Ar A3.out).mono ?_); (case Aq => exact Kd.C_below Aw.out (pE3 HB.out Af.out Ai.out Ap.out)); (case Ar => exact Ax.out); rintro e w45 ⟨v366, rfl, ho0, hb⟩; refine ⟨_, rfl, ?_⟩; have Av := Am (Kd.S_lower ho0 (below_size (pE3 HB.out Af.out Ai.out Ap.out))); replace Aa := Am (blk_below (g := Aj) (kX1 Aa.out Ae.out) hb); replace Ab := Am (blk_below (g := Ag) (kX1 Ab.out Ac.out) hb); replace Ad := Am (blk_below (g := Ah) (kX0 Ad.out) hb); replace HB := zX3 HB Af.out Ai.out Ap.out hb; (try clear hb); (try clear ho0); obtain ⟨Ao46, co46, J3⟩ := Kd.S_slice Av.out; subst J3; obtain ⟨E6, E7, E8, E9, Fa, Fb⟩ := bc6 Ad.out; obtain ⟨Fc, Fd, Fe, Ff, Fg, Fh⟩ := bf6 Ad.out; obtain ⟨Fi, Fj, Fk, Fl, Fm, Fn⟩ := bc6 Ab.out; obtain ⟨Fo, Fp, Fq, Fr, Fs, Ft⟩ := bf6 Ab.out))
   refine bodyPost_ret (results_ct rfl _ _ Ag 30 #[.int .i64 0, .slice none 0 0, .int .i64 0, .int .i64 0, .int .i64 0, .int .i64 0] (0, 0) _ rfl (kX1 Ab.out Ac.out) Try.underlying30 rfl (by kernel_rfl)) rfl ?_
   exact ⟨_, pX, zn, pE3 HB.out Af.out Ai.out Ap.out⟩
  rw [if_pos c4] at H
  obtain ⟨c4b0, c4b1⟩ := zc c4
  clear c4
  obtain ⟨t368, A5, H⟩ := zb H
  by_cases c6 : t368 = 0
  rotate_left
  ·rw [if_neg c6] at H
   obtain ⟨c6b0, c6b1⟩ := zk c6
   simp only [Option.some.injEq, Prod.mk.injEq] at H
   obtain ⟨rfl, rfl, rfl, rfl, rfl, rfl, rfl⟩ := H
   go_enter Try.func6, Try.ntmps6
   go_wp2_with (first | ((with_reducible refine zD 1 rfl ?_); (try (refine gate_guard (by rfl) ?_; dsimp only)); refine zE 1 #[.int .i64 a0_0, .slice A0_1 l0_1.length c0_1] 24 ?_; intro Aj hg w22 hbox hb; have Aa := Am (hbox); have As := zA hg HB; replace HB := zB HB hb; have Af := As; clear hb hbox hg) | ((with_reducible refine zD 2 rfl ?_); (try (refine gate_guard (by rfl) ?_; dsimp only)); refine zE 2 #[.int .i64 0, .slice none 0 0, .int .i64 0, .int .i64 0, .int .i64 0, .int .i64 0] 30 ?_; intro Ag hg w23 hbox hb; have Ab := Am (hbox); have At := zY1 hg HB Af.out; replace HB := zX1 HB Af.out hb; have Ai := At; have Ak := Am (zN hg (kL Aa.out)); have Al := Am (zM hg (kL Aa.out)); replace Aa := kBa Aa hb; clear hb hbox hg; have hnb24 := Ak.out; have hnc24 := Al.out; obtain ⟨Dc, Dd⟩ := bc2 Aa.out; obtain ⟨De, Df⟩ := bf2 Aa.out) | ((with_reducible refine zD 4 rfl ?_); (try (refine gate_guard (by rfl) ?_; dsimp only)); refine zE 4 #[.int .i64 0, .slice none 0 0, .int .i64 0, .int .i64 0, .int .i64 0, .int .i64 0] 30 ?_; intro Ah hg w26 hbox hb; have Ad := Am (hbox); have Au := zY2 hg HB Af.out Ai.out; replace HB := zX2 HB Af.out Ai.out hb; have Ap := Au; have Ae := Am (zN hg (kL Aa.out)); have An := Am (zM hg (kL Aa.out)); replace Aa := kBa Aa hb; have Ac := Am (zN hg (kL Ab.out)); have Ao := Am (zM hg (kL Ab.out)); replace Ab := kBa Ab hb; clear hb hbox hg; have hnb27 := An.out; have hnc27 := Ae.out; have hnb28 := Ao.out; have hnc28 := Ac.out; obtain ⟨Dg, Dh, Di, Dj, Dk, Dl⟩ := bc6 Ad.out; obtain ⟨Dm, Dn, Do, Dp, Dq, Dr⟩ := bf6 Ad.out; obtain ⟨Ds, Dt⟩ := bc2 Aa.out; obtain ⟨Du, Dv⟩ := bf2 Aa.out) | ((with_reducible refine zC 17 rfl ?_); refine zL (some 20) Try.func17 #[.slice A0_1 l0_1.length c0_1] ?_; (with_reducible refine (entry_Get.calls k _ _ l0_1 t364 t365 _ ?Aq ?Ar A3.out).mono ?_); (case Aq => exact Kd.C_below Aw.out (pE3 HB.out Af.out Ai.out Ap.out)); (case Ar => exact Ax.out); rintro e w31 ⟨v366, rfl, ho0, hb⟩; refine ⟨_, rfl, ?_⟩; have Av := Am (Kd.S_lower ho0 (below_size (pE3 HB.out Af.out Ai.out Ap.out))); replace Aa := Am (blk_below (g := Aj) (kX1 Aa.out Ae.out) hb); replace Ab := Am (blk_below (g := Ag) (kX1 Ab.out Ac.out) hb); replace Ad := Am (blk_below (g := Ah) (kX0 Ad.out) hb); replace HB := zX3 HB Af.out Ai.out Ap.out hb; (try clear hb); (try clear ho0); obtain ⟨J0, Br, J2⟩ := Kd.S_slice Av.out; subst J2; obtain ⟨Dw, Dx, Dy, Dz, D0, D1⟩ := bc6 Ad.out; obtain ⟨D2, D3, D4, D5, D6, D7⟩ := bf6 Ad.out) | (go_at_call 13; (with_reducible refine (wal_Check.calls k (wrap64 (a0_0 - 10)) _ _ t364 0 0 0 0 t368 _ ?Aq ?Ar A5.out).mono ?_); (case Aq => refine (Kd.S_reads' (e := 52) (base := w.heap.size) (ok := fun k_ => True) (n := t364.length) (c := Br) ?_).2.2; exact (by (with_reducible repeat (first | apply Kd.S_alloc | apply Kd.S_drewN | apply Kd.S_drew)); exact (Kd.S_mono (Kd.S_far (p := ⟨Ah, 1, none⟩) (Kd.S_types Av.out Ad.out (by decide)) (fun _ hk => hk.2) (.slice J0 t364.length Br)) (fun _ h_ => h_.1)))); (case Ar => exact (Kd.S_reads' Av.out).2.1); rintro e w34 ⟨rfl, hb⟩; replace Av := Am (Kd.S_below (by (with_reducible repeat (first | apply Kd.S_alloc | apply Kd.S_drewN | apply Kd.S_drew)); exact (Kd.S_mono (Kd.S_far (p := ⟨Ah, 1, none⟩) (Kd.S_types Av.out Ad.out (by decide)) (fun _ hk => hk.2) (.slice J0 t364.length Br)) (fun _ h_ => h_.1))) hb); replace Aa := Am (blk_below (g := Aj) (kX1 Aa.out Ae.out) hb); replace Ab := Am (blk_below (g := Ag) (kX1 Ab.out Ac.out) hb); replace Ad := Am (blk_below (g := Ah) (o := .cells #[.int .i64 (wrap64 (a0_0 - 10)), .slice J0 t364.length Br, .int .i64 0, .int .i64 0, .int .i64 0, .int .i64 0] 30 (0, 0)) (by (with_reducible repeat (first | refine blk_drewN ?_ _ | refine blk_drew ?_ | refine blk_alloc ?_ _)); refine blk_put (cs := #[.int .i64 (wrap64 (a0_0 - 10)), .slice none 0 0, .int .i64 0, .int .i64 0, .int .i64 0, .int .i64 0]) ?_ 1 _ rfl; (with_reducible repeat (first | refine blk_drewN ?_ _ | refine blk_drew ?_ | refine blk_alloc ?_ _)); exact Ad.out) hb); replace HB := zX3 HB Af.out Ai.out Ap.out hb; (try clear hb); (try clear hk); obtain ⟨D8, D9, Ea, Eb, Ec, Ed⟩ := bc6 Ab.out; obtain ⟨Ee, Ef, Eg, Eh, Ei, Ej⟩ := bf6 Ab.out))
   refine bodyPost_ret (results_ct rfl _ _ Ag 30 #[.int .i64 0, .slice none 0 0, .int .i64 0, .int .i64 0, .int .i64 0, .int .i64 0] (0, 0) _ rfl (kX0 Ab.out) Try.underlying30 rfl (by kernel_rfl)) rfl ?_
   exact ⟨_, pX, zn, pE3 HB.out Af.out Ai.out Ap.out⟩
  rw [if_pos c6] at H
  obtain ⟨c6b0, c6b1⟩ := zc c6
  clear c6
  simp only [Option.some.injEq, Prod.mk.injEq] at H
  obtain ⟨rfl, rfl, rfl, rfl, rfl, rfl, rfl⟩ := H
  go_enter Try.func6, Try.ntmps6
  go_wp2_with (first | ((with_reducible refine zD 1 rfl ?_); (try (refine gate_guard (by rfl) ?_; dsimp only)); refine zE 1 #[.int .i64 a0_0, .slice A0_1 l0_1.length c0_1] 24 ?_; intro Aj hg w7 hbox hb; have Aa := Am (hbox); have As := zA hg HB; replace HB := zB HB hb; have Af := As; clear hb hbox hg) | ((with_reducible refine zD 2 rfl ?_); (try (refine gate_guard (by rfl) ?_; dsimp only)); refine zE 2 #[.int .i64 0, .slice none 0 0, .int .i64 0, .int .i64 0, .int .i64 0, .int .i64 0] 30 ?_; intro Ag hg w8 hbox hb; have Ab := Am (hbox); have At := zY1 hg HB Af.out; replace HB := zX1 HB Af.out hb; have Ai := At; have Ak := Am (zN hg (kL Aa.out)); have Al := Am (zM hg (kL Aa.out)); replace Aa := kBa Aa hb; clear hb hbox hg; have hnb9 := Ak.out; have hnc9 := Al.out; obtain ⟨Bs, Bt⟩ := bc2 Aa.out; obtain ⟨Bu, Bv⟩ := bf2 Aa.out) | ((with_reducible refine zD 4 rfl ?_); (try (refine gate_guard (by rfl) ?_; dsimp only)); refine zE 4 #[.int .i64 0, .slice none 0 0, .int .i64 0, .int .i64 0, .int .i64 0, .int .i64 0] 30 ?_; intro Ah hg w11 hbox hb; have Ad := Am (hbox); have Au := zY2 hg HB Af.out Ai.out; replace HB := zX2 HB Af.out Ai.out hb; have Ap := Au; have Ae := Am (zN hg (kL Aa.out)); have An := Am (zM hg (kL Aa.out)); replace Aa := kBa Aa hb; have Ac := Am (zN hg (kL Ab.out)); have Ao := Am (zM hg (kL Ab.out)); replace Ab := kBa Ab hb; clear hb hbox hg; have hnb12 := An.out; have hnc12 := Ae.out; have hnb13 := Ao.out; have hnc13 := Ac.out; obtain ⟨Bw, Bx, By, Bz, B0, B1⟩ := bc6 Ad.out; obtain ⟨B2, B3, B4, B5, B6, B7⟩ := bf6 Ad.out; obtain ⟨B8, B9⟩ := bc2 Aa.out; obtain ⟨Ca, Cb⟩ := bf2 Aa.out) | ((with_reducible refine zC 17 rfl ?_); refine zL (some 20) Try.func17 #[.slice A0_1 l0_1.length c0_1] ?_; (with_reducible refine (entry_Get.calls k _ _ l0_1 t364 t365 _ ?Aq ?Ar A3.out).mono ?_); (case Aq => exact Kd.C_below Aw.out (pE3 HB.out Af.out Ai.out Ap.out)); (case Ar => exact Ax.out); rintro e w16 ⟨v366, rfl, ho0, hb⟩; refine ⟨_, rfl, ?_⟩; have Av := Am (Kd.S_lower ho0 (below_size (pE3 HB.out Af.out Ai.out Ap.out))); replace Aa := Am (blk_below (g := Aj) (kX1 Aa.out Ae.out) hb); replace Ab := Am (blk_below (g := Ag) (kX1 Ab.out Ac.out) hb); replace Ad := Am (blk_below (g := Ah) (kX0 Ad.out) hb); replace HB := zX3 HB Af.out Ai.out Ap.out hb; (try clear hb); (try clear ho0); obtain ⟨Bq, Az, J1⟩ := Kd.S_slice Av.out; subst J1; obtain ⟨Cc, Cd, Ce, Cf, Cg, Ch⟩ := bc6 Ad.out; obtain ⟨Ci, Cj, Ck, Cl, Cm, Cn⟩ := bf6 Ad.out) | (go_at_call 13; (with_reducible refine (wal_Check.calls k (wrap64 (a0_0 - 10)) _ _ t364 0 0 0 0 t368 _ ?Aq ?Ar A5.out).mono ?_); (case Aq => refine (Kd.S_reads' (e := 52) (base := w.heap.size) (ok := fun k_ => True) (n := t364.length) (c := Az) ?_).2.2; exact (by (with_reducible repeat (first | apply Kd.S_alloc | apply Kd.S_drewN | apply Kd.S_drew)); exact (Kd.S_mono (Kd.S_far (p := ⟨Ah, 1, none⟩) (Kd.S_types Av.out Ad.out (by decide)) (fun _ hk => hk.2) (.slice Bq t364.length Az)) (fun _ h_ => h_.1)))); (case Ar => exact (Kd.S_reads' Av.out).2.1); rintro e w19 ⟨rfl, hb⟩; replace Av := Am (Kd.S_below (by (with_reducible repeat (first | apply Kd.S_alloc | apply Kd.S_drewN | apply Kd.S_drew)); exact (Kd.S_mono (Kd.S_far (p := ⟨Ah, 1, none⟩) (Kd.S_types Av.out Ad.out (by decide)) (fun _ hk => hk.2) (.slice Bq t364.length Az)) (fun _ h_ => h_.1))) hb); replace Aa := Am (blk_below (g := Aj) (kX1 Aa.out Ae.out) hb); replace Ab := Am (blk_below (g := Ag) (kX1 Ab.out Ac.out) hb); replace Ad := Am (blk_below (g := Ah) (o := .cells #[.int .i64 (wrap64 (a0_0 - 10)), .slice Bq t364.length Az, .int .i64 0, .int .i64 0, .int .i64 0, .int .i64 0] 30 (0, 0)) (by (with_reducible repeat (first | refine blk_drewN ?_ _ | refine blk_drew ?_ | refine blk_alloc ?_ _)); refine blk_put (cs := #[.int .i64 (wrap64 (a0_0 - 10)), .slice none 0 0, .int .i64 0, .int .i64 0, .int .i64 0, .int .i64 0]) ?_ 1 _ rfl; (with_reducible repeat (first | refine blk_drewN ?_ _ | refine blk_drew ?_ | refine blk_alloc ?_ _)); exact Ad.out) hb); replace HB := zX3 HB Af.out Ai.out Ap.out hb; (try clear hb); (try clear hk); obtain ⟨Co, Cp, Cq, Cr, Cs, Ct⟩ := bc6 Ad.out; obtain ⟨Cu, Cv, Cw, Cx, Cy, Cz⟩ := bf6 Ad.out; obtain ⟨C0, C1, C2, C3, C4, C5⟩ := bc6 Ab.out; obtain ⟨C6, C7, C8, C9, Da, Db⟩ := bf6 Ab.out))
  refine bodyPost_ret (results_ct rfl _ _ Ag 30 #[.int .i64 (wrap64 (a0_0 - 10)), .slice Bq t364.length Az, .int .i64 0, .int .i64 0, .int .i64 0, .int .i64 0] (0, 0) _ rfl (kX0 Ab.out) Try.underlying30 rfl (by kernel_rfl)) rfl ?_
  exact ⟨_, pX, by (with_reducible repeat (first | apply Kd.S_alloc | apply Kd.S_drewN | apply Kd.S_drew)); exact Kd.S_mono (Sf6 (g := Ag) (Kd.S_types Av.out Ab.out (by decide)) (fun _ hk => hk.2)) (fun _ hk => trivial), pE3 HB.out Af.out Ai.out Ap.out⟩
 rw [if_neg c2] at H
 obtain ⟨c2b0, c2b1⟩ := zk c2
 by_cases c49 : a0_0 = 12
 ·rw [if_pos c49] at H
  obtain ⟨c49b0, c49b1⟩ := zc c49
  clear c49
  obtain ⟨⟨t369, t370, t371, t372⟩, A50, H⟩ := zb H
  dsimp only at H
  by_cases c51 : t372 = 0
  rotate_left
  ·rw [if_neg c51] at H
   obtain ⟨c51b0, c51b1⟩ := zk c51
   simp only [Option.some.injEq, Prod.mk.injEq] at H
   obtain ⟨rfl, rfl, rfl, rfl, rfl, rfl, rfl⟩ := H
   go_enter Try.func6, Try.ntmps6
   go_wp2_with (first | ((with_reducible refine zD 1 rfl ?_); (try (refine gate_guard (by rfl) ?_; dsimp only)); refine zE 1 #[.int .i64 a0_0, .slice A0_1 l0_1.length c0_1] 24 ?_; intro Aj hg w81 hbox hb; have Aa := Am (hbox); have As := zA hg HB; replace HB := zB HB hb; have Af := As; clear hb hbox hg) | ((with_reducible refine zD 2 rfl ?_); (try (refine gate_guard (by rfl) ?_; dsimp only)); refine zE 2 #[.int .i64 0, .slice none 0 0, .int .i64 0, .int .i64 0, .int .i64 0, .int .i64 0] 30 ?_; intro Ag hg w82 hbox hb; have Ab := Am (hbox); have At := zY1 hg HB Af.out; replace HB := zX1 HB Af.out hb; have Ai := At; have Ak := Am (zN hg (kL Aa.out)); have Al := Am (zM hg (kL Aa.out)); replace Aa := kBa Aa hb; clear hb hbox hg; have hnb83 := Ak.out; have hnc83 := Al.out; obtain ⟨Io, Ip⟩ := bc2 Aa.out; obtain ⟨Iq, Ir⟩ := bf2 Aa.out) | ((with_reducible refine zD 4 rfl ?_); (try (refine gate_guard (by rfl) ?_; dsimp only)); refine zE 4 #[.int .i64 0, .slice none 0 0, .int .i64 0, .int .i64 0, .int .i64 0, .int .i64 0] 30 ?_; intro Ah hg w85 hbox hb; have Ad := Am (hbox); have Au := zY2 hg HB Af.out Ai.out; replace HB := zX2 HB Af.out Ai.out hb; have Ap := Au; have Ae := Am (zN hg (kL Aa.out)); have An := Am (zM hg (kL Aa.out)); replace Aa := kBa Aa hb; have Ac := Am (zN hg (kL Ab.out)); have Ao := Am (zM hg (kL Ab.out)); replace Ab := kBa Ab hb; clear hb hbox hg; have hnb86 := An.out; have hnc86 := Ae.out; have hnb87 := Ao.out; have hnc87 := Ac.out; obtain ⟨Is, It, Iu, Iv, Iw, Ix⟩ := bc6 Ad.out; obtain ⟨Iy, Iz, I0, I1, I2, I3⟩ := bf6 Ad.out; obtain ⟨I4, I5⟩ := bc2 Aa.out; obtain ⟨I6, I7⟩ := bf2 Aa.out) | ((with_reducible refine zC 18 rfl ?_); refine zL (some 29) Try.func18 #[.slice A0_1 l0_1.length c0_1] ?_; (with_reducible refine (hard_Get.calls k _ _ l0_1 t369 t370 t371 t372 _ ?Aq ?Ar A50.out).mono ?_); (case Aq => exact Kd.C_below Aw.out (pE3 HB.out Af.out Ai.out Ap.out)); (case Ar => exact Ax.out); rintro e w90 ⟨rfl, hb⟩; refine ⟨_, rfl, ?_⟩; replace Aa := Am (blk_below (g := Aj) (kX1 Aa.out Ae.out) hb); replace Ab := Am (blk_below (g := Ag) (kX1 Ab.out Ac.out) hb); replace Ad := Am (blk_below (g := Ah) (kX0 Ad.out) hb); replace HB := zX3 HB Af.out Ai.out Ap.out hb; (try clear hb); obtain ⟨I8, I9, Ja, Jb, Jc, Jd⟩ := bc6 Ad.out; obtain ⟨Je, Jf, Jg, Jh, Ji, Jj⟩ := bf6 Ad.out; obtain ⟨Jk, Jl, Jm, Jn, Jo, Jp⟩ := bc6 Ab.out; obtain ⟨Jq, Jr, Js, Jt, Ju, Jv⟩ := bf6 Ab.out))
   refine bodyPost_ret (results_ct rfl _ _ Ag 30 #[.int .i64 0, .slice none 0 0, .int .i64 0, .int .i64 0, .int .i64 0, .int .i64 0] (0, 0) _ rfl (kX1 Ab.out Ac.out) Try.underlying30 rfl (by kernel_rfl)) rfl ?_
   exact ⟨_, pX, zn, pE3 HB.out Af.out Ai.out Ap.out⟩
  rw [if_pos c51] at H
  obtain ⟨c51b0, c51b1⟩ := zc c51
  clear c51
  obtain ⟨t373, A52, H⟩ := zb H
  by_cases c53 : t373 = 0
  rotate_left
  ·rw [if_neg c53] at H
   obtain ⟨c53b0, c53b1⟩ := zk c53
   simp only [Option.some.injEq, Prod.mk.injEq] at H
   obtain ⟨rfl, rfl, rfl, rfl, rfl, rfl, rfl⟩ := H
   go_enter Try.func6, Try.ntmps6
   go_wp2_with (first | ((with_reducible refine zD 1 rfl ?_); (try (refine gate_guard (by rfl) ?_; dsimp only)); refine zE 1 #[.int .i64 a0_0, .slice A0_1 l0_1.length c0_1] 24 ?_; intro Aj hg w68 hbox hb; have Aa := Am (hbox); have As := zA hg HB; replace HB := zB HB hb; have Af := As; clear hb hbox hg) | ((with_reducible refine zD 2 rfl ?_); (try (refine gate_guard (by rfl) ?_; dsimp only)); refine zE 2 #[.int .i64 0, .slice none 0 0, .int .i64 0, .int .i64 0, .int .i64 0, .int .i64 0] 30 ?_; intro Ag hg w69 hbox hb; have Ab := Am (hbox); have At := zY1 hg HB Af.out; replace HB := zX1 HB Af.out hb; have Ai := At; have Ak := Am (zN hg (kL Aa.out)); have Al := Am (zM hg (kL Aa.out)); replace Aa := kBa Aa hb; clear hb hbox hg; have hnb70 := Ak.out; have hnc70 := Al.out; obtain ⟨He, Hf⟩ := bc2 Aa.out; obtain ⟨Hg, Hh⟩ := bf2 Aa.out) | ((with_reducible refine zD 4 rfl ?_); (try (refine gate_guard (by rfl) ?_; dsimp only)); refine zE 4 #[.int .i64 0, .slice none 0 0, .int .i64 0, .int .i64 0, .int .i64 0, .int .i64 0] 30 ?_; intro Ah hg w72 hbox hb; have Ad := Am (hbox); have Au := zY2 hg HB Af.out Ai.out; replace HB := zX2 HB Af.out Ai.out hb; have Ap := Au; have Ae := Am (zN hg (kL Aa.out)); have An := Am (zM hg (kL Aa.out)); replace Aa := kBa Aa hb; have Ac := Am (zN hg (kL Ab.out)); have Ao := Am (zM hg (kL Ab.out)); replace Ab := kBa Ab hb; clear hb hbox hg; have hnb73 := An.out; have hnc73 := Ae.out; have hnb74 := Ao.out; have hnc74 := Ac.out; obtain ⟨Hi, Hj, Hk, Hl, Hm, Hn⟩ := bc6 Ad.out; obtain ⟨Ho, Hp, Hq, Hr, Hs, Ht⟩ := bf6 Ad.out; obtain ⟨Hu, Hv⟩ := bc2 Aa.out; obtain ⟨Hw, Hx⟩ := bf2 Aa.out) | ((with_reducible refine zC 18 rfl ?_); refine zL (some 29) Try.func18 #[.slice A0_1 l0_1.length c0_1] ?_; (with_reducible refine (hard_Get.calls k _ _ l0_1 t369 t370 t371 t372 _ ?Aq ?Ar A50.out).mono ?_); (case Aq => exact Kd.C_below Aw.out (pE3 HB.out Af.out Ai.out Ap.out)); (case Ar => exact Ax.out); rintro e w77 ⟨rfl, hb⟩; refine ⟨_, rfl, ?_⟩; replace Aa := Am (blk_below (g := Aj) (kX1 Aa.out Ae.out) hb); replace Ab := Am (blk_below (g := Ag) (kX1 Ab.out Ac.out) hb); replace Ad := Am (blk_below (g := Ah) (kX0 Ad.out) hb); replace HB := zX3 HB Af.out Ai.out Ap.out hb; (try clear hb); obtain ⟨Hy, Hz, H0, H2, H3, H4⟩ := bc6 Ad.out; obtain ⟨H5, H6, H7, H8, H9, Ia⟩ := bf6 Ad.out) | (go_at_call 13; (refine (wal_Check.calls k (wrap64 (a0_0 - 10)) _ _ ([] : List (S52)) t369 t370 t371 0 t373 _ ?Aq ?Ar A52.out).mono ?_); (case Aq => exact Kd.C_nil _ _); (case Ar => exact Nat.le_refl _); rintro e w79 ⟨rfl, hb⟩; replace Aa := Am (blk_below (g := Aj) (kX1 Aa.out Ae.out) hb); replace Ab := Am (blk_below (g := Ag) (kX1 Ab.out Ac.out) hb); replace Ad := Am (blk_below (g := Ah) (o := .cells #[.int .i64 (wrap64 (a0_0 - 10)), .slice none 0 0, .int .i64 t369, .int .i64 t370, .int .i64 t371, .int .i64 0] 30 (0, 0)) (by (with_reducible repeat (first | refine blk_drewN ?_ _ | refine blk_drew ?_ | refine blk_alloc ?_ _)); refine blk_put (cs := #[.int .i64 (wrap64 (a0_0 - 10)), .slice none 0 0, .int .i64 t369, .int .i64 t370, .int .i64 0, .int .i64 0]) ?_ 4 _ rfl; (with_reducible repeat (first | refine blk_drewN ?_ _ | refine blk_drew ?_ | refine blk_alloc ?_ _)); refine blk_put (cs := #[.int .i64 (wrap64 (a0_0 - 10)), .slice none 0 0, .int .i64 t369, .int .i64 0, .int .i64 0, .int .i64 0]) ?_ 3 _ rfl; (with_reducible repeat (first | refine blk_drewN ?_ _ | refine blk_drew ?_ | refine blk_alloc ?_ _)); refine blk_put (cs := #[.int .i64 (wrap64 (a0_0 - 10)), .slice none 0 0, .int .i64 0, .int .i64 0, .int .i64 0, .int .i64 0]) ?_ 2 _ rfl; (with_reducible repeat (first | refine blk_drewN ?_ _ | refine blk_drew ?_ | refine blk_alloc ?_ _)); exact Ad.out) hb); replace HB := zX3 HB Af.out Ai.out Ap.out hb; (try clear hb); obtain ⟨Ib, Ic, Ie, If, Ig, Ih⟩ := bc6 Ab.out; obtain ⟨Ii, Ij, Ik, Il, Im, In⟩ := bf6 Ab.out))
   refine bodyPost_ret (results_ct rfl _ _ Ag 30 #[.int .i64 0, .slice none 0 0, .int .i64 0, .int .i64 0, .int .i64 0, .int .i64 0] (0, 0) _ rfl (kX0 Ab.out) Try.underlying30 rfl (by kernel_rfl)) rfl ?_
   exact ⟨_, pX, zn, pE3 HB.out Af.out Ai.out Ap.out⟩
  rw [if_pos c53] at H
  obtain ⟨c53b0, c53b1⟩ := zc c53
  clear c53
  simp only [Option.some.injEq, Prod.mk.injEq] at H
  obtain ⟨rfl, rfl, rfl, rfl, rfl, rfl, rfl⟩ := H
  go_enter Try.func6, Try.ntmps6
  go_wp2_with (first | ((with_reducible refine zD 1 rfl ?_); (try (refine gate_guard (by rfl) ?_; dsimp only)); refine zE 1 #[.int .i64 a0_0, .slice A0_1 l0_1.length c0_1] 24 ?_; intro Aj hg w54 hbox hb; have Aa := Am (hbox); have As := zA hg HB; replace HB := zB HB hb; have Af := As; clear hb hbox hg) | ((with_reducible refine zD 2 rfl ?_); (try (refine gate_guard (by rfl) ?_; dsimp only)); refine zE 2 #[.int .i64 0, .slice none 0 0, .int .i64 0, .int .i64 0, .int .i64 0, .int .i64 0] 30 ?_; intro Ag hg w55 hbox hb; have Ab := Am (hbox); have At := zY1 hg HB Af.out; replace HB := zX1 HB Af.out hb; have Ai := At; have Ak := Am (zN hg (kL Aa.out)); have Al := Am (zM hg (kL Aa.out)); replace Aa := kBa Aa hb; clear hb hbox hg; have hnb56 := Ak.out; have hnc56 := Al.out; obtain ⟨Fu, Fv⟩ := bc2 Aa.out; obtain ⟨Fw, Fx⟩ := bf2 Aa.out) | ((with_reducible refine zD 4 rfl ?_); (try (refine gate_guard (by rfl) ?_; dsimp only)); refine zE 4 #[.int .i64 0, .slice none 0 0, .int .i64 0, .int .i64 0, .int .i64 0, .int .i64 0] 30 ?_; intro Ah hg w58 hbox hb; have Ad := Am (hbox); have Au := zY2 hg HB Af.out Ai.out; replace HB := zX2 HB Af.out Ai.out hb; have Ap := Au; have Ae := Am (zN hg (kL Aa.out)); have An := Am (zM hg (kL Aa.out)); replace Aa := kBa Aa hb; have Ac := Am (zN hg (kL Ab.out)); have Ao := Am (zM hg (kL Ab.out)); replace Ab := kBa Ab hb; clear hb hbox hg; have hnb59 := An.out; have hnc59 := Ae.out; have hnb60 := Ao.out; have hnc60 := Ac.out; obtain ⟨Fy, Fz, F0, F1, F2, F3⟩ := bc6 Ad.out; obtain ⟨F4, F5, F6, F7, F8, F9⟩ := bf6 Ad.out; obtain ⟨Ga, Gb⟩ := bc2 Aa.out; obtain ⟨Gc, Gd⟩ := bf2 Aa.out) | ((with_reducible refine zC 18 rfl ?_); refine zL (some 29) Try.func18 #[.slice A0_1 l0_1.length c0_1] ?_; (with_reducible refine (hard_Get.calls k _ _ l0_1 t369 t370 t371 t372 _ ?Aq ?Ar A50.out).mono ?_); (case Aq => exact Kd.C_below Aw.out (pE3 HB.out Af.out Ai.out Ap.out)); (case Ar => exact Ax.out); rintro e w63 ⟨rfl, hb⟩; refine ⟨_, rfl, ?_⟩; replace Aa := Am (blk_below (g := Aj) (kX1 Aa.out Ae.out) hb); replace Ab := Am (blk_below (g := Ag) (kX1 Ab.out Ac.out) hb); replace Ad := Am (blk_below (g := Ah) (kX0 Ad.out) hb); replace HB := zX3 HB Af.out Ai.out Ap.out hb; (try clear hb); obtain ⟨Ge, Gf, Gg, Gh, Gi, Gj⟩ := bc6 Ad.out; obtain ⟨Gk, Gl, Gm, Gn, Go, Gp⟩ := bf6 Ad.out) | (go_at_call 13; (refine (wal_Check.calls k (wrap64 (a0_0 - 10)) _ _ ([] : List (S52)) t369 t370 t371 0 t373 _ ?Aq ?Ar A52.out).mono ?_); (case Aq => exact Kd.C_nil _ _); (case Ar => exact Nat.le_refl _); rintro e w65 ⟨rfl, hb⟩; replace Aa := Am (blk_below (g := Aj) (kX1 Aa.out Ae.out) hb); replace Ab := Am (blk_below (g := Ag) (kX1 Ab.out Ac.out) hb); replace Ad := Am (blk_below (g := Ah) (o := .cells #[.int .i64 (wrap64 (a0_0 - 10)), .slice none 0 0, .int .i64 t369, .int .i64 t370, .int .i64 t371, .int .i64 0] 30 (0, 0)) (by (with_reducible repeat (first | refine blk_drewN ?_ _ | refine blk_drew ?_ | refine blk_alloc ?_ _)); refine blk_put (cs := #[.int .i64 (wrap64 (a0_0 - 10)), .slice none 0 0, .int .i64 t369, .int .i64 t370, .int .i64 0, .int .i64 0]) ?_ 4 _ rfl; (with_reducible repeat (first | refine blk_drewN ?_ _ | refine blk_drew ?_ | refine blk_alloc ?_ _)); refine blk_put (cs := #[.int .i64 (wrap64 (a0_0 - 10)), .slice none 0 0, .int .i64 t369, .int .i64 0, .int .i64 0, .int .i64 0]) ?_ 3 _ rfl; (with_reducible repeat (first | refine blk_drewN ?_ _ | refine blk_drew ?_ | refine blk_alloc ?_ _)); refine blk_put (cs := #[.int .i64 (wrap64 (a0_0 - 10)), .slice none 0 0, .int .i64 0, .int .i64 0, .int .i64 0, .int .i64 0]) ?_ 2 _ rfl; (with_reducible repeat (first | refine blk_drewN ?_ _ | refine blk_drew ?_ | refine blk_alloc ?_ _)); exact Ad.out) hb); replace HB := zX3 HB Af.out Ai.out Ap.out hb; (try clear hb); obtain ⟨Gq, Gr, Gs, Gt, Gu, Gv⟩ := bc6 Ad.out; obtain ⟨Gw, Gx, Gy, Gz, G0, G1⟩ := bf6 Ad.out; obtain ⟨G2, G3, G4, G5, G6, G7⟩ := bc6 Ab.out; obtain ⟨G8, G9, Ha, Hb, Hc, Hd⟩ := bf6 Ab.out))
  refine bodyPost_ret (results_ct rfl _ _ Ag 30 #[.int .i64 (wrap64 (a0_0 - 10)), .slice none 0 0, .int .i64 t369, .int .i64 t370, .int .i64 t371, .int .i64 0] (0, 0) _ rfl (kX0 Ab.out) Try.underlying30 rfl (by kernel_rfl)) rfl ?_
  exact ⟨_, pX, zn, pE3 HB.out Af.out Ai.out Ap.out⟩
 rw [if_neg c49] at H
 obtain ⟨c49b0, c49b1⟩ := zk c49
 by_cases c93 : a0_0 = 13
 rotate_left
 ·rw [if_neg c93] at H
  obtain ⟨c93b0, c93b1⟩ := zk c93
  simp only [Option.some.injEq, Prod.mk.injEq] at H
  obtain ⟨rfl, rfl, rfl, rfl, rfl, rfl, rfl⟩ := H
  go_enter Try.func6, Try.ntmps6
  go_wp2_with (first | ((with_reducible refine zD 1 rfl ?_); (try (refine gate_guard (by rfl) ?_; dsimp only)); refine zE 1 #[.int .i64 a0_0, .slice A0_1 l0_1.length c0_1] 24 ?_; intro Aj hg w148 hbox hb; have Aa := Am (hbox); have As := zA hg HB; replace HB := zB HB hb; have Af := As; clear hb hbox hg) | ((with_reducible refine zD 2 rfl ?_); (try (refine gate_guard (by rfl) ?_; dsimp only)); refine zE 2 #[.int .i64 0, .slice none 0 0, .int .i64 0, .int .i64 0, .int .i64 0, .int .i64 0] 30 ?_; intro Ag hg w149 hbox hb; have Ab := Am (hbox); have At := zY1 hg HB Af.out; replace HB := zX1 HB Af.out hb; have Ai := At; have Ak := Am (zN hg (kL Aa.out)); have Al := Am (zM hg (kL Aa.out)); replace Aa := kBa Aa hb; clear hb hbox hg; have hnb150 := Ak.out; have hnc150 := Al.out; obtain ⟨_, _⟩ := bc2 Aa.out; obtain ⟨_, _⟩ := bf2 Aa.out) | ((with_reducible refine zD 4 rfl ?_); (try (refine gate_guard (by rfl) ?_; dsimp only)); refine zE 4 #[.int .i64 0, .slice none 0 0, .int .i64 0, .int .i64 0, .int .i64 0, .int .i64 0] 30 ?_; intro Ah hg w152 hbox hb; have Ad := Am (hbox); have Au := zY2 hg HB Af.out Ai.out; replace HB := zX2 HB Af.out Ai.out hb; have Ap := Au; have Ae := Am (zN hg (kL Aa.out)); have An := Am (zM hg (kL Aa.out)); replace Aa := kBa Aa hb; have Ac := Am (zN hg (kL Ab.out)); have Ao := Am (zM hg (kL Ab.out)); replace Ab := kBa Ab hb; clear hb hbox hg; have hnb153 := An.out; have hnc153 := Ae.out; have hnb154 := Ao.out; have hnc154 := Ac.out; obtain ⟨_, _, _, _, _, _⟩ := bc6 Ad.out; obtain ⟨_, _, _, _, _, _⟩ := bf6 Ad.out; obtain ⟨_, _⟩ := bc2 Aa.out; obtain ⟨_, _⟩ := bf2 Aa.out; obtain ⟨_, _, _, _, _, _⟩ := bc6 Ab.out; obtain ⟨_, _, _, _, _, _⟩ := bf6 Ab.out))
  refine bodyPost_ret (results_ct rfl _ _ Ag 30 #[.int .i64 0, .slice none 0 0, .int .i64 0, .int .i64 0, .int .i64 0, .int .i64 0] (0, 0) _ rfl (kX1 Ab.out Ac.out) Try.underlying30 rfl (by kernel_rfl)) rfl ?_
  exact ⟨_, pX, zn, pE3 HB.out Af.out Ai.out Ap.out⟩
 rw [if_pos c93] at H
 obtain ⟨c93b0, c93b1⟩ := zc c93
 clear c93
 obtain ⟨⟨t374, t375, t376⟩, A94, H⟩ := zb H
 dsimp only at H
 have HC95 := Am H
 clear H
 go_enter Try.func6, Try.ntmps6
 go_upto_region 10 with (first | ((with_reducible refine zD 1 rfl ?_); (try (refine gate_guard (by rfl) ?_; dsimp only)); refine zE 1 #[.int .i64 a0_0, .slice A0_1 l0_1.length c0_1] 24 ?_; intro Aj hg w96 hbox hb; have Aa := Am (hbox); have As := zA hg HB; replace HB := zB HB hb; have Af := As; clear hb hbox hg) | ((with_reducible refine zD 2 rfl ?_); (try (refine gate_guard (by rfl) ?_; dsimp only)); refine zE 2 #[.int .i64 0, .slice none 0 0, .int .i64 0, .int .i64 0, .int .i64 0, .int .i64 0] 30 ?_; intro Ag hg w97 hbox hb; have Ab := Am (hbox); have At := zY1 hg HB Af.out; replace HB := zX1 HB Af.out hb; have Ai := At; have Ak := Am (zN hg (kL Aa.out)); have Al := Am (zM hg (kL Aa.out)); replace Aa := kBa Aa hb; clear hb hbox hg; have hnb98 := Ak.out; have hnc98 := Al.out; obtain ⟨Jw, Jx⟩ := bc2 Aa.out; obtain ⟨Jy, Jz⟩ := bf2 Aa.out) | ((with_reducible refine zD 4 rfl ?_); (try (refine gate_guard (by rfl) ?_; dsimp only)); refine zE 4 #[.int .i64 0, .slice none 0 0, .int .i64 0, .int .i64 0, .int .i64 0, .int .i64 0] 30 ?_; intro Ah hg w100 hbox hb; have Ad := Am (hbox); have Au := zY2 hg HB Af.out Ai.out; replace HB := zX2 HB Af.out Ai.out hb; have Ap := Au; have Ae := Am (zN hg (kL Aa.out)); have An := Am (zM hg (kL Aa.out)); replace Aa := kBa Aa hb; have Ac := Am (zN hg (kL Ab.out)); have Ao := Am (zM hg (kL Ab.out)); replace Ab := kBa Ab hb; clear hb hbox hg; have hnb101 := An.out; have hnc101 := Ae.out; have hnb102 := Ao.out; have hnc102 := Ac.out; obtain ⟨A0, A1, A2, A4, A6, A7⟩ := bc6 Ad.out; obtain ⟨A8, A9, Ba, Bb, Bc, Bd⟩ := bf6 Ad.out; obtain ⟨Be, Bf⟩ := bc2 Aa.out; obtain ⟨Bg, Bh⟩ := bf2 Aa.out) | ((with_reducible refine zC 19 rfl ?_); refine zL (some 38) Try.func19 #[.slice A0_1 l0_1.length c0_1] ?_; (with_reducible refine (varint_Get.calls k _ _ l0_1 t374 t375 t376 _ ?Aq ?Ar A94.out).mono ?_); (case Aq => exact Kd.C_below Aw.out (pE3 HB.out Af.out Ai.out Ap.out)); (case Ar => exact Ax.out); rintro e w' ⟨rfl, ⟨nd, rfl⟩⟩; refine ⟨_, rfl, ?_⟩))
 (try simp only [Act.put, List.setIfInBounds_toArray, List.set_cons_zero, List.set_cons_succ])
 go_cut [54] (fun v54 wc => ∃ (kq : Nat) (Ay : Bool), v54 = .bool Ay ∧ Aside0 (wal_Get.j0 kq 2 t374 Ay (wrap64 (a0_0 - 10)) 0 0 0 0 = some (r1, r2, r3, r4, r5, r6, r7)) ∧ Aside0 (kq ≤ k) ∧ Aside0 (wc.heap[Aj]? = some (.cells #[.int .i64 a0_0, (.slice A0_1 l0_1.length c0_1)] 24 (0, 0))) ∧ Aside0 (wc.heap[Ag]? = some (.cells #[.int .i64 0, (.slice none 0 0), .int .i64 0, .int .i64 0, .int .i64 0, .int .i64 0] 30 (0, 0))) ∧ Aside0 (wc.heap[Ah]? = some (.cells #[.int .i64 (wrap64 (a0_0 - 10)), (.slice none 0 0), .int .i64 0, .int .i64 0, .int .i64 0, .int .i64 0] 30 (0, 0))) ∧ Aside0 (Below w.heap.size w wc))
 case first =>
  have H := HC95.out
  clear HC95
  by_cases c105 : t376 = 0
  rotate_left
  ·rw [if_neg c105] at H
   obtain ⟨c105b0, c105b1⟩ := zk c105
   (first | rw [c105b0] | (simp only [i64_w, i32_w]; rw [c105b0]) | skip)
   have H' := Am H
   clear H
   go_wp2
   go_meet
   case rel => exact ⟨_, (false), zr, H', ⟨zo⟩, ⟨kX1 Aa.out Ae.out⟩, ⟨kX1 Ab.out Ac.out⟩, ⟨kX0 Ad.out⟩, ⟨pE3 HB.out Af.out Ai.out Ap.out⟩⟩
  rw [if_pos c105] at H
  obtain ⟨c105b0, c105b1⟩ := zc c105
  clear c105
  (first | rw [c105b0] | (simp only [i64_w, i32_w]; rw [c105b0]) | skip)
  by_cases c106 : t375 = (l0_1.length : Int)
  rotate_left
  ·rw [if_neg c106] at H
   obtain ⟨c106b0, c106b1⟩ := zk c106
   have H' := Am H
   clear H
   have hnb110 := Ak.out
   have hnc110 := Al.out
   have hnb111 := Ae.out
   have hnc111 := An.out
   obtain ⟨Bm, Bn⟩ := bc2 Aa.out
   obtain ⟨Bo, Bp⟩ := bf2 Aa.out
   go_wp2
   go_meet
   case rel => exact ⟨_, (false), zr, H', ⟨zo⟩, ⟨kX1 Aa.out Ae.out⟩, ⟨kX1 Ab.out Ac.out⟩, ⟨kX0 Ad.out⟩, ⟨pE3 HB.out Af.out Ai.out Ap.out⟩⟩
  rw [if_pos c106] at H
  obtain ⟨c106b0, c106b1⟩ := zc c106
  clear c106
  have H' := Am H
  clear H
  have hnb107 := Ak.out
  have hnc107 := Al.out
  have hnb108 := Ae.out
  have hnc108 := An.out
  obtain ⟨Bi, Bj⟩ := bc2 Aa.out
  obtain ⟨Bk, Bl⟩ := bf2 Aa.out
  go_wp2
  go_meet
  case rel => exact ⟨_, (decide (t374 ≤ 2147483647)), zr, H', ⟨zo⟩, ⟨kX1 Aa.out Ae.out⟩, ⟨kX1 Ab.out Ac.out⟩, ⟨kX0 Ad.out⟩, ⟨pE3 HB.out Af.out Ai.out Ap.out⟩⟩
 case rest =>
  clear HC95
  try clear c1
  try clear c2
  try clear c2b0
  try clear c2b1
  try clear p2
  try clear c3
  try clear c4
  try clear c4b0
  try clear c4b1
  try clear c5
  try clear c6
  try clear c6b0
  try clear c6b1
  try clear p6
  try clear c7
  try clear c8
  try clear c9
  try clear c10
  try clear c11
  try clear c12
  try clear c13
  try clear c17
  try clear c18
  try clear c19
  try clear c24
  try clear c27
  try clear c28
  try clear c38
  try clear c41
  try clear c42
  try clear c49
  try clear c49b0
  try clear c49b1
  try clear c51
  try clear c51b0
  try clear c51b1
  try clear c53
  try clear c53b0
  try clear c53b1
  try clear c56
  try clear c59
  try clear c60
  try clear p64
  try clear c70
  try clear c73
  try clear c74
  try clear c83
  try clear c86
  try clear c87
  try clear c93
  try clear c93b0
  try clear c93b1
  try clear c98
  try clear c101
  try clear c102
  try clear c105
  try clear c105b0
  try clear c105b1
  try clear c106
  try clear c106b0
  try clear c106b1
  try clear c107
  try clear c108
  try clear c110
  try clear c111
  try clear A0 A1 A2 A4 A6 A7
  try clear Be Bf
  try clear Bi Bj
  try clear Bs Bt
  try clear Bm Bn
  try clear Bw Bx By Bz B0 B1
  try clear B8 B9
  try clear Cc Cd Ce Cf Cg Ch
  try clear Co Cp Cq Cr Cs Ct
  try clear C0 C1 C2 C3 C4 C5
  try clear Dc Dd
  try clear Dg Dh Di Dj Dk Dl
  try clear Ds Dt
  try clear Dw Dx Dy Dz D0 D1
  try clear D8 D9 Ea Eb Ec Ed
  try clear Ek El
  try clear Eo Ep Er Es Et Eu
  try clear E2 E3
  try clear E6 E7 E8 E9 Fa Fb
  try clear Fi Fj Fk Fl Fm Fn
  try clear Fu Fv
  try clear Fy Fz F0 F1 F2 F3
  try clear Ga Gb
  try clear Ge Gf Gg Gh Gi Gj
  try clear Gq Gr Gs Gt Gu Gv
  try clear G2 G3 G4 G5 G6 G7
  try clear He Hf
  try clear Hi Hj Hk Hl Hm Hn
  try clear Hu Hv
  try clear Hy Hz H0 H2 H3 H4
  try clear Ib Ic Ie If Ig Ih
  try clear Io Ip
  try clear Is It Iu Iv Iw Ix
  try clear I4 I5
  try clear I8 I9 Ja Jb Jc Jd
  try clear Jk Jl Jm Jn Jo Jp
  try clear Jw Jx
  try clear A8 A9 Ba Bb Bc Bd
  try clear Bg Bh
  try clear Bk Bl
  try clear Bu Bv
  try clear Bo Bp
  try clear B2 B3 B4 B5 B6 B7
  try clear Ca Cb
  try clear Ci Cj Ck Cl Cm Cn
  try clear Cu Cv Cw Cx Cy Cz
  try clear C6 C7 C8 C9 Da Db
  try clear De Df
  try clear Dm Dn Do Dp Dq Dr
  try clear Du Dv
  try clear D2 D3 D4 D5 D6 D7
  try clear Ee Ef Eg Eh Ei Ej
  try clear Em En
  try clear Ew Ex Ey Ez E0 E1
  try clear E4 E5
  try clear Fc Fd Fe Ff Fg Fh
  try clear Fo Fp Fq Fr Fs Ft
  try clear Fw Fx
  try clear F4 F5 F6 F7 F8 F9
  try clear Gc Gd
  try clear Gk Gl Gm Gn Go Gp
  try clear Gw Gx Gy Gz G0 G1
  try clear G8 G9 Ha Hb Hc Hd
  try clear Hg Hh
  try clear Ho Hp Hq Hr Hs Ht
  try clear Hw Hx
  try clear H5 H6 H7 H8 H9 Ia
  try clear Ii Ij Ik Il Im In
  try clear Iq Ir
  try clear Iy Iz I0 I1 I2 I3
  try clear I6 I7
  try clear Je Jf Jg Jh Ji Jj
  try clear Jq Jr Js Jt Ju Jv
  try clear Jy Jz
  obtain ⟨kq, Ay, rfl, HA, HJ94, Aa, Ab, Ad, HB⟩ := hcut
  cases kq with
  | zero => exact absurd HA.out (by simp [wal_Get.j0])
  | succ kj94 =>
   have H := HA.out
   clear HA
   simp only [wal_Get.j0] at H
   by_cases c113 : Ay = true
   ·subst c113
    rw [if_pos rfl] at H
    obtain ⟨t377, A114, H⟩ := zb H
    by_cases c115 : t377 = 0
    rotate_left
    ·rw [if_neg c115] at H
     obtain ⟨c115b0, c115b1⟩ := zk c115
     simp only [Option.some.injEq, Prod.mk.injEq] at H
     obtain ⟨rfl, rfl, rfl, rfl, rfl, rfl, rfl⟩ := H
     have hnb123 := An.out
     have hnc123 := Ae.out
     have hnb124 := Ao.out
     have hnc124 := Ac.out
     obtain ⟨_, _, _, _, _, _⟩ := bc6 Ad.out
     obtain ⟨_, _, _, _, _, _⟩ := bf6 Ad.out
     go_wp2_with (first | (go_at_call 13; (refine (wal_Check.calls kj94 (wrap64 (a0_0 - 10)) _ _ ([] : List (S52)) 0 0 0 (wrap64 (t374)) t377 _ ?Aq ?Ar A114.out).mono ?_); (case Aq => exact Kd.C_nil _ _); (case Ar => exact Nat.le_refl _); rintro e w126 ⟨rfl, hb⟩; replace Aa := Am (blk_below (g := Aj) (kX1 Aa.out Ae.out) hb); replace Ab := Am (blk_below (g := Ag) (kX1 Ab.out Ac.out) hb); replace Ad := Am (blk_below (g := Ah) (o := .cells #[.int .i64 (wrap64 (a0_0 - 10)), .slice none 0 0, .int .i64 0, .int .i64 0, .int .i64 0, .int .i64 (wrap64 (t374))] 30 (0, 0)) (by (with_reducible repeat (first | refine blk_drewN ?_ _ | refine blk_drew ?_ | refine blk_alloc ?_ _)); refine blk_put (cs := #[.int .i64 (wrap64 (a0_0 - 10)), .slice none 0 0, .int .i64 0, .int .i64 0, .int .i64 0, .int .i64 0]) ?_ 5 _ rfl; (with_reducible repeat (first | refine blk_drewN ?_ _ | refine blk_drew ?_ | refine blk_alloc ?_ _)); exact Ad.out) hb); replace HB := zX3 HB Af.out Ai.out Ap.out hb; (try clear hb); have hnb127 := Al.out; have hnc127 := Ak.out; obtain ⟨_, _, _, _, _, _⟩ := bc6 Ab.out; obtain ⟨_, _, _, _, _, _⟩ := bf6 Ab.out))
     refine bodyPost_ret (results_ct rfl _ _ Ag 30 #[.int .i64 0, .slice none 0 0, .int .i64 0, .int .i64 0, .int .i64 0, .int .i64 0] (0, 0) _ rfl (kX0 Ab.out) Try.underlying30 rfl (by kernel_rfl)) rfl ?_
     exact ⟨_, pX, zn, pE3 HB.out Af.out Ai.out Ap.out⟩
    rw [if_pos c115] at H
    obtain ⟨c115b0, c115b1⟩ := zc c115
    clear c115
    simp only [Option.some.injEq, Prod.mk.injEq] at H
    obtain ⟨rfl, rfl, rfl, rfl, rfl, rfl, rfl⟩ := H
    have hnb116 := An.out
    have hnc116 := Ae.out
    have hnb117 := Ao.out
    have hnc117 := Ac.out
    obtain ⟨_, _, _, _, _, _⟩ := bc6 Ad.out
    obtain ⟨_, _, _, _, _, _⟩ := bf6 Ad.out
    go_wp2_with (first | (go_at_call 13; (refine (wal_Check.calls kj94 (wrap64 (a0_0 - 10)) _ _ ([] : List (S52)) 0 0 0 (wrap64 (t374)) t377 _ ?Aq ?Ar A114.out).mono ?_); (case Aq => exact Kd.C_nil _ _); (case Ar => exact Nat.le_refl _); rintro e w119 ⟨rfl, hb⟩; replace Aa := Am (blk_below (g := Aj) (kX1 Aa.out Ae.out) hb); replace Ab := Am (blk_below (g := Ag) (kX1 Ab.out Ac.out) hb); replace Ad := Am (blk_below (g := Ah) (o := .cells #[.int .i64 (wrap64 (a0_0 - 10)), .slice none 0 0, .int .i64 0, .int .i64 0, .int .i64 0, .int .i64 (wrap64 (t374))] 30 (0, 0)) (by (with_reducible repeat (first | refine blk_drewN ?_ _ | refine blk_drew ?_ | refine blk_alloc ?_ _)); refine blk_put (cs := #[.int .i64 (wrap64 (a0_0 - 10)), .slice none 0 0, .int .i64 0, .int .i64 0, .int .i64 0, .int .i64 0]) ?_ 5 _ rfl; (with_reducible repeat (first | refine blk_drewN ?_ _ | refine blk_drew ?_ | refine blk_alloc ?_ _)); exact Ad.out) hb); replace HB := zX3 HB Af.out Ai.out Ap.out hb; (try clear hb); obtain ⟨_, _, _, _, _, _⟩ := bc6 Ad.out; obtain ⟨_, _, _, _, _, _⟩ := bf6 Ad.out; have hnb121 := Al.out; have hnc121 := Ak.out; obtain ⟨_, _, _, _, _, _⟩ := bc6 Ab.out; obtain ⟨_, _, _, _, _, _⟩ := bf6 Ab.out))
    refine bodyPost_ret (results_ct rfl _ _ Ag 30 #[.int .i64 (wrap64 (a0_0 - 10)), .slice none 0 0, .int .i64 0, .int .i64 0, .int .i64 0, .int .i64 (wrap64 (t374))] (0, 0) _ rfl (kX0 Ab.out) Try.underlying30 rfl (by kernel_rfl)) rfl ?_
    exact ⟨_, pX, zn, pE3 HB.out Af.out Ai.out Ap.out⟩
   replace c113 := Bool.eq_false_iff.mpr c113
   subst c113
   have H1 : (if 2 = 0 then ((wal_Check.f kj94 (wrap64 (a0_0 - 10)) ([] : List (S52)) 0 0 0 0).bind fun t378 => (if t378 = 0 then (some ((wrap64 (a0_0 - 10)), ([] : List (S52)), 0, 0, 0, 0, 0)) else (some (0, ([] : List (S52)), 0, 0, 0, 0, 2)))) else (some (0, ([] : List (S52)), 0, 0, 0, 0, 2))) = some (r1, r2, r3, r4, r5, r6, r7) := by rw [if_neg (show ¬ (false = true) by decide)] at H; exact H
   clear H
   have H := H1
   clear H1
   by_cases c129 : 2 = 0
   rotate_left
   ·rw [if_neg c129] at H
    obtain ⟨c129b0, c129b1⟩ := zk c129
    simp only [Option.some.injEq, Prod.mk.injEq] at H
    obtain ⟨rfl, rfl, rfl, rfl, rfl, rfl, rfl⟩ := H
    have hnb145 := Al.out
    have hnc145 := Ak.out
    have hnb146 := Ac.out
    have hnc146 := Ao.out
    obtain ⟨_, _, _, _, _, _⟩ := bc6 Ab.out
    obtain ⟨_, _, _, _, _, _⟩ := bf6 Ab.out
    go_wp2
    refine bodyPost_ret (results_ct rfl _ _ Ag 30 #[.int .i64 0, .slice none 0 0, .int .i64 0, .int .i64 0, .int .i64 0, .int .i64 0] (0, 0) _ rfl (kX0 Ab.out) Try.underlying30 rfl (by kernel_rfl)) rfl ?_
    exact ⟨_, pX, zn, pE3 HB.out Af.out Ai.out Ap.out⟩
   exact absurd c129 (by decide)
def garnerref02_same.l0 : Nat → List Int → List Int → Int → Option (Bool)
 | 0, _, _, _ => none
 | k + 1, x0, x1, x5 => if x5 < (x0.length : Int) then (if 0 ≤ x5 then (if x5 < (x1.length : Int) then (if (rd x0 x5) = (rd x1 x5) then (garnerref02_same.l0 k x0 x1 (wrap64 (x5 + 1))) else (some false)) else (none)) else (none)) else (some true)
def garnerref02_same.f (k : Nat) (l0 : List Int) (l1 : List Int) : Option (Bool) := if (l0.length : Int) = (l1.length : Int) then (garnerref02_same.l0 k l0 l1 0) else (some false)
theorem garnerref02_same.mono_l : ∀ k, (∀ y0 y1 y2, LeO (garnerref02_same.l0 k y0 y1 y2) (garnerref02_same.l0 (k + 1) y0 y1 y2))
 | 0 => fun _ _ _ r h => by simp [garnerref02_same.l0] at h
 | k + 1 => by
  have ih0 := garnerref02_same.mono_l k
  ·intro y0 y1 y2
   unfold garnerref02_same.l0
   repeat' (with_reducible first | exact ih0 .. | exact LeO.refl .. | exact LeO.none .. | refine LeO.ite ?_ ?_ | refine LeO.bind ?_ (fun _ => ?_))
theorem garnerref02_same.mono : ∀ a0 a1 k, LeO (garnerref02_same.f k a0 a1) (garnerref02_same.f (k + 1) a0 a1) := by
 intro a0 a1 k
 have ih0 := garnerref02_same.mono_l k
 unfold garnerref02_same.f
 repeat' (with_reducible first | exact ih0 .. | exact LeO.refl .. | exact LeO.none .. | refine LeO.ite ?_ ?_ | refine LeO.bind ?_ (fun _ => ?_))
set_option maxRecDepth 100000 in
theorem garnerref02_same.calls (k : Nat) (A0 : Option Addr) (c0 : Nat) (l0 : List Int) (A1 : Option Addr) (c1 : Nat) (l1 : List Int) (r : Bool) (w : World) (hr0 : Kd.C (Kd.int .u8) w A0 l0.length l0) (hc0 : l0.length ≤ c0) (hr1 : Kd.C (Kd.int .u8) w A1 l1.length l1) (hc1 : l1.length ≤ c1) (h : garnerref02_same.f k l0 l1 = some r) :
 Calls Try.prog 48 #[.slice A0 l0.length c0, .slice A1 l1.length c1] w fun e w' => e = .returned (.bool r) ∧ Drawn0 w w' := by
 have HR0 := Am hr0
 have HC0 := Am hc0
 clear hr0 hc0
 have HR1 := Am hr1
 have HC1 := Am hc1
 clear hr1 hc1
 unfold garnerref02_same.f at h
 have H := h
 clear h
 by_cases c3 : (l0.length : Int) = (l1.length : Int)
 rotate_left
 ·rw [if_neg c3] at H
  obtain ⟨c3b0, c3b1⟩ := zk c3
  have c3b2 : (l0.length == l1.length) = false := by first | simpa using c3 | (simp at c3 ⊢; omega)
  obtain rfl := Option.some.inj H
  go_enter Try.func48, Try.ntmps48
  go_wp2
  repeat (go_quiet (fail); try go_wp2)
  go_ret
  exact ⟨zr, zd⟩
 rw [if_pos c3] at H
 obtain ⟨c3b0, c3b1⟩ := zc c3
 have c3b2 : (l0.length == l1.length) = true := by first | simpa using c3 | (simp at c3 ⊢; omega)
 clear c3
 have H' := Am H
 clear H
 go_enter Try.func48, Try.ntmps48
 go_wp2
 repeat (go_quiet (fail); try go_wp2)
 go_loopg [5] k (fun kq v5 w' => ∃ (Aa : Int), v5 = .int .i64 Aa ∧ Aside0 (garnerref02_same.l0 kq l0 l1 Aa = some r) ∧ Aside0 (kq ≤ k) ∧ Drawn0 w w')
 case atStart => exact ⟨(0), zr, H', ⟨Nat.le_refl _⟩, zd⟩
 case round =>
  clear H'
  try clear c1
  try clear p2
  try clear c3
  try clear c3b0
  try clear c3b1
  try clear c3b2
  obtain ⟨Aa, rfl, HA, HK1, ⟨m1, rfl⟩⟩ := hrel
  cases gk with
  | zero => exact absurd HA.out (by simp [garnerref02_same.l0])
  | succ k1 =>
   have H := HA.out
   clear HA
   simp only [garnerref02_same.l0] at H
   by_cases c4 : Aa < (l0.length : Int)
   rotate_left
   ·rw [if_neg c4] at H
    have c4b0 := decide_eq_false c4
    clear c4
    obtain rfl := Option.some.inj H
    go_wp2
    repeat (go_quiet (fail); try go_wp2)
    go_ret
    exact ⟨zr, zd⟩
   rw [if_pos c4] at H
   have c4b0 := decide_eq_true c4
   clear c4
   obtain ⟨c5, H⟩ := zI H
   have c5b0 := decide_eq_true c5
   clear c5
   obtain ⟨c6, H⟩ := zI H
   have c6b0 := decide_eq_true c6
   clear c6
   by_cases c7 : (rd l0 Aa) = (rd l1 Aa)
   rotate_left
   ·rw [if_neg c7] at H
    obtain ⟨c7b0, c7b1⟩ := zk c7
    obtain rfl := Option.some.inj H
    have p379 : 0 ≤ (Aa : Int) := of_decide_eq_true pS
    have q379 : Aa < (l0.length : Int) := of_decide_eq_true pS
    obtain ⟨Ad, e379, Ab⟩ := Kd.at_int HR0.out Aa p379 q379
    cases e379
    replace p379 := eq_true p379
    replace q379 := eq_true q379
    have p380 : 0 ≤ (Aa : Int) := of_decide_eq_true pS
    have q380 : Aa < (l1.length : Int) := of_decide_eq_true pS
    obtain ⟨Ae, e380, Ac⟩ := Kd.at_int HR1.out Aa p380 q380
    cases e380
    replace p380 := eq_true p380
    replace q380 := eq_true q380
    go_wp2
    repeat (go_quiet (fail); try go_wp2)
    go_ret
    exact ⟨zr, zd⟩
   rw [if_pos c7] at H
   obtain ⟨c7b0, c7b1⟩ := zc c7
   clear c7
   have H' := Am H
   clear H
   have p379 : 0 ≤ (Aa : Int) := of_decide_eq_true pS
   have q379 : Aa < (l0.length : Int) := of_decide_eq_true pS
   obtain ⟨Ad, e379, Ab⟩ := Kd.at_int HR0.out Aa p379 q379
   cases e379
   replace p379 := eq_true p379
   replace q379 := eq_true q379
   have p380 : 0 ≤ (Aa : Int) := of_decide_eq_true pS
   have q380 : Aa < (l1.length : Int) := of_decide_eq_true pS
   obtain ⟨Ae, e380, Ac⟩ := Kd.at_int HR1.out Aa p380 q380
   cases e380
   replace p380 := eq_true p380
   replace q380 := eq_true q380
   go_wp2
   repeat (go_quiet (fail); try go_wp2)
   go_roundg k1
   case measure => have := HK1.out; omega
   case rel => exact ⟨(wrap64 (Aa + 1)), zr, H', ⟨by have := HK1.out; omega⟩, zd⟩
def garnerref02_Bytes.f (k : Nat) (l0 : List Int) (l1 : List Int) : Option (Bool) := (garnerref02_same.f k l0 l1).bind fun t381 => (some t381)
theorem garnerref02_Bytes.mono : ∀ a0 a1 k, LeO (garnerref02_Bytes.f k a0 a1) (garnerref02_Bytes.f (k + 1) a0 a1) := by
 intro a0 a1 k
 unfold garnerref02_Bytes.f
 repeat' (with_reducible first | exact garnerref02_same.mono .. | exact LeO.refl .. | exact LeO.none .. | refine LeO.ite ?_ ?_ | refine LeO.bind ?_ (fun _ => ?_))
set_option maxRecDepth 100000 in
theorem garnerref02_Bytes.calls (k : Nat) (A0 : Option Addr) (c0 : Nat) (l0 : List Int) (A1 : Option Addr) (c1 : Nat) (l1 : List Int) (r : Bool) (w : World) (hr0 : Kd.C (Kd.int .u8) w A0 l0.length l0) (hc0 : l0.length ≤ c0) (hr1 : Kd.C (Kd.int .u8) w A1 l1.length l1) (hc1 : l1.length ≤ c1) (h : garnerref02_Bytes.f k l0 l1 = some r) :
 Calls Try.prog 33 #[.slice A0 l0.length c0, .slice A1 l1.length c1] w fun e w' => e = .returned (.bool r) ∧ Drawn0 w w' := by
 have HR0 := Am hr0
 have HC0 := Am hc0
 clear hr0 hc0
 have HR1 := Am hr1
 have HC1 := Am hc1
 clear hr1 hc1
 unfold garnerref02_Bytes.f at h
 have H := h
 clear h
 obtain ⟨t381, A3, H⟩ := zb H
 obtain rfl := Option.some.inj H
 go_enter Try.func33, Try.ntmps33
 go_wp2_with (first | ((with_reducible refine zC 48 rfl ?_); refine zL (some 7) Try.func48 #[.slice A0 l0.length c0, .slice A1 l1.length c1] ?_; (with_reducible refine (garnerref02_same.calls k _ _ l0 _ _ l1 t381 _ ?side1 ?side2 ?side3 ?side4 A3.out).mono ?_); (case side1 => repeat (first | exact HR0.out | (with_reducible refine Kd.C_alloc ?_ _) | (with_reducible refine Kd.C_drewN ?_ _) | (with_reducible refine Kd.C_drew ?_))); (case side2 => exact HC0.out); (case side3 => repeat (first | exact HR1.out | (with_reducible refine Kd.C_alloc ?_ _) | (with_reducible refine Kd.C_drewN ?_ _) | (with_reducible refine Kd.C_drew ?_))); (case side4 => exact HC1.out); rintro e w' ⟨rfl, ⟨nd, rfl⟩⟩; refine ⟨_, rfl, ?_⟩))
 go_ret
 exact ⟨zr, zd⟩
def garnerref05_Same.f (k : Nat) (a0_0 : Bool) (l0_1 : List Int) (a0_2 : Int) (a0_3 : Int) (a0_4 : Int) (a0_5 : Int) (a1_0 : Bool) (l1_1 : List Int) (a1_2 : Int) (a1_3 : Int) (a1_4 : Int) (a1_5 : Int) : Option (Bool) := if (a0_0 == a1_0) = true then (if (a0_2 == a1_2 && (a0_3 == a1_3 && (a0_4 == a1_4 && (a0_5 == a1_5)))) = true then ((garnerref02_Bytes.f k l0_1 l1_1).bind fun t384 => (some t384)) else (some false)) else (some false)
theorem garnerref05_Same.mono : ∀ a0 a1 a2 a3 a4 a5 a6 a7 a8 a9 a10 a11 k, LeO (garnerref05_Same.f k a0 a1 a2 a3 a4 a5 a6 a7 a8 a9 a10 a11) (garnerref05_Same.f (k + 1) a0 a1 a2 a3 a4 a5 a6 a7 a8 a9 a10 a11) := by
 intro a0 a1 a2 a3 a4 a5 a6 a7 a8 a9 a10 a11 k
 unfold garnerref05_Same.f
 repeat' (with_reducible first | exact garnerref02_Bytes.mono .. | exact LeO.refl .. | exact LeO.none .. | refine LeO.ite ?_ ?_ | refine LeO.bind ?_ (fun _ => ?_))
set_option maxRecDepth 100000 in
theorem garnerref05_Same.calls (k : Nat) (a0_0 : Bool) (A0_1 : Option Addr) (c0_1 : Nat) (l0_1 : List Int) (a0_2 : Int) (a0_3 : Int) (a0_4 : Int) (a0_5 : Int) (a1_0 : Bool) (A1_1 : Option Addr) (c1_1 : Nat) (l1_1 : List Int) (a1_2 : Int) (a1_3 : Int) (a1_4 : Int) (a1_5 : Int) (r : Bool) (w : World) (hr0_1 : Kd.C (Kd.int .u8) w A0_1 l0_1.length l0_1) (hc0_1 : l0_1.length ≤ c0_1) (hr1_1 : Kd.C (Kd.int .u8) w A1_1 l1_1.length l1_1) (hc1_1 : l1_1.length ≤ c1_1) (h : garnerref05_Same.f k a0_0 l0_1 a0_2 a0_3 a0_4 a0_5 a1_0 l1_1 a1_2 a1_3 a1_4 a1_5 = some r) :
 Calls Try.prog 49 #[.agg #[.bool a0_0, .slice A0_1 l0_1.length c0_1, .int .i64 a0_2, .int .i64 a0_3, .int .i64 a0_4, .int .u32 a0_5], .agg #[.bool a1_0, .slice A1_1 l1_1.length c1_1, .int .i64 a1_2, .int .i64 a1_3, .int .i64 a1_4, .int .u32 a1_5]] w fun e w' => e = .returned (.bool r) ∧ Below w.heap.size w w' := by
 have hu50 := Try.underlying50
 have hu48 := Try.underlying48
 have Ak := Am hr0_1
 have Al := Am hc0_1
 clear hr0_1 hc0_1
 have An := Am hr1_1
 have Ao := Am hc1_1
 clear hr1_1 hc1_1
 have HB := Am (Below.refl w.heap.size w)
 unfold garnerref05_Same.f at h
 have H := h
 clear h
 by_cases c3 : (a0_0 == a1_0) = true
 rotate_left
 ·rw [if_neg c3] at H
  have c3b0 : (a0_0 == a1_0) = false := by simpa using c3
  (try (have c3b1 : decide (a0_0 = a1_0) = false := by simpa using c3))
  (try (have c3b2 : (a0_0 == a1_0) = false := by simpa using c3))
  (try (have c3b3 : ¬ (a0_0 = a1_0) := by simpa using c3))
  clear c3
  obtain rfl := Option.some.inj H
  go_enter Try.func49, Try.ntmps49
  go_wp2_with (first | ((with_reducible refine zD 2 rfl ?_); refine zE 2 #[.bool a0_0, .slice A0_1 l0_1.length c0_1, .int .i64 a0_2, .int .i64 a0_3, .int .i64 a0_4, .int .u32 a0_5] 50 ?_; intro Ad hg w16 hbox hb; have Aa := Am (hbox); have Ah := zA hg HB; replace HB := zB HB hb; have Ae := Ah; clear hb hbox hg) | ((with_reducible refine zD 3 rfl ?_); refine zE 3 #[.bool a1_0, .slice A1_1 l1_1.length c1_1, .int .i64 a1_2, .int .i64 a1_3, .int .i64 a1_4, .int .u32 a1_5] 50 ?_; intro Af hg w17 hbox hb; have Ag := Am (hbox); have Ai := zY1 hg HB Ae.out; replace HB := zX1 HB Ae.out hb; have Aj := Ai; have Ab := Am (zN hg (kL Aa.out)); have Ac := Am (zM hg (kL Aa.out)); replace Aa := kBa Aa hb; clear hb hbox hg; have hnb18 := Ab.out; have hnc18 := Ac.out; obtain ⟨_, _, _, _, _, _⟩ := bc6 Aa.out; obtain ⟨_, _, _, _, _, _⟩ := bf6 Aa.out; obtain ⟨_, _, _, _, _, _⟩ := bc6 Ag.out; obtain ⟨_, _, _, _, _, _⟩ := bf6 Ag.out))
  go_ret
  exact ⟨pX, pE2 HB.out Ae.out Aj.out⟩
 rw [if_pos c3] at H
 have c3b0 : (a0_0 == a1_0) = true := c3
 (try (have c3b1 : decide (a0_0 = a1_0) = true := by simpa using c3))
 (try (have c3b2 : (a0_0 == a1_0) = true := by simpa using c3))
 clear c3
 by_cases c4 : (a0_2 == a1_2 && (a0_3 == a1_3 && (a0_4 == a1_4 && (a0_5 == a1_5)))) = true
 rotate_left
 ·rw [if_neg c4] at H
  have c4b0 : (a0_2 == a1_2 && (a0_3 == a1_3 && (a0_4 == a1_4 && (a0_5 == a1_5)))) = false := by simpa using c4
  (try (have c4b1 : decide (a0_2 = a1_2 && (a0_3 == a1_3 && (a0_4 == a1_4 && (a0_5 == a1_5)))) = false := by simpa using c4))
  (try (have c4b2 : (a0_2 == a1_2 && (a0_3 == a1_3 && (a0_4 == a1_4 && (a0_5 == a1_5)))) = false := by simpa using c4))
  (try (have c4b3 : ¬ (a0_2 = a1_2 && (a0_3 == a1_3 && (a0_4 == a1_4 && (a0_5 == a1_5)))) := by simpa using c4))
  clear c4
  obtain rfl := Option.some.inj H
  go_enter Try.func49, Try.ntmps49
  go_wp2_with (first | ((with_reducible refine zD 2 rfl ?_); refine zE 2 #[.bool a0_0, .slice A0_1 l0_1.length c0_1, .int .i64 a0_2, .int .i64 a0_3, .int .i64 a0_4, .int .u32 a0_5] 50 ?_; intro Ad hg w11 hbox hb; have Aa := Am (hbox); have Ah := zA hg HB; replace HB := zB HB hb; have Ae := Ah; clear hb hbox hg) | ((with_reducible refine zD 3 rfl ?_); refine zE 3 #[.bool a1_0, .slice A1_1 l1_1.length c1_1, .int .i64 a1_2, .int .i64 a1_3, .int .i64 a1_4, .int .u32 a1_5] 50 ?_; intro Af hg w12 hbox hb; have Ag := Am (hbox); have Ai := zY1 hg HB Ae.out; replace HB := zX1 HB Ae.out hb; have Aj := Ai; have Ab := Am (zN hg (kL Aa.out)); have Ac := Am (zM hg (kL Aa.out)); replace Aa := kBa Aa hb; clear hb hbox hg; have hnb13 := Ab.out; have hnc13 := Ac.out; obtain ⟨_, _, _, _, _, _⟩ := bc6 Aa.out; obtain ⟨_, _, _, _, _, _⟩ := bf6 Aa.out; obtain ⟨_, _, _, _, _, _⟩ := bc6 Ag.out; obtain ⟨_, _, _, _, _, _⟩ := bf6 Ag.out))
  go_ret
  exact ⟨pX, pE2 HB.out Ae.out Aj.out⟩
 rw [if_pos c4] at H
 have c4b0 : (a0_2 == a1_2 && (a0_3 == a1_3 && (a0_4 == a1_4 && (a0_5 == a1_5)))) = true := c4
 (try (have c4b1 : decide (a0_2 = a1_2 && (a0_3 == a1_3 && (a0_4 == a1_4 && (a0_5 == a1_5)))) = true := by simpa using c4))
 (try (have c4b2 : (a0_2 == a1_2 && (a0_3 == a1_3 && (a0_4 == a1_4 && (a0_5 == a1_5)))) = true := by simpa using c4))
 clear c4
 obtain ⟨t384, A5, H⟩ := zb H
 obtain rfl := Option.some.inj H
 go_enter Try.func49, Try.ntmps49
 go_wp2_with (first | ((with_reducible refine zD 2 rfl ?_); refine zE 2 #[.bool a0_0, .slice A0_1 l0_1.length c0_1, .int .i64 a0_2, .int .i64 a0_3, .int .i64 a0_4, .int .u32 a0_5] 50 ?_; intro Ad hg w6 hbox hb; have Aa := Am (hbox); have Ah := zA hg HB; replace HB := zB HB hb; have Ae := Ah; clear hb hbox hg) | ((with_reducible refine zD 3 rfl ?_); refine zE 3 #[.bool a1_0, .slice A1_1 l1_1.length c1_1, .int .i64 a1_2, .int .i64 a1_3, .int .i64 a1_4, .int .u32 a1_5] 50 ?_; intro Af hg w7 hbox hb; have Ag := Am (hbox); have Ai := zY1 hg HB Ae.out; replace HB := zX1 HB Ae.out hb; have Aj := Ai; have Ab := Am (zN hg (kL Aa.out)); have Ac := Am (zM hg (kL Aa.out)); replace Aa := kBa Aa hb; clear hb hbox hg; have hnb8 := Ab.out; have hnc8 := Ac.out; obtain ⟨_, _, _, _, _, _⟩ := bc6 Aa.out; obtain ⟨_, _, _, _, _, _⟩ := bf6 Aa.out; obtain ⟨_, _, _, _, _, _⟩ := bc6 Ag.out; obtain ⟨_, _, _, _, _, _⟩ := bf6 Ag.out) | (go_at_call 33; (with_reducible refine (garnerref02_Bytes.calls k _ _ l0_1 _ _ l1_1 t384 _ ?Ap ?Aq ?Ar ?As A5.out).mono ?_); (case Ap => exact pC (Kd.C_below Ak.out HB.out)); (case Aq => exact Al.out); (case Ar => exact pC (Kd.C_below An.out HB.out)); (case As => exact Ao.out); rintro e w' ⟨rfl, ⟨nd, rfl⟩⟩))
 go_ret
 exact ⟨pX, pE2 HB.out Ae.out Aj.out⟩
end
section
attribute [local go_sem] max2_int min2_int max_two min_two max_three min_three max_four min_four
attribute [local go_sem] wrap64_l1 wrap64_l2 wrap64_l3 wrap64_l4 wrap64_l5
attribute [local go_sem high] eqA28
def garnerref06_Same.l0 : Nat → List (S52) → List (S52) → Int → Option (Bool)
 | 0, _, _, _ => none
 | k + 1, x0, x1, x5 => if x5 < (x0.length : Int) then (if 0 ≤ x5 then (if x5 < (x1.length : Int) then (if ((rd_T52 x0 x5).f0) = ((rd_T52 x1 x5).f0) then (if ((rd_T52 x0 x5).f1) = ((rd_T52 x1 x5).f1) then (if ((rd_T52 x0 x5).f2) = ((rd_T52 x1 x5).f2) then (if ((rd_T52 x0 x5).f3).toList = ((rd_T52 x1 x5).f3).toList then ((garnerref05_Same.f k ((rd_T52 x0 x5).f4.f0) ((rd_T52 x0 x5).f4.f1) ((rd_T52 x0 x5).f4.f2.f0) ((rd_T52 x0 x5).f4.f2.f1) ((rd_T52 x0 x5).f4.f2.f2) ((rd_T52 x0 x5).f4.f2.f3) ((rd_T52 x1 x5).f4.f0) ((rd_T52 x1 x5).f4.f1) ((rd_T52 x1 x5).f4.f2.f0) ((rd_T52 x1 x5).f4.f2.f1) ((rd_T52 x1 x5).f4.f2.f2) ((rd_T52 x1 x5).f4.f2.f3)).bind fun t395 => (if t395 = true then (garnerref06_Same.l0 k x0 x1 (wrap64 (x5 + 1))) else (some false))) else (some false)) else (some false)) else (some false)) else (some false)) else (none)) else (none)) else (some true)
def garnerref06_Same.f (k : Nat) (l0 : List (S52)) (l1 : List (S52)) : Option (Bool) := if (l0.length : Int) = (l1.length : Int) then (garnerref06_Same.l0 k l0 l1 0) else (some false)
theorem garnerref06_Same.mono_l : ∀ k, (∀ y0 y1 y2, LeO (garnerref06_Same.l0 k y0 y1 y2) (garnerref06_Same.l0 (k + 1) y0 y1 y2))
 | 0 => fun _ _ _ r h => by simp [garnerref06_Same.l0] at h
 | k + 1 => by
  have ih0 := garnerref06_Same.mono_l k
  ·intro y0 y1 y2
   unfold garnerref06_Same.l0
   repeat' (with_reducible first | exact ih0 .. | exact garnerref05_Same.mono .. | exact LeO.refl .. | exact LeO.none .. | refine LeO.ite ?_ ?_ | refine LeO.bind ?_ (fun _ => ?_))
theorem garnerref06_Same.mono : ∀ a0 a1 k, LeO (garnerref06_Same.f k a0 a1) (garnerref06_Same.f (k + 1) a0 a1) := by
 intro a0 a1 k
 have ih0 := garnerref06_Same.mono_l k
 unfold garnerref06_Same.f
 repeat' (with_reducible first | exact ih0 .. | exact garnerref05_Same.mono .. | exact LeO.refl .. | exact LeO.none .. | refine LeO.ite ?_ ?_ | refine LeO.bind ?_ (fun _ => ?_))
def garnerref06_Same.T6 : Bool × List (List Nat × List Nat) := (true, [([], []), ([], []), ([0, 1], [0, 1]), ([2], [2]), ([3], [3]), ([], []), ([], []), ([5, 6], [5, 6]), ([7], [7]), ([8], [8]), ([4, 9], [4, 9]), ([10], [10]), ([11], [11]), ([11], [11]), ([12, 13, 11], [11, 12, 13]), ([14, 11], [11, 14]), ([15, 11], [11, 15]), ([11], [11]), ([11], [11]), ([17, 18, 11], [11, 17, 18]), ([19, 11], [11, 19]), ([20, 11], [11, 20]), ([16, 21, 11], [11, 16, 21]), ([11, 22], [11, 22]), ([23, 11], [23]), ([24], [24]), ([24], [24]), ([25, 26, 24], [24, 25, 26]), ([27, 24], [24, 27]), ([28, 24], [24, 28]), ([24], [24]), ([24], [24]), ([30, 31, 24], [24, 30, 31]), ([32, 24], [24, 32]), ([33, 24], [24, 33]), ([29, 34, 24], [24, 29, 34]), ([24, 35], [24, 35]), ([36, 24], [36]), ([37], [37]), ([37], [37]), ([38, 39, 37], [37, 38, 39]), ([40, 37], [37, 40]), ([41, 37], [37, 41]), ([37], [37]), ([37], [37]), ([43, 44, 37], [37, 43, 44]), ([45, 37], [37, 45]), ([46, 37], [37, 46]), ([42, 47, 37], [37, 42, 47]), ([37, 48], [37, 48]), ([49, 37], [49]), ([50], [50]), ([50], [50]), ([51, 52, 50], [50, 51, 52]), ([53, 50], [50, 53]), ([54, 50], [50, 54]), ([50], [50]), ([50], [50]), ([56, 57, 50], [50, 56, 57]), ([58, 50], [50, 58]), ([59, 50], [50, 59]), ([55, 60, 50, 50], [50, 55, 60]), ([61, 50], [50, 61]), ([50, 62], [50, 62])])
def garnerref06_Same.B6 : List Nat := [0, 0, 3, 7, 15, 0, 0, 96, 224, 480, 1023, 2047, 4095, 4095, 16383, 32767, 65535, 4095, 4095, 397311, 921599, 1970175, 4194303, 8388607, 16777215, 33554431, 33554431, 134217727, 268435455, 536870911, 33554431, 33554431, 3254779903, 7549747199, 16139681791, 34359738367, 68719476735, 137438953471, 274877906943, 274877906943, 1099511627775, 2199023255551, 4398046511103, 274877906943, 274877906943, 26663156973567, 61847529062399, 132216273240063, 281474976710655, 562949953421311, 1125899906842623, 2251799813685247, 2251799813685247, 9007199254740991, 18014398509481983, 36028797018963967, 2251799813685247, 2251799813685247, 218424581927469055, 506654958079180799, 1083115710382604287, 2305843009213693951, 4611686018427387903, 9223372036854775807]
theorem garnerref06_Same.tab6 : rtab .any (opsOf Try.f23 6) = garnerref06_Same.T6 := by kernel_rfl
theorem garnerref06_Same.bits6 : waitsOk garnerref06_Same.T6.2 garnerref06_Same.B6 = true := by kernel_rfl
set_option maxRecDepth 100000 in
theorem garnerref06_Same.calls (k : Nat) (A0 : Option Addr) (c0 : Nat) (l0 : List (S52)) (A1 : Option Addr) (c1 : Nat) (l1 : List (S52)) (r : Bool) (w : World) (hr0 : Kd.C k52 w A0 l0.length l0) (hc0 : l0.length ≤ c0) (hr1 : Kd.C k52 w A1 l1.length l1) (hc1 : l1.length ≤ c1) (h : garnerref06_Same.f k l0 l1 = some r) :
 Calls Try.prog 23 #[.slice A0 l0.length c0, .slice A1 l1.length c1] w fun e w' => e = .returned (.bool r) ∧ Below w.heap.size w w' := by
 have hu50 := Try.underlying50
 have HR0 := Am hr0
 have HC0 := Am hc0
 clear hr0 hc0
 have HR1 := Am hr1
 have HC1 := Am hc1
 clear hr1 hc1
 have HB := Am (Below.refl w.heap.size w)
 unfold garnerref06_Same.f at h
 have H := h
 clear h
 by_cases c3 : (l0.length : Int) = (l1.length : Int)
 rotate_left
 ·rw [if_neg c3] at H
  obtain ⟨c3b0, c3b1⟩ := zk c3
  have c3b2 : (l0.length == l1.length) = false := by first | simpa using c3 | (simp at c3 ⊢; omega)
  obtain rfl := Option.some.inj H
  go_enter Try.func23, Try.ntmps23
  go_wp2
  go_ret
  exact ⟨pX, pB HB.out⟩
 rw [if_pos c3] at H
 obtain ⟨c3b0, c3b1⟩ := zc c3
 have c3b2 : (l0.length == l1.length) = true := by first | simpa using c3 | (simp at c3 ⊢; omega)
 clear c3
 have H' := Am H
 clear H
 go_enter Try.func23, Try.ntmps23
 go_wp2
 go_loopg [5] k (fun kq v5 w' => ∃ (Aa : Int), v5 = .int .i64 Aa ∧ Aside0 (garnerref06_Same.l0 kq l0 l1 Aa = some r) ∧ Aside0 (kq ≤ k) ∧ Aside0 (Below w.heap.size w w'))
 case atStart => exact ⟨(0), zr, H', ⟨Nat.le_refl _⟩, ⟨pB HB.out⟩⟩
 case round =>
  clear H'
  try clear c1
  try clear c2
  try clear p2
  try clear c3
  try clear c3b0
  try clear c3b1
  try clear c3b2
  obtain ⟨Aa, rfl, HA, HK1, HB⟩ := hrel
  cases gk with
  | zero => exact absurd HA.out (by simp [garnerref06_Same.l0])
  | succ k1 =>
   have H := HA.out
   clear HA
   simp only [garnerref06_Same.l0] at H
   by_cases c4 : Aa < (l0.length : Int)
   rotate_left
   ·rw [if_neg c4] at H
    have c4b0 := decide_eq_false c4
    clear c4
    obtain rfl := Option.some.inj H
    go_wp2
    go_ret
    exact ⟨pX, pB HB.out⟩
   rw [if_pos c4] at H
   have c4b0 := decide_eq_true c4
   clear c4
   obtain ⟨c5, H⟩ := zI H
   have c5b0 := decide_eq_true c5
   clear c5
   obtain ⟨c6, H⟩ := zI H
   have c6b0 := decide_eq_true c6
   clear c6
   by_cases c7 : ((rd_T52 l0 Aa).f0) = ((rd_T52 l1 Aa).f0)
   rotate_left
   ·rw [if_neg c7] at H
    obtain ⟨c7b0, c7b1⟩ := zk c7
    obtain rfl := Option.some.inj H
    try go_wp2
    replace HB := bDa HB
    have p385 : 0 ≤ (Aa : Int) := of_decide_eq_true pS
    have q385 : Aa < (l0.length : Int) := of_decide_eq_true pS
    obtain ⟨Ab, Bq, c385_5, e385, Ao, Ap, Aq, Ar, As, At, Au, Av, Aw, Ax, Ad, Ae, Ah, Al, Ay, Bc, Be, Bf, Bg, Bh, Bi, Bj⟩ := at_T52w HR0.out Aa p385 q385 HB.out
    cases e385
    have Ai := Am Ae
    have Bs := Am Ad
    clear Ae Ad
    replace p385 := eq_true p385
    replace q385 := eq_true q385
    have p386 : 0 ≤ (Aa : Int) := of_decide_eq_true pS
    have q386 : Aa < (l1.length : Int) := of_decide_eq_true pS
    obtain ⟨Ac, Br, c386_5, e386, Az, A2, A3, A4, A5, A6, A7, A8, A9, Ba, Af, Ag, Aj, An, Bb, Bd, Bk, Bl, Bm, Bn, Bo, Bp⟩ := at_T52w HR1.out Aa p386 q386 HB.out
    cases e386
    have Ak := Am Ag
    have Bt := Am Af
    clear Ag Af
    replace p386 := eq_true p386
    replace q386 := eq_true q386
    refine start_ (n := 64) (S := fun w' => w'.cell? (Ab.add ((Aa).toNat * 10)) = some (.int .i64 ((rd_T52 l0 Aa).f0)) ∧ w'.cell? (Ac.add ((Aa).toNat * 10)) = some (.int .i64 ((rd_T52 l1 Aa).f0))) (ds := []) #[false, false, false, false, false, false, false, false, false, false, false, false, false, false, false, false, false, false, false, false, false, false, false, false, false, false, false, false, false, false, false, false, false, false, false, false, false, false, false, false, false, false, false, false, false, false, false, false, false, false, false, false, false, false, false, false, false, false, false, false, false, false, false, false] (by kernel_rfl) rfl rfl ⟨(cT HB.out Ah), (cT HB.out Aj)⟩ (fun hHeld => ?_); refine with_tabW garnerref06_Same.tab6 garnerref06_Same.bits6 (fun HT_ HW_ => ?_)
    generalize wr.drew = w20 at HB Ai Ak Ao Ap Aq Ar As At Au Av Aw Ax Az A2 A3 A4 A5 A6 A7 A8 A9 Ba hHeld ⊢
    refine pui 0 17 64 1 HT_ ?_
    refine zp 1 (h := zp 2 (h := zp 3 (h := zp 5 (h := zp 6 (h := zp 7 (h := zp 8 (h := zw 4 (h := zw 9 (h := zp 10 (h := zp 11 (h := zq 12 (h := zq 13 (h := zq 14 (h := zq 15 (h := zq 16 (h := zq 17 (h := zq 18 (h := zq 19 (h := zq 20 (h := zq 21 (h := zq 22 (h := zp 23 (h := zp 24 (h := zq 25 (h := zq 26 (h := zq 27 (h := zq 28 (h := zq 29 (h := zq 30 (h := zq 31 (h := zq 32 (h := zq 33 (h := zq 34 (h := zq 35 (h := zp 36 (h := zp 37 (h := zq 38 (h := zq 39 (h := zq 40 (h := zq 41 (h := zq 42 (h := zq 43 (h := zq 44 (h := zq 45 (h := zq 46 (h := zq 47 (h := zq 48 (h := zp 49 (h := zp 50 (h := zq 51 (h := zq 52 (h := zq 53 (h := zq 54 (h := zq 55 (h := zq 56 (h := zq 57 (h := zq 58 (h := zq 59 (h := zq 60 (h := zq 61 (h := zq 62 (h := zp 63 (h := ?_)))))))))))))))))))))))))))))))))))))))))))))))))))))))))))))))
    refine done_ (done_of HT_.out (by kernel_rfl)) ?_
    try go_wp2
    go_ret
    exact ⟨pX, pB HB.out⟩
   rw [if_pos c7] at H
   obtain ⟨c7b0, c7b1⟩ := zc c7
   clear c7
   by_cases c8 : ((rd_T52 l0 Aa).f1) = ((rd_T52 l1 Aa).f1)
   rotate_left
   ·rw [if_neg c8] at H
    obtain ⟨c8b0, c8b1⟩ := zk c8
    obtain rfl := Option.some.inj H
    try go_wp2
    replace HB := bDa HB
    have p385 : 0 ≤ (Aa : Int) := of_decide_eq_true pS
    have q385 : Aa < (l0.length : Int) := of_decide_eq_true pS
    obtain ⟨Ab, Bq, c385_5, e385, Ao, Ap, Aq, Ar, As, At, Au, Av, Aw, Ax, Ad, Ae, Ah, Al, Ay, Bc, Be, Bf, Bg, Bh, Bi, Bj⟩ := at_T52w HR0.out Aa p385 q385 HB.out
    cases e385
    have Ai := Am Ae
    have Bs := Am Ad
    clear Ae Ad
    replace p385 := eq_true p385
    replace q385 := eq_true q385
    have p386 : 0 ≤ (Aa : Int) := of_decide_eq_true pS
    have q386 : Aa < (l1.length : Int) := of_decide_eq_true pS
    obtain ⟨Ac, Br, c386_5, e386, Az, A2, A3, A4, A5, A6, A7, A8, A9, Ba, Af, Ag, Aj, An, Bb, Bd, Bk, Bl, Bm, Bn, Bo, Bp⟩ := at_T52w HR1.out Aa p386 q386 HB.out
    cases e386
    have Ak := Am Ag
    have Bt := Am Af
    clear Ag Af
    replace p386 := eq_true p386
    replace q386 := eq_true q386
    refine start_ (n := 64) (S := fun w' => w'.cell? (Ab.add ((Aa).toNat * 10)) = some (.int .i64 ((rd_T52 l0 Aa).f0)) ∧ w'.cell? (Ac.add ((Aa).toNat * 10)) = some (.int .i64 ((rd_T52 l1 Aa).f0)) ∧ cA w' (Ab.add ((Aa).toNat * 10)) 1 (.int .i64 ((rd_T52 l0 Aa).f1)) ∧ cA w' (Ac.add ((Aa).toNat * 10)) 1 (.int .i64 ((rd_T52 l1 Aa).f1))) (ds := []) #[false, false, false, false, false, false, false, false, false, false, false, false, false, false, false, false, false, false, false, false, false, false, false, false, false, false, false, false, false, false, false, false, false, false, false, false, false, false, false, false, false, false, false, false, false, false, false, false, false, false, false, false, false, false, false, false, false, false, false, false, false, false, false, false] (by kernel_rfl) rfl rfl ⟨(cT HB.out Ah), (cT HB.out Aj), (cT HB.out Al), (cT HB.out An)⟩ (fun hHeld => ?_); refine with_tabW garnerref06_Same.tab6 garnerref06_Same.bits6 (fun HT_ HW_ => ?_)
    generalize wr.drew = w19 at HB Ai Ak Ao Ap Aq Ar As At Au Av Aw Ax Az A2 A3 A4 A5 A6 A7 A8 A9 Ba hHeld ⊢
    refine pui 0 17 64 1 HT_ ?_
    refine zp 1 (h := zp 2 (h := zp 3 (h := zp 5 (h := zp 6 (h := zp 7 (h := zp 8 (h := zw 4 (h := zw 9 (h := zp 10 (h := zp 11 (h := zp 12 (h := zp 13 (h := zp 14 (h := zp 15 (h := zp 17 (h := zp 18 (h := zp 19 (h := zp 20 (h := zw 16 (h := zw 21 (h := zp 22 (h := zp 23 (h := zp 24 (h := zq 25 (h := zq 26 (h := zq 27 (h := zq 28 (h := zq 29 (h := zq 30 (h := zq 31 (h := zq 32 (h := zq 33 (h := zq 34 (h := zq 35 (h := zp 36 (h := zp 37 (h := zq 38 (h := zq 39 (h := zq 40 (h := zq 41 (h := zq 42 (h := zq 43 (h := zq 44 (h := zq 45 (h := zq 46 (h := zq 47 (h := zq 48 (h := zp 49 (h := zp 50 (h := zq 51 (h := zq 52 (h := zq 53 (h := zq 54 (h := zq 55 (h := zq 56 (h := zq 57 (h := zq 58 (h := zq 59 (h := zq 60 (h := zq 61 (h := zq 62 (h := zp 63 (h := ?_)))))))))))))))))))))))))))))))))))))))))))))))))))))))))))))))
    refine done_ (done_of HT_.out (by kernel_rfl)) ?_
    try go_wp2
    go_ret
    exact ⟨pX, pB HB.out⟩
   rw [if_pos c8] at H
   obtain ⟨c8b0, c8b1⟩ := zc c8
   clear c8
   by_cases c9 : ((rd_T52 l0 Aa).f2) = ((rd_T52 l1 Aa).f2)
   rotate_left
   ·rw [if_neg c9] at H
    obtain ⟨c9b0, c9b1⟩ := zk c9
    obtain rfl := Option.some.inj H
    try go_wp2
    replace HB := bDa HB
    have p385 : 0 ≤ (Aa : Int) := of_decide_eq_true pS
    have q385 : Aa < (l0.length : Int) := of_decide_eq_true pS
    obtain ⟨Ab, Bq, c385_5, e385, Ao, Ap, Aq, Ar, As, At, Au, Av, Aw, Ax, Ad, Ae, Ah, Al, Ay, Bc, Be, Bf, Bg, Bh, Bi, Bj⟩ := at_T52w HR0.out Aa p385 q385 HB.out
    cases e385
    have Ai := Am Ae
    have Bs := Am Ad
    clear Ae Ad
    replace p385 := eq_true p385
    replace q385 := eq_true q385
    have p386 : 0 ≤ (Aa : Int) := of_decide_eq_true pS
    have q386 : Aa < (l1.length : Int) := of_decide_eq_true pS
    obtain ⟨Ac, Br, c386_5, e386, Az, A2, A3, A4, A5, A6, A7, A8, A9, Ba, Af, Ag, Aj, An, Bb, Bd, Bk, Bl, Bm, Bn, Bo, Bp⟩ := at_T52w HR1.out Aa p386 q386 HB.out
    cases e386
    have Ak := Am Ag
    have Bt := Am Af
    clear Ag Af
    replace p386 := eq_true p386
    replace q386 := eq_true q386
    refine start_ (n := 64) (S := fun w' => w'.cell? (Ab.add ((Aa).toNat * 10)) = some (.int .i64 ((rd_T52 l0 Aa).f0)) ∧ w'.cell? (Ac.add ((Aa).toNat * 10)) = some (.int .i64 ((rd_T52 l1 Aa).f0)) ∧ cA w' (Ab.add ((Aa).toNat * 10)) 1 (.int .i64 ((rd_T52 l0 Aa).f1)) ∧ cA w' (Ac.add ((Aa).toNat * 10)) 1 (.int .i64 ((rd_T52 l1 Aa).f1)) ∧ cA w' (Ab.add ((Aa).toNat * 10)) 2 (.int .i64 ((rd_T52 l0 Aa).f2)) ∧ cA w' (Ac.add ((Aa).toNat * 10)) 2 (.int .i64 ((rd_T52 l1 Aa).f2))) (ds := []) #[false, false, false, false, false, false, false, false, false, false, false, false, false, false, false, false, false, false, false, false, false, false, false, false, false, false, false, false, false, false, false, false, false, false, false, false, false, false, false, false, false, false, false, false, false, false, false, false, false, false, false, false, false, false, false, false, false, false, false, false, false, false, false, false] (by kernel_rfl) rfl rfl ⟨(cT HB.out Ah), (cT HB.out Aj), (cT HB.out Al), (cT HB.out An), (cT HB.out Ay), (cT HB.out Bb)⟩ (fun hHeld => ?_); refine with_tabW garnerref06_Same.tab6 garnerref06_Same.bits6 (fun HT_ HW_ => ?_)
    generalize wr.drew = w18 at HB Ai Ak Ao Ap Aq Ar As At Au Av Aw Ax Az A2 A3 A4 A5 A6 A7 A8 A9 Ba hHeld ⊢
    refine pui 0 17 64 1 HT_ ?_
    refine zp 1 (h := zp 2 (h := zp 3 (h := zp 5 (h := zp 6 (h := zp 7 (h := zp 8 (h := zw 4 (h := zw 9 (h := zp 10 (h := zp 11 (h := zp 12 (h := zp 13 (h := zp 14 (h := zp 15 (h := zp 17 (h := zp 18 (h := zp 19 (h := zp 20 (h := zw 16 (h := zw 21 (h := zp 22 (h := zp 23 (h := zp 24 (h := zp 25 (h := zp 26 (h := zp 27 (h := zp 28 (h := zp 30 (h := zp 31 (h := zp 32 (h := zp 33 (h := zw 29 (h := zw 34 (h := zp 35 (h := zp 36 (h := zp 37 (h := zq 38 (h := zq 39 (h := zq 40 (h := zq 41 (h := zq 42 (h := zq 43 (h := zq 44 (h := zq 45 (h := zq 46 (h := zq 47 (h := zq 48 (h := zp 49 (h := zp 50 (h := zq 51 (h := zq 52 (h := zq 53 (h := zq 54 (h := zq 55 (h := zq 56 (h := zq 57 (h := zq 58 (h := zq 59 (h := zq 60 (h := zq 61 (h := zq 62 (h := zp 63 (h := ?_)))))))))))))))))))))))))))))))))))))))))))))))))))))))))))))))
    refine done_ (done_of HT_.out (by kernel_rfl)) ?_
    try go_wp2
    go_ret
    exact ⟨pX, pB HB.out⟩
   rw [if_pos c9] at H
   obtain ⟨c9b0, c9b1⟩ := zc c9
   clear c9
   by_cases c10 : ((rd_T52 l0 Aa).f3).toList = ((rd_T52 l1 Aa).f3).toList
   rotate_left
   ·rw [if_neg c10] at H
    obtain ⟨c10b0, c10b1⟩ := zk c10
    obtain rfl := Option.some.inj H
    try go_wp2
    replace HB := bDa HB
    have p385 : 0 ≤ (Aa : Int) := of_decide_eq_true pS
    have q385 : Aa < (l0.length : Int) := of_decide_eq_true pS
    obtain ⟨Ab, Bq, c385_5, e385, Ao, Ap, Aq, Ar, As, At, Au, Av, Aw, Ax, Ad, Ae, Ah, Al, Ay, Bc, Be, Bf, Bg, Bh, Bi, Bj⟩ := at_T52w HR0.out Aa p385 q385 HB.out
    cases e385
    have Ai := Am Ae
    have Bs := Am Ad
    clear Ae Ad
    replace p385 := eq_true p385
    replace q385 := eq_true q385
    have p386 : 0 ≤ (Aa : Int) := of_decide_eq_true pS
    have q386 : Aa < (l1.length : Int) := of_decide_eq_true pS
    obtain ⟨Ac, Br, c386_5, e386, Az, A2, A3, A4, A5, A6, A7, A8, A9, Ba, Af, Ag, Aj, An, Bb, Bd, Bk, Bl, Bm, Bn, Bo, Bp⟩ := at_T52w HR1.out Aa p386 q386 HB.out
    cases e386
    have Ak := Am Ag
    have Bt := Am Af
    clear Ag Af
    replace p386 := eq_true p386
    replace q386 := eq_true q386
    refine start_ (n := 64) (S := fun w' => w'.cell? (Ab.add ((Aa).toNat * 10)) = some (.int .i64 ((rd_T52 l0 Aa).f0)) ∧ w'.cell? (Ac.add ((Aa).toNat * 10)) = some (.int .i64 ((rd_T52 l1 Aa).f0)) ∧ cA w' (Ab.add ((Aa).toNat * 10)) 1 (.int .i64 ((rd_T52 l0 Aa).f1)) ∧ cA w' (Ac.add ((Aa).toNat * 10)) 1 (.int .i64 ((rd_T52 l1 Aa).f1)) ∧ cA w' (Ab.add ((Aa).toNat * 10)) 2 (.int .i64 ((rd_T52 l0 Aa).f2)) ∧ cA w' (Ac.add ((Aa).toNat * 10)) 2 (.int .i64 ((rd_T52 l1 Aa).f2)) ∧ cA w' (Ab.add ((Aa).toNat * 10)) 3 (.string ((rd_T52 l0 Aa).f3)) ∧ cA w' (Ac.add ((Aa).toNat * 10)) 3 (.string ((rd_T52 l1 Aa).f3))) (ds := []) #[false, false, false, false, false, false, false, false, false, false, false, false, false, false, false, false, false, false, false, false, false, false, false, false, false, false, false, false, false, false, false, false, false, false, false, false, false, false, false, false, false, false, false, false, false, false, false, false, false, false, false, false, false, false, false, false, false, false, false, false, false, false, false, false] (by kernel_rfl) rfl rfl ⟨(cT HB.out Ah), (cT HB.out Aj), (cT HB.out Al), (cT HB.out An), (cT HB.out Ay), (cT HB.out Bb), (cT HB.out Bc), (cT HB.out Bd)⟩ (fun hHeld => ?_); refine with_tabW garnerref06_Same.tab6 garnerref06_Same.bits6 (fun HT_ HW_ => ?_)
    generalize wr.drew = w17 at HB Ai Ak Ao Ap Aq Ar As At Au Av Aw Ax Az A2 A3 A4 A5 A6 A7 A8 A9 Ba hHeld ⊢
    refine pui 0 17 64 1 HT_ ?_
    refine zp 1 (h := zp 2 (h := zp 3 (h := zp 5 (h := zp 6 (h := zp 7 (h := zp 8 (h := zw 4 (h := zw 9 (h := zp 10 (h := zp 11 (h := zp 12 (h := zp 13 (h := zp 14 (h := zp 15 (h := zp 17 (h := zp 18 (h := zp 19 (h := zp 20 (h := zw 16 (h := zw 21 (h := zp 22 (h := zp 23 (h := zp 24 (h := zp 25 (h := zp 26 (h := zp 27 (h := zp 28 (h := zp 30 (h := zp 31 (h := zp 32 (h := zp 33 (h := zw 29 (h := zw 34 (h := zp 35 (h := zp 36 (h := zp 37 (h := zp 38 (h := zp 39 (h := zp 40 (h := zp 41 (h := zp 43 (h := zp 44 (h := zp 45 (h := zp 46 (h := zw 42 (h := zw 47 (h := zp 48 (h := zp 49 (h := zp 50 (h := zq 51 (h := zq 52 (h := zq 53 (h := zq 54 (h := zq 55 (h := zq 56 (h := zq 57 (h := zq 58 (h := zq 59 (h := zq 60 (h := zq 61 (h := zq 62 (h := zp 63 (h := ?_)))))))))))))))))))))))))))))))))))))))))))))))))))))))))))))))
    refine done_ (done_of HT_.out (by kernel_rfl)) ?_
    try go_wp2
    go_ret
    exact ⟨pX, pB HB.out⟩
   rw [if_pos c10] at H
   obtain ⟨c10b0, c10b1⟩ := zc c10
   clear c10
   obtain ⟨t395, A11, H⟩ := zb H
   by_cases c12 : t395 = true
   rotate_left
   ·replace c12 := Bool.eq_false_iff.mpr c12
    subst c12
    rw [if_neg zF] at H
    obtain rfl := Option.some.inj H
    try go_wp2
    replace HB := bDa HB
    have p385 : 0 ≤ (Aa : Int) := of_decide_eq_true pS
    have q385 : Aa < (l0.length : Int) := of_decide_eq_true pS
    obtain ⟨Ab, Bq, c385_5, e385, Ao, Ap, Aq, Ar, As, At, Au, Av, Aw, Ax, Ad, Ae, Ah, Al, Ay, Bc, Be, Bf, Bg, Bh, Bi, Bj⟩ := at_T52w HR0.out Aa p385 q385 HB.out
    cases e385
    have Ai := Am Ae
    have Bs := Am Ad
    clear Ae Ad
    replace p385 := eq_true p385
    replace q385 := eq_true q385
    have p386 : 0 ≤ (Aa : Int) := of_decide_eq_true pS
    have q386 : Aa < (l1.length : Int) := of_decide_eq_true pS
    obtain ⟨Ac, Br, c386_5, e386, Az, A2, A3, A4, A5, A6, A7, A8, A9, Ba, Af, Ag, Aj, An, Bb, Bd, Bk, Bl, Bm, Bn, Bo, Bp⟩ := at_T52w HR1.out Aa p386 q386 HB.out
    cases e386
    have Ak := Am Ag
    have Bt := Am Af
    clear Ag Af
    replace p386 := eq_true p386
    replace q386 := eq_true q386
    refine start_ (n := 64) (S := fun w' => w'.cell? (Ab.add ((Aa).toNat * 10)) = some (.int .i64 ((rd_T52 l0 Aa).f0)) ∧ w'.cell? (Ac.add ((Aa).toNat * 10)) = some (.int .i64 ((rd_T52 l1 Aa).f0)) ∧ cA w' (Ab.add ((Aa).toNat * 10)) 1 (.int .i64 ((rd_T52 l0 Aa).f1)) ∧ cA w' (Ac.add ((Aa).toNat * 10)) 1 (.int .i64 ((rd_T52 l1 Aa).f1)) ∧ cA w' (Ab.add ((Aa).toNat * 10)) 2 (.int .i64 ((rd_T52 l0 Aa).f2)) ∧ cA w' (Ac.add ((Aa).toNat * 10)) 2 (.int .i64 ((rd_T52 l1 Aa).f2)) ∧ cA w' (Ab.add ((Aa).toNat * 10)) 3 (.string ((rd_T52 l0 Aa).f3)) ∧ cA w' (Ac.add ((Aa).toNat * 10)) 3 (.string ((rd_T52 l1 Aa).f3)) ∧ cA w' (Ab.add ((Aa).toNat * 10)) 4 (.bool ((rd_T52 l0 Aa).f4.f0)) ∧ cA w' (Ab.add ((Aa).toNat * 10)) 5 (.slice Bq ((rd_T52 l0 Aa).f4.f1).length c385_5) ∧ cA w' (Ab.add ((Aa).toNat * 10)) 6 (.int .i64 ((rd_T52 l0 Aa).f4.f2.f0)) ∧ cA w' (Ab.add ((Aa).toNat * 10)) 7 (.int .i64 ((rd_T52 l0 Aa).f4.f2.f1)) ∧ cA w' (Ab.add ((Aa).toNat * 10)) 8 (.int .i64 ((rd_T52 l0 Aa).f4.f2.f2)) ∧ cA w' (Ab.add ((Aa).toNat * 10)) 9 (.int .u32 ((rd_T52 l0 Aa).f4.f2.f3)) ∧ cA w' (Ac.add ((Aa).toNat * 10)) 4 (.bool ((rd_T52 l1 Aa).f4.f0)) ∧ cA w' (Ac.add ((Aa).toNat * 10)) 5 (.slice Br ((rd_T52 l1 Aa).f4.f1).length c386_5) ∧ cA w' (Ac.add ((Aa).toNat * 10)) 6 (.int .i64 ((rd_T52 l1 Aa).f4.f2.f0)) ∧ cA w' (Ac.add ((Aa).toNat * 10)) 7 (.int .i64 ((rd_T52 l1 Aa).f4.f2.f1)) ∧ cA w' (Ac.add ((Aa).toNat * 10)) 8 (.int .i64 ((rd_T52 l1 Aa).f4.f2.f2)) ∧ cA w' (Ac.add ((Aa).toNat * 10)) 9 (.int .u32 ((rd_T52 l1 Aa).f4.f2.f3))) (ds := []) #[false, false, false, false, false, false, false, false, false, false, false, false, false, false, false, false, false, false, false, false, false, false, false, false, false, false, false, false, false, false, false, false, false, false, false, false, false, false, false, false, false, false, false, false, false, false, false, false, false, false, false, false, false, false, false, false, false, false, false, false, false, false, false, false] (by kernel_rfl) rfl rfl ⟨(cT HB.out Ah), (cT HB.out Aj), (cT HB.out Al), (cT HB.out An), (cT HB.out Ay), (cT HB.out Bb), (cT HB.out Bc), (cT HB.out Bd), (cT HB.out Be), (cT HB.out Bf), (cT HB.out Bg), (cT HB.out Bh), (cT HB.out Bi), (cT HB.out Bj), (cT HB.out Bk), (cT HB.out Bl), (cT HB.out Bm), (cT HB.out Bn), (cT HB.out Bo), (cT HB.out Bp)⟩ (fun hHeld => ?_); refine with_tabW garnerref06_Same.tab6 garnerref06_Same.bits6 (fun HT_ HW_ => ?_)
    generalize wr.drew = w15 at HB Ai Ak Ao Ap Aq Ar As At Au Av Aw Ax Az A2 A3 A4 A5 A6 A7 A8 A9 Ba hHeld ⊢
    refine pui 0 17 64 1 HT_ ?_
    refine zp 1 (h := zp 2 (h := zp 3 (h := zp 5 (h := zp 6 (h := zp 7 (h := zp 8 (h := zw 4 (h := zw 9 (h := zp 10 (h := zp 11 (h := zp 12 (h := zp 13 (h := zp 14 (h := zp 15 (h := zp 17 (h := zp 18 (h := zp 19 (h := zp 20 (h := zw 16 (h := zw 21 (h := zp 22 (h := zp 23 (h := zp 24 (h := zp 25 (h := zp 26 (h := zp 27 (h := zp 28 (h := zp 30 (h := zp 31 (h := zp 32 (h := zp 33 (h := zw 29 (h := zw 34 (h := zp 35 (h := zp 36 (h := zp 37 (h := zp 38 (h := zp 39 (h := zp 40 (h := zp 41 (h := zp 43 (h := zp 44 (h := zp 45 (h := zp 46 (h := zw 42 (h := zw 47 (h := zp 48 (h := zp 49 (h := zp 50 (h := zp 51 (h := zp 52 (h := zp 53 (h := zp 54 (h := zp 56 (h := zp 57 (h := zp 58 (h := zp 59 (h := zw 55 (h := zw 60 (h := ?_))))))))))))))))))))))))))))))))))))))))))))))))))))))))))))
    refine onei 61 78 64 4611686018427387903 HT_ (fun K hK => ?_)
    refine goes_ Try.func49 (by kernel_rfl) rfl #[.agg #[.bool ((rd_T52 l0 Aa).f4.f0), .slice Bq ((rd_T52 l0 Aa).f4.f1).length c385_5, .int .i64 ((rd_T52 l0 Aa).f4.f2.f0), .int .i64 ((rd_T52 l0 Aa).f4.f2.f1), .int .i64 ((rd_T52 l0 Aa).f4.f2.f2), .int .u32 ((rd_T52 l0 Aa).f4.f2.f3)], .agg #[.bool ((rd_T52 l1 Aa).f4.f0), .slice Br ((rd_T52 l1 Aa).f4.f1).length c386_5, .int .i64 ((rd_T52 l1 Aa).f4.f2.f0), .int .i64 ((rd_T52 l1 Aa).f4.f2.f1), .int .i64 ((rd_T52 l1 Aa).f4.f2.f2), .int .u32 ((rd_T52 l1 Aa).f4.f2.f3)]] (by rfl) rfl rfl pL ?_
    with_reducible refine (garnerref05_Same.calls k1 ((rd_T52 l0 Aa).f4.f0) _ _ ((rd_T52 l0 Aa).f4.f1) ((rd_T52 l0 Aa).f4.f2.f0) ((rd_T52 l0 Aa).f4.f2.f1) ((rd_T52 l0 Aa).f4.f2.f2) ((rd_T52 l0 Aa).f4.f2.f3) ((rd_T52 l1 Aa).f4.f0) _ _ ((rd_T52 l1 Aa).f4.f1) ((rd_T52 l1 Aa).f4.f2.f0) ((rd_T52 l1 Aa).f4.f2.f1) ((rd_T52 l1 Aa).f4.f2.f2) ((rd_T52 l1 Aa).f4.f2.f3) false _ ?Bu ?Bv ?Bw ?Bx A11.out).mono ?_
    (case Bu => exact pC (Kd.C_below Ai.out HB.out))
    (case Bv => exact Bs.out)
    (case Bw => exact pC (Kd.C_below Ak.out HB.out))
    (case Bx => exact Bt.out)
    rintro e w16 ⟨rfl, hb⟩
    refine ⟨_, rfl, ?_⟩
    replace HB := zB HB hb
    (try clear hb)
    (try clear hb2)
    (try clear hk)
    (try clear hi)
    refine hK.out _ _ ⟨(cT HB.out Ah), (cT HB.out Aj), (cT HB.out Al), (cT HB.out An), (cT HB.out Ay), (cT HB.out Bb), (cT HB.out Bc), (cT HB.out Bd), (cT HB.out Be), (cT HB.out Bf), (cT HB.out Bg), (cT HB.out Bh), (cT HB.out Bi), (cT HB.out Bj), (cT HB.out Bk), (cT HB.out Bl), (cT HB.out Bm), (cT HB.out Bn), (cT HB.out Bo), (cT HB.out Bp)⟩ (fun hHeld => ?_)
    clear hK K
    refine norm_ (a' := ?_) ?_ ?_
    rotate_left
    ·show Act.put _ (some 78) _ = _
     simp only [Act.put, List.setIfInBounds_toArray, List.set_cons_zero, List.set_cons_succ, i64_w, i32_w]
     rfl
    refine pui 62 79 64 9223372036854775807 HT_ ?_
    refine zp 63 (h := ?_)
    refine done_ (done_of HT_.out (by kernel_rfl)) ?_
    try go_wp2
    go_ret
    exact ⟨pX, pB HB.out⟩
   subst c12
   rw [if_pos rfl] at H
   have H' := Am H
   clear H
   try go_wp2
   replace HB := bDa HB
   have p385 : 0 ≤ (Aa : Int) := of_decide_eq_true pS
   have q385 : Aa < (l0.length : Int) := of_decide_eq_true pS
   obtain ⟨Ab, Bq, c385_5, e385, Ao, Ap, Aq, Ar, As, At, Au, Av, Aw, Ax, Ad, Ae, Ah, Al, Ay, Bc, Be, Bf, Bg, Bh, Bi, Bj⟩ := at_T52w HR0.out Aa p385 q385 HB.out
   cases e385
   have Ai := Am Ae
   have Bs := Am Ad
   clear Ae Ad
   replace p385 := eq_true p385
   replace q385 := eq_true q385
   have p386 : 0 ≤ (Aa : Int) := of_decide_eq_true pS
   have q386 : Aa < (l1.length : Int) := of_decide_eq_true pS
   obtain ⟨Ac, Br, c386_5, e386, Az, A2, A3, A4, A5, A6, A7, A8, A9, Ba, Af, Ag, Aj, An, Bb, Bd, Bk, Bl, Bm, Bn, Bo, Bp⟩ := at_T52w HR1.out Aa p386 q386 HB.out
   cases e386
   have Ak := Am Ag
   have Bt := Am Af
   clear Ag Af
   replace p386 := eq_true p386
   replace q386 := eq_true q386
   refine start_ (n := 64) (S := fun w' => w'.cell? (Ab.add ((Aa).toNat * 10)) = some (.int .i64 ((rd_T52 l0 Aa).f0)) ∧ w'.cell? (Ac.add ((Aa).toNat * 10)) = some (.int .i64 ((rd_T52 l1 Aa).f0)) ∧ cA w' (Ab.add ((Aa).toNat * 10)) 1 (.int .i64 ((rd_T52 l0 Aa).f1)) ∧ cA w' (Ac.add ((Aa).toNat * 10)) 1 (.int .i64 ((rd_T52 l1 Aa).f1)) ∧ cA w' (Ab.add ((Aa).toNat * 10)) 2 (.int .i64 ((rd_T52 l0 Aa).f2)) ∧ cA w' (Ac.add ((Aa).toNat * 10)) 2 (.int .i64 ((rd_T52 l1 Aa).f2)) ∧ cA w' (Ab.add ((Aa).toNat * 10)) 3 (.string ((rd_T52 l0 Aa).f3)) ∧ cA w' (Ac.add ((Aa).toNat * 10)) 3 (.string ((rd_T52 l1 Aa).f3)) ∧ cA w' (Ab.add ((Aa).toNat * 10)) 4 (.bool ((rd_T52 l0 Aa).f4.f0)) ∧ cA w' (Ab.add ((Aa).toNat * 10)) 5 (.slice Bq ((rd_T52 l0 Aa).f4.f1).length c385_5) ∧ cA w' (Ab.add ((Aa).toNat * 10)) 6 (.int .i64 ((rd_T52 l0 Aa).f4.f2.f0)) ∧ cA w' (Ab.add ((Aa).toNat * 10)) 7 (.int .i64 ((rd_T52 l0 Aa).f4.f2.f1)) ∧ cA w' (Ab.add ((Aa).toNat * 10)) 8 (.int .i64 ((rd_T52 l0 Aa).f4.f2.f2)) ∧ cA w' (Ab.add ((Aa).toNat * 10)) 9 (.int .u32 ((rd_T52 l0 Aa).f4.f2.f3)) ∧ cA w' (Ac.add ((Aa).toNat * 10)) 4 (.bool ((rd_T52 l1 Aa).f4.f0)) ∧ cA w' (Ac.add ((Aa).toNat * 10)) 5 (.slice Br ((rd_T52 l1 Aa).f4.f1).length c386_5) ∧ cA w' (Ac.add ((Aa).toNat * 10)) 6 (.int .i64 ((rd_T52 l1 Aa).f4.f2.f0)) ∧ cA w' (Ac.add ((Aa).toNat * 10)) 7 (.int .i64 ((rd_T52 l1 Aa).f4.f2.f1)) ∧ cA w' (Ac.add ((Aa).toNat * 10)) 8 (.int .i64 ((rd_T52 l1 Aa).f4.f2.f2)) ∧ cA w' (Ac.add ((Aa).toNat * 10)) 9 (.int .u32 ((rd_T52 l1 Aa).f4.f2.f3))) (ds := []) #[false, false, false, false, false, false, false, false, false, false, false, false, false, false, false, false, false, false, false, false, false, false, false, false, false, false, false, false, false, false, false, false, false, false, false, false, false, false, false, false, false, false, false, false, false, false, false, false, false, false, false, false, false, false, false, false, false, false, false, false, false, false, false, false] (by kernel_rfl) rfl rfl ⟨(cT HB.out Ah), (cT HB.out Aj), (cT HB.out Al), (cT HB.out An), (cT HB.out Ay), (cT HB.out Bb), (cT HB.out Bc), (cT HB.out Bd), (cT HB.out Be), (cT HB.out Bf), (cT HB.out Bg), (cT HB.out Bh), (cT HB.out Bi), (cT HB.out Bj), (cT HB.out Bk), (cT HB.out Bl), (cT HB.out Bm), (cT HB.out Bn), (cT HB.out Bo), (cT HB.out Bp)⟩ (fun hHeld => ?_); refine with_tabW garnerref06_Same.tab6 garnerref06_Same.bits6 (fun HT_ HW_ => ?_)
   generalize wr.drew = w13 at HB Ai Ak Ao Ap Aq Ar As At Au Av Aw Ax Az A2 A3 A4 A5 A6 A7 A8 A9 Ba hHeld ⊢
   refine pui 0 17 64 1 HT_ ?_
   refine zp 1 (h := zp 2 (h := zp 3 (h := zp 5 (h := zp 6 (h := zp 7 (h := zp 8 (h := zw 4 (h := zw 9 (h := zp 10 (h := zp 11 (h := zp 12 (h := zp 13 (h := zp 14 (h := zp 15 (h := zp 17 (h := zp 18 (h := zp 19 (h := zp 20 (h := zw 16 (h := zw 21 (h := zp 22 (h := zp 23 (h := zp 24 (h := zp 25 (h := zp 26 (h := zp 27 (h := zp 28 (h := zp 30 (h := zp 31 (h := zp 32 (h := zp 33 (h := zw 29 (h := zw 34 (h := zp 35 (h := zp 36 (h := zp 37 (h := zp 38 (h := zp 39 (h := zp 40 (h := zp 41 (h := zp 43 (h := zp 44 (h := zp 45 (h := zp 46 (h := zw 42 (h := zw 47 (h := zp 48 (h := zp 49 (h := zp 50 (h := zp 51 (h := zp 52 (h := zp 53 (h := zp 54 (h := zp 56 (h := zp 57 (h := zp 58 (h := zp 59 (h := zw 55 (h := zw 60 (h := ?_))))))))))))))))))))))))))))))))))))))))))))))))))))))))))))
   refine onei 61 78 64 4611686018427387903 HT_ (fun K hK => ?_)
   refine goes_ Try.func49 (by kernel_rfl) rfl #[.agg #[.bool ((rd_T52 l0 Aa).f4.f0), .slice Bq ((rd_T52 l0 Aa).f4.f1).length c385_5, .int .i64 ((rd_T52 l0 Aa).f4.f2.f0), .int .i64 ((rd_T52 l0 Aa).f4.f2.f1), .int .i64 ((rd_T52 l0 Aa).f4.f2.f2), .int .u32 ((rd_T52 l0 Aa).f4.f2.f3)], .agg #[.bool ((rd_T52 l1 Aa).f4.f0), .slice Br ((rd_T52 l1 Aa).f4.f1).length c386_5, .int .i64 ((rd_T52 l1 Aa).f4.f2.f0), .int .i64 ((rd_T52 l1 Aa).f4.f2.f1), .int .i64 ((rd_T52 l1 Aa).f4.f2.f2), .int .u32 ((rd_T52 l1 Aa).f4.f2.f3)]] (by rfl) rfl rfl pL ?_
   with_reducible refine (garnerref05_Same.calls k1 ((rd_T52 l0 Aa).f4.f0) _ _ ((rd_T52 l0 Aa).f4.f1) ((rd_T52 l0 Aa).f4.f2.f0) ((rd_T52 l0 Aa).f4.f2.f1) ((rd_T52 l0 Aa).f4.f2.f2) ((rd_T52 l0 Aa).f4.f2.f3) ((rd_T52 l1 Aa).f4.f0) _ _ ((rd_T52 l1 Aa).f4.f1) ((rd_T52 l1 Aa).f4.f2.f0) ((rd_T52 l1 Aa).f4.f2.f1) ((rd_T52 l1 Aa).f4.f2.f2) ((rd_T52 l1 Aa).f4.f2.f3) true _ ?Bu ?Bv ?Bw ?Bx A11.out).mono ?_
   (case Bu => exact pC (Kd.C_below Ai.out HB.out))
   (case Bv => exact Bs.out)
   (case Bw => exact pC (Kd.C_below Ak.out HB.out))
   (case Bx => exact Bt.out)
   rintro e w14 ⟨rfl, hb⟩
   refine ⟨_, rfl, ?_⟩
   replace HB := zB HB hb
   (try clear hb)
   (try clear hb2)
   (try clear hk)
   (try clear hi)
   refine hK.out _ _ ⟨(cT HB.out Ah), (cT HB.out Aj), (cT HB.out Al), (cT HB.out An), (cT HB.out Ay), (cT HB.out Bb), (cT HB.out Bc), (cT HB.out Bd), (cT HB.out Be), (cT HB.out Bf), (cT HB.out Bg), (cT HB.out Bh), (cT HB.out Bi), (cT HB.out Bj), (cT HB.out Bk), (cT HB.out Bl), (cT HB.out Bm), (cT HB.out Bn), (cT HB.out Bo), (cT HB.out Bp)⟩ (fun hHeld => ?_)
   clear hK K
   refine norm_ (a' := ?_) ?_ ?_
   rotate_left
   ·show Act.put _ (some 78) _ = _
    simp only [Act.put, List.setIfInBounds_toArray, List.set_cons_zero, List.set_cons_succ, i64_w, i32_w]
    rfl
   refine pui 62 79 64 9223372036854775807 HT_ ?_
   refine zp 63 (h := ?_)
   refine done_ (done_of HT_.out (by kernel_rfl)) ?_
   try go_wp2
   go_roundg k1
   case measure => have := HK1.out; omega
   case rel => exact ⟨(wrap64 (Aa + 1)), zr, H', ⟨by have := HK1.out; omega⟩, ⟨pB HB.out⟩⟩
def garnerref24_Same.f (k : Nat) (a0_0 : Int) (l0_1 : List (S52)) (a0_2 : Int) (a0_3 : Int) (a0_4 : Int) (a0_5 : Int) (a1_0 : Int) (l1_1 : List (S52)) (a1_2 : Int) (a1_3 : Int) (a1_4 : Int) (a1_5 : Int) : Option (Bool) := if a0_0 = a1_0 then (if (a0_2 == a1_2 && (a0_3 == a1_3 && (a0_4 == a1_4))) = true then (if a0_5 = a1_5 then ((garnerref06_Same.f k l0_1 l1_1).bind fun t398 => (some t398)) else (some false)) else (some false)) else (some false)
theorem garnerref24_Same.mono : ∀ a0 a1 a2 a3 a4 a5 a6 a7 a8 a9 a10 a11 k, LeO (garnerref24_Same.f k a0 a1 a2 a3 a4 a5 a6 a7 a8 a9 a10 a11) (garnerref24_Same.f (k + 1) a0 a1 a2 a3 a4 a5 a6 a7 a8 a9 a10 a11) := by
 intro a0 a1 a2 a3 a4 a5 a6 a7 a8 a9 a10 a11 k
 unfold garnerref24_Same.f
 repeat' (with_reducible first | exact garnerref06_Same.mono .. | exact LeO.refl .. | exact LeO.none .. | refine LeO.ite ?_ ?_ | refine LeO.bind ?_ (fun _ => ?_))
set_option maxRecDepth 100000 in
theorem garnerref24_Same.calls (k : Nat) (a0_0 : Int) (A0_1 : Option Addr) (c0_1 : Nat) (l0_1 : List (S52)) (a0_2 : Int) (a0_3 : Int) (a0_4 : Int) (a0_5 : Int) (a1_0 : Int) (A1_1 : Option Addr) (c1_1 : Nat) (l1_1 : List (S52)) (a1_2 : Int) (a1_3 : Int) (a1_4 : Int) (a1_5 : Int) (r : Bool) (w : World) (hr0_1 : Kd.C k52 w A0_1 l0_1.length l0_1) (hc0_1 : l0_1.length ≤ c0_1) (hr1_1 : Kd.C k52 w A1_1 l1_1.length l1_1) (hc1_1 : l1_1.length ≤ c1_1) (h : garnerref24_Same.f k a0_0 l0_1 a0_2 a0_3 a0_4 a0_5 a1_0 l1_1 a1_2 a1_3 a1_4 a1_5 = some r) :
 Calls Try.prog 8 #[.agg #[.int .i64 a0_0, .slice A0_1 l0_1.length c0_1, .int .i64 a0_2, .int .i64 a0_3, .int .i64 a0_4, .int .i64 a0_5], .agg #[.int .i64 a1_0, .slice A1_1 l1_1.length c1_1, .int .i64 a1_2, .int .i64 a1_3, .int .i64 a1_4, .int .i64 a1_5]] w fun e w' => e = .returned (.bool r) ∧ Below w.heap.size w w' := by
 have hu30 := Try.underlying30
 have hu28 := Try.underlying28
 have Ak := Am hr0_1
 have Al := Am hc0_1
 clear hr0_1 hc0_1
 have An := Am hr1_1
 have Ao := Am hc1_1
 clear hr1_1 hc1_1
 have HB := Am (Below.refl w.heap.size w)
 unfold garnerref24_Same.f at h
 have H := h
 clear h
 by_cases c3 : a0_0 = a1_0
 rotate_left
 ·rw [if_neg c3] at H
  obtain ⟨c3b0, c3b1⟩ := zk c3
  obtain rfl := Option.some.inj H
  go_enter Try.func8, Try.ntmps8
  go_wp2_with (first | ((with_reducible refine zD 2 rfl ?_); refine zE 2 #[.int .i64 a0_0, .slice A0_1 l0_1.length c0_1, .int .i64 a0_2, .int .i64 a0_3, .int .i64 a0_4, .int .i64 a0_5] 30 ?_; intro Ae hg w23 hbox hb; have Aa := Am (hbox); have Ai := zA hg HB; replace HB := zB HB hb; have Ad := Ai; clear hb hbox hg) | ((with_reducible refine zD 3 rfl ?_); refine zE 3 #[.int .i64 a1_0, .slice A1_1 l1_1.length c1_1, .int .i64 a1_2, .int .i64 a1_3, .int .i64 a1_4, .int .i64 a1_5] 30 ?_; intro Af hg w24 hbox hb; have Ag := Am (hbox); have Aj := zY1 hg HB Ad.out; replace HB := zX1 HB Ad.out hb; have Ah := Aj; have Ab := Am (zN hg (kL Aa.out)); have Ac := Am (zM hg (kL Aa.out)); replace Aa := kBa Aa hb; clear hb hbox hg; have hnb25 := Ab.out; have hnc25 := Ac.out; obtain ⟨_, _, _, _, _, _⟩ := bc6 Aa.out; obtain ⟨_, _, _, _, _, _⟩ := bf6 Aa.out; obtain ⟨_, _, _, _, _, _⟩ := bc6 Ag.out; obtain ⟨_, _, _, _, _, _⟩ := bf6 Ag.out))
  go_ret
  exact ⟨pX, pE2 HB.out Ad.out Ah.out⟩
 rw [if_pos c3] at H
 obtain ⟨c3b0, c3b1⟩ := zc c3
 clear c3
 by_cases c4 : (a0_2 == a1_2 && (a0_3 == a1_3 && (a0_4 == a1_4))) = true
 rotate_left
 ·rw [if_neg c4] at H
  have c4b0 : (a0_2 == a1_2 && (a0_3 == a1_3 && (a0_4 == a1_4))) = false := by simpa using c4
  (try (have c4b1 : decide (a0_2 = a1_2 && (a0_3 == a1_3 && (a0_4 == a1_4))) = false := by simpa using c4))
  (try (have c4b2 : (a0_2 == a1_2 && (a0_3 == a1_3 && (a0_4 == a1_4))) = false := by simpa using c4))
  (try (have c4b3 : ¬ (a0_2 = a1_2 && (a0_3 == a1_3 && (a0_4 == a1_4))) := by simpa using c4))
  clear c4
  obtain rfl := Option.some.inj H
  go_enter Try.func8, Try.ntmps8
  go_wp2_with (first | ((with_reducible refine zD 2 rfl ?_); refine zE 2 #[.int .i64 a0_0, .slice A0_1 l0_1.length c0_1, .int .i64 a0_2, .int .i64 a0_3, .int .i64 a0_4, .int .i64 a0_5] 30 ?_; intro Ae hg w18 hbox hb; have Aa := Am (hbox); have Ai := zA hg HB; replace HB := zB HB hb; have Ad := Ai; clear hb hbox hg) | ((with_reducible refine zD 3 rfl ?_); refine zE 3 #[.int .i64 a1_0, .slice A1_1 l1_1.length c1_1, .int .i64 a1_2, .int .i64 a1_3, .int .i64 a1_4, .int .i64 a1_5] 30 ?_; intro Af hg w19 hbox hb; have Ag := Am (hbox); have Aj := zY1 hg HB Ad.out; replace HB := zX1 HB Ad.out hb; have Ah := Aj; have Ab := Am (zN hg (kL Aa.out)); have Ac := Am (zM hg (kL Aa.out)); replace Aa := kBa Aa hb; clear hb hbox hg; have hnb20 := Ab.out; have hnc20 := Ac.out; obtain ⟨_, _, _, _, _, _⟩ := bc6 Aa.out; obtain ⟨_, _, _, _, _, _⟩ := bf6 Aa.out; obtain ⟨_, _, _, _, _, _⟩ := bc6 Ag.out; obtain ⟨_, _, _, _, _, _⟩ := bf6 Ag.out))
  go_ret
  exact ⟨pX, pE2 HB.out Ad.out Ah.out⟩
 rw [if_pos c4] at H
 have c4b0 : (a0_2 == a1_2 && (a0_3 == a1_3 && (a0_4 == a1_4))) = true := c4
 (try (have c4b1 : decide (a0_2 = a1_2 && (a0_3 == a1_3 && (a0_4 == a1_4))) = true := by simpa using c4))
 (try (have c4b2 : (a0_2 == a1_2 && (a0_3 == a1_3 && (a0_4 == a1_4))) = true := by simpa using c4))
 clear c4
 by_cases c5 : a0_5 = a1_5
 rotate_left
 ·rw [if_neg c5] at H
  obtain ⟨c5b0, c5b1⟩ := zk c5
  obtain rfl := Option.some.inj H
  go_enter Try.func8, Try.ntmps8
  go_wp2_with (first | ((with_reducible refine zD 2 rfl ?_); refine zE 2 #[.int .i64 a0_0, .slice A0_1 l0_1.length c0_1, .int .i64 a0_2, .int .i64 a0_3, .int .i64 a0_4, .int .i64 a0_5] 30 ?_; intro Ae hg w13 hbox hb; have Aa := Am (hbox); have Ai := zA hg HB; replace HB := zB HB hb; have Ad := Ai; clear hb hbox hg) | ((with_reducible refine zD 3 rfl ?_); refine zE 3 #[.int .i64 a1_0, .slice A1_1 l1_1.length c1_1, .int .i64 a1_2, .int .i64 a1_3, .int .i64 a1_4, .int .i64 a1_5] 30 ?_; intro Af hg w14 hbox hb; have Ag := Am (hbox); have Aj := zY1 hg HB Ad.out; replace HB := zX1 HB Ad.out hb; have Ah := Aj; have Ab := Am (zN hg (kL Aa.out)); have Ac := Am (zM hg (kL Aa.out)); replace Aa := kBa Aa hb; clear hb hbox hg; have hnb15 := Ab.out; have hnc15 := Ac.out; obtain ⟨_, _, _, _, _, _⟩ := bc6 Aa.out; obtain ⟨_, _, _, _, _, _⟩ := bf6 Aa.out; obtain ⟨_, _, _, _, _, _⟩ := bc6 Ag.out; obtain ⟨_, _, _, _, _, _⟩ := bf6 Ag.out))
  go_ret
  exact ⟨pX, pE2 HB.out Ad.out Ah.out⟩
 rw [if_pos c5] at H
 obtain ⟨c5b0, c5b1⟩ := zc c5
 clear c5
 obtain ⟨t398, A6, H⟩ := zb H
 obtain rfl := Option.some.inj H
 go_enter Try.func8, Try.ntmps8
 go_wp2_with (first | ((with_reducible refine zD 2 rfl ?_); refine zE 2 #[.int .i64 a0_0, .slice A0_1 l0_1.length c0_1, .int .i64 a0_2, .int .i64 a0_3, .int .i64 a0_4, .int .i64 a0_5] 30 ?_; intro Ae hg w7 hbox hb; have Aa := Am (hbox); have Ai := zA hg HB; replace HB := zB HB hb; have Ad := Ai; clear hb hbox hg) | ((with_reducible refine zD 3 rfl ?_); refine zE 3 #[.int .i64 a1_0, .slice A1_1 l1_1.length c1_1, .int .i64 a1_2, .int .i64 a1_3, .int .i64 a1_4, .int .i64 a1_5] 30 ?_; intro Af hg w8 hbox hb; have Ag := Am (hbox); have Aj := zY1 hg HB Ad.out; replace HB := zX1 HB Ad.out hb; have Ah := Aj; have Ab := Am (zN hg (kL Aa.out)); have Ac := Am (zM hg (kL Aa.out)); replace Aa := kBa Aa hb; clear hb hbox hg; have hnb9 := Ab.out; have hnc9 := Ac.out; obtain ⟨_, _, _, _, _, _⟩ := bc6 Aa.out; obtain ⟨_, _, _, _, _, _⟩ := bf6 Aa.out; obtain ⟨_, _, _, _, _, _⟩ := bc6 Ag.out; obtain ⟨_, _, _, _, _, _⟩ := bf6 Ag.out) | (go_at_call 23; (with_reducible refine (garnerref06_Same.calls k _ _ l0_1 _ _ l1_1 t398 _ ?Ap ?Aq ?Ar ?As A6.out).mono ?_); (case Ap => exact pC (Kd.C_below Ak.out HB.out)); (case Aq => exact Al.out); (case Ar => exact pC (Kd.C_below An.out HB.out)); (case As => exact Ao.out); rintro e w12 ⟨rfl, hb⟩; replace Aa := kBa Aa hb; replace Ag := kBa Ag hb; replace HB := zX2 HB Ad.out Ah.out hb; (try clear hb)))
 go_ret
 exact ⟨pX, pE2 HB.out Ad.out Ah.out⟩
end
end Go.Proofs.Ytdanmjfkocjgjaa.PWalPuts
