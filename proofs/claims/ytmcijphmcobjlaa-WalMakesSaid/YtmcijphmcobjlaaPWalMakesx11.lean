/- What the law reaches, as plain Lean functions, and that the machine's calls answer just that. -/
import Derived.Test.YtmcijphmcobjlaaPWalMakesx0
import Derived.Test.YtmcijphmcobjlaaPWalMakesx5
import Derived.Test.YtmcijphmcobjlaaPWalMakesx8
import Derived.Test.YtmcijphmcobjlaaPWalMakesx9
namespace Go.Proofs.Ytmcijphmcobjlaa.PWalMakes
open Go.RowKit Go.Proofs.YtmcijphmcobjlaaW.PrintWords Go.Proofs.YtmcijphmcobjlaaW.PrintLast Go.Proofs.YtmcijphmcobjlaaW.PrintMore
set_option linter.unusedVariables false
set_option maxHeartbeats 8000000
set_option linter.unusedSimpArgs false
section
attribute [local go_sem] max2_int min2_int max_two min_two max_three min_three max_four min_four
attribute [local go_sem] wrap64_l1 wrap64_l2 wrap64_l3 wrap64_l4 wrap64_l5
mutual
def hard_Step.j0 : Nat → Int → Bool → Int → Int → Int → Int → Int → Int → Option (Int)
 | 0, _, _, _, _, _, _, _, _ => none
 | k + 1, x2, x7, x219000, x219001, x219002, x220000, x220001, x220002 => if x7 = true then (some 1) else (if x220000 < x219000 then (hard_Step.j1 k x2 true x219000 x219001 x219002 x220000 x220001 x220002) else (hard_Step.j1 k x2 (decide (x220002 < x219002)) x219000 x219001 x219002 x220000 x220001 x220002))
def hard_Step.j1 : Nat → Int → Bool → Int → Int → Int → Int → Int → Int → Option (Int)
 | 0, _, _, _, _, _, _, _, _ => none
 | k + 1, x2, x16, x219000, x219001, x219002, x220000, x220001, x220002 => if x16 = true then (some 4) else (if x220000 = x219000 then (if x219001 = 0 then (hard_Step.j2 k x2 false x220000 x220001 x220002) else (hard_Step.j2 k x2 (x220001 != x219001) x220000 x220001 x220002)) else (hard_Step.j2 k x2 false x220000 x220001 x220002))
def hard_Step.j2 : Nat → Int → Bool → Int → Int → Int → Option (Int)
 | 0, _, _, _, _, _ => none
 | k + 1, x2, x29, x220000, x220001, x220002 => if x29 = true then (some 4) else (if x220002 > x2 then (some 3) else (some 0))
end
def hard_Step.f (k : Nat) (a0_0 : Int) (a0_1 : Int) (a0_2 : Int) (a1_0 : Int) (a1_1 : Int) (a1_2 : Int) (a2 : Int) : Option (Int) := (hard_Check.f a0_0 a0_1 a0_2).bind fun t220 => (if t220 = 0 then ((hard_Check.f a1_0 a1_1 a1_2).bind fun t221 => (hard_Step.j0 k a2 (t221 != 0) a0_0 a0_1 a0_2 a1_0 a1_1 a1_2)) else (hard_Step.j0 k a2 true a0_0 a0_1 a0_2 a1_0 a1_1 a1_2))
theorem hard_Step.mono_l : ∀ k, (∀ y0 y1 y2 y3 y4 y5 y6 y7, LeO (hard_Step.j0 k y0 y1 y2 y3 y4 y5 y6 y7) (hard_Step.j0 (k + 1) y0 y1 y2 y3 y4 y5 y6 y7)) ∧ (∀ y0 y1 y2 y3 y4 y5 y6 y7, LeO (hard_Step.j1 k y0 y1 y2 y3 y4 y5 y6 y7) (hard_Step.j1 (k + 1) y0 y1 y2 y3 y4 y5 y6 y7)) ∧ (∀ y0 y1 y2 y3 y4, LeO (hard_Step.j2 k y0 y1 y2 y3 y4) (hard_Step.j2 (k + 1) y0 y1 y2 y3 y4))
 | 0 => ⟨fun _ _ _ _ _ _ _ _ r h => by simp [hard_Step.j0] at h, fun _ _ _ _ _ _ _ _ r h => by simp [hard_Step.j1] at h, fun _ _ _ _ _ r h => by simp [hard_Step.j2] at h⟩
 | k + 1 => by
  obtain ⟨ih0, ih1, ih2⟩ := hard_Step.mono_l k
  refine ⟨?_, ?_, ?_⟩
  ·intro y0 y1 y2 y3 y4 y5 y6 y7
   unfold hard_Step.j0
   repeat' (with_reducible first | exact ih0 .. | exact ih1 .. | exact ih2 .. | exact LeO.refl .. | exact LeO.none .. | refine LeO.ite ?_ ?_ | refine LeO.bind ?_ (fun _ => ?_))
  ·intro y0 y1 y2 y3 y4 y5 y6 y7
   unfold hard_Step.j1
   repeat' (with_reducible first | exact ih0 .. | exact ih1 .. | exact ih2 .. | exact LeO.refl .. | exact LeO.none .. | refine LeO.ite ?_ ?_ | refine LeO.bind ?_ (fun _ => ?_))
  ·intro y0 y1 y2 y3 y4
   unfold hard_Step.j2
   repeat' (with_reducible first | exact ih0 .. | exact ih1 .. | exact ih2 .. | exact LeO.refl .. | exact LeO.none .. | refine LeO.ite ?_ ?_ | refine LeO.bind ?_ (fun _ => ?_))
theorem hard_Step.mono : ∀ a0 a1 a2 a3 a4 a5 a6 k, LeO (hard_Step.f k a0 a1 a2 a3 a4 a5 a6) (hard_Step.f (k + 1) a0 a1 a2 a3 a4 a5 a6) := by
 intro a0 a1 a2 a3 a4 a5 a6 k
 obtain ⟨ih0, ih1, ih2⟩ := hard_Step.mono_l k
 unfold hard_Step.f
 repeat' (with_reducible first | exact ih0 .. | exact ih1 .. | exact ih2 .. | exact LeO.refl .. | exact LeO.none .. | refine LeO.ite ?_ ?_ | refine LeO.bind ?_ (fun _ => ?_))
set_option maxRecDepth 100000 in
theorem hard_Step.calls (k : Nat) (a0_0 : Int) (a0_1 : Int) (a0_2 : Int) (a1_0 : Int) (a1_1 : Int) (a1_2 : Int) (a2 : Int) (r : Int) (w : World) (h : hard_Step.f k a0_0 a0_1 a0_2 a1_0 a1_1 a1_2 a2 = some r) :
 Calls Try.prog 66 #[.agg #[.int .i64 a0_0, .int .i64 a0_1, .int .i64 a0_2], .agg #[.int .i64 a1_0, .int .i64 a1_1, .int .i64 a1_2], .int .i64 a2] w fun e w' => e = .returned (.int .i64 r) ∧ Below w.heap.size w w' := by
 have hu24 := Try.underlying24
 have HB := Am (Below.refl w.heap.size w)
 unfold hard_Step.f at h
 have H := h
 clear h
 have HC4 := Am H
 clear H
 go_enter Try.func66, Try.ntmps66
 go_upto_region 1 with (first | ((with_reducible refine zD 3 rfl ?_); refine zE 3 #[.int .i64 a0_0, .int .i64 a0_1, .int .i64 a0_2] 24 ?_; intro Ag hg w5 hbox hb; have Aa := Am (hbox); have Cu := zA hg HB; replace HB := zB HB hb; have Ae := Cu; clear hb hbox hg) | ((with_reducible refine zD 4 rfl ?_); refine zE 4 #[.int .i64 a1_0, .int .i64 a1_1, .int .i64 a1_2] 24 ?_; intro Ah hg w6 hbox hb; have Ab := Am (hbox); have Cv := zY1 hg HB Ae.out; replace HB := zX1 HB Ae.out hb; have Af := Cv; have Ac := Am (zN hg (kL Aa.out)); have Ad := Am (zM hg (kL Aa.out)); replace Aa := kBa Aa hb; clear hb hbox hg))
 (try simp only [Act.put, List.setIfInBounds_toArray, List.set_cons_zero, List.set_cons_succ])
 go_cut [7] (fun v7 wc => ∃ (kq : Nat) (Bt : Bool), v7 = .bool Bt ∧ Aside0 (hard_Step.j0 kq a2 Bt a0_0 a0_1 a0_2 a1_0 a1_1 a1_2 = some r) ∧ Aside0 (kq ≤ k) ∧ Aside0 (wc.heap[Ag]? = some (.cells #[.int .i64 a0_0, .int .i64 a0_1, .int .i64 a0_2] 24 (0, 0))) ∧ Aside0 (wc.heap[Ah]? = some (.cells #[.int .i64 a1_0, .int .i64 a1_1, .int .i64 a1_2] 24 (0, 0))) ∧ Aside0 (Below w.heap.size w wc))
 case first =>
  have H := HC4.out
  clear HC4
  obtain ⟨t220, A7, H⟩ := zb H
  by_cases c8 : t220 = 0
  rotate_left
  ·rw [if_neg c8] at H
   obtain ⟨c8b0, c8b1⟩ := zk c8
   (first | rw [c8b0] | (simp only [i64_w, i32_w]; rw [c8b0]) | skip)
   have H' := Am H
   clear H
   have hnb15 := Ac.out
   have hnc15 := Ad.out
   obtain ⟨Ax, Ay, Az⟩ := bc3 Aa.out
   obtain ⟨A0, A1, A2⟩ := bf3 Aa.out
   go_wp2_with (first | ((with_reducible refine zC 45 rfl ?_); refine zL (some 9) Try.func45 #[.agg #[.int .i64 a0_0, .int .i64 a0_1, .int .i64 a0_2]] ?_; (with_reducible refine (hard_Check.calls a0_0 a0_1 a0_2 t220 _ A7.out).mono ?_); rintro e w17 ⟨rfl, hb⟩; refine ⟨_, rfl, ?_⟩; replace Aa := kBa Aa hb; replace Ab := kBa Ab hb; replace HB := zX2 HB Ae.out Af.out hb; (try clear hb)))
   go_meet
   case rel => exact ⟨_, (true), zr, H', ⟨zo⟩, ⟨pK Aa.out⟩, ⟨pK Ab.out⟩, ⟨pE2 HB.out Ae.out Af.out⟩⟩
  rw [if_pos c8] at H
  obtain ⟨c8b0, c8b1⟩ := zc c8
  clear c8
  (first | rw [c8b0] | (simp only [i64_w, i32_w]; rw [c8b0]) | skip)
  obtain ⟨t221, A9, H⟩ := zb H
  have H' := Am H
  clear H
  have hnb10 := Ac.out
  have hnc10 := Ad.out
  obtain ⟨Ak, Al, An⟩ := bc3 Aa.out
  obtain ⟨Ao, Ap, Aq⟩ := bf3 Aa.out
  go_wp2_with (first | ((with_reducible refine zC 45 rfl ?_); refine zL (some 9) Try.func45 #[.agg #[.int .i64 a0_0, .int .i64 a0_1, .int .i64 a0_2]] ?_; (with_reducible refine (hard_Check.calls a0_0 a0_1 a0_2 t220 _ A7.out).mono ?_); rintro e w12 ⟨rfl, hb⟩; refine ⟨_, rfl, ?_⟩; replace Aa := kBa Aa hb; replace Ab := kBa Ab hb; replace HB := zX2 HB Ae.out Af.out hb; (try clear hb); obtain ⟨Ar, As, At⟩ := bc3 Ab.out; obtain ⟨Au, Av, Aw⟩ := bf3 Ab.out) | (go_at_call 45; (with_reducible refine (hard_Check.calls a1_0 a1_1 a1_2 t221 _ A9.out).mono ?_); rintro e w14 ⟨rfl, hb⟩; replace Aa := kBa Aa hb; replace Ab := kBa Ab hb; replace HB := zX2 HB Ae.out Af.out hb; (try clear hb)))
  go_meet
  case rel => exact ⟨_, ((t221 != 0)), zr, H', ⟨zo⟩, ⟨pK Aa.out⟩, ⟨pK Ab.out⟩, ⟨pE2 HB.out Ae.out Af.out⟩⟩
 case rest =>
  clear HC4
  try clear c1
  try clear p2
  try clear c4
  try clear c6
  try clear c8
  try clear c8b0
  try clear c8b1
  try clear c10
  try clear c15
  try clear Ak Al An
  try clear Ar As At
  try clear Ax Ay Az
  try clear Ao Ap Aq
  try clear Au Av Aw
  try clear A0 A1 A2
  obtain ⟨kq, Bt, rfl, HA, HJ3, Aa, Ab, HB⟩ := hcut
  cases kq with
  | zero => exact absurd HA.out (by simp [hard_Step.j0])
  | succ kj3 =>
   have H := HA.out
   clear HA
   simp only [hard_Step.j0] at H
   by_cases c18 : Bt = true
   ·subst c18
    rw [if_pos rfl] at H
    obtain rfl := Option.some.inj H
    go_wp2
    go_ret
    exact ⟨pX, pE2 HB.out Ae.out Af.out⟩
   replace c18 := Bool.eq_false_iff.mpr c18
   subst c18
   rw [if_neg zF] at H
   have HC19 := Am H
   clear H
   go_upto_region 3 with (fail)
   go_cut [16] (fun v16 wc => ∃ (kq : Nat) (Ai : Bool), v16 = .bool Ai ∧ Aside0 (hard_Step.j1 kq a2 Ai a0_0 a0_1 a0_2 a1_0 a1_1 a1_2 = some r) ∧ Aside0 (kq ≤ kj3) ∧ Aside0 (wc.heap[Ag]? = some (.cells #[.int .i64 a0_0, .int .i64 a0_1, .int .i64 a0_2] 24 (0, 0))) ∧ Aside0 (wc.heap[Ah]? = some (.cells #[.int .i64 a1_0, .int .i64 a1_1, .int .i64 a1_2] 24 (0, 0))) ∧ Aside0 (Below w.heap.size w wc))
   case first =>
    have H := HC19.out
    clear HC19
    by_cases c20 : a1_0 < a0_0
    ·rw [if_pos c20] at H
     have c20b0 := decide_eq_true c20
     clear c20
     (first | rw [c20b0] | (simp only [i64_w, i32_w]; rw [c20b0]) | skip)
     have H' := Am H
     clear H
     have hnb21 := Ad.out
     have hnc21 := Ac.out
     obtain ⟨A3, A4, A5⟩ := bc3 Ab.out
     obtain ⟨A6, A8, Ba⟩ := bf3 Ab.out
     obtain ⟨Bb, Bc, Bd⟩ := bc3 Aa.out
     obtain ⟨Be, Bf, Bg⟩ := bf3 Aa.out
     go_wp2
     go_meet
     case rel => exact ⟨_, (true), zr, H', ⟨by have := HJ3.out; first | omega | exact Nat.le_refl _⟩, ⟨pK Aa.out⟩, ⟨pK Ab.out⟩, ⟨pE2 HB.out Ae.out Af.out⟩⟩
    rw [if_neg c20] at H
    have c20b0 := decide_eq_false c20
    clear c20
    (first | rw [c20b0] | (simp only [i64_w, i32_w]; rw [c20b0]) | skip)
    have H' := Am H
    clear H
    have hnb24 := Ad.out
    have hnc24 := Ac.out
    obtain ⟨Bh, Bi, Bj⟩ := bc3 Ab.out
    obtain ⟨Bk, Bl, Bm⟩ := bf3 Ab.out
    obtain ⟨Bn, Bo, Bp⟩ := bc3 Aa.out
    obtain ⟨Bq, Br, Bs⟩ := bf3 Aa.out
    go_wp2
    go_meet
    case rel => exact ⟨_, (decide (a1_2 < a0_2)), zr, H', ⟨by have := HJ3.out; first | omega | exact Nat.le_refl _⟩, ⟨pK Aa.out⟩, ⟨pK Ab.out⟩, ⟨pE2 HB.out Ae.out Af.out⟩⟩
   case rest =>
    clear HC19
    try clear c1
    try clear c2
    try clear p2
    try clear c4
    try clear c6
    try clear c8
    try clear c8b0
    try clear c8b1
    try clear c10
    try clear c15
    try clear c18
    try clear c20
    try clear c20b0
    try clear c21
    try clear c24
    try clear Ak Al An
    try clear Ar As At
    try clear Ax Ay Az
    try clear A3 A4 A5
    try clear Bb Bc Bd
    try clear Bh Bi Bj
    try clear Bn Bo Bp
    try clear Ao Ap Aq
    try clear Au Av Aw
    try clear A0 A1 A2
    try clear A6 A8 Ba
    try clear Be Bf Bg
    try clear Bk Bl Bm
    try clear Bq Br Bs
    try clear p2
    obtain ⟨kq, Ai, rfl, HA, HJ18, Aa, Ab, HB⟩ := hcut
    cases kq with
    | zero => exact absurd HA.out (by simp [hard_Step.j1])
    | succ kj18 =>
     have H := HA.out
     clear HA
     simp only [hard_Step.j1] at H
     by_cases c27 : Ai = true
     ·subst c27
      rw [if_pos rfl] at H
      obtain rfl := Option.some.inj H
      go_wp2
      go_ret
      exact ⟨pX, pE2 HB.out Ae.out Af.out⟩
     replace c27 := Bool.eq_false_iff.mpr c27
     subst c27
     rw [if_neg zF] at H
     have HC28 := Am H
     clear H
     go_upto_region 5 with (fail)
     go_cut [29] (fun v29 wc => ∃ (kq : Nat) (Aj : Bool), v29 = .bool Aj ∧ Aside0 (hard_Step.j2 kq a2 Aj a1_0 a1_1 a1_2 = some r) ∧ Aside0 (kq ≤ kj18) ∧ Aside0 (wc.heap[Ag]? = some (.cells #[.int .i64 a0_0, .int .i64 a0_1, .int .i64 a0_2] 24 (0, 0))) ∧ Aside0 (wc.heap[Ah]? = some (.cells #[.int .i64 a1_0, .int .i64 a1_1, .int .i64 a1_2] 24 (0, 0))) ∧ Aside0 (Below w.heap.size w wc))
     case first =>
      have H := HC28.out
      clear HC28
      by_cases c29 : a1_0 = a0_0
      rotate_left
      ·rw [if_neg c29] at H
       obtain ⟨c29b0, c29b1⟩ := zk c29
       (first | rw [c29b0] | (simp only [i64_w, i32_w]; rw [c29b0]) | skip)
       have H' := Am H
       clear H
       have hnb37 := Ad.out
       have hnc37 := Ac.out
       obtain ⟨Ci, Cj, Ck⟩ := bc3 Ab.out
       obtain ⟨Cl, Cm, Cn⟩ := bf3 Ab.out
       obtain ⟨Co, Cp, Cq⟩ := bc3 Aa.out
       obtain ⟨Cr, Cs, Ct⟩ := bf3 Aa.out
       go_wp2
       go_meet
       case rel => exact ⟨_, (false), zr, H', ⟨by have := HJ3.out; have := HJ18.out; first | omega | exact Nat.le_refl _⟩, ⟨pK Aa.out⟩, ⟨pK Ab.out⟩, ⟨pE2 HB.out Ae.out Af.out⟩⟩
      rw [if_pos c29] at H
      obtain ⟨c29b0, c29b1⟩ := zc c29
      clear c29
      (first | rw [c29b0] | (simp only [i64_w, i32_w]; rw [c29b0]) | skip)
      by_cases c30 : a0_1 = 0
      rotate_left
      ·rw [if_neg c30] at H
       obtain ⟨c30b0, c30b1⟩ := zk c30
       have H' := Am H
       clear H
       have hnb34 := Ad.out
       have hnc34 := Ac.out
       obtain ⟨B6, B7, B8⟩ := bc3 Ab.out
       obtain ⟨B9, Ca, Cb⟩ := bf3 Ab.out
       obtain ⟨Cc, Cd, Ce⟩ := bc3 Aa.out
       obtain ⟨Cf, Cg, Ch⟩ := bf3 Aa.out
       go_wp2
       go_meet
       case rel => exact ⟨_, ((a1_1 != a0_1)), zr, H', ⟨by have := HJ3.out; have := HJ18.out; first | omega | exact Nat.le_refl _⟩, ⟨pK Aa.out⟩, ⟨pK Ab.out⟩, ⟨pE2 HB.out Ae.out Af.out⟩⟩
      rw [if_pos c30] at H
      obtain ⟨c30b0, c30b1⟩ := zc c30
      clear c30
      have H' := Am H
      clear H
      have hnb31 := Ad.out
      have hnc31 := Ac.out
      obtain ⟨Bu, Bv, Bw⟩ := bc3 Ab.out
      obtain ⟨Bx, By, Bz⟩ := bf3 Ab.out
      obtain ⟨B0, B1, B2⟩ := bc3 Aa.out
      obtain ⟨B3, B4, B5⟩ := bf3 Aa.out
      go_wp2
      go_meet
      case rel => exact ⟨_, (false), zr, H', ⟨by have := HJ3.out; have := HJ18.out; first | omega | exact Nat.le_refl _⟩, ⟨pK Aa.out⟩, ⟨pK Ab.out⟩, ⟨pE2 HB.out Ae.out Af.out⟩⟩
     case rest =>
      clear HC28
      try clear c1
      try clear c2
      try clear p2
      try clear c3
      try clear c4
      try clear c6
      try clear c8
      try clear c8b0
      try clear c8b1
      try clear c10
      try clear c15
      try clear c18
      try clear c20
      try clear c20b0
      try clear c21
      try clear c24
      try clear c27
      try clear c29
      try clear c29b0
      try clear c29b1
      try clear c30
      try clear c30b0
      try clear c30b1
      try clear c31
      try clear c34
      try clear c37
      try clear Ak Al An
      try clear Ar As At
      try clear Ax Ay Az
      try clear A3 A4 A5
      try clear Bb Bc Bd
      try clear Bh Bi Bj
      try clear Bn Bo Bp
      try clear Bu Bv Bw
      try clear B0 B1 B2
      try clear B6 B7 B8
      try clear Cc Cd Ce
      try clear Ci Cj Ck
      try clear Co Cp Cq
      try clear Ao Ap Aq
      try clear Au Av Aw
      try clear A0 A1 A2
      try clear A6 A8 Ba
      try clear Be Bf Bg
      try clear Bk Bl Bm
      try clear Bq Br Bs
      try clear Bx By Bz
      try clear B3 B4 B5
      try clear B9 Ca Cb
      try clear Cf Cg Ch
      try clear Cl Cm Cn
      try clear Cr Cs Ct
      try clear p2
      obtain ⟨kq, Aj, rfl, HA, HJ27, Aa, Ab, HB⟩ := hcut
      cases kq with
      | zero => exact absurd HA.out (by simp [hard_Step.j2])
      | succ kj27 =>
       have H := HA.out
       clear HA
       simp only [hard_Step.j2] at H
       by_cases c40 : Aj = true
       ·subst c40
        rw [if_pos rfl] at H
        obtain rfl := Option.some.inj H
        go_wp2
        go_ret
        exact ⟨pX, pE2 HB.out Ae.out Af.out⟩
       replace c40 := Bool.eq_false_iff.mpr c40
       subst c40
       rw [if_neg zF] at H
       by_cases c41 : a1_2 > a2
       ·rw [if_pos c41] at H
        have c41b0 : decide (a2 < a1_2) = true := decide_eq_true c41
        clear c41
        obtain rfl := Option.some.inj H
        have hnb42 := Ad.out
        have hnc42 := Ac.out
        obtain ⟨_, _, _⟩ := bc3 Ab.out
        obtain ⟨_, _, _⟩ := bf3 Ab.out
        go_wp2
        go_ret
        exact ⟨pX, pE2 HB.out Ae.out Af.out⟩
       rw [if_neg c41] at H
       have c41b0 : decide (a2 < a1_2) = false := decide_eq_false c41
       clear c41
       obtain rfl := Option.some.inj H
       have hnb44 := Ad.out
       have hnc44 := Ac.out
       obtain ⟨_, _, _⟩ := bc3 Ab.out
       obtain ⟨_, _, _⟩ := bf3 Ab.out
       go_wp2
       go_ret
       exact ⟨pX, pE2 HB.out Ae.out Af.out⟩
def raft_Vote.f (k : Nat) (a0_0 : Int) (a0_1 : Int) (l0_2 : List (S54)) (a0_3 : Int) (a0_4 : Int) (a0_5 : Int) (a0_6 : Int) (a1_0 : Int) (a1_1 : Int) (a1_2 : Int) : Option (Int × Int × (List (S54)) × Int × Int × Int × Int × Int) := (raft_Check.f k a0_0 a0_1 l0_2 a0_3 a0_4 a0_5 a0_6).bind fun t225 => (if t225 = 0 then ((raft_Last.f k a0_0 a0_1 l0_2 a0_3 a0_4 a0_5 a0_6).bind fun bt226 => ((hard_Step.f k a0_3 a0_4 a0_5 a1_0 a1_1 a1_2 bt226.1).bind fun t228 => (if t228 = 0 then ((raft_owns.f k l0_2).bind fun t229 => (some (a0_0, a0_1, t229, a1_0, a1_1, a1_2, a0_6, 0))) else (some (0, 0, ([] : List (S54)), 0, 0, 0, 0, t228))))) else (some (0, 0, ([] : List (S54)), 0, 0, 0, 0, 1)))
theorem raft_Vote.mono : ∀ a0 a1 a2 a3 a4 a5 a6 a7 a8 a9 k, LeO (raft_Vote.f k a0 a1 a2 a3 a4 a5 a6 a7 a8 a9) (raft_Vote.f (k + 1) a0 a1 a2 a3 a4 a5 a6 a7 a8 a9) := by
 intro a0 a1 a2 a3 a4 a5 a6 a7 a8 a9 k
 unfold raft_Vote.f
 repeat' (with_reducible first | exact hard_Step.mono .. | exact raft_Check.mono .. | exact raft_Last.mono .. | exact raft_owns.mono .. | exact LeO.refl .. | exact LeO.none .. | refine LeO.ite ?_ ?_ | refine LeO.bind ?_ (fun _ => ?_))
def raft_Vote.T7 : Bool × List (List Nat × List Nat) := (true, [([], []), ([0], [0]), ([1], [1]), ([], []), ([0, 1, 2], []), ([4, 2, 2, 0, 1, 2], [2, 4]), ([0, 1, 2, 3, 4, 5], []), ([6, 3, 5, 0, 1, 2, 3, 4, 5], [3, 6])])
def raft_Vote.B7 : List Nat := [0, 1, 3, 0, 7, 23, 63, 127]
theorem raft_Vote.tab7 : rtab .any (opsOf Try.f49 7) = raft_Vote.T7 := by kernel_rfl
theorem raft_Vote.bits7 : waitsOk raft_Vote.T7.2 raft_Vote.B7 = true := by kernel_rfl
set_option maxRecDepth 100000 in
theorem raft_Vote.calls (k : Nat) (a0_0 : Int) (a0_1 : Int) (A0_2 : Option Addr) (c0_2 : Nat) (l0_2 : List (S54)) (a0_3 : Int) (a0_4 : Int) (a0_5 : Int) (a0_6 : Int) (a1_0 : Int) (a1_1 : Int) (a1_2 : Int) (r1 : Int) (r2 : Int) (r3 : List (S54)) (r4 : Int) (r5 : Int) (r6 : Int) (r7 : Int) (r8 : Int) (w : World) (hr0_2 : Kd.C k54 w A0_2 l0_2.length l0_2) (hc0_2 : l0_2.length ≤ c0_2) (h : raft_Vote.f k a0_0 a0_1 l0_2 a0_3 a0_4 a0_5 a0_6 a1_0 a1_1 a1_2 = some (r1, r2, r3, r4, r5, r6, r7, r8)) :
 Calls Try.prog 49 #[.agg #[.int .i64 a0_0, .int .i64 a0_1, .slice A0_2 l0_2.length c0_2, .int .i64 a0_3, .int .i64 a0_4, .int .i64 a0_5, .int .i64 a0_6], .agg #[.int .i64 a1_0, .int .i64 a1_1, .int .i64 a1_2]] w fun e w' => ∃ v2_ : Value, e = .returned (.tuple #[.agg #[.int .i64 r1, .int .i64 r2, v2_, .int .i64 r4, .int .i64 r5, .int .i64 r6, .int .i64 r7], .int .i64 r8]) ∧ Kd.S k54 54 w' w.heap.size (fun _ => True) v2_ r3 ∧ Below w.heap.size w w' := by
 have hu26 := Try.underlying26
 have hu24 := Try.underlying24
 have As := Am hr0_2
 have At := Am hc0_2
 clear hr0_2 hc0_2
 have HB := Am (Below.refl w.heap.size w)
 unfold raft_Vote.f at h
 have H := h
 clear h
 obtain ⟨t225, A3, H⟩ := zb H
 by_cases c4 : t225 = 0
 rotate_left
 ·rw [if_neg c4] at H
  obtain ⟨c4b0, c4b1⟩ := zk c4
  simp only [Option.some.injEq, Prod.mk.injEq] at H
  obtain ⟨rfl, rfl, rfl, rfl, rfl, rfl, rfl, rfl⟩ := H
  go_enter Try.func49, Try.ntmps49
  go_wp2_with (first | ((with_reducible refine zD 2 rfl ?_); refine zE 2 #[.int .i64 a0_0, .int .i64 a0_1, .slice A0_2 l0_2.length c0_2, .int .i64 a0_3, .int .i64 a0_4, .int .i64 a0_5, .int .i64 a0_6] 26 ?_; intro Ae hg w45 hbox hb; have Aa := Am (hbox); have Au := zA hg HB; replace HB := zB HB hb; have Af := Au; clear hb hbox hg) | ((with_reducible refine zD 3 rfl ?_); refine zE 3 #[.int .i64 a1_0, .int .i64 a1_1, .int .i64 a1_2] 24 ?_; intro Ak hg w46 hbox hb; have Ab := Am (hbox); have Av := zY1 hg HB Af.out; replace HB := zX1 HB Af.out hb; have Al := Av; have Ah := Am (zN hg (kL Aa.out)); have Ac := Am (zM hg (kL Aa.out)); replace Aa := kBa Aa hb; clear hb hbox hg) | ((with_reducible refine zD 4 rfl ?_); refine zE 4 #[.int .i64 0, .int .i64 0, .slice none 0 0, .int .i64 0, .int .i64 0, .int .i64 0, .int .i64 0] 26 ?_; intro Aj hg w47 hbox hb; have Ad := Am (hbox); have Aw := zY2 hg HB Af.out Al.out; replace HB := zX2 HB Af.out Al.out hb; have An := Aw; have Ai := Am (zN hg (kL Aa.out)); have Ag := Am (zM hg (kL Aa.out)); replace Aa := kBa Aa hb; have Ao := Am (zN hg (kL Ab.out)); have Ap := Am (zM hg (kL Ab.out)); replace Ab := kBa Ab hb; clear hb hbox hg; have hnb48 := Ah.out; have hnc48 := Ac.out; have hnb49 := Ai.out; have hnc49 := Ag.out; obtain ⟨_, _, _, _, _, _, _⟩ := bc7 Aa.out; obtain ⟨_, _, _, _, _, _, _⟩ := bf7 Aa.out) | ((with_reducible refine zC 24 rfl ?_); refine zL (some 10) Try.func24 #[.agg #[.int .i64 a0_0, .int .i64 a0_1, .slice A0_2 l0_2.length c0_2, .int .i64 a0_3, .int .i64 a0_4, .int .i64 a0_5, .int .i64 a0_6]] ?_; (with_reducible refine (raft_Check.calls k a0_0 a0_1 _ _ l0_2 a0_3 a0_4 a0_5 a0_6 t225 _ ?Aq ?Ar A3.out).mono ?_); (case Aq => exact pC (Kd.C_below As.out HB.out)); (case Ar => exact At.out); rintro e w51 ⟨rfl, hb⟩; refine ⟨_, rfl, ?_⟩; replace Aa := kBa Aa hb; replace Ab := kBa Ab hb; replace Ad := kBa Ad hb; replace HB := zX3 HB Af.out Al.out An.out hb; (try clear hb); have hnb52 := Ap.out; have hnc52 := Ao.out; obtain ⟨_, _, _, _, _, _, _⟩ := bc7 Ad.out; obtain ⟨_, _, _, _, _, _, _⟩ := bf7 Ad.out))
  refine bodyPost_ret (results_ct rfl _ _ Aj 26 #[.int .i64 0, .int .i64 0, .slice none 0 0, .int .i64 0, .int .i64 0, .int .i64 0, .int .i64 0] (0, 0) _ rfl (kX0 Ad.out) Try.underlying26 rfl (by kernel_rfl)) rfl ?_
  exact ⟨_, pX, zn, pE3 HB.out Af.out Al.out An.out⟩
 rw [if_pos c4] at H
 obtain ⟨c4b0, c4b1⟩ := zc c4
 clear c4
 obtain ⟨⟨t226, t227⟩, A5, H⟩ := zb H
 dsimp only at H
 obtain ⟨t228, A6, H⟩ := zb H
 by_cases c7 : t228 = 0
 rotate_left
 ·rw [if_neg c7] at H
  obtain ⟨c7b0, c7b1⟩ := zk c7
  simp only [Option.some.injEq, Prod.mk.injEq] at H
  obtain ⟨rfl, rfl, rfl, rfl, rfl, rfl, rfl, rfl⟩ := H
  go_enter Try.func49, Try.ntmps49
  go_wp2_with (first | ((with_reducible refine zD 2 rfl ?_); refine zE 2 #[.int .i64 a0_0, .int .i64 a0_1, .slice A0_2 l0_2.length c0_2, .int .i64 a0_3, .int .i64 a0_4, .int .i64 a0_5, .int .i64 a0_6] 26 ?_; intro Ae hg w31 hbox hb; have Aa := Am (hbox); have Au := zA hg HB; replace HB := zB HB hb; have Af := Au; clear hb hbox hg) | ((with_reducible refine zD 3 rfl ?_); refine zE 3 #[.int .i64 a1_0, .int .i64 a1_1, .int .i64 a1_2] 24 ?_; intro Ak hg w32 hbox hb; have Ab := Am (hbox); have Av := zY1 hg HB Af.out; replace HB := zX1 HB Af.out hb; have Al := Av; have Ah := Am (zN hg (kL Aa.out)); have Ac := Am (zM hg (kL Aa.out)); replace Aa := kBa Aa hb; clear hb hbox hg) | ((with_reducible refine zD 4 rfl ?_); refine zE 4 #[.int .i64 0, .int .i64 0, .slice none 0 0, .int .i64 0, .int .i64 0, .int .i64 0, .int .i64 0] 26 ?_; intro Aj hg w33 hbox hb; have Ad := Am (hbox); have Aw := zY2 hg HB Af.out Al.out; replace HB := zX2 HB Af.out Al.out hb; have An := Aw; have Ai := Am (zN hg (kL Aa.out)); have Ag := Am (zM hg (kL Aa.out)); replace Aa := kBa Aa hb; have Ao := Am (zN hg (kL Ab.out)); have Ap := Am (zM hg (kL Ab.out)); replace Ab := kBa Ab hb; clear hb hbox hg; have hnb34 := Ah.out; have hnc34 := Ac.out; have hnb35 := Ai.out; have hnc35 := Ag.out; obtain ⟨_, _, _, _, _, _, _⟩ := bc7 Aa.out; obtain ⟨_, _, _, _, _, _, _⟩ := bf7 Aa.out) | ((with_reducible refine zC 24 rfl ?_); refine zL (some 10) Try.func24 #[.agg #[.int .i64 a0_0, .int .i64 a0_1, .slice A0_2 l0_2.length c0_2, .int .i64 a0_3, .int .i64 a0_4, .int .i64 a0_5, .int .i64 a0_6]] ?_; (with_reducible refine (raft_Check.calls k a0_0 a0_1 _ _ l0_2 a0_3 a0_4 a0_5 a0_6 t225 _ ?Aq ?Ar A3.out).mono ?_); (case Aq => exact pC (Kd.C_below As.out HB.out)); (case Ar => exact At.out); rintro e w37 ⟨rfl, hb⟩; refine ⟨_, rfl, ?_⟩; replace Aa := kBa Aa hb; replace Ab := kBa Ab hb; replace Ad := kBa Ad hb; replace HB := zX3 HB Af.out Al.out An.out hb; (try clear hb); obtain ⟨_, _, _, _, _, _, _⟩ := bc7 Aa.out; obtain ⟨_, _, _, _, _, _, _⟩ := bf7 Aa.out) | ((with_reducible refine zC 63 rfl ?_); refine zL (some 15) Try.func63 #[.agg #[.int .i64 a0_0, .int .i64 a0_1, .slice A0_2 l0_2.length c0_2, .int .i64 a0_3, .int .i64 a0_4, .int .i64 a0_5, .int .i64 a0_6]] ?_; (with_reducible refine (raft_Last.calls k a0_0 a0_1 _ _ l0_2 a0_3 a0_4 a0_5 a0_6 t226 t227 _ ?Aq ?Ar A5.out).mono ?_); (case Aq => exact pC (Kd.C_below As.out HB.out)); (case Ar => exact At.out); rintro e w39 ⟨rfl, hb⟩; refine ⟨_, rfl, ?_⟩; replace Aa := kBa Aa hb; replace Ab := kBa Ab hb; replace Ad := kBa Ad hb; replace HB := zX3 HB Af.out Al.out An.out hb; (try clear hb); obtain ⟨_, _, _, _, _, _, _⟩ := bc7 Aa.out; obtain ⟨_, _, _, _, _, _, _⟩ := bf7 Aa.out; have hnb41 := Ao.out; have hnc41 := Ap.out; obtain ⟨_, _, _⟩ := bc3 Ab.out; obtain ⟨_, _, _⟩ := bf3 Ab.out) | ((with_reducible refine zC 66 rfl ?_); refine zL (some 22) Try.func66 #[.agg #[.int .i64 a0_3, .int .i64 a0_4, .int .i64 a0_5], .agg #[.int .i64 a1_0, .int .i64 a1_1, .int .i64 a1_2], .int .i64 t226] ?_; (with_reducible refine (hard_Step.calls k a0_3 a0_4 a0_5 a1_0 a1_1 a1_2 t226 t228 _ A6.out).mono ?_); rintro e w43 ⟨rfl, hb⟩; refine ⟨_, rfl, ?_⟩; replace Aa := kBa Aa hb; replace Ab := kBa Ab hb; replace Ad := kBa Ad hb; replace HB := zX3 HB Af.out Al.out An.out hb; (try clear hb); obtain ⟨_, _, _, _, _, _, _⟩ := bc7 Ad.out; obtain ⟨_, _, _, _, _, _, _⟩ := bf7 Ad.out))
  refine bodyPost_ret (results_ct rfl _ _ Aj 26 #[.int .i64 0, .int .i64 0, .slice none 0 0, .int .i64 0, .int .i64 0, .int .i64 0, .int .i64 0] (0, 0) _ rfl (kX0 Ad.out) Try.underlying26 rfl (by kernel_rfl)) rfl ?_
  exact ⟨_, pX, zn, pE3 HB.out Af.out Al.out An.out⟩
 rw [if_pos c7] at H
 obtain ⟨c7b0, c7b1⟩ := zc c7
 clear c7
 obtain ⟨t229, A8, H⟩ := zb H
 simp only [Option.some.injEq, Prod.mk.injEq] at H
 obtain ⟨rfl, rfl, rfl, rfl, rfl, rfl, rfl, rfl⟩ := H
 go_enter Try.func49, Try.ntmps49
 try go_wp2_with (first | ((with_reducible refine zD 2 rfl ?_); refine zE 2 #[.int .i64 a0_0, .int .i64 a0_1, .slice A0_2 l0_2.length c0_2, .int .i64 a0_3, .int .i64 a0_4, .int .i64 a0_5, .int .i64 a0_6] 26 ?_; intro Ae hg w9 hbox hb; have Aa := Am (hbox); have Au := zA hg HB; replace HB := zB HB hb; have Af := Au; clear hb hbox hg) | ((with_reducible refine zD 3 rfl ?_); refine zE 3 #[.int .i64 a1_0, .int .i64 a1_1, .int .i64 a1_2] 24 ?_; intro Ak hg w10 hbox hb; have Ab := Am (hbox); have Av := zY1 hg HB Af.out; replace HB := zX1 HB Af.out hb; have Al := Av; have Ah := Am (zN hg (kL Aa.out)); have Ac := Am (zM hg (kL Aa.out)); replace Aa := kBa Aa hb; clear hb hbox hg) | ((with_reducible refine zD 4 rfl ?_); refine zE 4 #[.int .i64 0, .int .i64 0, .slice none 0 0, .int .i64 0, .int .i64 0, .int .i64 0, .int .i64 0] 26 ?_; intro Aj hg w11 hbox hb; have Ad := Am (hbox); have Aw := zY2 hg HB Af.out Al.out; replace HB := zX2 HB Af.out Al.out hb; have An := Aw; have Ai := Am (zN hg (kL Aa.out)); have Ag := Am (zM hg (kL Aa.out)); replace Aa := kBa Aa hb; have Ao := Am (zN hg (kL Ab.out)); have Ap := Am (zM hg (kL Ab.out)); replace Ab := kBa Ab hb; clear hb hbox hg; have hnb12 := Ah.out; have hnc12 := Ac.out; have hnb13 := Ai.out; have hnc13 := Ag.out; obtain ⟨_, _, _, _, _, _, _⟩ := bc7 Aa.out; obtain ⟨_, _, _, _, _, _, _⟩ := bf7 Aa.out) | ((with_reducible refine zC 24 rfl ?_); refine zL (some 10) Try.func24 #[.agg #[.int .i64 a0_0, .int .i64 a0_1, .slice A0_2 l0_2.length c0_2, .int .i64 a0_3, .int .i64 a0_4, .int .i64 a0_5, .int .i64 a0_6]] ?_; (with_reducible refine (raft_Check.calls k a0_0 a0_1 _ _ l0_2 a0_3 a0_4 a0_5 a0_6 t225 _ ?Aq ?Ar A3.out).mono ?_); (case Aq => exact pC (Kd.C_below As.out HB.out)); (case Ar => exact At.out); rintro e w15 ⟨rfl, hb⟩; refine ⟨_, rfl, ?_⟩; replace Aa := kBa Aa hb; replace Ab := kBa Ab hb; replace Ad := kBa Ad hb; replace HB := zX3 HB Af.out Al.out An.out hb; (try clear hb); obtain ⟨_, _, _, _, _, _, _⟩ := bc7 Aa.out; obtain ⟨_, _, _, _, _, _, _⟩ := bf7 Aa.out) | ((with_reducible refine zC 63 rfl ?_); refine zL (some 15) Try.func63 #[.agg #[.int .i64 a0_0, .int .i64 a0_1, .slice A0_2 l0_2.length c0_2, .int .i64 a0_3, .int .i64 a0_4, .int .i64 a0_5, .int .i64 a0_6]] ?_; (with_reducible refine (raft_Last.calls k a0_0 a0_1 _ _ l0_2 a0_3 a0_4 a0_5 a0_6 t226 t227 _ ?Aq ?Ar A5.out).mono ?_); (case Aq => exact pC (Kd.C_below As.out HB.out)); (case Ar => exact At.out); rintro e w17 ⟨rfl, hb⟩; refine ⟨_, rfl, ?_⟩; replace Aa := kBa Aa hb; replace Ab := kBa Ab hb; replace Ad := kBa Ad hb; replace HB := zX3 HB Af.out Al.out An.out hb; (try clear hb); obtain ⟨_, _, _, _, _, _, _⟩ := bc7 Aa.out; obtain ⟨_, _, _, _, _, _, _⟩ := bf7 Aa.out; have hnb19 := Ao.out; have hnc19 := Ap.out; obtain ⟨_, _, _⟩ := bc3 Ab.out; obtain ⟨_, _, _⟩ := bf3 Ab.out) | ((with_reducible refine zC 66 rfl ?_); refine zL (some 22) Try.func66 #[.agg #[.int .i64 a0_3, .int .i64 a0_4, .int .i64 a0_5], .agg #[.int .i64 a1_0, .int .i64 a1_1, .int .i64 a1_2], .int .i64 t226] ?_; (with_reducible refine (hard_Step.calls k a0_3 a0_4 a0_5 a1_0 a1_1 a1_2 t226 t228 _ A6.out).mono ?_); rintro e w21 ⟨rfl, hb⟩; refine ⟨_, rfl, ?_⟩; replace Aa := kBa Aa hb; replace Ab := kBa Ab hb; replace Ad := kBa Ad hb; replace HB := zX3 HB Af.out Al.out An.out hb; (try clear hb)))
 replace Aa := kDa Aa
 replace Ab := kDa Ab
 replace Ad := kDa Ad
 replace HB := bDa HB
 refine start_ (n := 8) (S := fun w' => cG w' Ak 0 (.int .i64 a1_0) ∧ cG w' Ak 1 (.int .i64 a1_1) ∧ cG w' Ak 2 (.int .i64 a1_2)) (ds := []) #[false, false, false, false, false, false, false, false] (by kernel_rfl) rfl rfl ⟨(blk_cell Ab.out 0).trans rfl, (blk_cell Ab.out 1).trans rfl, (blk_cell Ab.out 2).trans rfl⟩ (fun hHeld => ?_); refine with_tabW raft_Vote.tab7 raft_Vote.bits7 (fun HT_ HW_ => ?_)
 generalize w21.drew = w22 at Aa Ab Ad HB hHeld ⊢
 refine pui 0 27 8 1 HT_ ?_
 refine zw 3 (h := ?_)
 refine onei 1 28 8 11 HT_ (fun K hK => ?_)
 have hcl_ : w22.cell? ⟨Ae, 2, none⟩ = some (.slice A0_2 l0_2.length c0_2) := (blk_cell Aa.out 2).trans rfl
 refine value_ (w1 := ?_) (v := ?_) (by rfl) rfl ?_ ?_
 rotate_left 2
 ·go_simp
  constructor
  ·rfl
  rfl
 clear hcl_
 refine hK.out _ _ ⟨hHeld.1, hHeld.2.1, hHeld.2.2⟩ (fun hHeld => ?_)
 clear hK K
 refine norm_ (a' := ?_) ?_ ?_
 rotate_left
 ·show Act.put _ (some 28) _ = _
  simp only [Act.put, List.setIfInBounds_toArray, List.set_cons_zero, List.set_cons_succ, i64_w, i32_w]
  rfl
 refine onei 2 29 8 15 HT_ (fun K hK => ?_)
 refine goes_ Try.func65 (by kernel_rfl) rfl #[.slice A0_2 l0_2.length c0_2] (by rfl) rfl rfl pL ?_
 with_reducible refine (raft_owns.calls k _ _ l0_2 t229 _ ?Aq ?Ar A8.out).mono ?_
 (case Aq => exact pC (Kd.C_below As.out HB.out))
 (case Ar => exact At.out)
 rintro e w23 ⟨v230, rfl, ho0, hb⟩
 refine ⟨_, rfl, ?_⟩
 have Ax := Am (Kd.S_lower ho0 (below_size (pE3 HB.out Af.out Al.out An.out)))
 replace Aa := kBa Aa hb
 replace Ab := kBa Ab hb
 replace Ad := kBa Ad hb
 replace HB := zX3 HB Af.out Al.out An.out hb
 (try clear hb)
 (try clear hb2)
 (try clear hk)
 (try clear hi)
 (try clear ho0)
 obtain ⟨Ay, Az, A0⟩ := Kd.S_slice Ax.out
 (first | subst A0 | (injection A0 with f1_ f2_ f3_; have f4_ := f1_.symm; have f5_ := f3_.symm; clear f1_ f2_ f3_; subst f4_; subst f5_))
 refine hK.out _ _ ⟨(blk_cell Ab.out 0).trans rfl, (blk_cell Ab.out 1).trans rfl, (blk_cell Ab.out 2).trans rfl⟩ (fun hHeld => ?_)
 clear hK K
 refine norm_ (a' := ?_) ?_ ?_
 rotate_left
 ·show Act.put _ (some 29) _ = _
  simp only [Act.put, List.setIfInBounds_toArray, List.set_cons_zero, List.set_cons_succ, i64_w, i32_w]
  rfl
 refine pui 4 31 8 31 HT_ ?_
 refine one_ (i := 5) (N := none) (bw 8 63) rfl rfl (one_of HT_.out (by kernel_rfl)) (by decide) (fun K hK => ?_)
 have hs25 : w23.cell? ⟨Ae, 2, none⟩ = some (.slice A0_2 l0_2.length c0_2) := (blk_cell Aa.out 2).trans rfl
 have hfs25 := blk_frozen Aa.out 2
 have hns25_1 := Ac.out
 have hns25_2 := Ag.out
 have hms25_1 := Ah.out
 have hms25_2 := Ai.out
 refine skip_ (w1 := ?_) (by rfl) rfl ?_ ?_
 rotate_left
 ·go_simp
  rfl
 refine hK.out _ _ ⟨(cX1 hHeld.1 Ac.out), (cX1 hHeld.2.1 Ac.out), (cX1 hHeld.2.2 Ac.out)⟩ (fun hHeld => ?_)
 clear hK K
 refine pui 6 32 8 127 HT_ ?_
 refine one_ (i := 7) (N := none) (bw 8 255) rfl rfl (one_of HT_.out (by kernel_rfl)) (by decide) (fun K hK => ?_)
 have hs26 : w23.cell? ⟨Ae, 3, none⟩ = some (.int .i64 a0_3) := (blk_cell Aa.out 3).trans rfl
 have hfs26 := blk_frozen Aa.out 3
 have hns26_1 := Ac.out
 have hns26_2 := Ag.out
 have hms26_1 := Ah.out
 have hms26_2 := Ai.out
 have hs27 : w23.cell? ⟨Ae, 4, none⟩ = some (.int .i64 a0_4) := (blk_cell Aa.out 4).trans rfl
 have hfs27 := blk_frozen Aa.out 4
 have hns27_1 := Ac.out
 have hns27_2 := Ag.out
 have hms27_1 := Ah.out
 have hms27_2 := Ai.out
 have hs28 : w23.cell? ⟨Ae, 5, none⟩ = some (.int .i64 a0_5) := (blk_cell Aa.out 5).trans rfl
 have hfs28 := blk_frozen Aa.out 5
 have hns28_1 := Ac.out
 have hns28_2 := Ag.out
 have hms28_1 := Ah.out
 have hms28_2 := Ai.out
 refine skip_ (w1 := ?_) (by rfl) rfl ?_ ?_
 rotate_left
 ·go_simp
  rfl
 refine hK.out _ _ ⟨(cX1 hHeld.1 Ac.out), (cX1 hHeld.2.1 Ac.out), (cX1 hHeld.2.2 Ac.out)⟩ (fun hHeld => ?_)
 clear hK K
 refine done_ (done_of HT_.out (by kernel_rfl)) ?_
 obtain ⟨_, _, _, _, _, _, _⟩ := bc7 Aa.out
 obtain ⟨_, _, _, _, _, _, _⟩ := bf7 Aa.out
 obtain ⟨_, _, _, _, _, _, _⟩ := bc7 Ad.out
 obtain ⟨_, _, _, _, _, _, _⟩ := bf7 Ad.out
 try go_wp2
 refine bodyPost_ret (results_ct rfl _ _ Aj 26 #[.int .i64 a0_0, .int .i64 a0_1, .slice Ay t229.length Az, .int .i64 a1_0, .int .i64 a1_1, .int .i64 a1_2, .int .i64 a0_6] (0, 0) _ rfl (kX1 Ad.out Ag.out) Try.underlying26 rfl (by kernel_rfl)) rfl ?_
 exact ⟨_, pX, by (with_reducible repeat (first | apply Kd.S_alloc | apply Kd.S_drewN | apply Kd.S_drew)); have h0_ := Kd.S_types (Kd.S_types Ax.out Aa.out (by decide)) Ad.out (by decide); have h1_ := Kd.S_far (p := ⟨Ae, 2, none⟩) h0_ (fun _ hk => hk.1.2) (.slice Ay t229.length Az); have h2_ := Kd.S_far (p := ⟨Ae, 3, none⟩) h1_ (fun _ hk => hk.1.2) (.int .i64 a1_0); have h3_ := Kd.S_far (p := ⟨Ae, 4, none⟩) h2_ (fun _ hk => hk.1.2) (.int .i64 a1_1); have h4_ := Kd.S_far (p := ⟨Ae, 5, none⟩) h3_ (fun _ hk => hk.1.2) (.int .i64 a1_2); exact Kd.S_mono (Sf7 (g := Aj) (h4_) (fun _ hk => hk.2)) (fun _ hk => trivial), pE3 HB.out Af.out Al.out An.out⟩
def raft_Apply.f (k : Nat) (a0_0 : Int) (a0_1 : Int) (l0_2 : List (S54)) (a0_3 : Int) (a0_4 : Int) (a0_5 : Int) (a0_6 : Int) (a1 : Int) : Option (Int × Int × (List (S54)) × Int × Int × Int × Int × (List (S54)) × Int) := (raft_Check.f k a0_0 a0_1 l0_2 a0_3 a0_4 a0_5 a0_6).bind fun t234 => (if t234 = 0 then (if a1 < a0_6 then (some (0, 0, ([] : List (S54)), 0, 0, 0, 0, ([] : List (S54)), 4)) else (if a1 > a0_5 then (some (0, 0, ([] : List (S54)), 0, 0, 0, 0, ([] : List (S54)), 3)) else (if 0 ≤ (wrap64 (a0_6 - a0_0)) then (if (wrap64 (a0_6 - a0_0)) ≤ (wrap64 (a1 - a0_0)) then (if (wrap64 (a1 - a0_0)) ≤ (l0_2.length : Int) then ((raft_owns.f k ((l0_2.take ((wrap64 (a1 - a0_0)) : Int).toNat).drop ((wrap64 (a0_6 - a0_0)) : Int).toNat)).bind fun t239 => ((raft_owns.f k l0_2).bind fun t242 => (some (a0_0, a0_1, t242, a0_3, a0_4, a0_5, a1, t239, 0)))) else (none)) else (none)) else (none)))) else (some (0, 0, ([] : List (S54)), 0, 0, 0, 0, ([] : List (S54)), 1)))
theorem raft_Apply.mono : ∀ a0 a1 a2 a3 a4 a5 a6 a7 k, LeO (raft_Apply.f k a0 a1 a2 a3 a4 a5 a6 a7) (raft_Apply.f (k + 1) a0 a1 a2 a3 a4 a5 a6 a7) := by
 intro a0 a1 a2 a3 a4 a5 a6 a7 k
 unfold raft_Apply.f
 repeat' (with_reducible first | exact raft_Check.mono .. | exact raft_owns.mono .. | exact LeO.refl .. | exact LeO.none .. | refine LeO.ite ?_ ?_ | refine LeO.bind ?_ (fun _ => ?_))
set_option maxRecDepth 100000 in
theorem raft_Apply.calls (k : Nat) (a0_0 : Int) (a0_1 : Int) (A0_2 : Option Addr) (c0_2 : Nat) (l0_2 : List (S54)) (a0_3 : Int) (a0_4 : Int) (a0_5 : Int) (a0_6 : Int) (a1 : Int) (r1 : Int) (r2 : Int) (r3 : List (S54)) (r4 : Int) (r5 : Int) (r6 : Int) (r7 : Int) (r8 : List (S54)) (r9 : Int) (w : World) (hr0_2 : Kd.C k54 w A0_2 l0_2.length l0_2) (hc0_2 : l0_2.length ≤ c0_2) (h : raft_Apply.f k a0_0 a0_1 l0_2 a0_3 a0_4 a0_5 a0_6 a1 = some (r1, r2, r3, r4, r5, r6, r7, r8, r9)) :
 Calls Try.prog 50 #[.agg #[.int .i64 a0_0, .int .i64 a0_1, .slice A0_2 l0_2.length c0_2, .int .i64 a0_3, .int .i64 a0_4, .int .i64 a0_5, .int .i64 a0_6], .int .i64 a1] w fun e w' => ∃ v2_ v7_ : Value, e = .returned (.tuple #[.agg #[.int .i64 r1, .int .i64 r2, v2_, .int .i64 r4, .int .i64 r5, .int .i64 r6, .int .i64 r7], v7_, .int .i64 r9]) ∧ Kd.S k54 54 w' w.heap.size (fun k_ => some k_ ≠ (v7_ : Value).ownBlock) v2_ r3 ∧ Kd.S k54 54 w' w.heap.size (fun k_ => some k_ ≠ (v2_ : Value).ownBlock) v7_ r8 ∧ Below w.heap.size w w' := by
 have hu26 := Try.underlying26
 have Ao := Am hr0_2
 have Ap := Am hc0_2
 clear hr0_2 hc0_2
 have HB := Am (Below.refl w.heap.size w)
 unfold raft_Apply.f at h
 have H := h
 clear h
 obtain ⟨t234, A3, H⟩ := zb H
 by_cases c4 : t234 = 0
 rotate_left
 ·rw [if_neg c4] at H
  obtain ⟨c4b0, c4b1⟩ := zk c4
  simp only [Option.some.injEq, Prod.mk.injEq] at H
  obtain ⟨rfl, rfl, rfl, rfl, rfl, rfl, rfl, rfl, rfl⟩ := H
  go_enter Try.func50, Try.ntmps50
  go_wp2_with (first | ((with_reducible refine zD 2 rfl ?_); refine zE 2 #[.int .i64 a0_0, .int .i64 a0_1, .slice A0_2 l0_2.length c0_2, .int .i64 a0_3, .int .i64 a0_4, .int .i64 a0_5, .int .i64 a0_6] 26 ?_; intro Af hg w40 hbox hb; have Aa := Am (hbox); have Al := zA hg HB; replace HB := zB HB hb; have Ac := Al; clear hb hbox hg) | ((with_reducible refine zD 4 rfl ?_); refine zE 4 #[.int .i64 0, .int .i64 0, .slice none 0 0, .int .i64 0, .int .i64 0, .int .i64 0, .int .i64 0] 26 ?_; intro Ad hg w41 hbox hb; have Ab := Am (hbox); have An := zY1 hg HB Ac.out; replace HB := zX1 HB Ac.out hb; have Ah := An; have Ag := Am (zN hg (kL Aa.out)); have Ae := Am (zM hg (kL Aa.out)); replace Aa := kBa Aa hb; clear hb hbox hg; have hnb42 := Ag.out; have hnc42 := Ae.out; obtain ⟨_, _, _, _, _, _, _⟩ := bc7 Aa.out; obtain ⟨_, _, _, _, _, _, _⟩ := bf7 Aa.out) | ((with_reducible refine zC 24 rfl ?_); refine zL (some 10) Try.func24 #[.agg #[.int .i64 a0_0, .int .i64 a0_1, .slice A0_2 l0_2.length c0_2, .int .i64 a0_3, .int .i64 a0_4, .int .i64 a0_5, .int .i64 a0_6]] ?_; (with_reducible refine (raft_Check.calls k a0_0 a0_1 _ _ l0_2 a0_3 a0_4 a0_5 a0_6 t234 _ ?Ai ?Aj A3.out).mono ?_); (case Ai => exact pC (Kd.C_below Ao.out HB.out)); (case Aj => exact Ap.out); rintro e w44 ⟨rfl, hb⟩; refine ⟨_, rfl, ?_⟩; replace Aa := kBa Aa hb; replace Ab := kBa Ab hb; replace HB := zX2 HB Ac.out Ah.out hb; (try clear hb); obtain ⟨_, _, _, _, _, _, _⟩ := bc7 Ab.out; obtain ⟨_, _, _, _, _, _, _⟩ := bf7 Ab.out))
  refine bodyPost_ret (results_ctt rfl _ _ Ad 26 #[.int .i64 0, .int .i64 0, .slice none 0 0, .int .i64 0, .int .i64 0, .int .i64 0, .int .i64 0] (0, 0) _ rfl (kX0 Ab.out) Try.underlying26 rfl (by kernel_rfl)) rfl ?_
  exact ⟨_, _, pX, zn, zn, pE2 HB.out Ac.out Ah.out⟩
 rw [if_pos c4] at H
 obtain ⟨c4b0, c4b1⟩ := zc c4
 clear c4
 by_cases c5 : a1 < a0_6
 ·rw [if_pos c5] at H
  have c5b0 := decide_eq_true c5
  clear c5
  simp only [Option.some.injEq, Prod.mk.injEq] at H
  obtain ⟨rfl, rfl, rfl, rfl, rfl, rfl, rfl, rfl, rfl⟩ := H
  go_enter Try.func50, Try.ntmps50
  go_wp2_with (first | ((with_reducible refine zD 2 rfl ?_); refine zE 2 #[.int .i64 a0_0, .int .i64 a0_1, .slice A0_2 l0_2.length c0_2, .int .i64 a0_3, .int .i64 a0_4, .int .i64 a0_5, .int .i64 a0_6] 26 ?_; intro Af hg w6 hbox hb; have Aa := Am (hbox); have Al := zA hg HB; replace HB := zB HB hb; have Ac := Al; clear hb hbox hg) | ((with_reducible refine zD 4 rfl ?_); refine zE 4 #[.int .i64 0, .int .i64 0, .slice none 0 0, .int .i64 0, .int .i64 0, .int .i64 0, .int .i64 0] 26 ?_; intro Ad hg w7 hbox hb; have Ab := Am (hbox); have An := zY1 hg HB Ac.out; replace HB := zX1 HB Ac.out hb; have Ah := An; have Ag := Am (zN hg (kL Aa.out)); have Ae := Am (zM hg (kL Aa.out)); replace Aa := kBa Aa hb; clear hb hbox hg; have hnb8 := Ag.out; have hnc8 := Ae.out; obtain ⟨_, _, _, _, _, _, _⟩ := bc7 Aa.out; obtain ⟨_, _, _, _, _, _, _⟩ := bf7 Aa.out) | ((with_reducible refine zC 24 rfl ?_); refine zL (some 10) Try.func24 #[.agg #[.int .i64 a0_0, .int .i64 a0_1, .slice A0_2 l0_2.length c0_2, .int .i64 a0_3, .int .i64 a0_4, .int .i64 a0_5, .int .i64 a0_6]] ?_; (with_reducible refine (raft_Check.calls k a0_0 a0_1 _ _ l0_2 a0_3 a0_4 a0_5 a0_6 t234 _ ?Ai ?Aj A3.out).mono ?_); (case Ai => exact pC (Kd.C_below Ao.out HB.out)); (case Aj => exact Ap.out); rintro e w10 ⟨rfl, hb⟩; refine ⟨_, rfl, ?_⟩; replace Aa := kBa Aa hb; replace Ab := kBa Ab hb; replace HB := zX2 HB Ac.out Ah.out hb; (try clear hb); obtain ⟨_, _, _, _, _, _, _⟩ := bc7 Aa.out; obtain ⟨_, _, _, _, _, _, _⟩ := bf7 Aa.out; obtain ⟨_, _, _, _, _, _, _⟩ := bc7 Ab.out; obtain ⟨_, _, _, _, _, _, _⟩ := bf7 Ab.out))
  refine bodyPost_ret (results_ctt rfl _ _ Ad 26 #[.int .i64 0, .int .i64 0, .slice none 0 0, .int .i64 0, .int .i64 0, .int .i64 0, .int .i64 0] (0, 0) _ rfl (kX0 Ab.out) Try.underlying26 rfl (by kernel_rfl)) rfl ?_
  exact ⟨_, _, pX, zn, zn, pE2 HB.out Ac.out Ah.out⟩
 rw [if_neg c5] at H
 have c5b0 := decide_eq_false c5
 clear c5
 by_cases c13 : a1 > a0_5
 ·rw [if_pos c13] at H
  have c13b0 : decide (a0_5 < a1) = true := decide_eq_true c13
  clear c13
  simp only [Option.some.injEq, Prod.mk.injEq] at H
  obtain ⟨rfl, rfl, rfl, rfl, rfl, rfl, rfl, rfl, rfl⟩ := H
  go_enter Try.func50, Try.ntmps50
  go_wp2_with (first | ((with_reducible refine zD 2 rfl ?_); refine zE 2 #[.int .i64 a0_0, .int .i64 a0_1, .slice A0_2 l0_2.length c0_2, .int .i64 a0_3, .int .i64 a0_4, .int .i64 a0_5, .int .i64 a0_6] 26 ?_; intro Af hg w14 hbox hb; have Aa := Am (hbox); have Al := zA hg HB; replace HB := zB HB hb; have Ac := Al; clear hb hbox hg) | ((with_reducible refine zD 4 rfl ?_); refine zE 4 #[.int .i64 0, .int .i64 0, .slice none 0 0, .int .i64 0, .int .i64 0, .int .i64 0, .int .i64 0] 26 ?_; intro Ad hg w15 hbox hb; have Ab := Am (hbox); have An := zY1 hg HB Ac.out; replace HB := zX1 HB Ac.out hb; have Ah := An; have Ag := Am (zN hg (kL Aa.out)); have Ae := Am (zM hg (kL Aa.out)); replace Aa := kBa Aa hb; clear hb hbox hg; have hnb16 := Ag.out; have hnc16 := Ae.out; obtain ⟨_, _, _, _, _, _, _⟩ := bc7 Aa.out; obtain ⟨_, _, _, _, _, _, _⟩ := bf7 Aa.out) | ((with_reducible refine zC 24 rfl ?_); refine zL (some 10) Try.func24 #[.agg #[.int .i64 a0_0, .int .i64 a0_1, .slice A0_2 l0_2.length c0_2, .int .i64 a0_3, .int .i64 a0_4, .int .i64 a0_5, .int .i64 a0_6]] ?_; (with_reducible refine (raft_Check.calls k a0_0 a0_1 _ _ l0_2 a0_3 a0_4 a0_5 a0_6 t234 _ ?Ai ?Aj A3.out).mono ?_); (case Ai => exact pC (Kd.C_below Ao.out HB.out)); (case Aj => exact Ap.out); rintro e w18 ⟨rfl, hb⟩; refine ⟨_, rfl, ?_⟩; replace Aa := kBa Aa hb; replace Ab := kBa Ab hb; replace HB := zX2 HB Ac.out Ah.out hb; (try clear hb); obtain ⟨_, _, _, _, _, _, _⟩ := bc7 Aa.out; obtain ⟨_, _, _, _, _, _, _⟩ := bf7 Aa.out; obtain ⟨_, _, _, _, _, _, _⟩ := bc7 Ab.out; obtain ⟨_, _, _, _, _, _, _⟩ := bf7 Ab.out))
  refine bodyPost_ret (results_ctt rfl _ _ Ad 26 #[.int .i64 0, .int .i64 0, .slice none 0 0, .int .i64 0, .int .i64 0, .int .i64 0, .int .i64 0] (0, 0) _ rfl (kX0 Ab.out) Try.underlying26 rfl (by kernel_rfl)) rfl ?_
  exact ⟨_, _, pX, zn, zn, pE2 HB.out Ac.out Ah.out⟩
 rw [if_neg c13] at H
 have c13b0 : decide (a0_5 < a1) = false := decide_eq_false c13
 clear c13
 obtain ⟨ji21, hji21⟩ : ∃ j_ : Int, (wrap64 (a0_6 - a0_0)) = j_ := ⟨_, rfl⟩
 replace H : (if 0 ≤ (ji21) then (if (ji21) ≤ (wrap64 (a1 - a0_0)) then (if (wrap64 (a1 - a0_0)) ≤ (l0_2.length : Int) then ((raft_owns.f k ((l0_2.take ((wrap64 (a1 - a0_0)) : Int).toNat).drop ((ji21) : Int).toNat)).bind fun t239 => ((raft_owns.f k l0_2).bind fun t242 => (some (a0_0, a0_1, t242, a0_3, a0_4, a0_5, a1, t239, 0)))) else (none)) else (none)) else (none)) = some (r1, r2, r3, r4, r5, r6, r7, r8, r9) := by first | (rw [hji21] at H; exact H) | (simp only [hji21] at H ⊢; exact H)
 (try rw [hji21] at A3)
 have hji21w : (IntKind.i64.wrap (a0_6 - a0_0)) = ji21 := (i64_w _).trans hji21
 obtain ⟨c22, H⟩ := zI H
 have c22b0 := eq_true c22
 have c22b1 := decide_eq_true c22
 clear c22
 obtain ⟨c23, H⟩ := zI H
 have c23b0 := eq_true c23
 have c23b1 := decide_eq_true c23
 clear c23
 obtain ⟨c24, H⟩ := zI H
 have c24b0 := eq_true c24
 have c24b1 := decide_eq_true c24
 clear c24
 obtain ⟨y235, hy235⟩ : ∃ y_ : List (S54), y_ = ((l0_2.take ((wrap64 (a1 - a0_0)) : Int).toNat).drop ((ji21) : Int).toNat) := ⟨_, rfl⟩
 replace H : ((raft_owns.f k y235).bind fun t239 => ((raft_owns.f k l0_2).bind fun t242 => (some (a0_0, a0_1, t242, a0_3, a0_4, a0_5, a1, t239, 0)))) = some (r1, r2, r3, r4, r5, r6, r7, r8, r9) := zy hy235 H
 have Ny235 := Am hy235
 clear hy235
 obtain ⟨t239, A25, H⟩ := zb H
 obtain ⟨t242, A26, H⟩ := zb H
 simp only [Option.some.injEq, Prod.mk.injEq] at H
 obtain ⟨rfl, rfl, rfl, rfl, rfl, rfl, rfl, rfl, rfl⟩ := H
 go_enter Try.func50, Try.ntmps50
 go_wp2_with (first | ((with_reducible refine zD 2 rfl ?_); refine zE 2 #[.int .i64 a0_0, .int .i64 a0_1, .slice A0_2 l0_2.length c0_2, .int .i64 a0_3, .int .i64 a0_4, .int .i64 a0_5, .int .i64 a0_6] 26 ?_; intro Af hg w27 hbox hb; have Aa := Am (hbox); have Al := zA hg HB; replace HB := zB HB hb; have Ac := Al; clear hb hbox hg) | ((with_reducible refine zD 4 rfl ?_); refine zE 4 #[.int .i64 0, .int .i64 0, .slice none 0 0, .int .i64 0, .int .i64 0, .int .i64 0, .int .i64 0] 26 ?_; intro Ad hg w28 hbox hb; have Ab := Am (hbox); have An := zY1 hg HB Ac.out; replace HB := zX1 HB Ac.out hb; have Ah := An; have Ag := Am (zN hg (kL Aa.out)); have Ae := Am (zM hg (kL Aa.out)); replace Aa := kBa Aa hb; clear hb hbox hg; have hnb29 := Ag.out; have hnc29 := Ae.out; obtain ⟨_, _, _, _, _, _, _⟩ := bc7 Aa.out; obtain ⟨_, _, _, _, _, _, _⟩ := bf7 Aa.out) | ((with_reducible refine zC 24 rfl ?_); refine zL (some 10) Try.func24 #[.agg #[.int .i64 a0_0, .int .i64 a0_1, .slice A0_2 l0_2.length c0_2, .int .i64 a0_3, .int .i64 a0_4, .int .i64 a0_5, .int .i64 a0_6]] ?_; (with_reducible refine (raft_Check.calls k a0_0 a0_1 _ _ l0_2 a0_3 a0_4 a0_5 a0_6 t234 _ ?Ai ?Aj A3.out).mono ?_); (case Ai => exact pC (Kd.C_below Ao.out HB.out)); (case Aj => exact Ap.out); rintro e w31 ⟨rfl, hb⟩; refine ⟨_, rfl, ?_⟩; replace Aa := kBa Aa hb; replace Ab := kBa Ab hb; replace HB := zX2 HB Ac.out Ah.out hb; (try clear hb); obtain ⟨_, _, _, _, _, _, _⟩ := bc7 Aa.out; obtain ⟨_, _, _, _, _, _, _⟩ := bf7 Aa.out; have q33 : ((wrap64 (a1 - a0_0)) : Int) ≤ ((l0_2.length : Int) : Int) := of_decide_eq_true pS; obtain ⟨i033, hi033, _, As, _⟩ := info_parts info54; have Ak : l0_2.length ≤ c0_2 := Ap.out; have Ax : Kd.C k54 _ A0_2 l0_2.length l0_2 := Ao.out; have ql33 : ((ji21) : Int) ≤ ((wrap64 (a1 - a0_0)) : Int) := of_decide_eq_true pS; have q033 : (0 : Int) ≤ ((ji21) : Int) := of_decide_eq_true pS; have Aw := cut_mid (P := Try.prog) 22 54 .i64 .i64 Try.underlying22 hi033 10 As A0_2 l0_2.length c0_2 (ji21) (wrap64 (a1 - a0_0)) q033 ql33 q33 Ak; have Ar := Kd.C_mid (lo := ((ji21) : Int).toNat) (hi := ((wrap64 (a1 - a0_0)) : Int).toNat) (c := c0_2) Ax (by omega) (by omega) Ak; obtain ⟨A33, hA33⟩ : ∃ AX_, AX_ = (if c0_2 = ((ji21) : Int).toNat then A0_2 else (A0_2 : Option Addr).map (·.add (((ji21) : Int).toNat * 10))) := ⟨_, rfl⟩; obtain ⟨c33, hc33⟩ : ∃ cX_, cX_ = c0_2 - ((ji21) : Int).toNat := ⟨_, rfl⟩; have hy33 : y235.length = ((wrap64 (a1 - a0_0)) : Int).toNat - ((ji21) : Int).toNat := (by rw [Ny235.out, List.length_drop, List.length_take] <;> omega); rw [show ((l0_2).take ((wrap64 (a1 - a0_0)) : Int).toNat).drop ((ji21) : Int).toNat = y235 from Ny235.out.symm] at Ar; replace Ar : Kd.C k54 _ A33 y235.length y235 := (by rw [hA33]; exact Ar); rw [← hy33, ← hA33, ← hc33] at Aw; have HR238 := Am Ar; have HC238 := Am (show y235.length ≤ c33 from by rw [hy33, hc33]; exact Nat.sub_le_sub_right (Nat.le_trans (by omega) Ak) _); clear Ar Ax Ak hi033 As hc33; have KY33 := Am hy33; have KA33 := Am hA33; clear hy33 hA33; replace q33 := eq_true q33) | ((with_reducible refine zC 65 rfl ?_); refine zL (some 38) Try.func65 #[.slice A33 y235.length c33] ?_; (with_reducible refine (raft_owns.calls k _ _ y235 t239 _ ?Ai ?Aj A25.out).mono ?_); (case Ai => exact pC (Kd.C_below HR238.out HB.out)); (case Aj => exact HC238.out); rintro e w34 ⟨v240, rfl, ho0, hb⟩; refine ⟨_, rfl, ?_⟩; have Aq := Am (Kd.S_lower ho0 (below_size (pE2 HB.out Ac.out Ah.out))); replace Aa := kBa Aa hb; replace Ab := kBa Ab hb; replace HB := zX2 HB Ac.out Ah.out hb; (try clear hb); (try clear ho0); obtain ⟨_, _, _, _, _, _, _⟩ := bc7 Aa.out; obtain ⟨_, _, _, _, _, _, _⟩ := bf7 Aa.out) | ((with_reducible refine zC 65 rfl ?_); refine zL (some 41) Try.func65 #[.slice A0_2 l0_2.length c0_2] ?_; (with_reducible refine (raft_owns.calls k _ _ l0_2 t242 _ ?Ai ?Aj A26.out).mono ?_); (case Ai => exact pC (Kd.C_below Ao.out HB.out)); (case Aj => exact Ap.out); rintro e w36 ⟨v243, rfl, ho0, hb⟩; refine ⟨_, rfl, ?_⟩; have At := Am (Kd.S_lower (Kd.S_new' ho0 (Kd.S_lt (zS Aq.out))) (below_size (pE2 HB.out Ac.out Ah.out))); replace Aq := Am (Kd.S_elder' (zS Aq.out) (Kd.S_base ho0) hb); replace Aa := kBa Aa hb; replace Ab := kBa Ab hb; replace HB := zX2 HB Ac.out Ah.out hb; (try clear hb); (try clear ho0); obtain ⟨Au, Av, Ay⟩ := Kd.S_slice At.out; subst Ay; obtain ⟨_, _, _, _, _, _, _⟩ := bc7 Aa.out; obtain ⟨_, _, _, _, _, _, _⟩ := bf7 Aa.out; obtain ⟨_, _, _, _, _, _, _⟩ := bc7 Ab.out; obtain ⟨_, _, _, _, _, _, _⟩ := bf7 Ab.out))
 refine bodyPost_ret (results_ctt rfl _ _ Ad 26 #[.int .i64 a0_0, .int .i64 a0_1, .slice Au t242.length Av, .int .i64 a0_3, .int .i64 a0_4, .int .i64 a0_5, .int .i64 a1] (0, 0) _ rfl (kX1 Ab.out Ae.out) Try.underlying26 rfl (by kernel_rfl)) rfl ?_
 exact ⟨_, _, by first | rfl | (simp [errW_none, errW_some] <;> rfl) | (simp only [← hji21]; first | rfl | (simp [errW_none, errW_some] <;> rfl)) | (simp [*, errW_none, errW_some] <;> rfl), by (with_reducible repeat (first | apply Kd.S_alloc | apply Kd.S_drewN | apply Kd.S_drew)); have h0_ := Kd.S_types (Kd.S_types At.out Aa.out (by decide)) Ab.out (by decide); have h1_ := Kd.S_far (p := ⟨Af, 2, none⟩) h0_ (fun _ hk => hk.1.2) (.slice Au t242.length Av); have h2_ := Kd.S_far (p := ⟨Af, 6, none⟩) h1_ (fun _ hk => hk.1.2) (.int .i64 a1); exact Kd.S_mono (Sf7 (g := Ad) (h2_) (fun _ hk => hk.2)) (fun _ hk => hk.1.1.2), by (with_reducible repeat (first | apply Kd.S_alloc | apply Kd.S_drewN | apply Kd.S_drew)); have h0_ := Kd.S_types (Kd.S_types Aq.out Aa.out (by decide)) Ab.out (by decide); have h1_ := Kd.S_far (p := ⟨Af, 2, none⟩) h0_ (fun _ hk => hk.1.2) (.slice Au t242.length Av); have h2_ := Kd.S_far (p := ⟨Af, 6, none⟩) h1_ (fun _ hk => hk.1.2) (.int .i64 a1); exact Kd.S_mono (Sf7 (g := Ad) (h2_) (fun _ hk => hk.2)) (fun _ hk => hk.1.1.2), pE2 HB.out Ac.out Ah.out⟩
def wal_do.f (k : Nat) (a0_0 : Int) (a0_1 : Int) (l0_2 : List (S54)) (a0_3 : Int) (a0_4 : Int) (a0_5 : Int) (a0_6 : Int) (a1_0 : Int) (l1_1 : List (S54)) (a1_2 : Int) (a1_3 : Int) (a1_4 : Int) (a1_5 : Int) : Option (Int × Int × (List (S54)) × Int × Int × Int × Int × Int) := if a1_0 = 1 then ((raft_Put.f k a0_0 a0_1 l0_2 a0_3 a0_4 a0_5 a0_6 l1_1).bind fun bt248 => (some (bt248.1, bt248.2.1, bt248.2.2.1, bt248.2.2.2.1, bt248.2.2.2.2.1, bt248.2.2.2.2.2.1, bt248.2.2.2.2.2.2.1, bt248.2.2.2.2.2.2.2))) else (if a1_0 = 2 then ((raft_Vote.f k a0_0 a0_1 l0_2 a0_3 a0_4 a0_5 a0_6 a1_2 a1_3 a1_4).bind fun bt258 => (some (bt258.1, bt258.2.1, bt258.2.2.1, bt258.2.2.2.1, bt258.2.2.2.2.1, bt258.2.2.2.2.2.1, bt258.2.2.2.2.2.2.1, bt258.2.2.2.2.2.2.2))) else ((raft_Apply.f k a0_0 a0_1 l0_2 a0_3 a0_4 a0_5 a0_6 a1_5).bind fun bt268 => (some (bt268.1, bt268.2.1, bt268.2.2.1, bt268.2.2.2.1, bt268.2.2.2.2.1, bt268.2.2.2.2.2.1, bt268.2.2.2.2.2.2.1, bt268.2.2.2.2.2.2.2.2))))
theorem wal_do.mono : ∀ a0 a1 a2 a3 a4 a5 a6 a7 a8 a9 a10 a11 a12 k, LeO (wal_do.f k a0 a1 a2 a3 a4 a5 a6 a7 a8 a9 a10 a11 a12) (wal_do.f (k + 1) a0 a1 a2 a3 a4 a5 a6 a7 a8 a9 a10 a11 a12) := by
 intro a0 a1 a2 a3 a4 a5 a6 a7 a8 a9 a10 a11 a12 k
 unfold wal_do.f
 repeat' (with_reducible first | exact raft_Apply.mono .. | exact raft_Put.mono .. | exact raft_Vote.mono .. | exact LeO.refl .. | exact LeO.none .. | refine LeO.ite ?_ ?_ | refine LeO.bind ?_ (fun _ => ?_))
set_option maxRecDepth 100000 in
theorem wal_do.calls (k : Nat) (a0_0 : Int) (a0_1 : Int) (A0_2 : Option Addr) (c0_2 : Nat) (l0_2 : List (S54)) (a0_3 : Int) (a0_4 : Int) (a0_5 : Int) (a0_6 : Int) (a1_0 : Int) (A1_1 : Option Addr) (c1_1 : Nat) (l1_1 : List (S54)) (a1_2 : Int) (a1_3 : Int) (a1_4 : Int) (a1_5 : Int) (r1 : Int) (r2 : Int) (r3 : List (S54)) (r4 : Int) (r5 : Int) (r6 : Int) (r7 : Int) (r8 : Int) (w : World) (hr0_2 : Kd.C k54 w A0_2 l0_2.length l0_2) (hc0_2 : l0_2.length ≤ c0_2) (hr1_1 : Kd.C k54 w A1_1 l1_1.length l1_1) (hc1_1 : l1_1.length ≤ c1_1) (h : wal_do.f k a0_0 a0_1 l0_2 a0_3 a0_4 a0_5 a0_6 a1_0 l1_1 a1_2 a1_3 a1_4 a1_5 = some (r1, r2, r3, r4, r5, r6, r7, r8)) :
 Calls Try.prog 28 #[.agg #[.int .i64 a0_0, .int .i64 a0_1, .slice A0_2 l0_2.length c0_2, .int .i64 a0_3, .int .i64 a0_4, .int .i64 a0_5, .int .i64 a0_6], .agg #[.int .i64 a1_0, .slice A1_1 l1_1.length c1_1, .int .i64 a1_2, .int .i64 a1_3, .int .i64 a1_4, .int .i64 a1_5]] w fun e w' => ∃ v2_ : Value, e = .returned (.tuple #[.agg #[.int .i64 r1, .int .i64 r2, v2_, .int .i64 r4, .int .i64 r5, .int .i64 r6, .int .i64 r7], .int .i64 r8]) ∧ Kd.N k54 54 w' w.heap.size (fun k_ => (w.heap.size ≤ k_)) v2_ r3 ∧ Below w.heap.size w w' := by
 have hu26 := Try.underlying26
 have hu34 := Try.underlying34
 have hu24 := Try.underlying24
 have Av := Am hr0_2
 have Aw := Am hc0_2
 clear hr0_2 hc0_2
 have A2 := Am hr1_1
 have A3 := Am hc1_1
 clear hr1_1 hc1_1
 have HB := Am (Below.refl w.heap.size w)
 unfold wal_do.f at h
 have H := h
 clear h
 by_cases c3 : a1_0 = 1
 ·rw [if_pos c3] at H
  obtain ⟨c3b0, c3b1⟩ := zc c3
  clear c3
  obtain ⟨⟨t248, t249, t250, t253, t254, t255, t256, t257⟩, A4, H⟩ := zb H
  dsimp only at H
  simp only [Option.some.injEq, Prod.mk.injEq] at H
  obtain ⟨rfl, rfl, rfl, rfl, rfl, rfl, rfl, rfl⟩ := H
  go_enter Try.func28, Try.ntmps28
  go_wp2_with (first | ((with_reducible refine zD 2 rfl ?_); refine zE 2 #[.int .i64 a0_0, .int .i64 a0_1, .slice A0_2 l0_2.length c0_2, .int .i64 a0_3, .int .i64 a0_4, .int .i64 a0_5, .int .i64 a0_6] 26 ?_; intro Ad hg w5 hbox hb; have Aa := Am (hbox); have Aq := zA hg HB; replace HB := zB HB hb; have Ae := Aq; clear hb hbox hg) | ((with_reducible refine zD 3 rfl ?_); refine zE 3 #[.int .i64 a1_0, .slice A1_1 l1_1.length c1_1, .int .i64 a1_2, .int .i64 a1_3, .int .i64 a1_4, .int .i64 a1_5] 34 ?_; intro Ag hg w6 hbox hb; have Ab := Am (hbox); have Ar := zY1 hg HB Ae.out; replace HB := zX1 HB Ae.out hb; have Af := Ar; have Ak := Am (zN hg (kL Aa.out)); have Al := Am (zM hg (kL Aa.out)); replace Aa := kBa Aa hb; clear hb hbox hg) | ((with_reducible refine zD 4 rfl ?_); refine zE 4 #[.int .i64 0, .int .i64 0, .slice none 0 0, .int .i64 0, .int .i64 0, .int .i64 0, .int .i64 0] 26 ?_; intro Ac hg w7 hbox hb; have Ah := Am (hbox); have As := zY2 hg HB Ae.out Af.out; replace HB := zX2 HB Ae.out Af.out hb; have Ai := As; have An := Am (zN hg (kL Aa.out)); have Aj := Am (zM hg (kL Aa.out)); replace Aa := kBa Aa hb; have Ao := Am (zN hg (kL Ab.out)); have Ap := Am (zM hg (kL Ab.out)); replace Ab := kBa Ab hb; clear hb hbox hg; have hnb8 := Al.out; have hnc8 := Ak.out; have hnb9 := Ao.out; have hnc9 := Ap.out; obtain ⟨_, _, _, _, _, _⟩ := bc6 Ab.out; obtain ⟨_, _, _, _, _, _⟩ := bf6 Ab.out; have hnb11 := An.out; have hnc11 := Aj.out; obtain ⟨_, _, _, _, _, _, _⟩ := bc7 Aa.out; obtain ⟨_, _, _, _, _, _, _⟩ := bf7 Aa.out) | ((with_reducible refine zC 48 rfl ?_); refine zL (some 15) Try.func48 #[.agg #[.int .i64 a0_0, .int .i64 a0_1, .slice A0_2 l0_2.length c0_2, .int .i64 a0_3, .int .i64 a0_4, .int .i64 a0_5, .int .i64 a0_6], .slice A1_1 l1_1.length c1_1] ?_; (with_reducible refine (raft_Put.calls k a0_0 a0_1 _ _ l0_2 a0_3 a0_4 a0_5 a0_6 _ _ l1_1 t248 t249 t250 t253 t254 t255 t256 t257 _ ?At ?Au ?A5 ?A6 A4.out).mono ?_); (case At => exact pC (Kd.C_below Av.out HB.out)); (case Au => exact Aw.out); (case A5 => exact pC (Kd.C_below A2.out HB.out)); (case A6 => exact A3.out); rintro e w13 ⟨v251, rfl, ho0, hb⟩; refine ⟨_, rfl, ?_⟩; have Ax := Am (Kd.N_lower (Kd.N_mono (ok' := fun k_ => (w.heap.size ≤ k_) ∧ k_ ≠ Ad ∧ k_ ≠ Ag ∧ k_ ≠ Ac) ho0 (fun k_ hk_ => ⟨(Nat.le_trans (below_size (pE3 HB.out Ae.out Af.out Ai.out)) hk_), (kF Aa.out k_ hk_), (kF Ab.out k_ hk_), (kF Ah.out k_ hk_)⟩)) (below_size (pE3 HB.out Ae.out Af.out Ai.out))); replace Aa := kBa Aa hb; replace Ab := kBa Ab hb; replace Ah := kBa Ah hb; replace HB := zX3 HB Ae.out Af.out Ai.out hb; (try clear hb); (try clear ho0); obtain ⟨_, _, _, _, _, _, _⟩ := bc7 Ah.out; obtain ⟨_, _, _, _, _, _, _⟩ := bf7 Ah.out; obtain ⟨A7, A8, A9⟩ := Kd.N_slice Ax.out; subst A9))
  refine bodyPost_ret (results_ct rfl _ _ Ac 26 #[.int .i64 t248, .int .i64 t249, .slice A7 t250.length A8, .int .i64 t253, .int .i64 t254, .int .i64 t255, .int .i64 t256] (0, 0) _ rfl (kX0 Ah.out) Try.underlying26 rfl (by kernel_rfl)) rfl ?_
  exact ⟨_, pX, by (with_reducible repeat (first | apply Kd.N_alloc | apply Kd.N_drewN | apply Kd.N_drew)); exact Kd.N_mono (Nf7 (g := Ac) (Kd.N_mono Ax.out (fun k_ hk => (⟨hk, hk.2.2.2⟩ : _ ∧ k_ ≠ Ac))) (fun _ hk => hk.2)) (fun _ hk => hk.1.1), pE3 HB.out Ae.out Af.out Ai.out⟩
 rw [if_neg c3] at H
 obtain ⟨c3b0, c3b1⟩ := zk c3
 by_cases c16 : a1_0 = 2
 ·rw [if_pos c16] at H
  obtain ⟨c16b0, c16b1⟩ := zc c16
  clear c16
  obtain ⟨⟨t258, t259, t260, t263, t264, t265, t266, t267⟩, A17, H⟩ := zb H
  dsimp only at H
  simp only [Option.some.injEq, Prod.mk.injEq] at H
  obtain ⟨rfl, rfl, rfl, rfl, rfl, rfl, rfl, rfl⟩ := H
  go_enter Try.func28, Try.ntmps28
  go_wp2_with (first | ((with_reducible refine zD 2 rfl ?_); refine zE 2 #[.int .i64 a0_0, .int .i64 a0_1, .slice A0_2 l0_2.length c0_2, .int .i64 a0_3, .int .i64 a0_4, .int .i64 a0_5, .int .i64 a0_6] 26 ?_; intro Ad hg w18 hbox hb; have Aa := Am (hbox); have Aq := zA hg HB; replace HB := zB HB hb; have Ae := Aq; clear hb hbox hg) | ((with_reducible refine zD 3 rfl ?_); refine zE 3 #[.int .i64 a1_0, .slice A1_1 l1_1.length c1_1, .int .i64 a1_2, .int .i64 a1_3, .int .i64 a1_4, .int .i64 a1_5] 34 ?_; intro Ag hg w19 hbox hb; have Ab := Am (hbox); have Ar := zY1 hg HB Ae.out; replace HB := zX1 HB Ae.out hb; have Af := Ar; have Ak := Am (zN hg (kL Aa.out)); have Al := Am (zM hg (kL Aa.out)); replace Aa := kBa Aa hb; clear hb hbox hg) | ((with_reducible refine zD 4 rfl ?_); refine zE 4 #[.int .i64 0, .int .i64 0, .slice none 0 0, .int .i64 0, .int .i64 0, .int .i64 0, .int .i64 0] 26 ?_; intro Ac hg w20 hbox hb; have Ah := Am (hbox); have As := zY2 hg HB Ae.out Af.out; replace HB := zX2 HB Ae.out Af.out hb; have Ai := As; have An := Am (zN hg (kL Aa.out)); have Aj := Am (zM hg (kL Aa.out)); replace Aa := kBa Aa hb; have Ao := Am (zN hg (kL Ab.out)); have Ap := Am (zM hg (kL Ab.out)); replace Ab := kBa Ab hb; clear hb hbox hg; have hnb21 := Al.out; have hnc21 := Ak.out; have hnb22 := Ao.out; have hnc22 := Ap.out; obtain ⟨_, _, _, _, _, _⟩ := bc6 Ab.out; obtain ⟨_, _, _, _, _, _⟩ := bf6 Ab.out; have hnb24 := An.out; have hnc24 := Aj.out; obtain ⟨_, _, _, _, _, _, _⟩ := bc7 Aa.out; obtain ⟨_, _, _, _, _, _, _⟩ := bf7 Aa.out) | ((with_reducible refine zC 49 rfl ?_); refine zL (some 23) Try.func49 #[.agg #[.int .i64 a0_0, .int .i64 a0_1, .slice A0_2 l0_2.length c0_2, .int .i64 a0_3, .int .i64 a0_4, .int .i64 a0_5, .int .i64 a0_6], .agg #[.int .i64 a1_2, .int .i64 a1_3, .int .i64 a1_4]] ?_; (with_reducible refine (raft_Vote.calls k a0_0 a0_1 _ _ l0_2 a0_3 a0_4 a0_5 a0_6 a1_2 a1_3 a1_4 t258 t259 t260 t263 t264 t265 t266 t267 _ ?At ?Au A17.out).mono ?_); (case At => exact pC (Kd.C_below Av.out HB.out)); (case Au => exact Aw.out); rintro e w26 ⟨v261, rfl, ho0, hb⟩; refine ⟨_, rfl, ?_⟩; have Ay := Am (Kd.N_lower (Kd.N_mono (ok' := fun k_ => (w.heap.size ≤ k_) ∧ k_ ≠ Ad ∧ k_ ≠ Ag ∧ k_ ≠ Ac) (Kd.S_N (Kd.S_bound ho0)) (fun k_ hk_ => ⟨(Nat.le_trans (below_size (pE3 HB.out Ae.out Af.out Ai.out)) hk_.2.1), (kF Aa.out k_ hk_.2.1), (kF Ab.out k_ hk_.2.1), (kF Ah.out k_ hk_.2.1)⟩)) (below_size (pE3 HB.out Ae.out Af.out Ai.out))); replace Aa := kBa Aa hb; replace Ab := kBa Ab hb; replace Ah := kBa Ah hb; replace HB := zX3 HB Ae.out Af.out Ai.out hb; (try clear hb); (try clear ho0); obtain ⟨_, _, _, _, _, _, _⟩ := bc7 Ah.out; obtain ⟨_, _, _, _, _, _, _⟩ := bf7 Ah.out; obtain ⟨Ba, Bb, Bc⟩ := Kd.N_slice Ay.out; subst Bc))
  refine bodyPost_ret (results_ct rfl _ _ Ac 26 #[.int .i64 t258, .int .i64 t259, .slice Ba t260.length Bb, .int .i64 t263, .int .i64 t264, .int .i64 t265, .int .i64 t266] (0, 0) _ rfl (kX0 Ah.out) Try.underlying26 rfl (by kernel_rfl)) rfl ?_
  exact ⟨_, pX, by (with_reducible repeat (first | apply Kd.N_alloc | apply Kd.N_drewN | apply Kd.N_drew)); exact Kd.N_mono (Nf7 (g := Ac) (Kd.N_mono Ay.out (fun k_ hk => (⟨hk, hk.2.2.2⟩ : _ ∧ k_ ≠ Ac))) (fun _ hk => hk.2)) (fun _ hk => hk.1.1), pE3 HB.out Ae.out Af.out Ai.out⟩
 rw [if_neg c16] at H
 obtain ⟨c16b0, c16b1⟩ := zk c16
 obtain ⟨⟨t268, t269, t270, t273, t274, t275, t276, t277, t280⟩, A29, H⟩ := zb H
 dsimp only at H
 simp only [Option.some.injEq, Prod.mk.injEq] at H
 obtain ⟨rfl, rfl, rfl, rfl, rfl, rfl, rfl, rfl⟩ := H
 go_enter Try.func28, Try.ntmps28
 go_wp2_with (first | ((with_reducible refine zD 2 rfl ?_); refine zE 2 #[.int .i64 a0_0, .int .i64 a0_1, .slice A0_2 l0_2.length c0_2, .int .i64 a0_3, .int .i64 a0_4, .int .i64 a0_5, .int .i64 a0_6] 26 ?_; intro Ad hg w30 hbox hb; have Aa := Am (hbox); have Aq := zA hg HB; replace HB := zB HB hb; have Ae := Aq; clear hb hbox hg) | ((with_reducible refine zD 3 rfl ?_); refine zE 3 #[.int .i64 a1_0, .slice A1_1 l1_1.length c1_1, .int .i64 a1_2, .int .i64 a1_3, .int .i64 a1_4, .int .i64 a1_5] 34 ?_; intro Ag hg w31 hbox hb; have Ab := Am (hbox); have Ar := zY1 hg HB Ae.out; replace HB := zX1 HB Ae.out hb; have Af := Ar; have Ak := Am (zN hg (kL Aa.out)); have Al := Am (zM hg (kL Aa.out)); replace Aa := kBa Aa hb; clear hb hbox hg) | ((with_reducible refine zD 4 rfl ?_); refine zE 4 #[.int .i64 0, .int .i64 0, .slice none 0 0, .int .i64 0, .int .i64 0, .int .i64 0, .int .i64 0] 26 ?_; intro Ac hg w32 hbox hb; have Ah := Am (hbox); have As := zY2 hg HB Ae.out Af.out; replace HB := zX2 HB Ae.out Af.out hb; have Ai := As; have An := Am (zN hg (kL Aa.out)); have Aj := Am (zM hg (kL Aa.out)); replace Aa := kBa Aa hb; have Ao := Am (zN hg (kL Ab.out)); have Ap := Am (zM hg (kL Ab.out)); replace Ab := kBa Ab hb; clear hb hbox hg; have hnb33 := Al.out; have hnc33 := Ak.out; have hnb34 := Ao.out; have hnc34 := Ap.out; obtain ⟨_, _, _, _, _, _⟩ := bc6 Ab.out; obtain ⟨_, _, _, _, _, _⟩ := bf6 Ab.out; have hnb36 := An.out; have hnc36 := Aj.out; obtain ⟨_, _, _, _, _, _, _⟩ := bc7 Aa.out; obtain ⟨_, _, _, _, _, _, _⟩ := bf7 Aa.out) | ((with_reducible refine zC 50 rfl ?_); refine zL (some 30) Try.func50 #[.agg #[.int .i64 a0_0, .int .i64 a0_1, .slice A0_2 l0_2.length c0_2, .int .i64 a0_3, .int .i64 a0_4, .int .i64 a0_5, .int .i64 a0_6], .int .i64 a1_5] ?_; (with_reducible refine (raft_Apply.calls k a0_0 a0_1 _ _ l0_2 a0_3 a0_4 a0_5 a0_6 a1_5 t268 t269 t270 t273 t274 t275 t276 t277 t280 _ ?At ?Au A29.out).mono ?_); (case At => exact pC (Kd.C_below Av.out HB.out)); (case Au => exact Aw.out); rintro e w38 ⟨v271, v278, rfl, ho0, ho1, hb⟩; refine ⟨_, rfl, ?_⟩; have Az := Am (Kd.N_lower (Kd.N_mono (ok' := fun k_ => (w.heap.size ≤ k_) ∧ some k_ ≠ (v278 : Value).ownBlock ∧ k_ ≠ Ad ∧ k_ ≠ Ag ∧ k_ ≠ Ac) (Kd.S_N (Kd.S_bound ho0)) (fun k_ hk_ => ⟨(Nat.le_trans (below_size (pE3 HB.out Ae.out Af.out Ai.out)) hk_.2.1), hk_.1, (kF Aa.out k_ hk_.2.1), (kF Ab.out k_ hk_.2.1), (kF Ah.out k_ hk_.2.1)⟩)) (below_size (pE3 HB.out Ae.out Af.out Ai.out))); have HO279 := Am (Kd.N_lower (Kd.N_mono (ok' := fun k_ => (w.heap.size ≤ k_) ∧ some k_ ≠ (v271 : Value).ownBlock ∧ k_ ≠ Ad ∧ k_ ≠ Ag ∧ k_ ≠ Ac) (Kd.S_N (Kd.S_bound ho1)) (fun k_ hk_ => ⟨(Nat.le_trans (below_size (pE3 HB.out Ae.out Af.out Ai.out)) hk_.2.1), hk_.1, (kF Aa.out k_ hk_.2.1), (kF Ab.out k_ hk_.2.1), (kF Ah.out k_ hk_.2.1)⟩)) (below_size (pE3 HB.out Ae.out Af.out Ai.out))); replace Aa := kBa Aa hb; replace Ab := kBa Ab hb; replace Ah := kBa Ah hb; replace HB := zX3 HB Ae.out Af.out Ai.out hb; (try clear hb); (try clear ho0); (try clear ho1); obtain ⟨_, _, _, _, _, _, _⟩ := bc7 Aa.out; obtain ⟨_, _, _, _, _, _, _⟩ := bf7 Aa.out; obtain ⟨A0, A1, Bd⟩ := Kd.N_slice Az.out; subst Bd; obtain ⟨_, _, _, _, _, _, _⟩ := bc7 Ah.out; obtain ⟨_, _, _, _, _, _, _⟩ := bf7 Ah.out))
 refine bodyPost_ret (results_ct rfl _ _ Ac 26 #[.int .i64 t268, .int .i64 t269, .slice A0 t270.length A1, .int .i64 t273, .int .i64 t274, .int .i64 t275, .int .i64 t276] (0, 0) _ rfl (kX1 Ah.out Aj.out) Try.underlying26 rfl (by kernel_rfl)) rfl ?_
 exact ⟨_, pX, by (with_reducible repeat (first | apply Kd.N_alloc | apply Kd.N_drewN | apply Kd.N_drew)); have h0_ := Kd.N_mono (Kd.N_mono Az.out (fun k_ hk => (⟨hk, hk.2.2.1⟩ : _ ∧ k_ ≠ Ad))) (fun k_ hk => (⟨hk, hk.1.2.2.2.2⟩ : _ ∧ k_ ≠ Ac)); have h1_ := Kd.N_far (p := ⟨Ad, 0, none⟩) h0_ (fun _ hk => hk.1.2) (.int .i64 t268); have h2_ := Kd.N_far (p := ⟨Ad, 1, none⟩) h1_ (fun _ hk => hk.1.2) (.int .i64 t269); have h3_ := Kd.N_far (p := ⟨Ad, 2, none⟩) h2_ (fun _ hk => hk.1.2) (.slice A0 t270.length A1); have h4_ := Kd.N_far (p := ⟨Ad, 3, none⟩) h3_ (fun _ hk => hk.1.2) (.int .i64 t273); have h5_ := Kd.N_far (p := ⟨Ad, 4, none⟩) h4_ (fun _ hk => hk.1.2) (.int .i64 t274); have h6_ := Kd.N_far (p := ⟨Ad, 5, none⟩) h5_ (fun _ hk => hk.1.2) (.int .i64 t275); have h7_ := Kd.N_far (p := ⟨Ad, 6, none⟩) h6_ (fun _ hk => hk.1.2) (.int .i64 t276); exact Kd.N_mono (Nf7 (g := Ac) (h7_) (fun _ hk => hk.2)) (fun _ hk => hk.1.1.1), pE3 HB.out Ae.out Af.out Ai.out⟩
end
section
attribute [local go_sem] max2_int min2_int max_two min_two max_three min_three max_four min_four
attribute [local go_sem] wrap64_l1 wrap64_l2 wrap64_l3 wrap64_l4 wrap64_l5
mutual
def wal_Make.j0 : Nat → List (S34) → Bool → Int → Int → List (S54) → Int → Int → Int → Int → Option (Int × Int × (List (S54)) × Int × Int × Int × Int × Int × Int)
 | 0, _, _, _, _, _, _, _, _, _ => none
 | k + 1, x1, x23, x282000, x282001, x282002, x282003, x282004, x282005, x282006 => if x23 = true then (some (0, 0, ([] : List (S54)), 0, 0, 0, 0, 0, 1)) else (wal_Make.l0 k x1 x1 (x1.length : Int) 0 x282000 x282001 x282002 x282003 x282004 x282005 x282006)
def wal_Make.l0 : Nat → List (S34) → List (S34) → Int → Int → Int → Int → List (S54) → Int → Int → Int → Int → Option (Int × Int × (List (S54)) × Int × Int × Int × Int × Int × Int)
 | 0, _, _, _, _, _, _, _, _, _, _, _ => none
 | k + 1, x1, x25, x26, x27, x282000, x282001, x282002, x282003, x282004, x282005, x282006 => if x27 < x26 then (if 0 ≤ x27 then (if x27 < (x25.length : Int) then ((wal_do.f k x282000 x282001 x282002 x282003 x282004 x282005 x282006 ((rd_T34 x25 x27).f0) ((rd_T34 x25 x27).f1) ((rd_T34 x25 x27).f2.f0) ((rd_T34 x25 x27).f2.f1) ((rd_T34 x25 x27).f2.f2) ((rd_T34 x25 x27).f3)).bind fun bt287 => (if bt287.2.2.2.2.2.2.2 = 0 then (wal_Make.l0 k x1 x25 x26 (wrap64 (x27 + 1)) bt287.1 bt287.2.1 bt287.2.2.1 bt287.2.2.2.1 bt287.2.2.2.2.1 bt287.2.2.2.2.2.1 bt287.2.2.2.2.2.2.1) else (some (x282000, x282001, x282002, x282003, x282004, x282005, x282006, x27, 0)))) else (none)) else (none)) else (some (x282000, x282001, x282002, x282003, x282004, x282005, x282006, (x1.length : Int), 0))
end
def wal_Make.f (k : Nat) (a0_0 : Int) (a0_1 : Int) (l0_2 : List (S54)) (a0_3 : Int) (a0_4 : Int) (a0_5 : Int) (a0_6 : Int) (l1 : List (S34)) : Option (Int × Int × (List (S54)) × Int × Int × Int × Int × Int × Int) := (raft_Check.f k a0_0 a0_1 l0_2 a0_3 a0_4 a0_5 a0_6).bind fun t283 => (if t283 = 0 then (if (l0_2.length : Int) > 0 then (wal_Make.j0 k l1 true a0_0 a0_1 l0_2 a0_3 a0_4 a0_5 a0_6) else ((slices_ContainsFunc_api_Rec.f k l1).bind fun t284 => (wal_Make.j0 k l1 t284 a0_0 a0_1 l0_2 a0_3 a0_4 a0_5 a0_6))) else (wal_Make.j0 k l1 true a0_0 a0_1 l0_2 a0_3 a0_4 a0_5 a0_6))
theorem wal_Make.mono_l : ∀ k, (∀ y0 y1 y2 y3 y4 y5 y6 y7 y8, LeO (wal_Make.j0 k y0 y1 y2 y3 y4 y5 y6 y7 y8) (wal_Make.j0 (k + 1) y0 y1 y2 y3 y4 y5 y6 y7 y8)) ∧ (∀ y0 y1 y2 y3 y4 y5 y6 y7 y8 y9 y10, LeO (wal_Make.l0 k y0 y1 y2 y3 y4 y5 y6 y7 y8 y9 y10) (wal_Make.l0 (k + 1) y0 y1 y2 y3 y4 y5 y6 y7 y8 y9 y10))
 | 0 => ⟨fun _ _ _ _ _ _ _ _ _ r h => by simp [wal_Make.j0] at h, fun _ _ _ _ _ _ _ _ _ _ _ r h => by simp [wal_Make.l0] at h⟩
 | k + 1 => by
  obtain ⟨ih0, ih1⟩ := wal_Make.mono_l k
  refine ⟨?_, ?_⟩
  ·intro y0 y1 y2 y3 y4 y5 y6 y7 y8
   unfold wal_Make.j0
   repeat' (with_reducible first | exact ih0 .. | exact ih1 .. | exact raft_Check.mono .. | exact slices_ContainsFunc_api_Rec.mono .. | exact wal_do.mono .. | exact LeO.refl .. | exact LeO.none .. | refine LeO.ite ?_ ?_ | refine LeO.bind ?_ (fun _ => ?_))
  ·intro y0 y1 y2 y3 y4 y5 y6 y7 y8 y9 y10
   unfold wal_Make.l0
   repeat' (with_reducible first | exact ih0 .. | exact ih1 .. | exact raft_Check.mono .. | exact slices_ContainsFunc_api_Rec.mono .. | exact wal_do.mono .. | exact LeO.refl .. | exact LeO.none .. | refine LeO.ite ?_ ?_ | refine LeO.bind ?_ (fun _ => ?_))
theorem wal_Make.mono : ∀ a0 a1 a2 a3 a4 a5 a6 a7 k, LeO (wal_Make.f k a0 a1 a2 a3 a4 a5 a6 a7) (wal_Make.f (k + 1) a0 a1 a2 a3 a4 a5 a6 a7) := by
 intro a0 a1 a2 a3 a4 a5 a6 a7 k
 obtain ⟨ih0, ih1⟩ := wal_Make.mono_l k
 unfold wal_Make.f
 repeat' (with_reducible first | exact ih0 .. | exact ih1 .. | exact raft_Check.mono .. | exact slices_ContainsFunc_api_Rec.mono .. | exact wal_do.mono .. | exact LeO.refl .. | exact LeO.none .. | refine LeO.ite ?_ ?_ | refine LeO.bind ?_ (fun _ => ?_))
set_option maxRecDepth 100000 in
theorem wal_Make.calls (k : Nat) (a0_0 : Int) (a0_1 : Int) (P0_2_ : Nat → Prop) (A0_2 : Option Addr) (c0_2 : Nat) (l0_2 : List (S54)) (a0_3 : Int) (a0_4 : Int) (a0_5 : Int) (a0_6 : Int) (A1 : Option Addr) (c1 : Nat) (l1 : List (S34)) (r1 : Int) (r2 : Int) (r3 : List (S54)) (r4 : Int) (r5 : Int) (r6 : Int) (r7 : Int) (r8 : Int) (r9 : Int) (w : World) (hs0_2 : Kd.V k54 54 w w.heap.size (fun k_ => P0_2_ k_) (.slice A0_2 l0_2.length c0_2) l0_2) (hr1 : Kd.C k34 w A1 l1.length l1) (hc1 : l1.length ≤ c1) (h : wal_Make.f k a0_0 a0_1 l0_2 a0_3 a0_4 a0_5 a0_6 l1 = some (r1, r2, r3, r4, r5, r6, r7, r8, r9)) :
 Calls Try.prog 11 #[.agg #[.int .i64 a0_0, .int .i64 a0_1, .slice A0_2 l0_2.length c0_2, .int .i64 a0_3, .int .i64 a0_4, .int .i64 a0_5, .int .i64 a0_6], .slice A1 l1.length c1] w fun e w' => ∃ v2_ : Value, e = .returned (.tuple #[.agg #[.int .i64 r1, .int .i64 r2, v2_, .int .i64 r4, .int .i64 r5, .int .i64 r6, .int .i64 r7], .int .i64 r8, .int .i64 r9]) ∧ Kd.V k54 54 w' w.heap.size (fun k_ => (P0_2_ k_ ∨ w.heap.size ≤ k_)) v2_ r3 ∧ Below w.heap.size w w' := by
 have hu26 := Try.underlying26
 have hu34 := Try.underlying34
 have HO0_2 := Am (show Kd.V k54 54 w w.heap.size (fun k_ => (P0_2_ k_ ∨ w.heap.size ≤ k_)) (.slice A0_2 l0_2.length c0_2) l0_2 from Kd.V_mono hs0_2 (fun k_ hk => .inl hk))
 have HR1 := Am hr1
 have HC1 := Am hc1
 clear hr1 hc1
 have HB := Am (Below.refl w.heap.size w)
 unfold wal_Make.f at h
 have H := h
 clear h
 have HC3 := Am H
 clear H
 go_enter Try.func11, Try.ntmps11
 go_upto_region 1 with (first | ((with_reducible refine zD 2 rfl ?_); (try (refine gate_guard (by rfl) ?_; dsimp only)); refine zE 2 #[.int .i64 a0_0, .int .i64 a0_1, .slice A0_2 l0_2.length c0_2, .int .i64 a0_3, .int .i64 a0_4, .int .i64 a0_5, .int .i64 a0_6] 26 ?_; intro Ar hg w4 hbox hb; replace HO0_2 := Am (Kd.V_below (Kd.V_elderB (pV HO0_2.out) Ar (Nat.le_of_eq hg.symm)) hb); have Aa := Am (hbox); have Eh := zA hg HB; replace HB := zB HB hb; have Ai := Eh; clear hb hbox hg) | ((with_reducible refine zD 4 rfl ?_); (try (refine gate_guard (by rfl) ?_; dsimp only)); refine zE 4 #[.int .i64 0, .int .i64 0, .slice none 0 0, .int .i64 0, .int .i64 0, .int .i64 0, .int .i64 0] 26 ?_; intro Ah hg w5 hbox hb; replace HO0_2 := Am (Kd.V_below (Kd.V_elderB (pV HO0_2.out) Ah (Nat.le_of_eq hg.symm)) hb); have Ad := Am (hbox); have Ei := zY1 hg HB Ai.out; replace HB := zX1 HB Ai.out hb; have Aq := Ei; have Au := Am (zN hg (kL Aa.out)); have As := Am (zM hg (kL Aa.out)); replace Aa := kBa Aa hb; clear hb hbox hg))
 (try simp only [Act.put, List.setIfInBounds_toArray, List.set_cons_zero, List.set_cons_succ])
 go_cut [23] (fun v23 wc => ∃ (kq : Nat) (Bn : Bool), v23 = .bool Bn ∧ Aside0 (wal_Make.j0 kq l1 Bn a0_0 a0_1 l0_2 a0_3 a0_4 a0_5 a0_6 = some (r1, r2, r3, r4, r5, r6, r7, r8, r9)) ∧ Aside0 (kq ≤ k) ∧ Aside0 (Kd.V k54 54 wc w.heap.size (fun k_ => (P0_2_ k_ ∨ w.heap.size ≤ k_) ∧ k_ ≠ Ar ∧ k_ ≠ Ah) (.slice A0_2 l0_2.length c0_2) l0_2) ∧ Aside0 (wc.heap[Ar]? = some (.cells #[.int .i64 a0_0, .int .i64 a0_1, (.slice A0_2 l0_2.length c0_2), .int .i64 a0_3, .int .i64 a0_4, .int .i64 a0_5, .int .i64 a0_6] 26 (0, 0))) ∧ Aside0 (wc.heap[Ah]? = some (.cells #[.int .i64 0, .int .i64 0, (.slice none 0 0), .int .i64 0, .int .i64 0, .int .i64 0, .int .i64 0] 26 (0, 0))) ∧ Aside0 (Below w.heap.size w wc))
 case first =>
  have H := HC3.out
  clear HC3
  obtain ⟨t283, A6, H⟩ := zb H
  by_cases c7 : t283 = 0
  rotate_left
  ·rw [if_neg c7] at H
   obtain ⟨c7b0, c7b1⟩ := zk c7
   (first | rw [c7b0] | (simp only [i64_w, i32_w]; rw [c7b0]) | skip)
   have H' := Am H
   clear H
   have hnb19 := Au.out
   have hnc19 := As.out
   obtain ⟨C8, C9, Da, Db, Dc, Dd, De⟩ := bc7 Aa.out
   obtain ⟨Df, Dg, Dh, Di, Dj, Dk, Dl⟩ := bf7 Aa.out
   go_wp2_with (first | ((with_reducible refine zC 24 rfl ?_); refine zL (some 12) Try.func24 #[.agg #[.int .i64 a0_0, .int .i64 a0_1, .slice A0_2 l0_2.length c0_2, .int .i64 a0_3, .int .i64 a0_4, .int .i64 a0_5, .int .i64 a0_6]] ?_; (with_reducible refine (raft_Check.calls k a0_0 a0_1 _ _ l0_2 a0_3 a0_4 a0_5 a0_6 t283 _ ?A7 ?A8 A6.out).mono ?_); (case A7 => exact pC (Kd.V_reads' HO0_2.out).2.2); (case A8 => exact (Kd.V_reads' HO0_2.out).2.1); rintro e w21 ⟨rfl, hb⟩; refine ⟨_, rfl, ?_⟩; replace HO0_2 := bVa HO0_2 hb; replace Aa := kBa Aa hb; replace Ad := kBa Ad hb; replace HB := zX2 HB Ai.out Aq.out hb; (try clear hb)))
   go_meet
   case rel => exact ⟨_, (true), zr, H', ⟨zo⟩, ⟨by (with_reducible repeat (first | apply Kd.V_alloc | apply Kd.V_drewN | apply Kd.V_drew)); exact Kd.V_mono HO0_2.out (fun _ hk => ⟨hk.1.1, ⟨hk.1.2, hk.2⟩⟩)⟩, ⟨pK Aa.out⟩, ⟨pK Ad.out⟩, ⟨pE2 HB.out Ai.out Aq.out⟩⟩
  rw [if_pos c7] at H
  obtain ⟨c7b0, c7b1⟩ := zc c7
  clear c7
  (first | rw [c7b0] | (simp only [i64_w, i32_w]; rw [c7b0]) | skip)
  by_cases c8 : (l0_2.length : Int) > 0
  ·rw [if_pos c8] at H
   have c8b0 : decide (0 < (l0_2.length : Int)) = true := decide_eq_true c8
   have c8b1 : decide (0 < l0_2.length) = true := decide_eq_true (by omega)
   clear c8
   have H' := Am H
   clear H
   have hnb9 := Au.out
   have hnc9 := As.out
   obtain ⟨Bo, Bp, Bq, Br, Bs, Bt, Bu⟩ := bc7 Aa.out
   obtain ⟨Bv, Bw, Bx, By, Bz, B0, B1⟩ := bf7 Aa.out
   go_wp2_with (first | ((with_reducible refine zC 24 rfl ?_); refine zL (some 12) Try.func24 #[.agg #[.int .i64 a0_0, .int .i64 a0_1, .slice A0_2 l0_2.length c0_2, .int .i64 a0_3, .int .i64 a0_4, .int .i64 a0_5, .int .i64 a0_6]] ?_; (with_reducible refine (raft_Check.calls k a0_0 a0_1 _ _ l0_2 a0_3 a0_4 a0_5 a0_6 t283 _ ?A7 ?A8 A6.out).mono ?_); (case A7 => exact pC (Kd.V_reads' HO0_2.out).2.2); (case A8 => exact (Kd.V_reads' HO0_2.out).2.1); rintro e w11 ⟨rfl, hb⟩; refine ⟨_, rfl, ?_⟩; replace HO0_2 := bVa HO0_2 hb; replace Aa := kBa Aa hb; replace Ad := kBa Ad hb; replace HB := zX2 HB Ai.out Aq.out hb; (try clear hb); obtain ⟨B2, B3, B4, B5, B6, B7, B8⟩ := bc7 Aa.out; obtain ⟨B9, Ca, Cb, Cc, Cd, Ce, Cf⟩ := bf7 Aa.out))
   go_meet
   case rel => exact ⟨_, (true), zr, H', ⟨zo⟩, ⟨by (with_reducible repeat (first | apply Kd.V_alloc | apply Kd.V_drewN | apply Kd.V_drew)); exact Kd.V_mono HO0_2.out (fun _ hk => ⟨hk.1.1, ⟨hk.1.2, hk.2⟩⟩)⟩, ⟨pK Aa.out⟩, ⟨pK Ad.out⟩, ⟨pE2 HB.out Ai.out Aq.out⟩⟩
  rw [if_neg c8] at H
  have c8b0 : decide (0 < (l0_2.length : Int)) = false := decide_eq_false c8
  have c8b1 : decide (0 < l0_2.length) = false := decide_eq_false (by omega)
  clear c8
  obtain ⟨t284, A13, H⟩ := zb H
  have H' := Am H
  clear H
  have hnb14 := Au.out
  have hnc14 := As.out
  obtain ⟨Cg, Ch, Ci, Cj, Ck, Cl, Cm⟩ := bc7 Aa.out
  obtain ⟨Cn, Co, Cp, Cq, Cr, Cs, Ct⟩ := bf7 Aa.out
  go_wp2_with (first | ((with_reducible refine zC 24 rfl ?_); refine zL (some 12) Try.func24 #[.agg #[.int .i64 a0_0, .int .i64 a0_1, .slice A0_2 l0_2.length c0_2, .int .i64 a0_3, .int .i64 a0_4, .int .i64 a0_5, .int .i64 a0_6]] ?_; (with_reducible refine (raft_Check.calls k a0_0 a0_1 _ _ l0_2 a0_3 a0_4 a0_5 a0_6 t283 _ ?A7 ?A8 A6.out).mono ?_); (case A7 => exact pC (Kd.V_reads' HO0_2.out).2.2); (case A8 => exact (Kd.V_reads' HO0_2.out).2.1); rintro e w16 ⟨rfl, hb⟩; refine ⟨_, rfl, ?_⟩; replace HO0_2 := bVa HO0_2 hb; replace Aa := kBa Aa hb; replace Ad := kBa Ad hb; replace HB := zX2 HB Ai.out Aq.out hb; (try clear hb); obtain ⟨Cu, Cv, Cw, Cx, Cy, Cz, C0⟩ := bc7 Aa.out; obtain ⟨C1, C2, C3, C4, C5, C6, C7⟩ := bf7 Aa.out) | (go_at_call 25; (with_reducible refine (slices_ContainsFunc_api_Rec.calls k _ _ l1 t284 _ ?A7 ?A8 A13.out).mono ?_); (case A7 => exact pC (Kd.C_below HR1.out HB.out)); (case A8 => exact HC1.out); rintro e w18 ⟨rfl, hb⟩; replace HO0_2 := bVa HO0_2 hb; replace Aa := kBa Aa hb; replace Ad := kBa Ad hb; replace HB := zX2 HB Ai.out Aq.out hb; (try clear hb)))
  go_meet
  case rel => exact ⟨_, (t284), zr, H', ⟨zo⟩, ⟨by (with_reducible repeat (first | apply Kd.V_alloc | apply Kd.V_drewN | apply Kd.V_drew)); exact Kd.V_mono HO0_2.out (fun _ hk => ⟨hk.1.1, ⟨hk.1.2, hk.2⟩⟩)⟩, ⟨pK Aa.out⟩, ⟨pK Ad.out⟩, ⟨pE2 HB.out Ai.out Aq.out⟩⟩
 case rest =>
  clear HC3
  try clear c1
  try clear c2
  try clear p2
  try clear c7
  try clear c7b0
  try clear c7b1
  try clear c8
  try clear c8b0
  try clear c8b1
  try clear c9
  try clear c11
  try clear c14
  try clear c19
  try clear Bo Bp Bq Br Bs Bt Bu
  try clear B2 B3 B4 B5 B6 B7 B8
  try clear Cg Ch Ci Cj Ck Cl Cm
  try clear Cu Cv Cw Cx Cy Cz C0
  try clear C8 C9 Da Db Dc Dd De
  try clear Bv Bw Bx By Bz B0 B1
  try clear B9 Ca Cb Cc Cd Ce Cf
  try clear Cn Co Cp Cq Cr Cs Ct
  try clear C1 C2 C3 C4 C5 C6 C7
  try clear Df Dg Dh Di Dj Dk Dl
  obtain ⟨kq, Bn, rfl, HA, HJ2, Ac, Aa, Ad, HB⟩ := hcut
  cases kq with
  | zero => exact absurd HA.out (by simp [wal_Make.j0])
  | succ kj2 =>
   have H := HA.out
   clear HA
   simp only [wal_Make.j0] at H
   by_cases c22 : Bn = true
   ·subst c22
    rw [if_pos rfl] at H
    simp only [Option.some.injEq, Prod.mk.injEq] at H
    obtain ⟨rfl, rfl, rfl, rfl, rfl, rfl, rfl, rfl, rfl⟩ := H
    have hnb23 := As.out
    have hnc23 := Au.out
    obtain ⟨Ds, Dt, Du, Dv, Dw, Dx, Dy⟩ := bc7 Ad.out
    obtain ⟨Dz, D0, D1, D2, D3, D4, D5⟩ := bf7 Ad.out
    go_wp2
    refine bodyPost_ret (results_ctt rfl _ _ Ah 26 #[.int .i64 0, .int .i64 0, .slice none 0 0, .int .i64 0, .int .i64 0, .int .i64 0, .int .i64 0] (0, 0) _ rfl (kX0 Ad.out) Try.underlying26 rfl (by kernel_rfl)) rfl ?_
    exact ⟨_, pX, Kd.N_V (Kd.N_nil _ _ _ 0 _), pE2 HB.out Ai.out Aq.out⟩
   replace c22 := Bool.eq_false_iff.mpr c22
   subst c22
   rw [if_neg zF] at H
   have H' := Am H
   clear H
   go_wp2
   go_loopg [27] kj2 (fun kq v27 w' => ∃ (Ab : Int) (Aj : Int) (Ak : Int) (Af : List (S54)) (Al : Int) (An : Int) (Ao : Int) (Ap : Int) (Ay : Int) (Az : Int) (A0 : Int) (A2 : Int) (A3 : Int) (A4 : Int) (u282002 : Value), v27 = .int .i64 Ab ∧ Aside0 (wal_Make.l0 kq l1 l1 (l1.length : Int) Ab Aj Ak Af Al An Ao Ap = some (r1, r2, r3, r4, r5, r6, r7, r8, r9)) ∧ Aside0 (kq ≤ kj2) ∧ Aside0 (Kd.V k54 54 w' w.heap.size (fun k_ => (P0_2_ k_ ∨ w.heap.size ≤ k_) ∧ k_ ≠ Ar ∧ k_ ≠ Ah) u282002 Af) ∧ Aside0 (w'.heap[Ar]? = some (.cells #[.int .i64 Aj, .int .i64 Ak, u282002, .int .i64 Al, .int .i64 An, .int .i64 Ao, .int .i64 Ap] 26 (0, 0))) ∧ Aside0 (w'.heap[Ah]? = some (.cells #[.int .i64 Ay, .int .i64 Az, (.slice none 0 0), .int .i64 A0, .int .i64 A2, .int .i64 A3, .int .i64 A4] 26 (0, 0))) ∧ Aside0 (Below w.heap.size w w'))
   case atStart => exact ⟨(0), (a0_0), (a0_1), (l0_2), (a0_3), (a0_4), (a0_5), (a0_6), (0), (0), (0), (0), (0), (0), (.slice A0_2 l0_2.length c0_2), zr, H', ⟨Nat.le_refl _⟩, ⟨by (with_reducible repeat (first | apply Kd.V_alloc | apply Kd.V_drewN | apply Kd.V_drew)); exact Ac.out⟩, ⟨pK Aa.out⟩, ⟨pK Ad.out⟩, ⟨pE2 HB.out Ai.out Aq.out⟩⟩
   case round =>
    clear H'
    try clear c1
    try clear c2
    try clear p2
    try clear c7
    try clear c7b0
    try clear c7b1
    try clear c8
    try clear c8b0
    try clear c8b1
    try clear c9
    try clear c11
    try clear c14
    try clear c19
    try clear c22
    try clear c23
    try clear c24
    try clear Bo Bp Bq Br Bs Bt Bu
    try clear B2 B3 B4 B5 B6 B7 B8
    try clear Cg Ch Ci Cj Ck Cl Cm
    try clear Cu Cv Cw Cx Cy Cz C0
    try clear C8 C9 Da Db Dc Dd De
    try clear Ds Dt Du Dv Dw Dx Dy
    try clear Bv Bw Bx By Bz B0 B1
    try clear B9 Ca Cb Cc Cd Ce Cf
    try clear Cn Co Cp Cq Cr Cs Ct
    try clear C1 C2 C3 C4 C5 C6 C7
    try clear Df Dg Dh Di Dj Dk Dl
    try clear Dz D0 D1 D2 D3 D4 D5
    try clear p2
    obtain ⟨Ab, Aj, Ak, Af, Al, An, Ao, Ap, Ay, Az, A0, A2, A3, A4, u282002, rfl, HA, HK2, Ac, Aa, Ad, HB⟩ := hrel
    cases gk with
    | zero => exact absurd HA.out (by simp [wal_Make.l0])
    | succ k2 =>
     have H := HA.out
     clear HA
     simp only [wal_Make.l0] at H
     by_cases c25 : Ab < (l1.length : Int)
     rotate_left
     ·rw [if_neg c25] at H
      have c25b0 := decide_eq_false c25
      clear c25
      simp only [Option.some.injEq, Prod.mk.injEq] at H
      obtain ⟨rfl, rfl, rfl, rfl, rfl, rfl, rfl, rfl, rfl⟩ := H
      have hnb61 := Au.out
      have hnc61 := As.out
      obtain ⟨_, _, _, _, _, _, _⟩ := bc7 Aa.out
      obtain ⟨_, _, _, _, _, _, _⟩ := bf7 Aa.out
      obtain ⟨_, _, _, _, _, _, _⟩ := bc7 Ad.out
      obtain ⟨_, _, _, _, _, _, _⟩ := bf7 Ad.out
      obtain ⟨Er, Es, Et⟩ := Kd.V_slice Ac.out
      subst Et
      go_wp2
      refine bodyPost_ret (results_ctt rfl _ _ Ah 26 #[.int .i64 Aj, .int .i64 Ak, .slice Er Af.length Es, .int .i64 Al, .int .i64 An, .int .i64 Ao, .int .i64 Ap] (0, 0) _ rfl (kX0 Ad.out) Try.underlying26 rfl (by kernel_rfl)) rfl ?_
      exact ⟨_, pX, by (with_reducible repeat (first | apply Kd.V_alloc | apply Kd.V_drewN | apply Kd.V_drew)); exact Kd.V_mono (Vf7 (g := Ah) (Kd.V_mono Ac.out (fun k_ hk => (⟨hk, hk.2.2⟩ : _ ∧ k_ ≠ Ah))) (fun _ hk => hk.2)) (fun _ hk => hk.1.1), pE2 HB.out Ai.out Aq.out⟩
     rw [if_pos c25] at H
     have c25b0 := decide_eq_true c25
     clear c25
     obtain ⟨c26, H⟩ := zI H
     have c26b0 := decide_eq_true c26
     clear c26
     obtain ⟨c27, H⟩ := zI H
     have c27b0 := decide_eq_true c27
     clear c27
     obtain ⟨⟨t287, t288, t289, t292, t293, t294, t295, t296⟩, A28, H⟩ := zb H
     dsimp only at H
     by_cases c29 : t296 = 0
     rotate_left
     ·rw [if_neg c29] at H
      obtain ⟨c29b0, c29b1⟩ := zk c29
      simp only [Option.some.injEq, Prod.mk.injEq] at H
      obtain ⟨rfl, rfl, rfl, rfl, rfl, rfl, rfl, rfl, rfl⟩ := H
      have p285 : 0 ≤ (Ab : Int) := of_decide_eq_true pS
      have q285 : Ab < (l1.length : Int) := of_decide_eq_true pS
      obtain ⟨Ej, Bj, c285_1, e285, D6, D7, D8, D9, Ea, Eb, Ba, Bb⟩ := at_T34u HR1.out Ab p285 q285 HB.out
      cases e285
      have Bk := Am Bb
      have Bl := Am Ba
      clear Bb Ba
      replace p285 := eq_true p285
      replace q285 := eq_true q285
      go_wp2_with (first | ((with_reducible refine zD 8 rfl ?_); (try (refine gate_guard (by rfl) ?_; dsimp only)); refine zE 8 #[.int .i64 0, .slice none 0 0, .int .i64 0, .int .i64 0, .int .i64 0, .int .i64 0] 34 ?_; intro Ag hg w45 hbox hb; replace Ac := Am (Kd.V_below (Kd.V_elderB (pV Ac.out) Ag (Nat.le_of_eq hg.symm)) hb); have At := Am (hbox); have Dm := zY2 hg HB Ai.out Aq.out; replace HB := zX2 HB Ai.out Aq.out hb; have Ax := Dm; have Av := Am (zN hg (kL Aa.out)); have Bc := Am (zM hg (kL Aa.out)); replace Aa := kBa Aa hb; have Aw := Am (zN hg (kL Ad.out)); have Bd := Am (zM hg (kL Ad.out)); replace Ad := kBa Ad hb; clear hb hbox hg; have hnb46 := Bc.out; have hnc46 := Av.out; have hnb47 := Bd.out; have hnc47 := Aw.out; obtain ⟨_, _, _, _, _, _⟩ := bc6 At.out; obtain ⟨_, _, _, _, _, _⟩ := bf6 At.out; have hnb49 := Au.out; have hnc49 := As.out; obtain ⟨_, _, _, _, _, _, _⟩ := bc7 Aa.out; obtain ⟨_, _, _, _, _, _, _⟩ := bf7 Aa.out; obtain ⟨Ed, Dr, Em⟩ := Kd.V_slice Ac.out; subst Em) | ((with_reducible refine zC 28 rfl ?_); refine zL (some 35) Try.func28 #[.agg #[.int .i64 Aj, .int .i64 Ak, .slice Ed Af.length Dr, .int .i64 Al, .int .i64 An, .int .i64 Ao, .int .i64 Ap], .agg #[.int .i64 ((rd_T34 l1 Ab).f0), .slice Bj ((rd_T34 l1 Ab).f1).length c285_1, .int .i64 ((rd_T34 l1 Ab).f2.f0), .int .i64 ((rd_T34 l1 Ab).f2.f1), .int .i64 ((rd_T34 l1 Ab).f2.f2), .int .i64 ((rd_T34 l1 Ab).f3)]] ?_; (with_reducible refine (wal_do.calls k2 Aj Ak _ _ Af Al An Ao Ap ((rd_T34 l1 Ab).f0) _ _ ((rd_T34 l1 Ab).f1) ((rd_T34 l1 Ab).f2.f0) ((rd_T34 l1 Ab).f2.f1) ((rd_T34 l1 Ab).f2.f2) ((rd_T34 l1 Ab).f3) t287 t288 t289 t292 t293 t294 t295 t296 _ ?A7 ?A8 ?Dn ?Do A28.out).mono ?_); (case A7 => refine (Kd.V_reads' (e := 54) (base := w.heap.size) (ok := fun k_ => (((P0_2_ k_ ∨ w.heap.size ≤ k_) ∧ (k_ ≠ Ar ∧ k_ ≠ Ah)) ∧ k_ ≠ Ag)) (n := Af.length) (c := Dr) ?_).2.2; exact (by (with_reducible repeat (first | apply Kd.V_alloc | apply Kd.V_drewN | apply Kd.V_drew)); exact (Kd.V_mono (Vf6 (g := Ag) (Kd.V_mono Ac.out (fun k_ hk => (⟨hk, hk.2⟩ : _ ∧ k_ ≠ Ag))) (fun _ hk => hk.2)) (fun _ h_ => h_.1)))); (case A8 => exact (Kd.V_reads' Ac.out).2.1); (case Dn => exact Kd.C_below Bk.out (pE3 HB.out Ai.out Aq.out Ax.out)); (case Do => exact Bl.out); rintro e w52 ⟨v290, rfl, ho0, hb⟩; refine ⟨_, rfl, ?_⟩; replace Ac := Am (Kd.V_elder' (by (with_reducible repeat (first | apply Kd.V_alloc | apply Kd.V_drewN | apply Kd.V_drew)); exact (Kd.V_mono (Vf6 (g := Ag) (Kd.V_mono Ac.out (fun k_ hk => (⟨hk, hk.2⟩ : _ ∧ k_ ≠ Ag))) (fun _ hk => hk.2)) (fun _ h_ => h_.1))) (Kd.N_base ho0) hb); have Bi := Am (Kd.N_lower (Kd.N_mono (ok' := fun k_ => (P0_2_ k_ ∨ w.heap.size ≤ k_) ∧ k_ ≠ Ar ∧ k_ ≠ Ah ∧ k_ ≠ Ag) ho0 (fun k_ hk_ => ⟨(.inr (Nat.le_trans (below_size (pE3 HB.out Ai.out Aq.out Ax.out)) hk_)), (Kd.freshB (g := Ar) (o := .cells #[.int .i64 Aj, .int .i64 Ak, .slice Ed Af.length Dr, .int .i64 Al, .int .i64 An, .int .i64 Ao, .int .i64 Ap] 26 (0, 0)) (kX1 Aa.out Av.out) k_ hk_), (Kd.freshB (g := Ah) (o := .cells #[.int .i64 Ay, .int .i64 Az, .slice none 0 0, .int .i64 A0, .int .i64 A2, .int .i64 A3, .int .i64 A4] 26 (0, 0)) (kX1 Ad.out Aw.out) k_ hk_), (Kd.freshB (g := Ag) (o := .cells #[.int .i64 ((rd_T34 l1 Ab).f0), .slice Bj ((rd_T34 l1 Ab).f1).length c285_1, .int .i64 ((rd_T34 l1 Ab).f2.f0), .int .i64 ((rd_T34 l1 Ab).f2.f1), .int .i64 ((rd_T34 l1 Ab).f2.f2), .int .i64 ((rd_T34 l1 Ab).f3)] 34 (0, 0)) (kX0 At.out) k_ hk_)⟩)) (below_size (pE3 HB.out Ai.out Aq.out Ax.out))); replace Aa := Am (blk_below (g := Ar) (kX1 Aa.out Av.out) hb); replace Ad := Am (blk_below (g := Ah) (kX1 Ad.out Aw.out) hb); replace At := Am (blk_below (g := Ag) (kX0 At.out) hb); replace HB := zX3 HB Ai.out Aq.out Ax.out hb; (try clear hb); (try clear hk); (try clear ho0)) | ((with_reducible refine zD 9 rfl ?_); (try (refine gate_guard (by rfl) ?_; dsimp only)); refine zE 9 #[.int .i64 0, .int .i64 0, .slice none 0 0, .int .i64 0, .int .i64 0, .int .i64 0, .int .i64 0] 26 ?_; intro Ae hg w53 hbox hb; replace Ac := Am (Kd.V_below (Kd.V_elderB (pV Ac.out) Ae (Nat.le_of_eq hg.symm)) hb); replace Bi := Am (Kd.N_below (Kd.N_elderB (pN Bi.out) Ae (Nat.le_of_eq hg.symm)) hb); have Bm := Am (hbox); have Dp := zY3 hg HB Ai.out Aq.out Ax.out; replace HB := zX3 HB Ai.out Aq.out Ax.out hb; have Dq := Dp; have A9 := Am (zN hg (kL Aa.out)); have Be := Am (zM hg (kL Aa.out)); replace Aa := kBa Aa hb; have A5 := Am (zN hg (kL Ad.out)); have Bf := Am (zM hg (kL Ad.out)); replace Ad := kBa Ad hb; have Bg := Am (zN hg (kL At.out)); have Bh := Am (zM hg (kL At.out)); replace At := kBa At hb; clear hb hbox hg; have hnb54 := Be.out; have hnc54 := A9.out; have hnb55 := Bf.out; have hnc55 := A5.out; have hnb56 := Bh.out; have hnc56 := Bg.out; obtain ⟨_, _, _, _, _, _, _⟩ := bc7 Bm.out; obtain ⟨_, _, _, _, _, _, _⟩ := bf7 Bm.out; obtain ⟨En, Eo, Ep⟩ := Kd.N_slice Bi.out; subst Ep; obtain ⟨_, _, _, _, _, _, _⟩ := bc7 Aa.out; obtain ⟨_, _, _, _, _, _, _⟩ := bf7 Aa.out; obtain ⟨_, _, _, _, _, _, _⟩ := bc7 Ad.out; obtain ⟨_, _, _, _, _, _, _⟩ := bf7 Ad.out))
      refine bodyPost_ret (results_ctt rfl _ _ Ah 26 #[.int .i64 Aj, .int .i64 Ak, .slice Ed Af.length Dr, .int .i64 Al, .int .i64 An, .int .i64 Ao, .int .i64 Ap] (0, 0) _ rfl (kX1 Ad.out A5.out) Try.underlying26 rfl (by kernel_rfl)) rfl ?_
      exact ⟨_, pX, by (with_reducible repeat (first | apply Kd.V_alloc | apply Kd.V_drewN | apply Kd.V_drew)); have h0_ := Kd.V_mono (Kd.V_mono Ac.out (fun k_ hk => (⟨hk, hk.2⟩ : _ ∧ k_ ≠ Ae))) (fun k_ hk => (⟨hk, hk.1.1.1.1.2.2⟩ : _ ∧ k_ ≠ Ah)); have h1_ := Kd.V_far (p := ⟨Ae, 0, none⟩) h0_ (fun _ hk => hk.1.2) (.int .i64 t287); have h2_ := Kd.V_far (p := ⟨Ae, 1, none⟩) h1_ (fun _ hk => hk.1.2) (.int .i64 t288); have h3_ := Kd.V_far (p := ⟨Ae, 2, none⟩) h2_ (fun _ hk => hk.1.2) (.slice En t289.length Eo); have h4_ := Kd.V_far (p := ⟨Ae, 3, none⟩) h3_ (fun _ hk => hk.1.2) (.int .i64 t292); have h5_ := Kd.V_far (p := ⟨Ae, 4, none⟩) h4_ (fun _ hk => hk.1.2) (.int .i64 t293); have h6_ := Kd.V_far (p := ⟨Ae, 5, none⟩) h5_ (fun _ hk => hk.1.2) (.int .i64 t294); have h7_ := Kd.V_far (p := ⟨Ae, 6, none⟩) h6_ (fun _ hk => hk.1.2) (.int .i64 t295); exact Kd.V_mono (Vf7 (g := Ah) (h7_) (fun _ hk => hk.2)) (fun _ hk => hk.1.1.1.1.1.1), pE4 HB.out Ai.out Aq.out Ax.out Dq.out⟩
     rw [if_pos c29] at H
     obtain ⟨c29b0, c29b1⟩ := zc c29
     clear c29
     have H' := Am H
     clear H
     have p285 : 0 ≤ (Ab : Int) := of_decide_eq_true pS
     have q285 : Ab < (l1.length : Int) := of_decide_eq_true pS
     obtain ⟨Ej, Bj, c285_1, e285, D6, D7, D8, D9, Ea, Eb, Ba, Bb⟩ := at_T34u HR1.out Ab p285 q285 HB.out
     cases e285
     have Bk := Am Bb
     have Bl := Am Ba
     clear Bb Ba
     replace p285 := eq_true p285
     replace q285 := eq_true q285
     go_wp2_with (first | ((with_reducible refine zD 8 rfl ?_); (try (refine gate_guard (by rfl) ?_; dsimp only)); refine zE 8 #[.int .i64 0, .slice none 0 0, .int .i64 0, .int .i64 0, .int .i64 0, .int .i64 0] 34 ?_; intro Ag hg w30 hbox hb; replace Ac := Am (Kd.V_below (Kd.V_elderB (pV Ac.out) Ag (Nat.le_of_eq hg.symm)) hb); have At := Am (hbox); have Dm := zY2 hg HB Ai.out Aq.out; replace HB := zX2 HB Ai.out Aq.out hb; have Ax := Dm; have Av := Am (zN hg (kL Aa.out)); have Bc := Am (zM hg (kL Aa.out)); replace Aa := kBa Aa hb; have Aw := Am (zN hg (kL Ad.out)); have Bd := Am (zM hg (kL Ad.out)); replace Ad := kBa Ad hb; clear hb hbox hg; have hnb31 := Bc.out; have hnc31 := Av.out; have hnb32 := Bd.out; have hnc32 := Aw.out; obtain ⟨_, _, _, _, _, _⟩ := bc6 At.out; obtain ⟨_, _, _, _, _, _⟩ := bf6 At.out; have hnb34 := Au.out; have hnc34 := As.out; obtain ⟨_, _, _, _, _, _, _⟩ := bc7 Aa.out; obtain ⟨_, _, _, _, _, _, _⟩ := bf7 Aa.out; obtain ⟨Ee, Ec, Ek⟩ := Kd.V_slice Ac.out; subst Ek) | ((with_reducible refine zC 28 rfl ?_); refine zL (some 35) Try.func28 #[.agg #[.int .i64 Aj, .int .i64 Ak, .slice Ee Af.length Ec, .int .i64 Al, .int .i64 An, .int .i64 Ao, .int .i64 Ap], .agg #[.int .i64 ((rd_T34 l1 Ab).f0), .slice Bj ((rd_T34 l1 Ab).f1).length c285_1, .int .i64 ((rd_T34 l1 Ab).f2.f0), .int .i64 ((rd_T34 l1 Ab).f2.f1), .int .i64 ((rd_T34 l1 Ab).f2.f2), .int .i64 ((rd_T34 l1 Ab).f3)]] ?_; (with_reducible refine (wal_do.calls k2 Aj Ak _ _ Af Al An Ao Ap ((rd_T34 l1 Ab).f0) _ _ ((rd_T34 l1 Ab).f1) ((rd_T34 l1 Ab).f2.f0) ((rd_T34 l1 Ab).f2.f1) ((rd_T34 l1 Ab).f2.f2) ((rd_T34 l1 Ab).f3) t287 t288 t289 t292 t293 t294 t295 t296 _ ?A7 ?A8 ?Dn ?Do A28.out).mono ?_); (case A7 => refine (Kd.V_reads' (e := 54) (base := w.heap.size) (ok := fun k_ => (((P0_2_ k_ ∨ w.heap.size ≤ k_) ∧ (k_ ≠ Ar ∧ k_ ≠ Ah)) ∧ k_ ≠ Ag)) (n := Af.length) (c := Ec) ?_).2.2; exact (by (with_reducible repeat (first | apply Kd.V_alloc | apply Kd.V_drewN | apply Kd.V_drew)); exact (Kd.V_mono (Vf6 (g := Ag) (Kd.V_mono Ac.out (fun k_ hk => (⟨hk, hk.2⟩ : _ ∧ k_ ≠ Ag))) (fun _ hk => hk.2)) (fun _ h_ => h_.1)))); (case A8 => exact (Kd.V_reads' Ac.out).2.1); (case Dn => exact Kd.C_below Bk.out (pE3 HB.out Ai.out Aq.out Ax.out)); (case Do => exact Bl.out); rintro e w37 ⟨v290, rfl, ho0, hb⟩; refine ⟨_, rfl, ?_⟩; replace Ac := Am (Kd.V_elder' (by (with_reducible repeat (first | apply Kd.V_alloc | apply Kd.V_drewN | apply Kd.V_drew)); exact (Kd.V_mono (Vf6 (g := Ag) (Kd.V_mono Ac.out (fun k_ hk => (⟨hk, hk.2⟩ : _ ∧ k_ ≠ Ag))) (fun _ hk => hk.2)) (fun _ h_ => h_.1))) (Kd.N_base ho0) hb); have Bi := Am (Kd.N_lower (Kd.N_mono (ok' := fun k_ => (P0_2_ k_ ∨ w.heap.size ≤ k_) ∧ k_ ≠ Ar ∧ k_ ≠ Ah ∧ k_ ≠ Ag) ho0 (fun k_ hk_ => ⟨(.inr (Nat.le_trans (below_size (pE3 HB.out Ai.out Aq.out Ax.out)) hk_)), (Kd.freshB (g := Ar) (o := .cells #[.int .i64 Aj, .int .i64 Ak, .slice Ee Af.length Ec, .int .i64 Al, .int .i64 An, .int .i64 Ao, .int .i64 Ap] 26 (0, 0)) (kX1 Aa.out Av.out) k_ hk_), (Kd.freshB (g := Ah) (o := .cells #[.int .i64 Ay, .int .i64 Az, .slice none 0 0, .int .i64 A0, .int .i64 A2, .int .i64 A3, .int .i64 A4] 26 (0, 0)) (kX1 Ad.out Aw.out) k_ hk_), (Kd.freshB (g := Ag) (o := .cells #[.int .i64 ((rd_T34 l1 Ab).f0), .slice Bj ((rd_T34 l1 Ab).f1).length c285_1, .int .i64 ((rd_T34 l1 Ab).f2.f0), .int .i64 ((rd_T34 l1 Ab).f2.f1), .int .i64 ((rd_T34 l1 Ab).f2.f2), .int .i64 ((rd_T34 l1 Ab).f3)] 34 (0, 0)) (kX0 At.out) k_ hk_)⟩)) (below_size (pE3 HB.out Ai.out Aq.out Ax.out))); replace Aa := Am (blk_below (g := Ar) (kX1 Aa.out Av.out) hb); replace Ad := Am (blk_below (g := Ah) (kX1 Ad.out Aw.out) hb); replace At := Am (blk_below (g := Ag) (kX0 At.out) hb); replace HB := zX3 HB Ai.out Aq.out Ax.out hb; (try clear hb); (try clear hk); (try clear ho0)) | ((with_reducible refine zD 9 rfl ?_); (try (refine gate_guard (by rfl) ?_; dsimp only)); refine zE 9 #[.int .i64 0, .int .i64 0, .slice none 0 0, .int .i64 0, .int .i64 0, .int .i64 0, .int .i64 0] 26 ?_; intro Ae hg w38 hbox hb; replace Ac := Am (Kd.V_below (Kd.V_elderB (pV Ac.out) Ae (Nat.le_of_eq hg.symm)) hb); replace Bi := Am (Kd.N_below (Kd.N_elderB (pN Bi.out) Ae (Nat.le_of_eq hg.symm)) hb); have Bm := Am (hbox); have Dp := zY3 hg HB Ai.out Aq.out Ax.out; replace HB := zX3 HB Ai.out Aq.out Ax.out hb; have Dq := Dp; have A9 := Am (zN hg (kL Aa.out)); have Be := Am (zM hg (kL Aa.out)); replace Aa := kBa Aa hb; have A5 := Am (zN hg (kL Ad.out)); have Bf := Am (zM hg (kL Ad.out)); replace Ad := kBa Ad hb; have Bg := Am (zN hg (kL At.out)); have Bh := Am (zM hg (kL At.out)); replace At := kBa At hb; clear hb hbox hg; have hnb39 := Be.out; have hnc39 := A9.out; have hnb40 := Bf.out; have hnc40 := A5.out; have hnb41 := Bh.out; have hnc41 := Bg.out; obtain ⟨_, _, _, _, _, _, _⟩ := bc7 Bm.out; obtain ⟨_, _, _, _, _, _, _⟩ := bf7 Bm.out; obtain ⟨Ef, Eg, El⟩ := Kd.N_slice Bi.out; subst El; obtain ⟨_, _, _, _, _, _, _⟩ := bc7 Aa.out; obtain ⟨_, _, _, _, _, _, _⟩ := bf7 Aa.out))
     go_roundg k2
     case measure => have := HJ2.out; have := HK2.out; omega
     case rel => exact ⟨(wrap64 (Ab + 1)), (t287), (t288), (t289), (t292), (t293), (t294), (t295), (Ay), (Az), (A0), (A2), (A3), (A4), (.slice Ef t289.length Eg), zr, H', ⟨by have := HJ2.out; have := HK2.out; omega⟩, ⟨Kd.N_V (by (with_reducible repeat (first | apply Kd.N_alloc | apply Kd.N_drewN | apply Kd.N_drew)); have h0_ := Kd.N_mono (Kd.N_mono Bi.out (fun k_ hk => (⟨hk, hk.2⟩ : _ ∧ k_ ≠ Ae))) (fun k_ hk => (⟨hk, hk.1.1.2.1⟩ : _ ∧ k_ ≠ Ar)); have h1_ := Kd.N_far (p := ⟨Ae, 0, none⟩) h0_ (fun _ hk => hk.1.2) (.int .i64 t287); have h2_ := Kd.N_far (p := ⟨Ae, 1, none⟩) h1_ (fun _ hk => hk.1.2) (.int .i64 t288); have h3_ := Kd.N_far (p := ⟨Ae, 2, none⟩) h2_ (fun _ hk => hk.1.2) (.slice Ef t289.length Eg); have h4_ := Kd.N_far (p := ⟨Ae, 3, none⟩) h3_ (fun _ hk => hk.1.2) (.int .i64 t292); have h5_ := Kd.N_far (p := ⟨Ae, 4, none⟩) h4_ (fun _ hk => hk.1.2) (.int .i64 t293); have h6_ := Kd.N_far (p := ⟨Ae, 5, none⟩) h5_ (fun _ hk => hk.1.2) (.int .i64 t294); have h7_ := Kd.N_far (p := ⟨Ae, 6, none⟩) h6_ (fun _ hk => hk.1.2) (.int .i64 t295); exact Kd.N_mono (Nf7 (g := Ar) (h7_) (fun _ hk => hk.2)) (fun _ hk => ⟨hk.1.1.1.1, ⟨hk.1.1.1.2.1, hk.1.1.1.2.2.1⟩⟩))⟩, ⟨kX1 Aa.out A9.out⟩, ⟨kX2 Ad.out As.out A5.out⟩, ⟨pE4 HB.out Ai.out Aq.out Ax.out Dq.out⟩⟩
def garnerlaw24_awake.f (k : Nat)  : Option (Bool) := (wal_Make.f k 0 0 ([] : List (S54)) 0 0 0 0 (([(⟨1, (([(⟨1, 1, 1, (⟨#[97]⟩ : ByteArray), (⟨false, ([] : List Int), (⟨0, 0, 0, 0⟩ : S50)⟩ : S52)⟩ : S54), (⟨2, 1, 2, (⟨#[97]⟩ : ByteArray), (⟨false, ([] : List Int), (⟨0, 0, 0, 0⟩ : S50)⟩ : S52)⟩ : S54)] : List (S54))), (⟨0, 0, 0⟩ : S24), 0⟩ : S34), (⟨2, ([] : List (S54)), (⟨1, 0, 1⟩ : S24), 0⟩ : S34), (⟨3, ([] : List (S54)), (⟨0, 0, 0⟩ : S24), 1⟩ : S34)] : List (S34)))).bind fun bt304 => (if bt304.2.2.2.2.2.2.2.2 = 0 then (if bt304.2.2.2.2.2.2.2.1 = 3 then (if (bt304.2.2.1.length : Int) = 2 then (if bt304.2.2.2.2.2.1 = 1 then (some (bt304.2.2.2.2.2.2.1 == 1)) else (some false)) else (some false)) else (some false)) else (some false))
theorem garnerlaw24_awake.mono : ∀ k, LeO (garnerlaw24_awake.f k ) (garnerlaw24_awake.f (k + 1) ) := by
 intro  k
 unfold garnerlaw24_awake.f
 repeat' (with_reducible first | exact wal_Make.mono .. | exact LeO.refl .. | exact LeO.none .. | refine LeO.ite ?_ ?_ | refine LeO.bind ?_ (fun _ => ?_))
set_option maxRecDepth 100000 in
theorem garnerlaw24_awake.calls (k : Nat)  (r : Bool) (w : World) (h : garnerlaw24_awake.f k  = some r) :
 Calls Try.prog 8 #[] w fun e w' => e = .returned (.bool r) ∧ Below w.heap.size w w' := by
 have hu54 := Try.underlying54
 have hu26 := Try.underlying26
 have hu34 := Try.underlying34
 have hu24 := Try.underlying24
 have HB := Am (Below.refl w.heap.size w)
 unfold garnerlaw24_awake.f at h
 have H := h
 clear h
 obtain ⟨y298, hy298⟩ : ∃ y_ : List (S54), y_ = (([(⟨1, 1, 1, (⟨#[97]⟩ : ByteArray), (⟨false, ([] : List Int), (⟨0, 0, 0, 0⟩ : S50)⟩ : S52)⟩ : S54), (⟨2, 1, 2, (⟨#[97]⟩ : ByteArray), (⟨false, ([] : List Int), (⟨0, 0, 0, 0⟩ : S50)⟩ : S52)⟩ : S54)] : List (S54))) := ⟨_, rfl⟩
 replace H : ((wal_Make.f k 0 0 ([] : List (S54)) 0 0 0 0 (([(⟨1, y298, (⟨0, 0, 0⟩ : S24), 0⟩ : S34), (⟨2, ([] : List (S54)), (⟨1, 0, 1⟩ : S24), 0⟩ : S34), (⟨3, ([] : List (S54)), (⟨0, 0, 0⟩ : S24), 1⟩ : S34)] : List (S34)))).bind fun bt304 => (if bt304.2.2.2.2.2.2.2.2 = 0 then (if bt304.2.2.2.2.2.2.2.1 = 3 then (if (bt304.2.2.1.length : Int) = 2 then (if bt304.2.2.2.2.2.1 = 1 then (some (bt304.2.2.2.2.2.2.1 == 1)) else (some false)) else (some false)) else (some false)) else (some false))) = some r := zy hy298 H
 have Ny298 := Am hy298
 clear hy298
 obtain ⟨y301, hy301⟩ : ∃ y_ : List (S34), y_ = (([(⟨1, y298, (⟨0, 0, 0⟩ : S24), 0⟩ : S34), (⟨2, ([] : List (S54)), (⟨1, 0, 1⟩ : S24), 0⟩ : S34), (⟨3, ([] : List (S54)), (⟨0, 0, 0⟩ : S24), 1⟩ : S34)] : List (S34))) := ⟨_, rfl⟩
 replace H : ((wal_Make.f k 0 0 ([] : List (S54)) 0 0 0 0 y301).bind fun bt304 => (if bt304.2.2.2.2.2.2.2.2 = 0 then (if bt304.2.2.2.2.2.2.2.1 = 3 then (if (bt304.2.2.1.length : Int) = 2 then (if bt304.2.2.2.2.2.1 = 1 then (some (bt304.2.2.2.2.2.2.1 == 1)) else (some false)) else (some false)) else (some false)) else (some false))) = some r := zy hy301 H
 have Ny301 := Am hy301
 clear hy301
 obtain ⟨⟨t304, t305, t306, t309, t310, t311, t312, t313, t314⟩, A1, H⟩ := zb H
 dsimp only at H
 by_cases c2 : t314 = 0
 rotate_left
 ·rw [if_neg c2] at H
  obtain ⟨c2b0, c2b1⟩ := zk c2
  obtain rfl := Option.some.inj H
  go_enter Try.func8, Try.ntmps8
  go_wp2_with (first | ((with_reducible refine zD 7 rfl ?_); (try (refine gate_guard (by rfl) ?_; dsimp only)); refine Kd.N_lit k54 _ 54 ?hg (N' := 7) ?hd (xs := ([(⟨1, 1, 1, (⟨#[97]⟩ : ByteArray), (⟨false, ([] : List Int), (⟨0, 0, 0, 0⟩ : S50)⟩ : S52)⟩ : S54), (⟨2, 1, 2, (⟨#[97]⟩ : ByteArray), (⟨false, ([] : List Int), (⟨0, 0, 0, 0⟩ : S50)⟩ : S52)⟩ : S54)] : List (S54))) (inner := [.int .i64 1, .int .i64 1, .int .i64 1, .string (⟨#[97]⟩ : ByteArray), .bool false, .slice none 0 0, .int .i64 0, .int .i64 0, .int .i64 0, .int .u32 0, .int .i64 2, .int .i64 1, .int .i64 2, .string (⟨#[97]⟩ : ByteArray), .bool false, .slice none 0 0, .int .i64 0, .int .i64 0, .int .i64 0, .int .u32 0]) (ok := (fun _ => True)) (okp := (fun _ => True)) ?hr ?hp (fun _ hk => hk) ((show ∀ k_, w.heap.size ≤ k_ → (fun _ => True) k_ from fun k_ hk => trivial) _ (Nat.le_refl _)) (Below.refl _ _) (Nat.le_refl _) (by simp) ?_; (case hd => rfl); (case hg => rfl); (case hr => first | (go_simp; done) | (go_simp; rfl)); (case hp => exact (Reps.c10 (show Kd.FK k54 _ _ (⟨1, 1, 1, (⟨#[97]⟩ : ByteArray), (⟨false, ([] : List Int), (⟨0, 0, 0, 0⟩ : S50)⟩ : S52)⟩ : S54) [.int .i64 1, .int .i64 1, .int .i64 1, .string (⟨#[97]⟩ : ByteArray), .bool false, .slice none 0 0, .int .i64 0, .int .i64 0, .int .i64 0, .int .u32 0] from (k54_mkF _ _ (⟨1, 1, 1, (⟨#[97]⟩ : ByteArray), (⟨false, ([] : List Int), (⟨0, 0, 0, 0⟩ : S50)⟩ : S52)⟩ : S54) (Nat.le_refl _) (Kd.F_nil _ _ _))) (Reps.c10 (show Kd.FK k54 _ _ (⟨2, 1, 2, (⟨#[97]⟩ : ByteArray), (⟨false, ([] : List Int), (⟨0, 0, 0, 0⟩ : S50)⟩ : S52)⟩ : S54) [.int .i64 2, .int .i64 1, .int .i64 2, .string (⟨#[97]⟩ : ByteArray), .bool false, .slice none 0 0, .int .i64 0, .int .i64 0, .int .i64 0, .int .u32 0] from (k54_mkF _ _ (⟨2, 1, 2, (⟨#[97]⟩ : ByteArray), (⟨false, ([] : List Int), (⟨0, 0, 0, 0⟩ : S50)⟩ : S52)⟩ : S54) (Nat.le_refl _) (Kd.F_nil _ _ _))) (Reps.none _ _)))); intro v299 w46 ho47 hb hg_ hnew_; clear hg_ hnew_; (first | rw [← Ny298.out] at ho47 | (simp only [Int.reduceToNat] at ho47; rw [← Ny298.out] at ho47)); have Ab := Am (Kd.N_lower ho47 (below_size (pB HB.out))); replace HB := zB HB hb; clear hb ho47; obtain ⟨Az, A0, Bf⟩ := Kd.N_slice Ab.out; subst Bf) | ((with_reducible refine zD 15 rfl ?_); (try (refine gate_guard (by rfl) ?_; dsimp only)); refine Kd.N_lit k34 _ 34 ?hg (N' := 15) ?hd (xs := ([(⟨1, y298, (⟨0, 0, 0⟩ : S24), 0⟩ : S34), (⟨2, ([] : List (S54)), (⟨1, 0, 1⟩ : S24), 0⟩ : S34), (⟨3, ([] : List (S54)), (⟨0, 0, 0⟩ : S24), 1⟩ : S34)] : List (S34))) (inner := [.int .i64 1, .slice Az y298.length A0, .int .i64 0, .int .i64 0, .int .i64 0, .int .i64 0, .int .i64 2, .slice none 0 0, .int .i64 1, .int .i64 0, .int .i64 1, .int .i64 0, .int .i64 3, .slice none 0 0, .int .i64 0, .int .i64 0, .int .i64 0, .int .i64 1]) (ok := (fun _ => True)) (okp := (fun _ => True)) ?hr ?hp (fun _ hk => hk) ((show ∀ k_, w46.heap.size ≤ k_ → (fun _ => True) k_ from fun k_ hk => trivial) _ (Nat.le_refl _)) (Below.refl _ _) (Nat.le_refl _) (by simp) ?_; (case hd => rfl); (case hg => rfl); (case hr => first | (go_simp; done) | (go_simp; rfl)); (case hp => exact (Reps.c6 (show Kd.FK k34 _ _ (⟨1, y298, (⟨0, 0, 0⟩ : S24), 0⟩ : S34) [.int .i64 1, .slice Az y298.length A0, .int .i64 0, .int .i64 0, .int .i64 0, .int .i64 0] from (k34_mkF _ _ (⟨1, y298, (⟨0, 0, 0⟩ : S24), 0⟩ : S34) (Kd.N_reads' (Kd.N_mono (ok' := (fun _ => True)) (Ab.out) (fun k_ hk => trivial))).2.1 (Kd.N_F (Kd.N_mono (ok' := (fun _ => True)) (Ab.out) (fun k_ hk => trivial))))) (Reps.c6 (show Kd.FK k34 _ _ (⟨2, ([] : List (S54)), (⟨1, 0, 1⟩ : S24), 0⟩ : S34) [.int .i64 2, .slice none 0 0, .int .i64 1, .int .i64 0, .int .i64 1, .int .i64 0] from (k34_mkF _ _ (⟨2, ([] : List (S54)), (⟨1, 0, 1⟩ : S24), 0⟩ : S34) (Nat.le_refl _) (Kd.F_nil _ _ _))) (Reps.c6 (show Kd.FK k34 _ _ (⟨3, ([] : List (S54)), (⟨0, 0, 0⟩ : S24), 1⟩ : S34) [.int .i64 3, .slice none 0 0, .int .i64 0, .int .i64 0, .int .i64 0, .int .i64 1] from (k34_mkF _ _ (⟨3, ([] : List (S54)), (⟨0, 0, 0⟩ : S24), 1⟩ : S34) (Nat.le_refl _) (Kd.F_nil _ _ _))) (Reps.none _ _))))); intro v302 w49 ho50 hb hg_ hnew_; clear hg_ hnew_; (first | rw [← Ny301.out] at ho50 | (simp only [Int.reduceToNat] at ho50; rw [← Ny301.out] at ho50)); have Aa := Am (Kd.N_lower ho50 (below_size (pB HB.out))); replace HB := zB HB hb; clear Ab hb ho50; obtain ⟨A2, A3, Bg⟩ := Kd.N_slice Aa.out; subst Bg) | ((with_reducible refine zC 11 rfl ?_); refine zL (some 16) Try.func11 #[.agg #[.int .i64 0, .int .i64 0, .slice none 0 0, .int .i64 0, .int .i64 0, .int .i64 0, .int .i64 0], .slice A2 y301.length A3] ?_; (refine (wal_Make.calls k 0 0 (fun k_ => False) _ _ ([] : List (S54)) 0 0 0 0 _ _ y301 t304 t305 t306 t309 t310 t311 t312 t313 t314 _ ?Af ?Ag ?Ah A1.out).mono ?_); (case Af => exact Kd.V_nil _ _ _ _ _); (case Ag => exact pC (Kd.N_reads' Aa.out).2.2); (case Ah => exact (Kd.N_reads' Aa.out).2.1); rintro e w52 ⟨v307, rfl, ho0, hb⟩; refine ⟨_, rfl, ?_⟩; have Ac := Am (Kd.V_lower (Kd.V_mono (ok' := fun k_ => some k_ ≠ (.slice A2 y301.length A3 : Value).ownBlock) ho0 (fun k_ hk_ => Or.elim hk_ (fun hs_ => (hs_).elim) (fun hn_ => (Kd.fresh' (Kd.N_lt (pN Aa.out)) k_ hn_)))) (below_size (pB HB.out))); replace Aa := bNa Aa hb; replace HB := zB HB hb; (try clear hb); (try clear ho0)) | ((with_reducible refine zD 2 rfl ?_); (try (refine gate_guard (by rfl) ?_; dsimp only)); refine zE 2 #[.int .i64 0, .int .i64 0, .slice none 0 0, .int .i64 0, .int .i64 0, .int .i64 0, .int .i64 0] 26 ?_; intro Ad hg w53 hbox hb; replace Aa := Am (Kd.N_below (Kd.N_elderB (pN Aa.out) Ad (Nat.le_of_eq hg.symm)) hb); replace Ac := Am (Kd.V_below (Kd.V_elderB (pV Ac.out) Ad (Nat.le_of_eq hg.symm)) hb); have Ae := Am (hbox); have Ai := zA hg HB; replace HB := zB HB hb; have Aj := Ai; clear hb hbox hg; obtain ⟨_, _, _, _, _, _, _⟩ := bc7 Ae.out; obtain ⟨_, _, _, _, _, _, _⟩ := bf7 Ae.out; obtain ⟨Ao55, co55, Bh⟩ := Kd.V_slice Ac.out; subst Bh))
  go_ret
  exact ⟨pX, pE HB.out Aj.out⟩
 rw [if_pos c2] at H
 obtain ⟨c2b0, c2b1⟩ := zc c2
 clear c2
 by_cases c3 : t313 = 3
 rotate_left
 ·rw [if_neg c3] at H
  obtain ⟨c3b0, c3b1⟩ := zk c3
  obtain rfl := Option.some.inj H
  go_enter Try.func8, Try.ntmps8
  go_wp2_with (first | ((with_reducible refine zD 7 rfl ?_); (try (refine gate_guard (by rfl) ?_; dsimp only)); refine Kd.N_lit k54 _ 54 ?hg (N' := 7) ?hd (xs := ([(⟨1, 1, 1, (⟨#[97]⟩ : ByteArray), (⟨false, ([] : List Int), (⟨0, 0, 0, 0⟩ : S50)⟩ : S52)⟩ : S54), (⟨2, 1, 2, (⟨#[97]⟩ : ByteArray), (⟨false, ([] : List Int), (⟨0, 0, 0, 0⟩ : S50)⟩ : S52)⟩ : S54)] : List (S54))) (inner := [.int .i64 1, .int .i64 1, .int .i64 1, .string (⟨#[97]⟩ : ByteArray), .bool false, .slice none 0 0, .int .i64 0, .int .i64 0, .int .i64 0, .int .u32 0, .int .i64 2, .int .i64 1, .int .i64 2, .string (⟨#[97]⟩ : ByteArray), .bool false, .slice none 0 0, .int .i64 0, .int .i64 0, .int .i64 0, .int .u32 0]) (ok := (fun _ => True)) (okp := (fun _ => True)) ?hr ?hp (fun _ hk => hk) ((show ∀ k_, w.heap.size ≤ k_ → (fun _ => True) k_ from fun k_ hk => trivial) _ (Nat.le_refl _)) (Below.refl _ _) (Nat.le_refl _) (by simp) ?_; (case hd => rfl); (case hg => rfl); (case hr => first | (go_simp; done) | (go_simp; rfl)); (case hp => exact (Reps.c10 (show Kd.FK k54 _ _ (⟨1, 1, 1, (⟨#[97]⟩ : ByteArray), (⟨false, ([] : List Int), (⟨0, 0, 0, 0⟩ : S50)⟩ : S52)⟩ : S54) [.int .i64 1, .int .i64 1, .int .i64 1, .string (⟨#[97]⟩ : ByteArray), .bool false, .slice none 0 0, .int .i64 0, .int .i64 0, .int .i64 0, .int .u32 0] from (k54_mkF _ _ (⟨1, 1, 1, (⟨#[97]⟩ : ByteArray), (⟨false, ([] : List Int), (⟨0, 0, 0, 0⟩ : S50)⟩ : S52)⟩ : S54) (Nat.le_refl _) (Kd.F_nil _ _ _))) (Reps.c10 (show Kd.FK k54 _ _ (⟨2, 1, 2, (⟨#[97]⟩ : ByteArray), (⟨false, ([] : List Int), (⟨0, 0, 0, 0⟩ : S50)⟩ : S52)⟩ : S54) [.int .i64 2, .int .i64 1, .int .i64 2, .string (⟨#[97]⟩ : ByteArray), .bool false, .slice none 0 0, .int .i64 0, .int .i64 0, .int .i64 0, .int .u32 0] from (k54_mkF _ _ (⟨2, 1, 2, (⟨#[97]⟩ : ByteArray), (⟨false, ([] : List Int), (⟨0, 0, 0, 0⟩ : S50)⟩ : S52)⟩ : S54) (Nat.le_refl _) (Kd.F_nil _ _ _))) (Reps.none _ _)))); intro v299 w36 ho37 hb hg_ hnew_; clear hg_ hnew_; (first | rw [← Ny298.out] at ho37 | (simp only [Int.reduceToNat] at ho37; rw [← Ny298.out] at ho37)); have Ab := Am (Kd.N_lower ho37 (below_size (pB HB.out))); replace HB := zB HB hb; clear hb ho37; obtain ⟨Av, Aw, Bc⟩ := Kd.N_slice Ab.out; subst Bc) | ((with_reducible refine zD 15 rfl ?_); (try (refine gate_guard (by rfl) ?_; dsimp only)); refine Kd.N_lit k34 _ 34 ?hg (N' := 15) ?hd (xs := ([(⟨1, y298, (⟨0, 0, 0⟩ : S24), 0⟩ : S34), (⟨2, ([] : List (S54)), (⟨1, 0, 1⟩ : S24), 0⟩ : S34), (⟨3, ([] : List (S54)), (⟨0, 0, 0⟩ : S24), 1⟩ : S34)] : List (S34))) (inner := [.int .i64 1, .slice Av y298.length Aw, .int .i64 0, .int .i64 0, .int .i64 0, .int .i64 0, .int .i64 2, .slice none 0 0, .int .i64 1, .int .i64 0, .int .i64 1, .int .i64 0, .int .i64 3, .slice none 0 0, .int .i64 0, .int .i64 0, .int .i64 0, .int .i64 1]) (ok := (fun _ => True)) (okp := (fun _ => True)) ?hr ?hp (fun _ hk => hk) ((show ∀ k_, w36.heap.size ≤ k_ → (fun _ => True) k_ from fun k_ hk => trivial) _ (Nat.le_refl _)) (Below.refl _ _) (Nat.le_refl _) (by simp) ?_; (case hd => rfl); (case hg => rfl); (case hr => first | (go_simp; done) | (go_simp; rfl)); (case hp => exact (Reps.c6 (show Kd.FK k34 _ _ (⟨1, y298, (⟨0, 0, 0⟩ : S24), 0⟩ : S34) [.int .i64 1, .slice Av y298.length Aw, .int .i64 0, .int .i64 0, .int .i64 0, .int .i64 0] from (k34_mkF _ _ (⟨1, y298, (⟨0, 0, 0⟩ : S24), 0⟩ : S34) (Kd.N_reads' (Kd.N_mono (ok' := (fun _ => True)) (Ab.out) (fun k_ hk => trivial))).2.1 (Kd.N_F (Kd.N_mono (ok' := (fun _ => True)) (Ab.out) (fun k_ hk => trivial))))) (Reps.c6 (show Kd.FK k34 _ _ (⟨2, ([] : List (S54)), (⟨1, 0, 1⟩ : S24), 0⟩ : S34) [.int .i64 2, .slice none 0 0, .int .i64 1, .int .i64 0, .int .i64 1, .int .i64 0] from (k34_mkF _ _ (⟨2, ([] : List (S54)), (⟨1, 0, 1⟩ : S24), 0⟩ : S34) (Nat.le_refl _) (Kd.F_nil _ _ _))) (Reps.c6 (show Kd.FK k34 _ _ (⟨3, ([] : List (S54)), (⟨0, 0, 0⟩ : S24), 1⟩ : S34) [.int .i64 3, .slice none 0 0, .int .i64 0, .int .i64 0, .int .i64 0, .int .i64 1] from (k34_mkF _ _ (⟨3, ([] : List (S54)), (⟨0, 0, 0⟩ : S24), 1⟩ : S34) (Nat.le_refl _) (Kd.F_nil _ _ _))) (Reps.none _ _))))); intro v302 w39 ho40 hb hg_ hnew_; clear hg_ hnew_; (first | rw [← Ny301.out] at ho40 | (simp only [Int.reduceToNat] at ho40; rw [← Ny301.out] at ho40)); have Aa := Am (Kd.N_lower ho40 (below_size (pB HB.out))); replace HB := zB HB hb; clear Ab hb ho40; obtain ⟨Ax, Ay, Bd⟩ := Kd.N_slice Aa.out; subst Bd) | ((with_reducible refine zC 11 rfl ?_); refine zL (some 16) Try.func11 #[.agg #[.int .i64 0, .int .i64 0, .slice none 0 0, .int .i64 0, .int .i64 0, .int .i64 0, .int .i64 0], .slice Ax y301.length Ay] ?_; (refine (wal_Make.calls k 0 0 (fun k_ => False) _ _ ([] : List (S54)) 0 0 0 0 _ _ y301 t304 t305 t306 t309 t310 t311 t312 t313 t314 _ ?Af ?Ag ?Ah A1.out).mono ?_); (case Af => exact Kd.V_nil _ _ _ _ _); (case Ag => exact pC (Kd.N_reads' Aa.out).2.2); (case Ah => exact (Kd.N_reads' Aa.out).2.1); rintro e w42 ⟨v307, rfl, ho0, hb⟩; refine ⟨_, rfl, ?_⟩; have Ac := Am (Kd.V_lower (Kd.V_mono (ok' := fun k_ => some k_ ≠ (.slice Ax y301.length Ay : Value).ownBlock) ho0 (fun k_ hk_ => Or.elim hk_ (fun hs_ => (hs_).elim) (fun hn_ => (Kd.fresh' (Kd.N_lt (pN Aa.out)) k_ hn_)))) (below_size (pB HB.out))); replace Aa := bNa Aa hb; replace HB := zB HB hb; (try clear hb); (try clear ho0)) | ((with_reducible refine zD 2 rfl ?_); (try (refine gate_guard (by rfl) ?_; dsimp only)); refine zE 2 #[.int .i64 0, .int .i64 0, .slice none 0 0, .int .i64 0, .int .i64 0, .int .i64 0, .int .i64 0] 26 ?_; intro Ad hg w43 hbox hb; replace Aa := Am (Kd.N_below (Kd.N_elderB (pN Aa.out) Ad (Nat.le_of_eq hg.symm)) hb); replace Ac := Am (Kd.V_below (Kd.V_elderB (pV Ac.out) Ad (Nat.le_of_eq hg.symm)) hb); have Ae := Am (hbox); have Ai := zA hg HB; replace HB := zB HB hb; have Aj := Ai; clear hb hbox hg; obtain ⟨_, _, _, _, _, _, _⟩ := bc7 Ae.out; obtain ⟨_, _, _, _, _, _, _⟩ := bf7 Ae.out; obtain ⟨Ao45, co45, Be⟩ := Kd.V_slice Ac.out; subst Be))
  go_ret
  exact ⟨pX, pE HB.out Aj.out⟩
 rw [if_pos c3] at H
 obtain ⟨c3b0, c3b1⟩ := zc c3
 clear c3
 by_cases c4 : (t306.length : Int) = 2
 rotate_left
 ·rw [if_neg c4] at H
  obtain ⟨c4b0, c4b1⟩ := zk c4
  obtain rfl := Option.some.inj H
  go_enter Try.func8, Try.ntmps8
  go_wp2_with (first | ((with_reducible refine zD 7 rfl ?_); (try (refine gate_guard (by rfl) ?_; dsimp only)); refine Kd.N_lit k54 _ 54 ?hg (N' := 7) ?hd (xs := ([(⟨1, 1, 1, (⟨#[97]⟩ : ByteArray), (⟨false, ([] : List Int), (⟨0, 0, 0, 0⟩ : S50)⟩ : S52)⟩ : S54), (⟨2, 1, 2, (⟨#[97]⟩ : ByteArray), (⟨false, ([] : List Int), (⟨0, 0, 0, 0⟩ : S50)⟩ : S52)⟩ : S54)] : List (S54))) (inner := [.int .i64 1, .int .i64 1, .int .i64 1, .string (⟨#[97]⟩ : ByteArray), .bool false, .slice none 0 0, .int .i64 0, .int .i64 0, .int .i64 0, .int .u32 0, .int .i64 2, .int .i64 1, .int .i64 2, .string (⟨#[97]⟩ : ByteArray), .bool false, .slice none 0 0, .int .i64 0, .int .i64 0, .int .i64 0, .int .u32 0]) (ok := (fun _ => True)) (okp := (fun _ => True)) ?hr ?hp (fun _ hk => hk) ((show ∀ k_, w.heap.size ≤ k_ → (fun _ => True) k_ from fun k_ hk => trivial) _ (Nat.le_refl _)) (Below.refl _ _) (Nat.le_refl _) (by simp) ?_; (case hd => rfl); (case hg => rfl); (case hr => first | (go_simp; done) | (go_simp; rfl)); (case hp => exact (Reps.c10 (show Kd.FK k54 _ _ (⟨1, 1, 1, (⟨#[97]⟩ : ByteArray), (⟨false, ([] : List Int), (⟨0, 0, 0, 0⟩ : S50)⟩ : S52)⟩ : S54) [.int .i64 1, .int .i64 1, .int .i64 1, .string (⟨#[97]⟩ : ByteArray), .bool false, .slice none 0 0, .int .i64 0, .int .i64 0, .int .i64 0, .int .u32 0] from (k54_mkF _ _ (⟨1, 1, 1, (⟨#[97]⟩ : ByteArray), (⟨false, ([] : List Int), (⟨0, 0, 0, 0⟩ : S50)⟩ : S52)⟩ : S54) (Nat.le_refl _) (Kd.F_nil _ _ _))) (Reps.c10 (show Kd.FK k54 _ _ (⟨2, 1, 2, (⟨#[97]⟩ : ByteArray), (⟨false, ([] : List Int), (⟨0, 0, 0, 0⟩ : S50)⟩ : S52)⟩ : S54) [.int .i64 2, .int .i64 1, .int .i64 2, .string (⟨#[97]⟩ : ByteArray), .bool false, .slice none 0 0, .int .i64 0, .int .i64 0, .int .i64 0, .int .u32 0] from (k54_mkF _ _ (⟨2, 1, 2, (⟨#[97]⟩ : ByteArray), (⟨false, ([] : List Int), (⟨0, 0, 0, 0⟩ : S50)⟩ : S52)⟩ : S54) (Nat.le_refl _) (Kd.F_nil _ _ _))) (Reps.none _ _)))); intro v299 w26 ho27 hb hg_ hnew_; clear hg_ hnew_; (first | rw [← Ny298.out] at ho27 | (simp only [Int.reduceToNat] at ho27; rw [← Ny298.out] at ho27)); have Ab := Am (Kd.N_lower ho27 (below_size (pB HB.out))); replace HB := zB HB hb; clear hb ho27; obtain ⟨Ar, As, A9⟩ := Kd.N_slice Ab.out; subst A9) | ((with_reducible refine zD 15 rfl ?_); (try (refine gate_guard (by rfl) ?_; dsimp only)); refine Kd.N_lit k34 _ 34 ?hg (N' := 15) ?hd (xs := ([(⟨1, y298, (⟨0, 0, 0⟩ : S24), 0⟩ : S34), (⟨2, ([] : List (S54)), (⟨1, 0, 1⟩ : S24), 0⟩ : S34), (⟨3, ([] : List (S54)), (⟨0, 0, 0⟩ : S24), 1⟩ : S34)] : List (S34))) (inner := [.int .i64 1, .slice Ar y298.length As, .int .i64 0, .int .i64 0, .int .i64 0, .int .i64 0, .int .i64 2, .slice none 0 0, .int .i64 1, .int .i64 0, .int .i64 1, .int .i64 0, .int .i64 3, .slice none 0 0, .int .i64 0, .int .i64 0, .int .i64 0, .int .i64 1]) (ok := (fun _ => True)) (okp := (fun _ => True)) ?hr ?hp (fun _ hk => hk) ((show ∀ k_, w26.heap.size ≤ k_ → (fun _ => True) k_ from fun k_ hk => trivial) _ (Nat.le_refl _)) (Below.refl _ _) (Nat.le_refl _) (by simp) ?_; (case hd => rfl); (case hg => rfl); (case hr => first | (go_simp; done) | (go_simp; rfl)); (case hp => exact (Reps.c6 (show Kd.FK k34 _ _ (⟨1, y298, (⟨0, 0, 0⟩ : S24), 0⟩ : S34) [.int .i64 1, .slice Ar y298.length As, .int .i64 0, .int .i64 0, .int .i64 0, .int .i64 0] from (k34_mkF _ _ (⟨1, y298, (⟨0, 0, 0⟩ : S24), 0⟩ : S34) (Kd.N_reads' (Kd.N_mono (ok' := (fun _ => True)) (Ab.out) (fun k_ hk => trivial))).2.1 (Kd.N_F (Kd.N_mono (ok' := (fun _ => True)) (Ab.out) (fun k_ hk => trivial))))) (Reps.c6 (show Kd.FK k34 _ _ (⟨2, ([] : List (S54)), (⟨1, 0, 1⟩ : S24), 0⟩ : S34) [.int .i64 2, .slice none 0 0, .int .i64 1, .int .i64 0, .int .i64 1, .int .i64 0] from (k34_mkF _ _ (⟨2, ([] : List (S54)), (⟨1, 0, 1⟩ : S24), 0⟩ : S34) (Nat.le_refl _) (Kd.F_nil _ _ _))) (Reps.c6 (show Kd.FK k34 _ _ (⟨3, ([] : List (S54)), (⟨0, 0, 0⟩ : S24), 1⟩ : S34) [.int .i64 3, .slice none 0 0, .int .i64 0, .int .i64 0, .int .i64 0, .int .i64 1] from (k34_mkF _ _ (⟨3, ([] : List (S54)), (⟨0, 0, 0⟩ : S24), 1⟩ : S34) (Nat.le_refl _) (Kd.F_nil _ _ _))) (Reps.none _ _))))); intro v302 w29 ho30 hb hg_ hnew_; clear hg_ hnew_; (first | rw [← Ny301.out] at ho30 | (simp only [Int.reduceToNat] at ho30; rw [← Ny301.out] at ho30)); have Aa := Am (Kd.N_lower ho30 (below_size (pB HB.out))); replace HB := zB HB hb; clear Ab hb ho30; obtain ⟨At, Au, Ba⟩ := Kd.N_slice Aa.out; subst Ba) | ((with_reducible refine zC 11 rfl ?_); refine zL (some 16) Try.func11 #[.agg #[.int .i64 0, .int .i64 0, .slice none 0 0, .int .i64 0, .int .i64 0, .int .i64 0, .int .i64 0], .slice At y301.length Au] ?_; (refine (wal_Make.calls k 0 0 (fun k_ => False) _ _ ([] : List (S54)) 0 0 0 0 _ _ y301 t304 t305 t306 t309 t310 t311 t312 t313 t314 _ ?Af ?Ag ?Ah A1.out).mono ?_); (case Af => exact Kd.V_nil _ _ _ _ _); (case Ag => exact pC (Kd.N_reads' Aa.out).2.2); (case Ah => exact (Kd.N_reads' Aa.out).2.1); rintro e w32 ⟨v307, rfl, ho0, hb⟩; refine ⟨_, rfl, ?_⟩; have Ac := Am (Kd.V_lower (Kd.V_mono (ok' := fun k_ => some k_ ≠ (.slice At y301.length Au : Value).ownBlock) ho0 (fun k_ hk_ => Or.elim hk_ (fun hs_ => (hs_).elim) (fun hn_ => (Kd.fresh' (Kd.N_lt (pN Aa.out)) k_ hn_)))) (below_size (pB HB.out))); replace Aa := bNa Aa hb; replace HB := zB HB hb; (try clear hb); (try clear ho0)) | ((with_reducible refine zD 2 rfl ?_); (try (refine gate_guard (by rfl) ?_; dsimp only)); refine zE 2 #[.int .i64 0, .int .i64 0, .slice none 0 0, .int .i64 0, .int .i64 0, .int .i64 0, .int .i64 0] 26 ?_; intro Ad hg w33 hbox hb; replace Aa := Am (Kd.N_below (Kd.N_elderB (pN Aa.out) Ad (Nat.le_of_eq hg.symm)) hb); replace Ac := Am (Kd.V_below (Kd.V_elderB (pV Ac.out) Ad (Nat.le_of_eq hg.symm)) hb); have Ae := Am (hbox); have Ai := zA hg HB; replace HB := zB HB hb; have Aj := Ai; clear hb hbox hg; obtain ⟨_, _, _, _, _, _, _⟩ := bc7 Ae.out; obtain ⟨_, _, _, _, _, _, _⟩ := bf7 Ae.out; obtain ⟨Ao35, co35, Bb⟩ := Kd.V_slice Ac.out; subst Bb))
  go_ret
  exact ⟨pX, pE HB.out Aj.out⟩
 rw [if_pos c4] at H
 obtain ⟨c4b0, c4b1⟩ := zc c4
 clear c4
 by_cases c5 : t311 = 1
 rotate_left
 ·rw [if_neg c5] at H
  obtain ⟨c5b0, c5b1⟩ := zk c5
  obtain rfl := Option.some.inj H
  go_enter Try.func8, Try.ntmps8
  go_wp2_with (first | ((with_reducible refine zD 7 rfl ?_); (try (refine gate_guard (by rfl) ?_; dsimp only)); refine Kd.N_lit k54 _ 54 ?hg (N' := 7) ?hd (xs := ([(⟨1, 1, 1, (⟨#[97]⟩ : ByteArray), (⟨false, ([] : List Int), (⟨0, 0, 0, 0⟩ : S50)⟩ : S52)⟩ : S54), (⟨2, 1, 2, (⟨#[97]⟩ : ByteArray), (⟨false, ([] : List Int), (⟨0, 0, 0, 0⟩ : S50)⟩ : S52)⟩ : S54)] : List (S54))) (inner := [.int .i64 1, .int .i64 1, .int .i64 1, .string (⟨#[97]⟩ : ByteArray), .bool false, .slice none 0 0, .int .i64 0, .int .i64 0, .int .i64 0, .int .u32 0, .int .i64 2, .int .i64 1, .int .i64 2, .string (⟨#[97]⟩ : ByteArray), .bool false, .slice none 0 0, .int .i64 0, .int .i64 0, .int .i64 0, .int .u32 0]) (ok := (fun _ => True)) (okp := (fun _ => True)) ?hr ?hp (fun _ hk => hk) ((show ∀ k_, w.heap.size ≤ k_ → (fun _ => True) k_ from fun k_ hk => trivial) _ (Nat.le_refl _)) (Below.refl _ _) (Nat.le_refl _) (by simp) ?_; (case hd => rfl); (case hg => rfl); (case hr => first | (go_simp; done) | (go_simp; rfl)); (case hp => exact (Reps.c10 (show Kd.FK k54 _ _ (⟨1, 1, 1, (⟨#[97]⟩ : ByteArray), (⟨false, ([] : List Int), (⟨0, 0, 0, 0⟩ : S50)⟩ : S52)⟩ : S54) [.int .i64 1, .int .i64 1, .int .i64 1, .string (⟨#[97]⟩ : ByteArray), .bool false, .slice none 0 0, .int .i64 0, .int .i64 0, .int .i64 0, .int .u32 0] from (k54_mkF _ _ (⟨1, 1, 1, (⟨#[97]⟩ : ByteArray), (⟨false, ([] : List Int), (⟨0, 0, 0, 0⟩ : S50)⟩ : S52)⟩ : S54) (Nat.le_refl _) (Kd.F_nil _ _ _))) (Reps.c10 (show Kd.FK k54 _ _ (⟨2, 1, 2, (⟨#[97]⟩ : ByteArray), (⟨false, ([] : List Int), (⟨0, 0, 0, 0⟩ : S50)⟩ : S52)⟩ : S54) [.int .i64 2, .int .i64 1, .int .i64 2, .string (⟨#[97]⟩ : ByteArray), .bool false, .slice none 0 0, .int .i64 0, .int .i64 0, .int .i64 0, .int .u32 0] from (k54_mkF _ _ (⟨2, 1, 2, (⟨#[97]⟩ : ByteArray), (⟨false, ([] : List Int), (⟨0, 0, 0, 0⟩ : S50)⟩ : S52)⟩ : S54) (Nat.le_refl _) (Kd.F_nil _ _ _))) (Reps.none _ _)))); intro v299 w16 ho17 hb hg_ hnew_; clear hg_ hnew_; (first | rw [← Ny298.out] at ho17 | (simp only [Int.reduceToNat] at ho17; rw [← Ny298.out] at ho17)); have Ab := Am (Kd.N_lower ho17 (below_size (pB HB.out))); replace HB := zB HB hb; clear hb ho17; obtain ⟨An, Ao, A6⟩ := Kd.N_slice Ab.out; subst A6) | ((with_reducible refine zD 15 rfl ?_); (try (refine gate_guard (by rfl) ?_; dsimp only)); refine Kd.N_lit k34 _ 34 ?hg (N' := 15) ?hd (xs := ([(⟨1, y298, (⟨0, 0, 0⟩ : S24), 0⟩ : S34), (⟨2, ([] : List (S54)), (⟨1, 0, 1⟩ : S24), 0⟩ : S34), (⟨3, ([] : List (S54)), (⟨0, 0, 0⟩ : S24), 1⟩ : S34)] : List (S34))) (inner := [.int .i64 1, .slice An y298.length Ao, .int .i64 0, .int .i64 0, .int .i64 0, .int .i64 0, .int .i64 2, .slice none 0 0, .int .i64 1, .int .i64 0, .int .i64 1, .int .i64 0, .int .i64 3, .slice none 0 0, .int .i64 0, .int .i64 0, .int .i64 0, .int .i64 1]) (ok := (fun _ => True)) (okp := (fun _ => True)) ?hr ?hp (fun _ hk => hk) ((show ∀ k_, w16.heap.size ≤ k_ → (fun _ => True) k_ from fun k_ hk => trivial) _ (Nat.le_refl _)) (Below.refl _ _) (Nat.le_refl _) (by simp) ?_; (case hd => rfl); (case hg => rfl); (case hr => first | (go_simp; done) | (go_simp; rfl)); (case hp => exact (Reps.c6 (show Kd.FK k34 _ _ (⟨1, y298, (⟨0, 0, 0⟩ : S24), 0⟩ : S34) [.int .i64 1, .slice An y298.length Ao, .int .i64 0, .int .i64 0, .int .i64 0, .int .i64 0] from (k34_mkF _ _ (⟨1, y298, (⟨0, 0, 0⟩ : S24), 0⟩ : S34) (Kd.N_reads' (Kd.N_mono (ok' := (fun _ => True)) (Ab.out) (fun k_ hk => trivial))).2.1 (Kd.N_F (Kd.N_mono (ok' := (fun _ => True)) (Ab.out) (fun k_ hk => trivial))))) (Reps.c6 (show Kd.FK k34 _ _ (⟨2, ([] : List (S54)), (⟨1, 0, 1⟩ : S24), 0⟩ : S34) [.int .i64 2, .slice none 0 0, .int .i64 1, .int .i64 0, .int .i64 1, .int .i64 0] from (k34_mkF _ _ (⟨2, ([] : List (S54)), (⟨1, 0, 1⟩ : S24), 0⟩ : S34) (Nat.le_refl _) (Kd.F_nil _ _ _))) (Reps.c6 (show Kd.FK k34 _ _ (⟨3, ([] : List (S54)), (⟨0, 0, 0⟩ : S24), 1⟩ : S34) [.int .i64 3, .slice none 0 0, .int .i64 0, .int .i64 0, .int .i64 0, .int .i64 1] from (k34_mkF _ _ (⟨3, ([] : List (S54)), (⟨0, 0, 0⟩ : S24), 1⟩ : S34) (Nat.le_refl _) (Kd.F_nil _ _ _))) (Reps.none _ _))))); intro v302 w19 ho20 hb hg_ hnew_; clear hg_ hnew_; (first | rw [← Ny301.out] at ho20 | (simp only [Int.reduceToNat] at ho20; rw [← Ny301.out] at ho20)); have Aa := Am (Kd.N_lower ho20 (below_size (pB HB.out))); replace HB := zB HB hb; clear Ab hb ho20; obtain ⟨Ap, Aq, A7⟩ := Kd.N_slice Aa.out; subst A7) | ((with_reducible refine zC 11 rfl ?_); refine zL (some 16) Try.func11 #[.agg #[.int .i64 0, .int .i64 0, .slice none 0 0, .int .i64 0, .int .i64 0, .int .i64 0, .int .i64 0], .slice Ap y301.length Aq] ?_; (refine (wal_Make.calls k 0 0 (fun k_ => False) _ _ ([] : List (S54)) 0 0 0 0 _ _ y301 t304 t305 t306 t309 t310 t311 t312 t313 t314 _ ?Af ?Ag ?Ah A1.out).mono ?_); (case Af => exact Kd.V_nil _ _ _ _ _); (case Ag => exact pC (Kd.N_reads' Aa.out).2.2); (case Ah => exact (Kd.N_reads' Aa.out).2.1); rintro e w22 ⟨v307, rfl, ho0, hb⟩; refine ⟨_, rfl, ?_⟩; have Ac := Am (Kd.V_lower (Kd.V_mono (ok' := fun k_ => some k_ ≠ (.slice Ap y301.length Aq : Value).ownBlock) ho0 (fun k_ hk_ => Or.elim hk_ (fun hs_ => (hs_).elim) (fun hn_ => (Kd.fresh' (Kd.N_lt (pN Aa.out)) k_ hn_)))) (below_size (pB HB.out))); replace Aa := bNa Aa hb; replace HB := zB HB hb; (try clear hb); (try clear ho0)) | ((with_reducible refine zD 2 rfl ?_); (try (refine gate_guard (by rfl) ?_; dsimp only)); refine zE 2 #[.int .i64 0, .int .i64 0, .slice none 0 0, .int .i64 0, .int .i64 0, .int .i64 0, .int .i64 0] 26 ?_; intro Ad hg w23 hbox hb; replace Aa := Am (Kd.N_below (Kd.N_elderB (pN Aa.out) Ad (Nat.le_of_eq hg.symm)) hb); replace Ac := Am (Kd.V_below (Kd.V_elderB (pV Ac.out) Ad (Nat.le_of_eq hg.symm)) hb); have Ae := Am (hbox); have Ai := zA hg HB; replace HB := zB HB hb; have Aj := Ai; clear hb hbox hg; obtain ⟨_, _, _, _, _, _, _⟩ := bc7 Ae.out; obtain ⟨_, _, _, _, _, _, _⟩ := bf7 Ae.out; obtain ⟨Ao25, co25, A8⟩ := Kd.V_slice Ac.out; subst A8))
  go_ret
  exact ⟨pX, pE HB.out Aj.out⟩
 rw [if_pos c5] at H
 obtain ⟨c5b0, c5b1⟩ := zc c5
 clear c5
 obtain rfl := Option.some.inj H
 go_enter Try.func8, Try.ntmps8
 go_wp2_with (first | ((with_reducible refine zD 7 rfl ?_); (try (refine gate_guard (by rfl) ?_; dsimp only)); refine Kd.N_lit k54 _ 54 ?hg (N' := 7) ?hd (xs := ([(⟨1, 1, 1, (⟨#[97]⟩ : ByteArray), (⟨false, ([] : List Int), (⟨0, 0, 0, 0⟩ : S50)⟩ : S52)⟩ : S54), (⟨2, 1, 2, (⟨#[97]⟩ : ByteArray), (⟨false, ([] : List Int), (⟨0, 0, 0, 0⟩ : S50)⟩ : S52)⟩ : S54)] : List (S54))) (inner := [.int .i64 1, .int .i64 1, .int .i64 1, .string (⟨#[97]⟩ : ByteArray), .bool false, .slice none 0 0, .int .i64 0, .int .i64 0, .int .i64 0, .int .u32 0, .int .i64 2, .int .i64 1, .int .i64 2, .string (⟨#[97]⟩ : ByteArray), .bool false, .slice none 0 0, .int .i64 0, .int .i64 0, .int .i64 0, .int .u32 0]) (ok := (fun _ => True)) (okp := (fun _ => True)) ?hr ?hp (fun _ hk => hk) ((show ∀ k_, w.heap.size ≤ k_ → (fun _ => True) k_ from fun k_ hk => trivial) _ (Nat.le_refl _)) (Below.refl _ _) (Nat.le_refl _) (by simp) ?_; (case hd => rfl); (case hg => rfl); (case hr => first | (go_simp; done) | (go_simp; rfl)); (case hp => exact (Reps.c10 (show Kd.FK k54 _ _ (⟨1, 1, 1, (⟨#[97]⟩ : ByteArray), (⟨false, ([] : List Int), (⟨0, 0, 0, 0⟩ : S50)⟩ : S52)⟩ : S54) [.int .i64 1, .int .i64 1, .int .i64 1, .string (⟨#[97]⟩ : ByteArray), .bool false, .slice none 0 0, .int .i64 0, .int .i64 0, .int .i64 0, .int .u32 0] from (k54_mkF _ _ (⟨1, 1, 1, (⟨#[97]⟩ : ByteArray), (⟨false, ([] : List Int), (⟨0, 0, 0, 0⟩ : S50)⟩ : S52)⟩ : S54) (Nat.le_refl _) (Kd.F_nil _ _ _))) (Reps.c10 (show Kd.FK k54 _ _ (⟨2, 1, 2, (⟨#[97]⟩ : ByteArray), (⟨false, ([] : List Int), (⟨0, 0, 0, 0⟩ : S50)⟩ : S52)⟩ : S54) [.int .i64 2, .int .i64 1, .int .i64 2, .string (⟨#[97]⟩ : ByteArray), .bool false, .slice none 0 0, .int .i64 0, .int .i64 0, .int .i64 0, .int .u32 0] from (k54_mkF _ _ (⟨2, 1, 2, (⟨#[97]⟩ : ByteArray), (⟨false, ([] : List Int), (⟨0, 0, 0, 0⟩ : S50)⟩ : S52)⟩ : S54) (Nat.le_refl _) (Kd.F_nil _ _ _))) (Reps.none _ _)))); intro v299 w6 ho7 hb hg_ hnew_; clear hg_ hnew_; (first | rw [← Ny298.out] at ho7 | (simp only [Int.reduceToNat] at ho7; rw [← Ny298.out] at ho7)); have Ab := Am (Kd.N_lower ho7 (below_size (pB HB.out))); replace HB := zB HB hb; clear hb ho7; obtain ⟨Bi, Bj, Bk⟩ := Kd.N_slice Ab.out; subst Bk) | ((with_reducible refine zD 15 rfl ?_); (try (refine gate_guard (by rfl) ?_; dsimp only)); refine Kd.N_lit k34 _ 34 ?hg (N' := 15) ?hd (xs := ([(⟨1, y298, (⟨0, 0, 0⟩ : S24), 0⟩ : S34), (⟨2, ([] : List (S54)), (⟨1, 0, 1⟩ : S24), 0⟩ : S34), (⟨3, ([] : List (S54)), (⟨0, 0, 0⟩ : S24), 1⟩ : S34)] : List (S34))) (inner := [.int .i64 1, .slice Bi y298.length Bj, .int .i64 0, .int .i64 0, .int .i64 0, .int .i64 0, .int .i64 2, .slice none 0 0, .int .i64 1, .int .i64 0, .int .i64 1, .int .i64 0, .int .i64 3, .slice none 0 0, .int .i64 0, .int .i64 0, .int .i64 0, .int .i64 1]) (ok := (fun _ => True)) (okp := (fun _ => True)) ?hr ?hp (fun _ hk => hk) ((show ∀ k_, w6.heap.size ≤ k_ → (fun _ => True) k_ from fun k_ hk => trivial) _ (Nat.le_refl _)) (Below.refl _ _) (Nat.le_refl _) (by simp) ?_; (case hd => rfl); (case hg => rfl); (case hr => first | (go_simp; done) | (go_simp; rfl)); (case hp => exact (Reps.c6 (show Kd.FK k34 _ _ (⟨1, y298, (⟨0, 0, 0⟩ : S24), 0⟩ : S34) [.int .i64 1, .slice Bi y298.length Bj, .int .i64 0, .int .i64 0, .int .i64 0, .int .i64 0] from (k34_mkF _ _ (⟨1, y298, (⟨0, 0, 0⟩ : S24), 0⟩ : S34) (Kd.N_reads' (Kd.N_mono (ok' := (fun _ => True)) (Ab.out) (fun k_ hk => trivial))).2.1 (Kd.N_F (Kd.N_mono (ok' := (fun _ => True)) (Ab.out) (fun k_ hk => trivial))))) (Reps.c6 (show Kd.FK k34 _ _ (⟨2, ([] : List (S54)), (⟨1, 0, 1⟩ : S24), 0⟩ : S34) [.int .i64 2, .slice none 0 0, .int .i64 1, .int .i64 0, .int .i64 1, .int .i64 0] from (k34_mkF _ _ (⟨2, ([] : List (S54)), (⟨1, 0, 1⟩ : S24), 0⟩ : S34) (Nat.le_refl _) (Kd.F_nil _ _ _))) (Reps.c6 (show Kd.FK k34 _ _ (⟨3, ([] : List (S54)), (⟨0, 0, 0⟩ : S24), 1⟩ : S34) [.int .i64 3, .slice none 0 0, .int .i64 0, .int .i64 0, .int .i64 0, .int .i64 1] from (k34_mkF _ _ (⟨3, ([] : List (S54)), (⟨0, 0, 0⟩ : S24), 1⟩ : S34) (Nat.le_refl _) (Kd.F_nil _ _ _))) (Reps.none _ _))))); intro v302 w9 ho10 hb hg_ hnew_; clear hg_ hnew_; (first | rw [← Ny301.out] at ho10 | (simp only [Int.reduceToNat] at ho10; rw [← Ny301.out] at ho10)); have Aa := Am (Kd.N_lower ho10 (below_size (pB HB.out))); replace HB := zB HB hb; clear Ab hb ho10; obtain ⟨Ak, Al, A4⟩ := Kd.N_slice Aa.out; subst A4) | ((with_reducible refine zC 11 rfl ?_); refine zL (some 16) Try.func11 #[.agg #[.int .i64 0, .int .i64 0, .slice none 0 0, .int .i64 0, .int .i64 0, .int .i64 0, .int .i64 0], .slice Ak y301.length Al] ?_; (refine (wal_Make.calls k 0 0 (fun k_ => False) _ _ ([] : List (S54)) 0 0 0 0 _ _ y301 t304 t305 t306 t309 t310 t311 t312 t313 t314 _ ?Af ?Ag ?Ah A1.out).mono ?_); (case Af => exact Kd.V_nil _ _ _ _ _); (case Ag => exact pC (Kd.N_reads' Aa.out).2.2); (case Ah => exact (Kd.N_reads' Aa.out).2.1); rintro e w12 ⟨v307, rfl, ho0, hb⟩; refine ⟨_, rfl, ?_⟩; have Ac := Am (Kd.V_lower (Kd.V_mono (ok' := fun k_ => some k_ ≠ (.slice Ak y301.length Al : Value).ownBlock) ho0 (fun k_ hk_ => Or.elim hk_ (fun hs_ => (hs_).elim) (fun hn_ => (Kd.fresh' (Kd.N_lt (pN Aa.out)) k_ hn_)))) (below_size (pB HB.out))); replace Aa := bNa Aa hb; replace HB := zB HB hb; (try clear hb); (try clear ho0)) | ((with_reducible refine zD 2 rfl ?_); (try (refine gate_guard (by rfl) ?_; dsimp only)); refine zE 2 #[.int .i64 0, .int .i64 0, .slice none 0 0, .int .i64 0, .int .i64 0, .int .i64 0, .int .i64 0] 26 ?_; intro Ad hg w13 hbox hb; replace Aa := Am (Kd.N_below (Kd.N_elderB (pN Aa.out) Ad (Nat.le_of_eq hg.symm)) hb); replace Ac := Am (Kd.V_below (Kd.V_elderB (pV Ac.out) Ad (Nat.le_of_eq hg.symm)) hb); have Ae := Am (hbox); have Ai := zA hg HB; replace HB := zB HB hb; have Aj := Ai; clear hb hbox hg; obtain ⟨_, _, _, _, _, _, _⟩ := bc7 Ae.out; obtain ⟨_, _, _, _, _, _, _⟩ := bf7 Ae.out; obtain ⟨Ao15, co15, A5⟩ := Kd.V_slice Ac.out; subst A5))
 go_ret
 exact ⟨pX, pE HB.out Aj.out⟩
def garnerref22_May.f (a0_0 : Int) (a0_1 : Int) (a0_2 : Int) : Option (Bool) := if a0_0 < 0 then (some false) else (if a0_1 < 0 then (some false) else (if a0_2 < 0 then (some false) else (if a0_0 > 2147483647 then (some false) else (if a0_1 > 2147483647 then (some false) else (if a0_2 > 2147483647 then (some false) else (if a0_0 > 0 then (some true) else (some (a0_1 == 0))))))))
set_option maxRecDepth 100000 in
theorem garnerref22_May.calls (a0_0 : Int) (a0_1 : Int) (a0_2 : Int) (r : Bool) (w : World) (h : garnerref22_May.f a0_0 a0_1 a0_2 = some r) :
 Calls Try.prog 23 #[.agg #[.int .i64 a0_0, .int .i64 a0_1, .int .i64 a0_2]] w fun e w' => e = .returned (.bool r) ∧ Below w.heap.size w w' := by
 have hu24 := Try.underlying24
 have HB := Am (Below.refl w.heap.size w)
 unfold garnerref22_May.f at h
 have H := h
 clear h
 by_cases c2 : a0_0 < 0
 ·rw [if_pos c2] at H
  have c2b0 := decide_eq_true c2
  clear c2
  obtain rfl := Option.some.inj H
  go_enter Try.func23, Try.ntmps23
  go_wp2_with (first | ((with_reducible refine zD 1 rfl ?_); refine zE 1 #[.int .i64 a0_0, .int .i64 a0_1, .int .i64 a0_2] 24 ?_; intro Ab hg w3 hbox hb; have Aa := Am (hbox); have Ac := zA hg HB; replace HB := zB HB hb; have Ad := Ac; clear hb hbox hg; obtain ⟨_, _, _⟩ := bc3 Aa.out; obtain ⟨_, _, _⟩ := bf3 Aa.out))
  go_ret
  exact ⟨pX, pE HB.out Ad.out⟩
 rw [if_neg c2] at H
 have c2b0 := decide_eq_false c2
 clear c2
 by_cases c5 : a0_1 < 0
 ·rw [if_pos c5] at H
  have c5b0 := decide_eq_true c5
  clear c5
  obtain rfl := Option.some.inj H
  go_enter Try.func23, Try.ntmps23
  go_wp2_with (first | ((with_reducible refine zD 1 rfl ?_); refine zE 1 #[.int .i64 a0_0, .int .i64 a0_1, .int .i64 a0_2] 24 ?_; intro Ab hg w6 hbox hb; have Aa := Am (hbox); have Ac := zA hg HB; replace HB := zB HB hb; have Ad := Ac; clear hb hbox hg; obtain ⟨_, _, _⟩ := bc3 Aa.out; obtain ⟨_, _, _⟩ := bf3 Aa.out))
  go_ret
  exact ⟨pX, pE HB.out Ad.out⟩
 rw [if_neg c5] at H
 have c5b0 := decide_eq_false c5
 clear c5
 by_cases c8 : a0_2 < 0
 ·rw [if_pos c8] at H
  have c8b0 := decide_eq_true c8
  clear c8
  obtain rfl := Option.some.inj H
  go_enter Try.func23, Try.ntmps23
  go_wp2_with (first | ((with_reducible refine zD 1 rfl ?_); refine zE 1 #[.int .i64 a0_0, .int .i64 a0_1, .int .i64 a0_2] 24 ?_; intro Ab hg w9 hbox hb; have Aa := Am (hbox); have Ac := zA hg HB; replace HB := zB HB hb; have Ad := Ac; clear hb hbox hg; obtain ⟨_, _, _⟩ := bc3 Aa.out; obtain ⟨_, _, _⟩ := bf3 Aa.out))
  go_ret
  exact ⟨pX, pE HB.out Ad.out⟩
 rw [if_neg c8] at H
 have c8b0 := decide_eq_false c8
 clear c8
 by_cases c11 : a0_0 > 2147483647
 ·rw [if_pos c11] at H
  have c11b0 : decide (2147483647 < a0_0) = true := decide_eq_true c11
  clear c11
  obtain rfl := Option.some.inj H
  go_enter Try.func23, Try.ntmps23
  go_wp2_with (first | ((with_reducible refine zD 1 rfl ?_); refine zE 1 #[.int .i64 a0_0, .int .i64 a0_1, .int .i64 a0_2] 24 ?_; intro Ab hg w12 hbox hb; have Aa := Am (hbox); have Ac := zA hg HB; replace HB := zB HB hb; have Ad := Ac; clear hb hbox hg; obtain ⟨_, _, _⟩ := bc3 Aa.out; obtain ⟨_, _, _⟩ := bf3 Aa.out))
  go_ret
  exact ⟨pX, pE HB.out Ad.out⟩
 rw [if_neg c11] at H
 have c11b0 : decide (2147483647 < a0_0) = false := decide_eq_false c11
 clear c11
 by_cases c14 : a0_1 > 2147483647
 ·rw [if_pos c14] at H
  have c14b0 : decide (2147483647 < a0_1) = true := decide_eq_true c14
  clear c14
  obtain rfl := Option.some.inj H
  go_enter Try.func23, Try.ntmps23
  go_wp2_with (first | ((with_reducible refine zD 1 rfl ?_); refine zE 1 #[.int .i64 a0_0, .int .i64 a0_1, .int .i64 a0_2] 24 ?_; intro Ab hg w15 hbox hb; have Aa := Am (hbox); have Ac := zA hg HB; replace HB := zB HB hb; have Ad := Ac; clear hb hbox hg; obtain ⟨_, _, _⟩ := bc3 Aa.out; obtain ⟨_, _, _⟩ := bf3 Aa.out))
  go_ret
  exact ⟨pX, pE HB.out Ad.out⟩
 rw [if_neg c14] at H
 have c14b0 : decide (2147483647 < a0_1) = false := decide_eq_false c14
 clear c14
 by_cases c17 : a0_2 > 2147483647
 ·rw [if_pos c17] at H
  have c17b0 : decide (2147483647 < a0_2) = true := decide_eq_true c17
  clear c17
  obtain rfl := Option.some.inj H
  go_enter Try.func23, Try.ntmps23
  go_wp2_with (first | ((with_reducible refine zD 1 rfl ?_); refine zE 1 #[.int .i64 a0_0, .int .i64 a0_1, .int .i64 a0_2] 24 ?_; intro Ab hg w18 hbox hb; have Aa := Am (hbox); have Ac := zA hg HB; replace HB := zB HB hb; have Ad := Ac; clear hb hbox hg; obtain ⟨_, _, _⟩ := bc3 Aa.out; obtain ⟨_, _, _⟩ := bf3 Aa.out))
  go_ret
  exact ⟨pX, pE HB.out Ad.out⟩
 rw [if_neg c17] at H
 have c17b0 : decide (2147483647 < a0_2) = false := decide_eq_false c17
 clear c17
 by_cases c20 : a0_0 > 0
 ·rw [if_pos c20] at H
  have c20b0 : decide (0 < a0_0) = true := decide_eq_true c20
  clear c20
  obtain rfl := Option.some.inj H
  go_enter Try.func23, Try.ntmps23
  go_wp2_with (first | ((with_reducible refine zD 1 rfl ?_); refine zE 1 #[.int .i64 a0_0, .int .i64 a0_1, .int .i64 a0_2] 24 ?_; intro Ab hg w21 hbox hb; have Aa := Am (hbox); have Ac := zA hg HB; replace HB := zB HB hb; have Ad := Ac; clear hb hbox hg; obtain ⟨_, _, _⟩ := bc3 Aa.out; obtain ⟨_, _, _⟩ := bf3 Aa.out))
  go_ret
  exact ⟨pX, pE HB.out Ad.out⟩
 rw [if_neg c20] at H
 have c20b0 : decide (0 < a0_0) = false := decide_eq_false c20
 clear c20
 obtain rfl := Option.some.inj H
 go_enter Try.func23, Try.ntmps23
 go_wp2_with (first | ((with_reducible refine zD 1 rfl ?_); refine zE 1 #[.int .i64 a0_0, .int .i64 a0_1, .int .i64 a0_2] 24 ?_; intro Ab hg w23 hbox hb; have Aa := Am (hbox); have Ac := zA hg HB; replace HB := zB HB hb; have Ad := Ac; clear hb hbox hg; obtain ⟨_, _, _⟩ := bc3 Aa.out; obtain ⟨_, _, _⟩ := bf3 Aa.out))
 go_ret
 exact ⟨pX, pE HB.out Ad.out⟩
def garnerref23_counts.f (a0 : Int) : Option (Bool) := if a0 ≥ 1 then (some (decide (a0 ≤ 2147483647))) else (some false)
set_option maxRecDepth 100000 in
theorem garnerref23_counts.calls (a0 : Int) (r : Bool) (w : World) (h : garnerref23_counts.f a0 = some r) :
 Calls Try.prog 51 #[.int .i64 a0] w fun e w' => e = .returned (.bool r) ∧ Drawn0 w w' := by
 unfold garnerref23_counts.f at h
 have H := h
 clear h
 by_cases c2 : a0 ≥ 1
 ·rw [if_pos c2] at H
  have c2b0 : decide (1 ≤ a0) = true := decide_eq_true c2
  clear c2
  obtain rfl := Option.some.inj H
  go_enter Try.func51, Try.ntmps51
  go_wp2
  go_ret
  exact ⟨zr, zd⟩
 rw [if_neg c2] at H
 have c2b0 : decide (1 ≤ a0) = false := decide_eq_false c2
 clear c2
 obtain rfl := Option.some.inj H
 go_enter Try.func51, Try.ntmps51
 go_wp2
 go_ret
 exact ⟨zr, zd⟩
end
end Go.Proofs.Ytmcijphmcobjlaa.PWalMakes
