/- What the law reaches, as plain Lean functions, and that the machine's calls answer just that. -/
import Derived.Test.YtdanmjfkocjgjaaPWalGetsx0
import Derived.Test.YtdanmjfkocjgjaaPWalGetsx5
import Derived.Test.YtdanmjfkocjgjaaPWalGetsx9
import Derived.Test.YtdanmjfkocjgjaaPWalGetsx11
namespace Go.Proofs.Ytdanmjfkocjgjaa.PWalGets
open Go.RowKit Go.Proofs.YtdanmjfkocjgjaaW.PrintWords Go.Proofs.YtdanmjfkocjgjaaW.PrintLast Go.Proofs.YtdanmjfkocjgjaaW.PrintMore
attribute [local go_sem] max2_int min2_int max_two min_two max_three min_three max_four min_four
set_option linter.unusedVariables false
set_option linter.unusedSimpArgs false
attribute [local go_sem] wrap64_l1 wrap64_l2 wrap64_l3 wrap64_l4 wrap64_l5
/-- The taker's block: a cut of a row that came in, and its sign. -/
def entry_Get.Tk (Ad : Nat) (A : Option Addr) (n c : Nat) (bad : Bool) (w : World) : Prop := w.heap[Ad]? = some (.cells #[.slice A n c, .bool bad] 88 (0, 0))
def entry_Get.t_number.f (k : Nat) (l : List Int) (bad : Bool) (most : Int) : Option (Int × List Int × Bool) :=
 (varint_Get.f k l).bind fun g => if bad = true then some (0, l, true) else if g.2.2 = 0 then (if g.1 > IntKind.u64.wrap most then some (0, l, true) else if 0 ≤ g.2.1 ∧ g.2.1 ≤ (l.length : Int) then some (wrap64 g.1, l.drop g.2.1.toNat, false) else none) else some (0, l, true)
set_option maxHeartbeats 2000000 in
set_option maxRecDepth 100000 in
theorem entry_Get.t_number.calls (k : Nat) (Ad : Nat) (A0 : Option Addr) (c0 : Nat) (l0 : List Int) (bad : Bool) (most : Int) (r : Int) (l1 : List Int) (b1 : Bool) (w0 w : World) (hr0 : Kd.C (Kd.int .u8) w0 A0 l0.length l0) (hc0 : l0.length ≤ c0) (hB : Below w0.heap.size w0 w) (hn : w0.heap.size ≤ Ad) (hT : entry_Get.Tk Ad A0 l0.length c0 bad w) (h : entry_Get.t_number.f k l0 bad most = some (r, l1, b1)) :
 Calls Try.prog 41 #[.pointer (some ⟨Ad, 0, none⟩), .int .i64 most] w fun e w' => e = .returned (.int .i64 r) ∧ ∃ A1 c1, Kd.C (Kd.int .u8) w0 A1 l1.length l1 ∧ l1.length ≤ c1 ∧ entry_Get.Tk Ad A1 l1.length c1 b1 w' ∧ KeepBut w w' Ad none ∧ Below w0.heap.size w0 w' := by
 unfold entry_Get.t_number.f at h
 replace h := Option.bind_eq_some_iff.mp h
 obtain ⟨⟨u, n, e⟩, hg, h⟩ := h
 simp only at h
 have HR := Aside0.mk (Kd.C_below hr0 hB)
 have HR0 := Aside0.mk hr0
 have HC := Aside0.mk hc0
 have HG := Aside0.mk hg
 have HBB := Aside0.mk hB
 have hT' : w.heap[Ad]? = some (.cells #[.slice A0 l0.length c0, .bool bad] 88 (0, 0)) := hT
 have hc1 : w.cell? ⟨Ad, 0, none⟩ = some (.slice A0 l0.length c0) := by simp [World.cell?, hT']
 have hc2 : w.cell? ⟨Ad, 1, none⟩ = some (.bool bad) := by simp [World.cell?, hT']
 clear hr0 hc0 hg
 have hc3 : w.frozen? ⟨Ad, 0, none⟩ = false := blk_frozen hT' 0
 have hc4 : w.frozen? ⟨Ad, 1, none⟩ = false := blk_frozen hT' 1
 have HT := Aside0.mk hT'
 have hmost : IntKind.u64.wrap most = IntKind.u64.wrap most := rfl
 have fail : ∀ nd, ((0 : Int), l0, true) = (r, l1, b1) → (Ending.returned (.int .i64 0) = .returned (.int .i64 r) ∧ ∃ A1 c1, Kd.C (Kd.int .u8) w0 A1 l1.length l1 ∧ l1.length ≤ c1 ∧ entry_Get.Tk Ad A1 l1.length c1 b1 ((w.drewN nd).setCell ⟨Ad, 1, none⟩ (.bool true)) ∧ KeepBut w ((w.drewN nd).setCell ⟨Ad, 1, none⟩ (.bool true)) Ad none ∧ Below w0.heap.size w0 ((w.drewN nd).setCell ⟨Ad, 1, none⟩ (.bool true))) := by
  intro nd he
  simp only [Prod.mk.injEq] at he
  obtain ⟨rfl, rfl, rfl⟩ := he
  refine ⟨rfl, A0, c0, HR0.out, HC.out, ?_, ?_, ?_⟩
  ·exact blk_set (w := w.drewN nd) HT.out 1 _
  ·exact KeepBut.set_ (KeepBut.of_below (pw_below_drewN (Below.refl _ _) nd) Ad none) 1 _
  ·exact (pw_below_drewN HBB.out nd).setCell hn _
 clear hmost hB hT hT'
 by_cases b0 : bad = true
 ·subst b0
  rw [if_pos rfl] at h
  have H := Aside0.mk (Option.some.inj h); clear h
  go_enter Try.func41, Try.ntmps41
  go_wp2_with (go_at_call 19; refine (varint_Get.calls k _ _ l0 u n e _ HR.out HC.out HG.out).mono ?_; rintro e w' ⟨rfl, ⟨nd, rfl⟩⟩)
  go_ret
  exact fail _ H.out
 obtain rfl : bad = false := by simpa using b0
 rw [if_neg (by simp)] at h
 by_cases b1 : e = 0
 ·subst b1
  rw [if_pos rfl] at h
  by_cases b2 : u > IntKind.u64.wrap most
  ·rw [if_pos b2] at h
   have H := Aside0.mk (Option.some.inj h); clear h
   have b2' : decide (u > IntKind.u64.wrap most) = true := decide_eq_true b2
   clear b2
   go_enter Try.func41, Try.ntmps41
   go_wp2_with (go_at_call 19; refine (varint_Get.calls k _ _ l0 u n 0 _ HR.out HC.out HG.out).mono ?_; rintro e w' ⟨rfl, ⟨nd, rfl⟩⟩)
   go_ret
   exact fail _ H.out
  ·rw [if_neg b2] at h
   by_cases b3 : 0 ≤ n ∧ n ≤ (l0.length : Int)
   ·rw [if_pos b3] at h
    have H := Aside0.mk (Option.some.inj h)
    clear h
    have b2' : decide (u > IntKind.u64.wrap most) = false := decide_eq_false b2
    clear b2
    obtain ⟨i0, hi0, _, Ar, _⟩ := info_parts info5
    obtain ⟨A1, hcut, hA, hAc⟩ := print_drop_of (P := Try.prog) (Value.int .u8) 0 22 5 .i64 Try.underlying22 hi0 Ar A0 c0 l0 n b3.1 b3.2 HC.out
    have HR1 := Aside0.mk (Kd.C_of_reads (h1 := fun _ => rfl) (hA _ (Kd.reads_of_C HR0.out)))
    have HC1 := Aside0.mk hAc
    have HL := Aside0.mk b3
    clear hA hAc hi0 Ar b3
    go_enter Try.func41, Try.ntmps41
    go_wp2_with (go_at_call 19; refine (varint_Get.calls k _ _ l0 u n 0 _ HR.out HC.out HG.out).mono ?_; rintro e w' ⟨rfl, ⟨nd, rfl⟩⟩)
    go_ret
    have HE := H.out
    simp only [Prod.mk.injEq] at HE
    obtain ⟨rfl, rfl, rfl⟩ := HE
    have hlen : (l0.drop n.toNat).length = l0.length - n.toNat := List.length_drop
    refine ⟨rfl, A1, _, HR1.out, HC1.out, ?_, ?_, ?_⟩
    ·rw [hlen]; exact blk_set (w := w.drewN nd) HT.out 0 _
    ·exact KeepBut.set_ (KeepBut.of_below (pw_below_drewN (Below.refl _ _) nd) Ad none) 0 _
    ·exact (pw_below_drewN HBB.out nd).setCell hn _
   ·rw [if_neg b3] at h
    exact absurd h (by simp)
 ·rw [if_neg b1] at h
  have H := Aside0.mk (Option.some.inj h); clear h
  have b1' : (e != 0) = true := bne_iff_ne.mpr b1
  have b1'' : (e == 0) = false := beq_eq_false_iff_ne.mpr b1
  clear b1
  go_enter Try.func41, Try.ntmps41
  go_wp2_with (go_at_call 19; refine (varint_Get.calls k _ _ l0 u n e _ HR.out HC.out HG.out).mono ?_; rintro e w' ⟨rfl, ⟨nd, rfl⟩⟩)
  go_ret
  exact fail _ H.out
def entry_Get.t_bytes.f (l : List Int) (bad : Bool) (n : Int) : Option (List Int × List Int × Bool) :=
 if bad = true then some ([], l, true) else if n > (l.length : Int) then some ([], l, true) else if 0 ≤ n then some (l.take n.toNat, l.drop n.toNat, false) else none
set_option maxHeartbeats 2000000 in
set_option maxRecDepth 100000 in
theorem entry_Get.t_bytes.calls (Ad : Nat) (A0 : Option Addr) (c0 : Nat) (l0 : List Int) (bad : Bool) (n : Int) (r : List Int) (l1 : List Int) (b1 : Bool) (w0 w : World) (hr0 : Kd.C (Kd.int .u8) w0 A0 l0.length l0) (hc0 : l0.length ≤ c0) (hB : Below w0.heap.size w0 w) (hn : w0.heap.size ≤ Ad) (hT : entry_Get.Tk Ad A0 l0.length c0 bad w) (h : entry_Get.t_bytes.f l0 bad n = some (r, l1, b1)) :
 Calls Try.prog 65 #[.pointer (some ⟨Ad, 0, none⟩), .int .i64 n] w fun e w' => ∃ A2 c2 A1 c1, e = .returned (.slice A2 r.length c2) ∧ Kd.C (Kd.int .u8) w0 A2 r.length r ∧ r.length ≤ c2 ∧ Kd.C (Kd.int .u8) w0 A1 l1.length l1 ∧ l1.length ≤ c1 ∧ entry_Get.Tk Ad A1 l1.length c1 b1 w' ∧ KeepBut w w' Ad none ∧ Below w0.heap.size w0 w' := by
 unfold entry_Get.t_bytes.f at h
 have HR0 := Aside0.mk hr0
 have HC := Aside0.mk hc0
 have HBB := Aside0.mk hB
 have hT' : w.heap[Ad]? = some (.cells #[.slice A0 l0.length c0, .bool bad] 88 (0, 0)) := hT
 have hc1 : w.cell? ⟨Ad, 0, none⟩ = some (.slice A0 l0.length c0) := by simp [World.cell?, hT']
 have hc2 : w.cell? ⟨Ad, 1, none⟩ = some (.bool bad) := by simp [World.cell?, hT']
 have hc3 : w.frozen? ⟨Ad, 0, none⟩ = false := blk_frozen hT' 0
 have hc4 : w.frozen? ⟨Ad, 1, none⟩ = false := blk_frozen hT' 1
 have HT := Aside0.mk hT'
 have fail : (([] : List Int), l0, true) = (r, l1, b1) → ∃ A2 c2 A1 c1, Ending.returned (.slice none 0 0) = .returned (.slice A2 r.length c2) ∧ Kd.C (Kd.int .u8) w0 A2 r.length r ∧ r.length ≤ c2 ∧ Kd.C (Kd.int .u8) w0 A1 l1.length l1 ∧ l1.length ≤ c1 ∧ entry_Get.Tk Ad A1 l1.length c1 b1 (w.setCell ⟨Ad, 1, none⟩ (.bool true)) ∧ KeepBut w (w.setCell ⟨Ad, 1, none⟩ (.bool true)) Ad none ∧ Below w0.heap.size w0 (w.setCell ⟨Ad, 1, none⟩ (.bool true)) := by
  intro he
  simp only [Prod.mk.injEq] at he
  obtain ⟨rfl, rfl, rfl⟩ := he
  refine ⟨none, 0, A0, c0, rfl, Kd.C_nil _ _, Nat.le_refl _, HR0.out, HC.out, ?_, ?_, ?_⟩
  ·exact blk_set HT.out 1 _
  ·exact KeepBut.set_ (KeepBut.refl _ _ _) 1 _
  ·exact HBB.out.setCell hn _
 clear hB hT hT' hr0 hc0
 by_cases b0 : bad = true
 ·subst b0
  rw [if_pos rfl] at h
  have H := Aside0.mk (Option.some.inj h); clear h
  go_enter Try.func65, Try.ntmps65
  go_wp2
  go_ret
  exact fail H.out
 obtain rfl : bad = false := by simpa using b0
 rw [if_neg (by simp)] at h
 by_cases b2 : n > (l0.length : Int)
 ·rw [if_pos b2] at h
  have H := Aside0.mk (Option.some.inj h); clear h
  have b2' : decide ((l0.length : Int) < n) = true := decide_eq_true b2
  clear b2
  go_enter Try.func65, Try.ntmps65
  go_wp2
  go_ret
  exact fail H.out
 ·rw [if_neg b2] at h
  by_cases b3 : 0 ≤ n
  ·rw [if_pos b3] at h
   have H := Aside0.mk (Option.some.inj h)
   clear h
   have b2' : decide ((l0.length : Int) < n) = false := decide_eq_false b2
   have b4 : n ≤ (l0.length : Int) := by omega
   clear b2
   obtain ⟨i0, hi0, _, Ar, _⟩ := info_parts info5
   obtain ⟨A1, hcut, hA, hAc⟩ := print_drop_of (P := Try.prog) (Value.int .u8) 0 22 5 .i64 Try.underlying22 hi0 Ar A0 c0 l0 n b3 b4 HC.out
   obtain ⟨hcut2, hA2, hAc2⟩ := print_take_of (P := Try.prog) (Value.int .u8) 0 22 5 .i64 Try.underlying22 hi0 Ar A0 c0 l0 n b3 b4 HC.out
   have HR1 := Aside0.mk (Kd.C_of_reads (h1 := fun _ => rfl) (hA _ (Kd.reads_of_C HR0.out)))
   have HR2 := Aside0.mk (Kd.C_of_reads (h1 := fun _ => rfl) (hA2 _ (Kd.reads_of_C HR0.out)))
   have HC1 := Aside0.mk hAc
   have HC2 := Aside0.mk hAc2
   have HL := Aside0.mk (And.intro b3 b4)
   clear hA hAc hi0 Ar b3 b4 hA2 hAc2
   go_enter Try.func65, Try.ntmps65
   go_wp2
   go_ret
   have HE := H.out
   simp only [Prod.mk.injEq] at HE
   obtain ⟨rfl, rfl, rfl⟩ := HE
   have hlen : (l0.drop n.toNat).length = l0.length - n.toNat := List.length_drop
   have hlen2 : (l0.take n.toNat).length = min n.toNat l0.length := List.length_take
   refine ⟨A0, _, A1, _, ?_, HR2.out, HC2.out, HR1.out, HC1.out, ?_, ?_, ?_⟩
   ·rw [hlen2]; rfl
   ·rw [hlen]; exact blk_set HT.out 0 _
   ·exact KeepBut.set_ (KeepBut.refl _ _ _) 0 _
   ·exact HBB.out.setCell hn _
  ·rw [if_neg b3] at h
   exact absurd h (by simp)
theorem entry_Get.six_blk {w : World} {k g : Nat} {o : Option Obj} {v0 v1 v2 v3 v4 v5 : Value} {i0 i1 i2 i3 i4 i5 : Nat} (hk : k ≠ g) (h : w.heap[k]? = o) : ((((((w.setCell ⟨g, i0, none⟩ v0).setCell ⟨g, i1, none⟩ v1).setCell ⟨g, i2, none⟩ v2).setCell ⟨g, i3, none⟩ v3).setCell ⟨g, i4, none⟩ v4).setCell ⟨g, i5, none⟩ v5).heap[k]? = o := by
 exact (Below.heap_setCell _ ⟨g, i5, none⟩ _ k hk).trans <| (Below.heap_setCell _ ⟨g, i4, none⟩ _ k hk).trans <| (Below.heap_setCell _ ⟨g, i3, none⟩ _ k hk).trans <| (Below.heap_setCell _ ⟨g, i2, none⟩ _ k hk).trans <| (Below.heap_setCell _ ⟨g, i1, none⟩ _ k hk).trans <| (Below.heap_setCell _ ⟨g, i0, none⟩ _ k hk).trans <| h
theorem entry_Get.six_keep {w W : World} {a g : Nat} {row : Option Nat} {v0 v1 v2 v3 v4 v5 : Value} {i0 i1 i2 i3 i4 i5 : Nat} (h : KeepBut w W a row) (hg : w.heap.size ≤ g) : KeepBut w ((((((W.setCell ⟨g, i0, none⟩ v0).setCell ⟨g, i1, none⟩ v1).setCell ⟨g, i2, none⟩ v2).setCell ⟨g, i3, none⟩ v3).setCell ⟨g, i4, none⟩ v4).setCell ⟨g, i5, none⟩ v5) a row :=
 keep_far (keep_far (keep_far (keep_far (keep_far (keep_far h hg _) hg _) hg _) hg _) hg _) hg _
theorem entry_Get.six_below {B : Nat} {w W : World} {g : Nat} {v0 v1 v2 v3 v4 v5 : Value} {i0 i1 i2 i3 i4 i5 : Nat} (h : Below B w W) (hg : B ≤ g) : Below B w ((((((W.setCell ⟨g, i0, none⟩ v0).setCell ⟨g, i1, none⟩ v1).setCell ⟨g, i2, none⟩ v2).setCell ⟨g, i3, none⟩ v3).setCell ⟨g, i4, none⟩ v4).setCell ⟨g, i5, none⟩ v5) :=
 (((((h.setCell hg _).setCell hg _).setCell hg _).setCell hg _).setCell hg _).setCell hg _
def entry_Get.t_cell.f (k : Nat) (l : List Int) (bad : Bool) : Option (Bool × List Int × Int × Int × Int × Int × List Int × Bool) :=
 (cell_Get.f k l).bind fun g => if bad = true then some (false, [], 0, 0, 0, 0, l, true) else if g.2.2.2.2.2.2.2 = 0 then (if 0 ≤ g.2.2.2.2.2.2.1 ∧ g.2.2.2.2.2.2.1 ≤ (l.length : Int) then some (g.1, g.2.1, g.2.2.1, g.2.2.2.1, g.2.2.2.2.1, g.2.2.2.2.2.1, l.drop g.2.2.2.2.2.2.1.toNat, false) else none) else some (false, [], 0, 0, 0, 0, l, true)
set_option maxHeartbeats 2000000 in
set_option maxRecDepth 100000 in
theorem entry_Get.t_cell.calls (k : Nat) (Ad : Nat) (A0 : Option Addr) (c0 : Nat) (l0 : List Int) (bad : Bool) (r1 : Bool) (r2 : List Int) (r3 r4 r5 r6 : Int) (l1 : List Int) (b1 : Bool) (w0 w : World) (hr0 : Kd.C (Kd.int .u8) w0 A0 l0.length l0) (hc0 : l0.length ≤ c0) (hB : Below w0.heap.size w0 w) (hn : w0.heap.size ≤ Ad) (hT : entry_Get.Tk Ad A0 l0.length c0 bad w) (h : entry_Get.t_cell.f k l0 bad = some (r1, r2, r3, r4, r5, r6, l1, b1)) :
 Calls Try.prog 66 #[.pointer (some ⟨Ad, 0, none⟩)] w fun e w' => ∃ v A1 c1, e = .returned (.agg #[.bool r1, v, .int .i64 r3, .int .i64 r4, .int .i64 r5, .int .u32 r6]) ∧ Kd.R (Kd.int .u8) 5 w' w.heap.size (fun _ => True) v r2 ∧ Kd.C (Kd.int .u8) w0 A1 l1.length l1 ∧ l1.length ≤ c1 ∧ entry_Get.Tk Ad A1 l1.length c1 b1 w' ∧ KeepBut w w' Ad none ∧ Below w0.heap.size w0 w' := by
 unfold entry_Get.t_cell.f at h
 replace h := Option.bind_eq_some_iff.mp h
 obtain ⟨⟨g1, g2, g3, g4, g5, g6, n, e⟩, hg, h⟩ := h
 simp only at h
 have hu40 := Try.underlying50
 have hu38 := Try.underlying48
 have HR := Aside0.mk (Kd.C_below hr0 hB)
 have HR0 := Aside0.mk hr0
 have HC := Aside0.mk hc0
 have HG := Aside0.mk hg
 have HBB := Aside0.mk hB
 have hT' : w.heap[Ad]? = some (.cells #[.slice A0 l0.length c0, .bool bad] 88 (0, 0)) := hT
 have hc1 : w.cell? ⟨Ad, 0, none⟩ = some (.slice A0 l0.length c0) := by simp [World.cell?, hT']
 have HT := Aside0.mk hT'
 have hAd := Aside0.mk (blk_lt hT')
 clear hr0 hc0 hg hT hT' hB
 have key : ∀ w1 : World, Below w.heap.size w w1 → w1.heap[Ad]? = some (.cells #[.slice A0 l0.length c0, .bool bad] 88 (0, 0)) := fun w1 hb => blk_below HT.out hb
 by_cases b0 : bad = true
 ·subst b0
  rw [if_pos rfl] at h
  have H := Aside0.mk (Option.some.inj h); clear h
  go_enter Try.func66, Try.ntmps66
  go_upto_region 1 with (first | ((with_reducible refine gate_dst (N := 2) rfl ?_); refine zE 2 #[.bool false, .slice none 0 0, .int .i64 0, .int .i64 0, .int .i64 0, .int .u32 0] 50 ?_; intro Bx hgx w3 hbox hb0; have hx := key _ hb0;  have d0 : w3.cell? ⟨Ad, 0, none⟩ = some (.slice A0 l0.length c0) := (by simp [World.cell?, hx]); have HX0 := Aside0.mk hx; have HBX := Aside0.mk hbox; have HB0 := Aside0.mk hb0; have HGX := Aside0.mk hgx; clear hx hbox hb0 hgx))
  go_wp2_with (first | (go_at_call 78; go_loud (refine (cell_Get.calls k _ _ l0 g1 g2 g3 g4 g5 g6 n e _ (Kd.C_below HR.out HB0.out) HC.out HG.out).mono ?_; rintro e w1 ⟨v1, rfl, hR, hb⟩; obtain ⟨Av, cv, rfl⟩ := Kd.R_slice hR; have HX1 := Aside0.mk (blk_below HX0.out hb); have HRR := Aside0.mk hR; have HB := Aside0.mk hb; have HBX1 := Aside0.mk (blk_below HBX.out hb); clear hR hb)) | ((with_reducible refine gate_dst (N := 3) rfl ?_); go_loud (refine zE 3 #[.bool false, .slice none 0 0, .int .i64 0, .int .i64 0, .int .i64 0, .int .u32 0] 50 ?_; intro By hgy w4 hboy hb1; have hx := blk_below HX1.out hb1; have d0 : w4.cell? ⟨Ad, 0, none⟩ = some (.slice A0 l0.length c0) := (by simp [World.cell?, hx]); have d1 : w4.cell? ⟨Ad, 1, none⟩ = some (.bool true) := (by simp [World.cell?, hx]); have d2 := blk_frozen hx 0; have d3 := blk_frozen hx 1; have hbx := blk_below HBX1.out hb1; obtain ⟨_, _, _, _, _, _⟩ := bc6 hbx; obtain ⟨_, _, _, _, _, _⟩ := bf6 hbx;  obtain ⟨_, _, _, _, _, _⟩ := bc6 hboy; obtain ⟨_, _, _, _, _, _⟩ := bf6 hboy; have HX := Aside0.mk hx; have HB1 := Aside0.mk hb1; have HBX2 := Aside0.mk hbx; have HBY := Aside0.mk hboy; have n1 : Ad ≠ Bx := (by have := hAd.out; have := HGX.out; omega); have n2 : Ad ≠ By := (by have := hAd.out; have := HB0.out.size; have := HB.out.size; omega); have n3 : Bx ≠ By := (by have := blk_lt HBX1.out; omega); have HGY := Aside0.mk hgy; clear hx hb1 hbx hboy hgy)))
  refine bodyPost_ret (results_cell_row rfl _ _ Bx 50 #[.bool false, .slice none 0 0, .int .i64 0, .int .i64 0, .int .i64 0, .int .u32 0] (0, 0) _ rfl (kX2 HBX2.out (n1 ∘ Eq.symm) n3) Try.underlying50 rfl (by kernel_rfl)) rfl ?_
  have HE := H.out
  simp only [Prod.mk.injEq] at HE
  obtain ⟨rfl, rfl, rfl, rfl, rfl, rfl, rfl, rfl⟩ := HE
  refine ⟨.slice none 0 0, A0, c0, rfl, Kd.R_nil _ _ _ _ _, HR0.out, HC.out, ?_, ?_, ?_⟩
  ·have q1 : w4.heap[Ad]? = some (.cells #[.slice A0 l0.length c0, .bool true] 88 (0, 0)) := HX.out
   refine entry_Get.six_blk (g := Bx) n1 ?_
   refine (blk_set (entry_Get.six_blk (g := By) n2 q1) 1 _).trans ?_
   rfl
  ·have q0 : Below w.heap.size w w4 := below_step (below_step HB0.out HB.out) HB1.out
   have y1 : w.heap.size ≤ Bx := by have := HGX.out; omega
   have y2 : w.heap.size ≤ By := by have := HGY.out; have := HB0.out.size; have := HB.out.size; omega
   have q1 : KeepBut w w4 Ad none := KeepBut.of_below q0 Ad none
   refine entry_Get.six_keep (g := Bx) (KeepBut.set_ (entry_Get.six_keep (g := By) q1 y2) _ _) y1
  ·have q0 : Below w.heap.size w w4 := below_step (below_step HB0.out HB.out) HB1.out
   have y1 : w.heap.size ≤ Bx := by have := HGX.out; omega
   have y2 : w.heap.size ≤ By := by have := HGY.out; have := HB0.out.size; have := HB.out.size; omega
   have y0 := HBB.out.size
   have y3 : w0.heap.size ≤ Bx := by omega
   have y4 : w0.heap.size ≤ By := by omega
   have q1 : Below w0.heap.size w0 w4 := HBB.out.trans (q0.mono y0)
   refine entry_Get.six_below (g := Bx) (Below.setCell (entry_Get.six_below (g := By) q1 y4) hn _) y3
 obtain rfl : bad = false := by simpa using b0
 rw [if_neg (by simp)] at h
 by_cases b1 : e = 0
 ·subst b1
  rw [if_pos rfl] at h
  by_cases b3 : 0 ≤ n ∧ n ≤ (l0.length : Int)
  ·rw [if_pos b3] at h
   have H := Aside0.mk (Option.some.inj h)
   clear h
   obtain ⟨i0, hi0, _, Ar, _⟩ := info_parts info5
   obtain ⟨A1, hcut, hA, hAc⟩ := print_drop_of (P := Try.prog) (Value.int .u8) 0 22 5 .i64 Try.underlying22 hi0 Ar A0 c0 l0 n b3.1 b3.2 HC.out
   have HR1 := Aside0.mk (Kd.C_of_reads (h1 := fun _ => rfl) (hA _ (Kd.reads_of_C HR0.out)))
   have HC1 := Aside0.mk hAc
   clear hA hAc hi0 Ar b3
   go_enter Try.func66, Try.ntmps66
   go_upto_region 1 with (first | ((with_reducible refine gate_dst (N := 2) rfl ?_); refine zE 2 #[.bool false, .slice none 0 0, .int .i64 0, .int .i64 0, .int .i64 0, .int .u32 0] 50 ?_; intro Bx hgx w3 hbox hb0; have hx := key _ hb0;  have d0 : w3.cell? ⟨Ad, 0, none⟩ = some (.slice A0 l0.length c0) := (by simp [World.cell?, hx]); have HX0 := Aside0.mk hx; have HBX := Aside0.mk hbox; have HB0 := Aside0.mk hb0; have HGX := Aside0.mk hgx; clear hx hbox hb0 hgx))
   go_wp2_with (first | (go_at_call 78; go_loud (refine (cell_Get.calls k _ _ l0 g1 g2 g3 g4 g5 g6 n 0 _ (Kd.C_below HR.out HB0.out) HC.out HG.out).mono ?_; rintro e w1 ⟨v1, rfl, hR, hb⟩; obtain ⟨Av, cv, rfl⟩ := Kd.R_slice hR; have HX1 := Aside0.mk (blk_below HX0.out hb); have HRR := Aside0.mk hR; have HB := Aside0.mk hb; have HBX1 := Aside0.mk (blk_below HBX.out hb); clear hR hb)) | ((with_reducible refine gate_dst (N := 3) rfl ?_); go_loud (refine zE 3 #[.bool false, .slice none 0 0, .int .i64 0, .int .i64 0, .int .i64 0, .int .u32 0] 50 ?_; intro By hgy w4 hboy hb1; have hx := blk_below HX1.out hb1; have d0 : w4.cell? ⟨Ad, 0, none⟩ = some (.slice A0 l0.length c0) := (by simp [World.cell?, hx]); have d1 : w4.cell? ⟨Ad, 1, none⟩ = some (.bool false) := (by simp [World.cell?, hx]); have d2 := blk_frozen hx 0; have d3 := blk_frozen hx 1; have hbx := blk_below HBX1.out hb1; obtain ⟨_, _, _, _, _, _⟩ := bc6 hbx; obtain ⟨_, _, _, _, _, _⟩ := bf6 hbx;  obtain ⟨_, _, _, _, _, _⟩ := bc6 hboy; obtain ⟨_, _, _, _, _, _⟩ := bf6 hboy; have HX := Aside0.mk hx; have HB1 := Aside0.mk hb1; have HBX2 := Aside0.mk hbx; have HBY := Aside0.mk hboy; have n1 : Ad ≠ Bx := (by have := hAd.out; have := HGX.out; omega); have n2 : Ad ≠ By := (by have := hAd.out; have := HB0.out.size; have := HB.out.size; omega); have n3 : Bx ≠ By := (by have := blk_lt HBX1.out; omega); have HGY := Aside0.mk hgy; clear hx hb1 hbx hboy hgy)))
   refine bodyPost_ret (results_cell_row rfl _ _ Bx 50 #[.bool g1, .slice Av g2.length cv, .int .i64 g3, .int .i64 g4, .int .i64 g5, .int .u32 g6] (0, 0) _ rfl (kX2 HBX2.out (n1 ∘ Eq.symm) n3) Try.underlying50 rfl (by kernel_rfl)) rfl ?_
   have HE := H.out
   simp only [Prod.mk.injEq] at HE
   obtain ⟨rfl, rfl, rfl, rfl, rfl, rfl, rfl, rfl⟩ := HE
   have q0 : Below w.heap.size w w4 := below_step (below_step HB0.out HB.out) HB1.out
   have s1 := HB0.out.size
   have s2 := HB.out.size
   have s3 := HB1.out.size
   have y1 : w.heap.size ≤ Bx := by have := HGX.out; omega
   have y2 : w.heap.size ≤ By := by have := HGY.out; omega
   have y0 := HBB.out.size
   have y3 : w0.heap.size ≤ Bx := by omega
   have y4 : w0.heap.size ≤ By := by omega
   have hlen : (l0.drop n.toNat).length = l0.length - n.toNat := List.length_drop
   refine ⟨.slice Av g2.length cv, A1, _, rfl, ?_, HR1.out, HC1.out, ?_, ?_, ?_⟩
   ·refine Kd.R_lower (Kd.R_mono (Kd.R_step (Kd.R_bound HRR.out) (fun k hk _ => ?_)) (fun _ _ => trivial)) s1
    obtain ⟨_, k1, k2, _⟩ := hk
    have hAd' := hAd.out
    have hBx' := HGX.out
    have hBy' := HGY.out
    have t1 := blk_lt HBX.out
    exact entry_Get.six_blk (g := Bx) (by omega) ((Below.heap_setCell _ ⟨Ad, 0, none⟩ _ k (by show k ≠ Ad; omega)).trans (entry_Get.six_blk (g := By) (by omega) (HB1.out.block k k2)))
   ·have q1 : w4.heap[Ad]? = some (.cells #[.slice A0 l0.length c0, .bool false] 88 (0, 0)) := HX.out
    rw [hlen]
    refine entry_Get.six_blk (g := Bx) n1 ?_
    refine (blk_set (entry_Get.six_blk (g := By) n2 q1) 0 _).trans ?_
    rfl
   ·have q1 : KeepBut w w4 Ad none := KeepBut.of_below q0 Ad none
    refine entry_Get.six_keep (g := Bx) (KeepBut.set_ (entry_Get.six_keep (g := By) q1 y2) _ _) y1
   ·have q1 : Below w0.heap.size w0 w4 := HBB.out.trans (q0.mono y0)
    refine entry_Get.six_below (g := Bx) (Below.setCell (entry_Get.six_below (g := By) q1 y4) hn _) y3
  ·rw [if_neg b3] at h
   exact absurd h (by simp)
 ·rw [if_neg b1] at h
  have H := Aside0.mk (Option.some.inj h)
  clear h
  have b1' : (e != 0) = true := bne_iff_ne.mpr b1
  have b1'' : (e == 0) = false := beq_eq_false_iff_ne.mpr b1
  clear b1
  go_enter Try.func66, Try.ntmps66
  go_upto_region 1 with (first | ((with_reducible refine gate_dst (N := 2) rfl ?_); refine zE 2 #[.bool false, .slice none 0 0, .int .i64 0, .int .i64 0, .int .i64 0, .int .u32 0] 50 ?_; intro Bx hgx w3 hbox hb0; have hx := key _ hb0;  have d0 : w3.cell? ⟨Ad, 0, none⟩ = some (.slice A0 l0.length c0) := (by simp [World.cell?, hx]); have HX0 := Aside0.mk hx; have HBX := Aside0.mk hbox; have HB0 := Aside0.mk hb0; have HGX := Aside0.mk hgx; clear hx hbox hb0 hgx))
  go_wp2_with (first | (go_at_call 78; go_loud (refine (cell_Get.calls k _ _ l0 g1 g2 g3 g4 g5 g6 n e _ (Kd.C_below HR.out HB0.out) HC.out HG.out).mono ?_; rintro e w1 ⟨v1, rfl, hR, hb⟩; obtain ⟨Av, cv, rfl⟩ := Kd.R_slice hR; have HX1 := Aside0.mk (blk_below HX0.out hb); have HRR := Aside0.mk hR; have HB := Aside0.mk hb; have HBX1 := Aside0.mk (blk_below HBX.out hb); clear hR hb)) | ((with_reducible refine gate_dst (N := 3) rfl ?_); go_loud (refine zE 3 #[.bool false, .slice none 0 0, .int .i64 0, .int .i64 0, .int .i64 0, .int .u32 0] 50 ?_; intro By hgy w4 hboy hb1; have hx := blk_below HX1.out hb1; have d0 : w4.cell? ⟨Ad, 0, none⟩ = some (.slice A0 l0.length c0) := (by simp [World.cell?, hx]); have d1 : w4.cell? ⟨Ad, 1, none⟩ = some (.bool false) := (by simp [World.cell?, hx]); have d2 := blk_frozen hx 0; have d3 := blk_frozen hx 1; have hbx := blk_below HBX1.out hb1; obtain ⟨_, _, _, _, _, _⟩ := bc6 hbx; obtain ⟨_, _, _, _, _, _⟩ := bf6 hbx;  obtain ⟨_, _, _, _, _, _⟩ := bc6 hboy; obtain ⟨_, _, _, _, _, _⟩ := bf6 hboy; have HX := Aside0.mk hx; have HB1 := Aside0.mk hb1; have HBX2 := Aside0.mk hbx; have HBY := Aside0.mk hboy; have n1 : Ad ≠ Bx := (by have := hAd.out; have := HGX.out; omega); have n2 : Ad ≠ By := (by have := hAd.out; have := HB0.out.size; have := HB.out.size; omega); have n3 : Bx ≠ By := (by have := blk_lt HBX1.out; omega); have HGY := Aside0.mk hgy; clear hx hb1 hbx hboy hgy)))
  refine bodyPost_ret (results_cell_row rfl _ _ Bx 50 #[.bool false, .slice none 0 0, .int .i64 0, .int .i64 0, .int .i64 0, .int .u32 0] (0, 0) _ rfl (kX2 HBX2.out (n1 ∘ Eq.symm) n3) Try.underlying50 rfl (by kernel_rfl)) rfl ?_
  have HE := H.out
  simp only [Prod.mk.injEq] at HE
  obtain ⟨rfl, rfl, rfl, rfl, rfl, rfl, rfl, rfl⟩ := HE
  refine ⟨.slice none 0 0, A0, c0, rfl, Kd.R_nil _ _ _ _ _, HR0.out, HC.out, ?_, ?_, ?_⟩
  ·have q1 : w4.heap[Ad]? = some (.cells #[.slice A0 l0.length c0, .bool false] 88 (0, 0)) := HX.out
   refine entry_Get.six_blk (g := Bx) n1 ?_
   refine (blk_set (entry_Get.six_blk (g := By) n2 q1) 1 _).trans ?_
   rfl
  ·have q0 : Below w.heap.size w w4 := below_step (below_step HB0.out HB.out) HB1.out
   have y1 : w.heap.size ≤ Bx := by have := HGX.out; omega
   have y2 : w.heap.size ≤ By := by have := HGY.out; have := HB0.out.size; have := HB.out.size; omega
   have q1 : KeepBut w w4 Ad none := KeepBut.of_below q0 Ad none
   refine entry_Get.six_keep (g := Bx) (KeepBut.set_ (entry_Get.six_keep (g := By) q1 y2) _ _) y1
  ·have q0 : Below w.heap.size w w4 := below_step (below_step HB0.out HB.out) HB1.out
   have y1 : w.heap.size ≤ Bx := by have := HGX.out; omega
   have y2 : w.heap.size ≤ By := by have := HGY.out; have := HB0.out.size; have := HB.out.size; omega
   have y0 := HBB.out.size
   have y3 : w0.heap.size ≤ Bx := by omega
   have y4 : w0.heap.size ≤ By := by omega
   have q1 : Below w0.heap.size w0 w4 := HBB.out.trans (q0.mono y0)
   refine entry_Get.six_below (g := Bx) (Below.setCell (entry_Get.six_below (g := By) q1 y4) hn _) y3
theorem entry_Get.ten_blk {w : World} {k g : Nat} {o : Option Obj} {v0 v1 v2 v3 v4 v5 v6 v7 v8 v9 : Value} (hk : k ≠ g) (h : w.heap[k]? = o) : ((((((((((w.setCell ⟨g, 0, none⟩ v0).setCell ⟨g, 1, none⟩ v1).setCell ⟨g, 2, none⟩ v2).setCell ⟨g, 3, none⟩ v3).setCell ⟨g, 4, none⟩ v4).setCell ⟨g, 5, none⟩ v5).setCell ⟨g, 6, none⟩ v6).setCell ⟨g, 7, none⟩ v7).setCell ⟨g, 8, none⟩ v8).setCell ⟨g, 9, none⟩ v9).heap[k]? = o :=
 (Below.heap_setCell _ ⟨g, 9, none⟩ _ k hk).trans <| (Below.heap_setCell _ ⟨g, 8, none⟩ _ k hk).trans <| (Below.heap_setCell _ ⟨g, 7, none⟩ _ k hk).trans <| (Below.heap_setCell _ ⟨g, 6, none⟩ _ k hk).trans <| (Below.heap_setCell _ ⟨g, 5, none⟩ _ k hk).trans <| (Below.heap_setCell _ ⟨g, 4, none⟩ _ k hk).trans <| (Below.heap_setCell _ ⟨g, 3, none⟩ _ k hk).trans <| (Below.heap_setCell _ ⟨g, 2, none⟩ _ k hk).trans <| (Below.heap_setCell _ ⟨g, 1, none⟩ _ k hk).trans <| (Below.heap_setCell _ ⟨g, 0, none⟩ _ k hk).trans <| h
theorem entry_Get.ten_keep {w W : World} {a g : Nat} {row : Option Nat} {v0 v1 v2 v3 v4 v5 v6 v7 v8 v9 : Value} (h : KeepBut w W a row) (hg : w.heap.size ≤ g) : KeepBut w ((((((((((W.setCell ⟨g, 0, none⟩ v0).setCell ⟨g, 1, none⟩ v1).setCell ⟨g, 2, none⟩ v2).setCell ⟨g, 3, none⟩ v3).setCell ⟨g, 4, none⟩ v4).setCell ⟨g, 5, none⟩ v5).setCell ⟨g, 6, none⟩ v6).setCell ⟨g, 7, none⟩ v7).setCell ⟨g, 8, none⟩ v8).setCell ⟨g, 9, none⟩ v9) a row :=
 keep_far (keep_far (keep_far (keep_far (keep_far (keep_far (keep_far (keep_far (keep_far (keep_far h hg _) hg _) hg _) hg _) hg _) hg _) hg _) hg _) hg _) hg _
theorem entry_Get.ten_below {B : Nat} {w W : World} {g : Nat} {v0 v1 v2 v3 v4 v5 v6 v7 v8 v9 : Value} (h : Below B w W) (hg : B ≤ g) : Below B w ((((((((((W.setCell ⟨g, 0, none⟩ v0).setCell ⟨g, 1, none⟩ v1).setCell ⟨g, 2, none⟩ v2).setCell ⟨g, 3, none⟩ v3).setCell ⟨g, 4, none⟩ v4).setCell ⟨g, 5, none⟩ v5).setCell ⟨g, 6, none⟩ v6).setCell ⟨g, 7, none⟩ v7).setCell ⟨g, 8, none⟩ v8).setCell ⟨g, 9, none⟩ v9) :=
 (((((((((h.setCell hg _).setCell hg _).setCell hg _).setCell hg _).setCell hg _).setCell hg _).setCell hg _).setCell hg _).setCell hg _).setCell hg _
def entry_Get.t_entry.f (k : Nat) (l : List Int) (bad : Bool) (index : Int) : Option (S52 × List Int × Bool) :=
 (entry_Get.t_number.f k l bad 2147483647).bind fun (t, l1, b1) =>
 (entry_Get.t_bytes.f l1 b1 1).bind fun (kb, l2, b2) =>
 (entry_Get.t_number.f k l2 b2 64).bind fun (n, l3, b3) =>
 (entry_Get.t_bytes.f l3 b3 n).bind fun (key, l4, b4) =>
 let kind := if kb.length = 1 then wrap64 (rd kb 0) else 0
 if kind = 2 then some (⟨index, t, kind, strOfNums key, ⟨false, [], ⟨0, 0, 0, 0⟩⟩⟩, l4, b4) else
 (entry_Get.t_cell.f k l4 b4).bind fun (g1, g2, g3, g4, g5, g6, l5, b5) => some (⟨index, t, kind, strOfNums key, ⟨g1, g2, ⟨g3, g4, g5, g6⟩⟩⟩, l5, b5)
set_option maxHeartbeats 4000000 in
set_option maxRecDepth 100000 in
theorem entry_Get.t_entry.calls (k : Nat) (Ad : Nat) (A0 : Option Addr) (c0 : Nat) (l0 : List Int) (bad : Bool) (index : Int) (r : S52) (l1 : List Int) (b1 : Bool) (w0 w : World) (hr0 : Kd.C (Kd.int .u8) w0 A0 l0.length l0) (hc0 : l0.length ≤ c0) (hB : Below w0.heap.size w0 w) (hn : w0.heap.size ≤ Ad) (hT : entry_Get.Tk Ad A0 l0.length c0 bad w) (h : entry_Get.t_entry.f k l0 bad index = some (r, l1, b1)) :
 Calls Try.prog 42 #[.pointer (some ⟨Ad, 0, none⟩), .int .i64 index] w fun e w' => ∃ v A1 c1, e = .returned (.agg #[.int .i64 r.f0, .int .i64 r.f1, .int .i64 r.f2, .string r.f3, .bool r.f4.f0, v, .int .i64 r.f4.f2.f0, .int .i64 r.f4.f2.f1, .int .i64 r.f4.f2.f2, .int .u32 r.f4.f2.f3]) ∧ Kd.R (Kd.int .u8) 5 w' w.heap.size (fun _ => True) v r.f4.f1 ∧ Kd.C (Kd.int .u8) w0 A1 l1.length l1 ∧ l1.length ≤ c1 ∧ entry_Get.Tk Ad A1 l1.length c1 b1 w' ∧ KeepBut w w' Ad none ∧ Below w0.heap.size w0 w' := by
 have hu40 := Try.underlying50
 have hu38 := Try.underlying48
 have hu42 := Try.underlying52
 unfold entry_Get.t_entry.f at h
 replace h := Option.bind_eq_some_iff.mp h
 obtain ⟨⟨t, la, ba⟩, ha, h⟩ := h
 replace h := Option.bind_eq_some_iff.mp h
 obtain ⟨⟨kb, lb, bb⟩, hb, h⟩ := h
 replace h := Option.bind_eq_some_iff.mp h
 obtain ⟨⟨n, lc, bc⟩, hc, h⟩ := h
 replace h := Option.bind_eq_some_iff.mp h
 obtain ⟨⟨key, ld, bd⟩, hd, h⟩ := h
 simp only at h
 have HH := Aside0.mk h
 have HA := Aside0.mk ha
 have HBy := Aside0.mk hb
 have HC := Aside0.mk hc
 have HD := Aside0.mk hd
 have HR0 := Aside0.mk hr0
 have HC0 := Aside0.mk hc0
 have HBB := Aside0.mk hB
 have HT := Aside0.mk hT
 have HN := Aside0.mk hn
 clear h ha hb hc hd hr0 hc0 hB hT hn
 go_enter Try.func42, Try.ntmps42
 go_wp2_with ((with_reducible refine gate_dst (N := 4) rfl ?_); go_loud (refine zE 4 #[.int .i64 0, .int .i64 0, .int .i64 0, .string ⟨#[]⟩, .bool false, .slice none 0 0, .int .i64 0, .int .i64 0, .int .i64 0, .int .u32 0] 52 ?_; intro Bx gBx w1 hBx hb1; have G1 := Aside0.mk gBx; have X1 := Aside0.mk hBx; have L1 := Aside0.mk hb1; clear gBx hBx hb1))
 have hAd := HT.out
 have hAx : Ad < w.heap.size := blk_lt hAd
 have n1 : Bx ≠ Ad := by have := G1.out; omega
 have T1 : entry_Get.Tk Ad A0 l0.length c0 bad w1 := blk_below HT.out L1.out
 refine (entry_Get.t_number.calls k Ad A0 c0 l0 bad 2147483647 t la ba w0 w1 HR0.out HC0.out (HBB.out.trans (L1.out.mono HBB.out.size)) HN.out T1 HA.out).mono ?_
 rintro e w2 ⟨rfl, A1, c1, hC1, hc1, hT1, hK1, hB1⟩
 have X2 := Aside0.mk (hK1.blk X1.out n1 (by simp))
 have R1 := Aside0.mk hC1; have C1 := Aside0.mk hc1; have T2 := Aside0.mk hT1; have K1 := Aside0.mk ((KeepBut.of_below L1.out Ad none).trans hK1 (.inl rfl)); have B1 := Aside0.mk hB1; have HAX := Aside0.mk hAx
 clear hC1 hc1 hT1 hK1 hB1 T1 hAd hAx
 go_wp2_with ((with_reducible refine gate_dst (N := 5) rfl ?_); go_loud (refine zE 5 #[.int .i64 0, .int .i64 0, .int .i64 0, .string ⟨#[]⟩, .bool false, .slice none 0 0, .int .i64 0, .int .i64 0, .int .i64 0, .int .u32 0] 52 ?_; intro By gBy w3 hBy hb3; obtain ⟨_, _, _, _, _, _, _, _, _, _⟩ := bc10 hBy; obtain ⟨_, _, _, _, _, _, _, _, _, _⟩ := bf10 hBy; have G3 := Aside0.mk gBy; have Y3 := Aside0.mk hBy; have L3 := Aside0.mk hb3; clear gBy hBy hb3))
 have n2 : By ≠ Ad := by have := G3.out; have := HAX.out; have := K1.out.1; omega
 have n3 : Bx ≠ By := by have := blk_lt X2.out; have := G3.out; omega
 have y1 : w0.heap.size ≤ By := by have := G3.out; have := B1.out.size; omega
 have y2 : w.heap.size ≤ By := by have := G3.out; have := K1.out.1; omega
 have T3 : entry_Get.Tk Ad A1 la.length c1 ba w3 := blk_below T2.out L3.out
 refine (entry_Get.t_bytes.calls Ad A1 c1 la ba 1 kb lb bb w0 _ R1.out C1.out (entry_Get.ten_below (g := By) (B1.out.trans (L3.out.mono B1.out.size)) y1) HN.out (entry_Get.ten_blk (g := By) n2.symm T3) HBy.out).mono ?_
 rintro e w4 ⟨A2, c2, A4, c4, rfl, hC2, hc2, hC4, hc4, hT4, hK4, hB4⟩
 have X4 := Aside0.mk (hK4.blk (entry_Get.ten_blk (g := By) n3 (blk_below X2.out L3.out)) n1 (by simp))
 have Y4 := Aside0.mk (hK4.blk (bp10 Y3.out) n2 (by simp))
 have R2 := Aside0.mk hC2; have C2 := Aside0.mk hc2; have R4 := Aside0.mk hC4; have C4 := Aside0.mk hc4; have T4 := Aside0.mk hT4; have K4 := Aside0.mk ((entry_Get.ten_keep (g := By) (K1.out.trans (KeepBut.of_below L3.out Ad none) (.inl rfl)) y2).trans hK4 (.inl rfl)); have B4 := Aside0.mk hB4
 have HY := Aside0.mk (And.intro y1 y2)
 clear hC2 hc2 hC4 hc4 hT4 hK4 hB4 T3 y1 y2
 go_upto_if 15 with fail
 go_cut [] (fun wc => ∃ kd : Int, Aside0 (kd = (if kb.length = 1 then wrap64 (rd kb 0) else 0)) ∧ Aside0 (wc.heap[By]? = some (.cells #[.int .i64 index, .int .i64 t, .int .i64 kd, .string ⟨#[]⟩, .bool false, .slice none 0 0, .int .i64 0, .int .i64 0, .int .i64 0, .int .u32 0] 52 (0, 0))) ∧ Aside0 (entry_Get.Tk Ad A4 lb.length c4 bb wc) ∧ Aside0 (wc.heap[Bx]? = some (.cells #[.int .i64 0, .int .i64 0, .int .i64 0, .string ⟨#[]⟩, .bool false, .slice none 0 0, .int .i64 0, .int .i64 0, .int .i64 0, .int .u32 0] 52 (0, 0))) ∧ Aside0 (KeepBut w wc Ad none) ∧ Aside0 (Below w0.heap.size w0 wc))
 case first =>
  by_cases hk : kb.length = 1
  ·have hkb : ((kb.length : Int) == 1) = true := by rw [hk]; rfl
   obtain ⟨ad, e0, hcell⟩ := Kd.at_int (Kd.C_below R2.out B4.out) 0 (by omega) (by omega)
   (try rw [tz] at hcell)
   (try rw [Addr.add_zero'] at hcell)
   subst e0
   have hlt : (0 < kb.length) = True := eq_true (by omega)
   have hlt2 : decide (0 < kb.length) = true := decide_eq_true (by omega)
   have HK := Aside0.mk hk
   clear hk
   obtain ⟨_, _, _, _, _, _, _, _, _, _⟩ := bc10 Y4.out
   obtain ⟨_, _, _, _, _, _, _, _, _, _⟩ := bf10 Y4.out
   go_wp2
   go_meet
   case rel => exact ⟨wrap64 (rd kb 0), ⟨by rw [if_pos HK.out]⟩, ⟨blk_set Y4.out 2 _⟩, ⟨blk_far T4.out n2.symm _⟩, ⟨blk_far X4.out n3 _⟩, ⟨keep_far K4.out HY.out.2 _⟩, ⟨B4.out.setCell HY.out.1 _⟩⟩
  ·have hkb : ((kb.length : Int) == 1) = false := beq_eq_false_iff_ne.mpr (by omega)
   have HK := Aside0.mk hk
   clear hk
   go_wp2
   go_meet
   case rel => exact ⟨0, ⟨by rw [if_neg HK.out]⟩, Y4, T4, X4, K4, B4⟩
 case rest =>
  obtain ⟨kd, KD, Y5, T5, X5, K5, B5⟩ := hcut
  go_wp2_with fail
  refine (entry_Get.t_number.calls k Ad A4 c4 lb bb 64 n lc bc w0 wc R4.out C4.out B5.out HN.out T5.out HC.out).mono ?_
  rintro e w6 ⟨rfl, A6, c6, hC6, hc6, hT6, hK6, hB6⟩
  have X6 := Aside0.mk (hK6.blk X5.out n1 (by simp)); have Y6 := Aside0.mk (hK6.blk Y5.out n2 (by simp)); have R6 := Aside0.mk hC6; have C6 := Aside0.mk hc6; have T6 := Aside0.mk hT6; have K6 := Aside0.mk (K5.out.trans hK6 (.inl rfl)); have B6 := Aside0.mk hB6
  clear hC6 hc6 hT6 hK6 hB6
  go_wp2_with fail
  refine (entry_Get.t_bytes.calls Ad A6 c6 lc bc n key ld bd w0 w6 R6.out C6.out B6.out HN.out T6.out HD.out).mono ?_
  rintro e w7 ⟨A7, c7, A8, c8, rfl, hC7, hc7, hC8, hc8, hT8, hK8, hB8⟩
  have X8 := Aside0.mk (hK8.blk X6.out n1 (by simp)); have Y8 := Aside0.mk (hK8.blk Y6.out n2 (by simp)); have R7 := Aside0.mk hC7; have C7 := Aside0.mk hc7; have R8 := Aside0.mk hC8; have C8 := Aside0.mk hc8; have T8 := Aside0.mk hT8; have K8 := Aside0.mk (K6.out.trans hK8 (.inl rfl)); have B8 := Aside0.mk hB8
  have hcv := Kd.C_string (P := Try.prog) (A := A7) (c := c7) Try.underlying22 Try.underlying5 Try.underlying9 (Kd.C_below R7.out B8.out)
  clear hC7 hc7 hC8 hc8 hT8 hK8 hB8
  obtain ⟨_, _, _, _, _, _, _, _, _, _⟩ := bc10 Y8.out
  obtain ⟨_, _, _, _, _, _, _, _, _, _⟩ := bf10 Y8.out
  obtain ⟨_, _, _, _, _, _, _, _, _, _⟩ := bc10 X8.out
  obtain ⟨_, _, _, _, _, _, _, _, _, _⟩ := bf10 X8.out
  have h := HH.out
  clear HH
  rw [← KD.out] at h
  by_cases c2 : kd = 2
  ·rw [if_pos c2] at h
   have H := Aside0.mk h
   have c2b : (kd == 2) = true := beq_iff_eq.mpr c2
   have c2c : (kd != 2) = false := bne_eq_false_iff_eq.mpr c2
   have C2K := Aside0.mk c2
   clear h c2
   go_wp2_with fail
   have F : ((w7.setCell ⟨By, 3, none⟩ (.string (strOfNums key)))).heap[Bx]? = _ := blk_far X8.out n3 _
   refine bodyPost_ret (results_cell_row rfl _ _ Bx 52 #[.int .i64 index, .int .i64 t, .int .i64 kd, .string (strOfNums key), .bool false, .slice none 0 0, .int .i64 0, .int .i64 0, .int .i64 0, .int .u32 0] (0, 0) _ rfl (bp10 F) Try.underlying52 rfl (by kernel_rfl)) rfl ?_
   have HE := Option.some.inj H.out
   simp only [Prod.mk.injEq] at HE
   obtain ⟨rfl, rfl, rfl⟩ := HE
   have x1 : w.heap.size ≤ Bx := by have := G1.out; omega
   have x2 : w0.heap.size ≤ Bx := by have := HBB.out.size; omega
   exact ⟨.slice none 0 0, A8, c8, rfl, Kd.R_nil _ _ _ _ _, R8.out, C8.out, entry_Get.ten_blk (g := Bx) n1.symm (blk_far T8.out n2.symm _), entry_Get.ten_keep (g := Bx) (keep_far K8.out HY.out.2 _) x1, entry_Get.ten_below (g := Bx) (B8.out.setCell HY.out.1 _) x2⟩
  ·rw [if_neg c2] at h
   have c2b : (kd == 2) = false := beq_eq_false_iff_ne.mpr c2
   have c2c : (kd != 2) = true := bne_iff_ne.mpr c2
   clear c2
   replace h := Option.bind_eq_some_iff.mp h
   obtain ⟨⟨g1, g2, g3, g4, g5, g6, le, be⟩, hg, h⟩ := h
   have H := Aside0.mk h
   have HG := Aside0.mk hg
   clear h hg
   go_wp2_with fail
   refine (entry_Get.t_cell.calls k Ad A8 c8 ld bd g1 g2 g3 g4 g5 g6 le be w0 _ R8.out C8.out (B8.out.setCell HY.out.1 _) HN.out (blk_far T8.out n2.symm _) HG.out).mono ?_
   rintro e w9 ⟨v, A9, c9, rfl, hR, hC9, hc9, hT9, hK9, hB9⟩
   obtain ⟨Av, cv, rfl⟩ := Kd.R_slice hR
   have X9 := Aside0.mk (hK9.blk (blk_far X8.out n3 _) n1 (by simp)); have Y9 := Aside0.mk (hK9.blk (blk_set Y8.out 3 _) n2 (by simp)); have R9 := Aside0.mk hC9; have C9 := Aside0.mk hc9; have T9 := Aside0.mk hT9; have K9 := Aside0.mk ((keep_far K8.out HY.out.2 _).trans hK9 (.inl rfl)); have B9 := Aside0.mk hB9; have RV := Aside0.mk hR
   clear hC9 hc9 hT9 hK9 hB9 hR
   obtain ⟨_, _, _, _, _, _, _, _, _, _⟩ := bc10 X9.out
   obtain ⟨_, _, _, _, _, _, _, _, _, _⟩ := bf10 X9.out
   obtain ⟨_, _, _, _, _, _, _, _, _, _⟩ := bc10 Y9.out
   obtain ⟨_, _, _, _, _, _, _, _, _, _⟩ := bf10 Y9.out
   go_wp2_with fail
   refine bodyPost_ret (results_cell_row rfl _ _ Bx 52 #[.int .i64 index, .int .i64 t, .int .i64 kd, .string (strOfNums key), .bool g1, .slice Av g2.length cv, .int .i64 g3, .int .i64 g4, .int .i64 g5, .int .u32 g6] (0, 0) _ rfl (bp10 (entry_Get.six_blk n3 X9.out)) Try.underlying52 rfl (by kernel_rfl)) rfl ?_
   have HE := Option.some.inj H.out
   simp only [Prod.mk.injEq] at HE
   obtain ⟨rfl, rfl, rfl⟩ := HE
   have x1 : w.heap.size ≤ Bx := by have := G1.out; omega
   have x2 : w0.heap.size ≤ Bx := by have := HBB.out.size; omega
   have s8 := K8.out.1
   have sz : (w7.setCell ⟨By, 3, none⟩ (.string (strOfNums key))).heap.size = w7.heap.size := by simp [World.setCell]
   have t1 := blk_lt X8.out
   have t2 := blk_lt Y8.out
   have t3 := HAX.out
   refine ⟨.slice Av g2.length cv, A9, c9, rfl, ?_, R9.out, C9.out, entry_Get.ten_blk (g := Bx) n1.symm (entry_Get.six_blk n2.symm T9.out), entry_Get.ten_keep (g := Bx) (entry_Get.six_keep K9.out HY.out.2) x1, entry_Get.ten_below (g := Bx) (entry_Get.six_below B9.out HY.out.1) x2⟩
   refine Kd.R_lower (Kd.R_mono (Kd.R_step (Kd.R_bound RV.out) (fun k hk _ => ?_)) (fun _ _ => trivial)) (by rw [sz]; exact s8)
   obtain ⟨_, k1, k2, _⟩ := hk
   rw [sz] at k1
   exact entry_Get.ten_blk (g := Bx) (by omega) (entry_Get.six_blk (g := By) (by omega) rfl)
def entry_Get.l0 : Nat → Int → Int → List Int → Bool → List S52 → Int → Option (List S52 × Int)
 | 0, _, _, _, _, _, _ => none
 | k + 1, n, first, l, bad, acc, i => if i < n then (if bad = true then some ([], 2) else (entry_Get.t_entry.f k l bad (wrap64 (first + i))).bind fun (x, l1, b1) => if acc.length < 1353245080339 then entry_Get.l0 k n first l1 b1 (acc ++ [x]) (wrap64 (i + 1)) else none)
  else (if bad = true then some ([], 2) else if 0 < (l.length : Int) then some ([], 2) else (entry_Batch.f k acc).bind fun e => if e = 0 then some (acc, 0) else some ([], 2))
def entry_Get.f (k : Nat) (l0 : List Int) : Option (List S52 × Int) :=
 (entry_Get.t_number.f k l0 false 16).bind fun (n, l1, b1) => (entry_Get.t_number.f k l1 b1 2147483647).bind fun (first, l2, b2) => entry_Get.l0 k n first l2 b2 [] 0
set_option maxHeartbeats 4000000 in
set_option maxRecDepth 100000 in
theorem entry_Get.calls (k : Nat) (A0 : Option Addr) (c0 : Nat) (l0 : List Int) (r1 : List (S52)) (r2 : Int) (w : World) (hr0 : Kd.C (Kd.int .u8) w A0 l0.length l0) (hc0 : l0.length ≤ c0) (h : entry_Get.f k l0 = some (r1, r2)) :
 Calls Try.prog 17 #[.slice A0 l0.length c0] w fun e w' => ∃ v0_ : Value, e = .returned (.tuple #[v0_, .int .i64 r2]) ∧ Kd.S k52 52 w' w.heap.size (fun _ => True) v0_ r1 ∧ Below w.heap.size w w' := by
 have hu42 := Try.underlying52
 unfold entry_Get.f at h
 replace h := Option.bind_eq_some_iff.mp h
 obtain ⟨⟨n, la, ba⟩, ha, h⟩ := h
 replace h := Option.bind_eq_some_iff.mp h
 obtain ⟨⟨first, lb, bb⟩, hb, h⟩ := h
 simp only at h
 have HH := Aside0.mk h
 have HA := Aside0.mk ha
 have HB := Aside0.mk hb
 have HR0 := Aside0.mk hr0
 have HC0 := Aside0.mk hc0
 clear h ha hb hr0 hc0
 go_enter Try.func17, Try.ntmps17
 go_wp2_with fail
 obtain ⟨Ad, hAd⟩ : ∃ Ad : Nat, Ad = w.heap.size := ⟨_, rfl⟩
 rw [← hAd]
 have HN := Aside0.mk (Nat.le_of_eq hAd.symm)
 have T0 : entry_Get.Tk Ad A0 l0.length c0 false (w.alloc (Obj.cells #[Value.slice A0 l0.length c0, Value.bool false] 88 (0, 0))) := by rw [hAd]; exact blk_new _ _
 clear hAd
 refine (entry_Get.t_number.calls k Ad A0 c0 l0 false 16 n la ba w _ HR0.out HC0.out (below_alloc (Below.refl _ _) _) HN.out T0 HA.out).mono ?_
 rintro e w1 ⟨rfl, A1, c1, hC1, hc1, hT1, hK1, hB1⟩
 have R1 := Aside0.mk hC1; have C1 := Aside0.mk hc1; have T1 := Aside0.mk hT1; have B1 := Aside0.mk hB1
 clear hC1 hc1 hT1 hK1 hB1 T0
 go_wp2_with fail
 refine (entry_Get.t_number.calls k Ad A1 c1 la ba 2147483647 first lb bb w _ R1.out C1.out B1.out HN.out T1.out HB.out).mono ?_
 rintro e w2 ⟨rfl, A2, c2, hC1, hc1, hT1, hK1, hB1⟩
 have R2 := Aside0.mk hC1; have C2 := Aside0.mk hc1; have T2 := Aside0.mk hT1; have B2 := Aside0.mk hB1
 clear hC1 hc1 hT1 hK1 hB1
 go_wp2_with fail
 go_loopg [7, 8] k (fun kq v7 v8 w' => ∃ (l : List Int) (bad : Bool) (A : Option Addr) (c : Nat) (acc : List S52) (i : Int), v8 = .int .i64 i ∧ Aside0 (entry_Get.l0 kq n first l bad acc i = some (r1, r2)) ∧ Aside0 (kq ≤ k) ∧ Aside0 (Kd.S k52 52 w' w.heap.size (fun k_ => k_ ≠ Ad) v7 acc) ∧ Aside0 (Kd.C (Kd.int .u8) w A l.length l) ∧ Aside0 (l.length ≤ c) ∧ Aside0 (entry_Get.Tk Ad A l.length c bad w') ∧ Aside0 (Below w.heap.size w w'))
 case atStart => exact ⟨lb, bb, A2, c2, [], 0, rfl, HH, ⟨Nat.le_refl _⟩, ⟨Kd.S_nil _ _ _ _ _⟩, R2, C2, T2, B2⟩
 case round =>
  clear HH R2 C2 T2 B2 R1 C1 T1 B1 HA HB
  obtain ⟨l, bad, A, c, acc, i, rfl, HA, HK2, HS, HR, HC, HT, HW⟩ := hrel
  cases gk with
  | zero => exact absurd HA.out (by simp [entry_Get.l0])
  | succ k2 =>
   have H := HA.out
   clear HA
   simp only [entry_Get.l0] at H
   have hT' : wr.heap[Ad]? = some (.cells #[.slice A l.length c, .bool bad] 88 (0, 0)) := HT.out
   have d0 : wr.cell? ⟨Ad, 0, none⟩ = some (.slice A l.length c) := by simp [World.cell?, hT']
   have d1 : wr.cell? ⟨Ad, 1, none⟩ = some (.bool bad) := by simp [World.cell?, hT']
   clear hT'
   by_cases c1 : i < n
   ·have c1b : decide (i < n) = true := decide_eq_true c1
    rw [if_pos c1] at H
    clear c1
    by_cases c2 : bad = true
    ·subst c2
     rw [if_pos rfl] at H
     have HX := Aside0.mk (Option.some.inj H)
     clear H
     go_wp2_with fail
     go_ret2
     have HE := HX.out
     simp only [Prod.mk.injEq] at HE
     obtain ⟨rfl, rfl⟩ := HE
     exact ⟨_, rfl, Kd.S_nil _ _ _ _ _, HW.out⟩
    ·obtain rfl : bad = false := by simpa using c2
     rw [if_neg (by simp)] at H
     replace H := Option.bind_eq_some_iff.mp H
     obtain ⟨⟨x, l1, b1⟩, hx, H⟩ := H
     simp only at H
     clear c2
     by_cases c5 : acc.length < 1353245080339
     ·rw [if_pos c5] at H
      have HX := Aside0.mk hx
      have H' := Aside0.mk H
      have LM := Aside0.mk c5
      clear c5 H hx
      have S0 := Aside0.mk (Kd.S_mono (ok' := fun k_ => k_ ≠ Ad ∧ k_ < wr.heap.size) (Kd.S_bound HS.out) (fun k hk => ⟨hk.1, hk.2.2.1⟩))
      have HAd := Aside0.mk (blk_lt HT.out)
      have HLt := Aside0.mk (Kd.S_lt HS.out)
      go_wp2_with (first | (go_at_call 42; go_loud (refine (entry_Get.t_entry.calls k2 Ad A c l false (wrap64 (first + i)) x l1 b1 w wr HR.out HC.out HW.out HN.out HT.out HX.out).mono ?_; rintro e w3 ⟨v, A3, c3, rfl, hRv, hC3, hc3, hT3, hK3, hB3⟩; obtain ⟨Av, cv, rfl⟩ := Kd.R_slice hRv; have S3 := Aside0.mk (Kd.S_keep S0.out hK3 (fun _ hk => hk.1)); have RB := Aside0.mk (Kd.R_base hRv); have R3 := Aside0.mk (Kd.R_lower hRv HW.out.size); have HC3 := Aside0.mk hC3; have Hc3 := Aside0.mk hc3; have T3 := Aside0.mk hT3; have B3 := Aside0.mk hB3; clear hRv hC3 hc3 hT3 hK3 hB3)) | ((with_reducible refine gate_builtin (b := .append) (xs := #[.tmp 28, .tmp 34]) rfl ?_); at_builtin; go_loud (refine Kd.S_append k52 (w0 := w) w.heap.size rfl (.tmp 28) (.tmp 34) 26 52 (.agg #[(.int .i64 0), (.int .i64 0), (.int .i64 0), (.string ⟨#[]⟩), (.bool false), (.slice none 0 0), (.int .i64 0), (.int .i64 0), (.int .i64 0), (.int .u32 0)]) 104 rfl Try.underlying26 info52 rfl (by decide) (by omega) u7 acc x [.int .i64 x.f0, .int .i64 x.f1, .int .i64 x.f2, .string x.f3, .bool x.f4.f0, .slice Av x.f4.f1.length cv, .int .i64 x.f4.f2.f0, .int .i64 x.f4.f2.f1, .int .i64 x.f4.f2.f2, .int .u32 x.f4.f2.f3] (fun k_ => k_ ≠ Ad) (fun k_ => some k_ = (.slice Av x.f4.f1.length cv : Value).ownBlock) rfl rfl ?aP ?aQ ?aF ?aO ?aB ?aS ?aL ?_; (case aP => exact k52_mkM _ _ _ x (Kd.R_tight rfl R3.out)); (case aQ => intro k_ hk_; have z1 := RB.out k_ hk_.symm; have z2 := HAd.out; exact ⟨(by show k_ ≠ Ad; omega), fun e_ => (by have := HLt.out k_ e_.symm; omega)⟩); (case aF => exact (fun k_ hk => kF T3.out k_ hk)); (case aO => exact Kd.S_mono S3.out (fun k_ hk => ⟨hk.1, fun e_ => (by have := RB.out k_ e_.symm; omega)⟩)); (case aB => exact B3.out); (case aS => exact B3.out.size); (case aL => have := LM.out; omega); intro v4 w4 ho hb hg hat; have T4 : entry_Get.Tk Ad A3 l1.length c3 b1 w4 := blk_grown (g := Ad) T3.out hg (Kd.S_away S3.out (fun _ hk => hk.1)); have T4' := Aside0.mk T4; have S4 := Aside0.mk ho; have B4 := Aside0.mk hb; clear T4 ho hb hg hat)))
      go_roundg k2
      case measure => have := HK2.out; omega
      case rel => exact ⟨l1, b1, A3, c3, acc ++ [x], wrap64 (i + 1), rfl, H', ⟨by have := HK2.out; omega⟩, S4, HC3, Hc3, T4', B4⟩
     ·rw [if_neg c5] at H
      exact absurd H (by simp)
   ·have c1b : decide (i < n) = false := decide_eq_false c1
    rw [if_neg c1] at H
    clear c1
    by_cases c2 : bad = true
    ·subst c2
     rw [if_pos rfl] at H
     have HX := Aside0.mk (Option.some.inj H)
     clear H
     go_wp2_with fail
     go_ret2
     have HE := HX.out
     simp only [Prod.mk.injEq] at HE
     obtain ⟨rfl, rfl⟩ := HE
     exact ⟨_, rfl, Kd.S_nil _ _ _ _ _, HW.out⟩
    obtain rfl : bad = false := by simpa using c2
    rw [if_neg (by simp)] at H
    clear c2
    by_cases c3 : 0 < (l.length : Int)
    ·rw [if_pos c3] at H
     have HX := Aside0.mk (Option.some.inj H)
     have c3b : decide (0 < (l.length : Int)) = true := decide_eq_true c3
     have c3c : decide (0 < l.length) = true := decide_eq_true (by omega)
     clear H c3
     go_wp2_with fail
     go_ret2
     have HE := HX.out
     simp only [Prod.mk.injEq] at HE
     obtain ⟨rfl, rfl⟩ := HE
     exact ⟨_, rfl, Kd.S_nil _ _ _ _ _, HW.out⟩
    rw [if_neg c3] at H
    have c3b : decide (0 < (l.length : Int)) = false := decide_eq_false c3
    have c3c : decide (0 < l.length) = false := decide_eq_false (by omega)
    clear c3
    replace H := Option.bind_eq_some_iff.mp H
    obtain ⟨e, he, H⟩ := H
    have HE := Aside0.mk he
    clear he
    obtain ⟨Al, cl, Ax⟩ := Kd.S_slice HS.out
    subst Ax
    by_cases c4 : e = 0
    ·rw [if_pos c4] at H
     have HX := Aside0.mk (Option.some.inj H)
     subst c4
     clear H
     go_wp2_with (go_at_call 31; (with_reducible refine (entry_Batch.calls k2 _ _ acc 0 _ (Kd.S_reads' HS.out).2.2 (Kd.S_reads' HS.out).2.1 HE.out).mono ?_); rintro e w3 ⟨rfl, hb⟩; have HS3 := Aside0.mk (Kd.S_below HS.out hb); have HW3 := Aside0.mk (below_step HW.out hb); clear hb)
     go_ret2
     have HE := HX.out
     simp only [Prod.mk.injEq] at HE
     obtain ⟨rfl, rfl⟩ := HE
     exact ⟨_, rfl, Kd.S_mono HS3.out (fun _ _ => trivial), HW3.out⟩
    ·rw [if_neg c4] at H
     have HX := Aside0.mk (Option.some.inj H)
     have c4b : (e != 0) = true := bne_iff_ne.mpr c4
     have c4c : (e == 0) = false := beq_eq_false_iff_ne.mpr c4
     clear H c4
     go_wp2_with (go_at_call 31; (with_reducible refine (entry_Batch.calls k2 _ _ acc e _ (Kd.S_reads' HS.out).2.2 (Kd.S_reads' HS.out).2.1 HE.out).mono ?_); rintro e w3 ⟨rfl, hb⟩; have HW3 := Aside0.mk (below_step HW.out hb); clear hb)
     go_ret2
     have HE := HX.out
     simp only [Prod.mk.injEq] at HE
     obtain ⟨rfl, rfl⟩ := HE
     exact ⟨_, rfl, Kd.S_nil _ _ _ _ _, HW3.out⟩
theorem entry_Get.t_number.mono (l : List Int) (b : Bool) (m : Int) (k : Nat) : LeO (entry_Get.t_number.f k l b m) (entry_Get.t_number.f (k + 1) l b m) :=
 LeO.bind (varint_Get.mono _ _) (fun _ => LeO.refl _)
theorem entry_Get.t_cell.mono (l : List Int) (b : Bool) (k : Nat) : LeO (entry_Get.t_cell.f k l b) (entry_Get.t_cell.f (k + 1) l b) :=
 LeO.bind (cell_Get.mono _ _) (fun _ => LeO.refl _)
theorem entry_Get.t_entry.mono (l : List Int) (b : Bool) (i : Int) (k : Nat) : LeO (entry_Get.t_entry.f k l b i) (entry_Get.t_entry.f (k + 1) l b i) := by
 unfold entry_Get.t_entry.f
 refine LeO.bind (entry_Get.t_number.mono _ _ _ _) (fun ⟨t, la, ba⟩ => ?_)
 refine LeO.bind (LeO.refl _) (fun ⟨kb, lb, bb⟩ => ?_)
 refine LeO.bind (entry_Get.t_number.mono _ _ _ _) (fun ⟨n, lc, bc⟩ => ?_)
 refine LeO.bind (LeO.refl _) (fun ⟨key, ld, bd⟩ => ?_)
 exact LeO.ite (LeO.refl _) (LeO.bind (entry_Get.t_cell.mono _ _ _) (fun _ => LeO.refl _))
theorem entry_Get.mono_l : ∀ (k : Nat) (n first : Int) (l : List Int) (b : Bool) (acc : List S52) (i : Int), LeO (entry_Get.l0 k n first l b acc i) (entry_Get.l0 (k + 1) n first l b acc i)
 | 0 => fun _ _ _ _ _ _ r h => by simp [entry_Get.l0] at h
 | k + 1 => fun n first l b acc i => by
  rw [entry_Get.l0, entry_Get.l0]
  refine LeO.ite (LeO.ite (LeO.refl _) (LeO.bind (entry_Get.t_entry.mono _ _ _ _) (fun ⟨x, l1, b1⟩ => LeO.ite (entry_Get.mono_l k _ _ _ _ _ _) (LeO.refl _)))) ?_
  exact LeO.ite (LeO.refl _) (LeO.ite (LeO.refl _) (LeO.bind (entry_Batch.mono _ _) (fun _ => LeO.refl _)))
theorem entry_Get.mono : ∀ a0 k, LeO (entry_Get.f k a0) (entry_Get.f (k + 1) a0) := fun a0 k =>
 LeO.bind (entry_Get.t_number.mono _ _ _ _) (fun ⟨n, l1, b1⟩ => LeO.bind (entry_Get.t_number.mono _ _ _ _) (fun ⟨f, l2, b2⟩ => entry_Get.mono_l _ _ _ _ _ _ _))
end Go.Proofs.Ytdanmjfkocjgjaa.PWalGets
