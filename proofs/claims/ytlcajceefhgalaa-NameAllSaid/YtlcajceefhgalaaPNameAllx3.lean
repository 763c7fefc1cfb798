/- What the law reaches, as plain Lean functions, and that the machine's calls answer just that. -/
import Derived.Test.YtlcajceefhgalaaPNameAllx0
import Derived.Test.YtlcajceefhgalaaPNameAllx2
namespace Go.Proofs.Ytlcajceefhgalaa.PNameAll
open Go.RowKit Go.Proofs.YtlcajceefhgalaaW.PrintWords Go.Proofs.YtlcajceefhgalaaW.PrintLast Go.Proofs.YtlcajceefhgalaaW.PrintMore
attribute [local go_sem] max2_int min2_int max_two min_two max_three min_three max_four min_four
set_option linter.unusedVariables false
set_option linter.unusedSimpArgs false
attribute [local go_sem] wrap64_l1 wrap64_l2 wrap64_l3 wrap64_l4 wrap64_l5
def name_All.lays189_ren : Go.Shelf.Ren := ⟨fun | 189 => 10 | 125 => 14 | 257 => 13 | 128 => 27 | 129 => 28 | 294 => 18 | 295 => 19 | 296 => 20 | 297 => 21 | 298 => 22 | 299 => 23 | 216 => 24 | 300 => 25 | 301 => 26 | 328 => 30 | 329 => 31 | 330 => 32 | 331 => 33 | 332 => 34 | 215 => 35 | 343 => 36 | n => n, fun | 28 => 25 | 3 => 3 | 46 => 41 | 0 => 0 | 51 => 54 | 53 => 56 | 4 => 4 | 183 => 46 | 182 => 45 | 131 => 51 | 5 => 5 | 9 => 9 | 218 => 57 | 222 => 61 | 228 => 64 | 229 => 65 | n => n, fun | n => n⟩
theorem name_All.lays189 : Go.Proofs.Lays.n189 Try.prog name_All.lays189_ren := {
 mixed := by kernel_rfl
 f125 := Try.func14.trans (congrArg some (by kernel_rfl))
 f128 := Try.func27.trans (congrArg some (by kernel_rfl))
 f129 := Try.func28.trans (congrArg some (by kernel_rfl))
 f189 := Try.func10.trans (congrArg some (by kernel_rfl))
 f215 := Try.func35.trans (congrArg some (by kernel_rfl))
 f216 := Try.func24.trans (congrArg some (by kernel_rfl))
 f257 := Try.func13.trans (congrArg some (by kernel_rfl))
 f294 := Try.func18.trans (congrArg some (by kernel_rfl))
 f295 := Try.func19.trans (congrArg some (by kernel_rfl))
 f296 := Try.func20.trans (congrArg some (by kernel_rfl))
 f297 := Try.func21.trans (congrArg some (by kernel_rfl))
 f298 := Try.func22.trans (congrArg some (by kernel_rfl))
 f299 := Try.func23.trans (congrArg some (by kernel_rfl))
 f300 := Try.func25.trans (congrArg some (by kernel_rfl))
 f301 := Try.func26.trans (congrArg some (by kernel_rfl))
 f328 := Try.func30.trans (congrArg some (by kernel_rfl))
 f329 := Try.func31.trans (congrArg some (by kernel_rfl))
 f330 := Try.func32.trans (congrArg some (by kernel_rfl))
 f331 := Try.func33.trans (congrArg some (by kernel_rfl))
 f332 := Try.func34.trans (congrArg some (by kernel_rfl))
 f343 := Try.func36.trans (congrArg some (by kernel_rfl))
 t0 := Try.underlying0
 a0 := Try.isAgg0
 z0 := Try.sizeOf0
 v0 := Try.zeroValue0
 t3 := Try.underlying3
 a3 := Try.isAgg3
 z3 := Try.sizeOf3
 v3 := Try.zeroValue3
 t4 := Try.underlying4
 a4 := Try.isAgg4
 z4 := Try.sizeOf4
 v4 := Try.zeroValue4
 t5 := Try.underlying5
 a5 := Try.isAgg5
 z5 := Try.sizeOf5
 v5 := Try.zeroValue5
 t9 := Try.underlying9
 a9 := Try.isAgg9
 z9 := Try.sizeOf9
 v9 := Try.zeroValue9
 t28 := Try.underlying25
 a28 := Try.isAgg25
 z28 := Try.sizeOf25
 v28 := Try.zeroValue25
 t46 := Try.underlying41
 a46 := Try.isAgg41
 z46 := Try.sizeOf41
 v46 := Try.zeroValue41
 t51 := Try.underlying54
 a51 := Try.isAgg54
 z51 := Try.sizeOf54
 v51 := Try.zeroValue54
 t53 := Try.underlying56
 a53 := Try.isAgg56
 z53 := Try.sizeOf56
 v53 := Try.zeroValue56
 t131 := Try.underlying51
 a131 := Try.isAgg51
 z131 := Try.sizeOf51
 v131 := Try.zeroValue51
 t182 := Try.underlying45
 a182 := Try.isAgg45
 z182 := Try.sizeOf45
 v182 := Try.zeroValue45
 t183 := Try.underlying46
 a183 := Try.isAgg46
 z183 := Try.sizeOf46
 v183 := Try.zeroValue46
 t218 := Try.underlying57
 a218 := Try.isAgg57
 z218 := Try.sizeOf57
 v218 := Try.zeroValue57
 t222 := Try.underlying61
 a222 := Try.isAgg61
 z222 := Try.sizeOf61
 v222 := Try.zeroValue61
 t228 := Try.underlying64
 a228 := Try.isAgg64
 z228 := Try.sizeOf64
 v228 := Try.zeroValue64
 t229 := Try.underlying65
 a229 := Try.isAgg65
 z229 := Try.sizeOf65
 v229 := Try.zeroValue65 }
open Go.Sort Go.RowKit in
theorem name_All.sort_int (blk off cap : Nat) (zs : List Int) (w : World) (hH : Holds (Value.int .i64) w blk off zs.toArray) (hblk : blk < w.heap.size) (hsz : zs.length < 4611686018427387904) :
  Calls Try.prog 10 #[.slice (some ⟨blk, off, none⟩) zs.length cap] w fun e w' =>
   e = .returned (.tuple #[]) ∧ ∃ n os, w' = grow (putRow (Value.int .i64) (Sort.ahead w n) blk off (zs.mergeSort fun x y => decide (x ≤ y)).toArray) os := Any.slices_Sort_int name_All.lays189 blk off cap zs w hH hblk hsz
open Go.RowKit Go.Sort in
/-- .. and plain. (LAID: no walk: one application.) -/
theorem name_All.sort_int_none (p : Option Addr) (cap : Nat) (w : World) :
  Calls Try.prog 10 #[.slice p 0 cap] w fun e w' => e = .returned (.tuple #[]) ∧ w' = w := Any.slices_Sort_int_none name_All.lays189 p cap w
theorem name_All.rd_get {xs : List Int} {i : Nat} (h : i < xs.length) : rd xs (i : Int) = xs[i] := by
 simp [rd, h]
/-- Behind which one of a row's first k a number goes. -/
def name_All.posZ (x : Int) (out : List Int) : Nat → Nat
 | 0 => 0
 | k + 1 => if rd out (k : Int) > x then name_All.posZ x out k else k + 1
def name_All.insZ (out : List Int) (x : Int) : List Int := out.take (name_All.posZ x out out.length) ++ x :: out.drop (name_All.posZ x out out.length)
def name_All.sortZ (l : List Int) : List Int := l.foldl name_All.insZ []
theorem name_All.posZ_le (x : Int) (out : List Int) : ∀ k, name_All.posZ x out k ≤ k
 | 0 => Nat.le_refl _
 | k + 1 => by
  rw [name_All.posZ]
  split
  ·exact Nat.le_trans (name_All.posZ_le x out k) (Nat.le_succ _)
  ·exact Nat.le_refl _
theorem name_All.posZ_gt (x : Int) (out : List Int) : ∀ k j, name_All.posZ x out k ≤ j → j < k → rd out (j : Int) > x
 | 0, j, _, h => by omega
 | k + 1, j, h1, h2 => by
  rw [name_All.posZ] at h1
  split at h1
  ·rename_i h
   by_cases e : j = k
   ·rw [e]; exact h
   ·exact name_All.posZ_gt x out k j h1 (by omega)
  ·omega
theorem name_All.posZ_not (x : Int) (out : List Int) : ∀ k, 0 < name_All.posZ x out k → ¬ rd out ((name_All.posZ x out k - 1 : Nat) : Int) > x
 | 0, h => by simp [name_All.posZ] at h
 | k + 1, h => by
  rw [name_All.posZ] at h ⊢
  split
  ·rename_i h1
   rw [if_pos h1] at h
   exact name_All.posZ_not x out k h
  ·rename_i h1
   simpa using h1
theorem name_All.insZ_perm (out : List Int) (x : Int) : (name_All.insZ out x).Perm (x :: out) := by
 unfold name_All.insZ
 refine List.perm_middle.trans ?_
 rw [List.take_append_drop]
theorem name_All.insZ_sorted {out : List Int} (h : out.Pairwise (· ≤ ·)) (x : Int) : (name_All.insZ out x).Pairwise (· ≤ ·) := by
 unfold name_All.insZ
 have hp := name_All.posZ_le x out out.length
 have hg := name_All.posZ_gt x out out.length
 have hn := name_All.posZ_not x out out.length
 generalize name_All.posZ x out out.length = p at hp hg hn
 have h0 := h
 rw [← List.take_append_drop p out, List.pairwise_append] at h
 obtain ⟨h1, h2, h3⟩ := h
 have hd : ∀ y ∈ out.drop p, x ≤ y := by
  intro y hy
  obtain ⟨j, hj, rfl⟩ := List.mem_iff_getElem.1 hy
  rw [List.length_drop] at hj
  have := hg (p + j) (by omega) (by omega)
  rw [name_All.rd_get (by omega)] at this
  rw [List.getElem_drop]
  omega
 have ht : ∀ y ∈ out.take p, y ≤ x := by
  intro y hy
  obtain ⟨j, hj, rfl⟩ := List.mem_iff_getElem.1 hy
  rw [List.length_take] at hj
  have hl := hn (by omega)
  rw [name_All.rd_get (by omega)] at hl
  rw [List.getElem_take]
  by_cases e : j = p - 1
  ·subst e; omega
  ·have := List.pairwise_iff_getElem.1 h0 j (p - 1) (by omega) (by omega) (by omega)
   omega
 rw [List.pairwise_append]
 refine ⟨h1, List.pairwise_cons.2 ⟨hd, h2⟩, fun a ha b hb => ?_⟩
 rcases List.mem_cons.1 hb with rfl | hb
 ·exact ht a ha
 ·exact h3 a ha b hb
theorem name_All.foldZ (l : List Int) : ∀ acc : List Int, acc.Pairwise (· ≤ ·) → (l.foldl name_All.insZ acc).Pairwise (· ≤ ·) ∧ (l.foldl name_All.insZ acc).Perm (acc ++ l) := by
 induction l with
 | nil => intro acc h; exact ⟨h, by simp⟩
 | cons x l ih =>
  intro acc h
  obtain ⟨h1, h2⟩ := ih (name_All.insZ acc x) (name_All.insZ_sorted h x)
  refine ⟨h1, h2.trans ?_⟩
  exact ((name_All.insZ_perm acc x).append_right l).trans (List.perm_middle.symm)
theorem name_All.sorted_one : ∀ {l m : List Int}, l.Perm m → l.Pairwise (· ≤ ·) → m.Pairwise (· ≤ ·) → l = m
 | [], m, h, _, _ => (List.nil_perm.1 h).symm
 | x :: l, [], h, _, _ => absurd h.length_eq (by simp)
 | x :: l, y :: m, h, h1, h2 => by
  have hx : x ∈ y :: m := h.subset (List.mem_cons_self)
  have hy : y ∈ x :: l := h.symm.subset (List.mem_cons_self)
  obtain ⟨a1, a2⟩ := List.pairwise_cons.1 h1
  obtain ⟨b1, b2⟩ := List.pairwise_cons.1 h2
  have e : x = y := by
   rcases List.mem_cons.1 hx with e | hx
   ·exact e
   ·rcases List.mem_cons.1 hy with e | hy
    ·exact e.symm
    ·have := a1 y hy
     have := b1 x hx
     omega
  subst e
  rw [name_All.sorted_one ((List.perm_cons x).1 h) a2 b2]
theorem name_All.sortZ_merge (l : List Int) : l.mergeSort (fun x y => decide (x ≤ y)) = name_All.sortZ l := by
 obtain ⟨h1, h2⟩ := name_All.foldZ l [] List.Pairwise.nil
 refine name_All.sorted_one ((List.mergeSort_perm l _).trans (by simpa [name_All.sortZ] using h2.symm)) ?_ h1
 have := List.pairwise_mergeSort (le := fun x y : Int => decide (x ≤ y)) (by intro a b c; simp; omega) (by intro a b; simp; omega) l
 simpa using this
open Go.Sort in
set_option maxHeartbeats 1000000 in
theorem name_All.sort {base : Nat} {ok : Nat → Prop} {v : Value} {zs : List Int} {w : World} (h : (Kd.int .i64).R 3 w base ok v zs) (hl : zs.length < 4611686018427387904) :
  Calls Try.prog 10 #[v] w fun e w' => e = .returned (.tuple #[]) ∧ (Kd.int .i64).R 3 w' base ok v (name_All.sortZ zs) ∧ w.grownBy w' v.ownBlock := by
 have ho := Kd.own_of_R h
 have hok := h.1
 rcases ho.2 with ⟨rfl, hn⟩ | ⟨g, cap, cur, rfl, hg, hh, hc1, hc2, hc3, hc4⟩
 ·have hz : zs = [] := List.length_eq_zero_iff.1 hn
  subst hz
  refine (name_All.sort_int_none none 0 w).mono ?_
  rintro e w' ⟨rfl, rfl⟩
  exact ⟨rfl, h, World.grownBy.refl _ _⟩
 ·have hH : Holds (Value.int .i64) w g 0 zs.toArray := by
   intro j hj
   have hj' : j < zs.length := by simpa using hj
   have := Kd.R_cell (d := (0 : Int)) h (j : Int) (by omega) (by omega)
   rw [Int.toNat_natCast] at this
   rw [Nat.zero_add]
   refine ⟨this.1.trans ?_, this.2⟩
   simp [rdOf, hj']
  have hlen : (name_All.sortZ zs).length = zs.length := by
   have := (name_All.foldZ zs [] List.Pairwise.nil).2.length_eq
   simpa [name_All.sortZ] using this
  refine (name_All.sort_int g 0 cap zs w hH (blk_lt hh) hl).mono ?_
  rintro e w' ⟨rfl, q, os, rfl⟩
  rw [name_All.sortZ_merge, Go.Lib.sorted_world (Value.int .i64) w g 0 q zs.toArray (name_All.sortZ zs) os hH (by simpa using hlen)]
  obtain ⟨cur', h3, h4, h5⟩ := setCells_row ((name_All.sortZ zs).map (Value.int .i64)) 0 (w.drewN q) cur hh (by rw [List.length_map, hlen, hc3]; omega)
  obtain ⟨s1, s2, s3, s4⟩ := setCells_same g ((name_All.sortZ zs).map (Value.int .i64)) 0 (w.drewN q)
  have hs4 : ((w.drewN q).setCells g 0 ((name_All.sortZ zs).map (Value.int .i64))).heap.size = w.heap.size := s4
  have hold : ∀ k, k < w.heap.size → (grow ((w.drewN q).setCells g 0 ((name_All.sortZ zs).map (Value.int .i64))) os).heap[k]? = ((w.drewN q).setCells g 0 ((name_All.sortZ zs).map (Value.int .i64))).heap[k]? := fun k hk => by
   unfold grow
   simp only
   rw [Array.getElem?_append_left (by omega)]
  refine ⟨rfl, ?_, ⟨s1, s2, s3, by unfold grow; simp only [Array.size_append]; omega, fun k hk hne => ?_⟩⟩
  ·refine Kd.R_of_own (enc := Value.int .i64) ⟨by simp [encs], .inr ⟨g, cap, cur', by rw [hlen], hg, (hold g (blk_lt hh)).trans h3, by rw [hlen]; exact hc1, hc2, by rw [h4, hc3], ?_⟩⟩ hok
   rw [h5, List.take_zero, List.nil_append, List.take_append_of_le_length (by simp), List.take_of_length_le (by simp)]
   rfl
  ·rw [hold k hk]
   exact setCells_far _ 0 k (fun e => hne (by rw [e]; rfl))
def name_All.l0 : Nat → List ByteArray → Int → List Int → Int → Option (List Int)
 | 0, _, _, _, _ => none
 | k + 1, l, kind, acc, i => if i < (l.length : Int) then (name_Parse.f k (rdOf ByteArray.empty l i)).bind fun (kd, num, ok) => if ok = true then (if kd = kind then (if acc.length < 17592186044415 then name_All.l0 k l kind (acc ++ [num]) (wrap64 (i + 1)) else none) else name_All.l0 k l kind acc (wrap64 (i + 1))) else name_All.l0 k l kind acc (wrap64 (i + 1)) else some (name_All.sortZ acc)
def name_All.f (k : Nat) (l : List ByteArray) (kind : Int) : Option (List Int) := name_All.l0 k l kind [] 0
theorem name_All.mono_l : ∀ (k : Nat) (l : List ByteArray) (c : Int) (acc : List Int) (i : Int), LeO (name_All.l0 k l c acc i) (name_All.l0 (k + 1) l c acc i)
 | 0 => fun _ _ _ _ r h => by simp [name_All.l0] at h
 | k + 1 => fun l c acc i => by
  rw [name_All.l0, name_All.l0]
  exact LeO.ite (LeO.bind (name_Parse.mono _ _) (fun ⟨_, _, _⟩ => LeO.ite (LeO.ite (LeO.ite (name_All.mono_l k _ _ _ _) (LeO.refl _)) (name_All.mono_l k _ _ _ _)) (name_All.mono_l k _ _ _ _))) (LeO.refl _)
theorem name_All.mono : ∀ a0 a1 k, LeO (name_All.f k a0 a1) (name_All.f (k + 1) a0 a1) := fun a0 a1 k => name_All.mono_l k _ _ _ _
set_option maxHeartbeats 2000000 in
set_option maxRecDepth 100000 in
theorem name_All.calls (k : Nat) (A0 : Option Addr) (c0 : Nat) (l0 : List ByteArray) (a1 : Int) (r : List Int) (w : World) (hr0 : Kd.C Kd.string w A0 l0.length l0) (hc0 : l0.length ≤ c0) (h : name_All.f k l0 a1 = some r) :
  Calls Try.prog 6 #[.slice A0 l0.length c0, .int .i64 a1] w fun e w' => ∃ v0_ : Value, e = .returned v0_ ∧ Kd.R (Kd.int .i64) 3 w' w.heap.size (fun _ => True) v0_ r ∧ Below w.heap.size w w' := by
 have HR0 := Aside0.mk hr0
 have HC0 := Aside0.mk hc0
 have HH : Aside0 (name_All.l0 k l0 a1 [] 0 = some r) := ⟨h⟩
 clear hr0 hc0 h
 go_enter Try.func6, Try.ntmps6
 go_wp2_with fail
 go_loopg [5, 12] k (fun kq v5 v12 w' => ∃ (acc : List Int) (i : Int), v12 = .int .i64 i ∧ Aside0 (0 ≤ i) ∧ Aside0 (acc.length ≤ 17592186044415) ∧ Aside0 (name_All.l0 kq l0 a1 acc i = some r) ∧ Aside0 (kq ≤ k) ∧ Aside0 (Kd.R (Kd.int .i64) 3 w' w.heap.size (fun _ => True) v5 acc) ∧ Aside0 (Below w.heap.size w w'))
 case atStart => exact ⟨[], 0, rfl, ⟨by omega⟩, ⟨by simp⟩, HH, ⟨Nat.le_refl _⟩, ⟨Kd.R_nil _ _ _ _ _⟩, ⟨Below.refl _ _⟩⟩
 case round =>
  clear HH
  obtain ⟨acc, i, rfl, HI, HZ, HA, HK, HR, HB⟩ := hrel
  cases gk with
  | zero => exact absurd HA.out (by simp [name_All.l0])
  | succ k2 =>
   have H := HA.out
   clear HA
   simp only [name_All.l0] at H
   have hlm := Kd.C_max HR0.out
   by_cases c1 : i < (l0.length : Int)
   ·rw [if_pos c1] at H
    have c1b : decide (i < (l0.length : Int)) = true := decide_eq_true c1
    obtain ⟨ad, e0, hcell⟩ := Kd.at_string (Kd.C_below HR0.out HB.out) i HI.out c1
    subst e0
    have p1 := eq_true HI.out
    have q1 := eq_true c1
    have HW := Aside0.mk (show wrap64 (i + 1) = i + 1 by have := HI.out; unfold wrap64; omega)
    have HI2 := Aside0.mk (show (0 : Int) ≤ wrap64 (i + 1) by rw [HW.out]; have := HI.out; omega)
    clear c1 hlm
    replace H := Option.bind_eq_some_iff.mp H
    obtain ⟨⟨kd, num, ok_⟩, hp, H⟩ := H
    simp only at H
    have HP := Aside0.mk hp
    clear hp
    by_cases c2 : ok_ = true
    ·subst c2
     rw [if_pos rfl] at H
     by_cases c3 : kd = a1
     ·rw [if_pos c3] at H
      have c3b : (kd == a1) = true := beq_iff_eq.mpr c3
      clear c3
      by_cases c4 : acc.length < 17592186044415
      ·rw [if_pos c4] at H
       have LM := Aside0.mk c4
       have H' := Aside0.mk H
       clear c4 H
       go_wp2_with (first | (go_at_call 9; go_loud (refine (name_Parse.calls k2 (rdOf ByteArray.empty l0 i) kd num true wr HP.out).mono ?_; rintro e w3 ⟨rfl, hb⟩; have R3 := Aside0.mk (Kd.R_below HR.out hb); have B3 := Aside0.mk (below_step HB.out hb); clear hb)) | ((with_reducible refine gate_dst (N := 8) rfl ?_); go_loud (refine box_event ?hg (N := 8) ?hd (cs := #[.int .i64 0, .int .i64 0]) (t := 32) ?hr ?_; (case hd => rfl); (case hg => rfl); (case hr => first | (go_simp; done) | (go_simp; rfl)); intro Bx hgx w4 hbox hb1; have x1 : w.heap.size ≤ Bx := (by have := B3.out.size; omega); have X1 := Aside0.mk x1; have R4 := Aside0.mk (Kd.R_below (Kd.R_elderB R3.out Bx (Nat.le_of_eq hgx.symm)) hb1); have B4 := Aside0.mk (below_step B3.out hb1); obtain ⟨_, _⟩ := bc2 hbox; obtain ⟨_, _⟩ := bf2 hbox; have HBX := Aside0.mk hbox; clear hgx hbox hb1 x1)) | ((with_reducible refine gate_store (t := 32) (p := 8) rfl ?_); go_loud (refine store_event (t := 32) (p := 8) (v := ?vo_) (w1 := (w4.setCell ⟨Bx, 0, none⟩ (.int .i64 kd)).setCell ⟨Bx, 1, none⟩ (.int .i64 num)) ?hg ?ho ?hn ?hr ?_; (case ho => rfl); (case hg => rfl); (case hn => rfl); (case hr => first | (go_simp; done) | (go_simp; rfl)); intro w6 hw; have R6 : Aside0 (Kd.R (Kd.int .i64) 3 w6 w.heap.size (fun _ => True) u5 acc) := ⟨(by rw [hw]; exact Kd.R_mono (Kd.R_far (p := ⟨Bx, 1, none⟩) (Kd.R_far (p := ⟨Bx, 0, none⟩) R4.out (fun _ hk => hk.2) _) (fun _ hk => hk.2) _) (fun _ _ => trivial))⟩; have B6 : Aside0 (Below w.heap.size w w6) := ⟨(by rw [hw]; exact (B4.out.setCell X1.out _).setCell X1.out _)⟩; have hb6 : w6.heap[Bx]? = some (.cells #[.int .i64 kd, .int .i64 num] 32 (0, 0)) := (by rw [hw]; exact blk_set (blk_set HBX.out 0 _) 1 _); obtain ⟨_, _⟩ := bc2 hb6; clear hw hb6)) | ((with_reducible refine gate_builtin (b := .append) (xs := #[.tmp 28, .tmp 31]) rfl ?_); at_builtin; go_loud (refine Kd.R_append (Kd.int .i64) (w0 := w) w.heap.size rfl (.tmp 28) (.tmp 31) 25 3 (.int .i64 0) 8 rfl Try.underlying25 info3 rfl (by decide) (by omega) u5 acc num [.int .i64 num] (fun _ => True) (fun _ => False) rfl rfl ?aP (fun _ h => h.elim) (fun _ _ => trivial) ?aO ?aB ?aS ?aL ?_; (case aP => exact rfl); (case aO => exact R6.out); (case aB => exact B6.out); (case aS => exact B6.out.size); (case aL => have := LM.out; omega); intro v5 w5 ho hb hg hat; have R5 := Aside0.mk ho; have B5 := Aside0.mk hb; clear ho hb hg hat)))
       go_roundg k2
       case measure => have := HK.out; omega
       case rel => exact ⟨acc ++ [num], wrap64 (i + 1), rfl, HI2, ⟨by have := LM.out; rw [List.length_append]; simp only [List.length_cons, List.length_nil]; omega⟩, H', ⟨by have := HK.out; omega⟩, R5, B5⟩
      ·rw [if_neg c4] at H
       exact absurd H (by simp)
     ·rw [if_neg c3] at H
      have c3b : (kd == a1) = false := beq_eq_false_iff_ne.mpr c3
      have H' := Aside0.mk H
      clear c3 H
      go_wp2_with (first | (go_at_call 9; go_loud (refine (name_Parse.calls k2 (rdOf ByteArray.empty l0 i) kd num true wr HP.out).mono ?_; rintro e w3 ⟨rfl, hb⟩; have R3 := Aside0.mk (Kd.R_below HR.out hb); have B3 := Aside0.mk (below_step HB.out hb); clear hb)) | ((with_reducible refine gate_dst (N := 8) rfl ?_); go_loud (refine box_event ?hg (N := 8) ?hd (cs := #[.int .i64 0, .int .i64 0]) (t := 32) ?hr ?_; (case hd => rfl); (case hg => rfl); (case hr => first | (go_simp; done) | (go_simp; rfl)); intro Bx hgx w4 hbox hb1; have x1 : w.heap.size ≤ Bx := (by have := B3.out.size; omega); have X1 := Aside0.mk x1; have R4 := Aside0.mk (Kd.R_below (Kd.R_elderB R3.out Bx (Nat.le_of_eq hgx.symm)) hb1); have B4 := Aside0.mk (below_step B3.out hb1); obtain ⟨_, _⟩ := bc2 hbox; obtain ⟨_, _⟩ := bf2 hbox; have HBX := Aside0.mk hbox; clear hgx hbox hb1 x1)) | ((with_reducible refine gate_store (t := 32) (p := 8) rfl ?_); go_loud (refine store_event (t := 32) (p := 8) (v := ?vo_) (w1 := (w4.setCell ⟨Bx, 0, none⟩ (.int .i64 kd)).setCell ⟨Bx, 1, none⟩ (.int .i64 num)) ?hg ?ho ?hn ?hr ?_; (case ho => rfl); (case hg => rfl); (case hn => rfl); (case hr => first | (go_simp; done) | (go_simp; rfl)); intro w6 hw; have R6 : Aside0 (Kd.R (Kd.int .i64) 3 w6 w.heap.size (fun _ => True) u5 acc) := ⟨(by rw [hw]; exact Kd.R_mono (Kd.R_far (p := ⟨Bx, 1, none⟩) (Kd.R_far (p := ⟨Bx, 0, none⟩) R4.out (fun _ hk => hk.2) _) (fun _ hk => hk.2) _) (fun _ _ => trivial))⟩; have B6 : Aside0 (Below w.heap.size w w6) := ⟨(by rw [hw]; exact (B4.out.setCell X1.out _).setCell X1.out _)⟩; have hb6 : w6.heap[Bx]? = some (.cells #[.int .i64 kd, .int .i64 num] 32 (0, 0)) := (by rw [hw]; exact blk_set (blk_set HBX.out 0 _) 1 _); obtain ⟨_, _⟩ := bc2 hb6; clear hw hb6)))
      go_roundg k2
      case measure => have := HK.out; omega
      case rel => exact ⟨acc, wrap64 (i + 1), rfl, HI2, HZ, H', ⟨by have := HK.out; omega⟩, R6, B6⟩
    ·obtain rfl : ok_ = false := by simpa using c2
     rw [if_neg (by simp)] at H
     have H' := Aside0.mk H
     clear c2 H
     go_wp2_with (first | (go_at_call 9; go_loud (refine (name_Parse.calls k2 (rdOf ByteArray.empty l0 i) kd num false wr HP.out).mono ?_; rintro e w3 ⟨rfl, hb⟩; have R3 := Aside0.mk (Kd.R_below HR.out hb); have B3 := Aside0.mk (below_step HB.out hb); clear hb)) | ((with_reducible refine gate_dst (N := 8) rfl ?_); go_loud (refine box_event ?hg (N := 8) ?hd (cs := #[.int .i64 0, .int .i64 0]) (t := 32) ?hr ?_; (case hd => rfl); (case hg => rfl); (case hr => first | (go_simp; done) | (go_simp; rfl)); intro Bx hgx w4 hbox hb1; have x1 : w.heap.size ≤ Bx := (by have := B3.out.size; omega); have X1 := Aside0.mk x1; have R4 := Aside0.mk (Kd.R_below (Kd.R_elderB R3.out Bx (Nat.le_of_eq hgx.symm)) hb1); have B4 := Aside0.mk (below_step B3.out hb1); obtain ⟨_, _⟩ := bc2 hbox; obtain ⟨_, _⟩ := bf2 hbox; have HBX := Aside0.mk hbox; clear hgx hbox hb1 x1)) | ((with_reducible refine gate_store (t := 32) (p := 8) rfl ?_); go_loud (refine store_event (t := 32) (p := 8) (v := ?vo_) (w1 := (w4.setCell ⟨Bx, 0, none⟩ (.int .i64 kd)).setCell ⟨Bx, 1, none⟩ (.int .i64 num)) ?hg ?ho ?hn ?hr ?_; (case ho => rfl); (case hg => rfl); (case hn => rfl); (case hr => first | (go_simp; done) | (go_simp; rfl)); intro w6 hw; have R6 : Aside0 (Kd.R (Kd.int .i64) 3 w6 w.heap.size (fun _ => True) u5 acc) := ⟨(by rw [hw]; exact Kd.R_mono (Kd.R_far (p := ⟨Bx, 1, none⟩) (Kd.R_far (p := ⟨Bx, 0, none⟩) R4.out (fun _ hk => hk.2) _) (fun _ hk => hk.2) _) (fun _ _ => trivial))⟩; have B6 : Aside0 (Below w.heap.size w w6) := ⟨(by rw [hw]; exact (B4.out.setCell X1.out _).setCell X1.out _)⟩; have hb6 : w6.heap[Bx]? = some (.cells #[.int .i64 kd, .int .i64 num] 32 (0, 0)) := (by rw [hw]; exact blk_set (blk_set HBX.out 0 _) 1 _); obtain ⟨_, _⟩ := bc2 hb6; clear hw hb6)))
     go_roundg k2
     case measure => have := HK.out; omega
     case rel => exact ⟨acc, wrap64 (i + 1), rfl, HI2, HZ, H', ⟨by have := HK.out; omega⟩, R6, B6⟩
   ·rw [if_neg c1] at H
    have c1b : decide (i < (l0.length : Int)) = false := decide_eq_false c1
    have HE := Aside0.mk (Option.some.inj H)
    clear c1 H
    have hl : acc.length < 4611686018427387904 := by
     have := HZ.out
     omega
    have HS := Aside0.mk (name_All.sort HR.out hl)
    clear hl hlm
    go_wp2_with (go_at_call 10; refine HS.out.mono ?_; rintro e w3 ⟨rfl, hr, hg⟩; have R3 := Aside0.mk hr; have B3 := Aside0.mk (HB.out.grown hg HB.out.size (Kd.R_base HR.out)); clear hr hg)
    go_ret
    rw [← HE.out]
    exact ⟨_, rfl, R3.out, B3.out⟩
mutual
def garnerref07_Of.j0 : Nat → Bool → Int → Int → Option (ByteArray)
 | 0, _, _, _ => none
 | k + 1, x13, x114000, x114001 => if x13 = true then (some (⟨#[114, 111, 115, 116, 101, 114]⟩ : ByteArray)) else (if x114000 = 2 then (garnerref07_Of.j1 k (x114001 == 0) x114000 x114001) else (garnerref07_Of.j1 k false x114000 x114001))
def garnerref07_Of.j1 : Nat → Bool → Int → Int → Option (ByteArray)
 | 0, _, _, _ => none
 | k + 1, x21, x114000, x114001 => if x21 = true then (some (⟨#[114, 111, 115, 116, 101, 114, 46, 110, 101, 119]⟩ : ByteArray)) else (if x114000 < 3 then (garnerref07_Of.j2 k true x114000 x114001) else (if x114000 > 7 then (garnerref07_Of.j2 k true x114000 x114001) else (if x114001 < 1 then (garnerref07_Of.j2 k true x114000 x114001) else (garnerref07_Of.j2 k (decide (x114001 > 2147483647)) x114000 x114001))))
def garnerref07_Of.j2 : Nat → Bool → Int → Int → Option (ByteArray)
 | 0, _, _, _ => none
 | k + 1, x39, x114000, x114001 => if x39 = true then (some (⟨#[]⟩ : ByteArray)) else (garnerref07_Of.l0 k (⟨#[]⟩ : ByteArray) x114001 0 x114000 x114001)
def garnerref07_Of.l0 : Nat → ByteArray → Int → Int → Int → Int → Option (ByteArray)
 | 0, _, _, _, _, _ => none
 | k + 1, x3, x4, x5, x114000, x114001 => if x5 < 10 then ((some (([(⟨#[48]⟩ : ByteArray), (⟨#[49]⟩ : ByteArray), (⟨#[50]⟩ : ByteArray), (⟨#[51]⟩ : ByteArray), (⟨#[52]⟩ : ByteArray), (⟨#[53]⟩ : ByteArray), (⟨#[54]⟩ : ByteArray), (⟨#[55]⟩ : ByteArray), (⟨#[56]⟩ : ByteArray), (⟨#[57]⟩ : ByteArray)] : List ByteArray) : List ByteArray)).bind fun y114 => (if 0 ≤ (Int.tmod x4 10) then (if (Int.tmod x4 10) < (y114.length : Int) then (if (rdOf ByteArray.empty y114 (Int.tmod x4 10)).size + x3.size ≤ 9223372036854775807 then (garnerref07_Of.l0 k ((rdOf ByteArray.empty y114 (Int.tmod x4 10)) ++ x3) (wrap64 (Int.tdiv x4 10)) (wrap64 (x5 + 1)) x114000 x114001) else (none)) else (none)) else (none))) else ((some (([(⟨#[118]⟩ : ByteArray), (⟨#[119]⟩ : ByteArray), (⟨#[116]⟩ : ByteArray), (⟨#[115]⟩ : ByteArray), (⟨#[109]⟩ : ByteArray)] : List ByteArray) : List ByteArray)).bind fun y118 => (if 0 ≤ (wrap64 (x114000 - 3)) then (if (wrap64 (x114000 - 3)) < (y118.length : Int) then (if (rdOf ByteArray.empty y118 (wrap64 (x114000 - 3))).size + x3.size ≤ 9223372036854775807 then (some ((rdOf ByteArray.empty y118 (wrap64 (x114000 - 3))) ++ x3)) else (none)) else (none)) else (none)))
end
def garnerref07_Of.f (k : Nat) (a0_0 : Int) (a0_1 : Int) : Option (ByteArray) := if a0_0 = 1 then (garnerref07_Of.j0 k (a0_1 == 0) a0_0 a0_1) else (garnerref07_Of.j0 k false a0_0 a0_1)
theorem garnerref07_Of.mono_l : ∀ k, (∀ y0 y1 y2, LeO (garnerref07_Of.j0 k y0 y1 y2) (garnerref07_Of.j0 (k + 1) y0 y1 y2)) ∧ (∀ y0 y1 y2, LeO (garnerref07_Of.j1 k y0 y1 y2) (garnerref07_Of.j1 (k + 1) y0 y1 y2)) ∧ (∀ y0 y1 y2, LeO (garnerref07_Of.j2 k y0 y1 y2) (garnerref07_Of.j2 (k + 1) y0 y1 y2)) ∧ (∀ y0 y1 y2 y3 y4, LeO (garnerref07_Of.l0 k y0 y1 y2 y3 y4) (garnerref07_Of.l0 (k + 1) y0 y1 y2 y3 y4))
 | 0 => ⟨fun _ _ _ r h => by simp [garnerref07_Of.j0] at h, fun _ _ _ r h => by simp [garnerref07_Of.j1] at h, fun _ _ _ r h => by simp [garnerref07_Of.j2] at h, fun _ _ _ _ _ r h => by simp [garnerref07_Of.l0] at h⟩
 | k + 1 => by
  obtain ⟨ih0, ih1, ih2, ih3⟩ := garnerref07_Of.mono_l k
  refine ⟨?_, ?_, ?_, ?_⟩
  ·intro y0 y1 y2
   unfold garnerref07_Of.j0
   repeat' first
   | (with_reducible exact ih0 _ _ _)
   | (with_reducible exact ih1 _ _ _)
   | (with_reducible exact ih2 _ _ _)
   | (with_reducible exact ih3 _ _ _ _ _)
   | (with_reducible exact LeO.refl _)
   | (with_reducible exact LeO.none _)
   | (with_reducible refine LeO.ite ?_ ?_)
   | (with_reducible refine LeO.bind ?_ (fun _ => ?_))
   | exact ih0 _ _ _
   | exact ih1 _ _ _
   | exact ih2 _ _ _
   | exact ih3 _ _ _ _ _
   | exact LeO.none _
   | refine LeO.ite ?_ ?_
   | refine LeO.bind ?_ (fun _ => ?_)
  ·intro y0 y1 y2
   unfold garnerref07_Of.j1
   repeat' first
   | (with_reducible exact ih0 _ _ _)
   | (with_reducible exact ih1 _ _ _)
   | (with_reducible exact ih2 _ _ _)
   | (with_reducible exact ih3 _ _ _ _ _)
   | (with_reducible exact LeO.refl _)
   | (with_reducible exact LeO.none _)
   | (with_reducible refine LeO.ite ?_ ?_)
   | (with_reducible refine LeO.bind ?_ (fun _ => ?_))
   | exact ih0 _ _ _
   | exact ih1 _ _ _
   | exact ih2 _ _ _
   | exact ih3 _ _ _ _ _
   | exact LeO.none _
   | refine LeO.ite ?_ ?_
   | refine LeO.bind ?_ (fun _ => ?_)
  ·intro y0 y1 y2
   unfold garnerref07_Of.j2
   repeat' first
   | (with_reducible exact ih0 _ _ _)
   | (with_reducible exact ih1 _ _ _)
   | (with_reducible exact ih2 _ _ _)
   | (with_reducible exact ih3 _ _ _ _ _)
   | (with_reducible exact LeO.refl _)
   | (with_reducible exact LeO.none _)
   | (with_reducible refine LeO.ite ?_ ?_)
   | (with_reducible refine LeO.bind ?_ (fun _ => ?_))
   | exact ih0 _ _ _
   | exact ih1 _ _ _
   | exact ih2 _ _ _
   | exact ih3 _ _ _ _ _
   | exact LeO.none _
   | refine LeO.ite ?_ ?_
   | refine LeO.bind ?_ (fun _ => ?_)
  ·intro y0 y1 y2 y3 y4
   unfold garnerref07_Of.l0
   repeat' first
   | (with_reducible exact ih0 _ _ _)
   | (with_reducible exact ih1 _ _ _)
   | (with_reducible exact ih2 _ _ _)
   | (with_reducible exact ih3 _ _ _ _ _)
   | (with_reducible exact LeO.refl _)
   | (with_reducible exact LeO.none _)
   | (with_reducible refine LeO.ite ?_ ?_)
   | (with_reducible refine LeO.bind ?_ (fun _ => ?_))
   | exact ih0 _ _ _
   | exact ih1 _ _ _
   | exact ih2 _ _ _
   | exact ih3 _ _ _ _ _
   | exact LeO.none _
   | refine LeO.ite ?_ ?_
   | refine LeO.bind ?_ (fun _ => ?_)
theorem garnerref07_Of.mono : ∀ a0 a1 k, LeO (garnerref07_Of.f k a0 a1) (garnerref07_Of.f (k + 1) a0 a1) := by
 intro a0 a1 k
 obtain ⟨ih0, ih1, ih2, ih3⟩ := garnerref07_Of.mono_l k
 unfold garnerref07_Of.f
 repeat' first
   | (with_reducible exact ih0 _ _ _)
   | (with_reducible exact ih1 _ _ _)
   | (with_reducible exact ih2 _ _ _)
   | (with_reducible exact ih3 _ _ _ _ _)
   | (with_reducible exact LeO.refl _)
   | (with_reducible exact LeO.none _)
   | (with_reducible refine LeO.ite ?_ ?_)
   | (with_reducible refine LeO.bind ?_ (fun _ => ?_))
   | exact ih0 _ _ _
   | exact ih1 _ _ _
   | exact ih2 _ _ _
   | exact ih3 _ _ _ _ _
   | exact LeO.none _
   | refine LeO.ite ?_ ?_
   | refine LeO.bind ?_ (fun _ => ?_)
set_option maxHeartbeats 8000000 in
set_option maxRecDepth 100000 in
theorem garnerref07_Of.calls (k : Nat) (a0_0 : Int) (a0_1 : Int) (r : ByteArray) (w : World) (h : garnerref07_Of.f k a0_0 a0_1 = some r) :
  Calls Try.prog 15 #[.agg #[.int .i64 a0_0, .int .i64 a0_1]] w fun e w' => e = .returned (.string r) ∧ Below w.heap.size w w' := by
 have hu32 := Try.underlying32
 have HB := Am (Below.refl w.heap.size w)
 have H : (if a0_0 = 1 then (garnerref07_Of.j0 k (a0_1 == 0) a0_0 a0_1) else (garnerref07_Of.j0 k false a0_0 a0_1)) = some r := h
 clear h
 have HC2 := Am H
 clear H
 go_enter Try.func15, Try.ntmps15
 go_upto_region 1 with (first | ((with_reducible refine gate_dst (N := 1) rfl ?_); refine box_event ?hg (N := 1) ?hd (cs := #[.int .i64 a0_0, .int .i64 a0_1]) (t := 32) ?hr ?_; (case hd => rfl); (case hg => rfl); (case hr => first | (go_simp; done) | (go_simp; rfl)); intro Ax hg w3 hbox hb; have Aa := Am (hbox); have Bm := Am ((by rw [hg]; exact (below_size (pB HB.out)) : w.heap.size ≤ Ax)); replace HB := Am (below_step (pB HB.out) hb); have Ab := Bm; clear hb hbox hg))
 (try simp only [Act.put, List.setIfInBounds_toArray, List.set_cons_zero, List.set_cons_succ])
 go_cut [13] (fun v13 wc => ∃ (kq : Nat) (Ay : Bool), v13 = .bool Ay ∧ Aside0 (garnerref07_Of.j0 kq Ay a0_0 a0_1 = some r) ∧ Aside0 (kq ≤ k) ∧ Aside0 (wc.heap[Ax]? = some (.cells #[.int .i64 a0_0, .int .i64 a0_1] 32 (0, 0))) ∧ Aside0 (Below w.heap.size w wc))
 case first =>
  have H := HC2.out
  clear HC2
  by_cases c4 : a0_0 = 1
  rotate_left
  ·rw [if_neg c4] at H
   have c4b0 : (a0_0 == 1) = false := beq_eq_false_iff_ne.mpr c4
   have c4b1 : (a0_0 != 1) = true := bne_iff_ne.mpr c4
   (first | rw [c4b0] | (simp only [i64_w, i32_w]; rw [c4b0]) | skip)
   have H' := Am H
   clear H
   obtain ⟨Aj, Ak⟩ := bc2 Aa.out
   obtain ⟨Al, An⟩ := bf2 Aa.out
   go_wp2
   go_meet
   case rel => exact ⟨_, (false), (by first | rfl | (simp; done) | (simp [*]; done)), H', ⟨by first | omega | exact Nat.le_refl _⟩, ⟨pK Aa.out⟩, ⟨pE HB.out Ab.out⟩⟩
  rw [if_pos c4] at H
  have c4b0 : (a0_0 == 1) = true := beq_iff_eq.mpr c4
  have c4b1 : (a0_0 != 1) = false := bne_eq_false_iff_eq.mpr c4
  clear c4
  (first | rw [c4b0] | (simp only [i64_w, i32_w]; rw [c4b0]) | skip)
  have H' := Am H
  clear H
  obtain ⟨Af, Ag⟩ := bc2 Aa.out
  obtain ⟨Ah, Ai⟩ := bf2 Aa.out
  go_wp2
  go_meet
  case rel => exact ⟨_, ((a0_1 == 0)), (by first | rfl | (simp; done) | (simp [*]; done)), H', ⟨by first | omega | exact Nat.le_refl _⟩, ⟨pK Aa.out⟩, ⟨pE HB.out Ab.out⟩⟩
 case rest =>
  clear HC2
  try clear c1
  try clear p2
  try clear c4
  try clear c4b0
  try clear c4b1
  try clear Af Ag
  try clear Aj Ak
  try clear Ah Ai
  try clear Al An
  obtain ⟨kq, Ay, rfl, HA, HJ1, Aa, HB⟩ := hcut
  cases kq with
  | zero => exact absurd HA.out (by simp [garnerref07_Of.j0])
  | succ kj1 =>
   have H := HA.out
   clear HA
   simp only [garnerref07_Of.j0] at H
   by_cases c7 : Ay = true
   ·subst c7
    have H1 : (some (⟨#[114, 111, 115, 116, 101, 114]⟩ : ByteArray)) = some r := by rw [if_pos rfl] at H; exact H
    clear H
    have H := H1
    clear H1
    obtain rfl := Option.some.inj H
    go_wp2
    go_ret
    exact ⟨pX, pE HB.out Ab.out⟩
   replace c7 := Bool.eq_false_iff.mpr c7
   subst c7
   have H1 : (if a0_0 = 2 then (garnerref07_Of.j1 kj1 (a0_1 == 0) a0_0 a0_1) else (garnerref07_Of.j1 kj1 false a0_0 a0_1)) = some r := by rw [if_neg (show ¬ (false = true) by decide)] at H; exact H
   clear H
   have H := H1
   clear H1
   have HC8 := Am H
   clear H
   go_upto_region 3 with (fail)
   go_cut [21] (fun v21 wc => ∃ (kq : Nat) (Az : Bool), v21 = .bool Az ∧ Aside0 (garnerref07_Of.j1 kq Az a0_0 a0_1 = some r) ∧ Aside0 (kq ≤ kj1) ∧ Aside0 (wc.heap[Ax]? = some (.cells #[.int .i64 a0_0, .int .i64 a0_1] 32 (0, 0))) ∧ Aside0 (Below w.heap.size w wc))
   case first =>
    have H := HC8.out
    clear HC8
    by_cases c9 : a0_0 = 2
    rotate_left
    ·rw [if_neg c9] at H
     have c9b0 : (a0_0 == 2) = false := beq_eq_false_iff_ne.mpr c9
     have c9b1 : (a0_0 != 2) = true := bne_iff_ne.mpr c9
     (first | rw [c9b0] | (simp only [i64_w, i32_w]; rw [c9b0]) | skip)
     have H' := Am H
     clear H
     obtain ⟨At, Au⟩ := bc2 Aa.out
     obtain ⟨Av, Aw⟩ := bf2 Aa.out
     go_wp2
     go_meet
     case rel => exact ⟨_, (false), (by first | rfl | (simp; done) | (simp [*]; done)), H', ⟨by have := HJ1.out; first | omega | exact Nat.le_refl _⟩, ⟨pK Aa.out⟩, ⟨pE HB.out Ab.out⟩⟩
    rw [if_pos c9] at H
    have c9b0 : (a0_0 == 2) = true := beq_iff_eq.mpr c9
    have c9b1 : (a0_0 != 2) = false := bne_eq_false_iff_eq.mpr c9
    clear c9
    (first | rw [c9b0] | (simp only [i64_w, i32_w]; rw [c9b0]) | skip)
    have H' := Am H
    clear H
    obtain ⟨Ap, Aq⟩ := bc2 Aa.out
    obtain ⟨Ar, As⟩ := bf2 Aa.out
    go_wp2
    go_meet
    case rel => exact ⟨_, ((a0_1 == 0)), (by first | rfl | (simp; done) | (simp [*]; done)), H', ⟨by have := HJ1.out; first | omega | exact Nat.le_refl _⟩, ⟨pK Aa.out⟩, ⟨pE HB.out Ab.out⟩⟩
   case rest =>
    clear HC8
    try clear c1
    try clear p2
    try clear c4
    try clear c4b0
    try clear c4b1
    try clear c7
    try clear c9
    try clear c9b0
    try clear c9b1
    try clear Ap Aq
    try clear At Au
    try clear Af Ag
    try clear Aj Ak
    try clear Ar As
    try clear Av Aw
    try clear Ah Ai
    try clear Al An
    try clear p2
    obtain ⟨kq, Az, rfl, HA, HJ7, Aa, HB⟩ := hcut
    cases kq with
    | zero => exact absurd HA.out (by simp [garnerref07_Of.j1])
    | succ kj7 =>
     have H := HA.out
     clear HA
     simp only [garnerref07_Of.j1] at H
     by_cases c12 : Az = true
     ·subst c12
      have H1 : (some (⟨#[114, 111, 115, 116, 101, 114, 46, 110, 101, 119]⟩ : ByteArray)) = some r := by rw [if_pos rfl] at H; exact H
      clear H
      have H := H1
      clear H1
      obtain rfl := Option.some.inj H
      go_wp2
      go_ret
      exact ⟨pX, pE HB.out Ab.out⟩
     replace c12 := Bool.eq_false_iff.mpr c12
     subst c12
     have H1 : (if a0_0 < 3 then (garnerref07_Of.j2 kj7 true a0_0 a0_1) else (if a0_0 > 7 then (garnerref07_Of.j2 kj7 true a0_0 a0_1) else (if a0_1 < 1 then (garnerref07_Of.j2 kj7 true a0_0 a0_1) else (garnerref07_Of.j2 kj7 (decide (a0_1 > 2147483647)) a0_0 a0_1)))) = some r := by rw [if_neg (show ¬ (false = true) by decide)] at H; exact H
     clear H
     have H := H1
     clear H1
     have HC13 := Am H
     clear H
     go_upto_region 5 with (fail)
     go_cut [39] (fun v39 wc => ∃ (kq : Nat) (Ao : Bool), v39 = .bool Ao ∧ Aside0 (garnerref07_Of.j2 kq Ao a0_0 a0_1 = some r) ∧ Aside0 (kq ≤ kj7) ∧ Aside0 (wc.heap[Ax]? = some (.cells #[.int .i64 a0_0, .int .i64 a0_1] 32 (0, 0))) ∧ Aside0 (Below w.heap.size w wc))
     case first =>
      have H := HC13.out
      clear HC13
      by_cases c14 : a0_0 < 3
      ·rw [if_pos c14] at H
       have c14b0 : decide (a0_0 < 3) = true := decide_eq_true c14
       clear c14
       (first | rw [c14b0] | (simp only [i64_w, i32_w]; rw [c14b0]) | skip)
       have H' := Am H
       clear H
       obtain ⟨A0, A1⟩ := bc2 Aa.out
       obtain ⟨A2, A3⟩ := bf2 Aa.out
       go_wp2
       go_meet
       case rel => exact ⟨_, (true), (by first | rfl | (simp; done) | (simp [*]; done)), H', ⟨by have := HJ1.out; have := HJ7.out; first | omega | exact Nat.le_refl _⟩, ⟨pK Aa.out⟩, ⟨pE HB.out Ab.out⟩⟩
      rw [if_neg c14] at H
      have c14b0 : decide (a0_0 < 3) = false := decide_eq_false c14
      clear c14
      (first | rw [c14b0] | (simp only [i64_w, i32_w]; rw [c14b0]) | skip)
      by_cases c16 : a0_0 > 7
      ·rw [if_pos c16] at H
       have c16b0 : decide (7 < a0_0) = true := decide_eq_true c16
       clear c16
       have H' := Am H
       clear H
       obtain ⟨A4, A5⟩ := bc2 Aa.out
       obtain ⟨A6, A7⟩ := bf2 Aa.out
       go_wp2
       go_meet
       case rel => exact ⟨_, (true), (by first | rfl | (simp; done) | (simp [*]; done)), H', ⟨by have := HJ1.out; have := HJ7.out; first | omega | exact Nat.le_refl _⟩, ⟨pK Aa.out⟩, ⟨pE HB.out Ab.out⟩⟩
      rw [if_neg c16] at H
      have c16b0 : decide (7 < a0_0) = false := decide_eq_false c16
      clear c16
      by_cases c18 : a0_1 < 1
      ·rw [if_pos c18] at H
       have c18b0 : decide (a0_1 < 1) = true := decide_eq_true c18
       clear c18
       have H' := Am H
       clear H
       obtain ⟨A8, A9⟩ := bc2 Aa.out
       obtain ⟨Ba, Bb⟩ := bf2 Aa.out
       go_wp2
       go_meet
       case rel => exact ⟨_, (true), (by first | rfl | (simp; done) | (simp [*]; done)), H', ⟨by have := HJ1.out; have := HJ7.out; first | omega | exact Nat.le_refl _⟩, ⟨pK Aa.out⟩, ⟨pE HB.out Ab.out⟩⟩
      rw [if_neg c18] at H
      have c18b0 : decide (a0_1 < 1) = false := decide_eq_false c18
      clear c18
      have H' := Am H
      clear H
      obtain ⟨Bc, Bd⟩ := bc2 Aa.out
      obtain ⟨Be, Bf⟩ := bf2 Aa.out
      go_wp2
      go_meet
      case rel => exact ⟨_, (decide (a0_1 > 2147483647)), (by first | rfl | (simp; done) | (simp [*]; done)), H', ⟨by have := HJ1.out; have := HJ7.out; first | omega | exact Nat.le_refl _⟩, ⟨pK Aa.out⟩, ⟨pE HB.out Ab.out⟩⟩
     case rest =>
      clear HC13
      try clear c1
      try clear p2
      try clear c4
      try clear c4b0
      try clear c4b1
      try clear c7
      try clear c9
      try clear c9b0
      try clear c9b1
      try clear c12
      try clear c14
      try clear c14b0
      try clear c15
      try clear c16
      try clear c16b0
      try clear c18
      try clear c18b0
      try clear Ap Aq
      try clear At Au
      try clear A0 A1
      try clear A4 A5
      try clear A8 A9
      try clear Bc Bd
      try clear Af Ag
      try clear Aj Ak
      try clear Ar As
      try clear Av Aw
      try clear A2 A3
      try clear A6 A7
      try clear Ba Bb
      try clear Be Bf
      try clear Ah Ai
      try clear Al An
      try clear p2
      obtain ⟨kq, Ao, rfl, HA, HJ12, Aa, HB⟩ := hcut
      cases kq with
      | zero => exact absurd HA.out (by simp [garnerref07_Of.j2])
      | succ kj12 =>
       have H := HA.out
       clear HA
       simp only [garnerref07_Of.j2] at H
       by_cases c21 : Ao = true
       ·subst c21
        have H1 : (some (⟨#[]⟩ : ByteArray)) = some r := by rw [if_pos rfl] at H; exact H
        clear H
        have H := H1
        clear H1
        obtain rfl := Option.some.inj H
        go_wp2
        go_ret
        exact ⟨pX, pE HB.out Ab.out⟩
       replace c21 := Bool.eq_false_iff.mpr c21
       subst c21
       have H1 : (garnerref07_Of.l0 kj12 (⟨#[]⟩ : ByteArray) a0_1 0 a0_0 a0_1) = some r := by rw [if_neg (show ¬ (false = true) by decide)] at H; exact H
       clear H
       have H := H1
       clear H1
       have H' := Am H
       clear H
       obtain ⟨Bg, Bh⟩ := bc2 Aa.out
       obtain ⟨Bi, Bj⟩ := bf2 Aa.out
       go_wp2
       go_loopg [3, 4, 5] kj12 (fun kq v3 v4 v5 w' => ∃ (Ac : ByteArray) (Ad : Int) (Ae : Int), v3 = .string Ac ∧ v4 = .int .i64 Ad ∧ v5 = .int .i64 Ae ∧ Aside0 (garnerref07_Of.l0 kq Ac Ad Ae a0_0 a0_1 = some r) ∧ Aside0 (kq ≤ kj12) ∧ Aside0 (w'.heap[Ax]? = some (.cells #[.int .i64 a0_0, .int .i64 a0_1] 32 (0, 0))) ∧ Aside0 (Below w.heap.size w w'))
       case atStart => exact ⟨((⟨#[]⟩ : ByteArray)), (a0_1), (0), (by first | rfl | (simp; done) | (simp [*]; done)), (by first | rfl | (simp; done) | (simp [*]; done)), (by first | rfl | (simp; done) | (simp [*]; done)), H', ⟨Nat.le_refl _⟩, ⟨pK Aa.out⟩, ⟨pE HB.out Ab.out⟩⟩
       case round =>
        clear H'
        try clear c1
        try clear c2
        try clear p2
        try clear c4
        try clear c4b0
        try clear c4b1
        try clear c7
        try clear c9
        try clear c9b0
        try clear c9b1
        try clear c12
        try clear c14
        try clear c14b0
        try clear c15
        try clear c16
        try clear c16b0
        try clear c18
        try clear c18b0
        try clear c21
        try clear Ap Aq
        try clear At Au
        try clear A0 A1
        try clear A4 A5
        try clear A8 A9
        try clear Bc Bd
        try clear Bg Bh
        try clear Af Ag
        try clear Aj Ak
        try clear Ar As
        try clear Av Aw
        try clear A2 A3
        try clear A6 A7
        try clear Ba Bb
        try clear Be Bf
        try clear Bi Bj
        try clear Ah Ai
        try clear Al An
        try clear p2
        obtain ⟨Ac, Ad, Ae, rfl, rfl, rfl, HA, HK4, Aa, HB⟩ := hrel
        cases gk with
        | zero => exact absurd HA.out (by simp [garnerref07_Of.l0])
        | succ k4 =>
         have H := HA.out
         clear HA
         simp only [garnerref07_Of.l0] at H
         by_cases c23 : Ae < 10
         ·rw [if_pos c23] at H
          have c23b0 : decide (Ae < 10) = true := decide_eq_true c23
          clear c23
          obtain ⟨y114, hy114⟩ : ∃ y_ : List ByteArray, y_ = (([(⟨#[48]⟩ : ByteArray), (⟨#[49]⟩ : ByteArray), (⟨#[50]⟩ : ByteArray), (⟨#[51]⟩ : ByteArray), (⟨#[52]⟩ : ByteArray), (⟨#[53]⟩ : ByteArray), (⟨#[54]⟩ : ByteArray), (⟨#[55]⟩ : ByteArray), (⟨#[56]⟩ : ByteArray), (⟨#[57]⟩ : ByteArray)] : List ByteArray)) := ⟨_, rfl⟩
          replace H : (if 0 ≤ (Int.tmod Ad 10) then (if (Int.tmod Ad 10) < (y114.length : Int) then (if (rdOf ByteArray.empty y114 (Int.tmod Ad 10)).size + Ac.size ≤ 9223372036854775807 then (garnerref07_Of.l0 k4 ((rdOf ByteArray.empty y114 (Int.tmod Ad 10)) ++ Ac) (wrap64 (Int.tdiv Ad 10)) (wrap64 (Ae + 1)) a0_0 a0_1) else (none)) else (none)) else (none)) = some r := by first | (rw [hy114]; with_reducible exact H) | (have H2_ := (Option.bind_some _ _).symm.trans H; rw [hy114]; with_reducible exact H2_) | (have H2_ := (Option.bind_some _ _).symm.trans H; with_reducible exact H2_) | with_reducible exact H | (rw [hy114]; exact H) | exact H
          have Ny114 := Am hy114
          clear hy114
          obtain ⟨ji24, hji24⟩ : ∃ j_ : Int, (Int.tmod Ad 10) = j_ := ⟨_, rfl⟩
          replace H : (if 0 ≤ (ji24) then (if (ji24) < (y114.length : Int) then (if (rdOf ByteArray.empty y114 (ji24)).size + Ac.size ≤ 9223372036854775807 then (garnerref07_Of.l0 k4 ((rdOf ByteArray.empty y114 (ji24)) ++ Ac) (wrap64 (Int.tdiv Ad 10)) (wrap64 (Ae + 1)) a0_0 a0_1) else (none)) else (none)) else (none)) = some r := by first | (rw [hji24] at H; exact H) | (simp only [hji24] at H ⊢; exact H)
          by_cases c25 : 0 ≤ (ji24)
          rotate_left
          ·rw [if_neg c25] at H
           exact absurd H (by simp)
          rw [if_pos c25] at H
          have c25b0 : decide (0 ≤ (ji24)) = true := decide_eq_true c25
          clear c25
          by_cases c26 : (ji24) < (y114.length : Int)
          rotate_left
          ·rw [if_neg c26] at H
           exact absurd H (by simp)
          rw [if_pos c26] at H
          have c26b0 : decide ((ji24) < (y114.length : Int)) = true := decide_eq_true c26
          clear c26
          by_cases c27 : (rdOf ByteArray.empty y114 (ji24)).size + Ac.size ≤ 9223372036854775807
          rotate_left
          ·rw [if_neg c27] at H
           exact absurd H (by simp)
          rw [if_pos c27] at H
          have c27b0 := eq_true c27
          have c27b1 : decide ((rdOf ByteArray.empty y114 (ji24)).size + Ac.size ≤ 9223372036854775807) = true := decide_eq_true c27
          try have c27b2 : (9223372036854775807 < (rdOf ByteArray.empty y114 (ji24)).size + Ac.size) = False := eq_false (Nat.not_lt.2 c27)
          have H' := Am H
          clear H
          go_wp2_with (first | ((with_reducible refine gate_dst (N := 46) rfl ?_); refine Kd.R_lit Kd.string _ 9 ?hg (N := 46) ?hd (xs := ([(⟨#[48]⟩ : ByteArray), (⟨#[49]⟩ : ByteArray), (⟨#[50]⟩ : ByteArray), (⟨#[51]⟩ : ByteArray), (⟨#[52]⟩ : ByteArray), (⟨#[53]⟩ : ByteArray), (⟨#[54]⟩ : ByteArray), (⟨#[55]⟩ : ByteArray), (⟨#[56]⟩ : ByteArray), (⟨#[57]⟩ : ByteArray)] : List ByteArray)) (inner := [.string (⟨#[48]⟩ : ByteArray), .string (⟨#[49]⟩ : ByteArray), .string (⟨#[50]⟩ : ByteArray), .string (⟨#[51]⟩ : ByteArray), .string (⟨#[52]⟩ : ByteArray), .string (⟨#[53]⟩ : ByteArray), .string (⟨#[54]⟩ : ByteArray), .string (⟨#[55]⟩ : ByteArray), .string (⟨#[56]⟩ : ByteArray), .string (⟨#[57]⟩ : ByteArray)]) (ok := fun _ => True) (okp := fun _ => True) ?hr ?hp (fun _ hk => hk) trivial (Below.refl _ _) (Nat.le_refl _) (by simp) ?_; (case hd => rfl); (case hg => rfl); (case hr => first | (go_simp; done) | (go_simp; rfl)); (case hp => exact (Reps.one (show Kd.M Kd.string _ _ _ (⟨#[48]⟩ : ByteArray) [.string (⟨#[48]⟩ : ByteArray)] from rfl) (Reps.one (show Kd.M Kd.string _ _ _ (⟨#[49]⟩ : ByteArray) [.string (⟨#[49]⟩ : ByteArray)] from rfl) (Reps.one (show Kd.M Kd.string _ _ _ (⟨#[50]⟩ : ByteArray) [.string (⟨#[50]⟩ : ByteArray)] from rfl) (Reps.one (show Kd.M Kd.string _ _ _ (⟨#[51]⟩ : ByteArray) [.string (⟨#[51]⟩ : ByteArray)] from rfl) (Reps.one (show Kd.M Kd.string _ _ _ (⟨#[52]⟩ : ByteArray) [.string (⟨#[52]⟩ : ByteArray)] from rfl) (Reps.one (show Kd.M Kd.string _ _ _ (⟨#[53]⟩ : ByteArray) [.string (⟨#[53]⟩ : ByteArray)] from rfl) (Reps.one (show Kd.M Kd.string _ _ _ (⟨#[54]⟩ : ByteArray) [.string (⟨#[54]⟩ : ByteArray)] from rfl) (Reps.one (show Kd.M Kd.string _ _ _ (⟨#[55]⟩ : ByteArray) [.string (⟨#[55]⟩ : ByteArray)] from rfl) (Reps.one (show Kd.M Kd.string _ _ _ (⟨#[56]⟩ : ByteArray) [.string (⟨#[56]⟩ : ByteArray)] from rfl) (Reps.one (show Kd.M Kd.string _ _ _ (⟨#[57]⟩ : ByteArray) [.string (⟨#[57]⟩ : ByteArray)] from rfl) (Reps.none _ _)))))))))))); intro v115 w28 ho29 hb hg_ hnew_; clear hg_ hnew_; (first | rw [← Ny114.out] at ho29 | (simp only [Int.reduceToNat] at ho29; rw [← Ny114.out] at ho29)); have Bk := Am (Kd.R_lower ho29 (below_size (pE HB.out Ab.out))); replace Aa := kBa Aa hb; replace HB := Am (below_step (pE HB.out Ab.out) hb); clear hb ho29; obtain ⟨Ao30, co30, Bn⟩ := Kd.R_slice Bk.out; subst Bn; have p117 : 0 ≤ ((ji24) : Int) := of_decide_eq_true pS; have q117 : (ji24) < (y114.length : Int) := of_decide_eq_true pS; obtain ⟨ad117, e117, hx117_0⟩ := Kd.at_string (Kd.R_reads' Bk.out).2.2 (ji24) p117 q117; cases e117; replace p117 := eq_true p117; replace q117 := eq_true q117))
          go_roundg k4
          case measure => have := HJ1.out; have := HJ7.out; have := HJ12.out; have := HK4.out; omega
          case rel => exact ⟨((rdOf ByteArray.empty y114 (ji24)) ++ Ac), (wrap64 (Int.tdiv Ad 10)), (wrap64 (Ae + 1)), (by first | rfl | (simp; done) | (simp only [← hji24] <;> (first | rfl | simp)) | (simp [*]; done)), (by first | rfl | (simp; done) | (simp [*]; done)), (by first | rfl | (simp; done) | (simp [*]; done)), H', ⟨by have := HJ1.out; have := HJ7.out; have := HJ12.out; have := HK4.out; omega⟩, ⟨pK Aa.out⟩, ⟨pE HB.out Ab.out⟩⟩
         rw [if_neg c23] at H
         have c23b0 : decide (Ae < 10) = false := decide_eq_false c23
         clear c23
         obtain ⟨y118, hy118⟩ : ∃ y_ : List ByteArray, y_ = (([(⟨#[118]⟩ : ByteArray), (⟨#[119]⟩ : ByteArray), (⟨#[116]⟩ : ByteArray), (⟨#[115]⟩ : ByteArray), (⟨#[109]⟩ : ByteArray)] : List ByteArray)) := ⟨_, rfl⟩
         replace H : (if 0 ≤ (wrap64 (a0_0 - 3)) then (if (wrap64 (a0_0 - 3)) < (y118.length : Int) then (if (rdOf ByteArray.empty y118 (wrap64 (a0_0 - 3))).size + Ac.size ≤ 9223372036854775807 then (some ((rdOf ByteArray.empty y118 (wrap64 (a0_0 - 3))) ++ Ac)) else (none)) else (none)) else (none)) = some r := by first | (rw [hy118]; with_reducible exact H) | (have H2_ := (Option.bind_some _ _).symm.trans H; rw [hy118]; with_reducible exact H2_) | (have H2_ := (Option.bind_some _ _).symm.trans H; with_reducible exact H2_) | with_reducible exact H | (rw [hy118]; exact H) | exact H
         have Ny118 := Am hy118
         clear hy118
         obtain ⟨ji31, hji31⟩ : ∃ j_ : Int, (wrap64 (a0_0 - 3)) = j_ := ⟨_, rfl⟩
         replace H : (if 0 ≤ (ji31) then (if (ji31) < (y118.length : Int) then (if (rdOf ByteArray.empty y118 (ji31)).size + Ac.size ≤ 9223372036854775807 then (some ((rdOf ByteArray.empty y118 (ji31)) ++ Ac)) else (none)) else (none)) else (none)) = some r := by first | (rw [hji31] at H; exact H) | (simp only [hji31] at H ⊢; exact H)
         have hji31w : (IntKind.i64.wrap (a0_0 - 3)) = ji31 := (i64_w _).trans hji31
         by_cases c32 : 0 ≤ (ji31)
         rotate_left
         ·rw [if_neg c32] at H
          exact absurd H (by simp)
         rw [if_pos c32] at H
         have c32b0 : decide (0 ≤ (ji31)) = true := decide_eq_true c32
         clear c32
         by_cases c33 : (ji31) < (y118.length : Int)
         rotate_left
         ·rw [if_neg c33] at H
          exact absurd H (by simp)
         rw [if_pos c33] at H
         have c33b0 : decide ((ji31) < (y118.length : Int)) = true := decide_eq_true c33
         clear c33
         by_cases c34 : (rdOf ByteArray.empty y118 (ji31)).size + Ac.size ≤ 9223372036854775807
         rotate_left
         ·rw [if_neg c34] at H
          exact absurd H (by simp)
         rw [if_pos c34] at H
         have c34b0 := eq_true c34
         have c34b1 : decide ((rdOf ByteArray.empty y118 (ji31)).size + Ac.size ≤ 9223372036854775807) = true := decide_eq_true c34
         try have c34b2 : (9223372036854775807 < (rdOf ByteArray.empty y118 (ji31)).size + Ac.size) = False := eq_false (Nat.not_lt.2 c34)
         obtain rfl := Option.some.inj H
         go_wp2_with (first | ((with_reducible refine gate_dst (N := 55) rfl ?_); refine Kd.R_lit Kd.string _ 9 ?hg (N := 55) ?hd (xs := ([(⟨#[118]⟩ : ByteArray), (⟨#[119]⟩ : ByteArray), (⟨#[116]⟩ : ByteArray), (⟨#[115]⟩ : ByteArray), (⟨#[109]⟩ : ByteArray)] : List ByteArray)) (inner := [.string (⟨#[118]⟩ : ByteArray), .string (⟨#[119]⟩ : ByteArray), .string (⟨#[116]⟩ : ByteArray), .string (⟨#[115]⟩ : ByteArray), .string (⟨#[109]⟩ : ByteArray)]) (ok := fun _ => True) (okp := fun _ => True) ?hr ?hp (fun _ hk => hk) trivial (Below.refl _ _) (Nat.le_refl _) (by simp) ?_; (case hd => rfl); (case hg => rfl); (case hr => first | (go_simp; done) | (go_simp; rfl)); (case hp => exact (Reps.one (show Kd.M Kd.string _ _ _ (⟨#[118]⟩ : ByteArray) [.string (⟨#[118]⟩ : ByteArray)] from rfl) (Reps.one (show Kd.M Kd.string _ _ _ (⟨#[119]⟩ : ByteArray) [.string (⟨#[119]⟩ : ByteArray)] from rfl) (Reps.one (show Kd.M Kd.string _ _ _ (⟨#[116]⟩ : ByteArray) [.string (⟨#[116]⟩ : ByteArray)] from rfl) (Reps.one (show Kd.M Kd.string _ _ _ (⟨#[115]⟩ : ByteArray) [.string (⟨#[115]⟩ : ByteArray)] from rfl) (Reps.one (show Kd.M Kd.string _ _ _ (⟨#[109]⟩ : ByteArray) [.string (⟨#[109]⟩ : ByteArray)] from rfl) (Reps.none _ _))))))); intro v119 w35 ho36 hb hg_ hnew_; clear hg_ hnew_; (first | rw [← Ny118.out] at ho36 | (simp only [Int.reduceToNat] at ho36; rw [← Ny118.out] at ho36)); have Bl := Am (Kd.R_lower ho36 (below_size (pE HB.out Ab.out))); replace Aa := kBa Aa hb; replace HB := Am (below_step (pE HB.out Ab.out) hb); clear hb ho36; obtain ⟨_, _⟩ := bc2 Aa.out; obtain ⟨_, _⟩ := bf2 Aa.out; obtain ⟨Ao38, co38, Bo⟩ := Kd.R_slice Bl.out; subst Bo; have p121 : 0 ≤ ((ji31) : Int) := of_decide_eq_true pS; have q121 : (ji31) < (y118.length : Int) := of_decide_eq_true pS; obtain ⟨ad121, e121, hx121_0⟩ := Kd.at_string (Kd.R_reads' Bl.out).2.2 (ji31) p121 q121; cases e121; replace p121 := eq_true p121; replace q121 := eq_true q121))
         go_ret
         exact ⟨by first | rfl | (simp [errW_none, errW_some] <;> rfl) | (simp only [← hji31]; first | rfl | (simp [errW_none, errW_some] <;> rfl)) | (simp [*, errW_none, errW_some] <;> rfl), pE HB.out Ab.out⟩
end Go.Proofs.Ytlcajceefhgalaa.PNameAll
