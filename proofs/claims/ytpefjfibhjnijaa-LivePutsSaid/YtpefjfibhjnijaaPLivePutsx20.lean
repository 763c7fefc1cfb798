/- What the law reaches, as plain Lean functions, and that the machine's calls answer just that. -/
import Derived.Test.YtpefjfibhjnijaaPLivePutsx19
namespace Go.Proofs.Ytpefjfibhjnijaa.PLivePuts
open Go.RowKit Go.Proofs.Ytpefjfibhjnijaa.U Go.Proofs.Ytpefjfibhjnijaa.Pure Go.Proofs.YtpefjfibhjnijaaW.PrintWords Go.Proofs.YtpefjfibhjnijaaW.PrintLast Go.Proofs.YtpefjfibhjnijaaW.PrintMore
set_option linter.unusedVariables false
set_option linter.unusedSimpArgs false
theorem V_any {w : World} {base base' : Nat} {ok : Nat → Prop} {v : Value} {l : List S24} (h : Kd.V k24 24 w base ok v l) : Kd.V k24 24 w base' ok v l := by
 obtain ⟨A, c, rfl⟩ := Kd.V_slice h
 exact Kd.V_mk (Kd.V_reads' h).2.1 (Kd.V_F h)
theorem V_turn {w w' : World} {base base' m : Nat} {v : Value} {l : List S24} (h : Kd.V k24 24 w base (fun k => k ≠ m) v l) (ht : Tl w w' m) : Kd.V k24 24 w' base' (fun k => k ≠ m) v l := by
 obtain ⟨A, c, rfl⟩ := Kd.V_slice h
 have hF := Kd.V_F h
 have hs := (ht.1 0 (Nat.zero_le _) (Nat.zero_le _)).size
 exact Kd.V_mk (Kd.V_reads' h).2.1 (fun W hW => hF W (fun k hk hlt => (hW k hk (Nat.lt_of_lt_of_le hlt hs)).trans (ht.2 k hlt hk)))
theorem foldR_len : ∀ (more l : List S24), (more.foldl putR l).length ≤ l.length + more.length
 | [], l => by simp
 | x :: more, l => by
  have h1 := foldR_len more (putR l x)
  have h2 := putR_len l x
  rw [List.foldl_cons, List.length_cons]
  omega
theorem putR_mem {l : List S24} {x y : S24} (h : y ∈ putR l x) : y ∈ l ∨ y = x := by
 unfold putR at h
 split at h
 ·exact .inl h
 ·have h1 := (foldP_perm (l ++ [x]) []).mem_iff.1 h
  rw [List.nil_append] at h1
  rcases List.mem_append.1 h1 with h2 | h2
  ·exact .inl h2
  ·exact .inr (List.mem_singleton.1 h2)
theorem foldR_mem : ∀ (more l : List S24) {y : S24}, y ∈ more.foldl putR l → y ∈ l ∨ y ∈ more
 | [], l, y, h => .inl h
 | x :: more, l, y, h => by
  rcases foldR_mem more (putR l x) h with h1 | h1
  ·rcases putR_mem h1 with h2 | h2
   ·exact .inl h2
   ·exact .inr (by rw [h2]; exact List.mem_cons_self)
  ·exact .inr (List.mem_cons_of_mem _ h1)
theorem foldR_ok {more l : List S24} (h1 : l.all okP = true) (h2 : more.all okP = true) : (more.foldl putR l).all okP = true := by
 rw [List.all_eq_true] at h1 h2 ⊢
 intro y hy
 exact (foldR_mem more l hy).elim (h1 y) (h2 y)
theorem okP_okK {l : List S24} (h : l.all okP = true) : ∀ x ∈ l, okK (x.f0, x.f1) := by
 intro x hx
 rw [List.all_eq_true] at h
 have := okP_iff.1 (h x hx)
 have h1 : IntKind.i64.min = -9223372036854775808 := by decide
 have h2 : IntKind.i64.max = 9223372036854775807 := by decide
 exact ⟨by simp only [Lit.wf, h1, h2, Bool.and_eq_true, decide_eq_true_eq]; omega, by simp only [Lit.wf, h1, h2, Bool.and_eq_true, decide_eq_true_eq]; omega⟩
set_option maxHeartbeats 8000000 in
set_option maxRecDepth 100000 in
theorem LivePuts_yy (A1 : Option Addr) (c1 : Nat) (a : List S24) (A2 : Option Addr) (c2 : Nat) (b : List S24) (x0 x1 : Int) (w : World) (hr1 : Kd.C k24 w A1 a.length a) (hc1 : a.length ≤ c1) (hr2 : Kd.C k24 w A2 b.length b) (hc2 : b.length ≤ c2) (hk : okK (x0, x1)) (hla : a.length ≤ 60) (hlb : b.length ≤ 60) (ha : a.all okP = true) (hb : b.all okP = true) :
  Calls Try.prog 4 #[.slice A1 a.length c1, .slice A2 b.length c2, .agg #[.int .i64 x0, .int .i64 x1]] w fun e w' => e = .returned (.bool true) ∧ Below w.heap.size w w' := by
 have hu44 := Try.underlying44
 have hG : RG (putsL (putsL [] a) b) (b.foldl putR (a.foldl putR [])) := (RG.puts b (RG.puts a RG.nil))
 have hlw1 : (a.foldl putR []).length ≤ 60 := (by have := foldR_len a []; simp at this; omega)
 have hlw2 : (b.foldl putR (a.foldl putR [])).length ≤ 120 := (by have := foldR_len b (a.foldl putR []); omega)
 have hok1 : (a.foldl putR []).all okP = true := (foldR_ok rfl ha)
 have hok2 : (b.foldl putR (a.foldl putR [])).all okP = true := (foldR_ok hok1 hb)
 obtain ⟨k1, h1⟩ := Ev.rounds (containsP_ev a (by omega))
 obtain ⟨k2, h2⟩ := Ev.rounds (containsP_ev b (by omega))
 obtain ⟨k3, h3⟩ := Ev.rounds (garnerref09_Points_ev a (by omega))
 obtain ⟨k4, h4⟩ := Ev.rounds (garnerref09_Points_ev b (by omega))
 rw [ha] at h1 h3
 rw [hb] at h2 h4
 have H1 := Am h1
 have H2 := Am h2
 have H3 := Am h3
 have H4 := Am h4
 obtain ⟨k5, h5⟩ := Ev.rounds (garnerref28_Put_ev a [] (by simp; omega))
 have H5 := Am h5
 clear h5
 obtain ⟨k6, h6⟩ := Ev.rounds (garnerref28_Put_ev b (a.foldl putR []) (by omega))
 have H6 := Am h6
 clear h6
 have HG := Am hG
 have HLW := Am hlw2
 have HOK := Am hok2
 have HKK := Am hk
 have HKA := Am (okP_okK ha)
 have HKB := Am (okP_okK hb)
 have hcmp1 : decide (60 < (a.length : Int)) = false := decide_eq_false (by omega)
 have hcmp2 : decide (60 < (b.length : Int)) = false := decide_eq_false (by omega)
 have hcmp3 : decide (60 < a.length) = false := decide_eq_false (by omega)
 have hcmp4 : decide (60 < b.length) = false := decide_eq_false (by omega)
 have HC1 := Am hc1
 have HC2 := Am hc2
 obtain ⟨w1, hw1⟩ : ∃ w1, w.alloc (.cells #[.int .i64 x0, .int .i64 x1] 44) = w1 := ⟨_, rfl⟩
 have HB0 := Am (show Below w.heap.size w w1 by rw [← hw1]; exact (Below.refl _ w).alloc (Nat.le_refl _) _)
 have HR1 := Am (Kd.C_below hr1 HB0.out)
 have HR2 := Am (Kd.C_below hr2 HB0.out)
 obtain ⟨q, hq⟩ : ∃ q, w.heap.size = q := ⟨_, rfl⟩
 have HX := Am (show w1.heap[q]? = some (.cells #[.int .i64 x0, .int .i64 x1] 44 (0, 0)) by rw [← hw1, ← hq]; exact World.alloc_heap_new w _)
 clear hG hlw1 hlw2 hok1 hok2 h1 h2 h3 h4 hr1 hr2 ha hb
 clear hla hlb hc1 hc2
 clear hk
 go_enter Try.func4, Try.ntmps4
 go_upto_region 1 with fail
 (try rw [hw1])
 (try rw [hq])
 clear hw1
 have HB := Am (Below.refl w1.heap.size w1)
 go_upto_region 15 with (first
  | (go_at_call 14; refine (live_New _).mono ?_; rintro e w2 ⟨b0, m, rfl, hl, hm, hb', hB⟩; have HL := Am hl; have HM := Am hm; replace HB := Am (HB.out.trans hB); clear hl hm hb' hB)
  | ((with_reducible refine gate_dst (N := 21) rfl ?_); refine Kd.R_lit k24 _ 24 ?hg (N := 21) ?hd (xs := ([] : List S24)) (inner := []) (ok := fun k_ => k_ ≠ m) (okp := fun k_ => k_ ≠ m) ?hr ?hp (fun _ hk => hk) ?ho (Below.refl _ _) (Nat.le_refl _) (by simp) ?_; (case hd => rfl); (case hg => rfl); (case hr => first | (go_simp; done) | (go_simp; rfl)); (case hp => exact (Reps.none _ _)); (case ho => exact (Nat.ne_of_gt HL.out.m_lt)); intro v3 w3 ho3 hb3 hg_ hnew_; obtain ⟨A3, c3, hv⟩ := Kd.R_slice ho3; subst hv; have HV := Am (show Kd.V k24 24 w3 0 (fun k_ => k_ ≠ m) (.slice A3 ([] : List S24).length c3) [] from Kd.R_V ho3); replace HL := Am (HL.out.below hb3); replace HB := Am (HB.out.trans (hb3.mono HB.out.size)); clear ho3 hb3 hg_ hnew_)
  | (go_at_call 16; first
    | ((with_reducible refine (garnerref09_Points.calls k3 A1 c1 a true _ ?p1 ?p2 ?p3).mono ?_); (case p1 => exact Kd.C_below HR1.out HB.out); (case p2 => exact HC1.out); (case p3 => exact H3.out); rintro e w5 ⟨rfl, hB⟩; replace HV := Am (show Kd.V k24 24 w5 0 (fun k_ => k_ ≠ m) _ _ from Kd.V_below HV.out hB); replace HL := Am (HL.out.below hB); replace HB := Am (HB.out.trans (hB.mono HB.out.size)); clear hB H3)
    | ((with_reducible refine (garnerref09_Points.calls k4 A2 c2 b true _ ?p1 ?p2 ?p3).mono ?_); (case p1 => exact Kd.C_below HR2.out HB.out); (case p2 => exact HC2.out); (case p3 => exact H4.out); rintro e w5 ⟨rfl, hB⟩; replace HV := Am (show Kd.V k24 24 w5 0 (fun k_ => k_ ≠ m) _ _ from Kd.V_below HV.out hB); replace HL := Am (HL.out.below hB); replace HB := Am (HB.out.trans (hB.mono HB.out.size)); clear hB H4))
  | (go_at_call 9; first
    | ((with_reducible refine (live_Put_ok _ b0 m k1 [] A1 c1 a ?p1 ?p2 ?p3 ?p4 ?p5 ?p6).mono ?_); (case p1 => exact HL.out); (case p2 => exact Kd.C_below HR1.out HB.out); (case p3 => exact HC1.out); (case p4 => exact H1.out); (case p5 => exact HKA.out); (case p6 => exact C_ne HR1.out HM.out); rintro e w4 ⟨rfl, hl, ht⟩; replace HV := Am (V_turn (base' := 0) HV.out ht); replace HL := Am hl; replace HB := Am (HB.out.trans (ht.1 _ HB.out.size HM.out)); clear hl ht H1)
    | ((with_reducible refine (live_Put_ok _ b0 m k2 (putsL [] a) A2 c2 b ?p1 ?p2 ?p3 ?p4 ?p5 ?p6).mono ?_); (case p1 => exact HL.out); (case p2 => exact Kd.C_below HR2.out HB.out); (case p3 => exact HC2.out); (case p4 => exact H2.out); (case p5 => exact HKB.out); (case p6 => exact C_ne HR2.out HM.out); rintro e w4 ⟨rfl, hl, ht⟩; replace HV := Am (V_turn (base' := 0) HV.out ht); replace HL := Am hl; replace HB := Am (HB.out.trans (ht.1 _ HB.out.size HM.out)); clear hl ht H2))
  | (go_at_call 17; first
    | (have h9_ := H5.out; (refine (garnerref28_Put.calls k5 (fun k_ => k_ ≠ m) _ _ [] A1 c1 a (a.foldl putR []) _ ?p1 ?p2 ?p3 ?p4).mono ?_); (case p1 => exact HV.out); (case p2 => exact Kd.C_below HR1.out HB.out); (case p3 => exact HC1.out); (case p4 => exact H5.out); rintro e w6 ⟨v6, rfl, hV, hB⟩; obtain ⟨A6, c6, hv⟩ := Kd.V_slice hV; subst hv; have hml := HL.out.m_lt; replace HV := Am (show Kd.V k24 24 w6 0 (fun k_ => k_ ≠ m) _ _ from Kd.V_mono hV (fun k_ hk_ => hk_.elim id (fun h_ => by omega))); replace HL := Am (HL.out.below hB); replace HB := Am (HB.out.trans (hB.mono HB.out.size)); clear hV hB hml; clear H5 h9_)
    | (have h9_ := H6.out; (refine (garnerref28_Put.calls k6 (fun k_ => k_ ≠ m) _ _ (a.foldl putR []) A2 c2 b (b.foldl putR (a.foldl putR [])) _ ?p1 ?p2 ?p3 ?p4).mono ?_); (case p1 => exact HV.out); (case p2 => exact Kd.C_below HR2.out HB.out); (case p3 => exact HC2.out); (case p4 => exact H6.out); rintro e w6 ⟨v6, rfl, hV, hB⟩; obtain ⟨A6, c6, hv⟩ := Kd.V_slice hV; subst hv; have hml := HL.out.m_lt; replace HV := Am (show Kd.V k24 24 w6 0 (fun k_ => k_ ≠ m) _ _ from Kd.V_mono hV (fun k_ hk_ => hk_.elim id (fun h_ => by omega))); replace HL := Am (HL.out.below hB); replace HB := Am (HB.out.trans (hB.mono HB.out.size)); clear hV hB hml; clear H6 h9_)))
 have hxq := (HB.out.block q (blk_lt HX.out)).trans HX.out
 have e0 := blk_cell hxq 0
 have e1 := blk_cell hxq 1
 simp only [List.getElem?_toArray, List.getElem?_cons_zero, List.getElem?_cons_succ] at e0 e1
 clear hxq
 go_wp2_with (first
  | (go_at_call 18; refine (live_like _ b0 m (putsL (putsL [] a) b) (b.foldl putR (a.foldl putR [])) _ _ x0 x1 HL.out HG.out (by have := HLW.out; omega) HOK.out (Kd.V_reads' HV.out).2.2 (Kd.V_reads' HV.out).2.1 HKK.out).mono ?_; rintro e w7 ⟨rfl, hB⟩; have HB7 := Am (HB.out.trans (hB.mono HB.out.size)); clear hB)
  | (go_at_call 15; refine (live_awake _).mono ?_; rintro e w8 ⟨rfl, hB⟩; have HB8 := Am (HB7.out.trans (hB.mono HB7.out.size)); clear hB))
 go_ret
 exact ⟨rfl, HB0.out.trans (HB8.out.mono HB0.out.size)⟩
set_option maxHeartbeats 8000000 in
set_option maxRecDepth 100000 in
theorem LivePuts_yn (A1 : Option Addr) (c1 : Nat) (a : List S24) (A2 : Option Addr) (c2 : Nat) (b : List S24) (x0 x1 : Int) (w : World) (hr1 : Kd.C k24 w A1 a.length a) (hc1 : a.length ≤ c1) (hr2 : Kd.C k24 w A2 b.length b) (hc2 : b.length ≤ c2) (hk : okK (x0, x1)) (hla : a.length ≤ 60) (hlb : b.length ≤ 60) (ha : a.all okP = true) (hb : b.all okP = false) :
  Calls Try.prog 4 #[.slice A1 a.length c1, .slice A2 b.length c2, .agg #[.int .i64 x0, .int .i64 x1]] w fun e w' => e = .returned (.bool true) ∧ Below w.heap.size w w' := by
 have hu44 := Try.underlying44
 have hG : RG (putsL [] a) (a.foldl putR []) := (RG.puts a RG.nil)
 have hlw1 : (a.foldl putR []).length ≤ 60 := (by have := foldR_len a []; simp at this; omega)
 have hlw2 : (a.foldl putR []).length ≤ 120 := (by omega)
 have hok1 : (a.foldl putR []).all okP = true := (foldR_ok rfl ha)
 have hok2 : (a.foldl putR []).all okP = true := hok1
 obtain ⟨k1, h1⟩ := Ev.rounds (containsP_ev a (by omega))
 obtain ⟨k2, h2⟩ := Ev.rounds (containsP_ev b (by omega))
 obtain ⟨k3, h3⟩ := Ev.rounds (garnerref09_Points_ev a (by omega))
 obtain ⟨k4, h4⟩ := Ev.rounds (garnerref09_Points_ev b (by omega))
 rw [ha] at h1 h3
 rw [hb] at h2 h4
 have H1 := Am h1
 have H2 := Am h2
 have H3 := Am h3
 have H4 := Am h4
 obtain ⟨k5, h5⟩ := Ev.rounds (garnerref28_Put_ev a [] (by simp; omega))
 have H5 := Am h5
 clear h5
 have HG := Am hG
 have HLW := Am hlw2
 have HOK := Am hok2
 have HKK := Am hk
 have HKA := Am (okP_okK ha)
 have hcmp1 : decide (60 < (a.length : Int)) = false := decide_eq_false (by omega)
 have hcmp2 : decide (60 < (b.length : Int)) = false := decide_eq_false (by omega)
 have hcmp3 : decide (60 < a.length) = false := decide_eq_false (by omega)
 have hcmp4 : decide (60 < b.length) = false := decide_eq_false (by omega)
 have HC1 := Am hc1
 have HC2 := Am hc2
 obtain ⟨w1, hw1⟩ : ∃ w1, w.alloc (.cells #[.int .i64 x0, .int .i64 x1] 44) = w1 := ⟨_, rfl⟩
 have HB0 := Am (show Below w.heap.size w w1 by rw [← hw1]; exact (Below.refl _ w).alloc (Nat.le_refl _) _)
 have HR1 := Am (Kd.C_below hr1 HB0.out)
 have HR2 := Am (Kd.C_below hr2 HB0.out)
 obtain ⟨q, hq⟩ : ∃ q, w.heap.size = q := ⟨_, rfl⟩
 have HX := Am (show w1.heap[q]? = some (.cells #[.int .i64 x0, .int .i64 x1] 44 (0, 0)) by rw [← hw1, ← hq]; exact World.alloc_heap_new w _)
 clear hG hlw1 hlw2 hok1 hok2 h1 h2 h3 h4 hr1 hr2 ha hb
 clear hla hlb hc1 hc2
 clear hk
 go_enter Try.func4, Try.ntmps4
 go_upto_region 1 with fail
 (try rw [hw1])
 (try rw [hq])
 clear hw1
 have HB := Am (Below.refl w1.heap.size w1)
 go_upto_region 15 with (first
  | (go_at_call 14; refine (live_New _).mono ?_; rintro e w2 ⟨b0, m, rfl, hl, hm, hb', hB⟩; have HL := Am hl; have HM := Am hm; replace HB := Am (HB.out.trans hB); clear hl hm hb' hB)
  | ((with_reducible refine gate_dst (N := 21) rfl ?_); refine Kd.R_lit k24 _ 24 ?hg (N := 21) ?hd (xs := ([] : List S24)) (inner := []) (ok := fun k_ => k_ ≠ m) (okp := fun k_ => k_ ≠ m) ?hr ?hp (fun _ hk => hk) ?ho (Below.refl _ _) (Nat.le_refl _) (by simp) ?_; (case hd => rfl); (case hg => rfl); (case hr => first | (go_simp; done) | (go_simp; rfl)); (case hp => exact (Reps.none _ _)); (case ho => exact (Nat.ne_of_gt HL.out.m_lt)); intro v3 w3 ho3 hb3 hg_ hnew_; obtain ⟨A3, c3, hv⟩ := Kd.R_slice ho3; subst hv; have HV := Am (show Kd.V k24 24 w3 0 (fun k_ => k_ ≠ m) (.slice A3 ([] : List S24).length c3) [] from Kd.R_V ho3); replace HL := Am (HL.out.below hb3); replace HB := Am (HB.out.trans (hb3.mono HB.out.size)); clear ho3 hb3 hg_ hnew_)
  | (go_at_call 16; first
    | ((with_reducible refine (garnerref09_Points.calls k3 A1 c1 a true _ ?p1 ?p2 ?p3).mono ?_); (case p1 => exact Kd.C_below HR1.out HB.out); (case p2 => exact HC1.out); (case p3 => exact H3.out); rintro e w5 ⟨rfl, hB⟩; replace HV := Am (show Kd.V k24 24 w5 0 (fun k_ => k_ ≠ m) _ _ from Kd.V_below HV.out hB); replace HL := Am (HL.out.below hB); replace HB := Am (HB.out.trans (hB.mono HB.out.size)); clear hB H3)
    | ((with_reducible refine (garnerref09_Points.calls k4 A2 c2 b false _ ?p1 ?p2 ?p3).mono ?_); (case p1 => exact Kd.C_below HR2.out HB.out); (case p2 => exact HC2.out); (case p3 => exact H4.out); rintro e w5 ⟨rfl, hB⟩; replace HV := Am (show Kd.V k24 24 w5 0 (fun k_ => k_ ≠ m) _ _ from Kd.V_below HV.out hB); replace HL := Am (HL.out.below hB); replace HB := Am (HB.out.trans (hB.mono HB.out.size)); clear hB H4))
  | (go_at_call 9; first
    | ((with_reducible refine (live_Put_ok _ b0 m k1 [] A1 c1 a ?p1 ?p2 ?p3 ?p4 ?p5 ?p6).mono ?_); (case p1 => exact HL.out); (case p2 => exact Kd.C_below HR1.out HB.out); (case p3 => exact HC1.out); (case p4 => exact H1.out); (case p5 => exact HKA.out); (case p6 => exact C_ne HR1.out HM.out); rintro e w4 ⟨rfl, hl, ht⟩; replace HV := Am (V_turn (base' := 0) HV.out ht); replace HL := Am hl; replace HB := Am (HB.out.trans (ht.1 _ HB.out.size HM.out)); clear hl ht H1)
    | ((with_reducible refine (live_Put_no _ b0 m k2 (putsL [] a) A2 c2 b ?p1 ?p2 ?p3 ?p4).mono ?_); (case p1 => exact HL.out); (case p2 => exact Kd.C_below HR2.out HB.out); (case p3 => exact HC2.out); (case p4 => exact H2.out); rintro e w4 ⟨rfl, hB⟩; replace HV := Am (show Kd.V k24 24 w4 0 (fun k_ => k_ ≠ m) _ _ from Kd.V_below HV.out hB); replace HL := Am (HL.out.below hB); replace HB := Am (HB.out.trans (hB.mono HB.out.size)); clear hB H2))
  | (go_at_call 17; first
    | (have h9_ := H5.out; (refine (garnerref28_Put.calls k5 (fun k_ => k_ ≠ m) _ _ [] A1 c1 a (a.foldl putR []) _ ?p1 ?p2 ?p3 ?p4).mono ?_); (case p1 => exact HV.out); (case p2 => exact Kd.C_below HR1.out HB.out); (case p3 => exact HC1.out); (case p4 => exact H5.out); rintro e w6 ⟨v6, rfl, hV, hB⟩; obtain ⟨A6, c6, hv⟩ := Kd.V_slice hV; subst hv; have hml := HL.out.m_lt; replace HV := Am (show Kd.V k24 24 w6 0 (fun k_ => k_ ≠ m) _ _ from Kd.V_mono hV (fun k_ hk_ => hk_.elim id (fun h_ => by omega))); replace HL := Am (HL.out.below hB); replace HB := Am (HB.out.trans (hB.mono HB.out.size)); clear hV hB hml; clear H5 h9_)))
 have hxq := (HB.out.block q (blk_lt HX.out)).trans HX.out
 have e0 := blk_cell hxq 0
 have e1 := blk_cell hxq 1
 simp only [List.getElem?_toArray, List.getElem?_cons_zero, List.getElem?_cons_succ] at e0 e1
 clear hxq
 go_wp2_with (first
  | (go_at_call 18; refine (live_like _ b0 m (putsL [] a) (a.foldl putR []) _ _ x0 x1 HL.out HG.out (by have := HLW.out; omega) HOK.out (Kd.V_reads' HV.out).2.2 (Kd.V_reads' HV.out).2.1 HKK.out).mono ?_; rintro e w7 ⟨rfl, hB⟩; have HB7 := Am (HB.out.trans (hB.mono HB.out.size)); clear hB)
  | (go_at_call 15; refine (live_awake _).mono ?_; rintro e w8 ⟨rfl, hB⟩; have HB8 := Am (HB7.out.trans (hB.mono HB7.out.size)); clear hB))
 go_ret
 exact ⟨rfl, HB0.out.trans (HB8.out.mono HB0.out.size)⟩
set_option maxHeartbeats 8000000 in
set_option maxRecDepth 100000 in
theorem LivePuts_ny (A1 : Option Addr) (c1 : Nat) (a : List S24) (A2 : Option Addr) (c2 : Nat) (b : List S24) (x0 x1 : Int) (w : World) (hr1 : Kd.C k24 w A1 a.length a) (hc1 : a.length ≤ c1) (hr2 : Kd.C k24 w A2 b.length b) (hc2 : b.length ≤ c2) (hk : okK (x0, x1)) (hla : a.length ≤ 60) (hlb : b.length ≤ 60) (ha : a.all okP = false) (hb : b.all okP = true) :
  Calls Try.prog 4 #[.slice A1 a.length c1, .slice A2 b.length c2, .agg #[.int .i64 x0, .int .i64 x1]] w fun e w' => e = .returned (.bool true) ∧ Below w.heap.size w w' := by
 have hu44 := Try.underlying44
 have hG : RG (putsL [] b) (b.foldl putR ([] : List S24)) := (RG.puts b RG.nil)
 have hlw1 : ([] : List S24).length ≤ 60 := (by simp)
 have hlw2 : (b.foldl putR ([] : List S24)).length ≤ 120 := (by have := foldR_len b ([] : List S24); omega)
 have hok1 : ([] : List S24).all okP = true := rfl
 have hok2 : (b.foldl putR ([] : List S24)).all okP = true := (foldR_ok hok1 hb)
 obtain ⟨k1, h1⟩ := Ev.rounds (containsP_ev a (by omega))
 obtain ⟨k2, h2⟩ := Ev.rounds (containsP_ev b (by omega))
 obtain ⟨k3, h3⟩ := Ev.rounds (garnerref09_Points_ev a (by omega))
 obtain ⟨k4, h4⟩ := Ev.rounds (garnerref09_Points_ev b (by omega))
 rw [ha] at h1 h3
 rw [hb] at h2 h4
 have H1 := Am h1
 have H2 := Am h2
 have H3 := Am h3
 have H4 := Am h4
 obtain ⟨k6, h6⟩ := Ev.rounds (garnerref28_Put_ev b ([] : List S24) (by omega))
 have H6 := Am h6
 clear h6
 have HG := Am hG
 have HLW := Am hlw2
 have HOK := Am hok2
 have HKK := Am hk
 have HKB := Am (okP_okK hb)
 have hcmp1 : decide (60 < (a.length : Int)) = false := decide_eq_false (by omega)
 have hcmp2 : decide (60 < (b.length : Int)) = false := decide_eq_false (by omega)
 have hcmp3 : decide (60 < a.length) = false := decide_eq_false (by omega)
 have hcmp4 : decide (60 < b.length) = false := decide_eq_false (by omega)
 have HC1 := Am hc1
 have HC2 := Am hc2
 obtain ⟨w1, hw1⟩ : ∃ w1, w.alloc (.cells #[.int .i64 x0, .int .i64 x1] 44) = w1 := ⟨_, rfl⟩
 have HB0 := Am (show Below w.heap.size w w1 by rw [← hw1]; exact (Below.refl _ w).alloc (Nat.le_refl _) _)
 have HR1 := Am (Kd.C_below hr1 HB0.out)
 have HR2 := Am (Kd.C_below hr2 HB0.out)
 obtain ⟨q, hq⟩ : ∃ q, w.heap.size = q := ⟨_, rfl⟩
 have HX := Am (show w1.heap[q]? = some (.cells #[.int .i64 x0, .int .i64 x1] 44 (0, 0)) by rw [← hw1, ← hq]; exact World.alloc_heap_new w _)
 clear hG hlw1 hlw2 hok1 hok2 h1 h2 h3 h4 hr1 hr2 ha hb
 clear hla hlb hc1 hc2
 clear hk
 go_enter Try.func4, Try.ntmps4
 go_upto_region 1 with fail
 (try rw [hw1])
 (try rw [hq])
 clear hw1
 have HB := Am (Below.refl w1.heap.size w1)
 go_upto_region 15 with (first
  | (go_at_call 14; refine (live_New _).mono ?_; rintro e w2 ⟨b0, m, rfl, hl, hm, hb', hB⟩; have HL := Am hl; have HM := Am hm; replace HB := Am (HB.out.trans hB); clear hl hm hb' hB)
  | ((with_reducible refine gate_dst (N := 21) rfl ?_); refine Kd.R_lit k24 _ 24 ?hg (N := 21) ?hd (xs := ([] : List S24)) (inner := []) (ok := fun k_ => k_ ≠ m) (okp := fun k_ => k_ ≠ m) ?hr ?hp (fun _ hk => hk) ?ho (Below.refl _ _) (Nat.le_refl _) (by simp) ?_; (case hd => rfl); (case hg => rfl); (case hr => first | (go_simp; done) | (go_simp; rfl)); (case hp => exact (Reps.none _ _)); (case ho => exact (Nat.ne_of_gt HL.out.m_lt)); intro v3 w3 ho3 hb3 hg_ hnew_; obtain ⟨A3, c3, hv⟩ := Kd.R_slice ho3; subst hv; have HV := Am (show Kd.V k24 24 w3 0 (fun k_ => k_ ≠ m) (.slice A3 ([] : List S24).length c3) [] from Kd.R_V ho3); replace HL := Am (HL.out.below hb3); replace HB := Am (HB.out.trans (hb3.mono HB.out.size)); clear ho3 hb3 hg_ hnew_)
  | (go_at_call 16; first
    | ((with_reducible refine (garnerref09_Points.calls k3 A1 c1 a false _ ?p1 ?p2 ?p3).mono ?_); (case p1 => exact Kd.C_below HR1.out HB.out); (case p2 => exact HC1.out); (case p3 => exact H3.out); rintro e w5 ⟨rfl, hB⟩; replace HV := Am (show Kd.V k24 24 w5 0 (fun k_ => k_ ≠ m) _ _ from Kd.V_below HV.out hB); replace HL := Am (HL.out.below hB); replace HB := Am (HB.out.trans (hB.mono HB.out.size)); clear hB H3)
    | ((with_reducible refine (garnerref09_Points.calls k4 A2 c2 b true _ ?p1 ?p2 ?p3).mono ?_); (case p1 => exact Kd.C_below HR2.out HB.out); (case p2 => exact HC2.out); (case p3 => exact H4.out); rintro e w5 ⟨rfl, hB⟩; replace HV := Am (show Kd.V k24 24 w5 0 (fun k_ => k_ ≠ m) _ _ from Kd.V_below HV.out hB); replace HL := Am (HL.out.below hB); replace HB := Am (HB.out.trans (hB.mono HB.out.size)); clear hB H4))
  | (go_at_call 9; first
    | ((with_reducible refine (live_Put_no _ b0 m k1 [] A1 c1 a ?p1 ?p2 ?p3 ?p4).mono ?_); (case p1 => exact HL.out); (case p2 => exact Kd.C_below HR1.out HB.out); (case p3 => exact HC1.out); (case p4 => exact H1.out); rintro e w4 ⟨rfl, hB⟩; replace HV := Am (show Kd.V k24 24 w4 0 (fun k_ => k_ ≠ m) _ _ from Kd.V_below HV.out hB); replace HL := Am (HL.out.below hB); replace HB := Am (HB.out.trans (hB.mono HB.out.size)); clear hB H1)
    | ((with_reducible refine (live_Put_ok _ b0 m k2 [] A2 c2 b ?p1 ?p2 ?p3 ?p4 ?p5 ?p6).mono ?_); (case p1 => exact HL.out); (case p2 => exact Kd.C_below HR2.out HB.out); (case p3 => exact HC2.out); (case p4 => exact H2.out); (case p5 => exact HKB.out); (case p6 => exact C_ne HR2.out HM.out); rintro e w4 ⟨rfl, hl, ht⟩; replace HV := Am (V_turn (base' := 0) HV.out ht); replace HL := Am hl; replace HB := Am (HB.out.trans (ht.1 _ HB.out.size HM.out)); clear hl ht H2))
  | (go_at_call 17; first
    | (have h9_ := H6.out; (refine (garnerref28_Put.calls k6 (fun k_ => k_ ≠ m) _ _ ([] : List S24) A2 c2 b (b.foldl putR ([] : List S24)) _ ?p1 ?p2 ?p3 ?p4).mono ?_); (case p1 => exact HV.out); (case p2 => exact Kd.C_below HR2.out HB.out); (case p3 => exact HC2.out); (case p4 => exact H6.out); rintro e w6 ⟨v6, rfl, hV, hB⟩; obtain ⟨A6, c6, hv⟩ := Kd.V_slice hV; subst hv; have hml := HL.out.m_lt; replace HV := Am (show Kd.V k24 24 w6 0 (fun k_ => k_ ≠ m) _ _ from Kd.V_mono hV (fun k_ hk_ => hk_.elim id (fun h_ => by omega))); replace HL := Am (HL.out.below hB); replace HB := Am (HB.out.trans (hB.mono HB.out.size)); clear hV hB hml; clear H6 h9_)))
 have hxq := (HB.out.block q (blk_lt HX.out)).trans HX.out
 have e0 := blk_cell hxq 0
 have e1 := blk_cell hxq 1
 simp only [List.getElem?_toArray, List.getElem?_cons_zero, List.getElem?_cons_succ] at e0 e1
 clear hxq
 go_wp2_with (first
  | (go_at_call 18; refine (live_like _ b0 m (putsL [] b) (b.foldl putR ([] : List S24)) _ _ x0 x1 HL.out HG.out (by have := HLW.out; omega) HOK.out (Kd.V_reads' HV.out).2.2 (Kd.V_reads' HV.out).2.1 HKK.out).mono ?_; rintro e w7 ⟨rfl, hB⟩; have HB7 := Am (HB.out.trans (hB.mono HB.out.size)); clear hB)
  | (go_at_call 15; refine (live_awake _).mono ?_; rintro e w8 ⟨rfl, hB⟩; have HB8 := Am (HB7.out.trans (hB.mono HB7.out.size)); clear hB))
 go_ret
 exact ⟨rfl, HB0.out.trans (HB8.out.mono HB0.out.size)⟩
set_option maxHeartbeats 8000000 in
set_option maxRecDepth 100000 in
theorem LivePuts_nn (A1 : Option Addr) (c1 : Nat) (a : List S24) (A2 : Option Addr) (c2 : Nat) (b : List S24) (x0 x1 : Int) (w : World) (hr1 : Kd.C k24 w A1 a.length a) (hc1 : a.length ≤ c1) (hr2 : Kd.C k24 w A2 b.length b) (hc2 : b.length ≤ c2) (hk : okK (x0, x1)) (hla : a.length ≤ 60) (hlb : b.length ≤ 60) (ha : a.all okP = false) (hb : b.all okP = false) :
  Calls Try.prog 4 #[.slice A1 a.length c1, .slice A2 b.length c2, .agg #[.int .i64 x0, .int .i64 x1]] w fun e w' => e = .returned (.bool true) ∧ Below w.heap.size w w' := by
 have hu44 := Try.underlying44
 have hG : RG [] ([] : List S24) := RG.nil
 have hlw1 : ([] : List S24).length ≤ 60 := (by simp)
 have hlw2 : ([] : List S24).length ≤ 120 := (by omega)
 have hok1 : ([] : List S24).all okP = true := rfl
 have hok2 : ([] : List S24).all okP = true := hok1
 obtain ⟨k1, h1⟩ := Ev.rounds (containsP_ev a (by omega))
 obtain ⟨k2, h2⟩ := Ev.rounds (containsP_ev b (by omega))
 obtain ⟨k3, h3⟩ := Ev.rounds (garnerref09_Points_ev a (by omega))
 obtain ⟨k4, h4⟩ := Ev.rounds (garnerref09_Points_ev b (by omega))
 rw [ha] at h1 h3
 rw [hb] at h2 h4
 have H1 := Am h1
 have H2 := Am h2
 have H3 := Am h3
 have H4 := Am h4
 have HG := Am hG
 have HLW := Am hlw2
 have HOK := Am hok2
 have HKK := Am hk
 have hcmp1 : decide (60 < (a.length : Int)) = false := decide_eq_false (by omega)
 have hcmp2 : decide (60 < (b.length : Int)) = false := decide_eq_false (by omega)
 have hcmp3 : decide (60 < a.length) = false := decide_eq_false (by omega)
 have hcmp4 : decide (60 < b.length) = false := decide_eq_false (by omega)
 have HC1 := Am hc1
 have HC2 := Am hc2
 obtain ⟨w1, hw1⟩ : ∃ w1, w.alloc (.cells #[.int .i64 x0, .int .i64 x1] 44) = w1 := ⟨_, rfl⟩
 have HB0 := Am (show Below w.heap.size w w1 by rw [← hw1]; exact (Below.refl _ w).alloc (Nat.le_refl _) _)
 have HR1 := Am (Kd.C_below hr1 HB0.out)
 have HR2 := Am (Kd.C_below hr2 HB0.out)
 obtain ⟨q, hq⟩ : ∃ q, w.heap.size = q := ⟨_, rfl⟩
 have HX := Am (show w1.heap[q]? = some (.cells #[.int .i64 x0, .int .i64 x1] 44 (0, 0)) by rw [← hw1, ← hq]; exact World.alloc_heap_new w _)
 clear hG hlw1 hlw2 hok1 hok2 h1 h2 h3 h4 hr1 hr2 ha hb
 clear hla hlb hc1 hc2
 clear hk
 go_enter Try.func4, Try.ntmps4
 go_upto_region 1 with fail
 (try rw [hw1])
 (try rw [hq])
 clear hw1
 have HB := Am (Below.refl w1.heap.size w1)
 go_upto_region 15 with (first
  | (go_at_call 14; refine (live_New _).mono ?_; rintro e w2 ⟨b0, m, rfl, hl, hm, hb', hB⟩; have HL := Am hl; have HM := Am hm; replace HB := Am (HB.out.trans hB); clear hl hm hb' hB)
  | ((with_reducible refine gate_dst (N := 21) rfl ?_); refine Kd.R_lit k24 _ 24 ?hg (N := 21) ?hd (xs := ([] : List S24)) (inner := []) (ok := fun k_ => k_ ≠ m) (okp := fun k_ => k_ ≠ m) ?hr ?hp (fun _ hk => hk) ?ho (Below.refl _ _) (Nat.le_refl _) (by simp) ?_; (case hd => rfl); (case hg => rfl); (case hr => first | (go_simp; done) | (go_simp; rfl)); (case hp => exact (Reps.none _ _)); (case ho => exact (Nat.ne_of_gt HL.out.m_lt)); intro v3 w3 ho3 hb3 hg_ hnew_; obtain ⟨A3, c3, hv⟩ := Kd.R_slice ho3; subst hv; have HV := Am (show Kd.V k24 24 w3 0 (fun k_ => k_ ≠ m) (.slice A3 ([] : List S24).length c3) [] from Kd.R_V ho3); replace HL := Am (HL.out.below hb3); replace HB := Am (HB.out.trans (hb3.mono HB.out.size)); clear ho3 hb3 hg_ hnew_)
  | (go_at_call 16; first
    | ((with_reducible refine (garnerref09_Points.calls k3 A1 c1 a false _ ?p1 ?p2 ?p3).mono ?_); (case p1 => exact Kd.C_below HR1.out HB.out); (case p2 => exact HC1.out); (case p3 => exact H3.out); rintro e w5 ⟨rfl, hB⟩; replace HV := Am (show Kd.V k24 24 w5 0 (fun k_ => k_ ≠ m) _ _ from Kd.V_below HV.out hB); replace HL := Am (HL.out.below hB); replace HB := Am (HB.out.trans (hB.mono HB.out.size)); clear hB H3)
    | ((with_reducible refine (garnerref09_Points.calls k4 A2 c2 b false _ ?p1 ?p2 ?p3).mono ?_); (case p1 => exact Kd.C_below HR2.out HB.out); (case p2 => exact HC2.out); (case p3 => exact H4.out); rintro e w5 ⟨rfl, hB⟩; replace HV := Am (show Kd.V k24 24 w5 0 (fun k_ => k_ ≠ m) _ _ from Kd.V_below HV.out hB); replace HL := Am (HL.out.below hB); replace HB := Am (HB.out.trans (hB.mono HB.out.size)); clear hB H4))
  | (go_at_call 9; first
    | ((with_reducible refine (live_Put_no _ b0 m k1 [] A1 c1 a ?p1 ?p2 ?p3 ?p4).mono ?_); (case p1 => exact HL.out); (case p2 => exact Kd.C_below HR1.out HB.out); (case p3 => exact HC1.out); (case p4 => exact H1.out); rintro e w4 ⟨rfl, hB⟩; replace HV := Am (show Kd.V k24 24 w4 0 (fun k_ => k_ ≠ m) _ _ from Kd.V_below HV.out hB); replace HL := Am (HL.out.below hB); replace HB := Am (HB.out.trans (hB.mono HB.out.size)); clear hB H1)
    | ((with_reducible refine (live_Put_no _ b0 m k2 [] A2 c2 b ?p1 ?p2 ?p3 ?p4).mono ?_); (case p1 => exact HL.out); (case p2 => exact Kd.C_below HR2.out HB.out); (case p3 => exact HC2.out); (case p4 => exact H2.out); rintro e w4 ⟨rfl, hB⟩; replace HV := Am (show Kd.V k24 24 w4 0 (fun k_ => k_ ≠ m) _ _ from Kd.V_below HV.out hB); replace HL := Am (HL.out.below hB); replace HB := Am (HB.out.trans (hB.mono HB.out.size)); clear hB H2)))
 have hxq := (HB.out.block q (blk_lt HX.out)).trans HX.out
 have e0 := blk_cell hxq 0
 have e1 := blk_cell hxq 1
 simp only [List.getElem?_toArray, List.getElem?_cons_zero, List.getElem?_cons_succ] at e0 e1
 clear hxq
 go_wp2_with (first
  | (go_at_call 18; refine (live_like _ b0 m [] ([] : List S24) _ _ x0 x1 HL.out HG.out (by have := HLW.out; omega) HOK.out (Kd.V_reads' HV.out).2.2 (Kd.V_reads' HV.out).2.1 HKK.out).mono ?_; rintro e w7 ⟨rfl, hB⟩; have HB7 := Am (HB.out.trans (hB.mono HB.out.size)); clear hB)
  | (go_at_call 15; refine (live_awake _).mono ?_; rintro e w8 ⟨rfl, hB⟩; have HB8 := Am (HB7.out.trans (hB.mono HB7.out.size)); clear hB))
 go_ret
 exact ⟨rfl, HB0.out.trans (HB8.out.mono HB0.out.size)⟩
end Go.Proofs.Ytpefjfibhjnijaa.PLivePuts
