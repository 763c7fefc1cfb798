/- What the law reaches, as plain Lean functions, and that the machine's calls answer just that. -/
import Derived.Test.YtpefjfibhjnijaaPLivePutsx16
import Derived.Test.YtpefjfibhjnijaaPLivePutsx18
namespace Go.Proofs.Ytpefjfibhjnijaa.PLivePuts
open Go.RowKit Go.Proofs.Ytpefjfibhjnijaa.U Go.Proofs.Ytpefjfibhjnijaa.Pure Go.Proofs.YtpefjfibhjnijaaW.PrintWords Go.Proofs.YtpefjfibhjnijaaW.PrintLast Go.Proofs.YtpefjfibhjnijaaW.PrintMore
set_option linter.unusedVariables false
set_option linter.unusedSimpArgs false
theorem drawn_below {w w' : World} (h : Drawn0 w w') : Below w.heap.size w w' := by
 obtain ⟨n, rfl⟩ := h
 exact pw_below_drewN (Below.refl _ _) n
theorem sameP (l : List S24) (hl : l.length ≤ 140737488351232) : ∃ k, garnerref04_Same.f k l l = some true := by
 have h := garnerref04_Same_ev (a := l) (b := l) (Nat.le_trans hl (by decide))
 rw [decide_eq_true rfl] at h
 exact Ev.rounds h
set_option maxHeartbeats 8000000 in
set_option maxRecDepth 100000 in
theorem live_like (w : World) (b m : Nat) (g : List ((Int × Int) × S24)) (wl : List S24) (A : Option Addr) (c : Nat) (seg at_ : Int) (hL : Ls w b m g) (hG : RG g wl) (hN : wl.length ≤ 200) (hok : wl.all okP = true) (hr : Kd.C k24 w A wl.length wl) (hc : wl.length ≤ c) (hk : okK (seg, at_)) :
  Calls Try.prog 18 #[.pointer (some ⟨b, 0, none⟩), .slice A wl.length c, .int .i64 seg, .int .i64 at_] w fun e w' => e = .returned (.bool true) ∧ Below w.heap.size w w' := by
 have hgl : g.length ≤ 1000000 := by
  have := hG.perm.length_eq
  rw [List.length_map] at this
  omega
 have hne : ∀ (q : Nat) (W : World), (_root_.Go.binOp BinOp.eql 25 (.pointer (some ⟨q, 0, none⟩)) (.pointer none)).run Try.prog W = .ok (.bool false) W := fun q W => by rfl
 have HO := Am (hG.ord hgl)
 have HGL := Am hgl
 have HL := Am hL
 have HR := Am hr
 have HC := Am hc
 have HK := Am hk
 obtain ⟨fl, hfl⟩ : ∃ fl, fl = wl.filter (fun x => decide (x.f0 = seg)) := ⟨_, rfl⟩
 have hfll : fl.length ≤ 200 := by rw [hfl]; exact Nat.le_trans (List.length_filter_le _ _) hN
 obtain ⟨k1, h1⟩ := sameP wl (by omega)
 obtain ⟨k2, h2⟩ := sameP fl (by omega)
 obtain ⟨k3, h3⟩ := Ev.rounds (garnerref28_Of_ev wl seg (by omega))
 obtain ⟨k4, h4⟩ := Ev.rounds (garnerref28_Has_ev wl seg at_ (by omega))
 obtain ⟨T, t1, t2, t3⟩ := talP_ev wl hok hN
 obtain ⟨k5, h5⟩ := Ev.rounds t1
 obtain ⟨k6, h6⟩ := Ev.rounds t2
 obtain ⟨k7, h7⟩ := Ev.rounds t3
 rw [← hfl] at h3
 rw [← hG.has (seg, at_)] at h4
 have H1 := Am h1
 have H2 := Am h2
 have H3 := Am h3
 have H4 := Am h4
 have H5 := Am h5
 have H6 := Am h6
 have H7 := Am h7
 have HFL := Am hfl
 obtain ⟨R, hR⟩ : ∃ R, R = (pat (seg, at_) g).isSome := ⟨_, rfl⟩
 rw [← hR] at H4
 have HRR := Am hR
 have hnb : (R != R) = false := by cases R <;> rfl
 have HB := Am (Below.refl w.heap.size w)
 have HN := Am hN
 clear hgl hL hr hc hk h1 h2 h3 h4 h5 h6 h7 t1 t2 t3 hfl hok hR hfll
 clear hN
 clear hG
 go_enter Try.func18, Try.ntmps18
 go_wp2_with (first
  | (go_at_call 11; refine (live_All _ b m g wl HL.out HGL.out HO.out).mono ?_; rintro e w1 ⟨v1, rfl, hR, hB⟩; obtain ⟨A1, c1, hv⟩ := Kd.R_slice hR; subst hv; have HR1 := Am hR; replace HL := Am (HL.out.below hB); replace HR := Am (Kd.C_below HR.out hB); replace HB := Am (HB.out.trans (hB.mono HB.out.size)); clear hR hB)
  | (go_at_call 19; first
    | (refine (garnerref04_Same.calls k1 A1 c1 wl A c wl true _ (Kd.R_reads' HR1.out).2.2 (Kd.R_reads' HR1.out).2.1 HR.out HC.out H1.out).mono ?_; rintro e w2 ⟨rfl, hd⟩; have hB := drawn_below hd; replace HL := Am (HL.out.below hB); replace HR := Am (Kd.C_below HR.out hB); replace HB := Am (HB.out.trans (hB.mono HB.out.size)); clear hB hd HR1)
    | (refine (garnerref04_Same.calls k2 A3 c3 fl A4 c4 fl true _ (Kd.R_reads' HR3.out).2.2 (Kd.R_reads' HR3.out).2.1 (Kd.R_reads' HR4.out).2.2 (Kd.R_reads' HR4.out).2.1 H2.out).mono ?_; rintro e w5 ⟨rfl, hd⟩; have hB := drawn_below hd; replace HL := Am (HL.out.below hB); replace HR := Am (Kd.C_below HR.out hB); replace HB := Am (HB.out.trans (hB.mono HB.out.size)); clear hB hd HR3 HR4))
  | (go_at_call 12; refine (live_Of _ b m g wl seg HL.out HGL.out HO.out).mono ?_; rintro e w3 ⟨v3, rfl, hR, hB⟩; rw [← HFL.out] at hR; obtain ⟨A3, c3, hv⟩ := Kd.R_slice hR; subst hv; have HR3 := Am hR; replace HL := Am (HL.out.below hB); replace HR := Am (Kd.C_below HR.out hB); replace HB := Am (HB.out.trans (hB.mono HB.out.size)); clear hR hB)
  | (go_at_call 36; refine (garnerref28_Of.calls k3 A c wl seg fl _ HR.out HC.out H3.out).mono ?_; rintro e w4 ⟨v4, rfl, hR, hB⟩; obtain ⟨A4, c4, hv⟩ := Kd.R_slice hR; subst hv; have HR4 := Am hR; replace HR3 := Am (Kd.R_below HR3.out hB); replace HL := Am (HL.out.below hB); replace HR := Am (Kd.C_below HR.out hB); replace HB := Am (HB.out.trans (hB.mono HB.out.size)); clear hR hB)
  | (go_at_call 10; refine (live_Has _ b m g seg at_ HL.out HK.out).mono ?_; rintro e w6 ⟨rfl, hB⟩; rw [← HRR.out]; replace HL := Am (HL.out.below hB); replace HR := Am (Kd.C_below HR.out hB); replace HB := Am (HB.out.trans (hB.mono HB.out.size)); clear hB)
  | (go_at_call 34; refine (garnerref28_Has.calls k4 A c wl seg at_ R _ HR.out HC.out H4.out).mono ?_; rintro e w7 ⟨rfl, hd⟩; have hB := drawn_below hd; replace HL := Am (HL.out.below hB); replace HR := Am (Kd.C_below HR.out hB); replace HB := Am (HB.out.trans (hB.mono HB.out.size)); clear hB hd)
  | (go_at_call 13; refine (live_Tally _ b m k5 g wl T 0 HL.out HGL.out HO.out H5.out).mono ?_; rintro e w8 ⟨v8, rfl, hR, hB⟩; obtain ⟨A8, c8, hv⟩ := Kd.R_slice hR; subst hv; have HR8 := Am hR; replace HL := Am (HL.out.below hB); replace HR := Am (Kd.C_below HR.out hB); replace HB := Am (HB.out.trans (hB.mono HB.out.size)); clear hR hB)
  | (go_at_call 38; go_loud (refine (garnerref09_Add.calls k6 (fun _ => True) none 0 [] A c wl T _ ?s0 HR.out HC.out H6.out).mono ?_; (case s0 => exact Kd.R_V (Kd.R_nil k79 79 _ 0 (fun _ => True))); rintro e w9 ⟨v9, rfl, hV, hB⟩; obtain ⟨A9, c9, hv⟩ := Kd.V_slice hV; subst hv; have HV9 := Am hV; replace HR8 := Am (Kd.R_below HR8.out hB); replace HB := Am (HB.out.trans (hB.mono HB.out.size)); clear hV hB))
  | (go_at_call 37; go_loud (refine (garnerref09_Same.calls k7 A8 c8 T A9 c9 T true _ (Kd.R_reads' HR8.out).2.2 (Kd.R_reads' HR8.out).2.1 (Kd.V_reads' HV9.out).2.2 (Kd.V_reads' HV9.out).2.1 H7.out).mono ?_; rintro e w10 ⟨rfl, hd⟩; have hB := drawn_below hd; replace HB := Am (HB.out.trans (hB.mono HB.out.size)); clear hB hd)))
 go_ret
 exact ⟨rfl, HB.out⟩
end Go.Proofs.Ytpefjfibhjnijaa.PLivePuts
