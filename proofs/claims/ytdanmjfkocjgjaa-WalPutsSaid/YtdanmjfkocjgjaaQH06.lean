/- The plain law of reading what was put: cells, entries and batches; and that no other bytes are a batch's. -/
import Derived.Test.YtdanmjfkocjgjaaQG06
namespace Go.Proofs.Ytdanmjfkocjgjaa.U
open Go.RowKit Go.Proofs.YtdanmjfkocjgjaaW.PrintWords Go.Proofs.YtdanmjfkocjgjaaW.PrintMore
theorem numR_one {most u : Nat} (h : u ≤ most) (hm : most < 18446744073709551616) (m : List Int) : numR most (one u ++ m) = some (u, (one u).length) := by
 unfold numR
 rw [dec_one u 0 m (by omega) (by rw [cap_zero]; omega) (by omega)]
 simp only
 rw [if_pos h]
theorem putP_pos (s a n u : Int) : 0 < (putP s a n u).length := by
 unfold putP sum4
 simp
theorem cellR_put {far : Bool} {b : List Int} {s a n u : Int} (h : mayC far b s a n u = true) (h0 : 0 ≤ u) (h1 : u < 4294967296) (m : List Int) : cellR (putC far b s a n u ++ m) = some ((far, b, s, a, n, u), (putC far b s a n u).length) := by
 unfold mayC at h
 cases far with
 | true =>
  rw [if_pos rfl, Bool.and_eq_true, decide_eq_true_eq] at h
  obtain ⟨h2, h3⟩ := h
  obtain rfl := List.length_eq_zero_iff.1 h2
  have hp := pointR_put h3 h0 h1 m
  have hl := putP_pos s a n u
  unfold cellR putC
  rw [if_pos rfl, List.cons_append, if_neg (by simp), if_pos (show rd (1 :: (putP s a n u ++ m)) 0 = 1 from rfl)]
  rw [show (1 :: (putP s a n u ++ m)).drop 1 = putP s a n u ++ m from rfl, hp]
  simp only
  rw [if_neg (by omega), Int.toNat_natCast]
  rfl
 | false =>
  rw [if_neg (by simp), Bool.and_eq_true, decide_eq_true_eq] at h
  obtain ⟨h2, h3⟩ := h
  unfold zeroP at h3
  rw [decide_eq_true_eq] at h3
  obtain ⟨rfl, rfl, rfl, rfl⟩ := h3
  unfold cellR putC
  rw [if_neg (show ¬ (false = true) by decide), List.cons_append, if_neg (by simp), if_neg (show ¬ rd (0 :: (one b.length ++ b ++ m)) 0 = 1 from (by decide : ¬ (0 : Int) = 1)), if_pos (show rd (0 :: (one b.length ++ b ++ m)) 0 = 0 from rfl)]
  rw [show (0 :: (one b.length ++ b ++ m)).drop 1 = one b.length ++ (b ++ m) by rw [List.drop_succ_cons, List.drop_zero, List.append_assoc], numR_one (show b.length ≤ 32 by omega) (by omega)]
  simp only
  have e1 : (0 :: (one b.length ++ b ++ m)).drop (1 + (one b.length).length) = b ++ m := by
   rw [Nat.add_comm, List.drop_succ_cons, List.append_assoc, List.drop_left]
  rw [if_pos (by simp only [List.length_cons, List.length_append]; omega), e1, List.take_left]
  simp only [List.length_cons, List.length_append, Option.some.injEq, Prod.mk.injEq, true_and]
  omega
theorem entR_put {e : Ent} (h : mayN e = true) (h0 : 0 ≤ e.u) (h1 : e.u < 4294967296) (m : List Int) : entR e.i (putN e ++ m) = some (e, (putN e).length) := by
 have hm := mayN_iff.1 h
 obtain ⟨hh, hk, hc⟩ := hm
 have hs : (bytesOf e.key).length = e.key.size := by
  unfold bytesOf
  rw [List.length_map]
  rfl
 have hsz : ¬ (putN e ++ m).length = 0 := by
  unfold putN
  have := one_pos e.t.toNat
  simp only [List.length_append]
  omega
 unfold entR
 obtain ⟨R, hR⟩ : ∃ R : List Int, (if e.k = 2 then [] else putC e.far e.b e.s e.a e.n e.u) = R := ⟨_, rfl⟩
 have hput : putN e ++ m = one e.t.toNat ++ (e.k :: (one e.key.size ++ (bytesOf e.key ++ (R ++ m)))) := by
  unfold putN
  rw [hR]
  simp only [List.append_assoc, List.cons_append]
 have hplen : (putN e).length = (one e.t.toNat).length + 1 + (one e.key.size).length + e.key.size + R.length := by
  unfold putN
  rw [hR]
  simp only [List.length_append, List.length_cons, hs]
  omega
 rw [hput, numR_one (by omega) (by omega)]
 simp only
 have d1 : (one e.t.toNat ++ (e.k :: (one e.key.size ++ (bytesOf e.key ++ (R ++ m))))).drop ((one e.t.toNat).length + 1) = one e.key.size ++ (bytesOf e.key ++ (R ++ m)) := by
  rw [← List.drop_drop, List.drop_left, List.drop_succ_cons, List.drop_zero]
 have d2 : (one e.t.toNat ++ (e.k :: (one e.key.size ++ (bytesOf e.key ++ (R ++ m))))).drop ((one e.t.toNat).length + 1 + (one e.key.size).length) = bytesOf e.key ++ (R ++ m) := by
  rw [← List.drop_drop, d1, List.drop_left]
 have d3 : (one e.t.toNat ++ (e.k :: (one e.key.size ++ (bytesOf e.key ++ (R ++ m))))).drop ((one e.t.toNat).length + 1 + (one e.key.size).length + e.key.size) = R ++ m := by
  rw [← List.drop_drop, d2, ← hs, List.drop_left]
 have hrd : rd (one e.t.toNat ++ (e.k :: (one e.key.size ++ (bytesOf e.key ++ (R ++ m))))) ((one e.t.toNat).length : Int) = e.k := by
  rw [rd_at _ _ _ 0 (by omega)]
  rfl
 rw [if_neg (by simp only [List.length_append, List.length_cons]; omega), d1, numR_one (show e.key.size ≤ 64 by omega) (by omega)]
 simp only
 rw [if_pos (by simp only [List.length_append, List.length_cons, hs]; omega), d2, d3, hrd]
 have ht : (bytesOf e.key ++ (R ++ m)).take e.key.size = bytesOf e.key := by
  rw [← hs, List.take_left]
 rw [ht, str_bytes]
 have htt : ((e.t.toNat : Nat) : Int) = e.t := by omega
 rw [htt, hplen]
 by_cases h2 : e.k = 2
 ·rw [if_pos h2] at hR ⊢
  subst hR
  have hp := hk.resolve_left (fun h_ => h_ h2)
  unfold plainC zeroP at hp
  simp only [Bool.and_eq_true, Bool.not_eq_true', decide_eq_true_eq] at hp
  obtain ⟨p1, p2, p3, p4, p5, p6⟩ := hp
  obtain ⟨i, t, k, key, far, b, s, a, n, u⟩ := e
  simp only at p1 p2 p3 p4 p5 p6
  obtain rfl := List.length_eq_zero_iff.1 p2
  subst p1 p3 p4 p5 p6
  rfl
 ·rw [if_neg h2] at hR ⊢
  subst hR
  rw [cellR_put hc h0 h1]
def idx : Int → List Ent → Prop
 | _, [] => True
 | i, e :: l => e.i = i ∧ idx (i + 1) l
theorem idx_of {l : List Ent} : ∀ {i t : Int}, batchFrom (some (i, t)) l = true → idx (i + 1) l := by
 induction l with
 | nil => intro _ _ _; trivial
 | cons e l ih =>
  intro i t h
  unfold batchFrom at h
  simp only [Bool.and_eq_true, decide_eq_true_eq] at h
  obtain ⟨_, ⟨h1, _⟩, h2⟩ := h
  refine ⟨h1, ?_⟩
  have := ih h2
  rwa [h1] at this
theorem idx_first {l : List Ent} (h : batchFrom none l = true) : idx (firstI l) l := by
 cases l with
 | nil => trivial
 | cons e l =>
  unfold batchFrom at h
  rw [Bool.and_eq_true] at h
  exact ⟨rfl, idx_of h.2⟩
theorem entsR_puts : ∀ (l : List Ent) (i : Int) (m : List Int), idx i l → (∀ e ∈ l, mayN e = true) → (∀ e ∈ l, 0 ≤ e.u ∧ e.u < 4294967296) → entsR l.length i (putNs l ++ m) = some (l, m)
 | [], _, _, _, _, _ => rfl
 | e :: l, i, m, hi, hm, hu => by
  obtain ⟨rfl, h2⟩ := hi
  have h3 := hu e (by simp)
  rw [putNs_cons, List.append_assoc, List.length_cons, entsR, entR_put (hm e (by simp)) h3.1 h3.2]
  simp only
  rw [List.drop_left, entsR_puts l (e.i + 1) m h2 (fun x hx => hm x (by simp [hx])) (fun x hx => hu x (by simp [hx]))]
theorem firstI_range6 {l : List Ent} (h1 : 1 ≤ l.length) (hm : ∀ e ∈ l, mayN e = true) : 1 ≤ firstI l ∧ firstI l ≤ 2147483647 := by
 cases l with
 | nil => simp at h1
 | cons e l =>
  have := (mayN_iff.1 (hm e (by simp))).1
  exact ⟨this.1, this.2.1⟩
theorem head_puts (l : List Ent) : putB l = one l.length ++ (one (firstI l).toNat ++ putNs l) := by
 unfold putB
 rw [puts_cons, puts_cons, puts_nil, List.append_nil, List.append_assoc, Int.toNat_natCast]
theorem headR_put {l : List Ent} (h : batchB l = true) (m : List Int) : headR (putB l ++ m) = some (l.length, (firstI l).toNat, (one l.length).length + (one (firstI l).toNat).length) ∧ (putB l ++ m).drop ((one l.length).length + (one (firstI l).toNat).length) = putNs l ++ m := by
 obtain ⟨h1, h2⟩ := batchB_iff.1 h
 have hf := firstI_range6 h1.1 (batchFrom_mem h2)
 unfold headR
 rw [head_puts, List.append_assoc, List.append_assoc, numR_one (by omega) (by omega)]
 simp only
 rw [List.drop_left, numR_one (by omega) (by omega)]
 refine ⟨rfl, ?_⟩
 rw [← List.drop_drop, List.drop_left, List.drop_left]
theorem getB_put_more {l : List Ent} (h : batchB l = true) (hu : ∀ e ∈ l, 0 ≤ e.u ∧ e.u < 4294967296) (m : List Int) : getB (putB l ++ m) = if m = [] then l else [] := by
 obtain ⟨h1, h2⟩ := batchB_iff.1 h
 obtain ⟨h3, h4⟩ := headR_put h m
 have hf := firstI_range6 h1.1 (batchFrom_mem h2)
 unfold getB
 rw [h3]
 simp only
 rw [h4, show (((firstI l).toNat : Nat) : Int) = firstI l by omega, entsR_puts l (firstI l) m (idx_first h2) (batchFrom_mem h2) hu]
 simp only
 by_cases hm : m = []
 ·rw [if_pos ⟨hm, h⟩, if_pos hm]
 ·rw [if_neg (fun h_ => hm h_.1), if_neg hm]
theorem getB_put {l : List Ent} (h : batchB l = true) (hu : ∀ e ∈ l, 0 ≤ e.u ∧ e.u < 4294967296) : getB (putB l) = l := by
 have := getB_put_more h hu []
 rwa [List.append_nil, if_pos rfl] at this
theorem putB_bytes {l : List Ent} (hk : ∀ e ∈ l, mayN e = true) (hb : ∀ e ∈ l, Bytes e.b) : Bytes (putB l) := by
 unfold putB
 refine (puts_bytes _).append ?_
 induction l with
 | nil => exact Bytes.nil
 | cons e l ih =>
  rw [putNs_cons]
  refine Bytes.append ?_ (ih (fun x hx => hk x (by simp [hx])) (fun x hx => hb x (by simp [hx])))
  have hm := (mayN_iff.1 (hk e (by simp))).1
  have hbe := hb e (by simp)
  unfold putN
  refine (one_bytes _).append ?_
  have hc : Bytes (if e.k = 2 then [] else putC e.far e.b e.s e.a e.n e.u) := by
   split
   ·exact Bytes.nil
   ·unfold putC
    split
    ·intro x hx
     rcases List.mem_cons.1 hx with rfl | hx
     ·omega
     ·unfold putP at hx
      exact ((puts_bytes _).append (sum4_bytes _)) x hx
    ·intro x hx
     rcases List.mem_cons.1 hx with rfl | hx
     ·omega
     ·exact ((one_bytes _).append hbe) x hx
  intro x hx
  rcases List.mem_cons.1 hx with rfl | hx
  ·omega
  ·exact ((one_bytes _).append ((bytesOf_range _).append hc)) x hx
end Go.Proofs.Ytdanmjfkocjgjaa.U
