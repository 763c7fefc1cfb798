/- The plain law of reading what was put: cells, entries and batches; and that no other bytes are a batch's. -/
import Derived.Test.YtpplclcgkcjmpaaQG06
namespace Go.Proofs.Ytpplclcgkcjmpaa.U
open Go.RowKit Go.Proofs.YtpplclcgkcjmpaaW.PrintWords Go.Proofs.YtpplclcgkcjmpaaW.PrintMore
theorem numR_one {most u : Nat} (h : u ≤ most) (hm : most < 18446744073709551616) (m : List Int) : numR most (one u ++ m) = some (u, (one u).length) := by
  unfold numR
  rw [dec_one u 0 m (by omega) (by rw [cap_zero]; omega) (by omega)]
  simp only
  rw [if_pos h]
theorem putP_pos (s a n u : Int) : 0 < (putP s a n u).length := by
  unfold putP sum4
  simp
theorem cellR_put {far : Bool} {b : List Int} {s a n u : Int} (h : mayC far b s a n u = true) (h0 : 0 ≤ u) (h1 : u < 4294967296) (m : List Int) : cellR (putC far b s a n u ++ m) = some ((far, b, s, a, n, u), (putC far b s a n u).length) := by
  unfold mayC at h
  cases far with
  | true =>
    rw [if_pos rfl, Bool.and_eq_true, decide_eq_true_eq] at h
    obtain ⟨h2, h3⟩ := h
    obtain rfl := List.length_eq_zero_iff.1 h2
    have hp := pointR_put h3 h0 h1 m
    have hl := putP_pos s a n u
    unfold cellR putC
    rw [if_pos rfl, List.cons_append, if_neg (by simp), if_pos (show rd (1 :: (putP s a n u ++ m)) 0 = 1 from rfl)]
    rw [show (1 :: (putP s a n u ++ m)).drop 1 = putP s a n u ++ m from rfl, hp]
    simp only
    rw [if_neg (by omega), Int.toNat_natCast]
    rfl
  | false =>
    rw [if_neg (by simp), Bool.and_eq_true, decide_eq_true_eq] at h
    obtain ⟨h2, h3⟩ := h
    unfold zeroP at h3
    rw [decide_eq_true_eq] at h3
    obtain ⟨rfl, rfl, rfl, rfl⟩ := h3
    unfold cellR putC
    rw [if_neg (show ¬ (false = true) by decide), List.cons_append, if_neg (by simp), if_neg (show ¬ rd (0 :: (one b.length ++ b ++ m)) 0 = 1 from (by decide : ¬ (0 : Int) = 1)), if_pos (show rd (0 :: (one b.length ++ b ++ m)) 0 = 0 from rfl)]
    rw [show (0 :: (one b.length ++ b ++ m)).drop 1 = one b.length ++ (b ++ m) by rw [List.drop_succ_cons, List.drop_zero, List.append_assoc], numR_one (show b.length ≤ 32 by omega) (by omega)]
    simp only
    have e1 : (0 :: (one b.length ++ b ++ m)).drop (1 + (one b.length).length) = b ++ m := by
      rw [Nat.add_comm, List.drop_succ_cons, List.append_assoc, List.drop_left]
    rw [if_pos (by simp only [List.length_cons, List.length_append]; omega), e1, List.take_left]
    simp only [List.length_cons, List.length_append, Option.some.injEq, Prod.mk.injEq, true_and]
    omega
theorem entR_put {e : Ent} (h : mayN e = true) (h0 : 0 ≤ e.u) (h1 : e.u < 4294967296) (m : List Int) : entR e.i (putN e ++ m) = some (e, (putN e).length) := by
  have hm := mayN_iff.1 h
  obtain ⟨hh, hk, hc⟩ := hm
  have hs : (bytesOf e.key).length = e.key.size := by
    unfold bytesOf
    rw [List.length_map]
    rfl
  have hsz : ¬ (putN e ++ m).length = 0 := by
    unfold putN
    have := one_pos e.t.toNat
    simp only [List.length_append]
    omega
  unfold entR
  obtain ⟨R, hR⟩ : ∃ R : List Int, (if e.k = 2 then [] else putC e.far e.b e.s e.a e.n e.u) = R := ⟨_, rfl⟩
  have hput : putN e ++ m = one e.t.toNat ++ (e.k :: (one e.key.size ++ (bytesOf e.key ++ (R ++ m)))) := by
    unfold putN
    rw [hR]
    simp only [List.append_assoc, List.cons_append]
  have hplen : (putN e).length = (one e.t.toNat).length + 1 + (one e.key.size).length + e.key.size + R.length := by
    unfold putN
    rw [hR]
    simp only [List.length_append, List.length_cons, hs]
    omega
  rw [hput, numR_one (by omega) (by omega)]
  simp only
  have d1 : (one e.t.toNat ++ (e.k :: (one e.key.size ++ (bytesOf e.key ++ (R ++ m))))).drop ((one e.t.toNat).length + 1) = one e.key.size ++ (bytesOf e.key ++ (R ++ m)) := by
    rw [← List.drop_drop, List.drop_left, List.drop_succ_cons, List.drop_zero]
  have d2 : (one e.t.toNat ++ (e.k :: (one e.key.size ++ (bytesOf e.key ++ (R ++ m))))).drop ((one e.t.toNat).length + 1 + (one e.key.size).length) = bytesOf e.key ++ (R ++ m) := by
    rw [← List.drop_drop, d1, List.drop_left]
  have d3 : (one e.t.toNat ++ (e.k :: (one e.key.size ++ (bytesOf e.key ++ (R ++ m))))).drop ((one e.t.toNat).length + 1 + (one e.key.size).length + e.key.size) = R ++ m := by
    rw [← List.drop_drop, d2, ← hs, List.drop_left]
  have hrd : rd (one e.t.toNat ++ (e.k :: (one e.key.size ++ (bytesOf e.key ++ (R ++ m))))) ((one e.t.toNat).length : Int) = e.k := by
    rw [rd_at _ _ _ 0 (by omega)]
    rfl
  rw [if_neg (by simp only [List.length_append, List.length_cons]; omega), d1, numR_one (show e.key.size ≤ 64 by omega) (by omega)]
  simp only
  rw [if_pos (by simp only [List.length_append, List.length_cons, hs]; omega), d2, d3, hrd]
  have ht : (bytesOf e.key ++ (R ++ m)).take e.key.size = bytesOf e.key := by
    rw [← hs, List.take_left]
  rw [ht, str_bytes]
  have htt : ((e.t.toNat : Nat) : Int) = e.t := by omega
  rw [htt, hplen]
  by_cases h2 : e.k = 2
  · rw [if_pos h2] at hR ⊢
    subst hR
    have hp := hk.resolve_left (fun h_ => h_ h2)
    unfold plainC zeroP at hp
    simp only [Bool.and_eq_true, Bool.not_eq_true', decide_eq_true_eq] at hp
    obtain ⟨p1, p2, p3, p4, p5, p6⟩ := hp
    obtain ⟨i, t, k, key, far, b, s, a, n, u⟩ := e
    simp only at p1 p2 p3 p4 p5 p6
    obtain rfl := List.length_eq_zero_iff.1 p2
    subst p1 p3 p4 p5 p6
    rfl
  · rw [if_neg h2] at hR ⊢
    subst hR
    rw [cellR_put hc h0 h1]
def idx : Int → List Ent → Prop
  | _, [] => True
  | i, e :: l => e.i = i ∧ idx (i + 1) l
theorem idx_of {l : List Ent} : ∀ {i t : Int}, batchFrom (some (i, t)) l = true → idx (i + 1) l := by
  induction l with
  | nil => intro _ _ _; trivial
  | cons e l ih =>
    intro i t h
    unfold batchFrom at h
    simp only [Bool.and_eq_true, decide_eq_true_eq] at h
    obtain ⟨_, ⟨h1, _⟩, h2⟩ := h
    refine ⟨h1, ?_⟩
    have := ih h2
    rwa [h1] at this
theorem idx_first {l : List Ent} (h : batchFrom none l = true) : idx (firstI l) l := by
  cases l with
  | nil => trivial
  | cons e l =>
    unfold batchFrom at h
    rw [Bool.and_eq_true] at h
    exact ⟨rfl, idx_of h.2⟩
theorem entsR_puts : ∀ (l : List Ent) (i : Int) (m : List Int), idx i l → (∀ e ∈ l, mayN e = true) → (∀ e ∈ l, 0 ≤ e.u ∧ e.u < 4294967296) → entsR l.length i (putNs l ++ m) = some (l, m)
  | [], _, _, _, _, _ => rfl
  | e :: l, i, m, hi, hm, hu => by
    obtain ⟨rfl, h2⟩ := hi
    have h3 := hu e (by simp)
    rw [putNs_cons, List.append_assoc, List.length_cons, entsR, entR_put (hm e (by simp)) h3.1 h3.2]
    simp only
    rw [List.drop_left, entsR_puts l (e.i + 1) m h2 (fun x hx => hm x (by simp [hx])) (fun x hx => hu x (by simp [hx]))]
theorem firstI_range6 {l : List Ent} (h1 : 1 ≤ l.length) (hm : ∀ e ∈ l, mayN e = true) : 1 ≤ firstI l ∧ firstI l ≤ 2147483647 := by
  cases l with
  | nil => simp at h1
  | cons e l =>
    have := (mayN_iff.1 (hm e (by simp))).1
    exact ⟨this.1, this.2.1⟩
theorem head_puts (l : List Ent) : putB l = one l.length ++ (one (firstI l).toNat ++ putNs l) := by
  unfold putB
  rw [puts_cons, puts_cons, puts_nil, List.append_nil, List.append_assoc, Int.toNat_natCast]
theorem headR_put {l : List Ent} (h : batchB l = true) (m : List Int) : headR (putB l ++ m) = some (l.length, (firstI l).toNat, (one l.length).length + (one (firstI l).toNat).length) ∧ (putB l ++ m).drop ((one l.length).length + (one (firstI l).toNat).length) = putNs l ++ m := by
  obtain ⟨h1, h2⟩ := batchB_iff.1 h
  have hf := firstI_range6 h1.1 (batchFrom_mem h2)
  unfold headR
  rw [head_puts, List.append_assoc, List.append_assoc, numR_one (by omega) (by omega)]
  simp only
  rw [List.drop_left, numR_one (by omega) (by omega)]
  refine ⟨rfl, ?_⟩
  rw [← List.drop_drop, List.drop_left, List.drop_left]
theorem getB_put_more {l : List Ent} (h : batchB l = true) (hu : ∀ e ∈ l, 0 ≤ e.u ∧ e.u < 4294967296) (m : List Int) : getB (putB l ++ m) = if m = [] then l else [] := by
  obtain ⟨h1, h2⟩ := batchB_iff.1 h
  obtain ⟨h3, h4⟩ := headR_put h m
  have hf := firstI_range6 h1.1 (batchFrom_mem h2)
  unfold getB
  rw [h3]
  simp only
  rw [h4, show (((firstI l).toNat : Nat) : Int) = firstI l by omega, entsR_puts l (firstI l) m (idx_first h2) (batchFrom_mem h2) hu]
  simp only
  by_cases hm : m = []
  · rw [if_pos ⟨hm, h⟩, if_pos hm]
  · rw [if_neg (fun h_ => hm h_.1), if_neg hm]
theorem getB_put {l : List Ent} (h : batchB l = true) (hu : ∀ e ∈ l, 0 ≤ e.u ∧ e.u < 4294967296) : getB (putB l) = l := by
  have := getB_put_more h hu []
  rwa [List.append_nil, if_pos rfl] at this
theorem numR_pre {most : Nat} {b : List Int} (hb : Bytes b) {s : List Int} (hs : Bytes s) {u n : Nat} (h : numR most b = some (u, n)) : numR most (b ++ s) = some (u, n) := by
  obtain ⟨h1, _, _, _, h5⟩ := numR_le hb h
  obtain ⟨g1, ⟨m, g2⟩, g3⟩ := (dec_iff hb).1 h5
  have : dec 0 (b ++ s) = some (u, n) := (dec_iff (hb.append hs)).2 ⟨g1, ⟨m ++ s, by rw [g2, List.append_assoc]⟩, g3⟩
  unfold numR
  rw [this]
  simp only
  rw [if_pos h1]
theorem rd_left {b : List Int} (s : List Int) {i : Int} (h0 : 0 ≤ i) (h : i < b.length) : rd (b ++ s) i = rd b i := by
  unfold rd
  rw [List.getD_eq_getElem?_getD, List.getD_eq_getElem?_getD, List.getElem?_append_left (by omega)]
theorem pointR_pre {b : List Int} (hb : Bytes b) (s : List Int) (h : (pointR b).2.2.2.2 ≠ 0) : pointR (b ++ s) = pointR b := by
  unfold pointR at h
  by_cases hc : (decs 3 b).2.2 = true ∧ (decs 3 b).2.1 + 4 ≤ b.length ∧ mayP (rd (decs 3 b).1 0) (rd (decs 3 b).1 1) (rd (decs 3 b).1 2) = true
  · obtain ⟨c1, c2, c3⟩ := hc
    obtain ⟨d1, ⟨m, d2⟩, d3⟩ := decs_some hb c1
    have hl := decs_len c1
    have hd := decs_puts d1 (m ++ s)
    rw [hl] at hd
    have hbs : b ++ s = puts (decs 3 b).1 ++ (m ++ s) := by
      rw [← List.append_assoc, ← d2]
    have e : decs 3 (b ++ s) = decs 3 b := by
      rw [hbs, hd, ← d3, ← c1]
    have es : sumAt (b ++ s) (decs 3 b).2.1 = sumAt b (decs 3 b).2.1 := by
      unfold sumAt
      rw [rd_left s (by omega) (by omega), rd_left s (by omega) (by omega), rd_left s (by omega) (by omega), rd_left s (by omega) (by omega)]
    unfold pointR
    rw [e, es, if_pos ⟨c1, by rw [List.length_append]; omega, c3⟩, if_pos ⟨c1, c2, c3⟩]
  · rw [if_neg hc] at h
    exact absurd rfl h
theorem cellR_pre {b : List Int} (hb : Bytes b) {s : List Int} (hs : Bytes s) {c : Cel} {m : Nat} (h : cellR b = some (c, m)) : cellR (b ++ s) = some (c, m) := by
  unfold cellR at h ⊢
  by_cases h0 : b.length = 0
  · rw [if_pos h0] at h; cases h
  have hd : (b ++ s).drop 1 = b.drop 1 ++ s := List.drop_append_of_le_length (by omega)
  rw [if_neg h0] at h
  rw [if_neg (by rw [List.length_append]; omega), rd_left s (by omega) (by omega), hd]
  by_cases h1 : rd b 0 = 1
  · rw [if_pos h1] at h ⊢
    by_cases h2 : (pointR (b.drop 1)).2.2.2.2 = 0
    · rw [if_pos h2] at h; cases h
    · rw [pointR_pre (hb.drop 1) s h2]
      exact h
  rw [if_neg h1] at h ⊢
  by_cases h2 : rd b 0 = 0
  · rw [if_pos h2] at h ⊢
    cases hn : numR 32 (b.drop 1) with
    | none => rw [hn] at h; cases h
    | some x =>
      obtain ⟨u, n⟩ := x
      rw [hn] at h
      rw [numR_pre (hb.drop 1) hs hn]
      simp only at h ⊢
      by_cases h7 : 1 + n + u ≤ b.length
      · rw [if_pos h7] at h
        rw [if_pos (by rw [List.length_append]; omega), List.drop_append_of_le_length (by omega), List.take_append_of_le_length (by rw [List.length_drop]; omega)]
        exact h
      · rw [if_neg h7] at h; cases h
  · rw [if_neg h2] at h; cases h
theorem entR_pre {b : List Int} (hb : Bytes b) {s : List Int} (hs : Bytes s) {i : Int} {e : Ent} {m : Nat} (h : entR i b = some (e, m)) : entR i (b ++ s) = some (e, m) := by
  unfold entR at h ⊢
  cases hn : numR 2147483647 b with
  | none => rw [hn] at h; cases h
  | some x =>
    obtain ⟨t, n⟩ := x
    obtain ⟨h1, h2, h3, h4, _⟩ := numR_le hb hn
    rw [hn] at h
    rw [numR_pre hb hs hn]
    simp only at h ⊢
    by_cases h5 : n = b.length
    · rw [if_pos h5] at h; cases h
    rw [if_neg h5] at h
    rw [if_neg (by rw [List.length_append]; omega), List.drop_append_of_le_length (show n + 1 ≤ b.length by omega)]
    cases hm : numR 64 (b.drop (n + 1)) with
    | none => rw [hm] at h; cases h
    | some y =>
      obtain ⟨u, k⟩ := y
      obtain ⟨g1, g2, g3, g4, _⟩ := numR_le (hb.drop (n + 1)) hm
      have hl := List.length_drop (i := n + 1) (l := b)
      rw [hm] at h
      rw [numR_pre (hb.drop (n + 1)) hs hm]
      simp only at h ⊢
      by_cases h6 : n + 1 + k + u ≤ b.length
      · rw [if_pos h6] at h
        rw [if_pos (by rw [List.length_append]; omega), rd_left s (by omega) (by omega), List.drop_append_of_le_length (show n + 1 + k ≤ b.length by omega), List.take_append_of_le_length (by rw [List.length_drop]; omega), List.drop_append_of_le_length h6]
        by_cases h7 : rd b (n : Int) = 2
        · rw [if_pos h7] at h ⊢
          exact h
        · rw [if_neg h7] at h ⊢
          cases hc : cellR (b.drop (n + 1 + k + u)) with
          | none => rw [hc] at h; cases h
          | some c =>
            obtain ⟨c, m'⟩ := c
            rw [hc] at h
            rw [cellR_pre (hb.drop _) hs hc]
            exact h
      · rw [if_neg h6] at h; cases h
theorem entsR_pre {s : List Int} (hs : Bytes s) : ∀ {d : Nat} {i : Int} {b : List Int} {l : List Ent} {r : List Int}, Bytes b → entsR d i b = some (l, r) → entsR d i (b ++ s) = some (l, r ++ s) := by
  intro d
  induction d with
  | zero =>
    intro i b l r hb h
    rw [entsR] at h ⊢
    cases h
    rfl
  | succ d ih =>
    intro i b l r hb h
    rw [entsR] at h ⊢
    cases he : entR i b with
    | none => rw [he] at h; cases h
    | some y =>
      obtain ⟨e, m⟩ := y
      obtain ⟨e1, e2, _⟩ := entR_le hb he
      rw [he] at h
      rw [entR_pre hb hs he]
      simp only at h ⊢
      rw [List.drop_append_of_le_length e2]
      cases hE : entsR d (i + 1) (b.drop m) with
      | none => rw [hE] at h; cases h
      | some z =>
        obtain ⟨l', r'⟩ := z
        rw [hE] at h
        rw [ih (hb.drop m) hE]
        cases h
        rfl
theorem getB_cut {l : List Ent} (h : batchB l = true) (hu : ∀ e ∈ l, 0 ≤ e.u ∧ e.u < 4294967296) {p s : List Int} (hp : Bytes p) (hs : Bytes s) (he : p ++ s = putB l) (hne : s ≠ []) : getB p = [] := by
  obtain ⟨h1, h2⟩ := batchB_iff.1 h
  have hf := firstI_range6 h1.1 (batchFrom_mem h2)
  obtain ⟨h3, h4⟩ := headR_put h []
  rw [List.append_nil] at h3 h4
  unfold getB
  cases hh : headR p with
  | none => rfl
  | some x =>
    obtain ⟨n, f, k⟩ := x
    simp only
    have hk : headR (p ++ s) = some (n, f, k) ∧ k ≤ p.length := by
      unfold headR at hh ⊢
      cases hn : numR 16 p with
      | none => rw [hn] at hh; cases hh
      | some y =>
        obtain ⟨u, k0⟩ := y
        obtain ⟨a1, a2, a3, a4, _⟩ := numR_le hp hn
        rw [hn] at hh
        rw [numR_pre hp hs hn]
        simp only at hh ⊢
        rw [List.drop_append_of_le_length a3]
        cases hm : numR 2147483647 (p.drop k0) with
        | none => rw [hm] at hh; cases hh
        | some z =>
          obtain ⟨v, k1⟩ := z
          obtain ⟨b1, b2, b3, b4, _⟩ := numR_le (hp.drop k0) hm
          rw [List.length_drop] at b3
          rw [hm] at hh
          rw [numR_pre (hp.drop k0) hs hm]
          cases hh
          exact ⟨rfl, by omega⟩
    rw [he, h3] at hk
    obtain ⟨hk1, hk2⟩ := hk
    cases hk1
    cases hE : entsR l.length ((firstI l).toNat : Int) (p.drop ((one l.length).length + (one (firstI l).toNat).length)) with
    | none => rfl
    | some z =>
      obtain ⟨l', r⟩ := z
      simp only
      have q := entsR_pre hs (hp.drop _) hE
      rw [← List.drop_append_of_le_length hk2, he, h4, show (((firstI l).toNat : Nat) : Int) = firstI l by omega, entsR_puts l (firstI l) [] (idx_first h2) (batchFrom_mem h2) hu] at q
      have : r ++ s = [] := by
        have := congrArg (fun z => z.map Prod.snd) q
        simpa using this.symm
      exact absurd (List.append_eq_nil_iff.1 this).2 hne
theorem putB_bytes {l : List Ent} (hk : ∀ e ∈ l, mayN e = true) (hb : ∀ e ∈ l, Bytes e.b) : Bytes (putB l) := by
  unfold putB
  refine (puts_bytes _).append ?_
  induction l with
  | nil => exact Bytes.nil
  | cons e l ih =>
    rw [putNs_cons]
    refine Bytes.append ?_ (ih (fun x hx => hk x (by simp [hx])) (fun x hx => hb x (by simp [hx])))
    have hm := (mayN_iff.1 (hk e (by simp))).1
    have hbe := hb e (by simp)
    unfold putN
    refine (one_bytes _).append ?_
    have hc : Bytes (if e.k = 2 then [] else putC e.far e.b e.s e.a e.n e.u) := by
      split
      · exact Bytes.nil
      · unfold putC
        split
        · intro x hx
          rcases List.mem_cons.1 hx with rfl | hx
          · omega
          · unfold putP at hx
            exact ((puts_bytes _).append (sum4_bytes _)) x hx
        · intro x hx
          rcases List.mem_cons.1 hx with rfl | hx
          · omega
          · exact ((one_bytes _).append hbe) x hx
    intro x hx
    rcases List.mem_cons.1 hx with rfl | hx
    · omega
    · exact ((one_bytes _).append ((bytesOf_range _).append hc)) x hx
end Go.Proofs.Ytpplclcgkcjmpaa.U
