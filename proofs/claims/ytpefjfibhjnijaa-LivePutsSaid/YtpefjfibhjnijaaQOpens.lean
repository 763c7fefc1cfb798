/- An argument that a law is called with, opened to any depth: from the row's reading of it to the kind that the printed functions ask for. -/
import Derived.Test.YtpefjfibhjnijaaQEv
import Derived.OpenShut
import Derived.DataElems
import Derived.SizedLaws
namespace Go.Proofs.Ytpefjfibhjnijaa.U
open Go.RowKit Go.Proofs.YtpefjfibhjnijaaW.PrintWords
def Opens {α : Type} (P : Program) (t : TypeId) (d : Kd α) (good : α → Prop) : Prop :=
 ∀ (H : Type) (enc : TypeId × Value → H) (W : World) (fuel : Nat) (cs : List Value) (x : DataW H × List MemPlace),
  DataW.trod enc P W 0 (fun _ => true) true fuel t cs = some x → (∀ n ∈ DataW.weights P t x.1, n ≤ 140737488351232) → ∃ a, d.K W a cs ∧ good a
section
variable {P : Program} {t e : TypeId} {α β : Type}
theorem opens_int {k : IntKind} (hu : P.underlying t = some (.int k)) : Opens P t (Kd.int k) (fun n => (Lit.int k n).wf = true) := by
 intro H enc W fuel cs x h _
 obtain ⟨n, rfl, _, hw⟩ := DataW.trod_int hu h
 exact ⟨n, rfl, hw⟩
theorem weights_all {H : Type} {n : Nat} {d : DataW H} : ∀ {l : List (DataW H)}, d ∈ l → n ∈ DataW.weights P e d → n ∈ DataW.weightsAll P e l := by
 intro l
 induction l with
 | nil => intro h; simp at h
 | cons y l ih =>
  intro h hn
  unfold DataW.weightsAll
  rcases List.mem_cons.1 h with rfl | h
  ·exact List.mem_append_left _ hn
  ·exact List.mem_append_right _ (ih h hn)
theorem opens_row {W : World} {A : Option Addr} {len cap : Nat} {d : Kd α} {good : α → Prop} {H : Type} {enc : TypeId × Value → H} {fuel : Nat} {x : DataW H × List MemPlace}
 {B : Nat} (hu : P.underlying t = some (.slice e)) (ho : Opens P e d good) (hsz : d.sz = P.cellsOf e) (hB : P.bytesOf e = B) (h : DataW.trod enc P W 0 (fun _ => true) true fuel t [.slice A len cap] = some x) (hw : ∀ n ∈ DataW.weights P t x.1, n ≤ 140737488351232) :
 ∃ xs : List α, xs.length = len ∧ len ≤ cap ∧ cap ≤ maxLen ∧ d.C W A xs.length xs ∧ xs.length * B ≤ 140737488351232 ∧ ∀ y ∈ xs, good y := by
 rcases DataW.trod_slice hu h with ⟨hcs, _⟩ | ⟨a, l, c, elems, rest, n, _, hcs, hx, _, hlc, hcm, hel, hget, _, _⟩
 ·simp at hcs
  obtain ⟨rfl, rfl, rfl⟩ := hcs
  exact ⟨[], rfl, Nat.le_refl _, Nat.zero_le _, ⟨rfl, by simp, fun h => by simp at h⟩, by simp, by simp⟩
 ·simp at hcs
  obtain ⟨rfl, rfl, rfl⟩ := hcs
  subst hx
  have hw1 : (elems.length + rest.length) * B ≤ 140737488351232 := hw _ (by simp [DataW.weights, hu, hB])
  have hex : ∀ i, i < len → ∃ y c, c.length = d.sz ∧ d.K W y c ∧ good y ∧ ∀ j u, c[j]? = some u → W.cell? (a.add (i * d.sz + j)) = some u := by
   intro i hi
   have h1 := hget i hi
   rw [List.getElem?_eq_getElem (show i < elems.length by omega)] at h1
   rw [Option.bind_eq_some_iff] at h1
   obtain ⟨c, h2, h3⟩ := h1
   obtain ⟨y, hy, hg⟩ := ho H enc W n c _ h3 (fun m hm => hw m (by
    have hin : elems[i].1 ∈ elems.map (·.1) := List.mem_map.2 ⟨_, List.getElem_mem _, rfl⟩
    have := weights_all (P := P) (e := e) hin hm
    simp only [DataW.weights, hu]
    exact List.mem_cons_of_mem _ (List.mem_append_left _ this)))
   obtain ⟨_, hl, hc⟩ := World.cells?_some h2
   refine ⟨y, c, d.K_len hy, hy, hg, fun j u hu => ?_⟩
   have hj : j < c.length := (List.getElem?_eq_some_iff.1 hu).1
   have h5 := hc j (by omega)
   rw [Addr.add_add] at h5
   rw [hsz, h5, hu]
  have hl : ∀ m, m ≤ len → ∃ xs : List α, xs.length = m ∧ ∀ i y, xs[i]? = some y → ∃ c, c.length = d.sz ∧ d.K W y c ∧ good y ∧ ∀ j u, c[j]? = some u → W.cell? (a.add (i * d.sz + j)) = some u := by
   intro m
   induction m with
   | zero => intro _; exact ⟨[], rfl, by simp⟩
   | succ m ih =>
    intro hm
    obtain ⟨xs, h1, h2⟩ := ih (by omega)
    obtain ⟨y, hy⟩ := hex m (by omega)
    refine ⟨xs ++ [y], by simp [h1], fun i z hz => ?_⟩
    by_cases hi : i < m
    ·rw [List.getElem?_append_left (by omega)] at hz
     exact h2 i z hz
    ·have hil : i < (xs ++ [y]).length := (List.getElem?_eq_some_iff.1 hz).1
     simp [h1] at hil
     have : i = m := by omega
     subst this
     rw [List.getElem?_append_right (by omega), h1] at hz
     simp at hz
     subst hz
     exact hy
  obtain ⟨xs, h1, h2⟩ := hl len (Nat.le_refl _)
  refine ⟨xs, h1, hlc, hcm, ⟨rfl, by unfold maxLen at hcm; omega, fun _ => ⟨a, rfl, fun j p hj => ?_⟩⟩, Nat.le_trans (Nat.mul_le_mul_right _ (by omega)) hw1, fun y hy => ?_⟩
  ·obtain ⟨c, h3, h4, _, h5⟩ := h2 j p hj
   exact ⟨c, h3, h4, h5⟩
  ·obtain ⟨i, hi, rfl⟩ := List.mem_iff_getElem.1 hy
   obtain ⟨_, _, _, h5, _⟩ := h2 i _ (List.getElem?_eq_getElem hi)
   exact h5
def OpensF {α : Type} (P : Program) (off : Nat) (fs : List Field) (d : Kd α) (good : α → Prop) : Prop :=
 ∀ (H : Type) (enc : TypeId × Value → H) (W : World) (fuel : Nat) (cs : List Value), cs.length = off + d.sz →
  (∀ f ∈ fs, ∃ x, DataW.trod enc P W 0 (fun _ => true) true fuel f.type ((cs.drop f.offset).take (P.cellsOf f.type)) = some x ∧ ∀ n ∈ DataW.weights P f.type x.1, n ≤ 140737488351232) → ∃ a, d.K W a (cs.drop off) ∧ good a
theorem opensF_last {off : Nat} {f : Field} {d : Kd α} {good : α → Prop} (ho : Opens P f.type d good) (hoff : f.offset = off) (hsz : d.sz = P.cellsOf f.type) : OpensF P off [f] d good := by
 intro H enc W fuel cs hl h
 obtain ⟨x, hx, hxw⟩ := h f (by simp)
 rw [hoff, List.take_of_length_le (by rw [List.length_drop]; omega)] at hx
 exact ho H enc W fuel _ x hx hxw
theorem opensF_cons {off : Nat} {f : Field} {fs : List Field} {d : Kd α} {b : Kd β} {good : α → Prop} {good' : β → Prop} (ho : Opens P f.type d good) (hoff : f.offset = off) (hsz : d.sz = P.cellsOf f.type) (hr : OpensF P (off + d.sz) fs b good') :
 OpensF P off (f :: fs) (Kd.pair d b) (fun x => good x.1 ∧ good' x.2) := by
 intro H enc W fuel cs hl h
 have hl' : cs.length = off + (d.sz + b.sz) := hl
 obtain ⟨x, hx, hxw⟩ := h f (by simp)
 obtain ⟨y, hy, gy⟩ := ho H enc W fuel _ x hx hxw
 obtain ⟨z, hz, gz⟩ := hr H enc W fuel cs (by omega) (fun g hg => h g (by simp [hg]))
 refine ⟨(y, z), ⟨(cs.drop off).take d.sz, (cs.drop off).drop d.sz, (List.take_append_drop _ _).symm, ?_, ?_⟩, gy, gz⟩
 ·rw [hoff, ← hsz] at hy
  exact hy
 ·rw [List.drop_drop]
  exact hz
theorem opens_struct {fs : Array Field} {d : Kd α} {good : α → Prop} (hu : P.underlying t = some (.struct fs)) (hsz : d.sz = P.cellsOf t) (hf : OpensF P 0 fs.toList d good) : Opens P t d good := by
 intro H enc W fuel cs x h hw
 obtain ⟨xs, n, rfl, hx, hl, hxl, hg⟩ := DataW.trod_struct hu h
 subst hx
 have := hf H enc W n cs (by omega) (fun f hf => by
  obtain ⟨i, hi, rfl⟩ := List.mem_iff_getElem.1 hf
  have hi' : i < fs.size := by simpa using hi
  have h1 := hg i fs[i] (Array.getElem?_eq_getElem hi')
  rw [List.getElem?_eq_getElem (show i < xs.length by omega)] at h1
  refine ⟨_, by simpa using h1, fun m hm => hw m ?_⟩
  simp only [DataW.weights, hu]
  refine DataW.weights_mem_each (j := i) (t := fs[i].type) (d := xs[i].1) ?_ ?_ m (by simpa using hm)
  ·simp [hi']
  ·simp [show i < xs.length by omega])
 simpa using this
def fldA (e off : Nat) : Field := { name := "", type := e, offset := off, embedded := false, tag := "", pkgPath := "", byteOffset := 0 }
theorem opens_array {n : Nat} {e : TypeId} {d : Kd α} {good : α → Prop} (fs : List Field) (hu : P.underlying t = some (.array n e)) (hsz : d.sz = P.cellsOf t) (hfs : fs = (List.range n).map (fun i => fldA e (i * P.cellsOf e))) (hf : OpensF P 0 fs d good) : Opens P t d good := by
 intro H enc W fuel cs x h hw
 obtain ⟨xs, m, rfl, hx, hl, hxl, hg⟩ := DataW.trod_array hu h
 subst hx
 have := hf H enc W m cs (by omega) (fun f hq => by
  rw [hfs, List.mem_map] at hq
  obtain ⟨i, hi, rfl⟩ := hq
  rw [List.mem_range] at hi
  have h1 := hg i hi
  rw [List.getElem?_eq_getElem (show i < xs.length by omega)] at h1
  refine ⟨_, h1, fun q hq => hw q ?_⟩
  simp only [DataW.weights, hu]
  exact weights_all (d := xs[i].1) (List.mem_map_of_mem (List.getElem_mem _)) hq)
 simpa using this
theorem opens_iso {d : Kd α} {good : α → Prop} (f : β → α) (g : α → β) (hfg : ∀ a, f (g a) = a) (ho : Opens P t d good) : Opens P t (Kd.iso d f) (fun b => good (f b)) := by
 intro H enc W fuel cs x h hw
 obtain ⟨a, ha, hg⟩ := ho H enc W fuel cs x h hw
 refine ⟨g a, ?_, by show good (f (g a)); rw [hfg]; exact hg⟩
 show d.K W (f (g a)) cs
 rw [hfg]
 exact ha
theorem opens_imp {d : Kd α} {good good' : α → Prop} (ho : Opens P t d good) (hi : ∀ a, good a → good' a) : Opens P t d good' := by
 intro H enc W fuel cs x h hw
 obtain ⟨a, ha, hg⟩ := ho H enc W fuel cs x h hw
 exact ⟨a, ha, hi a hg⟩
theorem weights_arg {H : Type} {ts : List TypeId} {ds : List (DataW H)} (h : (DataW.weightsEach P ts ds).all (· ≤ reachBytes) = true) {j : Nat} {t : TypeId} {d : DataW H} (ht : ts[j]? = some t) (hd : ds[j]? = some d) : ∀ n ∈ DataW.weights P t d, n ≤ 140737488351232 := by
 intro n hn
 have := List.all_eq_true.1 h _ (DataW.weights_mem_each ht hd n hn)
 exact of_decide_eq_true this
theorem okWide_aggA {n : Nat} {W : World} {r : Reach} {base : Nat} {v : Value} (hu : P.underlying t = some (.array n e)) (h : Value.okWide P W r base t v) : ∃ cs, v = .agg cs := by
 simp only [Value.okWide, hu] at h
 obtain ⟨cs, h1, _⟩ := h
 exact ⟨cs, h1⟩
end
end Go.Proofs.Ytpefjfibhjnijaa.U
