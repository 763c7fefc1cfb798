/- An argument that a law is called with, opened to any depth: from the row's reading of it to the kind that the printed functions ask for. -/
import Derived.Test.YtpefjfibhjnijaaQEv
import Derived.OpenShut
import Derived.DataElems
import Derived.SizedLaws
namespace Go.Proofs.Ytpefjfibhjnijaa.U
open Go.RowKit Go.Proofs.YtpefjfibhjnijaaW.PrintWords
def Opens {α : Type} (P : Program) (t : TypeId) (d : Kd α) (good : α → Prop) : Prop :=
 ∀ (H : Type) (enc : TypeId × Value → H) (W : World) (fuel : Nat) (cs : List Value) (x : DataW H × List MemPlace),
  DataW.trod enc P W 0 (fun _ => true) true fuel t cs = some x → (∀ n ∈ DataW.weights P t x.1, n ≤ 140737488351232) → ∃ a, d.K W a cs ∧ good a
section
variable {P : Program} {t e : TypeId} {α β : Type}
theorem opens_int {k : IntKind} (hu : P.underlying t = some (.int k)) : Opens P t (Kd.int k) (fun n => (Lit.int k n).wf = true) := by
 intro H enc W fuel cs x h _
 obtain ⟨n, rfl, _, hw⟩ := DataW.trod_int hu h
 exact ⟨n, rfl, hw⟩
def OpensF {α : Type} (P : Program) (off : Nat) (fs : List Field) (d : Kd α) (good : α → Prop) : Prop :=
 ∀ (H : Type) (enc : TypeId × Value → H) (W : World) (fuel : Nat) (cs : List Value), cs.length = off + d.sz →
  (∀ f ∈ fs, ∃ x, DataW.trod enc P W 0 (fun _ => true) true fuel f.type ((cs.drop f.offset).take (P.cellsOf f.type)) = some x ∧ ∀ n ∈ DataW.weights P f.type x.1, n ≤ 140737488351232) → ∃ a, d.K W a (cs.drop off) ∧ good a
theorem opensF_last {off : Nat} {f : Field} {d : Kd α} {good : α → Prop} (ho : Opens P f.type d good) (hoff : f.offset = off) (hsz : d.sz = P.cellsOf f.type) : OpensF P off [f] d good := by
 intro H enc W fuel cs hl h
 obtain ⟨x, hx, hxw⟩ := h f (by simp)
 rw [hoff, List.take_of_length_le (by rw [List.length_drop]; omega)] at hx
 exact ho H enc W fuel _ x hx hxw
theorem opensF_cons {off : Nat} {f : Field} {fs : List Field} {d : Kd α} {b : Kd β} {good : α → Prop} {good' : β → Prop} (ho : Opens P f.type d good) (hoff : f.offset = off) (hsz : d.sz = P.cellsOf f.type) (hr : OpensF P (off + d.sz) fs b good') :
 OpensF P off (f :: fs) (Kd.pair d b) (fun x => good x.1 ∧ good' x.2) := by
 intro H enc W fuel cs hl h
 have hl' : cs.length = off + (d.sz + b.sz) := hl
 obtain ⟨x, hx, hxw⟩ := h f (by simp)
 obtain ⟨y, hy, gy⟩ := ho H enc W fuel _ x hx hxw
 obtain ⟨z, hz, gz⟩ := hr H enc W fuel cs (by omega) (fun g hg => h g (by simp [hg]))
 refine ⟨(y, z), ⟨(cs.drop off).take d.sz, (cs.drop off).drop d.sz, (List.take_append_drop _ _).symm, ?_, ?_⟩, gy, gz⟩
 ·rw [hoff, ← hsz] at hy
  exact hy
 ·rw [List.drop_drop]
  exact hz
theorem opens_struct {fs : Array Field} {d : Kd α} {good : α → Prop} (hu : P.underlying t = some (.struct fs)) (hsz : d.sz = P.cellsOf t) (hf : OpensF P 0 fs.toList d good) : Opens P t d good := by
 intro H enc W fuel cs x h hw
 obtain ⟨xs, n, rfl, hx, hl, hxl, hg⟩ := DataW.trod_struct hu h
 subst hx
 have := hf H enc W n cs (by omega) (fun f hf => by
  obtain ⟨i, hi, rfl⟩ := List.mem_iff_getElem.1 hf
  have hi' : i < fs.size := by simpa using hi
  have h1 := hg i fs[i] (Array.getElem?_eq_getElem hi')
  rw [List.getElem?_eq_getElem (show i < xs.length by omega)] at h1
  refine ⟨_, by simpa using h1, fun m hm => hw m ?_⟩
  simp only [DataW.weights, hu]
  refine DataW.weights_mem_each (j := i) (t := fs[i].type) (d := xs[i].1) ?_ ?_ m (by simpa using hm)
  ·simp [hi']
  ·simp [show i < xs.length by omega])
 simpa using this
theorem opens_imp {d : Kd α} {good good' : α → Prop} (ho : Opens P t d good) (hi : ∀ a, good a → good' a) : Opens P t d good' := by
 intro H enc W fuel cs x h hw
 obtain ⟨a, ha, hg⟩ := ho H enc W fuel cs x h hw
 exact ⟨a, ha, hi a hg⟩
theorem weights_arg {H : Type} {ts : List TypeId} {ds : List (DataW H)} (h : (DataW.weightsEach P ts ds).all (· ≤ reachBytes) = true) {j : Nat} {t : TypeId} {d : DataW H} (ht : ts[j]? = some t) (hd : ds[j]? = some d) : ∀ n ∈ DataW.weights P t d, n ≤ 140737488351232 := by
 intro n hn
 have := List.all_eq_true.1 h _ (DataW.weights_mem_each ht hd n hn)
 exact of_decide_eq_true this
theorem okWide_agg {fs : Array Field} {W : World} {r : Reach} {base : Nat} {v : Value} (hu : P.underlying t = some (.struct fs)) (h : Value.okWide P W r base t v) : ∃ cs, v = .agg cs := by
 simp only [Value.okWide, hu] at h
 obtain ⟨cs, h1, _⟩ := h
 exact ⟨cs, h1⟩
end
end Go.Proofs.Ytpefjfibhjnijaa.U
