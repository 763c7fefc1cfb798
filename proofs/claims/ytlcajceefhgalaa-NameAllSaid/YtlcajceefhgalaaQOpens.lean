/- An argument that a law is called with, opened to any depth: from the row's reading of it to the kind that the printed functions ask for. -/
import Derived.Test.YtlcajceefhgalaaQEv
import Derived.OpenShut
import Derived.DataElems
import Derived.SizedLaws
namespace Go.Proofs.Ytlcajceefhgalaa.U
open Go.RowKit Go.Proofs.YtlcajceefhgalaaW.PrintWords
def Opens {α : Type} (P : Program) (t : TypeId) (d : Kd α) (good : α → Prop) : Prop :=
  ∀ (H : Type) (enc : TypeId × Value → H) (W : World) (fuel : Nat) (cs : List Value) (x : DataW H × List MemPlace),
    DataW.trod enc P W 0 (fun _ => true) true fuel t cs = some x → (∀ n ∈ DataW.weights P t x.1, n ≤ 140737488351232) → ∃ a, d.K W a cs ∧ good a
section
variable {P : Program} {t e : TypeId} {α β : Type}
theorem opens_string (hu : P.underlying t = some .string) : Opens P t Kd.string (fun s => s.size ≤ 140737488351232) := by
  intro H enc W fuel cs x h hw
  obtain ⟨s, rfl, hx, hs⟩ := DataW.trod_string hu h
  subst hx
  have := hw s.data.toList.length (by simp [DataW.weights])
  rw [data_length] at this
  exact ⟨s, rfl, this⟩
theorem weights_all {H : Type} {n : Nat} {d : DataW H} : ∀ {l : List (DataW H)}, d ∈ l → n ∈ DataW.weights P e d → n ∈ DataW.weightsAll P e l := by
  intro l
  induction l with
  | nil => intro h; simp at h
  | cons y l ih =>
    intro h hn
    unfold DataW.weightsAll
    rcases List.mem_cons.1 h with rfl | h
    · exact List.mem_append_left _ hn
    · exact List.mem_append_right _ (ih h hn)
theorem opens_row {W : World} {A : Option Addr} {len cap : Nat} {d : Kd α} {good : α → Prop} {H : Type} {enc : TypeId × Value → H} {fuel : Nat} {x : DataW H × List MemPlace}
    {B : Nat} (hu : P.underlying t = some (.slice e)) (ho : Opens P e d good) (hsz : d.sz = P.cellsOf e) (hB : P.bytesOf e = B) (h : DataW.trod enc P W 0 (fun _ => true) true fuel t [.slice A len cap] = some x) (hw : ∀ n ∈ DataW.weights P t x.1, n ≤ 140737488351232) :
    ∃ xs : List α, xs.length = len ∧ len ≤ cap ∧ cap ≤ maxLen ∧ d.C W A xs.length xs ∧ xs.length * B ≤ 140737488351232 ∧ ∀ y ∈ xs, good y := by
  rcases DataW.trod_slice hu h with ⟨hcs, _⟩ | ⟨a, l, c, elems, rest, n, _, hcs, hx, _, hlc, hcm, hel, hget, _, _⟩
  · simp at hcs
    obtain ⟨rfl, rfl, rfl⟩ := hcs
    exact ⟨[], rfl, Nat.le_refl _, Nat.zero_le _, ⟨rfl, by simp, fun h => by simp at h⟩, by simp, by simp⟩
  · simp at hcs
    obtain ⟨rfl, rfl, rfl⟩ := hcs
    subst hx
    have hw1 : (elems.length + rest.length) * B ≤ 140737488351232 := hw _ (by simp [DataW.weights, hu, hB])
    have hex : ∀ i, i < len → ∃ y c, c.length = d.sz ∧ d.K W y c ∧ good y ∧ ∀ j u, c[j]? = some u → W.cell? (a.add (i * d.sz + j)) = some u := by
      intro i hi
      have h1 := hget i hi
      rw [List.getElem?_eq_getElem (show i < elems.length by omega)] at h1
      rw [Option.bind_eq_some_iff] at h1
      obtain ⟨c, h2, h3⟩ := h1
      obtain ⟨y, hy, hg⟩ := ho H enc W n c _ h3 (fun m hm => hw m (by
        have hin : elems[i].1 ∈ elems.map (·.1) := List.mem_map.2 ⟨_, List.getElem_mem _, rfl⟩
        have := weights_all (P := P) (e := e) hin hm
        simp only [DataW.weights, hu]
        exact List.mem_cons_of_mem _ (List.mem_append_left _ this)))
      obtain ⟨_, hl, hc⟩ := World.cells?_some h2
      refine ⟨y, c, d.K_len hy, hy, hg, fun j u hu => ?_⟩
      have hj : j < c.length := (List.getElem?_eq_some_iff.1 hu).1
      have h5 := hc j (by omega)
      rw [Addr.add_add] at h5
      rw [hsz, h5, hu]
    have hl : ∀ m, m ≤ len → ∃ xs : List α, xs.length = m ∧ ∀ i y, xs[i]? = some y → ∃ c, c.length = d.sz ∧ d.K W y c ∧ good y ∧ ∀ j u, c[j]? = some u → W.cell? (a.add (i * d.sz + j)) = some u := by
      intro m
      induction m with
      | zero => intro _; exact ⟨[], rfl, by simp⟩
      | succ m ih =>
        intro hm
        obtain ⟨xs, h1, h2⟩ := ih (by omega)
        obtain ⟨y, hy⟩ := hex m (by omega)
        refine ⟨xs ++ [y], by simp [h1], fun i z hz => ?_⟩
        by_cases hi : i < m
        · rw [List.getElem?_append_left (by omega)] at hz
          exact h2 i z hz
        · have hil : i < (xs ++ [y]).length := (List.getElem?_eq_some_iff.1 hz).1
          simp [h1] at hil
          have : i = m := by omega
          subst this
          rw [List.getElem?_append_right (by omega), h1] at hz
          simp at hz
          subst hz
          exact hy
    obtain ⟨xs, h1, h2⟩ := hl len (Nat.le_refl _)
    refine ⟨xs, h1, hlc, hcm, ⟨rfl, by unfold maxLen at hcm; omega, fun _ => ⟨a, rfl, fun j p hj => ?_⟩⟩, Nat.le_trans (Nat.mul_le_mul_right _ (by omega)) hw1, fun y hy => ?_⟩
    · obtain ⟨c, h3, h4, _, h5⟩ := h2 j p hj
      exact ⟨c, h3, h4, h5⟩
    · obtain ⟨i, hi, rfl⟩ := List.mem_iff_getElem.1 hy
      obtain ⟨_, _, _, h5, _⟩ := h2 i _ (List.getElem?_eq_getElem hi)
      exact h5
theorem weights_arg {H : Type} {ts : List TypeId} {ds : List (DataW H)} (h : (DataW.weightsEach P ts ds).all (· ≤ reachBytes) = true) {j : Nat} {t : TypeId} {d : DataW H} (ht : ts[j]? = some t) (hd : ds[j]? = some d) : ∀ n ∈ DataW.weights P t d, n ≤ 140737488351232 := by
  intro n hn
  have := List.all_eq_true.1 h _ (DataW.weights_mem_each ht hd n hn)
  exact of_decide_eq_true this
end
end Go.Proofs.Ytlcajceefhgalaa.U
