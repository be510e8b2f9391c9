/- Plain laws of layer 40 that lean on the search: trying all, neighbours, further edges, other numbers, parts. No condition. -/
import Derived.Test.YtnnendajegdnhaaPlain
namespace Go.Proofs.Ytnnendajegdnhaa
set_option linter.unusedVariables false
set_option linter.unusedSimpArgs false
theorem map_atI (got : List Int) : (List.range got.length).map (atI got) = got := by
  refine List.ext_getElem (by simp) (fun i h1 h2 => ?_)
  simp only [List.getElem_map, List.getElem_range]
  exact atI_eq h2
theorem sizeN_eq (got : List Int) : sizeN got = (got.filter (fun x => decide (x ≠ -1))).length := by
  conv => rhs; rw [← map_atI got, List.filter_map, List.length_map]
  rfl
theorem sizeN_cons (g : Int) (got : List Int) : sizeN (g :: got) = (if g = -1 then 0 else 1) + sizeN got := by
  rw [sizeN_eq, sizeN_eq, List.filter_cons]
  by_cases h : g = -1 <;> simp [h]; omega
theorem sizeN_append (a b : List Int) : sizeN (a ++ b) = sizeN a + sizeN b := by
  rw [sizeN_eq, sizeN_eq, sizeN_eq, List.filter_append, List.length_append]
theorem atI_mem {l : List Int} {i : Nat} (h : i < l.length) : atI l i ∈ l := by rw [atI_eq h]; exact List.getElem_mem _
theorem isM_cons {l : List Int} {es : Gr} {g : Int} {got : List Int} : IsM (l :: es) (g :: got) ↔ IsM es got ∧ (g = -1 ∨ (g ∈ l ∧ g ∉ got)) := by
  have a0 : atI (g :: got) 0 = g := rfl
  have aS : ∀ i, atI (g :: got) (i + 1) = atI got i := fun i => rfl
  have r0 : rowG (l :: es) 0 = l := rfl
  have rS : ∀ i, rowG (l :: es) (i + 1) = rowG es i := fun i => rfl
  refine ⟨fun h => ⟨⟨by have := h.len; simpa using this, fun i hi => by have := h.mem (i + 1) (by simp; omega); rwa [aS, rS] at this, fun i hi hn k hk => by
    have := h.inj (i + 1) (by simp; omega) (by rw [aS]; exact hn) (k + 1) (by omega); rwa [aS, aS] at this⟩, ?_⟩, fun ⟨h, hg⟩ => ⟨by simp [h.len], fun i hi => ?_, fun i hi hn k hk => ?_⟩⟩
  · have h0 := h.mem 0 (by simp)
    rw [a0, r0] at h0
    by_cases hg : g = -1
    · exact .inl hg
    · refine .inr ⟨h0.resolve_left hg, fun hm => ?_⟩
      obtain ⟨i, hi, e⟩ := List.getElem_of_mem hm
      have := h.inj (i + 1) (by simp; omega) (by rw [aS, atI_eq hi, e]; exact hg) 0 (by omega)
      rw [a0, aS, atI_eq hi, e] at this
      exact this rfl
  · cases i with
    | zero => rw [a0, r0]; exact hg.imp id (fun x => x.1)
    | succ i => rw [aS, rS]; exact h.mem i (by simpa using hi)
  · cases i with
    | zero => omega
    | succ i =>
      rw [aS] at hn ⊢
      have hi' : i < got.length := by simpa using hi
      cases k with
      | zero =>
        rw [a0]
        rcases hg with hg | ⟨_, hg⟩
        · omega
        · intro e; exact hg (by rw [e]; exact atI_mem hi')
      | succ k => rw [aS]; exact h.inj i hi' hn k (by omega)
def encB (b : Bool) : List Go.Value := [.bool b]
end Go.Proofs.Ytnnendajegdnhaa
