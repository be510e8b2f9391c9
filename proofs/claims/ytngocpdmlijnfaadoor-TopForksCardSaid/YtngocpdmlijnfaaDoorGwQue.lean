/- Queues: an own slice of one-cell elements that is cut in front and appended to; scopes. No condition. -/
import Derived.Test.YtngocpdmlijnfaaDoorGwCut
import Derived.Scope
namespace Go.Gw
set_option linter.unusedVariables false
set_option linter.unusedSimpArgs false
/-- v is a part of an own array, whose places behind v are the call's, too; the elements are xs, each of one cell -/
structure IsQ (w : World) (e : TypeId) (v : Value) {α : Type} (enc : α → List Value) (xs : List α) : Prop where
  len : xs.length ≤ 9223372036854775807
  sizes : ∀ x ∈ xs, (enc x).length = 1
  row : ∃ g off cap cur, v = .slice (some ⟨g, off, none⟩) xs.length cap ∧ w.heap[g]? = some (.cells cur e (0, 0)) ∧ xs.length ≤ cap ∧ cap ≤ maxLen ∧ off + cap ≤ cur.size ∧ ∀ (j : Nat) (u : Value), (xs.flatMap enc)[j]? = some u → cur[off + j]? = some u
def QSl (e : TypeId) (v : Value) {α : Type} (enc : α → List Value) (xs : List α) : Atom where
  own := true
  fp := fun k => v.ownBlock = some k
  ok := fun w => IsQ w e v enc xs
  loc := fun w w' h hok => ⟨hok.len, hok.sizes, by
    obtain ⟨g, off, cap, cur, hv, hg, r⟩ := hok.row
    exact ⟨g, off, cap, cur, hv, by rw [h g (by rw [hv]; rfl)]; exact hg, r⟩⟩
  lt := fun w b hok hb => by
    obtain ⟨g, off, cap, cur, hv, hg, r⟩ := hok.row
    rw [hv] at hb
    simp only [Value.ownBlock, Option.some.injEq] at hb
    subst hb
    exact (Array.getElem?_eq_some_iff.1 hg).1
theorem IsQ.sl {w : World} {e : TypeId} {v : Value} {α : Type} {enc : α → List Value} {xs : List α} (h : IsQ w e v enc xs) : IsSl w v 1 enc xs := by
  obtain ⟨g, off, cap, cur, hv, hg, hc, _, hs, hx⟩ := h.row
  refine ⟨h.len, ⟨_, _, hv⟩, h.sizes, fun i hi => ⟨g, off, cap, hv, fun j u hu => ?_⟩⟩
  have hj : j < 1 := by
    have h1 := (List.getElem?_eq_some_iff.1 hu).1
    have h2 := h.sizes _ (List.getElem_mem hi)
    omega
  obtain rfl : j = 0 := by omega
  have hf := flatMap_at h.sizes i hi 0 (by omega)
  rw [hu] at hf
  have := hx _ _ hf
  rw [cell_of_row w g _ cur e (0, 0) hg]
  simpa [Nat.add_assoc] using this
theorem IsQ.cap {w : World} {e : TypeId} {v : Value} {α : Type} {enc : α → List Value} {xs : List α} (h : IsQ w e v enc xs) : capOK v := by
  obtain ⟨g, off, cap, cur, rfl, _, hc, _⟩ := h.row
  exact hc
instance (priority := 2000) HasSl.que (l : List Atom) (e : TypeId) (v : Value) (α : Type) (enc : α → List Value) (xs : List α) : HasSl (QSl e v enc xs :: l) v 1 α enc xs := ⟨fun w h => IsQ.sl (h (QSl e v enc xs) (List.mem_cons_self ..))⟩
instance (priority := 2000) HasCap.que (l : List Atom) (e : TypeId) (v : Value) (α : Type) (enc : α → List Value) (xs : List α) : HasCap (QSl e v enc xs :: l) v := ⟨fun w h => IsQ.cap (h (QSl e v enc xs) (List.mem_cons_self ..))⟩
section
variable {P : Program} {o : Oper} {n : Sz} {fl : Slots} {a : Act} {w w0 : World} {v : Value} {M : Nat → Prop} {l : List Atom} {ops : Array Oper} {d : Nat} {K : Act → World → Prop}
/-- an own slice given up, to be read alone -/
theorem HSat.giveSl {e : TypeId} {sz : Nat} {α : Type} {enc : α → List Value} {xs : List α} (H : HSat M w0 (OSl e v sz enc xs :: l) w) : HSat M w0 (Sl v sz enc xs :: l) w :=
  H.conv (fun h => by cases h) (fun b hb => hb.1) (fun hok => IsOSl.sl hok)
end
end Go.Gw
