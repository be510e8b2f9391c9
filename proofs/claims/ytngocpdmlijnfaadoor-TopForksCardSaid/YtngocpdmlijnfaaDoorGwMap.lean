/- Maps of the call's own, as atoms: made, looked up, written, counted. No condition. -/
import Derived.Test.YtngocpdmlijnfaaDoorGwMut
namespace Go.Gw
set_option linter.unusedVariables false
set_option linter.unusedSimpArgs false
section
variable {κ β : Type} [DecidableEq κ]
/-- the entries of a map -/
def MapRep (es : Array MapEntry) (kenc : κ → Value) (enc : β → Value) (ps : List (κ × β)) : Prop := es.toList.map (fun e => (e.key, e.val)) = ps.map (fun p => (kenc p.1, enc p.2))
/-- the entries' stamps: apart, and all below the clock -/
def Borns (es : Array MapEntry) (clock : Nat) : Prop := (∀ e ∈ es.toList, e.born < clock) ∧ (es.toList.map (·.born)).Nodup
theorem Borns.push {es : Array MapEntry} {clock : Nat} (h : Borns es clock) (k v : Value) : Borns (es.push { key := k, val := v, born := clock }) (clock + 1) := by
  refine ⟨fun e he => ?_, ?_⟩
  · rw [Array.toList_push] at he
    rcases List.mem_append.1 he with he | he
    · have := h.1 e he; omega
    · simp at he; subst he; simp
  · rw [Array.toList_push, List.map_append, List.nodup_append]
    refine ⟨h.2, by simp, ?_⟩
    intro x hx y hy
    obtain ⟨e, he, rfl⟩ := List.mem_map.1 hx
    simp at hy; subst hy
    have := h.1 e he; omega
structure IsMap (w : World) (b : Nat) (kenc : κ → Value) (enc : β → Value) (m : κ → Option β) (n : Nat) : Prop where
  ok : ∃ es clock ps, w.heap[b]? = some (.map es clock) ∧ MapRep es kenc enc ps ∧ (ps.map (·.1)).Nodup ∧ (∀ k, m k = ps.lookup k) ∧ ps.length = n ∧ Borns es clock
/-- a map of the call's own with n keys -/
def MapA (b : Nat) (kenc : κ → Value) (enc : β → Value) (m : κ → Option β) (n : Nat) : Atom where
  own := true
  fp := (· = b)
  ok := fun w => IsMap w b kenc enc m n
  loc := fun w w' h hok => ⟨by obtain ⟨es, c, ps, h1, h2⟩ := hok.ok; exact ⟨es, c, ps, (h b rfl).trans h1, h2⟩⟩
  lt := fun w k hok hk => by subst hk; obtain ⟨es, c, ps, h1, _⟩ := hok.ok; exact (Array.getElem?_eq_some_iff.1 h1).1
instance (priority := 2000) HasKey.map (l : List Atom) (b : Nat) (κ β : Type) [DecidableEq κ] (kenc : κ → Value) (enc : β → Value) (m : κ → Option β) (n : Nat) : HasKey (MapA b kenc enc m n :: l) (.b b) (MapA b kenc enc m n) l := ⟨List.Perm.refl _⟩
end
end Go.Gw
