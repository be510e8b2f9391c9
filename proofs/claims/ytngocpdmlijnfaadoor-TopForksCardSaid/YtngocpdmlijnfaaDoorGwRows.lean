/- Slices of slices: the outer one holds the inner ones' headers; the inner ones as one atom. No condition. -/
import Derived.Test.YtngocpdmlijnfaaDoorGwRange
namespace Go.Gw
set_option linter.unusedVariables false
set_option linter.unusedSimpArgs false
def rowsL (e : TypeId) (sz : Nat) {α : Type} (enc : α → List Value) (ps : List (Value × List α)) : List Atom := ps.map fun p => OSl e p.1 sz enc p.2
/-- the inner slices, all of the call's own -/
def RowsA (e : TypeId) (sz : Nat) {α : Type} (enc : α → List Value) (ps : List (Value × List α)) : Atom := Bun (rowsL e sz enc ps)
/-- inner slices that are read alone -/
def RowsS (sz : Nat) {α : Type} (enc : α → List Value) (ps : List (Value × List α)) : Atom where
  own := false
  fp := fun k => ∃ p ∈ ps, p.1.ownBlock = some k ∧ 0 < sz ∧ p.2 ≠ []
  ok := fun w => ∀ p ∈ ps, IsSl w p.1 sz enc p.2
  loc := fun w w' h hok p hp => (Sl p.1 sz enc p.2).loc w w' (fun b hb => h b ⟨p, hp, hb⟩) (hok p hp)
  lt := fun w b hok ⟨p, hp, hb⟩ => (Sl p.1 sz enc p.2).lt w b (hok p hp) hb
theorem rowsL_at {e : TypeId} {sz : Nat} {α : Type} {enc : α → List Value} {ps : List (Value × List α)} (i : Nat) (h : i < ps.length) : OSl e ps[i].1 sz enc ps[i].2 ∈ rowsL e sz enc ps :=
  List.mem_map.2 ⟨ps[i], List.getElem_mem h, rfl⟩
instance (priority := 2000) HasSl.row (l : List Atom) (e : TypeId) (sz : Nat) (α : Type) (enc : α → List Value) (ps : List (Value × List α)) (i : Nat) (h : i < ps.length) : HasSl (RowsA e sz enc ps :: l) (ps[i]'h).1 sz α enc (ps[i]'h).2 :=
  ⟨fun w hw => IsOSl.sl (((hw (RowsA e sz enc ps) (List.mem_cons_self ..)).1 _ (rowsL_at i h)).2)⟩
instance (priority := 2000) HasSl.rowRo (l : List Atom) (e : TypeId) (sz : Nat) (α : Type) (enc : α → List Value) (ps : List (Value × List α)) (i : Nat) (h : i < ps.length) : HasSl (Atom.ro (RowsA e sz enc ps) :: l) (ps[i]'h).1 sz α enc (ps[i]'h).2 :=
  ⟨fun w hw => IsOSl.sl (((hw (Atom.ro (RowsA e sz enc ps)) (List.mem_cons_self ..)).1 _ (rowsL_at i h)).2)⟩
instance (priority := 2000) HasSl.rowS (l : List Atom) (sz : Nat) (α : Type) (enc : α → List Value) (ps : List (Value × List α)) (i : Nat) (h : i < ps.length) : HasSl (RowsS sz enc ps :: l) (ps[i]'h).1 sz α enc (ps[i]'h).2 :=
  ⟨fun w hw => hw (RowsS sz enc ps) (List.mem_cons_self ..) _ (List.getElem_mem h)⟩
instance ROs.rows (sz : Nat) (α : Type) (enc : α → List Value) (ps : List (Value × List α)) (r : List Atom) [h : ROs r] : ROs (RowsS sz enc ps :: r) := ⟨by simpa [RowsS] using h.all⟩
section
variable {w w0 : World} {M : Nat → Prop} {l : List Atom}
theorem IsSl.nil (w : World) (sz : Nat) {α : Type} (enc : α → List Value) : IsSl w (.slice none 0 0) sz enc [] := ⟨by simp, ⟨_, _, rfl⟩, by simp, fun i h => by simp at h⟩
end
end Go.Gw
