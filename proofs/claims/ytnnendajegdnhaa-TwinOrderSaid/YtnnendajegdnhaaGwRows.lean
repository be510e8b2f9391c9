/- Slices of slices: the outer one holds the inner ones' headers; the inner ones as one atom. No condition. -/
import Derived.Test.YtnnendajegdnhaaGwRange
namespace Go.Gw
set_option linter.unusedVariables false
set_option linter.unusedSimpArgs false
/-- the cell of an outer slice that holds an inner one -/
def encRow {α : Type} (p : Value × List α) : List Value := [p.1]
def rowsL (e : TypeId) (sz : Nat) {α : Type} (enc : α → List Value) (ps : List (Value × List α)) : List Atom := ps.map fun p => OSl e p.1 sz enc p.2
/-- the inner slices, all of the call's own -/
def RowsA (e : TypeId) (sz : Nat) {α : Type} (enc : α → List Value) (ps : List (Value × List α)) : Atom := Bun (rowsL e sz enc ps)
/-- inner slices that are read alone -/
def RowsS (sz : Nat) {α : Type} (enc : α → List Value) (ps : List (Value × List α)) : Atom where
  own := false
  fp := fun k => ∃ p ∈ ps, p.1.ownBlock = some k ∧ 0 < sz ∧ p.2 ≠ []
  ok := fun w => ∀ p ∈ ps, IsSl w p.1 sz enc p.2
  loc := fun w w' h hok p hp => (Sl p.1 sz enc p.2).loc w w' (fun b hb => h b ⟨p, hp, hb⟩) (hok p hp)
  lt := fun w b hok ⟨p, hp, hb⟩ => (Sl p.1 sz enc p.2).lt w b (hok p hp) hb
theorem rowsL_at {e : TypeId} {sz : Nat} {α : Type} {enc : α → List Value} {ps : List (Value × List α)} (i : Nat) (h : i < ps.length) : OSl e ps[i].1 sz enc ps[i].2 ∈ rowsL e sz enc ps :=
  List.mem_map.2 ⟨ps[i], List.getElem_mem h, rfl⟩
instance (priority := 2000) HasSl.row (l : List Atom) (e : TypeId) (sz : Nat) (α : Type) (enc : α → List Value) (ps : List (Value × List α)) (i : Nat) (h : i < ps.length) : HasSl (RowsA e sz enc ps :: l) (ps[i]'h).1 sz α enc (ps[i]'h).2 :=
  ⟨fun w hw => IsOSl.sl (((hw (RowsA e sz enc ps) (List.mem_cons_self ..)).1 _ (rowsL_at i h)).2)⟩
instance (priority := 2000) HasSl.rowRo (l : List Atom) (e : TypeId) (sz : Nat) (α : Type) (enc : α → List Value) (ps : List (Value × List α)) (i : Nat) (h : i < ps.length) : HasSl (Atom.ro (RowsA e sz enc ps) :: l) (ps[i]'h).1 sz α enc (ps[i]'h).2 :=
  ⟨fun w hw => IsOSl.sl (((hw (Atom.ro (RowsA e sz enc ps)) (List.mem_cons_self ..)).1 _ (rowsL_at i h)).2)⟩
instance (priority := 2000) HasSl.rowS (l : List Atom) (sz : Nat) (α : Type) (enc : α → List Value) (ps : List (Value × List α)) (i : Nat) (h : i < ps.length) : HasSl (RowsS sz enc ps :: l) (ps[i]'h).1 sz α enc (ps[i]'h).2 :=
  ⟨fun w hw => hw (RowsS sz enc ps) (List.mem_cons_self ..) _ (List.getElem_mem h)⟩
instance ROs.rows (sz : Nat) (α : Type) (enc : α → List Value) (ps : List (Value × List α)) (r : List Atom) [h : ROs r] : ROs (RowsS sz enc ps :: r) := ⟨by simpa [RowsS] using h.all⟩
section
variable {w w0 : World} {M : Nat → Prop} {l : List Atom}
theorem rows_perm {e : TypeId} {sz : Nat} {α : Type} {enc : α → List Value} (ps : List (Value × List α)) (i : Nat) (h : i < ps.length) (q : Value × List α) : (rowsL e sz enc (ps.set i q)).Perm (OSl e q.1 sz enc q.2 :: rowsL e sz enc (ps.eraseIdx i)) := by
  have e1 : ps.set i q = ps.take i ++ q :: ps.drop (i + 1) := by rw [List.set_eq_take_append_cons_drop, if_pos h]
  have e2 : ps.eraseIdx i = ps.take i ++ ps.drop (i + 1) := by rw [List.eraseIdx_eq_take_drop_succ]
  unfold rowsL
  rw [e1, e2, List.map_append, List.map_cons, List.map_append]
  exact List.perm_middle
theorem HSat.rws (H : HSat M w0 l w) (e : TypeId) {sz : Nat} {α : Type} {enc : α → List Value} (ps : List (Value × List α)) [h : HasAt l (RowsA e sz enc ps)] : ∀ p ∈ ps, IsSl w p.1 sz enc p.2 := fun p hp =>
  IsOSl.sl (((H.ok _ h.mem).1 (OSl e p.1 sz enc p.2) (List.mem_map.2 ⟨p, hp, rfl⟩)).2)
theorem HSat.rwsS (H : HSat M w0 l w) {sz : Nat} {α : Type} {enc : α → List Value} (ps : List (Value × List α)) [h : HasAt l (RowsS sz enc ps)] : ∀ p ∈ ps, IsSl w p.1 sz enc p.2 := H.ok _ h.mem
theorem IsSl.nil (w : World) (sz : Nat) {α : Type} (enc : α → List Value) : IsSl w (.slice none 0 0) sz enc [] := ⟨by simp, ⟨_, _, rfl⟩, by simp, fun i h => by simp at h⟩
/-- row i taken out -/
theorem HSat.rowOut {e : TypeId} {sz : Nat} {α : Type} {enc : α → List Value} {ps : List (Value × List α)} (H : HSat M w0 (RowsA e sz enc ps :: l) w) (i : Nat) (h : i < ps.length) : HSat M w0 (OSl e ps[i].1 sz enc ps[i].2 :: RowsA e sz enc (ps.eraseIdx i) :: l) w := by
  have hp := rows_perm (e := e) (sz := sz) (enc := enc) ps i h ps[i]
  rw [List.set_getElem_self] at hp
  have h1 := (H.unfold).perm (List.Perm.append_right l hp)
  have h2 : HSat M w0 (rowsL e sz enc (ps.eraseIdx i) ++ (OSl e ps[i].1 sz enc ps[i].2 :: l)) w := h1.perm (by
    show (OSl e ps[i].1 sz enc ps[i].2 :: (rowsL e sz enc (ps.eraseIdx i) ++ l)).Perm _
    exact (List.perm_middle (a := OSl e ps[i].1 sz enc ps[i].2) (l₁ := rowsL e sz enc (ps.eraseIdx i)) (l₂ := l)).symm)
  exact (h2.fold (by intro x hx; obtain ⟨p, _, rfl⟩ := List.mem_map.1 hx; rfl)).swap2
/-- a row put back -/
theorem HSat.rowIn {e : TypeId} {sz : Nat} {α : Type} {enc : α → List Value} {ps : List (Value × List α)} {i : Nat} {v : Value} {xs : List α} (H : HSat M w0 (OSl e v sz enc xs :: RowsA e sz enc (ps.eraseIdx i) :: l) w) (h : i < ps.length) : HSat M w0 (RowsA e sz enc (ps.set i (v, xs)) :: l) w := by
  have hp := rows_perm (e := e) (sz := sz) (enc := enc) ps i h (v, xs)
  have h1 : HSat M w0 (rowsL e sz enc (ps.eraseIdx i) ++ (OSl e v sz enc xs :: l)) w := H.swap2.unfold
  have h2 : HSat M w0 ((OSl e v sz enc xs :: rowsL e sz enc (ps.eraseIdx i)) ++ l) w := h1.perm (List.perm_middle (a := OSl e v sz enc xs) (l₁ := rowsL e sz enc (ps.eraseIdx i)) (l₂ := l))
  exact (h2.perm (List.Perm.append_right l hp.symm)).fold (by intro x hx; obtain ⟨p, _, rfl⟩ := List.mem_map.1 hx; rfl)
/-- rows that are all nil -/
theorem HSat.rowsNil (H : HSat M w0 l w) (e : TypeId) (sz : Nat) {α : Type} (enc : α → List Value) (n : Nat) : HSat M w0 (RowsA e sz enc (List.replicate n (Value.slice none 0 0, [])) :: l) w := by
  have : HSat M w0 (rowsL e sz enc (List.replicate n (Value.slice none 0 0, [])) ++ l) w := by
    induction n with
    | zero => exact H
    | succ n ih =>
      have := ih.nilO e sz enc
      rw [List.replicate_succ]; exact this
  exact this.fold (by intro x hx; obtain ⟨p, _, rfl⟩ := List.mem_map.1 hx; rfl)
end
end Go.Gw
