/- Slices that are read, slices that are appended to, as atoms. No condition. -/
import Derived.Test.YtngocpdmlijnfaaDoorGwDraw
namespace Go.Gw
set_option linter.unusedVariables false
set_option linter.unusedSimpArgs false
/-- v is a slice whose elements read as xs, each in sz cells by enc -/
structure IsSl (w : World) (v : Value) (sz : Nat) {α : Type} (enc : α → List Value) (xs : List α) : Prop where
  len : xs.length ≤ 9223372036854775807
  shape : ∃ p c, v = .slice p xs.length c
  sizes : ∀ x ∈ xs, (enc x).length = sz
  cells : ∀ i (h : i < xs.length), ∃ b off c, v = .slice (some ⟨b, off, none⟩) xs.length c ∧ ∀ j u, (enc xs[i])[j]? = some u → w.cell? ⟨b, off + i * sz + j, none⟩ = some u
/-- the address of element i -/
def elemAddr (v : Value) (i sz : Nat) : Addr := match v with
  | .slice (some a) _ _ => a.add (i * sz)
  | _ => ⟨0, 0, none⟩
/-- a slice that is read alone -/
def Sl (v : Value) (sz : Nat) {α : Type} (enc : α → List Value) (xs : List α) : Atom where
  own := false
  fp := fun k => v.ownBlock = some k ∧ 0 < sz ∧ xs ≠ []
  ok := fun w => IsSl w v sz enc xs
  loc := fun w w' h hok => ⟨hok.len, hok.shape, hok.sizes, fun i hi => by
    obtain ⟨b, off, c, hv, hc⟩ := hok.cells i hi
    refine ⟨b, off, c, hv, fun j u hu => ?_⟩
    have h1 := (List.getElem?_eq_some_iff.1 hu).1
    have h2 := hok.sizes _ (List.getElem_mem hi)
    have hb := h b ⟨by rw [hv]; rfl, by omega, by rintro rfl; simp at hi⟩
    exact (World.cell?_of_block (w := w) hb).trans (hc j u hu)⟩
  lt := fun w b hok hfp => by
    obtain ⟨h1, h2, h3⟩ := hfp
    have hi : 0 < xs.length := List.length_pos_iff.2 h3
    obtain ⟨b', off, c, hv, hc⟩ := hok.cells 0 hi
    have hs := hok.sizes _ (List.getElem_mem hi)
    rw [hv] at h1
    simp only [Value.ownBlock, Option.some.injEq] at h1
    subst h1
    exact World.block_lt_of_cell? w _ (hc 0 _ (List.getElem?_eq_getElem (by omega)))
instance ROs.sl (v : Value) (sz : Nat) (α : Type) (enc : α → List Value) (xs : List α) (r : List Atom) [h : ROs r] : ROs (Sl v sz enc xs :: r) := ⟨by simpa [Sl] using h.all⟩
class HasSl (l : List Atom) (v : Value) (sz : outParam Nat) (α : outParam Type) (enc : outParam (α → List Value)) (xs : outParam (List α)) : Prop where
  at_ : ∀ w, (∀ x ∈ l, x.ok w) → IsSl w v sz enc xs
instance (priority := 2000) HasSl.here (l : List Atom) (v : Value) (sz : Nat) (α : Type) (enc : α → List Value) (xs : List α) : HasSl (Sl v sz enc xs :: l) v sz α enc xs := ⟨fun w h => h (Sl v sz enc xs) (List.mem_cons_self ..)⟩
instance (priority := 2000) HasSl.hereRo (l : List Atom) (v : Value) (sz : Nat) (α : Type) (enc : α → List Value) (xs : List α) : HasSl (Atom.ro (Sl v sz enc xs) :: l) v sz α enc xs := ⟨fun w h => h (Atom.ro (Sl v sz enc xs)) (List.mem_cons_self ..)⟩
instance HasSl.there (l : List Atom) (x : Atom) (v : Value) (sz : Nat) (α : Type) (enc : α → List Value) (xs : List α) [h : HasSl l v sz α enc xs] : HasSl (x :: l) v sz α enc xs := ⟨fun w hw => h.at_ w (fun y hy => hw y (List.mem_cons_of_mem _ hy))⟩
section
variable {P : Program} {o : Oper} {n : Sz} {fl : Slots} {a : Act} {w w0 : World} {v : Value} {M : Nat → Prop} {l : List Atom}
theorem HSat.sl (H : HSat M w0 l w) (v : Value) {sz : Nat} {α : Type} {enc : α → List Value} {xs : List α} [h : HasSl l v sz α enc xs] : IsSl w v sz enc xs := h.at_ w H.ok
theorem y_lens {x : Operand} {T E : TypeId} (ho : o.op = .call { callee := .builtin .len, args := #[x], argTypes := #[T] }) (hT : P.underlying T = some (.slice E)) (S : St n fl a) (H : HSat M w0 l w) (hx : ev fl x = some v) {sz : Nat} {α : Type} {enc : α → List Value} {xs : List α} [h : HasSl l v sz α enc xs] : Yld P o a w (.int .i64 (xs.length : Int)) := by
  obtain ⟨p, c, hv⟩ := (H.sl v (h := h)).shape
  rw [hv] at hx
  exact y_len ho hT S hx
theorem y_iaddrs {T E : TypeId} {x ix : Operand} {i : Int} {k : IntKind} {sz : Nat} {α : Type} {enc : α → List Value} {xs : List α} (ho : o.op = .indexAddr T x ix) (hT : P.underlying T = some (.slice E)) (hE : sizeB P E sz = true) (S : St n fl a) (H : HSat M w0 l w)
    (hx : ev fl x = some v) (hi : ev fl ix = some (.int k i)) [h : HasSl l v sz α enc xs] (hb : 0 ≤ i ∧ i < xs.length) : Yld P o a w (.pointer (some (elemAddr v i.toNat sz))) := by
  obtain ⟨b, off, c, hv, _⟩ := (H.sl v (h := h)).cells i.toNat (by omega)
  have hx' := hx
  rw [hv] at hx'
  have := y_iaddr (P := P) (w := w) ho hT hE S hx' hi hb
  rw [hv]
  simpa [elemAddr, add_plain] using this
/-- a load of a whole element: one cell -/
theorem y_loads {T : TypeId} {x : Operand} {i sz : Nat} {α : Type} {enc : α → List Value} {xs : List α} {u : Value} (v : Value) (ho : o.op = .load T x) (hT : scalarB P T = true) (S : St n fl a) (H : HSat M w0 l w)
    (hx : ev fl x = some (.pointer (some (elemAddr v i sz)))) [h : HasSl l v sz α enc xs] (hi : i < xs.length) (hu : (enc xs[i])[0]? = some u) : Yld P o a w u := by
  obtain ⟨b, off, c, hv, hc⟩ := (H.sl v (h := h)).cells i hi
  refine y_load_at ho S hx (run_loadVar_scalar hT ?_)
  have := hc 0 u hu
  rw [hv]; simpa [elemAddr, add_plain] using this
theorem y_loadsD {T : TypeId} {x : Operand} {i sz : Nat} {α : Type} {enc : α → List Value} {xs : List α} {u : Value} (v : Value) (d : α) (ho : o.op = .load T x) (hT : scalarB P T = true) (S : St n fl a) (H : HSat M w0 l w)
    (hx : ev fl x = some (.pointer (some (elemAddr v i sz)))) [h : HasSl l v sz α enc xs] (hi : i < xs.length) (hu : (enc (xs.getD i d))[0]? = some u) : Yld P o a w u := by
  have e : xs.getD i d = xs[i] := by rw [List.getD_eq_getElem?_getD, List.getElem?_eq_getElem hi]; rfl
  exact y_loads v ho hT S H hx hi (by rw [← e]; exact hu)
/-- of a field of an element -/
theorem y_loadsf {T : TypeId} {x : Operand} {i sz k : Nat} {α : Type} {enc : α → List Value} {xs : List α} {u : Value} (v : Value) (ho : o.op = .load T x) (hT : scalarB P T = true) (S : St n fl a) (H : HSat M w0 l w)
    (hx : ev fl x = some (.pointer (some ((elemAddr v i sz).add k)))) [h : HasSl l v sz α enc xs] (hi : i < xs.length) (hu : (enc xs[i])[k]? = some u) : Yld P o a w u := by
  obtain ⟨b, off, c, hv, hc⟩ := (H.sl v (h := h)).cells i hi
  refine y_load_at ho S hx (run_loadVar_scalar hT ?_)
  have := hc k u hu
  rw [hv]; simpa [elemAddr, add_plain] using this
/-- of a whole element: a struct -/
theorem y_loadsa {T : TypeId} {x : Operand} {i sz : Nat} {α : Type} {enc : α → List Value} {xs : List α} (v : Value) (ho : o.op = .load T x) (S : St n fl a) (H : HSat M w0 l w)
    (hx : ev fl x = some (.pointer (some (elemAddr v i sz)))) [h : HasSl l v sz α enc xs] (hT : aggB P T sz = true) (hi : i < xs.length) : Yld P o a w (.agg (enc xs[i]).toArray) := by
  obtain ⟨b, off, c, hv, hc⟩ := (H.sl v (h := h)).cells i hi
  have hs := (H.sl v (h := h)).sizes _ (List.getElem_mem hi)
  refine y_load_at ho S hx (run_loadVar_agg (by rw [hs]; exact hT) (fun j u hu => ?_))
  have := hc j u hu
  rw [hv]; simpa [elemAddr, add_plain] using this
end
end Go.Gw
