/- Arguments that hold slices of slices, structs of slices: read at one world, part by part. No condition. -/
import Derived.Test.YtngocpdmlijnfaaDoorGwLaw
import Derived.Test.YtngocpdmlijnfaaDoorGwCut
namespace Go.Gw
open Go.ChangeShapes Go.WideShapes Go.ChangeAt Go.RowKit
set_option linter.unusedVariables false
set_option linter.unusedSimpArgs false
section
variable {H : Type} {enc : TypeId × Value → H} {P : Program} {W : World}
/-- whatever cells of type e read as data in world W are those of a y with 'good'; the datum is said, too -/
def ReadsAt (P : Program) (W : World) (e : TypeId) {α : Type} (cs : α → List Value) (good : α → Prop) : Prop :=
  ∀ {H : Type} {enc : TypeId × Value → H} {base : Nat} {spare : Nat → Bool} {held : Bool} {fuel : Nat} {vs : List Value} {x : DataW H × List MemPlace}, DataW.trod enc P W base spare held fuel e vs = some x → ∃ y, vs = cs y ∧ good y
theorem ReadsAs.at_ {e : TypeId} {α : Type} {cs : α → List Value} {good : α → Prop} (h : ReadsAs P e cs good) : ReadsAt P W e cs good := fun hx => h hx
theorem ReadsAt.mono {e : TypeId} {α β : Type} {cs : α → List Value} {good : α → Prop} {cs' : β → List Value} {good' : β → Prop} (h : ReadsAt P W e cs good) (f : α → β) (hc : ∀ y, good y → cs y = cs' (f y)) (hg : ∀ y, good y → good' (f y)) : ReadsAt P W e cs' good' := fun hx => by
  obtain ⟨y, h1, h2⟩ := h hx
  exact ⟨f y, h1.trans (hc y h2), hg y h2⟩
/-- a slice whose elements read -/
theorem reads_slice {t e : TypeId} {sz : Nat} {α : Type} {cs : α → List Value} {good : α → Prop} (hT : P.underlying t = some (.slice e)) (hc : P.cellsOf e = sz) (hpos : 0 < sz) (hE : ReadsAt P W e cs good) :
    ReadsAt P W t (fun y : Value × List α => [y.1]) (fun y => IsSl W y.1 sz cs y.2 ∧ capOK y.1 ∧ ∀ x ∈ y.2, good x) := fun {H enc base spare held fuel vs x} hf => by
  rcases DataW.trod_slice hT hf with ⟨rfl, _⟩ | ⟨a, len, cap, elems, rest, n, _, rfl, hx, hb, hlc, hcm, hel, hat, _, _⟩
  · exact ⟨(.slice none 0 0, []), rfl, ⟨by simp, ⟨_, _, rfl⟩, by simp, fun i hi => by simp at hi⟩, Nat.le_refl 0, by simp⟩
  · have hsp0 : 0 < len → a.spot = none := fun h0 => by
      have h1 := hat 0 h0
      rw [List.getElem?_eq_getElem (by omega)] at h1
      obtain ⟨c, hcells, hy⟩ := Option.bind_eq_some_iff.1 h1
      obtain ⟨_, hlen, hcell⟩ := World.cells?_some hcells
      rw [hc] at hlen hcell
      have g0 := hcell 0 hpos
      rw [List.getElem?_eq_getElem (by omega)] at g0
      have := World.cell?_spot g0
      simpa [Addr.add] using this
    have hstep : ∀ i, i < len → ∃ y : α, good y ∧ (cs y).length = sz ∧ ∃ b off, a = ⟨b, off, none⟩ ∧ ∀ j u, (cs y)[j]? = some u → W.cell? ⟨b, off + i * sz + j, none⟩ = some u := fun i hi => by
      have h1 := hat i hi
      rw [List.getElem?_eq_getElem (by omega)] at h1
      obtain ⟨c, hcells, hy⟩ := Option.bind_eq_some_iff.1 h1
      obtain ⟨y, rfl, hg⟩ := hE hy
      obtain ⟨_, hlen, hcell⟩ := World.cells?_some hcells
      rw [hc] at hlen hcell
      obtain ⟨b, off, spot⟩ := a
      refine ⟨y, hg, hlen, ?_⟩
      have hspot : spot = none := hsp0 (by omega)
      subst hspot
      refine ⟨b, off, rfl, fun j u hu => ?_⟩
      have hj : j < sz := by rw [← hlen]; exact (List.getElem?_eq_some_iff.1 hu).1
      have := hcell j hj
      rw [add_plain, add_plain] at this
      rw [this, hu]
    have : ∀ k, k ≤ len → ∃ xs : List α, xs.length = k ∧ (∀ x ∈ xs, good x ∧ (cs x).length = sz) ∧ ∀ i (h : i < xs.length), ∃ b off, a = ⟨b, off, none⟩ ∧ ∀ j u, (cs xs[i])[j]? = some u → W.cell? ⟨b, off + i * sz + j, none⟩ = some u := by
      intro k
      induction k with
      | zero => intro _; exact ⟨[], rfl, by simp, fun i h => by simp at h⟩
      | succ k ih =>
        intro hk
        obtain ⟨xs, hl, hg, hc'⟩ := ih (by omega)
        obtain ⟨y, g, gl, hy⟩ := hstep k (by omega)
        refine ⟨xs ++ [y], by simp [hl], fun x hx => ?_, fun i hi => ?_⟩
        · rcases List.mem_append.1 hx with h | h
          · exact hg x h
          · simp at h; subst h; exact ⟨g, gl⟩
        · by_cases hik : i < xs.length
          · rw [List.getElem_append_left hik]; exact hc' i hik
          · obtain rfl : i = k := by simp at hi; omega
            rw [List.getElem_append_right (by omega)]
            simpa [hl] using hy
    obtain ⟨xs, hl, hg, hc'⟩ := this len (Nat.le_refl _)
    have hm : maxLen = 9223372036854775807 := by decide
    refine ⟨(.slice (some a) len cap, xs), rfl, ?_⟩
    show IsSl W (.slice (some a) len cap) sz cs xs ∧ capOK (.slice (some a) len cap) ∧ ∀ x ∈ xs, good x
    refine ⟨⟨by omega, ⟨_, _, by rw [hl]⟩, fun x hx => (hg x hx).2, fun i hi => ?_⟩, hlc, fun x hx => (hg x hx).1⟩
    obtain ⟨b, off, rfl, h⟩ := hc' i hi
    exact ⟨b, off, cap, by rw [hl], h⟩
/-- the fields of a struct, one after the other -/
def ReadsL (P : Program) (W : World) (ts : List TypeId) {α : Type} (cs : α → List Value) (good : α → Prop) : Prop :=
  ∀ {H : Type} {enc : TypeId × Value → H} {base : Nat} {spare : Nat → Bool} {held : Bool} {fuel : Nat} {vs : List Value}, vs.length = (ts.map P.cellsOf).sum →
    (∀ i t, ts[i]? = some t → ∃ x, DataW.trod enc P W base spare held fuel t ((vs.drop ((ts.take i).map P.cellsOf).sum).take (P.cellsOf t)) = some x) → ∃ y, vs = cs y ∧ good y
theorem readsL_nil : ReadsL P W [] (fun _ : Unit => []) (fun _ => True) := fun hl _ => ⟨(), by simpa using hl, trivial⟩
theorem readsL_cons {t : TypeId} {ts : List TypeId} {α β : Type} {cs : α → List Value} {good : α → Prop} {cs2 : β → List Value} {good2 : β → Prop} (h : ReadsAt P W t cs good) (h2 : ReadsL P W ts cs2 good2) :
    ReadsL P W (t :: ts) (fun y : α × β => cs y.1 ++ cs2 y.2) (fun y => good y.1 ∧ good2 y.2) := fun {H enc base spare held fuel vs} hl hf => by
  obtain ⟨x, hx⟩ := hf 0 t rfl
  simp only [List.take_zero, List.map_nil, List.sum_nil, List.drop_zero] at hx
  obtain ⟨y, h1, h3⟩ := h hx
  simp only [List.map_cons, List.sum_cons] at hl
  obtain ⟨z, h4, h5⟩ := h2 (vs := vs.drop (P.cellsOf t)) (H := H) (enc := enc) (base := base) (spare := spare) (held := held) (fuel := fuel) (by rw [List.length_drop]; omega) (fun i u hu => by
    obtain ⟨x, hx⟩ := hf (i + 1) u (by simpa using hu)
    refine ⟨x, ?_⟩
    simp only [List.take_succ_cons, List.map_cons, List.sum_cons] at hx
    rw [List.drop_drop]; exact hx)
  exact ⟨(y, z), by show vs = cs y ++ cs2 z; rw [← h1, ← h4, List.take_append_drop], h3, h5⟩
/-- where a struct's fields lie -/
def fieldsB (P : Program) (fs : Array Field) (ts : List TypeId) (n : Nat) : Bool :=
  (fs.toList.map (·.type) == ts) && (decide ((ts.map P.cellsOf).sum = n) && (List.range ts.length).all (fun i => match fs[i]? with | some f => f.offset == ((ts.take i).map P.cellsOf).sum | none => false))
theorem reads_struct {e : TypeId} {fs : Array Field} {ts : List TypeId} {α : Type} {cs : α → List Value} {good : α → Prop} (hT : P.underlying e = some (.struct fs)) (hb : fieldsB P fs ts (P.cellsOf e) = true) (h : ReadsL P W ts cs good) : ReadsAt P W e cs good := fun {H enc base spare held fuel vs x} hx => by
  simp only [fieldsB, Bool.and_eq_true, beq_iff_eq, decide_eq_true_eq, List.all_eq_true, List.mem_range] at hb
  obtain ⟨h1, h2, h3⟩ := hb
  obtain ⟨xs, n, rfl, _, hl, hxl, hf⟩ := DataW.trod_struct hT hx
  refine h (H := H) (enc := enc) (base := base) (spare := spare) (held := held) (fuel := n) (by omega) (fun i t ht => ?_)
  have hi : i < ts.length := (List.getElem?_eq_some_iff.1 ht).1
  have hlen : ts.length = fs.size := by rw [← h1]; simp
  obtain ⟨f, hfi⟩ : ∃ f, fs[i]? = some f := ⟨fs[i]'(by omega), Array.getElem?_eq_getElem _⟩
  have h4 := h3 i hi
  rw [hfi] at h4
  have hft : f.type = t := by
    rw [← h1, List.getElem?_map, Array.getElem?_toList, hfi] at ht
    simpa using ht
  have h5 := hf i f hfi
  rw [hft, show f.offset = ((ts.take i).map P.cellsOf).sum by simpa using h4, List.getElem?_eq_getElem (by omega)] at h5
  exact ⟨_, h5⟩
theorem arg_at {base : Nat} {sp : Nat → Bool} {held : Bool} {t : TypeId} {α : Type} {cs : α → List Value} {good : α → Prop} {v : Value} {d : DataW H} {ps : List MemPlace} (hE : ReadsAt P W t cs good) (hd : DataW.Trod enc P W base sp held t v d ps) : ∃ y, v.cells.toList = cs y ∧ good y := by
  obtain ⟨fuel, hf⟩ := hd
  exact hE hf
/-- an argument that is a struct -/
theorem arg_st {r : Reach} {b0 : Nat} {base : Nat} {sp : Nat → Bool} {held : Bool} {t : TypeId} {fs : Array Field} {α : Type} {cs : α → List Value} {good : α → Prop} {v : Value} {d : DataW H} {ps : List MemPlace} (hT : P.underlying t = some (.struct fs)) (hE : ReadsAt P W t cs good)
    (hval : Value.okWide P W r b0 t v) (hd : DataW.Trod enc P W base sp held t v d ps) : ∃ y, v = .agg (cs y).toArray ∧ good y := by
  obtain ⟨c, rfl, _⟩ := okWide_struct hT hval
  obtain ⟨y, h1, h2⟩ := arg_at hE hd
  exact ⟨y, by rw [← h1]; simp [Value.cells], h2⟩
end
end Go.Gw
