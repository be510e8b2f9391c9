/- Arguments that hold slices of slices, structs of slices: read at one world, part by part. No condition. -/
import Derived.Test.YtenaoaegichecaaGwLaw
import Derived.Test.YtenaoaegichecaaGwCut
namespace Go.Gw
open Go.ChangeShapes Go.WideShapes Go.ChangeAt Go.RowKit
set_option linter.unusedVariables false
set_option linter.unusedSimpArgs false
section
variable {H : Type} {enc : TypeId × Value → H} {P : Program} {W : World}
/-- whatever cells of type e read as data in world W are those of a y with 'good'; the datum is said, too -/
def ReadsAt (P : Program) (W : World) (e : TypeId) {α : Type} (cs : α → List Value) (good : α → Prop) : Prop :=
  ∀ {H : Type} {enc : TypeId × Value → H} {base : Nat} {spare : Nat → Bool} {held : Bool} {fuel : Nat} {vs : List Value} {x : DataW H × List MemPlace}, DataW.trod enc P W base spare held fuel e vs = some x → ∃ y, vs = cs y ∧ good y
theorem ReadsAs.at_ {e : TypeId} {α : Type} {cs : α → List Value} {good : α → Prop} (h : ReadsAs P e cs good) : ReadsAt P W e cs good := fun hx => h hx
theorem ReadsAt.mono {e : TypeId} {α β : Type} {cs : α → List Value} {good : α → Prop} {cs' : β → List Value} {good' : β → Prop} (h : ReadsAt P W e cs good) (f : α → β) (hc : ∀ y, good y → cs y = cs' (f y)) (hg : ∀ y, good y → good' (f y)) : ReadsAt P W e cs' good' := fun hx => by
  obtain ⟨y, h1, h2⟩ := h hx
  exact ⟨f y, h1.trans (hc y h2), hg y h2⟩
/-- a slice whose elements read -/
theorem reads_slice {t e : TypeId} {sz : Nat} {α : Type} {cs : α → List Value} {good : α → Prop} (hT : P.underlying t = some (.slice e)) (hc : P.cellsOf e = sz) (hpos : 0 < sz) (hE : ReadsAt P W e cs good) :
    ReadsAt P W t (fun y : Value × List α => [y.1]) (fun y => IsSl W y.1 sz cs y.2 ∧ capOK y.1 ∧ ∀ x ∈ y.2, good x) := fun {H enc base spare held fuel vs x} hf => by
  rcases DataW.trod_slice hT hf with ⟨rfl, _⟩ | ⟨a, len, cap, elems, rest, n, _, rfl, hx, hb, hlc, hcm, hel, hat, _, _⟩
  · exact ⟨(.slice none 0 0, []), rfl, ⟨by simp, ⟨_, _, rfl⟩, by simp, fun i hi => by simp at hi⟩, Nat.le_refl 0, by simp⟩
  · have hsp0 : 0 < len → a.spot = none := fun h0 => by
      have h1 := hat 0 h0
      rw [List.getElem?_eq_getElem (by omega)] at h1
      obtain ⟨c, hcells, hy⟩ := Option.bind_eq_some_iff.1 h1
      obtain ⟨_, hlen, hcell⟩ := World.cells?_some hcells
      rw [hc] at hlen hcell
      have g0 := hcell 0 hpos
      rw [List.getElem?_eq_getElem (by omega)] at g0
      have := World.cell?_spot g0
      simpa [Addr.add] using this
    have hstep : ∀ i, i < len → ∃ y : α, good y ∧ (cs y).length = sz ∧ ∃ b off, a = ⟨b, off, none⟩ ∧ ∀ j u, (cs y)[j]? = some u → W.cell? ⟨b, off + i * sz + j, none⟩ = some u := fun i hi => by
      have h1 := hat i hi
      rw [List.getElem?_eq_getElem (by omega)] at h1
      obtain ⟨c, hcells, hy⟩ := Option.bind_eq_some_iff.1 h1
      obtain ⟨y, rfl, hg⟩ := hE hy
      obtain ⟨_, hlen, hcell⟩ := World.cells?_some hcells
      rw [hc] at hlen hcell
      obtain ⟨b, off, spot⟩ := a
      refine ⟨y, hg, hlen, ?_⟩
      have hspot : spot = none := hsp0 (by omega)
      subst hspot
      refine ⟨b, off, rfl, fun j u hu => ?_⟩
      have hj : j < sz := by rw [← hlen]; exact (List.getElem?_eq_some_iff.1 hu).1
      have := hcell j hj
      rw [add_plain, add_plain] at this
      rw [this, hu]
    have : ∀ k, k ≤ len → ∃ xs : List α, xs.length = k ∧ (∀ x ∈ xs, good x ∧ (cs x).length = sz) ∧ ∀ i (h : i < xs.length), ∃ b off, a = ⟨b, off, none⟩ ∧ ∀ j u, (cs xs[i])[j]? = some u → W.cell? ⟨b, off + i * sz + j, none⟩ = some u := by
      intro k
      induction k with
      | zero => intro _; exact ⟨[], rfl, by simp, fun i h => by simp at h⟩
      | succ k ih =>
        intro hk
        obtain ⟨xs, hl, hg, hc'⟩ := ih (by omega)
        obtain ⟨y, g, gl, hy⟩ := hstep k (by omega)
        refine ⟨xs ++ [y], by simp [hl], fun x hx => ?_, fun i hi => ?_⟩
        · rcases List.mem_append.1 hx with h | h
          · exact hg x h
          · simp at h; subst h; exact ⟨g, gl⟩
        · by_cases hik : i < xs.length
          · rw [List.getElem_append_left hik]; exact hc' i hik
          · obtain rfl : i = k := by simp at hi; omega
            rw [List.getElem_append_right (by omega)]
            simpa [hl] using hy
    obtain ⟨xs, hl, hg, hc'⟩ := this len (Nat.le_refl _)
    have hm : maxLen = 9223372036854775807 := by decide
    refine ⟨(.slice (some a) len cap, xs), rfl, ?_⟩
    show IsSl W (.slice (some a) len cap) sz cs xs ∧ capOK (.slice (some a) len cap) ∧ ∀ x ∈ xs, good x
    refine ⟨⟨by omega, ⟨_, _, by rw [hl]⟩, fun x hx => (hg x hx).2, fun i hi => ?_⟩, hlc, fun x hx => (hg x hx).1⟩
    obtain ⟨b, off, rfl, h⟩ := hc' i hi
    exact ⟨b, off, cap, by rw [hl], h⟩
/-- the fields of a struct, one after the other -/
def ReadsL (P : Program) (W : World) (ts : List TypeId) {α : Type} (cs : α → List Value) (good : α → Prop) : Prop :=
  ∀ {H : Type} {enc : TypeId × Value → H} {base : Nat} {spare : Nat → Bool} {held : Bool} {fuel : Nat} {vs : List Value}, vs.length = (ts.map P.cellsOf).sum →
    (∀ i t, ts[i]? = some t → ∃ x, DataW.trod enc P W base spare held fuel t ((vs.drop ((ts.take i).map P.cellsOf).sum).take (P.cellsOf t)) = some x) → ∃ y, vs = cs y ∧ good y
theorem readsL_nil : ReadsL P W [] (fun _ : Unit => []) (fun _ => True) := fun hl _ => ⟨(), by simpa using hl, trivial⟩
theorem readsL_cons {t : TypeId} {ts : List TypeId} {α β : Type} {cs : α → List Value} {good : α → Prop} {cs2 : β → List Value} {good2 : β → Prop} (h : ReadsAt P W t cs good) (h2 : ReadsL P W ts cs2 good2) :
    ReadsL P W (t :: ts) (fun y : α × β => cs y.1 ++ cs2 y.2) (fun y => good y.1 ∧ good2 y.2) := fun {H enc base spare held fuel vs} hl hf => by
  obtain ⟨x, hx⟩ := hf 0 t rfl
  simp only [List.take_zero, List.map_nil, List.sum_nil, List.drop_zero] at hx
  obtain ⟨y, h1, h3⟩ := h hx
  simp only [List.map_cons, List.sum_cons] at hl
  obtain ⟨z, h4, h5⟩ := h2 (vs := vs.drop (P.cellsOf t)) (H := H) (enc := enc) (base := base) (spare := spare) (held := held) (fuel := fuel) (by rw [List.length_drop]; omega) (fun i u hu => by
    obtain ⟨x, hx⟩ := hf (i + 1) u (by simpa using hu)
    refine ⟨x, ?_⟩
    simp only [List.take_succ_cons, List.map_cons, List.sum_cons] at hx
    rw [List.drop_drop]; exact hx)
  exact ⟨(y, z), by show vs = cs y ++ cs2 z; rw [← h1, ← h4, List.take_append_drop], h3, h5⟩
/-- where a struct's fields lie -/
def fieldsB (P : Program) (fs : Array Field) (ts : List TypeId) (n : Nat) : Bool :=
  (fs.toList.map (·.type) == ts) && (decide ((ts.map P.cellsOf).sum = n) && (List.range ts.length).all (fun i => match fs[i]? with | some f => f.offset == ((ts.take i).map P.cellsOf).sum | none => false))
theorem reads_struct {e : TypeId} {fs : Array Field} {ts : List TypeId} {α : Type} {cs : α → List Value} {good : α → Prop} (hT : P.underlying e = some (.struct fs)) (hb : fieldsB P fs ts (P.cellsOf e) = true) (h : ReadsL P W ts cs good) : ReadsAt P W e cs good := fun {H enc base spare held fuel vs x} hx => by
  simp only [fieldsB, Bool.and_eq_true, beq_iff_eq, decide_eq_true_eq, List.all_eq_true, List.mem_range] at hb
  obtain ⟨h1, h2, h3⟩ := hb
  obtain ⟨xs, n, rfl, _, hl, hxl, hf⟩ := DataW.trod_struct hT hx
  refine h (H := H) (enc := enc) (base := base) (spare := spare) (held := held) (fuel := n) (by omega) (fun i t ht => ?_)
  have hi : i < ts.length := (List.getElem?_eq_some_iff.1 ht).1
  have hlen : ts.length = fs.size := by rw [← h1]; simp
  obtain ⟨f, hfi⟩ : ∃ f, fs[i]? = some f := ⟨fs[i]'(by omega), Array.getElem?_eq_getElem _⟩
  have h4 := h3 i hi
  rw [hfi] at h4
  have hft : f.type = t := by
    rw [← h1, List.getElem?_map, Array.getElem?_toList, hfi] at ht
    simpa using ht
  have h5 := hf i f hfi
  rw [hft, show f.offset = ((ts.take i).map P.cellsOf).sum by simpa using h4, List.getElem?_eq_getElem (by omega)] at h5
  exact ⟨_, h5⟩
theorem arg_at {base : Nat} {sp : Nat → Bool} {held : Bool} {t : TypeId} {α : Type} {cs : α → List Value} {good : α → Prop} {v : Value} {d : DataW H} {ps : List MemPlace} (hE : ReadsAt P W t cs good) (hd : DataW.Trod enc P W base sp held t v d ps) : ∃ y, v.cells.toList = cs y ∧ good y := by
  obtain ⟨fuel, hf⟩ := hd
  exact hE hf
/-- an argument that is a slice -/
theorem arg_sl {r : Reach} {b0 : Nat} {base : Nat} {sp : Nat → Bool} {held : Bool} {t e : TypeId} {sz : Nat} {α : Type} {cs : α → List Value} {good : α → Prop} {v : Value} {d : DataW H} {ps : List MemPlace} (hT : P.underlying t = some (.slice e)) (hc : P.cellsOf e = sz) (hpos : 0 < sz) (hE : ReadsAt P W e cs good)
    (hval : Value.okWide P W r b0 t v) (hd : DataW.Trod enc P W base sp held t v d ps) : ∃ xs : List α, IsSl W v sz cs xs ∧ capOK v ∧ ∀ x ∈ xs, good x := by
  obtain ⟨p, len, cap, rfl⟩ := okWide_slice hT hval
  obtain ⟨y, h1, h2⟩ := arg_at (reads_slice hT hc hpos hE) hd
  simp [Value.cells] at h1
  exact ⟨y.2, by rw [h1]; exact h2⟩
/-- an argument that is a struct -/
theorem arg_st {r : Reach} {b0 : Nat} {base : Nat} {sp : Nat → Bool} {held : Bool} {t : TypeId} {fs : Array Field} {α : Type} {cs : α → List Value} {good : α → Prop} {v : Value} {d : DataW H} {ps : List MemPlace} (hT : P.underlying t = some (.struct fs)) (hE : ReadsAt P W t cs good)
    (hval : Value.okWide P W r b0 t v) (hd : DataW.Trod enc P W base sp held t v d ps) : ∃ y, v = .agg (cs y).toArray ∧ good y := by
  obtain ⟨c, rfl, _⟩ := okWide_struct hT hval
  obtain ⟨y, h1, h2⟩ := arg_at hE hd
  exact ⟨y, by rw [← h1]; simp [Value.cells], h2⟩
/-- the builder of a row, with what the arguments weigh handed on -/
theorem returnsInHanded_sized {a : Assume} {C : Checked} {os : Os} {f : FuncId} {fn : Func} {s : ChangeSpec} {conds : List PathCond} {apart fresh handsOn again : Bool}
    (own : ownKnob C.prog.godebug = none) (started : os.Started) (noInit : C.prog.inits.idxOf? f = none) (hfn : C.prog.funcs[f]? = some fn)
    (witness : ∃ (w : World) (tape : Tape) (i : Input), w.os = os ∧ (w.forCall tape i).Shaped C.prog ∧ i.vars = [] ∧ Input.okWide C.prog (w.forCall tape i) .any w.heap.size f i ∧
      s.pre6 enc C.prog fn conds apart (w.forCall tape i).memory i.args ∧ a.holds C.prog (lone (Frame.enter C.prog f i.args .normal) [] (w.forCall tape i)))
    (contract : ∀ (W : World) (base : Nat) (args : Array Value) (ds gs : List (DataW H)) (before : List MemPlace),
      (∀ (j : Nat) t v, fn.params[j]? = some t → args[j]? = some v → Value.okWide C.prog W .any base t v) →
      DataW.Whole enc C.prog fn.params.toList s.vars apart W args.toList ds gs before →
      (DataW.weightsEach C.prog (fn.params.toList ++ s.plain.varTypes C.prog) (ds ++ gs)).all (· ≤ reachBytes) = true →
      Calls C.prog f args W fun e W' => ∃ v, e = .returned v ∧ s.post enc C.prog fn apart fresh handsOn again W args v W') :
    ReturnsInHanded a C os f .any (s.pre6 enc C.prog fn conds apart) (s.post enc C.prog fn apart fresh handsOn again) := by
  refine returnsInHanded_of_calls own started noInit witness ?_
  intro w tape i _ _ _ hok hpre _
  obtain ⟨_, _, _, fn', hfn', _, _, _, _, hval⟩ := hok
  have e : fn' = fn := Option.some.inj (hfn'.symm.trans hfn)
  subst e
  obtain ⟨⟨ds, gs, before, hw, _⟩, hz⟩ := hpre
  have hw' := DataW.Whole.of_heap (w' := w.forCall tape i) (by rfl) hw
  refine (contract (w.forCall tape i) w.heap.size i.args ds gs before hval hw' (hz.weights hw)).mono fun e W' ⟨v, he, hp⟩ => ?_
  subst he
  exact ChangeSpec.post_blind hp
/-- how long a slice may be that is within reach -/
theorem trod_len {base : Nat} {sp : Nat → Bool} {held : Bool} {fuel : Nat} {t e : TypeId} {sz by_ : Nat} {α : Type} {cs : α → List Value} {xs : List α} {v : Value} {x : DataW H × List MemPlace} (hT : P.underlying t = some (.slice e)) (hb : P.bytesOf e = by_)
    (hs : IsSl W v sz cs xs) (hf : DataW.trod enc P W base sp held fuel t [v] = some x) (hz : ∀ n ∈ x.1.weights P t, n ≤ reachBytes) : xs.length * by_ ≤ reachBytes := by
  rcases DataW.trod_slice hT hf with ⟨h, _⟩ | ⟨a, len, cap, elems, rest, n, _, h, rfl, _, _, _, hel, _⟩
  · obtain ⟨p, c, rfl⟩ := hs.shape
    simp only [List.cons.injEq, Value.slice.injEq, and_true] at h
    rw [h.2.1]; omega
  · obtain ⟨p, c, rfl⟩ := hs.shape
    simp only [List.cons.injEq, Value.slice.injEq, and_true] at h
    have := hz ((elems.length + rest.length) * by_) (by
      simp only [DataW.weights, hT, hb, List.length_map]
      exact List.mem_cons_self ..)
    rw [h.2.1, ← hel]
    exact Nat.le_trans (Nat.mul_le_mul_right _ (Nat.le_add_right _ _)) this
theorem arg_len {base : Nat} {sp : Nat → Bool} {held : Bool} {t e : TypeId} {sz by_ : Nat} {α : Type} {cs : α → List Value} {xs : List α} {v : Value} {d : DataW H} {ps : List MemPlace} (hT : P.underlying t = some (.slice e)) (hb : P.bytesOf e = by_)
    (hs : IsSl W v sz cs xs) (hd : DataW.Trod enc P W base sp held t v d ps) (hz : ∀ n ∈ d.weights P t, n ≤ reachBytes) : xs.length * by_ ≤ reachBytes := by
  obtain ⟨fuel, hf⟩ := hd
  have e : v.cells.toList = [v] := by obtain ⟨p, c, rfl⟩ := hs.shape; rfl
  rw [e] at hf
  exact trod_len hT hb hs hf hz
theorem weightsEach_mem {t : TypeId} {d : DataW H} : ∀ {ts : List TypeId} {ds : List (DataW H)} (i : Nat), ts[i]? = some t → ds[i]? = some d → ∀ n ∈ d.weights P t, n ∈ DataW.weightsEach P ts ds
  | [], _, i, h, _, _, _ => by simp at h
  | _ :: _, [], i, _, h, _, _ => by simp at h
  | t0 :: ts, d0 :: ds, 0, h1, h2, n, hn => by
    simp at h1 h2; subst h1; subst h2
    simp only [DataW.weightsEach, List.mem_append]; exact .inl hn
  | t0 :: ts, d0 :: ds, i + 1, h1, h2, n, hn => by
    simp only [DataW.weightsEach, List.mem_append]
    exact .inr (weightsEach_mem i (by simpa using h1) (by simpa using h2) n hn)
/-- the slice at a field of one cell of a struct -/
theorem field_len {base : Nat} {sp : Nat → Bool} {held : Bool} {T t e : TypeId} {fs : Array Field} {i : Nat} {f : Field} {sz by_ : Nat} {α : Type} {cs : α → List Value} {xs : List α} {vs : List Value} {v : Value} {d : DataW H} {ps : List MemPlace} (hS : P.underlying T = some (.struct fs)) (hi : fs[i]? = some f) (hft : f.type = t) (hT : P.underlying t = some (.slice e)) (hc : P.cellsOf t = 1) (hb : P.bytesOf e = by_)
    (hv : vs[f.offset]? = some v) (hs : IsSl W v sz cs xs) (hd : DataW.Trod enc P W base sp held T (.agg vs.toArray) d ps) (hz : ∀ n ∈ d.weights P T, n ≤ reachBytes) : xs.length * by_ ≤ reachBytes := by
  obtain ⟨fuel, hf⟩ := hd
  obtain ⟨ys, n, _, hx, hl, hyl, hy⟩ := DataW.trod_struct hS hf
  have h1 := hy i f hi
  have hlt : i < ys.length := by rw [hyl]; exact (Array.getElem?_eq_some_iff.1 hi).1
  rw [hft, hc, List.getElem?_eq_getElem hlt] at h1
  have e1 : ((Value.agg vs.toArray).cells.toList.drop f.offset).take 1 = [v] := by
    have hlt2 := (List.getElem?_eq_some_iff.1 hv).1
    have hge := (List.getElem?_eq_some_iff.1 hv).2
    show (vs.toArray.toList.drop f.offset).take 1 = [v]
    rw [List.drop_eq_getElem_cons (by simpa using hlt2)]
    simp [hge]
  rw [e1] at h1
  simp only [Prod.mk.injEq] at hx
  refine trod_len hT hb hs h1 (fun m hm => hz m ?_)
  rw [hx.1]
  simp only [DataW.weights, hS]
  exact weightsEach_mem i (by rw [List.getElem?_map, Array.getElem?_toList, hi]; simp [hft]) (by rw [List.getElem?_map, List.getElem?_eq_getElem hlt]; rfl) m hm
end
end Go.Gw
