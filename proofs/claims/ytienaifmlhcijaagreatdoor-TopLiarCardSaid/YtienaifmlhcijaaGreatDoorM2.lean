/- Parts of the proof, joined: the program logic, the plain theory, the walks, as they are named inside. No condition. -/
import Derived.Test.YtienaifmlhcijaaGreatDoorM1
import Derived.Scope
import Derived.Laws.CopyRow
import Derived.Laws.Bits64b
import Derived.ArgAppend
import Derived.Laws.Strings
import Derived.Laws.StructEq
import Derived.Laws.Concat
import Derived.Lib.Overlaps
import Derived.Lib.AppendZerosOnto
import Derived.Laws.NewBlocks
import Derived.ChangeKeysEq
import Derived.Laws.Bits64
import Derived.Lib.LaidTab
import Derived.Laws.IdiomStrings
import Derived.Lib.Builder
import Derived.Lib.AppendStr
import Derived.Laws.MakeOwn
import Derived.Shelf.Strings.Builder1
import Derived.Shelf.Strings.Builder2
import Derived.Shelf.Strings.OnBuilder
import Derived.Shelf.Strings.Trim
import Derived.Shelf.Small.Utf8
import Derived.Shelf.Small.Bits
import Derived.Shelf.Small.Strs
import Derived.Shelf.Small.Wraps
import Derived.Shelf.Strings.BuilderF
import Derived.Shelf.Strings.BuilderK
import Derived.Shelf.Strings.Builder2Cap
import Derived.Shelf.Strconv.Itoa0
import Derived.Shelf.Strconv.Itoa1
import Derived.Shelf.LaysM
import Derived.Shelf.Strconv.Itoa2
import Derived.Shelf.Strconv.Itoa3
import Derived.Shelf.Strconv.ParseIntEmpty
import Derived.Shelf.Strconv.Clone
import Derived.Shelf.Strconv.Lower
import Derived.Shelf.Strconv.ParseUint10Empty
import Derived.Shelf.Strconv.ParseUintEmpty
import Derived.Shelf.Strings.Search1
import Derived.Shelf.Sort.Plain
import Derived.Shelf.Strings.Prefix
import Derived.Shelf.Unicode.Decode
import Derived.Shelf.Strings.Runes
import Derived.Shelf.Strings.AsciiSet
import Derived.Shelf.Bits.Mul64
import Derived.Shelf.Strings.Repeat
import Derived.Shelf.Unicode.DecodeSlow
import Derived.Shelf.Unicode.DecodeAny
import Derived.Shelf.Unicode.DecodeLast
import Derived.Shelf.Strings.BuilderCap
import Derived.Ground.Names2Prog
import Derived.Shelf.Slices.SearchI
import Derived.Shelf.Slices.In.SortNone
import Derived.Ground.SlgnProg
import Derived.Shelf.SlicesE.Clone
import Derived.Test.YtienaifmlhcijaaGreatDoorProg
import Derived.Test.YtienaifmlhcijaaGreatDoorChecked
import Derived.Lib.ItoaNum
import Derived.Lib.SlTrimSet
import Derived.Lib.ItoaLen
import Derived.Lib.Bytealg
import Derived.Shelf.SlSortCmp.NoneTotal
section
namespace Go.Gw
open Go.ChangeShapes Go.WideShapes Go.ChangeAt Go.RowKit
set_option linter.unusedVariables false
set_option linter.unusedSimpArgs false
section
variable {H : Type} {enc : TypeId × Value → H} {P : Program} {W : World}
/-- whatever cells of type e read as data in world W are those of a y with 'good'; the datum is said, too -/
def ReadsAt (P : Program) (W : World) (e : TypeId) {α : Type} (cs : α → List Value) (good : α → Prop) : Prop :=
  ∀ {H : Type} {enc : TypeId × Value → H} {base : Nat} {spare : Nat → Bool} {held : Bool} {fuel : Nat} {vs : List Value} {x : DataW H × List MemPlace}, DataW.trod enc P W base spare held fuel e vs = some x → ∃ y, vs = cs y ∧ good y
theorem ReadsAs.at_ {e : TypeId} {α : Type} {cs : α → List Value} {good : α → Prop} (h : ReadsAs P e cs good) : ReadsAt P W e cs good := fun hx => h hx
theorem ReadsAt.mono {e : TypeId} {α β : Type} {cs : α → List Value} {good : α → Prop} {cs' : β → List Value} {good' : β → Prop} (h : ReadsAt P W e cs good) (f : α → β) (hc : ∀ y, good y → cs y = cs' (f y)) (hg : ∀ y, good y → good' (f y)) : ReadsAt P W e cs' good' := fun hx => by
  obtain ⟨y, h1, h2⟩ := h hx
  exact ⟨f y, h1.trans (hc y h2), hg y h2⟩
/-- a slice whose elements read -/
theorem reads_slice {t e : TypeId} {sz : Nat} {α : Type} {cs : α → List Value} {good : α → Prop} (hT : P.underlying t = some (.slice e)) (hc : P.cellsOf e = sz) (hpos : 0 < sz) (hE : ReadsAt P W e cs good) :
    ReadsAt P W t (fun y : Value × List α => [y.1]) (fun y => IsSl W y.1 sz cs y.2 ∧ capOK y.1 ∧ ∀ x ∈ y.2, good x) := fun {H enc base spare held fuel vs x} hf => by
  rcases DataW.trod_slice hT hf with ⟨rfl, _⟩ | ⟨a, len, cap, elems, rest, n, _, rfl, hx, hb, hlc, hcm, hel, hat, _, _⟩
  · exact ⟨(.slice none 0 0, []), rfl, ⟨by simp, ⟨_, _, rfl⟩, by simp, fun i hi => by simp at hi⟩, Nat.le_refl 0, by simp⟩
  · have hsp0 : 0 < len → a.spot = none := fun h0 => by
      have h1 := hat 0 h0
      rw [List.getElem?_eq_getElem (by omega)] at h1
      obtain ⟨c, hcells, hy⟩ := Option.bind_eq_some_iff.1 h1
      obtain ⟨_, hlen, hcell⟩ := World.cells?_some hcells
      rw [hc] at hlen hcell
      have g0 := hcell 0 hpos
      rw [List.getElem?_eq_getElem (by omega)] at g0
      have := World.cell?_spot g0
      simpa [Addr.add] using this
    have hstep : ∀ i, i < len → ∃ y : α, good y ∧ (cs y).length = sz ∧ ∃ b off, a = ⟨b, off, none⟩ ∧ ∀ j u, (cs y)[j]? = some u → W.cell? ⟨b, off + i * sz + j, none⟩ = some u := fun i hi => by
      have h1 := hat i hi
      rw [List.getElem?_eq_getElem (by omega)] at h1
      obtain ⟨c, hcells, hy⟩ := Option.bind_eq_some_iff.1 h1
      obtain ⟨y, rfl, hg⟩ := hE hy
      obtain ⟨_, hlen, hcell⟩ := World.cells?_some hcells
      rw [hc] at hlen hcell
      obtain ⟨b, off, spot⟩ := a
      refine ⟨y, hg, hlen, ?_⟩
      have hspot : spot = none := hsp0 (by omega)
      subst hspot
      refine ⟨b, off, rfl, fun j u hu => ?_⟩
      have hj : j < sz := by rw [← hlen]; exact (List.getElem?_eq_some_iff.1 hu).1
      have := hcell j hj
      rw [add_plain, add_plain] at this
      rw [this, hu]
    have : ∀ k, k ≤ len → ∃ xs : List α, xs.length = k ∧ (∀ x ∈ xs, good x ∧ (cs x).length = sz) ∧ ∀ i (h : i < xs.length), ∃ b off, a = ⟨b, off, none⟩ ∧ ∀ j u, (cs xs[i])[j]? = some u → W.cell? ⟨b, off + i * sz + j, none⟩ = some u := by
      intro k
      induction k with
      | zero => intro _; exact ⟨[], rfl, by simp, fun i h => by simp at h⟩
      | succ k ih =>
        intro hk
        obtain ⟨xs, hl, hg, hc'⟩ := ih (by omega)
        obtain ⟨y, g, gl, hy⟩ := hstep k (by omega)
        refine ⟨xs ++ [y], by simp [hl], fun x hx => ?_, fun i hi => ?_⟩
        · rcases List.mem_append.1 hx with h | h
          · exact hg x h
          · simp at h; subst h; exact ⟨g, gl⟩
        · by_cases hik : i < xs.length
          · rw [List.getElem_append_left hik]; exact hc' i hik
          · obtain rfl : i = k := by simp at hi; omega
            rw [List.getElem_append_right (by omega)]
            simpa [hl] using hy
    obtain ⟨xs, hl, hg, hc'⟩ := this len (Nat.le_refl _)
    have hm : maxLen = 9223372036854775807 := by decide
    refine ⟨(.slice (some a) len cap, xs), rfl, ?_⟩
    show IsSl W (.slice (some a) len cap) sz cs xs ∧ capOK (.slice (some a) len cap) ∧ ∀ x ∈ xs, good x
    refine ⟨⟨by omega, ⟨_, _, by rw [hl]⟩, fun x hx => (hg x hx).2, fun i hi => ?_⟩, hlc, fun x hx => (hg x hx).1⟩
    obtain ⟨b, off, rfl, h⟩ := hc' i hi
    exact ⟨b, off, cap, by rw [hl], h⟩
/-- the fields of a struct, one after the other -/
def ReadsL (P : Program) (W : World) (ts : List TypeId) {α : Type} (cs : α → List Value) (good : α → Prop) : Prop :=
  ∀ {H : Type} {enc : TypeId × Value → H} {base : Nat} {spare : Nat → Bool} {held : Bool} {fuel : Nat} {vs : List Value}, vs.length = (ts.map P.cellsOf).sum →
    (∀ i t, ts[i]? = some t → ∃ x, DataW.trod enc P W base spare held fuel t ((vs.drop ((ts.take i).map P.cellsOf).sum).take (P.cellsOf t)) = some x) → ∃ y, vs = cs y ∧ good y
theorem readsL_nil : ReadsL P W [] (fun _ : Unit => []) (fun _ => True) := fun hl _ => ⟨(), by simpa using hl, trivial⟩
theorem readsL_cons {t : TypeId} {ts : List TypeId} {α β : Type} {cs : α → List Value} {good : α → Prop} {cs2 : β → List Value} {good2 : β → Prop} (h : ReadsAt P W t cs good) (h2 : ReadsL P W ts cs2 good2) :
    ReadsL P W (t :: ts) (fun y : α × β => cs y.1 ++ cs2 y.2) (fun y => good y.1 ∧ good2 y.2) := fun {H enc base spare held fuel vs} hl hf => by
  obtain ⟨x, hx⟩ := hf 0 t rfl
  simp only [List.take_zero, List.map_nil, List.sum_nil, List.drop_zero] at hx
  obtain ⟨y, h1, h3⟩ := h hx
  simp only [List.map_cons, List.sum_cons] at hl
  obtain ⟨z, h4, h5⟩ := h2 (vs := vs.drop (P.cellsOf t)) (H := H) (enc := enc) (base := base) (spare := spare) (held := held) (fuel := fuel) (by rw [List.length_drop]; omega) (fun i u hu => by
    obtain ⟨x, hx⟩ := hf (i + 1) u (by simpa using hu)
    refine ⟨x, ?_⟩
    simp only [List.take_succ_cons, List.map_cons, List.sum_cons] at hx
    rw [List.drop_drop]; exact hx)
  exact ⟨(y, z), by show vs = cs y ++ cs2 z; rw [← h1, ← h4, List.take_append_drop], h3, h5⟩
/-- where a struct's fields lie -/
def fieldsB (P : Program) (fs : Array Field) (ts : List TypeId) (n : Nat) : Bool :=
  (fs.toList.map (·.type) == ts) && (decide ((ts.map P.cellsOf).sum = n) && (List.range ts.length).all (fun i => match fs[i]? with | some f => f.offset == ((ts.take i).map P.cellsOf).sum | none => false))
theorem reads_struct {e : TypeId} {fs : Array Field} {ts : List TypeId} {α : Type} {cs : α → List Value} {good : α → Prop} (hT : P.underlying e = some (.struct fs)) (hb : fieldsB P fs ts (P.cellsOf e) = true) (h : ReadsL P W ts cs good) : ReadsAt P W e cs good := fun {H enc base spare held fuel vs x} hx => by
  simp only [fieldsB, Bool.and_eq_true, beq_iff_eq, decide_eq_true_eq, List.all_eq_true, List.mem_range] at hb
  obtain ⟨h1, h2, h3⟩ := hb
  obtain ⟨xs, n, rfl, _, hl, hxl, hf⟩ := DataW.trod_struct hT hx
  refine h (H := H) (enc := enc) (base := base) (spare := spare) (held := held) (fuel := n) (by omega) (fun i t ht => ?_)
  have hi : i < ts.length := (List.getElem?_eq_some_iff.1 ht).1
  have hlen : ts.length = fs.size := by rw [← h1]; simp
  obtain ⟨f, hfi⟩ : ∃ f, fs[i]? = some f := ⟨fs[i]'(by omega), Array.getElem?_eq_getElem _⟩
  have h4 := h3 i hi
  rw [hfi] at h4
  have hft : f.type = t := by
    rw [← h1, List.getElem?_map, Array.getElem?_toList, hfi] at ht
    simpa using ht
  have h5 := hf i f hfi
  rw [hft, show f.offset = ((ts.take i).map P.cellsOf).sum by simpa using h4, List.getElem?_eq_getElem (by omega)] at h5
  exact ⟨_, h5⟩
theorem arg_at {base : Nat} {sp : Nat → Bool} {held : Bool} {t : TypeId} {α : Type} {cs : α → List Value} {good : α → Prop} {v : Value} {d : DataW H} {ps : List MemPlace} (hE : ReadsAt P W t cs good) (hd : DataW.Trod enc P W base sp held t v d ps) : ∃ y, v.cells.toList = cs y ∧ good y := by
  obtain ⟨fuel, hf⟩ := hd
  exact hE hf
/-- an argument that is a slice -/
theorem arg_sl {r : Reach} {b0 : Nat} {base : Nat} {sp : Nat → Bool} {held : Bool} {t e : TypeId} {sz : Nat} {α : Type} {cs : α → List Value} {good : α → Prop} {v : Value} {d : DataW H} {ps : List MemPlace} (hT : P.underlying t = some (.slice e)) (hc : P.cellsOf e = sz) (hpos : 0 < sz) (hE : ReadsAt P W e cs good)
    (hval : Value.okWide P W r b0 t v) (hd : DataW.Trod enc P W base sp held t v d ps) : ∃ xs : List α, IsSl W v sz cs xs ∧ capOK v ∧ ∀ x ∈ xs, good x := by
  obtain ⟨p, len, cap, rfl⟩ := okWide_slice hT hval
  obtain ⟨y, h1, h2⟩ := arg_at (reads_slice hT hc hpos hE) hd
  simp [Value.cells] at h1
  exact ⟨y.2, by rw [h1]; exact h2⟩
end
end Go.Gw
end
section
namespace Go.Gw
set_option linter.unusedVariables false
set_option linter.unusedSimpArgs false
/-- v is a part of an own array, whose places behind v are the call's, too; the elements are xs, each of one cell -/
structure IsQ (w : World) (e : TypeId) (v : Value) {α : Type} (enc : α → List Value) (xs : List α) : Prop where
  len : xs.length ≤ 9223372036854775807
  sizes : ∀ x ∈ xs, (enc x).length = 1
  row : ∃ g off cap cur, v = .slice (some ⟨g, off, none⟩) xs.length cap ∧ w.heap[g]? = some (.cells cur e (0, 0)) ∧ xs.length ≤ cap ∧ cap ≤ maxLen ∧ off + cap ≤ cur.size ∧ ∀ (j : Nat) (u : Value), (xs.flatMap enc)[j]? = some u → cur[off + j]? = some u
def QSl (e : TypeId) (v : Value) {α : Type} (enc : α → List Value) (xs : List α) : Atom where
  own := true
  fp := fun k => v.ownBlock = some k
  ok := fun w => IsQ w e v enc xs
  loc := fun w w' h hok => ⟨hok.len, hok.sizes, by
    obtain ⟨g, off, cap, cur, hv, hg, r⟩ := hok.row
    exact ⟨g, off, cap, cur, hv, by rw [h g (by rw [hv]; rfl)]; exact hg, r⟩⟩
  lt := fun w b hok hb => by
    obtain ⟨g, off, cap, cur, hv, hg, r⟩ := hok.row
    rw [hv] at hb
    simp only [Value.ownBlock, Option.some.injEq] at hb
    subst hb
    exact (Array.getElem?_eq_some_iff.1 hg).1
theorem IsQ.sl {w : World} {e : TypeId} {v : Value} {α : Type} {enc : α → List Value} {xs : List α} (h : IsQ w e v enc xs) : IsSl w v 1 enc xs := by
  obtain ⟨g, off, cap, cur, hv, hg, hc, _, hs, hx⟩ := h.row
  refine ⟨h.len, ⟨_, _, hv⟩, h.sizes, fun i hi => ⟨g, off, cap, hv, fun j u hu => ?_⟩⟩
  have hj : j < 1 := by
    have h1 := (List.getElem?_eq_some_iff.1 hu).1
    have h2 := h.sizes _ (List.getElem_mem hi)
    omega
  obtain rfl : j = 0 := by omega
  have hf := flatMap_at h.sizes i hi 0 (by omega)
  rw [hu] at hf
  have := hx _ _ hf
  rw [cell_of_row w g _ cur e (0, 0) hg]
  simpa [Nat.add_assoc] using this
theorem IsQ.cap {w : World} {e : TypeId} {v : Value} {α : Type} {enc : α → List Value} {xs : List α} (h : IsQ w e v enc xs) : capOK v := by
  obtain ⟨g, off, cap, cur, rfl, _, hc, _⟩ := h.row
  exact hc
instance (priority := 2000) HasSl.que (l : List Atom) (e : TypeId) (v : Value) (α : Type) (enc : α → List Value) (xs : List α) : HasSl (QSl e v enc xs :: l) v 1 α enc xs := ⟨fun w h => IsQ.sl (h (QSl e v enc xs) (List.mem_cons_self ..))⟩
instance (priority := 2000) HasCap.que (l : List Atom) (e : TypeId) (v : Value) (α : Type) (enc : α → List Value) (xs : List α) : HasCap (QSl e v enc xs :: l) v := ⟨fun w h => IsQ.cap (h (QSl e v enc xs) (List.mem_cons_self ..))⟩
end Go.Gw
end
section
namespace Go.Gw
set_option linter.unusedVariables false
set_option linter.unusedSimpArgs false
section
variable {P : Program} {o : Oper} {n : Sz} {fl : Slots} {a : Act} {w w0 : World} {v : Value} {M : Nat → Prop} {l : List Atom} {ops : Array Oper} {d : Nat} {K : Act → World → Prop}
theorem IsSl.one {sz : Nat} {α : Type} {enc : α → List Value} {xs : List α} (h : IsSl w v sz enc xs) : v.oneCell' = true := by
  obtain ⟨p, c, rfl⟩ := h.shape; rfl
/-- two words and-ed -/
theorem y_andu {T U : TypeId} {x y : Operand} {m q r : Nat} (ho : o.op = .binOp .and T x y U) (S : St n fl a) (hx : ev fl x = some (.int .u64 (m : Int))) (hy : ev fl y = some (.int .u64 (q : Int))) (hm : m < 18446744073709551616) (hq : q < 18446744073709551616) (hr : m &&& q = r) : Yld P o a w (.int .u64 (r : Int)) := by
  unfold Yld execOp; rw [ho]; simp only [S.ev hx, S.ev hy]
  have h := bits_and_u64_nat m q hm hq
  rw [hr] at h
  simp only [bits] at h
  simp only [eqGuard, binOp, Op.intBits, h]
  simp [h]
theorem y_shr {T U : TypeId} {x y : Operand} {k k2 : IntKind} {m q r : Int} (ho : o.op = .binOp .shr T x y U) (S : St n fl a) (hx : ev fl x = some (.int k m)) (hy : ev fl y = some (.int k2 q)) (hq : 0 ≤ q) (hr : m.fdiv (2 ^ (min q.toNat k.bits)) = r) : Yld P o a w (.int k r) := by
  unfold Yld execOp; rw [ho]; simp only [S.ev hx, S.ev hy]
  simp [eqGuard, binOp, Op.shift, show ¬ q < 0 by omega, hr]
theorem HSat.call4 {w' : World} {x y z u : Atom} (H : HSat M w0 l w) (H' : HSat No w [x, y, z, u] w') (hx : x.own = true) (hy : y.own = true) (hz : z.own = true) (hu : u.own = true) : HSat M w0 (x :: y :: z :: u :: l) w' :=
  H.call H' (by intro q hq; simp only [List.mem_cons, List.not_mem_nil, or_false] at hq; rcases hq with rfl | rfl | rfl | rfl <;> assumption)
/-- one kind of integers turned into another -/
theorem y_convg {T D : TypeId} {x : Operand} {k k' k2 : IntKind} {m r : Int} (ho : o.op = .convert T D x) (hT : P.underlying T = some (.int k)) (hD : P.underlying D = some (.int k2)) (S : St n fl a) (hx : ev fl x = some (.int k' m)) (hr : k2.wrap m = r) : Yld P o a w (.int k2 r) := by
  unfold Yld execOp; rw [ho]; simp [S.ev hx, convert, run_underlying hT, run_underlying hD, Conv.intToInt, hr]
end
/-- how a condition reads -/
theorem DL : (∀ (α : Type) (x : α), (some x).isNone = false) ∧ (∀ (α : Type), (none : Option α).isNone = true) ∧ (∀ (α : Type) (x : α), (some x).isSome = true) ∧ (∀ (α : Type), (none : Option α).isSome = false) ∧
    (∀ p : Prop, (False ∨ p) = p) ∧ (∀ p : Prop, (p ∨ False) = p) ∧ (∀ p : Prop, (True ∧ p) = p) ∧ (∀ p : Prop, (p ∧ True) = p) ∧ (∀ (p : Prop) [Decidable p], (decide p = true) = p) ∧ (∀ (p : Prop) [Decidable p], decide p = false ↔ ¬p) ∧
    (∀ x y : Bool, ((x || y) = true) = (x = true ∨ y = true)) ∧ (∀ x y : Bool, ((x && y) = true) = (x = true ∧ y = true)) ∧ (∀ x y : Bool, ((x || y) = false) = (x = false ∧ y = false)) ∧ (∀ x y : Bool, ((x && y) = false) = (x = false ∨ y = false)) ∧
    (∀ x : Bool, ((!x) = true) = (x = false)) ∧ (∀ x : Bool, ((!x) = false) = (x = true)) ∧ (∀ (α : Type) [BEq α] [LawfulBEq α] (x y : α), (x != y) = true ↔ x ≠ y) ∧ (∀ (α : Type) [BEq α] [LawfulBEq α] (x y : α), (x == y) = true ↔ x = y) ∧
    (∀ (α : Type) [BEq α] [LawfulBEq α] (x y : α), (x == y) = false ↔ x ≠ y) ∧ (∀ (α : Type) [BEq α] [LawfulBEq α] (x y : α), (x != y) = false ↔ x = y) ∧ (∀ (α : Type) (x y : α), (x ≠ y) = ¬(x = y)) ∧ (∀ (p : Prop) [Decidable p], ¬¬p ↔ p) ∧
    (∀ x y : Int, ¬x < y ↔ y ≤ x) ∧ (∀ x y : Int, ¬x ≤ y ↔ y < x) ∧ (∀ x y : Int, x > y ↔ y < x) ∧ (∀ x y : Int, x ≥ y ↔ y ≤ x) ∧ (∀ x y : Nat, x > y ↔ y < x) ∧ (∀ x y : Nat, x ≥ y ↔ y ≤ x) ∧ ((true = false) = False) ∧ ((false = true) = False) ∧ ((¬True) = False) ∧ ((¬False) = True) :=
  ⟨fun _ _ => rfl, fun _ => rfl, fun _ _ => rfl, fun _ => rfl, false_or, or_false, true_and, and_true, @decide_eq_true_eq, @decide_eq_false_iff_not, Bool.or_eq_true, Bool.and_eq_true, fun x y => by cases x <;> cases y <;> simp, fun x y => by cases x <;> cases y <;> simp, fun x => by cases x <;> simp, fun x => by cases x <;> simp,
    fun _ _ _ _ _ => bne_iff_ne, fun _ _ _ _ _ => beq_iff_eq, fun _ _ _ _ _ => beq_eq_false_iff_ne, fun _ _ _ _ _ => bne_eq_false_iff_eq, fun _ _ _ => rfl, @Decidable.not_not, fun _ _ => Int.not_lt, fun _ _ => Int.not_le, fun _ _ => Iff.rfl, fun _ _ => Iff.rfl, fun _ _ => Iff.rfl, fun _ _ => Iff.rfl, by simp, by simp, by simp, by simp⟩
/-- how lengths read -/
theorem LL : (∀ (α : Type) (a b : List α), (a ++ b).length = a.length + b.length) ∧ (∀ (α : Type) (i : Nat) (a : List α), (a.take i).length = min i a.length) ∧ (∀ (α : Type) (i : Nat) (a : List α), (a.drop i).length = a.length - i) ∧ (∀ (α : Type) (i : Nat) (x : α), (List.replicate i x).length = i) ∧
    (∀ (α : Type) (i : Nat) (x : α) (a : List α), (a.set i x).length = a.length) ∧ (∀ (α β : Type) (f : α → β) (a : List α), (a.map f).length = a.length) ∧ (∀ (α : Type) (x : α) (a : List α), (x :: a).length = a.length + 1) ∧ (∀ α : Type, ([] : List α).length = 0) :=
  ⟨fun _ _ _ => List.length_append, fun _ _ _ => List.length_take, fun _ _ _ => List.length_drop, fun _ _ _ => List.length_replicate, fun _ _ _ _ => List.length_set, fun _ _ _ _ => List.length_map _, fun _ _ _ => rfl, fun _ => rfl⟩
section
variable {P : Program} {o : Oper} {n : Sz} {fl : Slots} {a : Act} {w w0 : World} {v : Value} {M : Nat → Prop} {l : List Atom} {ops : Array Oper} {d : Nat} {K : Act → World → Prop} {Q : Exit → Act → World → Prop} {rest : List Oper} {tails rem : List Nat} {ro : List Atom} {f i : Nat}
/-- a quiet step that stands under no guard -/
theorem gy (hg : o.guard = none) (hd : o.dst = some d) (hn : Nat.blt d n.n = true) (S : St n fl a) (hy : Yld P o a w v) (k : ∀ a', St n ((d, v) :: fl) a' → gl P ops Q rest a' w) : gl P ops Q (o :: rest) a w := wl_of (op_y (wn hg) hd hn S hy k)
/-- a move, a variable set -/
theorem gm {x : Operand} (S : St n fl a) (k : ∀ a', St n ((d, v) :: fl) a' → gl P ops Q rest a' w) (hg : o.guard = none := by rfl) (hd : o.dst = some d := by rfl) (hn : Nat.blt d n.n = true := by rfl) (ho : o.op = .move x := by rfl) (hx : ev fl x = some v := by rfl) : gl P ops Q (o :: rest) a w := gy hg hd hn S (y_move ho S hx) k
theorem ga {x : Operand} (S : St n fl a) (k : ∀ a', St n ((d, v) :: fl) a' → gl P ops Q rest a' w) (hg : o.guard = none := by rfl) (hd : o.dst = some d := by rfl) (hn : Nat.blt d n.n = true := by rfl) (ho : o.op = .assign x := by rfl) (hx : ev fl x = some v := by rfl) : gl P ops Q (o :: rest) a w := gy hg hd hn S (y_assign ho S hx) k
theorem gsr {r : Option Nat} {id : Nat} {L : List Oper} {y : Code} (h : gl P L.toArray (Exit.then (gp r P y Q) Q) L a w) : gp r P (.seq (.region id L.toArray false) y) Q a w := g_seq (g_region h)
theorem gnt {K : Act → World → Prop} (h : K a w) : gl P ops (Exit.then K Q) [] a w := gl_nil (n_then h)
/-- a quiet step that stands under a guard -/
theorem gz (g : Nat) {j : Nat} {b B : Bool} (h : B = b) (S : St n fl a) (hg : o.guard = some (j, b)) (hj : (ops[j]?).bind (·.dst) = some g) (hb : fl.lookup g = some (.bool B)) (hl : Nat.blt g n.n = true) (hd : o.dst = some d) (hn : Nat.blt d n.n = true) (hy : Yld P o a w v) (k : ∀ a', St n ((d, v) :: fl) a' → gl P ops Q rest a' w) : gl P ops Q (o :: rest) a w :=
  wl_of (op_y (wg' g hg hj S hb h hl) hd hn S hy k)
theorem t_b1 (i : Nat) (hrs : rem.filter (readyB .any ops rem) = [i]) (hi : ops[i]? = some o)
    (h : ∀ w, HSat M w0 l w → opw P ops o a w (fun a' w' => ∃ C', Stable C' ∧ C' w' ∧ ((∀ w, C' w → HSat M w0 l w) ∨ tails.contains i = true) ∧ (∀ w, C' w → RO ro w) ∧ MixT P .any ops tails (RO ro) K f (rem.erase i) a' C')) : MixT P .any ops tails (RO ro) K (f + 1) rem a (HSat M w0 l) :=
  t_b [i] hrs rfl (fun j hj => by obtain rfl := List.mem_singleton.1 hj; exact ⟨o, hi, h⟩)
theorem fa2 {p : Nat → Prop} {x y : Nat} (h1 : p x) (h2 : p y) : ∀ i ∈ [x, y], p i := fun i hi => by simp only [List.mem_cons, List.not_mem_nil, or_false] at hi; rcases hi with rfl | rfl <;> assumption
/-- atoms put in front -/
class SubL (l l' : List Atom) : Prop where
  sub : l.Sublist l'
instance (priority := 2000) SubL.refl (l : List Atom) : SubL l l := ⟨List.Sublist.refl _⟩
instance SubL.cons (l : List Atom) (x : Atom) (l' : List Atom) [h : SubL l l'] : SubL l (x :: l') := ⟨h.sub.cons x⟩
theorem t_n [ROs ro] {a' : Act} {w' : World} {l' : List Atom} {rem' : List Nat} [HasRO l' ro] (H : HSat M w0 l' w') [hs : SubL l l'] (hr : rem.erase i = rem') (h : MixT P .any ops tails (RO ro) K f rem' a' (HSat M w0 l')) :
    ∃ C', Stable C' ∧ C' w' ∧ ((∀ w, C' w → HSat M w0 l w) ∨ tails.contains i = true) ∧ (∀ w, C' w → RO ro w) ∧ MixT P .any ops tails (RO ro) K f (rem.erase i) a' C' := t_next H hs.sub hr h
end
end Go.Gw
end
section
namespace Go.Gw
set_option linter.unusedVariables false
set_option linter.unusedSimpArgs false
section
variable {P : Program} {o : Oper} {n : Sz} {fl : Slots} {a : Act} {w : World} {v : Value}
theorem y_lenstr {x : Operand} {T : TypeId} {s : ByteArray} (ho : o.op = .call { callee := .builtin .len, args := #[x], argTypes := #[T] }) (hT : P.underlying T = some .string) (S : St n fl a) (hx : ev fl x = some (.string s)) : Yld P o a w (.int .i64 (s.size : Int)) := by
  unfold Yld execOp; rw [ho]; simp [resolve, invoke, builtin, S.ev hx, run_len_string w T o.type s hT, goInt]
theorem y_idxstr {x ix : Operand} {T : TypeId} {s : ByteArray} {k : IntKind} {i : Nat} (ho : o.op = .index T x ix) (hT : P.underlying T = some .string) (S : St n fl a) (hx : ev fl x = some (.string s)) (hi : ev fl ix = some (.int k (i : Int))) (hl : i < s.size) : Yld P o a w (.int .u8 (s[i].toNat : Int)) := by
  unfold Yld execOp; rw [ho]; simp [S.ev hx, S.ev hi, run_index_string w T s k (i : Int) hT, hl]
theorem bytes_beq (s t : ByteArray) : (s.toList == t.toList) = decide (s = t) := by
  rw [Bool.eq_iff_iff, decide_eq_true_eq, beq_iff_eq, ByteArray.toList_eq, ByteArray.toList_eq]
  exact ⟨fun h => by
    obtain ⟨⟨x⟩⟩ := s
    obtain ⟨⟨y⟩⟩ := t
    simp only at h
    rw [h], fun h => by rw [h]⟩
theorem y_eqs {T U : TypeId} {x y : Operand} {s t : ByteArray} (ho : o.op = .binOp .eql T x y U) (hT : P.underlying T = some .string) (S : St n fl a) (hx : ev fl x = some (.string s)) (hy : ev fl y = some (.string t)) : Yld P o a w (.bool (decide (s = t))) := by
  unfold Yld execOp; rw [ho]; simp only [S.ev hx, S.ev hy, eqGuard, binOp]
  simp only [Op.stringOp]
  simp
  exact bytes_beq s t
theorem y_adds {T U : TypeId} {x y : Operand} {s t : ByteArray} (ho : o.op = .binOp .add T x y U) (S : St n fl a) (hx : ev fl x = some (.string s)) (hy : ev fl y = some (.string t)) (h : s.size + t.size ≤ 9223372036854775807) : Yld P o a w (.string (s ++ t)) := by
  unfold Yld execOp; rw [ho]; simp only [S.ev hx, S.ev hy, eqGuard, binOp]
  simp [run_string_add_sum w s t h]
end
end Go.Gw
end
section
namespace Go.Gw
set_option linter.unusedVariables false
set_option linter.unusedSimpArgs false
theorem flat_take {α : Type} {enc : α → List Value} {sz : Nat} {xs : List α} (hs : ∀ x ∈ xs, (enc x).length = sz) (i : Nat) (hi : i ≤ xs.length) : (xs.flatMap enc).take (i * sz) = (xs.take i).flatMap enc := by
  have e : xs.flatMap enc = (xs.take i).flatMap enc ++ (xs.drop i).flatMap enc := by rw [← List.flatMap_append, List.take_append_drop]
  have h2 := flatMap_len (enc := enc) (sz := sz) (xs := xs.take i) (fun x hx => hs x (List.mem_of_mem_take hx))
  rw [List.length_take, Nat.min_eq_left hi] at h2
  rw [e, List.take_append_of_le_length (by omega), List.take_of_length_le (by omega)]
theorem flat_drop {α : Type} {enc : α → List Value} {sz : Nat} {xs : List α} (hs : ∀ x ∈ xs, (enc x).length = sz) (i : Nat) (hi : i ≤ xs.length) : (xs.flatMap enc).drop (i * sz) = (xs.drop i).flatMap enc := by
  have e : xs.flatMap enc = (xs.take i).flatMap enc ++ (xs.drop i).flatMap enc := by rw [← List.flatMap_append, List.take_append_drop]
  have h2 := flatMap_len (enc := enc) (sz := sz) (xs := xs.take i) (fun x hx => hs x (List.mem_of_mem_take hx))
  rw [List.length_take, Nat.min_eq_left hi] at h2
  rw [e, List.drop_append_of_le_length (by omega), List.drop_of_length_le (by omega), List.nil_append]
section
variable {P : Program} {o : Oper} {n : Sz} {fl : Slots} {a : Act} {w w0 : World} {v : Value} {M : Nat → Prop} {l : List Atom} {ops : Array Oper} {d : Nat} {K : Act → World → Prop}
theorem HSat.takeT {rest : List Atom} (H : HSat M w0 l w) (tgt : List Atom) (t : List Atom) [h : HasPick l tgt rest] [hs : SubL t rest] : HSat M w0 (tgt ++ t) w := (H.perm h.perm).sub (hs.sub.append_left tgt)
end
end Go.Gw
end
section
namespace Go.Gw
set_option linter.unusedVariables false
set_option linter.unusedSimpArgs false
section
variable {P : Program} {o : Oper} {n : Sz} {fl : Slots} {a : Act} {w w0 : World} {v : Value} {M : Nat → Prop} {l : List Atom} {ops : Array Oper} {d : Nat} {K : Act → World → Prop}
/-- two structs: h says whether they are equal -/
theorem y_eqa {T U : TypeId} {x y : Operand} {xs ys : List Value} {b : Bool} (h : ∀ w, (Op.equalIn 10000 T (.agg xs.toArray) (.agg ys.toArray)).run P w = .ok b w) (ho : o.op = .binOp .eql T x y U) (hg : P.eqGuardType P.depth T = false) (S : St n fl a) (hx : ev fl x = some (.agg xs.toArray)) (hy : ev fl y = some (.agg ys.toArray)) : Yld P o a w (.bool b) := by
  unfold Yld execOp; rw [ho]
  simp only [S.ev hx, S.ev hy, Sem.run_bind, run_eqGuard_agg w _ T _ _ _ _ hg, Result.andThen_ok, run_eql_struct, h, Sem.run_pure]
theorem y_nea {T U : TypeId} {x y : Operand} {xs ys : List Value} {b : Bool} (h : ∀ w, (Op.equalIn 10000 T (.agg xs.toArray) (.agg ys.toArray)).run P w = .ok b w) (ho : o.op = .binOp .neq T x y U) (hg : P.eqGuardType P.depth T = false) (S : St n fl a) (hx : ev fl x = some (.agg xs.toArray)) (hy : ev fl y = some (.agg ys.toArray)) : Yld P o a w (.bool (!b)) := by
  unfold Yld execOp; rw [ho]
  simp only [S.ev hx, S.ev hy, Sem.run_bind, run_eqGuard_agg w _ T _ _ _ _ hg, Result.andThen_ok, run_neq_struct, h, Sem.run_pure]
theorem y_extern {f : FuncId} {xs : Array Operand} {at_ : Array TypeId} {vs : List Value} (ho : o.op = .call { callee := .value (.func f), args := xs, argTypes := at_ }) (S : St n fl a) (hx : evs fl xs.toList = some vs) (he : (callFunc f vs.toArray).run P w = .ok (.value v) w) : Yld P o a w v := by
  have h := S.evs hx
  have h2 : xs.map a.eval = vs.toArray := by rw [← h, ← Array.toList_map]
  unfold Yld execOp; rw [ho]
  simp only [resolve, Act.eval, Deferred.ofValue, h2]
  simpa [invoke] using he
theorem y_cap {x : Operand} {T E : TypeId} {p : Option Addr} {m c : Nat} (ho : o.op = .call { callee := .builtin .cap, args := #[x], argTypes := #[T] }) (hT : P.underlying T = some (.slice E)) (S : St n fl a) (hx : ev fl x = some (.slice p m c)) : Yld P o a w (.int .i64 (c : Int)) := by
  unfold Yld execOp; rw [ho]; simp [resolve, invoke, builtin, S.ev hx, Builtin.cap_, goInt, run_underlying hT]
/-- v[:j] of a slice whose place is known; beyond its length, too -/
theorem y_sliceY {T E : TypeId} {x hi : Operand} {k : IntKind} {p : Option Addr} {m c j sz : Nat} (ho : o.op = .slice T x none (some hi) none) (hT : P.underlying T = some (.slice E)) (hE : sizeB P E sz = true) (S : St n fl a)
    (hx : ev fl x = some (.slice p m c)) (hh : ev fl hi = some (.int k (j : Int))) (h1 : j ≤ c) : Yld P o a w (.slice p j c) := by
  unfold Yld execOp; rw [ho]
  simp only [Option.map_some, Option.map_none, S.ev hx, S.ev hh]
  have hT' : P.underlying T = some (.slice (P.elem T)) := by rw [elem_of hT]; exact hT
  have hsz : (sizeOf (P.elem T)).run P w = .ok sz w := by rw [elem_of hT]; exact run_sizeOf_agg (sizeB_size hE)
  simp only [Sem.run_bind, run_sliceAt_slice (P := P) w T _ _ _ _ hT', run_slice_h (P := P) w T _ m c hT' k j (by omega) (by omega), hsz, Result.andThen_ok, Sem.run_pure]
  cases p <;> simp [sliced, add_plain, Addr.add]
/-- an own slice's cells -/
theorem IsOSl.cells {E : TypeId} {sz g m c : Nat} {α : Type} {enc : α → List Value} {xs : List α} (h : IsOSl w E (.slice (some ⟨g, 0, none⟩) m c) sz enc xs) (i j : Nat) (u : Value) (hi : i ≤ xs.length) (hu : ((xs.drop i).flatMap enc)[j]? = some u) : w.cell? ⟨g, i * sz + j, none⟩ = some u := by
  rcases h.row.2 with ⟨e, _⟩ | ⟨g', cap, cur, e, _, hg, hnc, hmax, hcs, ht⟩
  · cases e
  · simp only [Value.slice.injEq, Option.some.injEq, Addr.mk.injEq, and_true, true_and] at e
    obtain ⟨rfl, rfl, rfl⟩ := e
    rw [cell_of_row w g _ cur E (0, 0) hg]
    rw [← flat_drop h.sizes i hi, List.getElem?_drop, ← ht, List.getElem?_take] at hu
    split at hu
    · simpa using hu
    · cases hu
theorem HSat.hd {x : Atom} (H : HSat M w0 (x :: l) w) : x.ok w := H.ok x (List.mem_cons_self ..)
theorem HSat.ownG {E : TypeId} {sz : Nat} {α : Type} {enc : α → List Value} {xs : List α} (H : HSat M w0 (OSl E v sz enc xs :: l) w) (hne : 0 < xs.length) : ∃ g c, v = .slice (some ⟨g, 0, none⟩) xs.length c ∧ xs.length ≤ c := by
  have h : IsOSl w E v sz enc xs := H.hd
  rcases h.row.2 with ⟨_, e⟩ | ⟨g, c, cur, e, _, _, hnc, _⟩
  · omega
  · exact ⟨g, c, e, hnc⟩
/-- elements written from place i on -/
theorem IsOSl.write {E : TypeId} {sz g m c : Nat} {α : Type} {enc : α → List Value} {xs : List α} (h : IsOSl w E (.slice (some ⟨g, 0, none⟩) m c) sz enc xs) (i : Nat) (ys : List α) (hy : ∀ y ∈ ys, (enc y).length = sz) (hi : i ≤ xs.length) (hf : i + ys.length ≤ c) :
    ∃ cur : Array Value, w.heap[g]? = some (.cells cur E (0, 0)) ∧ cur.size = c * sz ∧ m = xs.length ∧ IsOSl (w.setRow g (cur.toList.take (i * sz) ++ ys.flatMap enc ++ cur.toList.drop (i * sz + (ys.flatMap enc).length)).toArray) E (.slice (some ⟨g, 0, none⟩) (max xs.length (i + ys.length)) c) sz enc (xs.take i ++ ys ++ xs.drop (i + ys.length)) := by
  rcases h.row.2 with ⟨e, _⟩ | ⟨g', cap, cur, e, _, hg, hnc, hmax, hcs, ht⟩
  · cases e
  · simp only [Value.slice.injEq, Option.some.injEq, Addr.mk.injEq, and_true, true_and] at e
    obtain ⟨rfl, rfl, rfl⟩ := e
    refine ⟨cur, hg, hcs, rfl, ?_⟩
    have hL : (xs.take i ++ ys ++ xs.drop (i + ys.length)).length = max xs.length (i + ys.length) := by
      simp only [List.length_append, List.length_take, List.length_drop]; omega
    have hyl := flatMap_len (enc := enc) (sz := sz) (xs := ys) hy
    have hxl := flatMap_len (enc := enc) (sz := sz) (xs := xs) h.sizes
    have hsz : ∀ z ∈ xs.take i ++ ys ++ xs.drop (i + ys.length), (enc z).length = sz := fun z hz => by
      rcases List.mem_append.1 hz with hz | hz
      · rcases List.mem_append.1 hz with hz | hz
        · exact h.sizes z (List.mem_of_mem_take hz)
        · exact hy z hz
      · exact h.sizes z (List.mem_of_mem_drop hz)
    have hcl : cur.toList.length = c * sz := by rw [Array.length_toList, hcs]
    have m1 : i * sz + ys.length * sz ≤ c * sz := by rw [← Nat.add_mul]; exact Nat.mul_le_mul_right _ hf
    have m2 : i * sz ≤ xs.length * sz := Nat.mul_le_mul_right _ hi
    have m3 : xs.length * sz ≤ c * sz := Nat.mul_le_mul_right _ hnc
    refine ⟨⟨?_, .inr ⟨g, c, _, by rw [hL], Nat.zero_le _, setRow_heap w g _ _ _ _ hg, by rw [hL]; omega, hmax, ?_, ?_⟩⟩, by rw [hL]; have := h.len; unfold maxLen at hmax; omega, hsz⟩
    · exact flatMap_len hsz
    · simp only [List.size_toArray, List.length_append, List.length_take, List.length_drop, hcl, hyl]; omega
    · rw [hL]
      simp only [List.flatMap_append]
      have et : (xs.take i).flatMap enc = cur.toList.take (i * sz) := by
        rw [← flat_take h.sizes i hi, ← ht, List.take_take, Nat.min_eq_left m2]
      rw [et, hyl]
      rcases Nat.lt_or_ge (i + ys.length) xs.length with hlt | hge
      · have ed : (xs.drop (i + ys.length)).flatMap enc = (cur.toList.take (xs.length * sz)).drop ((i + ys.length) * sz) := by
          rw [ht, flat_drop h.sizes _ (by omega)]
        rw [ed, Nat.max_eq_left (by omega)]
        have m4 : (i + ys.length) * sz ≤ xs.length * sz := Nat.mul_le_mul_right _ (by omega)
        rw [Nat.add_mul] at m4 ⊢
        rw [List.take_append, List.take_of_length_le (by simp only [List.length_append, List.length_take, hcl, hyl]; omega), List.drop_take]
        congr 2
        simp only [List.length_append, List.length_take, hcl, hyl]; omega
      · rw [List.drop_of_length_le hge, Nat.max_eq_right hge, List.flatMap_nil, List.append_nil, Nat.add_mul]
        rw [List.take_append_of_le_length (by simp only [List.length_append, List.length_take, hcl, hyl]; omega), List.take_of_length_le (by simp only [List.length_append, List.length_take, hcl, hyl]; omega)]
/-- append(s[:i], make(m)...) where there is no room: a new slice -/
theorem op_appendZ {T TN E : TypeId} {s x : Operand} {z : Value} {sz by_ i m c : Nat} {kn : IntKind} {p : Option Addr} {α : Type} {enc : α → List Value} (ys : List α) (z0 : α)
    (hw : Region.wanted o (yielded ops a.tmps) = true) (hd : o.dst = some d) (hn : Nat.blt d n.n = true) (ho : o.op = .call { callee := .builtin .append, args := #[s, x], argTypes := #[T, TN] }) (hT : P.underlying T = some (.slice E)) (hTN : P.underlying TN = some (.int kn)) (hE : infoB P E = some (z, sz, by_)) (hz : z.cells.size = sz) (hsz : Nat.blt 0 sz = true) (hz0 : enc z0 = z.cells.toList)
    (S : St n fl a) (H : HSat M w0 l w) (hs : ev fl s = some (.slice p i c)) {kq : IntKind} (hx : ev fl x = some (.int kq (m : Int))) (hold : ∀ j u, (ys.flatMap enc)[j]? = some u → ∃ ad, p = some ad ∧ w.cell? (ad.add j) = some u) (hl : ys.length = i) (hp : p = none → i = 0) (hy : ∀ y ∈ ys, (enc y).length = sz) (hm : 0 < m) (hr : c < i + m) (hb : (i + m) * by_ ≤ 140737488355328) (hbig : i + m ≤ 4611686018427387904)
    (k : ∀ g c2 a' w', i + m ≤ c2 → St n ((d, .slice (some ⟨g, 0, none⟩) (i + m) c2) :: fl) a' → HSat M w0 (OSl E (.slice (some ⟨g, 0, none⟩) (i + m) c2) sz enc (ys ++ List.replicate m z0) :: l) w' → K a' w') : opw P ops o a w K := by
  obtain ⟨inf, hinf, hzi, hsi, hbi⟩ := infoB_parts hE
  have hyl := flatMap_len (enc := enc) (sz := sz) (xs := ys) hy
  have hsz' : 0 < sz := by simpa using hsz
  have hfc : (Builtin.firstCells inf.size i (.slice p i c)).run P w.drew = .ok (ys.flatMap enc).toArray w.drew := by
    rw [hsi]
    cases p with
    | none =>
      have h0 := hp rfl
      have : ys = [] := List.eq_nil_of_length_eq_zero (by omega)
      subst this
      exact run_firstCells_none w.drew sz i i c
    | some ad => exact run_firstCells_some w.drew sz i ad i c _ (by rw [hyl, hl]) (fun j u hu => by obtain ⟨ad', e, hc⟩ := hold j u hu; cases e; exact hc)
  have hgr := Lib.run_append_grow_zeros w T TN o.type E inf z kq kn hT hTN hinf hzi p i c _ hfc m hm (by rw [hsi]; exact hsz') hr (by omega) (by
    rw [hbi]
    have : m * by_ ≤ (i + m) * by_ := Nat.mul_le_mul_right _ (by omega)
    omega) (by rw [hbi]; exact growslice_fits hr hb)
  obtain ⟨G, hG⟩ : ∃ G, G = grownCap w (i + m) c E := ⟨_, rfl⟩
  have hGn : i + m ≤ G := by rw [hG]; exact grownCap_ge w _ _ _
  have hGm : G ≤ maxLen := by rw [hG]; exact grownCap_le_maxLen w (i + m) c E (by unfold maxLen; omega)
  rw [← hG] at hgr
  have hzf : (Builtin.zeroCells z.cells m).toList = (List.replicate m z0).flatMap enc := by
    have h := madeCells_flat z.cells m (by rw [hz]; exact hsz')
    have e : Builtin.zeroCells z.cells m = madeCells z.cells (m * z.cells.size) := rfl
    rw [e, h, ← hz0, List.flatMap_def, List.map_replicate]
  have hrun : (execOp a.eval o).run P w = .ok (.value (.slice (some ⟨w.heap.size, 0, none⟩) (i + m) G)) (w.drew.alloc (.cells ((ys.flatMap enc).toArray ++ Builtin.zeroCells z.cells m ++ Builtin.zeroCells z.cells (G - (i + m))) E)) := by
    unfold execOp; rw [ho]
    simp only [resolve, invoke, builtin, Sem.run_bind, Sem.run_pure, Result.andThen_ok, List.map_toArray, List.map_cons, List.map_nil, S.ev hs, S.ev hx, hgr]
  refine opw_val hw hrun ?_
  rw [hd]
  refine k _ _ _ _ hGn (S.put hn _) ?_
  have hsz2 : ∀ x ∈ ys ++ List.replicate m z0, (enc x).length = sz := fun x hx => by
    rcases List.mem_append.1 hx with h | h
    · exact hy x h
    · obtain rfl := List.eq_of_mem_replicate h; rw [hz0, Array.length_toList, hz]
  have hfl := flatMap_len hsz2
  have hrl : (List.replicate m z0).length = m := List.length_replicate
  refine HSat.call1 (H.ext (Ext.drew w)) (x := OSl E _ sz enc (ys ++ List.replicate m z0)) ⟨Ext.alloc_cells _ _ _, ?_, ?_, List.pairwise_singleton _ _⟩ rfl
  · intro q hq
    simp only [List.mem_singleton] at hq
    subst hq
    refine ⟨⟨hfl, .inr ⟨w.heap.size, G, _, by rw [List.length_append, hrl, hl], Nat.zero_le _, heap_new w.drew _, by rw [List.length_append, hrl, hl]; exact hGn, hGm, ?_, ?_⟩⟩, by rw [List.length_append, hrl, hl]; omega, hsz2⟩
    · simp only [Array.size_append, List.size_toArray, size_zeroCells, hz, hyl, hl, ← Nat.add_mul]
      congr 1; omega
    · rw [List.length_append, hrl, hl]
      simp only [Array.toList_append, List.toList_toArray]
      rw [hzf, ← List.flatMap_append, List.take_append_of_le_length (by rw [hfl, List.length_append, hrl, hl]; exact Nat.le_refl _), List.take_of_length_le (by rw [hfl, List.length_append, hrl, hl]; exact Nat.le_refl _)]
  · intro q hq _ b hb
    simp only [List.mem_singleton] at hq
    subst hq
    simp only [OSl, Value.ownBlock, Option.some.injEq] at hb
    subst hb
    exact .inr (Nat.le_refl _)
/-- an own slice cut at its end -/
theorem HSat.cutO {E : TypeId} {p : Option Addr} {m c sz : Nat} {α : Type} {enc : α → List Value} {xs : List α} (H : HSat M w0 (OSl E (.slice p m c) sz enc xs :: l) w) (hp : p ≠ none) (j : Nat) (hj : j ≤ xs.length) : HSat M w0 (OSl E (.slice p j c) sz enc (xs.take j) :: l) w := by
  refine H.conv (fun h => h) (fun b hb => ?_) (fun hok => ?_)
  · have hb : (Value.slice p j c).ownBlock = some b := hb
    cases p <;> exact hb
  · have hok : IsOSl w E (.slice p m c) sz enc xs := hok
    rcases hok.row.2 with ⟨e, _⟩ | ⟨g', cap, cur, e, _, hg, hnc, hmax, hcs, ht⟩
    · cases e; exact absurd rfl hp
    · cases e
      refine ⟨⟨flatMap_len (fun x hx => hok.sizes x (List.mem_of_mem_take hx)), .inr ⟨g', c, cur, by rw [List.length_take, Nat.min_eq_left hj], Nat.zero_le _, hg, by rw [List.length_take]; omega, hmax, hcs, ?_⟩⟩, by rw [List.length_take]; have := hok.len; omega, fun x hx => hok.sizes x (List.mem_of_mem_take hx)⟩
      rw [List.length_take, Nat.min_eq_left hj, ← flat_take hok.sizes j hj, ← ht, List.take_take, Nat.min_eq_left (Nat.mul_le_mul_right _ hj)]
theorem y_subn {T U : TypeId} {x y : Operand} {p q : Int} {m : Nat} (ho : o.op = .binOp .sub T x y U) (S : St n fl a) (hx : ev fl x = some (.int .i64 p)) (hy : ev fl y = some (.int .i64 q)) (h : p - q = (m : Int)) (hb : m ≤ 9223372036854775807) : Yld P o a w (.int .i64 (m : Int)) := by
  rw [← h]; exact y_sub ho S hx hy (by omega)
theorem y_remN {T U : TypeId} {x y : Operand} {k : IntKind} {m q : Nat} (ho : o.op = .binOp .rem T x y U) (S : St n fl a) (hx : ev fl x = some (.int k (m : Int))) (hy : ev fl y = some (.int k (q : Int))) (hq : 0 < q) : Yld P o a w (.int k ((m % q : Nat) : Int)) := by
  rw [Int.natCast_emod]; exact y_remn ho S hx hy (by omega) (by omega)
/-- a struct that is a part of an element -/
theorem y_loadsfa {T : TypeId} {x : Operand} {i sz k : Nat} {vs : List Value} {α : Type} {enc : α → List Value} {xs : List α} (v : Value) (ho : o.op = .load T x) (S : St n fl a) (H : HSat M w0 l w)
    (hx : ev fl x = some (.pointer (some ((elemAddr v i sz).add k)))) [h : HasSl l v sz α enc xs] (hT : aggB P T vs.length = true) (hi : i < xs.length) (hu : ((enc xs[i]).drop k).take vs.length = vs) : Yld P o a w (.agg vs.toArray) := by
  obtain ⟨b, off, c, hv, hc⟩ := (H.sl v (h := h)).cells i hi
  refine y_load_at ho S hx (run_loadVar_agg hT (fun j u hj => ?_))
  have hl : j < vs.length := (List.getElem?_eq_some_iff.1 hj).1
  have := hc (k + j) u (by rw [← hu, List.getElem?_take, if_pos hl, List.getElem?_drop] at hj; exact hj)
  rw [hv]; simpa [elemAddr, add_plain, Nat.add_assoc] using this
end
end Go.Gw
end
section
namespace Go.Gw
set_option linter.unusedVariables false
set_option linter.unusedSimpArgs false
set_option linter.unusedSectionVars false
/-- a fact as an atom -/
def PureA (p : Prop) : Atom := ⟨true, fun _ => False, fun _ => p, fun _ _ _ h => h, fun _ _ _ h => h.elim⟩
/-- the atoms of the keys ks -/
def FamA {ι : Type} (ks : List ι) (f : ι → Atom) : Atom := Bun (ks.map f)
section
variable {w w0 : World} {M : Nat → Prop} {l : List Atom}
theorem HSat.fact {p : Prop} (H : HSat M w0 (PureA p :: l) w) : p := H.ok (PureA p) (List.mem_cons_self ..)
theorem HSat.laid {p : Prop} (H : HSat M w0 l w) (h : p) : HSat M w0 (PureA p :: l) w :=
  ⟨H.fr, fun x hx => (List.mem_cons.1 hx).elim (fun e => e ▸ h) (H.ok x), fun x hx ho b hb => (List.mem_cons.1 hx).elim (fun e => by subst e; exact (hb : False).elim) (fun hx => H.mine x hx ho b hb), List.pairwise_cons.2 ⟨fun y hy ho b hb => (hb : False).elim, H.sep⟩⟩
/-- two atoms become one -/
theorem HSat.merge {x y z : Atom} (H : HSat M w0 (x :: y :: l) w) (hx : x.own = true) (hy : y.own = true) (hz : z.own = true) (hf : ∀ b, z.fp b → x.fp b ∨ y.fp b) (hok : x.ok w → y.ok w → z.ok w) : HSat M w0 (z :: l) w := by
  have h1 := List.pairwise_cons.1 H.sep
  have h2 := List.pairwise_cons.1 h1.2
  refine ⟨H.fr, fun a ha => ?_, fun a ha ho b hb => ?_, List.pairwise_cons.2 ⟨fun a ha ho b hb => ?_, h2.2⟩⟩
  · rcases List.mem_cons.1 ha with rfl | ha
    · exact hok (H.ok x (by simp)) (H.ok y (by simp))
    · exact H.ok a (by simp [ha])
  · rcases List.mem_cons.1 ha with rfl | ha
    · rcases hf b hb with h | h
      · exact H.mine x (by simp) hx b h
      · exact H.mine y (by simp) hy b h
    · exact H.mine a (by simp [ha]) ho b hb
  · rcases hf b hb with h | h
    · exact h1.1 a (by simp [ha]) (.inl hx) b h
    · exact h2.1 a ha (.inl hy) b h
section fam
variable {ι : Type} [DecidableEq ι] {ks : List ι} {f : ι → Atom}
theorem HSat.famOut (H : HSat M w0 (FamA ks f :: l) w) {k : ι} (hk : k ∈ ks) : HSat M w0 (f k :: FamA (ks.erase k) f :: l) w := by
  have hown : ∀ x ∈ (ks.erase k).map f, x.own = true := fun x hx => by
    obtain ⟨j, hj, rfl⟩ := List.mem_map.1 hx
    exact ((H.ok (FamA ks f) (List.mem_cons_self ..)).1 (f j) (List.mem_map.2 ⟨j, List.mem_of_mem_erase hj, rfl⟩)).1
  have hp : (ks.map f).Perm (f k :: (ks.erase k).map f) := (List.perm_cons_erase hk).map f
  have h1 := H.unfold.perm (List.Perm.append_right l hp)
  have h2 : HSat M w0 ((ks.erase k).map f ++ (f k :: l)) w := h1.perm (List.perm_middle (a := f k) (l₁ := (ks.erase k).map f) (l₂ := l)).symm
  exact (h2.fold hown).swap2
theorem HSat.famIn {y : Atom} (f' : ι → Atom) {k : ι} (H : HSat M w0 (y :: FamA (ks.erase k) f :: l) w) (hk : k ∈ ks) (hn : ks.Nodup) (hy : y.own = true) (hf : f' k = y) (ho : ∀ j ∈ ks, j ≠ k → f' j = f j) : HSat M w0 (FamA ks f' :: l) w := by
  have hown : ∀ x ∈ (ks.erase k).map f, x.own = true := fun x hx => by
    obtain ⟨j, hj, rfl⟩ := List.mem_map.1 hx
    exact ((H.ok (FamA (ks.erase k) f) (by simp)).1 (f j) (List.mem_map.2 ⟨j, hj, rfl⟩)).1
  have he : (ks.erase k).map f' = (ks.erase k).map f := List.map_congr_left fun j hj => ho j (List.mem_of_mem_erase hj) (fun e => by subst e; exact absurd hj (List.Nodup.not_mem_erase hn))
  have hp : (ks.map f').Perm (y :: (ks.erase k).map f) := by
    have := (List.perm_cons_erase hk).map f'
    rw [List.map_cons, hf, he] at this; exact this
  have h1 : HSat M w0 ((ks.erase k).map f ++ (y :: l)) w := H.swap2.unfold
  have h2 : HSat M w0 ((y :: (ks.erase k).map f) ++ l) w := h1.perm (List.perm_middle (a := y) (l₁ := (ks.erase k).map f) (l₂ := l))
  refine (h2.perm (List.Perm.append_right l hp.symm)).fold (fun x hx => ?_)
  have := hp.mem_iff.1 hx
  rcases List.mem_cons.1 this with rfl | h
  · exact hy
  · exact hown x h
theorem HSat.famNil (H : HSat M w0 l w) (f : ι → Atom) : HSat M w0 (FamA [] f :: l) w := HSat.fold (ls := []) H (by simp)
/-- one more key, at the end -/
theorem HSat.famSnoc {y : Atom} (f' : ι → Atom) {k : ι} (H : HSat M w0 (y :: FamA ks f :: l) w) (hy : y.own = true) (hf : f' k = y) (ho : ∀ j ∈ ks, f' j = f j) : HSat M w0 (FamA (ks ++ [k]) f' :: l) w := by
  have hown : ∀ x ∈ ks.map f, x.own = true := fun x hx => ((H.ok (FamA ks f) (by simp)).1 x hx).1
  have he : (ks ++ [k]).map f' = ks.map f ++ [y] := by rw [List.map_append, List.map_congr_left ho]; simp [hf]
  have h1 : HSat M w0 (ks.map f ++ (y :: l)) w := H.swap2.unfold
  have h2 : HSat M w0 ((ks.map f ++ [y]) ++ l) w := by simpa using h1
  unfold FamA
  rw [he]
  refine h2.fold (fun x hx => ?_)
  rcases List.mem_append.1 hx with h | h
  · exact hown x h
  · rw [List.mem_singleton.1 h]; exact hy
end fam
theorem bun_own (ls : List Atom) : (Bun ls).own = true := rfl
end
end Go.Gw
end
section
namespace Go.Gw
set_option linter.unusedVariables false
set_option linter.unusedSimpArgs false
section
variable {P : Program} {o : Oper} {n : Sz} {fl : Slots} {a : Act} {w w0 : World} {v : Value} {M : Nat → Prop} {l : List Atom} {ops : Array Oper} {d : Nat} {K : Act → World → Prop}
theorem y_xoru {T U : TypeId} {x y : Operand} {m q r : Nat} (ho : o.op = .binOp .xor T x y U) (S : St n fl a) (hx : ev fl x = some (.int .u64 (m : Int))) (hy : ev fl y = some (.int .u64 (q : Int))) (hm : m < 18446744073709551616) (hq : q < 18446744073709551616) (hr : m ^^^ q = r) : Yld P o a w (.int .u64 (r : Int)) := by
  unfold Yld execOp; rw [ho]; simp only [S.ev hx, S.ev hy]
  have h := bits_xor_u64_nat m q hm hq
  rw [hr] at h
  simp only [bits] at h
  simp only [eqGuard, binOp, Op.intBits, h]
  simp [h]
theorem y_oru {T U : TypeId} {x y : Operand} {m q r : Nat} (ho : o.op = .binOp .or T x y U) (S : St n fl a) (hx : ev fl x = some (.int .u64 (m : Int))) (hy : ev fl y = some (.int .u64 (q : Int))) (hm : m < 18446744073709551616) (hq : q < 18446744073709551616) (hr : m ||| q = r) : Yld P o a w (.int .u64 (r : Int)) := by
  unfold Yld execOp; rw [ho]; simp only [S.ev hx, S.ev hy]
  have h := bits_or_u64_nat m q hm hq
  rw [hr] at h
  simp only [bits] at h
  simp only [eqGuard, binOp, Op.intBits, h]
  simp [h]
/-- a word shifted to the right by q -/
theorem y_shru {T U : TypeId} {x y : Operand} {k2 : IntKind} {m q r : Nat} (ho : o.op = .binOp .shr T x y U) (S : St n fl a) (hx : ev fl x = some (.int .u64 (m : Int))) (hy : ev fl y = some (.int k2 (q : Int))) (hq : q ≤ 64) (hr : m >>> q = r) : Yld P o a w (.int .u64 (r : Int)) := by
  refine y_shr ho S hx hy (by omega) ?_
  have e : min (q : Int).toNat IntKind.u64.bits = q := by
    show min (q : Int).toNat 64 = q
    omega
  rw [e, ← hr, Nat.shiftRight_eq_div_pow, Int.fdiv_eq_ediv_of_nonneg _ (Int.le_of_lt (Int.pow_pos (by decide)))]
  rw [Int.natCast_ediv, Int.natCast_pow]
  rfl
/-- a word shifted to the left by q, of which nothing is lost -/
theorem y_shlu {T U : TypeId} {x y : Operand} {k2 : IntKind} {m q r : Nat} (ho : o.op = .binOp .shl T x y U) (S : St n fl a) (hx : ev fl x = some (.int .u64 (m : Int))) (hy : ev fl y = some (.int k2 (q : Int))) (hq : q ≤ 64) (hr : m <<< q = r) (hb : r < 18446744073709551616) : Yld P o a w (.int .u64 (r : Int)) := by
  unfold Yld execOp; rw [ho]; simp only [S.ev hx, S.ev hy]
  have e : min (q : Int).toNat IntKind.u64.bits = q := by
    show min (q : Int).toNat 64 = q
    omega
  have e2 : IntKind.u64.wrap ((m : Int) * 2 ^ q) = (r : Int) := by
    rw [IntKind.wrap_u64, ← hr, Nat.shiftLeft_eq]
    have : ((m : Int) * 2 ^ q) = ((m * 2 ^ q : Nat) : Int) := by rw [Int.natCast_mul, Int.natCast_pow]; rfl
    rw [this]
    rw [← hr, Nat.shiftLeft_eq] at hb
    omega
  simp [eqGuard, binOp, Op.shift, e, e2]
theorem y_muln {T U : TypeId} {x y : Operand} {m q r : Nat} (ho : o.op = .binOp .mul T x y U) (S : St n fl a) (hx : ev fl x = some (.int .i64 (m : Int))) (hy : ev fl y = some (.int .i64 (q : Int))) (hr : m * q = r) (h : r ≤ 9223372036854775807) : Yld P o a w (.int .i64 (r : Int)) := by
  have e : (m : Int) * (q : Int) = (r : Int) := by rw [← hr, Int.natCast_mul]
  rw [← e]; exact y_mul ho S hx hy (by omega)
/-- an element of an array value, as the machine computes it -/
theorem y_index {T : TypeId} {x ix : Operand} {u i r : Value} (ho : o.op = .index T x ix) (S : St n fl a) (hx : ev fl x = some u) (hi : ev fl ix = some i) (h : (Instr.index T u i).run P w = .ok r w) : Yld P o a w r := by
  unfold Yld execOp; rw [ho]; simp [S.ev hx, S.ev hi, h]
/-- a slice of a whole array, as the machine computes it -/
theorem y_sliceA {T : TypeId} {x : Operand} {u r : Value} (ho : o.op = .slice T x none none none) (S : St n fl a) (hx : ev fl x = some u) (h : (Instr.sliceAt T u none none none).run P w = .ok r w) : Yld P o a w r := by
  unfold Yld execOp; rw [ho]; simp [S.ev hx, h]
/-- a conversion, as the machine computes it -/
theorem y_convX {T D : TypeId} {x : Operand} {u r : Value} (ho : o.op = .convert T D x) (S : St n fl a) (hx : ev fl x = some u) (h : (convert T D u).run P w = .ok r w) : Yld P o a w r := by
  unfold Yld execOp; rw [ho]; simp only [S.ev hx]
  simp only [Sem.run_bind, h, Result.andThen_ok, Sem.run_pure]
/-- a pointer is compared with itself -/
theorem y_neself {T U E : TypeId} {x y : Operand} {p : Addr} {j : TypeInfo} (ho : o.op = .binOp .neq T x y U) (hT : P.underlying T = some (.pointer E)) (hj : P.info? E = some j) (S : St n fl a) (hx : ev fl x = some (.pointer (some p))) (hy : ev fl y = some (.pointer (some p))) : Yld P o a w (.bool false) := by
  have h := Go.Lib.run_neq_ptr_same (P := P) w p hT hj
  unfold Yld execOp; rw [ho]; simp only [S.ev hx, S.ev hy]
  simp [eqGuard, h]
/-- bytes that lie in one block as a string -/
theorem y_bytestr {T D E : TypeId} {x : Operand} {b c m : Nat} {cs : List Value} {T' : TypeId} {fz : Nat × Nat} (t : List UInt8) (ho : o.op = .convert T D x) (hs : P.underlying T = some (.slice E)) (he : P.underlying E = some (.int .u8)) (hd : P.underlying D = some .string) (S : St n fl a) (H : HSat M w0 l w)
    (hx : ev fl x = some (.slice (some ⟨b, 0, none⟩) m c)) [h : HasRd l b (.cells cs.toArray T' fz)] (ht : t.length = m) (hc : ∀ j (hj : j < t.length), cs[j]? = some (.int .u8 (t[j].toNat : Int))) : Yld P o a w (.string ⟨t.toArray⟩) := by
  subst ht
  unfold Yld execOp; rw [ho]; simp only [S.ev hx]
  have hh := run_convert_bytes_back (P := P) w T D E ⟨b, 0, none⟩ c t hs he hd (fun j hj => by rw [add_plain, H.cell h]; simpa using hc j hj)
  simp only [Sem.run_bind, hh, Result.andThen_ok, Sem.run_pure]
end
end Go.Gw
end
section
namespace Go.Gw
open Go.Lib Go.RowKit
set_option linter.unusedVariables false
set_option linter.unusedSimpArgs false
section
variable {P : Program} {o : Oper} {n : Sz} {fl : Slots} {a : Act} {w w0 : World} {v : Value} {M : Nat → Prop} {l : List Atom} {ops : Array Oper} {d : Nat} {K : Act → World → Prop}
def encB (c : UInt8) : List Value := [.int .u8 (c.toNat : Int)]
theorem strCells_flat (s : ByteArray) : strCells s = s.data.toList.flatMap encB := by
  unfold strCells
  rw [List.map_eq_flatMap]
  rfl
theorem run_append_str_at {T U ty E : TypeId} {z : Value} (hT : P.underlying T = some (.slice E)) (hU : P.underlying U = some .string) (hE : infoB P E = some (z, 1, 1)) (hz : z = .int .u8 0)
    {xs : List UInt8} (ho : IsOSl w E v 1 encB xs) (s : ByteArray) (hb : xs.length + s.size ≤ 140737488355328) (hne : s.size ≠ 0 ∨ v ≠ .slice none 0 0) :
    ∃ v' w', (Builtin.append_ #[T, U] ty #[v, .string s]).run P w = .ok v' w' ∧ IsOSl w' E v' 1 encB (xs ++ s.data.toList) ∧ Fr (fun k => v.ownBlock = some k) w w' ∧ (∀ b, v'.ownBlock = some b → v.ownBlock = some b ∨ w.heap.size ≤ b) ∧ v' ≠ .slice none 0 0 := by
  subst hz
  obtain ⟨i, hi, hzi, hsi, hbi⟩ := infoB_parts hE
  have hsl : s.data.toList.length = s.size := Array.length_toList
  obtain ⟨v', w', hr, hown, hgr, hnil⟩ := run_append_own_string (P := P) w 0 T U ty E i hT hU hi hzi hsi hbi v xs.length (xs.flatMap encB) ho.row s (by unfold maxLen; omega) hb (Nat.zero_le _)
  have hrow : IsOSl w' E v' 1 encB (xs ++ s.data.toList) := ⟨by rw [List.length_append, hsl, List.flatMap_append, ← strCells_flat]; exact hown, by rw [List.length_append, hsl]; omega, fun x hx => rfl⟩
  have hcase : (∀ k, k < w.heap.size → ThawO w.heap[k]? → ThawO w'.heap[k]?) ∧ (∀ b, v'.ownBlock = some b → v.ownBlock = some b ∨ w.heap.size ≤ b) := by
    rcases ho.row.2 with ⟨rfl, hn⟩ | ⟨g, cap, cur, rfl, _, hg, hnc, hcm, hcs, ht⟩
    · have h0 : 0 < s.size := by rcases hne with h | h; omega; exact absurd rfl h
      have hr2 := run_append_nil_string (P := P) w T U ty E i _ hT hU hi hzi s h0 (by omega) (by rw [hbi]; omega)
      rw [hr2] at hr
      cases hr
      refine ⟨((Ext.drew w).trans (Ext.alloc_cells _ _ _)).thaw, fun b hb' => ?_⟩
      simp only [Value.ownBlock, Option.some.injEq] at hb'
      exact .inr (by omega)
    · by_cases hroom : xs.length + s.size ≤ cap
      · have hr2 := run_append_room_string (P := P) w T U ty E i hT hU hi hsi g xs.length cap cur hg s hroom (by rw [hcs]; omega)
        rw [hr2] at hr
        cases hr
        refine ⟨fun k _ hk => ?_, fun b hb' => .inl hb'⟩
        by_cases hkg : k = g
        · subst hkg; rw [setRow_heap w k _ _ _ _ hg]; exact Nat.le_refl 0
        · rw [setRow_other w g k _ hkg]; exact hk
      · have holds : ∀ j u, (xs.flatMap encB)[j]? = some u → w.cell? ((⟨g, 0, none⟩ : Addr).add j) = some u := ho.row.cells (g := g) rfl
        have hr2 := run_append_grow_string (P := P) w T U ty E i _ hT hU hi hzi ⟨g, 0, none⟩ xs.length cap (xs.flatMap encB) (by rw [hsi]; exact flatMap_len ho.sizes) holds s (by omega) (by omega) (by rw [hbi]; exact growslice_fits (by omega) (by omega))
        rw [hr2] at hr
        cases hr
        refine ⟨((Ext.drew w).trans (Ext.alloc_cells _ _ _)).thaw, fun b hb' => ?_⟩
        simp only [Value.ownBlock, Option.some.injEq] at hb'
        exact .inr (by omega)
  refine ⟨v', w', hr, hrow, ⟨hgr.os, hgr.tape, hgr.output, hgr.size, fun k hk hM => hgr.block k hk (fun e => hM e.symm), hcase.1⟩, hcase.2, fun e => ?_⟩
  obtain ⟨e1, e2⟩ := hnil.1 e
  rcases hne with h | h
  · exact h e2
  · exact h e1
theorem op_appendStr {T U E : TypeId} {s x : Operand} {z : Value} {xs : List UInt8} {l' : Atom → List Atom} (t : ByteArray)
    (hw : Region.wanted o (yielded ops a.tmps) = true) (hd : o.dst = some d) (hn : Nat.blt d n.n = true) (ho : o.op = .call { callee := .builtin .append, args := #[s, x], argTypes := #[T, U] }) (hT : P.underlying T = some (.slice E)) (hU : P.underlying U = some .string) (hE : infoB P E = some (z, 1, 1)) (hz : z = .int .u8 0)
    (S : St n fl a) (H : HSat M w0 l w) (hs : ev fl s = some v) (hx : ev fl x = some (.string t)) [hO : HasO l v E 1 UInt8 encB xs l'] (hb : xs.length + t.size ≤ 140737488355328) (hne : t.size ≠ 0 ∨ v ≠ .slice none 0 0)
    (k : ∀ v' a' w', v' ≠ .slice none 0 0 → St n ((d, v') :: fl) a' → HSat M w0 (l' (OSl E v' 1 encB (xs ++ t.data.toList))) w' → K a' w') : opw P ops o a w K := by
  obtain ⟨l1, l2, e1, e2⟩ := hO.at_
  have hok : IsOSl w E v 1 encB xs := H.ok (OSl E v 1 encB xs) (by rw [e1]; simp)
  obtain ⟨v', w', hr, hown, hfr, hnew, hnn⟩ := run_append_str_at (P := P) (ty := o.type) hT hU hE hz hok t hb hne
  have hrun : (execOp a.eval o).run P w = .ok (.value v') w' := by
    unfold execOp; rw [ho]
    simp only [resolve, invoke, builtin, Sem.run_bind, Sem.run_pure, Result.andThen_ok, List.map_toArray, List.map_cons, List.map_nil, S.ev hs, S.ev hx, hr]
  refine opw_val hw hrun ?_
  rw [hd]
  refine k v' _ w' hnn (S.put hn v') ?_
  rw [e2]
  rw [e1] at H
  exact HSat.swap H rfl rfl hfr hown hnew
end
end Go.Gw
end
section
namespace Go.Gw
set_option linter.unusedVariables false
set_option linter.unusedSimpArgs false
section
variable {P : Program} {o : Oper} {n : Sz} {fl : Slots} {a : Act} {w w0 : World} {v : Value} {M : Nat → Prop} {l : List Atom} {ops : Array Oper} {d : Nat} {K : Act → World → Prop}
theorem HSat.allocF (H : HSat M w0 l w) (ob : Obj) : HSat M w0 (Blk w.heap.size ob :: l) (w.alloc ob) := by
  have H' : HSat No w [Blk w.heap.size ob] (w.alloc ob) := ⟨⟨rfl, rfl, rfl, by simp, fun k hk _ => RowKit.Below.heap_alloc w ob k hk, fun k hk ht => by rw [RowKit.Below.heap_alloc w ob k hk]; exact ht⟩, by intro x hx; simp at hx; subst hx; exact heap_new w ob, by intro x hx ho b hb; simp at hx; subst hx; simp [Blk] at hb; exact .inr (by omega), List.pairwise_singleton _ _⟩
  exact H.call H' (by simp [Blk])
theorem size_toList (s : ByteArray) : s.data.toList.length = s.size := Array.length_toList
/-- the bytes of a string, to be read -/
theorem op_strBytes {T D E : TypeId} {x : Operand} {s : ByteArray} (hw : Region.wanted o (yielded ops a.tmps) = true) (hd : o.dst = some d) (hn : Nat.blt d n.n = true) (ho : o.op = .convert T D x) (hT : P.underlying T = some .string) (hD : P.underlying D = some (.slice E)) (hE : P.underlying E = some (.int .u8))
    (S : St n fl a) (H : HSat M w0 l w) (hx : ev fl x = some (.string s)) (hs : s.size ≤ 9223372036854775807)
    (k : ∀ v' a' w', St n ((d, v') :: fl) a' → HSat M w0 (Sl v' 1 encB s.data.toList :: l) w' → K a' w') : opw P ops o a w K := by
  have hr := run_bytes_of_string (P := P) w T D E s hT hD hE
  have hrun : (execOp a.eval o).run P w = .ok (.value (.slice (some ⟨w.heap.size, 0, none⟩) s.size (grownCap w s.size 0 E))) (w.drew.alloc (.cells (bytesRow s (grownCap w s.size 0 E)) E ((bytesRow s (grownCap w s.size 0 E)).size, (bytesRow s (grownCap w s.size 0 E)).size + 1))) := by
    unfold execOp; rw [ho]; simp only [S.ev hx]
    simp only [Sem.run_bind, hr, Result.andThen_ok, Sem.run_pure]
  refine opw_val hw hrun ?_
  rw [hd]
  refine k _ _ _ (S.put hn _) ?_
  have h1 := (H.ext (Ext.drew w)).allocF (.cells (bytesRow s (grownCap w s.size 0 E)) E ((bytesRow s (grownCap w s.size 0 E)).size, (bytesRow s (grownCap w s.size 0 E)).size + 1))
  have e0 : (w.drew).heap.size = w.heap.size := rfl
  rw [e0] at h1
  refine h1.conv (fun h => by cases h) (fun b hb => ?_) (fun hok => ?_)
  · have hb := hb.1
    simp only [Value.ownBlock, Option.some.injEq] at hb
    exact hb.symm
  · have hl := size_toList s
    refine ⟨by omega, ⟨_, _, by rw [hl]⟩, fun x _ => rfl, fun i hi => ⟨w.heap.size, 0, grownCap w s.size 0 E, by rw [hl], fun j u hu => ?_⟩⟩
    have hj : j = 0 := by have := (List.getElem?_eq_some_iff.1 hu).1; simp [encB] at this; omega
    subst hj
    rw [cell_of_row _ _ _ _ _ _ hok]
    simp only [encB, List.getElem?_cons_zero, Option.some.injEq] at hu
    subst hu
    have hi' : i < s.data.size := by rw [hl] at hi; exact hi
    have hi2 : i < s.size := by rw [hl] at hi; exact hi
    simp [bytesRow, Array.getElem?_append, hi', hi2]
/-- a result that lies in a block; the function holds loops over functions -/
theorem retcsM {fn : Func} {R : Value → World → Prop} {t T b : Nat} {cs : List Value} {T' : TypeId} {fz : Nat × Nat} {m : Nat} {ds : List Nat} (hr : fn.results = #[.cell t T]) (S : St ⟨m, ds⟩ fl a) (H : HSat M w0 (DefsA ds :: l) w) (hv : fl.lookup t = some (.pointer (some ⟨b, 0, none⟩)))
    [h : HasRd l b (.cells cs.toArray T' fz)] (hT : scalarB P T = true) (hc : cs[0]? = some v) (hR : ∀ w, HSat M w0 l w → R v w) : endP P fn R .ret a w := by
  show LeavesInM Fence.wide 0 P fn a.tmps _ a.defers .returning w
  rw [S.defers]
  refine leavesM (fun w H => ?_) hR ds w H
  have hl := run_loadVar_scalar (P := P) (w := w) (p := ⟨b, 0, none⟩) hT (by rw [H.cell h]; exact hc)
  have hv' : a.tmps[t]?.getD undef = .pointer (some ⟨b, 0, none⟩) := by rw [← Array.getD_eq_getD_getElem?]; exact S.get t _ hv
  simp [results, hr, hv', asAddr, hl]
end
end Go.Gw
end
section
namespace Go.Gw
set_option linter.unusedVariables false
set_option linter.unusedSimpArgs false
section
variable {P : Program} {o : Oper} {n : Sz} {fl : Slots} {a : Act} {w w0 : World} {v : Value} {M : Nat → Prop} {l : List Atom} {ops : Array Oper} {d : Nat} {K : Act → World → Prop}
theorem y_arrL {T E : TypeId} {x lo : Operand} {k : IntKind} {b m i sz : Nat} (ho : o.op = .slice T x (some lo) none none) (hT : P.underlying T = some (.array m E)) (hE : sizeB P E sz = true) (S : St n fl a)
    (hx : ev fl x = some (.pointer (some ⟨b, 0, none⟩))) (hl : ev fl lo = some (.int k (i : Int))) (h1 : i < m) : Yld P o a w (.slice (some ⟨b, i * sz, none⟩) (m - i) (m - i)) := by
  unfold Yld execOp; rw [ho]
  simp only [Option.map_some, Option.map_none, S.ev hx, S.ev hl]
  have e1 : P.arrayLen T = m := by simp [Program.arrayLen, hT]
  have e2 : P.elem T = E := by simp [Program.elem, hT]
  have hT' : P.underlying T = some (.array (P.arrayLen T) (P.elem T)) := by rw [e1, e2]; exact hT
  have hsz : (sizeOf (P.elem T)).run P w = .ok sz w := by rw [e2]; exact run_sizeOf_agg (sizeB_size hE)
  have hne : ¬ m = i := by omega
  simp only [Sem.run_bind, run_sliceAt_array_l (P := P) w T _ hT' k (i : Int) (by omega) (by rw [e1]; omega), hsz, Result.andThen_ok, Sem.run_pure]
  simp [slicedAt, e1, hne, add_plain]
theorem y_bytestrO {T D E : TypeId} {x : Operand} {b off c m : Nat} {cs : List Value} {T' : TypeId} {fz : Nat × Nat} (t : List UInt8) (ho : o.op = .convert T D x) (hs : P.underlying T = some (.slice E)) (he : P.underlying E = some (.int .u8)) (hd : P.underlying D = some .string) (S : St n fl a) (H : HSat M w0 l w)
    (hx : ev fl x = some (.slice (some ⟨b, off, none⟩) m c)) [h : HasRd l b (.cells cs.toArray T' fz)] (ht : t.length = m) (hc : ∀ j (hj : j < t.length), cs[off + j]? = some (.int .u8 (t[j].toNat : Int))) : Yld P o a w (.string ⟨t.toArray⟩) := by
  subst ht
  unfold Yld execOp; rw [ho]; simp only [S.ev hx]
  have hh := run_convert_bytes_back (P := P) w T D E ⟨b, off, none⟩ c t hs he hd (fun j hj => by rw [add_plain, H.cell h]; simpa using hc j hj)
  simp only [Sem.run_bind, hh, Result.andThen_ok, Sem.run_pure]
def u8V (c : UInt8) : Value := .int .u8 (c.toNat : Int)
theorem u8set {b i : Nat} {T : TypeId} {xs : List UInt8} {c : UInt8} (H : HSat M w0 (Cel b T ((xs.map u8V).set i (.int .u8 (c.toNat : Int))) :: l) w) : HSat M w0 (Cel b T ((xs.set i c).map u8V) :: l) w := by
  rw [show (xs.set i c).map u8V = (xs.map u8V).set i (.int .u8 (c.toNat : Int)) from List.map_set]; exact H
end
end Go.Gw
end
section
namespace Go.Proofs
open Go.Shelf
def Tryz.lays170_ren : Go.Shelf.Ren := ⟨fun | 170 => 113 | n => n, fun | 70 => 125 | 3 => 3 | 0 => 0 | 72 => 128 | 37 => 126 | 5 => 5 | n => n, fun | n => n⟩
theorem Tryz.lays170 : Go.Proofs.Lays.n170 Tryz.prog Tryz.lays170_ren := {
  mixed := by kernel_rfl
  f170 := Tryz.func113.trans (congrArg some (by kernel_rfl))
  t0 := Tryz.underlying0
  a0 := Tryz.isAgg0
  z0 := Tryz.sizeOf0
  v0 := Tryz.zeroValue0
  t3 := Tryz.underlying3
  a3 := Tryz.isAgg3
  z3 := Tryz.sizeOf3
  v3 := Tryz.zeroValue3
  t37 := Tryz.underlying126
  a37 := Tryz.isAgg126
  z37 := Tryz.sizeOf126
  v37 := Tryz.zeroValue126
  t70 := Tryz.underlying125
  a70 := Tryz.isAgg125
  z70 := Tryz.sizeOf125
  v70 := Tryz.zeroValue125
  t72 := Tryz.underlying128
  a72 := Tryz.isAgg128
  z72 := Tryz.sizeOf128
  v72 := Tryz.zeroValue128 }
open Go.RowKit in
/-- (*strings.Builder).Len: "Len returns the number of accumulated bytes; b.Len() == len(b.String()).": the world is as it was. (LAID: no walk: one application.) -/
theorem Tryz.Builder_Len (B b : Nat) (bs : List Value) (w : World) (h : Lib.IsBuilder 128 5 B b bs w) :
    Calls Tryz.prog 113 #[.pointer (some ⟨b, 0, none⟩)] w fun e w' => e = .returned (.int .i64 bs.length) ∧ w' = w := Any.Builder_Len Tryz.lays170 B b bs w h
def Tryz.lays169_ren : Go.Shelf.Ren := ⟨fun | 169 => 66 | n => n, fun | 70 => 125 | 9 => 9 | 0 => 0 | 72 => 128 | 37 => 126 | 127 => 172 | 3 => 3 | 5 => 5 | n => n, fun | n => n⟩
theorem Tryz.lays169 : Go.Proofs.Lays.n169 Tryz.prog Tryz.lays169_ren := {
  mixed := by kernel_rfl
  f169 := Tryz.func66.trans (congrArg some (by kernel_rfl))
  t0 := Tryz.underlying0
  a0 := Tryz.isAgg0
  z0 := Tryz.sizeOf0
  v0 := Tryz.zeroValue0
  t3 := Tryz.underlying3
  a3 := Tryz.isAgg3
  z3 := Tryz.sizeOf3
  v3 := Tryz.zeroValue3
  t9 := Tryz.underlying9
  a9 := Tryz.isAgg9
  z9 := Tryz.sizeOf9
  v9 := Tryz.zeroValue9
  t37 := Tryz.underlying126
  a37 := Tryz.isAgg126
  z37 := Tryz.sizeOf126
  v37 := Tryz.zeroValue126
  t70 := Tryz.underlying125
  a70 := Tryz.isAgg125
  z70 := Tryz.sizeOf125
  v70 := Tryz.zeroValue125
  t72 := Tryz.underlying128
  a72 := Tryz.isAgg128
  z72 := Tryz.sizeOf128
  v72 := Tryz.zeroValue128
  t127 := Tryz.underlying172
  a127 := Tryz.isAgg172
  z127 := Tryz.sizeOf172
  v127 := Tryz.zeroValue172 }
theorem Tryz.Builder_Extra_169 : Builder.Extra Tryz.prog Tryz.lays169_ren := {
  sizeBuilder := by kernel_rfl
  liesBuilder := by kernel_rfl
  t5 := Tryz.underlying5
  a5 := Tryz.isAgg5
  z5 := Tryz.sizeOf5
  v5 := Tryz.zeroValue5
  infoByte := by kernel_rfl
  cellsByte := by kernel_rfl
  sizeByte := by kernel_rfl
  neB5 := by decide }
open Go.RowKit in
/-- (*strings.Builder).String: "String returns the accumulated string.": OF A BUILDER THAT HOLDS AT LEAST ONE BYTE. ✋ THE MODEL FREEZES THOSE BYTES IN THE BUFFER (unsafe.String): a later write INTO them ends the model's run without an answer; a later append BEHIND them goes on. The statement's order of evaluation is drawn: one draw. (LAID: no walk: one application.) -/
theorem Tryz.Builder_String (B b : Nat) (l : List UInt8) (w : World) (h : Lib.IsBuilder 128 5 B b (Lib.byteCells l) w) (h0 : l ≠ []) :
    Calls Tryz.prog 66 #[.pointer (some ⟨b, 0, none⟩)] w fun e w' => e = .returned (.string ⟨l.toArray⟩) ∧ Below B w w' := Any.Builder_String Tryz.lays169 Tryz.Builder_Extra_169 B b l w h h0
open Go.RowKit in
/-- (*strings.Builder).String OF A BUILDER THAT HOLDS NO BYTE: the empty string. (Its buffer is nil, or a row of which it has taken nothing yet; where that row has NO capacity the model lays one new block for unsafe.SliceData's 'some address'.) One draw. (LAID: no walk: one application.) -/
theorem Tryz.Builder_String_empty (B b : Nat) (w : World) (h : Lib.IsBuilder 128 5 B b [] w) (hBw : B ≤ w.heap.size) :
    Calls Tryz.prog 66 #[.pointer (some ⟨b, 0, none⟩)] w fun e w' => e = .returned (.string ⟨#[]⟩) ∧ Below B w w' := Any.Builder_String_empty Tryz.lays169 Tryz.Builder_Extra_169 B b w h hBw
open Go.RowKit in
/-- (*strings.Builder).String: "String returns the accumulated string.": WHATEVER THE BUILDER HOLDS. (LAID: no walk: one application.) -/
theorem Tryz.Builder_String_any (B b : Nat) (l : List UInt8) (w : World) (h : Lib.IsBuilder 128 5 B b (Lib.byteCells l) w) (hBw : B ≤ w.heap.size) :
    Calls Tryz.prog 66 #[.pointer (some ⟨b, 0, none⟩)] w fun e w' => e = .returned (.string ⟨l.toArray⟩) ∧ Below B w w' := Any.Builder_String_any Tryz.lays169 Tryz.Builder_Extra_169 B b l w h hBw
def Tryz.lays241_ren : Go.Shelf.Ren := ⟨fun | 241 => 149 | 277 => 174 | n => n, fun | 70 => 125 | 3 => 3 | 0 => 0 | 72 => 128 | 37 => 126 | 5 => 5 | n => n, fun | n => n⟩
theorem Tryz.lays241 : Go.Proofs.Lays.n241 Tryz.prog Tryz.lays241_ren := {
  mixed := by kernel_rfl
  f241 := Tryz.func149.trans (congrArg some (by kernel_rfl))
  f277 := Tryz.func174.trans (congrArg some (by kernel_rfl))
  t0 := Tryz.underlying0
  a0 := Tryz.isAgg0
  z0 := Tryz.sizeOf0
  v0 := Tryz.zeroValue0
  t3 := Tryz.underlying3
  a3 := Tryz.isAgg3
  z3 := Tryz.sizeOf3
  v3 := Tryz.zeroValue3
  t37 := Tryz.underlying126
  a37 := Tryz.isAgg126
  z37 := Tryz.sizeOf126
  v37 := Tryz.zeroValue126
  t70 := Tryz.underlying125
  a70 := Tryz.isAgg125
  z70 := Tryz.sizeOf125
  v70 := Tryz.zeroValue125
  t72 := Tryz.underlying128
  a72 := Tryz.isAgg128
  z72 := Tryz.sizeOf128
  v72 := Tryz.zeroValue128 }
theorem Tryz.Builder_Extra_241 : Builder.Extra Tryz.prog Tryz.lays241_ren := {
  sizeBuilder := by kernel_rfl
  liesBuilder := by kernel_rfl
  t5 := Tryz.underlying5
  a5 := Tryz.isAgg5
  z5 := Tryz.sizeOf5
  v5 := Tryz.zeroValue5
  infoByte := by kernel_rfl
  cellsByte := by kernel_rfl
  sizeByte := by kernel_rfl
  neB5 := by decide }
open Go.RowKit in
/-- (*strings.Builder).grow (no doc but "grow copies the buffer to a new, larger buffer so that there are at least n bytes of capacity beyond len(b.buf)."): AT A BUILDER WITHOUT A BUFFER: a new row of whatever bytes for its buffer, none of them its own yet. Three draws. (LAID: no walk: one application.) -/
theorem Tryz.Builder_grow_fresh (B b n : Nat) (w : World) (hB : B ≤ b) (hbk : w.heap[b]? = some (.cells #[.pointer (some ⟨b, 0, none⟩), .slice none 0 0] 128 (0, 0))) (hBw : B ≤ w.heap.size) (hn : n ≤ 281474976710656) :
    Calls Tryz.prog 149 #[.pointer (some ⟨b, 0, none⟩), .int .i64 n] w fun e w' => e = .returned (.tuple #[]) ∧ (Lib.BuilderAt 128 5 B b (.pointer (some ⟨b, 0, none⟩)) [] w' ∧ Below B w w') := Any.Builder_grow_fresh Tryz.lays241 Tryz.Builder_Extra_241 B b n w hB hbk hBw hn
def Tryz.lays165_ren : Go.Shelf.Ren := ⟨fun | 165 => 112 | 240 => 101 | 241 => 149 | 276 => 137 | 277 => 174 | n => n, fun | 70 => 125 | 3 => 3 | 0 => 0 | 4 => 4 | 9 => 9 | 20 => 20 | 72 => 128 | 37 => 126 | 164 => 199 | 5 => 5 | n => n, fun | n => n⟩
theorem Tryz.lays165 : Go.Proofs.Lays.n165 Tryz.prog Tryz.lays165_ren := {
  mixed := by kernel_rfl
  f165 := Tryz.func112.trans (congrArg some (by kernel_rfl))
  f240 := Tryz.func101.trans (congrArg some (by kernel_rfl))
  f241 := Tryz.func149.trans (congrArg some (by kernel_rfl))
  f276 := Tryz.func137.trans (congrArg some (by kernel_rfl))
  f277 := Tryz.func174.trans (congrArg some (by kernel_rfl))
  t0 := Tryz.underlying0
  a0 := Tryz.isAgg0
  z0 := Tryz.sizeOf0
  v0 := Tryz.zeroValue0
  t3 := Tryz.underlying3
  a3 := Tryz.isAgg3
  z3 := Tryz.sizeOf3
  v3 := Tryz.zeroValue3
  t4 := Tryz.underlying4
  a4 := Tryz.isAgg4
  z4 := Tryz.sizeOf4
  v4 := Tryz.zeroValue4
  t9 := Tryz.underlying9
  a9 := Tryz.isAgg9
  z9 := Tryz.sizeOf9
  v9 := Tryz.zeroValue9
  t20 := Tryz.underlying20
  a20 := Tryz.isAgg20
  z20 := Tryz.sizeOf20
  v20 := Tryz.zeroValue20
  t37 := Tryz.underlying126
  a37 := Tryz.isAgg126
  z37 := Tryz.sizeOf126
  v37 := Tryz.zeroValue126
  t70 := Tryz.underlying125
  a70 := Tryz.isAgg125
  z70 := Tryz.sizeOf125
  v70 := Tryz.zeroValue125
  t72 := Tryz.underlying128
  a72 := Tryz.isAgg128
  z72 := Tryz.sizeOf128
  v72 := Tryz.zeroValue128
  t164 := Tryz.underlying199
  a164 := Tryz.isAgg199
  z164 := Tryz.sizeOf199
  v164 := Tryz.zeroValue199 }
theorem Tryz.Builder_Extra_165 : Builder.Extra Tryz.prog Tryz.lays165_ren := {
  sizeBuilder := by kernel_rfl
  liesBuilder := by kernel_rfl
  t5 := Tryz.underlying5
  a5 := Tryz.isAgg5
  z5 := Tryz.sizeOf5
  v5 := Tryz.zeroValue5
  infoByte := by kernel_rfl
  cellsByte := by kernel_rfl
  sizeByte := by kernel_rfl
  neB5 := by decide }
open Go.RowKit in
/-- (*strings.Builder).Grow AT A BUILDER THAT HAS NOT BEEN WRITTEN ('var b strings.Builder; b.Grow(n)'): "Grow grows b's capacity, if necessary, to guarantee space for another n bytes.": it holds no byte behind it as before it. (LAID: no walk: one application.) -/
theorem Tryz.Builder_Grow_fresh (B b n : Nat) (w : World) (hB : B ≤ b) (hbk : w.heap[b]? = some (.cells #[.pointer none, .slice none 0 0] 128 (0, 0))) (hBw : B ≤ w.heap.size) (hn : n ≤ 281474976710656) :
    Calls Tryz.prog 112 #[.pointer (some ⟨b, 0, none⟩), .int .i64 n] w fun e w' => e = .returned (.tuple #[]) ∧ (Lib.BuilderAt 128 5 B b (.pointer (some ⟨b, 0, none⟩)) [] w' ∧ Below B w w') := Any.Builder_Grow_fresh Tryz.lays165 Tryz.Builder_Extra_165 B b n w hB hbk hBw hn
def Tryz.lays156_ren : Go.Shelf.Ren := ⟨fun | 156 => 74 | 165 => 112 | 166 => 63 | 169 => 66 | 240 => 101 | 241 => 149 | 276 => 137 | 277 => 174 | n => n, fun | 31 => 93 | 9 => 9 | 3 => 3 | 4 => 4 | 0 => 0 | 20 => 20 | 72 => 128 | 76 => 131 | 70 => 125 | 37 => 126 | 75 => 130 | 127 => 172 | 164 => 199 | 5 => 5 | 80 => 134 | n => n, fun | n => n⟩
theorem Tryz.lays156 : Go.Proofs.Lays.n156 Tryz.prog Tryz.lays156_ren := {
  mixed := by kernel_rfl
  f156 := Tryz.func74.trans (congrArg some (by kernel_rfl))
  f165 := Tryz.func112.trans (congrArg some (by kernel_rfl))
  f166 := Tryz.func63.trans (congrArg some (by kernel_rfl))
  f169 := Tryz.func66.trans (congrArg some (by kernel_rfl))
  f240 := Tryz.func101.trans (congrArg some (by kernel_rfl))
  f241 := Tryz.func149.trans (congrArg some (by kernel_rfl))
  f276 := Tryz.func137.trans (congrArg some (by kernel_rfl))
  f277 := Tryz.func174.trans (congrArg some (by kernel_rfl))
  t0 := Tryz.underlying0
  a0 := Tryz.isAgg0
  z0 := Tryz.sizeOf0
  v0 := Tryz.zeroValue0
  t3 := Tryz.underlying3
  a3 := Tryz.isAgg3
  z3 := Tryz.sizeOf3
  v3 := Tryz.zeroValue3
  t4 := Tryz.underlying4
  a4 := Tryz.isAgg4
  z4 := Tryz.sizeOf4
  v4 := Tryz.zeroValue4
  t9 := Tryz.underlying9
  a9 := Tryz.isAgg9
  z9 := Tryz.sizeOf9
  v9 := Tryz.zeroValue9
  t20 := Tryz.underlying20
  a20 := Tryz.isAgg20
  z20 := Tryz.sizeOf20
  v20 := Tryz.zeroValue20
  t31 := Tryz.underlying93
  a31 := Tryz.isAgg93
  z31 := Tryz.sizeOf93
  v31 := Tryz.zeroValue93
  t37 := Tryz.underlying126
  a37 := Tryz.isAgg126
  z37 := Tryz.sizeOf126
  v37 := Tryz.zeroValue126
  t70 := Tryz.underlying125
  a70 := Tryz.isAgg125
  z70 := Tryz.sizeOf125
  v70 := Tryz.zeroValue125
  t72 := Tryz.underlying128
  a72 := Tryz.isAgg128
  z72 := Tryz.sizeOf128
  v72 := Tryz.zeroValue128
  t75 := Tryz.underlying130
  a75 := Tryz.isAgg130
  z75 := Tryz.sizeOf130
  v75 := Tryz.zeroValue130
  t76 := Tryz.underlying131
  a76 := Tryz.isAgg131
  z76 := Tryz.sizeOf131
  v76 := Tryz.zeroValue131
  t127 := Tryz.underlying172
  a127 := Tryz.isAgg172
  z127 := Tryz.sizeOf172
  v127 := Tryz.zeroValue172
  t164 := Tryz.underlying199
  a164 := Tryz.isAgg199
  z164 := Tryz.sizeOf199
  v164 := Tryz.zeroValue199 }
theorem Tryz.Builder_Extra_156 : Builder.Extra Tryz.prog Tryz.lays156_ren := {
  sizeBuilder := by kernel_rfl
  liesBuilder := by kernel_rfl
  t5 := Tryz.underlying5
  a5 := Tryz.isAgg5
  z5 := Tryz.sizeOf5
  v5 := Tryz.zeroValue5
  infoByte := by kernel_rfl
  cellsByte := by kernel_rfl
  sizeByte := by kernel_rfl
  neB5 := by decide }
open Go.RowKit in
/-- No element: the empty string; the world is as it was. (Whatever the slice's address and capacity: a nil slice too.) (LAID: no walk: one application.) -/
theorem Tryz.strings_Join_none (a : Option Addr) (c : Nat) (sep : ByteArray) (w : World) :
    Calls Tryz.prog 74 #[.slice a 0 c, .string sep] w fun e w' => e = .returned (.string ⟨#[]⟩) ∧ w' = w := Any.strings_Join_none Tryz.lays156 Tryz.Builder_Extra_156 a c sep w
open Go.RowKit in
/-- strings.Join: "Join concatenates the elements of its first argument to create a single string. The separator string sep is placed between elements in the resulting string.": HOWEVER MANY ELEMENTS. Below the heap's end the world is as it was. (LAID: no walk: one application.) -/
theorem Tryz.strings_Join (bk o c : Nat) (xs : List ByteArray) (sep : ByteArray) (w : World) (hcells : ∀ (j : Nat) x, xs[j]? = some x → w.cell? ⟨bk, o + j, none⟩ = some (.string x)) (hbk : bk < w.heap.size) (hN : xs.length ≤ 140737488355328) (hcap : xs.length ≤ c) (hlen : (Lib.join (xs.map (·.data.toList)) sep.data.toList).length ≤ 140737488355328) :
    Calls Tryz.prog 74 #[.slice (some ⟨bk, o, none⟩) xs.length c, .string sep] w fun e w' => e = .returned (.string ⟨(Lib.join (xs.map (·.data.toList)) sep.data.toList).toArray⟩) ∧ Below w.heap.size w w' := Any.strings_Join Tryz.lays156 Tryz.Builder_Extra_156 bk o c xs sep w hcells hbk hN hcap hlen
def Tryz.lays231_ren : Go.Shelf.Ren := ⟨fun | 231 => 158 | n => n, fun | 9 => 9 | 5 => 5 | 3 => 3 | 4 => 4 | n => n, fun | n => n⟩
theorem Tryz.lays231 : Go.Proofs.Lays.n231 Tryz.prog Tryz.lays231_ren := {
  mixed := by kernel_rfl
  f231 := Tryz.func158.trans (congrArg some (by kernel_rfl))
  t3 := Tryz.underlying3
  a3 := Tryz.isAgg3
  z3 := Tryz.sizeOf3
  v3 := Tryz.zeroValue3
  t4 := Tryz.underlying4
  a4 := Tryz.isAgg4
  z4 := Tryz.sizeOf4
  v4 := Tryz.zeroValue4
  t5 := Tryz.underlying5
  a5 := Tryz.isAgg5
  z5 := Tryz.sizeOf5
  v5 := Tryz.zeroValue5
  t9 := Tryz.underlying9
  a9 := Tryz.isAgg9
  z9 := Tryz.sizeOf9
  v9 := Tryz.zeroValue9 }
open Go.RowKit in
/-- strings.trimLeftByte (no doc; what TrimLeft and Trim call at a cutset of one ASCII byte): the leading bytes that are c are cut off. The world is as it was. (LAID: no walk: one application.) -/
theorem Tryz.strings_trimLeftByte (s : ByteArray) (c : UInt8) (w : World) :
    Calls Tryz.prog 158 #[.string s, .int .u8 c.toNat] w fun e w' => e = .returned (.string ⟨(Lib.trimLeftB s.data.toList c).toArray⟩) ∧ w' = w := Any.strings_trimLeftByte Tryz.lays231 s c w
def Tryz.lays232_ren : Go.Shelf.Ren := ⟨fun | 232 => 159 | n => n, fun | 9 => 9 | 5 => 5 | 3 => 3 | 4 => 4 | n => n, fun | n => n⟩
theorem Tryz.lays232 : Go.Proofs.Lays.n232 Tryz.prog Tryz.lays232_ren := {
  mixed := by kernel_rfl
  f232 := Tryz.func159.trans (congrArg some (by kernel_rfl))
  t3 := Tryz.underlying3
  a3 := Tryz.isAgg3
  z3 := Tryz.sizeOf3
  v3 := Tryz.zeroValue3
  t4 := Tryz.underlying4
  a4 := Tryz.isAgg4
  z4 := Tryz.sizeOf4
  v4 := Tryz.zeroValue4
  t5 := Tryz.underlying5
  a5 := Tryz.isAgg5
  z5 := Tryz.sizeOf5
  v5 := Tryz.zeroValue5
  t9 := Tryz.underlying9
  a9 := Tryz.isAgg9
  z9 := Tryz.sizeOf9
  v9 := Tryz.zeroValue9 }
open Go.RowKit in
/-- strings.trimRightByte (no doc; what TrimRight and Trim call at a cutset of one ASCII byte): the trailing bytes that are c are cut off. The world is as it was. ('hs': a string's length is a number that an int holds.) (LAID: no walk: one application.) -/
theorem Tryz.strings_trimRightByte (s : ByteArray) (c : UInt8) (w : World) (hs : s.size ≤ 9223372036854775807) :
    Calls Tryz.prog 159 #[.string s, .int .u8 c.toNat] w fun e w' => e = .returned (.string ⟨(Lib.trimRightB s.data.toList c).toArray⟩) ∧ w' = w := Any.strings_trimRightByte Tryz.lays232 s c w hs
def Tryz.lays160_ren : Go.Shelf.Ren := ⟨fun | 160 => 140 | 232 => 159 | 231 => 158 | 227 => 160 | 234 => 162 | 233 => 161 | 236 => 164 | 235 => 163 | 228 => 177 | 271 => 180 | 151 => 179 | 197 => 178 | 120 => 190 | 152 => 189 | 260 => 188 | 137 => 152 | 119 => 191 | 224 => 192 | 225 => 193 | 217 => 175 | 266 => 187 | n => n, fun | 9 => 9 | 4 => 4 | 3 => 3 | 5 => 5 | 117 => 228 | 116 => 227 | 0 => 0 | 124 => 231 | 21 => 21 | 105 => 244 | 46 => 116 | 119 => 257 | 139 => 260 | 138 => 259 | n => n, fun | 3 => 7 | 4 => 8 | n => n⟩
theorem Tryz.lays160 : Go.Proofs.Lays.n160 Tryz.prog Tryz.lays160_ren := {
  mixed := by kernel_rfl
  f119 := Tryz.func191.trans (congrArg some (by kernel_rfl))
  f120 := Tryz.func190.trans (congrArg some (by kernel_rfl))
  f137 := Tryz.func152.trans (congrArg some (by kernel_rfl))
  f151 := Tryz.func179.trans (congrArg some (by kernel_rfl))
  f152 := Tryz.func189.trans (congrArg some (by kernel_rfl))
  f160 := Tryz.func140.trans (congrArg some (by kernel_rfl))
  f197 := Tryz.func178.trans (congrArg some (by kernel_rfl))
  f217 := Tryz.func175.trans (congrArg some (by kernel_rfl))
  f224 := Tryz.func192.trans (congrArg some (by kernel_rfl))
  f225 := Tryz.func193.trans (congrArg some (by kernel_rfl))
  f227 := Tryz.func160.trans (congrArg some (by kernel_rfl))
  f228 := Tryz.func177.trans (congrArg some (by kernel_rfl))
  f231 := Tryz.func158.trans (congrArg some (by kernel_rfl))
  f232 := Tryz.func159.trans (congrArg some (by kernel_rfl))
  f233 := Tryz.func161.trans (congrArg some (by kernel_rfl))
  f234 := Tryz.func162.trans (congrArg some (by kernel_rfl))
  f235 := Tryz.func163.trans (congrArg some (by kernel_rfl))
  f236 := Tryz.func164.trans (congrArg some (by kernel_rfl))
  f260 := Tryz.func188.trans (congrArg some (by kernel_rfl))
  f266 := Tryz.func187.trans (congrArg some (by kernel_rfl))
  f271 := Tryz.func180.trans (congrArg some (by kernel_rfl))
  t0 := Tryz.underlying0
  a0 := Tryz.isAgg0
  z0 := Tryz.sizeOf0
  v0 := Tryz.zeroValue0
  t3 := Tryz.underlying3
  a3 := Tryz.isAgg3
  z3 := Tryz.sizeOf3
  v3 := Tryz.zeroValue3
  t4 := Tryz.underlying4
  a4 := Tryz.isAgg4
  z4 := Tryz.sizeOf4
  v4 := Tryz.zeroValue4
  t5 := Tryz.underlying5
  a5 := Tryz.isAgg5
  z5 := Tryz.sizeOf5
  v5 := Tryz.zeroValue5
  t9 := Tryz.underlying9
  a9 := Tryz.isAgg9
  z9 := Tryz.sizeOf9
  v9 := Tryz.zeroValue9
  t21 := Tryz.underlying21
  a21 := Tryz.isAgg21
  z21 := Tryz.sizeOf21
  v21 := Tryz.zeroValue21
  t46 := Tryz.underlying116
  a46 := Tryz.isAgg116
  z46 := Tryz.sizeOf116
  v46 := Tryz.zeroValue116
  t105 := Tryz.underlying244
  a105 := Tryz.isAgg244
  z105 := Tryz.sizeOf244
  v105 := Tryz.zeroValue244
  t116 := Tryz.underlying227
  a116 := Tryz.isAgg227
  z116 := Tryz.sizeOf227
  t117 := Tryz.underlying228
  a117 := Tryz.isAgg228
  z117 := Tryz.sizeOf228
  v117 := Tryz.zeroValue228
  t119 := Tryz.underlying257
  a119 := Tryz.isAgg257
  z119 := Tryz.sizeOf257
  t124 := Tryz.underlying231
  a124 := Tryz.isAgg231
  z124 := Tryz.sizeOf231
  v124 := Tryz.zeroValue231
  t138 := Tryz.underlying259
  a138 := Tryz.isAgg259
  z138 := Tryz.sizeOf259
  v138 := Tryz.zeroValue259
  t139 := Tryz.underlying260
  a139 := Tryz.isAgg260
  z139 := Tryz.sizeOf260
  v139 := Tryz.zeroValue260
  g3 := by kernel_rfl
  g4 := by kernel_rfl }
open Go.RowKit in
/-- strings.Trim: "Trim returns a slice of the string s with all leading and trailing Unicode code points contained in cutset removed.": AT A cutset OF ONE ASCII BYTE. THE WORLD BEHIND IT: as it was, or (where s is not empty) with ONE DRAW MORE off the tape: the statement 'return trimLeftByte(trimRightByte(s, c), c)' draws its order of evaluation. (LAID: no walk: one application.) -/
theorem Tryz.strings_Trim_one (s : ByteArray) (c : UInt8) (hc : c.toNat < 128) (w : World) (hs : s.size ≤ 9223372036854775807) :
    Calls Tryz.prog 140 #[.string s, .string ⟨#[c]⟩] w fun e w' => e = .returned (.string ⟨(Lib.trimB s.data.toList c).toArray⟩) ∧ (w' = w ∨ w' = w.drew) := Any.strings_Trim_one Tryz.lays160 s c hc w hs
def Tryz.lays119_ren : Go.Shelf.Ren := ⟨fun | 119 => 191 | n => n, fun | 21 => 21 | 4 => 4 | n => n, fun | n => n⟩
theorem Tryz.lays119 : Go.Proofs.Lays.n119 Tryz.prog Tryz.lays119_ren := {
  mixed := by kernel_rfl
  f119 := Tryz.func191.trans (congrArg some (by kernel_rfl))
  t4 := Tryz.underlying4
  a4 := Tryz.isAgg4
  z4 := Tryz.sizeOf4
  v4 := Tryz.zeroValue4
  t21 := Tryz.underlying21
  a21 := Tryz.isAgg21
  z21 := Tryz.sizeOf21
  v21 := Tryz.zeroValue21 }
/-- utf8.ValidRune: "ValidRune reports whether r can be legally encoded as UTF-8. Code points that are out of range or a surrogate half are illegal.": IT RETURNS 'Lib.validRune r'; the world is as it was. (LAID: no walk: one application.) -/
theorem Tryz.utf8_ValidRune (r : Int) (w : World) :
    Calls Tryz.prog 191 #[.int .i32 r] w fun e w' => e = .returned (.bool (Lib.validRune r)) ∧ w' = w := Any.utf8_ValidRune Tryz.lays119 r w
def Tryz.lays120_ren : Go.Shelf.Ren := ⟨fun | 120 => 190 | n => n, fun | 5 => 5 | 4 => 4 | n => n, fun | n => n⟩
theorem Tryz.lays120 : Go.Proofs.Lays.n120 Tryz.prog Tryz.lays120_ren := {
  mixed := by kernel_rfl
  f120 := Tryz.func190.trans (congrArg some (by kernel_rfl))
  t4 := Tryz.underlying4
  a4 := Tryz.isAgg4
  z4 := Tryz.sizeOf4
  v4 := Tryz.zeroValue4
  t5 := Tryz.underlying5
  a5 := Tryz.isAgg5
  z5 := Tryz.sizeOf5
  v5 := Tryz.zeroValue5 }
/-- utf8.RuneStart: "RuneStart reports whether the byte could be the first byte of an encoded, possibly invalid rune. Second and subsequent bytes always have the top two bits set to 10.": IT RETURNS 'Lib.runeStart b'; the world is as it was. ('h0', 'h1': b is a byte: a caller has it of every byte that it was handed.) (LAID: no walk: one application.) -/
theorem Tryz.utf8_RuneStart (b : Int) (w : World) (h0 : 0 ≤ b) (h1 : b < 256) :
    Calls Tryz.prog 190 #[.int .u8 b] w fun e w' => e = .returned (.bool (Lib.runeStart b)) ∧ w' = w := Any.utf8_RuneStart Tryz.lays120 b w h0 h1
def Tryz.lays128_ren : Go.Shelf.Ren := ⟨fun | 128 => 89 | n => n, fun | 51 => 160 | 3 => 3 | 4 => 4 | 46 => 116 | 5 => 5 | 9 => 9 | n => n, fun | n => n⟩
theorem Tryz.lays128 : Go.Proofs.Lays.n128 Tryz.prog Tryz.lays128_ren := {
  mixed := by kernel_rfl
  f128 := Tryz.func89.trans (congrArg some (by kernel_rfl))
  t3 := Tryz.underlying3
  a3 := Tryz.isAgg3
  z3 := Tryz.sizeOf3
  v3 := Tryz.zeroValue3
  t4 := Tryz.underlying4
  a4 := Tryz.isAgg4
  z4 := Tryz.sizeOf4
  v4 := Tryz.zeroValue4
  t5 := Tryz.underlying5
  a5 := Tryz.isAgg5
  z5 := Tryz.sizeOf5
  v5 := Tryz.zeroValue5
  t9 := Tryz.underlying9
  a9 := Tryz.isAgg9
  z9 := Tryz.sizeOf9
  v9 := Tryz.zeroValue9
  t46 := Tryz.underlying116
  a46 := Tryz.isAgg116
  z46 := Tryz.sizeOf116
  v46 := Tryz.zeroValue116
  t51 := Tryz.underlying160
  a51 := Tryz.isAgg160
  z51 := Tryz.sizeOf160
  v51 := Tryz.zeroValue160 }
/-- bits.Len32: "Len32 returns the minimum number of bits required to represent x; the result is 0 for x == 0.": IT RETURNS 'Lib.bitLen x'; the world is as it was. ('h0', 'h1': x is a uint32.) (LAID: no walk: one application.) -/
theorem Tryz.bits_Len32 (x : Int) (w : World) (h0 : 0 ≤ x) (h1 : x ≤ 4294967295) :
    Calls Tryz.prog 89 #[.int .u32 x] w fun e w' => e = .returned (.int .i64 (Lib.bitLen x.toNat)) ∧ w' = w := Any.bits_Len32 Tryz.lays128 x w h0 h1
def Tryz.lays125_ren : Go.Shelf.Ren := ⟨fun | 125 => 56 | 128 => 89 | 129 => 90 | n => n, fun | 46 => 116 | 3 => 3 | 51 => 160 | 53 => 97 | 4 => 4 | 5 => 5 | 9 => 9 | n => n, fun | n => n⟩
theorem Tryz.lays125 : Go.Proofs.Lays.n125 Tryz.prog Tryz.lays125_ren := {
  mixed := by kernel_rfl
  f125 := Tryz.func56.trans (congrArg some (by kernel_rfl))
  f128 := Tryz.func89.trans (congrArg some (by kernel_rfl))
  f129 := Tryz.func90.trans (congrArg some (by kernel_rfl))
  t3 := Tryz.underlying3
  a3 := Tryz.isAgg3
  z3 := Tryz.sizeOf3
  v3 := Tryz.zeroValue3
  t4 := Tryz.underlying4
  a4 := Tryz.isAgg4
  z4 := Tryz.sizeOf4
  v4 := Tryz.zeroValue4
  t5 := Tryz.underlying5
  a5 := Tryz.isAgg5
  z5 := Tryz.sizeOf5
  v5 := Tryz.zeroValue5
  t9 := Tryz.underlying9
  a9 := Tryz.isAgg9
  z9 := Tryz.sizeOf9
  v9 := Tryz.zeroValue9
  t46 := Tryz.underlying116
  a46 := Tryz.isAgg116
  z46 := Tryz.sizeOf116
  v46 := Tryz.zeroValue116
  t51 := Tryz.underlying160
  a51 := Tryz.isAgg160
  z51 := Tryz.sizeOf160
  v51 := Tryz.zeroValue160
  t53 := Tryz.underlying97
  a53 := Tryz.isAgg97
  z53 := Tryz.sizeOf97
  v53 := Tryz.zeroValue97 }
/-- bits.Len: "Len returns the minimum number of bits required to represent x; the result is 0 for x == 0.": IT RETURNS 'Lib.bitLen x'; the world is as it was. (A uint has 64 bits in the model.) ITS CALLEE bits.Len64 IS MET BY ITS OWN CONTRACT OFF THE SHELF (lay that first). (LAID: no walk: one application.) -/
theorem Tryz.bits_Len (x : Int) (w : World) (h0 : 0 ≤ x) (h1 : x ≤ 18446744073709551615) :
    Calls Tryz.prog 56 #[.int .u64 x] w fun e w' => e = .returned (.int .i64 (Lib.bitLen x.toNat)) ∧ w' = w := Any.bits_Len Tryz.lays125 x w h0 h1
def Tryz.lays137_ren : Go.Shelf.Ren := ⟨fun | 137 => 152 | 217 => 175 | 266 => 187 | n => n, fun | 9 => 9 | 5 => 5 | 3 => 3 | n => n, fun | n => n⟩
theorem Tryz.lays137 : Go.Proofs.Lays.n137 Tryz.prog Tryz.lays137_ren := {
  mixed := by kernel_rfl
  f137 := Tryz.func152.trans (congrArg some (by kernel_rfl))
  f217 := Tryz.func175.trans (congrArg some (by kernel_rfl))
  f266 := Tryz.func187.trans (congrArg some (by kernel_rfl))
  t3 := Tryz.underlying3
  a3 := Tryz.isAgg3
  z3 := Tryz.sizeOf3
  v3 := Tryz.zeroValue3
  t5 := Tryz.underlying5
  a5 := Tryz.isAgg5
  z5 := Tryz.sizeOf5
  v5 := Tryz.zeroValue5
  t9 := Tryz.underlying9
  a9 := Tryz.isAgg9
  z9 := Tryz.sizeOf9
  v9 := Tryz.zeroValue9 }
open Go.RowKit in
/-- strings.IndexByte: "IndexByte returns the index of the first instance of c in s, or -1 if c is not present in s.": IT RETURNS 'Lib.indexByte s c'; the world is as it was. (LAID: no walk: one application.) -/
theorem Tryz.strings_IndexByte (s : ByteArray) (c : Int) (w : World) :
    Calls Tryz.prog 152 #[.string s, .int .u8 c] w fun e w' => e = .returned (.int .i64 (Lib.indexByte s.data.toList c.toNat.toUInt8)) ∧ w' = w := Any.strings_IndexByte Tryz.lays137 s c w
def Tryz.lays215_ren : Go.Shelf.Ren := ⟨fun | 215 => 62 | n => n, fun | 3 => 3 | 4 => 4 | n => n, fun | n => n⟩
theorem Tryz.lays215 : Go.Proofs.Lays.n215 Tryz.prog Tryz.lays215_ren := {
  mixed := by kernel_rfl
  f215 := Tryz.func62.trans (congrArg some (by kernel_rfl))
  t3 := Tryz.underlying3
  a3 := Tryz.isAgg3
  z3 := Tryz.sizeOf3
  v3 := Tryz.zeroValue3
  t4 := Tryz.underlying4
  a4 := Tryz.isAgg4
  z4 := Tryz.sizeOf4
  v4 := Tryz.zeroValue4 }
open Go.RowKit in
/-- cmp.isNaN at int: 'x != x': false. (LAID: no walk: one application.) -/
theorem Tryz.cmp_isNaN_int (x : Int) (w : World) :
    Calls Tryz.prog 62 #[.int .i64 x] w fun e w' => e = .returned (.bool false) ∧ w' = w := Any.cmp_isNaN_int Tryz.lays215 x w
def Tryz.lays122_ren : Go.Shelf.Ren := ⟨fun | 122 => 31 | 215 => 62 | n => n, fun | 3 => 3 | 4 => 4 | n => n, fun | n => n⟩
theorem Tryz.lays122 : Go.Proofs.Lays.n122 Tryz.prog Tryz.lays122_ren := {
  mixed := by kernel_rfl
  f122 := Tryz.func31.trans (congrArg some (by kernel_rfl))
  f215 := Tryz.func62.trans (congrArg some (by kernel_rfl))
  t3 := Tryz.underlying3
  a3 := Tryz.isAgg3
  z3 := Tryz.sizeOf3
  v3 := Tryz.zeroValue3
  t4 := Tryz.underlying4
  a4 := Tryz.isAgg4
  z4 := Tryz.sizeOf4
  v4 := Tryz.zeroValue4 }
open Go.RowKit in
/-- cmp.Compare at int: "Compare returns -1 if x is less than y, 0 if x equals y, +1 if x is greater than y.": IT RETURNS 'Lib.compareInt x y'; the world is as it was. (LAID: no walk: one application.) -/
theorem Tryz.cmp_Compare_int (x y : Int) (w : World) :
    Calls Tryz.prog 31 #[.int .i64 x, .int .i64 y] w fun e w' => e = .returned (.int .i64 (Lib.compareInt x y)) ∧ w' = w := Any.cmp_Compare_int Tryz.lays122 x y w
open Go.RowKit in
/-- (*strings.Builder).Len: "Len returns the number of accumulated bytes; b.Len() == len(b.String()).": the world is as it was. (THE FORM '_f': 'Lib.IsBuilderF'.) (LAID: no walk: one application.) -/
theorem Tryz.Builder_Len_f (B b : Nat) (bs : List Value) (w : World) (h : Lib.IsBuilderF 128 5 B b bs w) :
    Calls Tryz.prog 113 #[.pointer (some ⟨b, 0, none⟩)] w fun e w' => e = .returned (.int .i64 bs.length) ∧ w' = w := Any.Builder_Len_f Tryz.lays170 B b bs w h
open Go.RowKit in
/-- (*strings.Builder).String: "String returns the accumulated string.": OF A BUILDER THAT HOLDS AT LEAST ONE BYTE. ✋ THE MODEL FREEZES THOSE BYTES IN THE BUFFER (unsafe.String): a later write INTO them ends the model's run without an answer; a later append BEHIND them goes on. The statement's order of evaluation is drawn: one draw. THE FORM '_f': IT SAYS BESIDES THAT THE BUILDER IS A BUILDER STILL ('Lib.IsBuilderF', the same bytes): SO IT CAN BE WRITTEN ON: 'b.WriteString(b.String()[:k])'. (LAID: no walk: one application.) -/
theorem Tryz.Builder_String_f (B b : Nat) (l : List UInt8) (w : World) (h : Lib.IsBuilderF 128 5 B b (Lib.byteCells l) w) (h0 : l ≠ []) :
    Calls Tryz.prog 66 #[.pointer (some ⟨b, 0, none⟩)] w fun e w' => e = .returned (.string ⟨l.toArray⟩) ∧ (Lib.IsBuilderF 128 5 B b (Lib.byteCells l) w' ∧ Below B w w') := Any.Builder_String_f Tryz.lays169 Tryz.Builder_Extra_169 B b l w h h0
open Go.RowKit in
/-- (*strings.Builder).String OF A BUILDER THAT HOLDS NO BYTE: the empty string; THE FORM '_f': a builder still. (LAID: no walk: one application.) -/
theorem Tryz.Builder_String_empty_f (B b : Nat) (w : World) (h : Lib.IsBuilderF 128 5 B b [] w) (hBw : B ≤ w.heap.size) :
    Calls Tryz.prog 66 #[.pointer (some ⟨b, 0, none⟩)] w fun e w' => e = .returned (.string ⟨#[]⟩) ∧ (Lib.IsBuilderF 128 5 B b [] w' ∧ Below B w w') := Any.Builder_String_empty_f Tryz.lays169 Tryz.Builder_Extra_169 B b w h hBw
open Go.RowKit in
/-- (*strings.Builder).String: "String returns the accumulated string.": WHATEVER THE BUILDER HOLDS; THE FORM '_f': OF A BUILDER THAT MAY HAVE BEEN READ BEFORE; AND IT IS A BUILDER STILL, holding the same bytes: it can be written on. (LAID: no walk: one application.) -/
theorem Tryz.Builder_String_any_f (B b : Nat) (l : List UInt8) (w : World) (h : Lib.IsBuilderF 128 5 B b (Lib.byteCells l) w) (hBw : B ≤ w.heap.size) :
    Calls Tryz.prog 66 #[.pointer (some ⟨b, 0, none⟩)] w fun e w' => e = .returned (.string ⟨l.toArray⟩) ∧ (Lib.IsBuilderF 128 5 B b (Lib.byteCells l) w' ∧ Below B w w') := Any.Builder_String_any_f Tryz.lays169 Tryz.Builder_Extra_169 B b l w h hBw
open Go.RowKit in
/-- (*strings.Builder).String: "String returns the accumulated string.": OF A BUILDER THAT HOLDS AT LEAST ONE BYTE. ✋ THE MODEL FREEZES THOSE BYTES IN THE BUFFER (unsafe.String): a later write INTO them ends the model's run without an answer; a later append BEHIND them goes on. The statement's order of evaluation is drawn: one draw. THE FORM '_k': OVER 'Lib.IsBuilderF' (a builder that 'String()' may have read), AND WITH THE FRAME THAT REACHES ABOVE THE BUILDER: 'Lib.OthersKept': every block that is not b and is no row of uint8's stands as it stood: the iterator of a range among them. (LAID: no walk: one application.) -/
theorem Tryz.Builder_String_k (B b : Nat) (l : List UInt8) (w : World) (h : Lib.IsBuilderF 128 5 B b (Lib.byteCells l) w) (h0 : l ≠ []) :
    Calls Tryz.prog 66 #[.pointer (some ⟨b, 0, none⟩)] w fun e w' => e = .returned (.string ⟨l.toArray⟩) ∧ (Lib.IsBuilderF 128 5 B b (Lib.byteCells l) w' ∧ Below B w w' ∧ Lib.OthersKept 5 (some b) w w') := Any.Builder_String_k Tryz.lays169 Tryz.Builder_Extra_169 B b l w h h0
open Go.RowKit in
/-- (*strings.Builder).String OF A BUILDER THAT HOLDS NO BYTE: the empty string; THE FORM '_k': OVER 'Lib.IsBuilderF' (a builder that 'String()' may have read), AND WITH THE FRAME THAT REACHES ABOVE THE BUILDER: 'Lib.OthersKept': every block that is not b and is no row of uint8's stands as it stood: the iterator of a range among them. (LAID: no walk: one application.) -/
theorem Tryz.Builder_String_empty_k (B b : Nat) (w : World) (h : Lib.IsBuilderF 128 5 B b [] w) (hBw : B ≤ w.heap.size) :
    Calls Tryz.prog 66 #[.pointer (some ⟨b, 0, none⟩)] w fun e w' => e = .returned (.string ⟨#[]⟩) ∧ (Lib.IsBuilderF 128 5 B b [] w' ∧ Below B w w' ∧ Lib.OthersKept 5 (some b) w w') := Any.Builder_String_empty_k Tryz.lays169 Tryz.Builder_Extra_169 B b w h hBw
open Go.RowKit in
/-- (*strings.Builder).String: "String returns the accumulated string.": WHATEVER THE BUILDER HOLDS; THE FORM '_k': OVER 'Lib.IsBuilderF' (a builder that 'String()' may have read), AND WITH THE FRAME THAT REACHES ABOVE THE BUILDER: 'Lib.OthersKept': every block that is not b and is no row of uint8's stands as it stood: the iterator of a range among them. (LAID: no walk: one application.) -/
theorem Tryz.Builder_String_any_k (B b : Nat) (l : List UInt8) (w : World) (h : Lib.IsBuilderF 128 5 B b (Lib.byteCells l) w) (hBw : B ≤ w.heap.size) :
    Calls Tryz.prog 66 #[.pointer (some ⟨b, 0, none⟩)] w fun e w' => e = .returned (.string ⟨l.toArray⟩) ∧ (Lib.IsBuilderF 128 5 B b (Lib.byteCells l) w' ∧ Below B w w' ∧ Lib.OthersKept 5 (some b) w w') := Any.Builder_String_any_k Tryz.lays169 Tryz.Builder_Extra_169 B b l w h hBw
open Go.RowKit in
/-- (*strings.Builder).grow (no doc but "grow copies the buffer to a new, larger buffer so that there are at least n bytes of capacity beyond len(b.buf)."): AT A BUILDER WITHOUT A BUFFER: a new row of whatever bytes for its buffer, none of them its own yet. Three draws. (LAID: no walk: one application.) -/
theorem Tryz.Builder_grow_fresh_cap (B b n : Nat) (w : World) (hB : B ≤ b) (hbk : w.heap[b]? = some (.cells #[.pointer (some ⟨b, 0, none⟩), .slice none 0 0] 128 (0, 0))) (hBw : B ≤ w.heap.size) (hn : n ≤ 281474976710656) :
    Calls Tryz.prog 149 #[.pointer (some ⟨b, 0, none⟩), .int .i64 n] w fun e w' => e = .returned (.tuple #[]) ∧ (Lib.BuilderAt 128 5 B b (.pointer (some ⟨b, 0, none⟩)) [] w' ∧ Below B w w') ∧ ∃ p cap, w'.cell? ⟨b, 1, none⟩ = some (.slice p 0 cap) ∧ n ≤ cap := Any.Builder_grow_fresh_cap Tryz.lays241 Tryz.Builder_Extra_241 B b n w hB hbk hBw hn
open Go.RowKit in
/-- (*strings.Builder).Grow AT A BUILDER THAT HAS NOT BEEN WRITTEN ('var b strings.Builder; b.Grow(n)'): "Grow grows b's capacity, if necessary, to guarantee space for another n bytes.": it holds no byte behind it as before it. (LAID: no walk: one application.) -/
theorem Tryz.Builder_Grow_fresh_cap (B b n : Nat) (w : World) (hB : B ≤ b) (hbk : w.heap[b]? = some (.cells #[.pointer none, .slice none 0 0] 128 (0, 0))) (hBw : B ≤ w.heap.size) (hn : n ≤ 281474976710656) :
    Calls Tryz.prog 112 #[.pointer (some ⟨b, 0, none⟩), .int .i64 n] w fun e w' => e = .returned (.tuple #[]) ∧ (Lib.BuilderAt 128 5 B b (.pointer (some ⟨b, 0, none⟩)) [] w' ∧ Below B w w') ∧ ∃ p cap, w'.cell? ⟨b, 1, none⟩ = some (.slice p 0 cap) ∧ n ≤ cap := Any.Builder_Grow_fresh_cap Tryz.lays165 Tryz.Builder_Extra_165 B b n w hB hbk hBw hn
def Tryz.lays129_ren : Go.Shelf.Ren := ⟨fun | 129 => 90 | n => n, fun | 53 => 97 | 3 => 3 | 4 => 4 | 46 => 116 | 5 => 5 | 9 => 9 | n => n, fun | n => n⟩
theorem Tryz.lays129 : Go.Proofs.Lays.n129 Tryz.prog Tryz.lays129_ren := {
  mixed := by kernel_rfl
  f129 := Tryz.func90.trans (congrArg some (by kernel_rfl))
  t3 := Tryz.underlying3
  a3 := Tryz.isAgg3
  z3 := Tryz.sizeOf3
  v3 := Tryz.zeroValue3
  t4 := Tryz.underlying4
  a4 := Tryz.isAgg4
  z4 := Tryz.sizeOf4
  v4 := Tryz.zeroValue4
  t5 := Tryz.underlying5
  a5 := Tryz.isAgg5
  z5 := Tryz.sizeOf5
  v5 := Tryz.zeroValue5
  t9 := Tryz.underlying9
  a9 := Tryz.isAgg9
  z9 := Tryz.sizeOf9
  v9 := Tryz.zeroValue9
  t46 := Tryz.underlying116
  a46 := Tryz.isAgg116
  z46 := Tryz.sizeOf116
  v46 := Tryz.zeroValue116
  t53 := Tryz.underlying97
  a53 := Tryz.isAgg97
  z53 := Tryz.sizeOf97
  v53 := Tryz.zeroValue97 }
/-- bits.Len64: "Len64 returns the minimum number of bits required to represent x; the result is 0 for x == 0.": IT RETURNS 'Lib.bitLen x'; the world is as it was. ('h0', 'h1': x is a uint64.) (LAID: no walk: one application.) -/
theorem Tryz.bits_Len64 (x : Int) (w : World) (h0 : 0 ≤ x) (h1 : x ≤ 18446744073709551615) :
    Calls Tryz.prog 90 #[.int .u64 x] w fun e w' => e = .returned (.int .i64 (Lib.bitLen x.toNat)) ∧ w' = w := Any.bits_Len64 Tryz.lays129 x w h0 h1
def Tryz.lays317_ren : Go.Shelf.Ren := ⟨fun | 317 => 170 | n => n, fun | 3 => 3 | 46 => 116 | n => n, fun | n => n⟩
theorem Tryz.lays317 : Go.Proofs.Lays.n317 Tryz.prog Tryz.lays317_ren := {
  mixed := by kernel_rfl
  f317 := Tryz.func170.trans (congrArg some (by kernel_rfl))
  t3 := Tryz.underlying3
  a3 := Tryz.isAgg3
  z3 := Tryz.sizeOf3
  v3 := Tryz.zeroValue3
  t46 := Tryz.underlying116
  a46 := Tryz.isAgg116
  z46 := Tryz.sizeOf116
  v46 := Tryz.zeroValue116 }
open Go.Lib in
/-- internal/strconv.log10Pow2: "log10Pow2(x) returns ⌊log₁₀ 2**x⌋ = ⌊x * log₁₀ 2⌋.": '(x * 78913) >> 18', at an x up to 64 (a length in bits). The world is as it was. (LAID: no walk: one application.) -/
theorem Tryz.internal_strconv_log10Pow2 (x : Nat) (h : x ≤ 64) (w : World) :
    Calls Tryz.prog 170 #[.int .i64 x] w fun e w' => e = .returned (.int .i64 (Lib.l10 x)) ∧ w' = w := Any.internal_strconv_log10Pow2 Tryz.lays317 x h w
def Tryz.lays318_ren : Go.Shelf.Ren := ⟨fun | 318 => 171 | n => n, fun | 3 => 3 | 4 => 4 | n => n, fun | n => n⟩
theorem Tryz.lays318 : Go.Proofs.Lays.n318 Tryz.prog Tryz.lays318_ren := {
  mixed := by kernel_rfl
  f318 := Tryz.func171.trans (congrArg some (by kernel_rfl))
  t3 := Tryz.underlying3
  a3 := Tryz.isAgg3
  z3 := Tryz.sizeOf3
  v3 := Tryz.zeroValue3
  t4 := Tryz.underlying4
  a4 := Tryz.isAgg4
  z4 := Tryz.sizeOf4
  v4 := Tryz.zeroValue4 }
open Go.Lib in
/-- internal/strconv.bool2: "bool2 converts b to an integer: 1 for true, 0 for false." The world is as it was. (LAID: no walk: one application.) -/
theorem Tryz.internal_strconv_bool2_int (b : Bool) (w : World) :
    Calls Tryz.prog 171 #[.bool b] w fun e w' => e = .returned (.int .i64 (if b then 1 else 0)) ∧ w' = w := Any.internal_strconv_bool2_int Tryz.lays318 b w
def Tryz.lays283_ren : Go.Shelf.Ren := ⟨fun | 283 => 143 | n => n, fun | 3 => 3 | 9 => 9 | 4 => 4 | n => n, fun | n => n⟩
theorem Tryz.lays283 : Go.Proofs.Lays.n283 Tryz.prog Tryz.lays283_ren := {
  mixed := by kernel_rfl
  f283 := Tryz.func143.trans (congrArg some (by kernel_rfl))
  t3 := Tryz.underlying3
  a3 := Tryz.isAgg3
  z3 := Tryz.sizeOf3
  v3 := Tryz.zeroValue3
  t4 := Tryz.underlying4
  a4 := Tryz.isAgg4
  z4 := Tryz.sizeOf4
  v4 := Tryz.zeroValue4
  t9 := Tryz.underlying9
  a9 := Tryz.isAgg9
  z9 := Tryz.sizeOf9
  v9 := Tryz.zeroValue9 }
open Go.Lib in
/-- internal/strconv.small: "small returns the string for an i with 0 <= i < nSmalls.": i's decimal numeral. The world is as it was. (LAID: no walk: one application.) -/
theorem Tryz.internal_strconv_small (i : Nat) (h : i < 100) (w : World) :
    Calls Tryz.prog 143 #[.int .i64 i] w fun e w' => e = .returned (.string ⟨(Lib.decDigits i).toArray⟩) ∧ w' = w := Any.internal_strconv_small Tryz.lays283 i h w
def Tryz.laysM284_ren : Go.Shelf.Ren := ⟨fun | 284 => 144 | 129 => 90 | 317 => 170 | 318 => 171 | n => n, fun | 53 => 97 | 3 => 3 | 212 => 239 | 0 => 0 | 4 => 4 | 46 => 116 | 5 => 5 | 9 => 9 | n => n, fun | 17 => 1 | n => n⟩
theorem Tryz.laysM284 : Go.Proofs.LaysM.n284 Tryz.prog Tryz.laysM284_ren := {
  mixed := by kernel_rfl
  f129 := Tryz.func90.trans (congrArg some (by kernel_rfl))
  f284 := Tryz.func144.trans (congrArg some (by kernel_rfl))
  f317 := Tryz.func170.trans (congrArg some (by kernel_rfl))
  f318 := Tryz.func171.trans (congrArg some (by kernel_rfl))
  t0 := Tryz.underlying0
  a0 := Tryz.isAgg0
  z0 := Tryz.sizeOf0
  v0 := Tryz.zeroValue0
  t3 := Tryz.underlying3
  a3 := Tryz.isAgg3
  z3 := Tryz.sizeOf3
  v3 := Tryz.zeroValue3
  t4 := Tryz.underlying4
  a4 := Tryz.isAgg4
  z4 := Tryz.sizeOf4
  v4 := Tryz.zeroValue4
  t5 := Tryz.underlying5
  a5 := Tryz.isAgg5
  z5 := Tryz.sizeOf5
  v5 := Tryz.zeroValue5
  t9 := Tryz.underlying9
  a9 := Tryz.isAgg9
  z9 := Tryz.sizeOf9
  v9 := Tryz.zeroValue9
  t46 := Tryz.underlying116
  a46 := Tryz.isAgg116
  z46 := Tryz.sizeOf116
  v46 := Tryz.zeroValue116
  t53 := Tryz.underlying97
  a53 := Tryz.isAgg97
  z53 := Tryz.sizeOf97
  v53 := Tryz.zeroValue97
  t212 := Tryz.underlying239
  a212 := Tryz.isAgg239
  z212 := Tryz.sizeOf239
  v212 := Tryz.zeroValue239
  g17 := by kernel_rfl
  i0 := by kernel_rfl
  i3 := by kernel_rfl
  i4 := by kernel_rfl
  i5 := by kernel_rfl
  i9 := by kernel_rfl
  i46 := by kernel_rfl
  i53 := by kernel_rfl
  i212 := by kernel_rfl
  m17 := by kernel_rfl }
open Go.Lib in
/-- internal/strconv.numDigits, at a d that is not 0: THE NUMBER OF d's DECIMAL DIGITS. The world is as it was. (LAID: no walk: one application.) -/
theorem Tryz.internal_strconv_numDigits (u : Nat) (h1 : 1 ≤ u) (h2 : u < 18446744073709551616) (w : World) (htab : Lib.TabIs Tryz.prog w "internal/strconv.uint64pow10" .u64 Lib.pow10Tab) :
    Calls Tryz.prog 144 #[.int .u64 u] w fun e w' => e = .returned (.int .i64 (Lib.nDigits u)) ∧ w' = w := Any.internal_strconv_numDigits Tryz.laysM284 u h1 h2 w htab
def Tryz.lays285_ren : Go.Shelf.Ren := ⟨fun | 285 => 145 | n => n, fun | 37 => 126 | 53 => 97 | 3 => 3 | 4 => 4 | 51 => 160 | 9 => 9 | 5 => 5 | 0 => 0 | n => n, fun | n => n⟩
theorem Tryz.lays285 : Go.Proofs.Lays.n285 Tryz.prog Tryz.lays285_ren := {
  mixed := by kernel_rfl
  f285 := Tryz.func145.trans (congrArg some (by kernel_rfl))
  t0 := Tryz.underlying0
  a0 := Tryz.isAgg0
  z0 := Tryz.sizeOf0
  v0 := Tryz.zeroValue0
  t3 := Tryz.underlying3
  a3 := Tryz.isAgg3
  z3 := Tryz.sizeOf3
  v3 := Tryz.zeroValue3
  t4 := Tryz.underlying4
  a4 := Tryz.isAgg4
  z4 := Tryz.sizeOf4
  v4 := Tryz.zeroValue4
  t5 := Tryz.underlying5
  a5 := Tryz.isAgg5
  z5 := Tryz.sizeOf5
  v5 := Tryz.zeroValue5
  t9 := Tryz.underlying9
  a9 := Tryz.isAgg9
  z9 := Tryz.sizeOf9
  v9 := Tryz.zeroValue9
  t37 := Tryz.underlying126
  a37 := Tryz.isAgg126
  z37 := Tryz.sizeOf126
  v37 := Tryz.zeroValue126
  t51 := Tryz.underlying160
  a51 := Tryz.isAgg160
  z51 := Tryz.sizeOf160
  v51 := Tryz.zeroValue160
  t53 := Tryz.underlying97
  a53 := Tryz.isAgg97
  z53 := Tryz.sizeOf97
  v53 := Tryz.zeroValue97 }
open Go.RowKit Go.Sort Go.Lib in
/-- internal/strconv.formatBase10: "formatBase10 formats the decimal representation of u into a. The caller is responsible for ensuring that a is big enough to hold u. If a is too big, leading zeros will be filled in as needed.": THE ROW HOLDS u's DIGITS ('FmtInv .. 0 ..': every place t holds 'dg u (len - 1 - t)'); all else is as it was but for the count of draws. (LAID: no walk: one application.) -/
theorem Tryz.internal_strconv_formatBase10 (blk off cap : Nat) (u : Nat) (d : Array UInt8) (w : World) (hH : Holds (fun (b : UInt8) => Value.int .u8 (b.toNat : Int)) w blk off d) (hu : u < 10 ^ d.size) (hu64 : u < 18446744073709551616) (hsz : d.size < 4611686018427387904) :
    Calls Tryz.prog 145 #[.slice (some ⟨blk, off, none⟩) d.size cap, .int .u64 u] w fun e w' =>
      e = .returned (.tuple #[]) ∧ ∃ (n v' : Nat) (dk : Array UInt8), w' = (putRow (fun (b : UInt8) => Value.int .u8 (b.toNat : Int)) w blk off dk).drewN n ∧ FmtInv d.size u 0 v' dk := Any.internal_strconv_formatBase10 Tryz.lays285 blk off cap u d w hH hu hu64 hsz
def Tryz.laysM246_ren : Go.Shelf.Ren := ⟨fun | 246 => 138 | 283 => 143 | 284 => 144 | 285 => 145 | 286 => 146 | 129 => 90 | 317 => 170 | 318 => 171 | 319 => 172 | 320 => 173 | 337 => 185 | 338 => 186 | n => n, fun | 2 => 2 | 3 => 3 | 9 => 9 | 4 => 4 | 171 => 210 | 0 => 0 | 53 => 97 | 37 => 126 | 5 => 5 | 173 => 212 | 212 => 239 | 51 => 160 | 20 => 20 | 213 => 240 | 46 => 116 | 232 => 255 | 233 => 256 | n => n, fun | 17 => 1 | 18 => 5 | 19 => 6 | n => n⟩
theorem Tryz.laysM246 : Go.Proofs.LaysM.n246 Tryz.prog Tryz.laysM246_ren := {
  mixed := by kernel_rfl
  f129 := Tryz.func90.trans (congrArg some (by kernel_rfl))
  f246 := Tryz.func138.trans (congrArg some (by kernel_rfl))
  f283 := Tryz.func143.trans (congrArg some (by kernel_rfl))
  f284 := Tryz.func144.trans (congrArg some (by kernel_rfl))
  f285 := Tryz.func145.trans (congrArg some (by kernel_rfl))
  f286 := Tryz.func146.trans (congrArg some (by kernel_rfl))
  f317 := Tryz.func170.trans (congrArg some (by kernel_rfl))
  f318 := Tryz.func171.trans (congrArg some (by kernel_rfl))
  f319 := Tryz.func172.trans (congrArg some (by kernel_rfl))
  f320 := Tryz.func173.trans (congrArg some (by kernel_rfl))
  f337 := Tryz.func185.trans (congrArg some (by kernel_rfl))
  f338 := Tryz.func186.trans (congrArg some (by kernel_rfl))
  t0 := Tryz.underlying0
  a0 := Tryz.isAgg0
  z0 := Tryz.sizeOf0
  v0 := Tryz.zeroValue0
  t2 := Tryz.underlying2
  a2 := Tryz.isAgg2
  z2 := Tryz.sizeOf2
  v2 := Tryz.zeroValue2
  t3 := Tryz.underlying3
  a3 := Tryz.isAgg3
  z3 := Tryz.sizeOf3
  v3 := Tryz.zeroValue3
  t4 := Tryz.underlying4
  a4 := Tryz.isAgg4
  z4 := Tryz.sizeOf4
  v4 := Tryz.zeroValue4
  t5 := Tryz.underlying5
  a5 := Tryz.isAgg5
  z5 := Tryz.sizeOf5
  v5 := Tryz.zeroValue5
  t9 := Tryz.underlying9
  a9 := Tryz.isAgg9
  z9 := Tryz.sizeOf9
  v9 := Tryz.zeroValue9
  t20 := Tryz.underlying20
  a20 := Tryz.isAgg20
  z20 := Tryz.sizeOf20
  v20 := Tryz.zeroValue20
  t37 := Tryz.underlying126
  a37 := Tryz.isAgg126
  z37 := Tryz.sizeOf126
  v37 := Tryz.zeroValue126
  t46 := Tryz.underlying116
  a46 := Tryz.isAgg116
  z46 := Tryz.sizeOf116
  v46 := Tryz.zeroValue116
  t51 := Tryz.underlying160
  a51 := Tryz.isAgg160
  z51 := Tryz.sizeOf160
  v51 := Tryz.zeroValue160
  t53 := Tryz.underlying97
  a53 := Tryz.isAgg97
  z53 := Tryz.sizeOf97
  v53 := Tryz.zeroValue97
  t171 := Tryz.underlying210
  a171 := Tryz.isAgg210
  z171 := Tryz.sizeOf210
  v171 := Tryz.zeroValue210
  t173 := Tryz.underlying212
  a173 := Tryz.isAgg212
  z173 := Tryz.sizeOf212
  v173 := Tryz.zeroValue212
  t212 := Tryz.underlying239
  a212 := Tryz.isAgg239
  z212 := Tryz.sizeOf239
  v212 := Tryz.zeroValue239
  t213 := Tryz.underlying240
  a213 := Tryz.isAgg240
  z213 := Tryz.sizeOf240
  t232 := Tryz.underlying255
  a232 := Tryz.isAgg255
  z232 := Tryz.sizeOf255
  v232 := Tryz.zeroValue255
  t233 := Tryz.underlying256
  a233 := Tryz.isAgg256
  z233 := Tryz.sizeOf256
  v233 := Tryz.zeroValue256
  g17 := by kernel_rfl
  g18 := by kernel_rfl
  g19 := by kernel_rfl
  i0 := by kernel_rfl
  i2 := by kernel_rfl
  i3 := by kernel_rfl
  i4 := by kernel_rfl
  i5 := by kernel_rfl
  i9 := by kernel_rfl
  i20 := by kernel_rfl
  i37 := by kernel_rfl
  i46 := by kernel_rfl
  i51 := by kernel_rfl
  i53 := by kernel_rfl
  i171 := by kernel_rfl
  i173 := by kernel_rfl
  i212 := by kernel_rfl
  i232 := by kernel_rfl
  i233 := by kernel_rfl
  m17 := by kernel_rfl
  m18 := by kernel_rfl
  m19 := by kernel_rfl }
open Go.RowKit Go.Sort Go.Lib in
/-- internal/strconv.FormatInt: "FormatInt returns the string representation of i in the given base": AT BASE 10: i's decimal numeral, for every int64. The world behind the call: the world before it, new blocks behind the heap, draws. (LAID: no walk: one application.) -/
theorem Tryz.internal_strconv_FormatInt_10 (n : Int) (h0 : -9223372036854775808 ≤ n) (h1 : n ≤ 9223372036854775807) (w : World) (htab : Lib.TabIs Tryz.prog w "internal/strconv.uint64pow10" .u64 Lib.pow10Tab) :
    Calls Tryz.prog 138 #[.int .i64 n, .int .i64 10] w fun e w' => e = .returned (.string ⟨(Lib.itoa n).toArray⟩) ∧ ∃ k os, w' = grow (w.drewN k) os := Any.internal_strconv_FormatInt_10 Tryz.laysM246 n h0 h1 w htab
def Tryz.lays246_ren : Go.Shelf.Ren := ⟨fun | 246 => 138 | 283 => 143 | 284 => 144 | 285 => 145 | 286 => 146 | 129 => 90 | 317 => 170 | 318 => 171 | 319 => 172 | 320 => 173 | 337 => 185 | 338 => 186 | n => n, fun | 2 => 2 | 3 => 3 | 9 => 9 | 4 => 4 | 171 => 210 | 0 => 0 | 53 => 97 | 37 => 126 | 5 => 5 | 173 => 212 | 212 => 239 | 51 => 160 | 20 => 20 | 213 => 240 | 46 => 116 | 232 => 255 | 233 => 256 | n => n, fun | 17 => 1 | 18 => 5 | 19 => 6 | n => n⟩
theorem Tryz.lays246 : Go.Proofs.Lays.n246 Tryz.prog Tryz.lays246_ren := {
  mixed := by kernel_rfl
  f129 := Tryz.func90.trans (congrArg some (by kernel_rfl))
  f246 := Tryz.func138.trans (congrArg some (by kernel_rfl))
  f283 := Tryz.func143.trans (congrArg some (by kernel_rfl))
  f284 := Tryz.func144.trans (congrArg some (by kernel_rfl))
  f285 := Tryz.func145.trans (congrArg some (by kernel_rfl))
  f286 := Tryz.func146.trans (congrArg some (by kernel_rfl))
  f317 := Tryz.func170.trans (congrArg some (by kernel_rfl))
  f318 := Tryz.func171.trans (congrArg some (by kernel_rfl))
  f319 := Tryz.func172.trans (congrArg some (by kernel_rfl))
  f320 := Tryz.func173.trans (congrArg some (by kernel_rfl))
  f337 := Tryz.func185.trans (congrArg some (by kernel_rfl))
  f338 := Tryz.func186.trans (congrArg some (by kernel_rfl))
  t0 := Tryz.underlying0
  a0 := Tryz.isAgg0
  z0 := Tryz.sizeOf0
  v0 := Tryz.zeroValue0
  t2 := Tryz.underlying2
  a2 := Tryz.isAgg2
  z2 := Tryz.sizeOf2
  v2 := Tryz.zeroValue2
  t3 := Tryz.underlying3
  a3 := Tryz.isAgg3
  z3 := Tryz.sizeOf3
  v3 := Tryz.zeroValue3
  t4 := Tryz.underlying4
  a4 := Tryz.isAgg4
  z4 := Tryz.sizeOf4
  v4 := Tryz.zeroValue4
  t5 := Tryz.underlying5
  a5 := Tryz.isAgg5
  z5 := Tryz.sizeOf5
  v5 := Tryz.zeroValue5
  t9 := Tryz.underlying9
  a9 := Tryz.isAgg9
  z9 := Tryz.sizeOf9
  v9 := Tryz.zeroValue9
  t20 := Tryz.underlying20
  a20 := Tryz.isAgg20
  z20 := Tryz.sizeOf20
  v20 := Tryz.zeroValue20
  t37 := Tryz.underlying126
  a37 := Tryz.isAgg126
  z37 := Tryz.sizeOf126
  v37 := Tryz.zeroValue126
  t46 := Tryz.underlying116
  a46 := Tryz.isAgg116
  z46 := Tryz.sizeOf116
  v46 := Tryz.zeroValue116
  t51 := Tryz.underlying160
  a51 := Tryz.isAgg160
  z51 := Tryz.sizeOf160
  v51 := Tryz.zeroValue160
  t53 := Tryz.underlying97
  a53 := Tryz.isAgg97
  z53 := Tryz.sizeOf97
  v53 := Tryz.zeroValue97
  t171 := Tryz.underlying210
  a171 := Tryz.isAgg210
  z171 := Tryz.sizeOf210
  v171 := Tryz.zeroValue210
  t173 := Tryz.underlying212
  a173 := Tryz.isAgg212
  z173 := Tryz.sizeOf212
  v173 := Tryz.zeroValue212
  t212 := Tryz.underlying239
  a212 := Tryz.isAgg239
  z212 := Tryz.sizeOf239
  v212 := Tryz.zeroValue239
  t213 := Tryz.underlying240
  a213 := Tryz.isAgg240
  z213 := Tryz.sizeOf240
  t232 := Tryz.underlying255
  a232 := Tryz.isAgg255
  z232 := Tryz.sizeOf255
  v232 := Tryz.zeroValue255
  t233 := Tryz.underlying256
  a233 := Tryz.isAgg256
  z233 := Tryz.sizeOf256
  v233 := Tryz.zeroValue256
  g17 := by kernel_rfl
  g18 := by kernel_rfl
  g19 := by kernel_rfl }
open Go.RowKit Go.Sort Go.Lib in
/-- THE ROAD WITHOUT THE TABLE: 0 <= i < 100: two constants are read, nothing is laid: no premise on the world, and the world is as it was. (LAID: no walk: one application.) -/
theorem Tryz.internal_strconv_FormatInt_10_small (i : Nat) (hi : i < 100) (w : World) :
    Calls Tryz.prog 138 #[.int .i64 i, .int .i64 10] w fun e w' => e = .returned (.string ⟨(Lib.decDigits i).toArray⟩) ∧ w' = w := Any.internal_strconv_FormatInt_10_small Tryz.lays246 i hi w
def Tryz.laysM243_ren : Go.Shelf.Ren := ⟨fun | 243 => 102 | 246 => 138 | 283 => 143 | 284 => 144 | 285 => 145 | 286 => 146 | 129 => 90 | 317 => 170 | 318 => 171 | 319 => 172 | 320 => 173 | 337 => 185 | 338 => 186 | n => n, fun | 3 => 3 | 9 => 9 | 2 => 2 | 4 => 4 | 171 => 210 | 0 => 0 | 53 => 97 | 37 => 126 | 5 => 5 | 173 => 212 | 212 => 239 | 51 => 160 | 20 => 20 | 213 => 240 | 46 => 116 | 232 => 255 | 233 => 256 | n => n, fun | 17 => 1 | 18 => 5 | 19 => 6 | n => n⟩
theorem Tryz.laysM243 : Go.Proofs.LaysM.n243 Tryz.prog Tryz.laysM243_ren := {
  mixed := by kernel_rfl
  f129 := Tryz.func90.trans (congrArg some (by kernel_rfl))
  f243 := Tryz.func102.trans (congrArg some (by kernel_rfl))
  f246 := Tryz.func138.trans (congrArg some (by kernel_rfl))
  f283 := Tryz.func143.trans (congrArg some (by kernel_rfl))
  f284 := Tryz.func144.trans (congrArg some (by kernel_rfl))
  f285 := Tryz.func145.trans (congrArg some (by kernel_rfl))
  f286 := Tryz.func146.trans (congrArg some (by kernel_rfl))
  f317 := Tryz.func170.trans (congrArg some (by kernel_rfl))
  f318 := Tryz.func171.trans (congrArg some (by kernel_rfl))
  f319 := Tryz.func172.trans (congrArg some (by kernel_rfl))
  f320 := Tryz.func173.trans (congrArg some (by kernel_rfl))
  f337 := Tryz.func185.trans (congrArg some (by kernel_rfl))
  f338 := Tryz.func186.trans (congrArg some (by kernel_rfl))
  t0 := Tryz.underlying0
  a0 := Tryz.isAgg0
  z0 := Tryz.sizeOf0
  v0 := Tryz.zeroValue0
  t2 := Tryz.underlying2
  a2 := Tryz.isAgg2
  z2 := Tryz.sizeOf2
  v2 := Tryz.zeroValue2
  t3 := Tryz.underlying3
  a3 := Tryz.isAgg3
  z3 := Tryz.sizeOf3
  v3 := Tryz.zeroValue3
  t4 := Tryz.underlying4
  a4 := Tryz.isAgg4
  z4 := Tryz.sizeOf4
  v4 := Tryz.zeroValue4
  t5 := Tryz.underlying5
  a5 := Tryz.isAgg5
  z5 := Tryz.sizeOf5
  v5 := Tryz.zeroValue5
  t9 := Tryz.underlying9
  a9 := Tryz.isAgg9
  z9 := Tryz.sizeOf9
  v9 := Tryz.zeroValue9
  t20 := Tryz.underlying20
  a20 := Tryz.isAgg20
  z20 := Tryz.sizeOf20
  v20 := Tryz.zeroValue20
  t37 := Tryz.underlying126
  a37 := Tryz.isAgg126
  z37 := Tryz.sizeOf126
  v37 := Tryz.zeroValue126
  t46 := Tryz.underlying116
  a46 := Tryz.isAgg116
  z46 := Tryz.sizeOf116
  v46 := Tryz.zeroValue116
  t51 := Tryz.underlying160
  a51 := Tryz.isAgg160
  z51 := Tryz.sizeOf160
  v51 := Tryz.zeroValue160
  t53 := Tryz.underlying97
  a53 := Tryz.isAgg97
  z53 := Tryz.sizeOf97
  v53 := Tryz.zeroValue97
  t171 := Tryz.underlying210
  a171 := Tryz.isAgg210
  z171 := Tryz.sizeOf210
  v171 := Tryz.zeroValue210
  t173 := Tryz.underlying212
  a173 := Tryz.isAgg212
  z173 := Tryz.sizeOf212
  v173 := Tryz.zeroValue212
  t212 := Tryz.underlying239
  a212 := Tryz.isAgg239
  z212 := Tryz.sizeOf239
  v212 := Tryz.zeroValue239
  t213 := Tryz.underlying240
  a213 := Tryz.isAgg240
  z213 := Tryz.sizeOf240
  t232 := Tryz.underlying255
  a232 := Tryz.isAgg255
  z232 := Tryz.sizeOf255
  v232 := Tryz.zeroValue255
  t233 := Tryz.underlying256
  a233 := Tryz.isAgg256
  z233 := Tryz.sizeOf256
  v233 := Tryz.zeroValue256
  g17 := by kernel_rfl
  g18 := by kernel_rfl
  g19 := by kernel_rfl
  i0 := by kernel_rfl
  i2 := by kernel_rfl
  i3 := by kernel_rfl
  i4 := by kernel_rfl
  i5 := by kernel_rfl
  i9 := by kernel_rfl
  i20 := by kernel_rfl
  i37 := by kernel_rfl
  i46 := by kernel_rfl
  i51 := by kernel_rfl
  i53 := by kernel_rfl
  i171 := by kernel_rfl
  i173 := by kernel_rfl
  i212 := by kernel_rfl
  i232 := by kernel_rfl
  i233 := by kernel_rfl
  m17 := by kernel_rfl
  m18 := by kernel_rfl
  m19 := by kernel_rfl }
open Go.RowKit Go.Sort Go.Lib in
/-- internal/strconv.Itoa: "Itoa is equivalent to FormatInt(int64(i), 10).": i's decimal numeral, for every int. (LAID: no walk: one application.) -/
theorem Tryz.internal_strconv_Itoa (n : Int) (h0 : -9223372036854775808 ≤ n) (h1 : n ≤ 9223372036854775807) (w : World) (htab : Lib.TabIs Tryz.prog w "internal/strconv.uint64pow10" .u64 Lib.pow10Tab) :
    Calls Tryz.prog 102 #[.int .i64 n] w fun e w' => e = .returned (.string ⟨(Lib.itoa n).toArray⟩) ∧ ∃ k os, w' = grow (w.drewN k) os := Any.internal_strconv_Itoa Tryz.laysM243 n h0 h1 w htab
def Tryz.lays243_ren : Go.Shelf.Ren := ⟨fun | 243 => 102 | 246 => 138 | 283 => 143 | 284 => 144 | 285 => 145 | 286 => 146 | 129 => 90 | 317 => 170 | 318 => 171 | 319 => 172 | 320 => 173 | 337 => 185 | 338 => 186 | n => n, fun | 3 => 3 | 9 => 9 | 2 => 2 | 4 => 4 | 171 => 210 | 0 => 0 | 53 => 97 | 37 => 126 | 5 => 5 | 173 => 212 | 212 => 239 | 51 => 160 | 20 => 20 | 213 => 240 | 46 => 116 | 232 => 255 | 233 => 256 | n => n, fun | 17 => 1 | 18 => 5 | 19 => 6 | n => n⟩
theorem Tryz.lays243 : Go.Proofs.Lays.n243 Tryz.prog Tryz.lays243_ren := {
  mixed := by kernel_rfl
  f129 := Tryz.func90.trans (congrArg some (by kernel_rfl))
  f243 := Tryz.func102.trans (congrArg some (by kernel_rfl))
  f246 := Tryz.func138.trans (congrArg some (by kernel_rfl))
  f283 := Tryz.func143.trans (congrArg some (by kernel_rfl))
  f284 := Tryz.func144.trans (congrArg some (by kernel_rfl))
  f285 := Tryz.func145.trans (congrArg some (by kernel_rfl))
  f286 := Tryz.func146.trans (congrArg some (by kernel_rfl))
  f317 := Tryz.func170.trans (congrArg some (by kernel_rfl))
  f318 := Tryz.func171.trans (congrArg some (by kernel_rfl))
  f319 := Tryz.func172.trans (congrArg some (by kernel_rfl))
  f320 := Tryz.func173.trans (congrArg some (by kernel_rfl))
  f337 := Tryz.func185.trans (congrArg some (by kernel_rfl))
  f338 := Tryz.func186.trans (congrArg some (by kernel_rfl))
  t0 := Tryz.underlying0
  a0 := Tryz.isAgg0
  z0 := Tryz.sizeOf0
  v0 := Tryz.zeroValue0
  t2 := Tryz.underlying2
  a2 := Tryz.isAgg2
  z2 := Tryz.sizeOf2
  v2 := Tryz.zeroValue2
  t3 := Tryz.underlying3
  a3 := Tryz.isAgg3
  z3 := Tryz.sizeOf3
  v3 := Tryz.zeroValue3
  t4 := Tryz.underlying4
  a4 := Tryz.isAgg4
  z4 := Tryz.sizeOf4
  v4 := Tryz.zeroValue4
  t5 := Tryz.underlying5
  a5 := Tryz.isAgg5
  z5 := Tryz.sizeOf5
  v5 := Tryz.zeroValue5
  t9 := Tryz.underlying9
  a9 := Tryz.isAgg9
  z9 := Tryz.sizeOf9
  v9 := Tryz.zeroValue9
  t20 := Tryz.underlying20
  a20 := Tryz.isAgg20
  z20 := Tryz.sizeOf20
  v20 := Tryz.zeroValue20
  t37 := Tryz.underlying126
  a37 := Tryz.isAgg126
  z37 := Tryz.sizeOf126
  v37 := Tryz.zeroValue126
  t46 := Tryz.underlying116
  a46 := Tryz.isAgg116
  z46 := Tryz.sizeOf116
  v46 := Tryz.zeroValue116
  t51 := Tryz.underlying160
  a51 := Tryz.isAgg160
  z51 := Tryz.sizeOf160
  v51 := Tryz.zeroValue160
  t53 := Tryz.underlying97
  a53 := Tryz.isAgg97
  z53 := Tryz.sizeOf97
  v53 := Tryz.zeroValue97
  t171 := Tryz.underlying210
  a171 := Tryz.isAgg210
  z171 := Tryz.sizeOf210
  v171 := Tryz.zeroValue210
  t173 := Tryz.underlying212
  a173 := Tryz.isAgg212
  z173 := Tryz.sizeOf212
  v173 := Tryz.zeroValue212
  t212 := Tryz.underlying239
  a212 := Tryz.isAgg239
  z212 := Tryz.sizeOf239
  v212 := Tryz.zeroValue239
  t213 := Tryz.underlying240
  a213 := Tryz.isAgg240
  z213 := Tryz.sizeOf240
  t232 := Tryz.underlying255
  a232 := Tryz.isAgg255
  z232 := Tryz.sizeOf255
  v232 := Tryz.zeroValue255
  t233 := Tryz.underlying256
  a233 := Tryz.isAgg256
  z233 := Tryz.sizeOf256
  v233 := Tryz.zeroValue256
  g17 := by kernel_rfl
  g18 := by kernel_rfl
  g19 := by kernel_rfl }
open Go.RowKit Go.Sort Go.Lib in
/-- THE ROAD WITHOUT THE TABLE: 0 <= i < 100. (LAID: no walk: one application.) -/
theorem Tryz.internal_strconv_Itoa_small (i : Nat) (hi : i < 100) (w : World) :
    Calls Tryz.prog 102 #[.int .i64 i] w fun e w' => e = .returned (.string ⟨(Lib.decDigits i).toArray⟩) ∧ w' = w := Any.internal_strconv_Itoa_small Tryz.lays243 i hi w
def Tryz.laysM171_ren : Go.Shelf.Ren := ⟨fun | 171 => 64 | 243 => 102 | 246 => 138 | 283 => 143 | 284 => 144 | 285 => 145 | 286 => 146 | 129 => 90 | 317 => 170 | 318 => 171 | 319 => 172 | 320 => 173 | 337 => 185 | 338 => 186 | n => n, fun | 3 => 3 | 9 => 9 | 2 => 2 | 4 => 4 | 171 => 210 | 0 => 0 | 53 => 97 | 37 => 126 | 5 => 5 | 173 => 212 | 212 => 239 | 51 => 160 | 20 => 20 | 213 => 240 | 46 => 116 | 232 => 255 | 233 => 256 | n => n, fun | 17 => 1 | 18 => 5 | 19 => 6 | n => n⟩
theorem Tryz.laysM171 : Go.Proofs.LaysM.n171 Tryz.prog Tryz.laysM171_ren := {
  mixed := by kernel_rfl
  f129 := Tryz.func90.trans (congrArg some (by kernel_rfl))
  f171 := Tryz.func64.trans (congrArg some (by kernel_rfl))
  f243 := Tryz.func102.trans (congrArg some (by kernel_rfl))
  f246 := Tryz.func138.trans (congrArg some (by kernel_rfl))
  f283 := Tryz.func143.trans (congrArg some (by kernel_rfl))
  f284 := Tryz.func144.trans (congrArg some (by kernel_rfl))
  f285 := Tryz.func145.trans (congrArg some (by kernel_rfl))
  f286 := Tryz.func146.trans (congrArg some (by kernel_rfl))
  f317 := Tryz.func170.trans (congrArg some (by kernel_rfl))
  f318 := Tryz.func171.trans (congrArg some (by kernel_rfl))
  f319 := Tryz.func172.trans (congrArg some (by kernel_rfl))
  f320 := Tryz.func173.trans (congrArg some (by kernel_rfl))
  f337 := Tryz.func185.trans (congrArg some (by kernel_rfl))
  f338 := Tryz.func186.trans (congrArg some (by kernel_rfl))
  t0 := Tryz.underlying0
  a0 := Tryz.isAgg0
  z0 := Tryz.sizeOf0
  v0 := Tryz.zeroValue0
  t2 := Tryz.underlying2
  a2 := Tryz.isAgg2
  z2 := Tryz.sizeOf2
  v2 := Tryz.zeroValue2
  t3 := Tryz.underlying3
  a3 := Tryz.isAgg3
  z3 := Tryz.sizeOf3
  v3 := Tryz.zeroValue3
  t4 := Tryz.underlying4
  a4 := Tryz.isAgg4
  z4 := Tryz.sizeOf4
  v4 := Tryz.zeroValue4
  t5 := Tryz.underlying5
  a5 := Tryz.isAgg5
  z5 := Tryz.sizeOf5
  v5 := Tryz.zeroValue5
  t9 := Tryz.underlying9
  a9 := Tryz.isAgg9
  z9 := Tryz.sizeOf9
  v9 := Tryz.zeroValue9
  t20 := Tryz.underlying20
  a20 := Tryz.isAgg20
  z20 := Tryz.sizeOf20
  v20 := Tryz.zeroValue20
  t37 := Tryz.underlying126
  a37 := Tryz.isAgg126
  z37 := Tryz.sizeOf126
  v37 := Tryz.zeroValue126
  t46 := Tryz.underlying116
  a46 := Tryz.isAgg116
  z46 := Tryz.sizeOf116
  v46 := Tryz.zeroValue116
  t51 := Tryz.underlying160
  a51 := Tryz.isAgg160
  z51 := Tryz.sizeOf160
  v51 := Tryz.zeroValue160
  t53 := Tryz.underlying97
  a53 := Tryz.isAgg97
  z53 := Tryz.sizeOf97
  v53 := Tryz.zeroValue97
  t171 := Tryz.underlying210
  a171 := Tryz.isAgg210
  z171 := Tryz.sizeOf210
  v171 := Tryz.zeroValue210
  t173 := Tryz.underlying212
  a173 := Tryz.isAgg212
  z173 := Tryz.sizeOf212
  v173 := Tryz.zeroValue212
  t212 := Tryz.underlying239
  a212 := Tryz.isAgg239
  z212 := Tryz.sizeOf239
  v212 := Tryz.zeroValue239
  t213 := Tryz.underlying240
  a213 := Tryz.isAgg240
  z213 := Tryz.sizeOf240
  t232 := Tryz.underlying255
  a232 := Tryz.isAgg255
  z232 := Tryz.sizeOf255
  v232 := Tryz.zeroValue255
  t233 := Tryz.underlying256
  a233 := Tryz.isAgg256
  z233 := Tryz.sizeOf256
  v233 := Tryz.zeroValue256
  g17 := by kernel_rfl
  g18 := by kernel_rfl
  g19 := by kernel_rfl
  i0 := by kernel_rfl
  i2 := by kernel_rfl
  i3 := by kernel_rfl
  i4 := by kernel_rfl
  i5 := by kernel_rfl
  i9 := by kernel_rfl
  i20 := by kernel_rfl
  i37 := by kernel_rfl
  i46 := by kernel_rfl
  i51 := by kernel_rfl
  i53 := by kernel_rfl
  i171 := by kernel_rfl
  i173 := by kernel_rfl
  i212 := by kernel_rfl
  i232 := by kernel_rfl
  i233 := by kernel_rfl
  m17 := by kernel_rfl
  m18 := by kernel_rfl
  m19 := by kernel_rfl }
open Go.RowKit Go.Sort Go.Lib in
/-- strconv.Itoa: "Itoa is equivalent to FormatInt(int64(i), 10).": i's DECIMAL NUMERAL ('Lib.itoa': a '-' where i is negative, then the digits), FOR EVERY int. The world behind the call: the world before it, new blocks behind the heap (the library's 'var a [24]byte'), draws. (LAID: no walk: one application.) -/
theorem Tryz.strconv_Itoa (n : Int) (h0 : -9223372036854775808 ≤ n) (h1 : n ≤ 9223372036854775807) (w : World) (htab : Lib.TabIs Tryz.prog w "internal/strconv.uint64pow10" .u64 Lib.pow10Tab) :
    Calls Tryz.prog 64 #[.int .i64 n] w fun e w' => e = .returned (.string ⟨(Lib.itoa n).toArray⟩) ∧ ∃ k os, w' = grow (w.drewN k) os := Any.strconv_Itoa Tryz.laysM171 n h0 h1 w htab
def Tryz.lays171_ren : Go.Shelf.Ren := ⟨fun | 171 => 64 | 243 => 102 | 246 => 138 | 283 => 143 | 284 => 144 | 285 => 145 | 286 => 146 | 129 => 90 | 317 => 170 | 318 => 171 | 319 => 172 | 320 => 173 | 337 => 185 | 338 => 186 | n => n, fun | 3 => 3 | 9 => 9 | 2 => 2 | 4 => 4 | 171 => 210 | 0 => 0 | 53 => 97 | 37 => 126 | 5 => 5 | 173 => 212 | 212 => 239 | 51 => 160 | 20 => 20 | 213 => 240 | 46 => 116 | 232 => 255 | 233 => 256 | n => n, fun | 17 => 1 | 18 => 5 | 19 => 6 | n => n⟩
theorem Tryz.lays171 : Go.Proofs.Lays.n171 Tryz.prog Tryz.lays171_ren := {
  mixed := by kernel_rfl
  f129 := Tryz.func90.trans (congrArg some (by kernel_rfl))
  f171 := Tryz.func64.trans (congrArg some (by kernel_rfl))
  f243 := Tryz.func102.trans (congrArg some (by kernel_rfl))
  f246 := Tryz.func138.trans (congrArg some (by kernel_rfl))
  f283 := Tryz.func143.trans (congrArg some (by kernel_rfl))
  f284 := Tryz.func144.trans (congrArg some (by kernel_rfl))
  f285 := Tryz.func145.trans (congrArg some (by kernel_rfl))
  f286 := Tryz.func146.trans (congrArg some (by kernel_rfl))
  f317 := Tryz.func170.trans (congrArg some (by kernel_rfl))
  f318 := Tryz.func171.trans (congrArg some (by kernel_rfl))
  f319 := Tryz.func172.trans (congrArg some (by kernel_rfl))
  f320 := Tryz.func173.trans (congrArg some (by kernel_rfl))
  f337 := Tryz.func185.trans (congrArg some (by kernel_rfl))
  f338 := Tryz.func186.trans (congrArg some (by kernel_rfl))
  t0 := Tryz.underlying0
  a0 := Tryz.isAgg0
  z0 := Tryz.sizeOf0
  v0 := Tryz.zeroValue0
  t2 := Tryz.underlying2
  a2 := Tryz.isAgg2
  z2 := Tryz.sizeOf2
  v2 := Tryz.zeroValue2
  t3 := Tryz.underlying3
  a3 := Tryz.isAgg3
  z3 := Tryz.sizeOf3
  v3 := Tryz.zeroValue3
  t4 := Tryz.underlying4
  a4 := Tryz.isAgg4
  z4 := Tryz.sizeOf4
  v4 := Tryz.zeroValue4
  t5 := Tryz.underlying5
  a5 := Tryz.isAgg5
  z5 := Tryz.sizeOf5
  v5 := Tryz.zeroValue5
  t9 := Tryz.underlying9
  a9 := Tryz.isAgg9
  z9 := Tryz.sizeOf9
  v9 := Tryz.zeroValue9
  t20 := Tryz.underlying20
  a20 := Tryz.isAgg20
  z20 := Tryz.sizeOf20
  v20 := Tryz.zeroValue20
  t37 := Tryz.underlying126
  a37 := Tryz.isAgg126
  z37 := Tryz.sizeOf126
  v37 := Tryz.zeroValue126
  t46 := Tryz.underlying116
  a46 := Tryz.isAgg116
  z46 := Tryz.sizeOf116
  v46 := Tryz.zeroValue116
  t51 := Tryz.underlying160
  a51 := Tryz.isAgg160
  z51 := Tryz.sizeOf160
  v51 := Tryz.zeroValue160
  t53 := Tryz.underlying97
  a53 := Tryz.isAgg97
  z53 := Tryz.sizeOf97
  v53 := Tryz.zeroValue97
  t171 := Tryz.underlying210
  a171 := Tryz.isAgg210
  z171 := Tryz.sizeOf210
  v171 := Tryz.zeroValue210
  t173 := Tryz.underlying212
  a173 := Tryz.isAgg212
  z173 := Tryz.sizeOf212
  v173 := Tryz.zeroValue212
  t212 := Tryz.underlying239
  a212 := Tryz.isAgg239
  z212 := Tryz.sizeOf239
  v212 := Tryz.zeroValue239
  t213 := Tryz.underlying240
  a213 := Tryz.isAgg240
  z213 := Tryz.sizeOf240
  t232 := Tryz.underlying255
  a232 := Tryz.isAgg255
  z232 := Tryz.sizeOf255
  v232 := Tryz.zeroValue255
  t233 := Tryz.underlying256
  a233 := Tryz.isAgg256
  z233 := Tryz.sizeOf256
  v233 := Tryz.zeroValue256
  g17 := by kernel_rfl
  g18 := by kernel_rfl
  g19 := by kernel_rfl }
open Go.RowKit Go.Sort Go.Lib in
/-- THE ROAD WITHOUT THE TABLE: 0 <= i < 100: NO PREMISE ON THE WORLD, AND THE WORLD IS AS IT WAS: a row that keeps its argument in that range need list no table ('laid = []'). (LAID: no walk: one application.) -/
theorem Tryz.strconv_Itoa_small (i : Nat) (hi : i < 100) (w : World) :
    Calls Tryz.prog 64 #[.int .i64 i] w fun e w' => e = .returned (.string ⟨(Lib.decDigits i).toArray⟩) ∧ w' = w := Any.strconv_Itoa_small Tryz.lays171 i hi w
def Tryz.lays247_ren : Go.Shelf.Ren := ⟨fun | 247 => 141 | 287 => 165 | 321 => 181 | 322 => 182 | n => n, fun | 9 => 9 | 3 => 3 | 2 => 2 | 75 => 130 | 4 => 4 | 167 => 232 | 5 => 5 | 53 => 97 | 175 => 233 | 46 => 116 | 37 => 126 | 0 => 0 | 21 => 21 | 80 => 134 | n => n, fun | n => n⟩
theorem Tryz.lays247 : Go.Proofs.Lays.n247 Tryz.prog Tryz.lays247_ren := {
  mixed := by kernel_rfl
  f247 := Tryz.func141.trans (congrArg some (by kernel_rfl))
  f287 := Tryz.func165.trans (congrArg some (by kernel_rfl))
  f321 := Tryz.func181.trans (congrArg some (by kernel_rfl))
  f322 := Tryz.func182.trans (congrArg some (by kernel_rfl))
  t0 := Tryz.underlying0
  a0 := Tryz.isAgg0
  z0 := Tryz.sizeOf0
  v0 := Tryz.zeroValue0
  t2 := Tryz.underlying2
  a2 := Tryz.isAgg2
  z2 := Tryz.sizeOf2
  v2 := Tryz.zeroValue2
  t3 := Tryz.underlying3
  a3 := Tryz.isAgg3
  z3 := Tryz.sizeOf3
  v3 := Tryz.zeroValue3
  t4 := Tryz.underlying4
  a4 := Tryz.isAgg4
  z4 := Tryz.sizeOf4
  v4 := Tryz.zeroValue4
  t5 := Tryz.underlying5
  a5 := Tryz.isAgg5
  z5 := Tryz.sizeOf5
  v5 := Tryz.zeroValue5
  t9 := Tryz.underlying9
  a9 := Tryz.isAgg9
  z9 := Tryz.sizeOf9
  v9 := Tryz.zeroValue9
  t21 := Tryz.underlying21
  a21 := Tryz.isAgg21
  z21 := Tryz.sizeOf21
  v21 := Tryz.zeroValue21
  t37 := Tryz.underlying126
  a37 := Tryz.isAgg126
  z37 := Tryz.sizeOf126
  v37 := Tryz.zeroValue126
  t46 := Tryz.underlying116
  a46 := Tryz.isAgg116
  z46 := Tryz.sizeOf116
  v46 := Tryz.zeroValue116
  t53 := Tryz.underlying97
  a53 := Tryz.isAgg97
  z53 := Tryz.sizeOf97
  v53 := Tryz.zeroValue97
  t75 := Tryz.underlying130
  a75 := Tryz.isAgg130
  z75 := Tryz.sizeOf130
  v75 := Tryz.zeroValue130
  t167 := Tryz.underlying232
  a167 := Tryz.isAgg232
  z167 := Tryz.sizeOf232
  v167 := Tryz.zeroValue232
  t175 := Tryz.underlying233
  a175 := Tryz.isAgg233
  z175 := Tryz.sizeOf233
  v175 := Tryz.zeroValue233 }
open Go.RowKit in
/-- internal/strconv.ParseInt at "": 'if s == "" { return 0, ErrSyntax }'. The world is as it was. (LAID: no walk: one application.) -/
theorem Tryz.internal_strconv_ParseInt_empty (base bits : Int) (w : World) :
    Calls Tryz.prog 141 #[.string ⟨#[]⟩, .int .i64 base, .int .i64 bits] w fun e w' => e = .returned (.tuple #[.int .i64 0, (.iface 232 (.int .i64 2))]) ∧ w' = w := Any.internal_strconv_ParseInt_empty Tryz.lays247 base bits w
def Tryz.laysM316_ren : Go.Shelf.Ren := ⟨fun | 316 => 183 | n => n, fun | 9 => 9 | 3 => 3 | 4 => 4 | 37 => 126 | 0 => 0 | 127 => 172 | 5 => 5 | n => n, fun | n => n⟩
theorem Tryz.laysM316 : Go.Proofs.LaysM.n316 Tryz.prog Tryz.laysM316_ren := {
  mixed := by kernel_rfl
  f316 := Tryz.func183.trans (congrArg some (by kernel_rfl))
  t0 := Tryz.underlying0
  a0 := Tryz.isAgg0
  z0 := Tryz.sizeOf0
  v0 := Tryz.zeroValue0
  t3 := Tryz.underlying3
  a3 := Tryz.isAgg3
  z3 := Tryz.sizeOf3
  v3 := Tryz.zeroValue3
  t4 := Tryz.underlying4
  a4 := Tryz.isAgg4
  z4 := Tryz.sizeOf4
  v4 := Tryz.zeroValue4
  t9 := Tryz.underlying9
  a9 := Tryz.isAgg9
  z9 := Tryz.sizeOf9
  v9 := Tryz.zeroValue9
  t37 := Tryz.underlying126
  a37 := Tryz.isAgg126
  z37 := Tryz.sizeOf126
  v37 := Tryz.zeroValue126
  t127 := Tryz.underlying172
  a127 := Tryz.isAgg172
  z127 := Tryz.sizeOf172
  v127 := Tryz.zeroValue172
  t5 := Tryz.underlying5
  a5 := Tryz.isAgg5
  z5 := Tryz.sizeOf5
  v5 := Tryz.zeroValue5
  i0 := by kernel_rfl
  i3 := by kernel_rfl
  i4 := by kernel_rfl
  i5 := by kernel_rfl
  i9 := by kernel_rfl
  i37 := by kernel_rfl
  i127 := by kernel_rfl }
open Go.RowKit in
/-- internal/stringslite.Clone (what strings.Clone calls): "Clone returns a fresh copy of s.": THE SAME BYTES. Of what was there nothing has turned (a new row is laid, and frozen, where s is not empty). (LAID: no walk: one application.) -/
theorem Tryz.stringslite_Clone (s : ByteArray) (w : World) (hlim : s.size ≤ 281474976710656) :
    Calls Tryz.prog 183 #[.string s] w fun e w' => e = .returned (.string s) ∧ Below w.heap.size w w' := Any.stringslite_Clone Tryz.laysM316 s w hlim
def Tryz.lays321_ren : Go.Shelf.Ren := ⟨fun | 321 => 181 | n => n, fun | 5 => 5 | n => n, fun | n => n⟩
theorem Tryz.lays321 : Go.Proofs.Lays.n321 Tryz.prog Tryz.lays321_ren := {
  mixed := by kernel_rfl
  f321 := Tryz.func181.trans (congrArg some (by kernel_rfl))
  t5 := Tryz.underlying5
  a5 := Tryz.isAgg5
  z5 := Tryz.sizeOf5
  v5 := Tryz.zeroValue5 }
open Go.RowKit in
/-- internal/strconv.lower: 'c | ('x' - 'X')': the bit 32 set. The world is as it was. (LAID: no walk: one application.) -/
theorem Tryz.internal_strconv_lower (c : Int) (w : World) :
    Calls Tryz.prog 181 #[.int .u8 c] w fun e w' => e = .returned (.int .u8 (bits .or .u8 c 32)) ∧ w' = w := Any.internal_strconv_lower Tryz.lays321 c w
def Tryz.lays287_ren : Go.Shelf.Ren := ⟨fun | 287 => 165 | 321 => 181 | 322 => 182 | n => n, fun | 9 => 9 | 3 => 3 | 53 => 97 | 75 => 130 | 4 => 4 | 167 => 232 | 5 => 5 | 46 => 116 | 37 => 126 | 0 => 0 | 21 => 21 | 80 => 134 | n => n, fun | n => n⟩
theorem Tryz.lays287 : Go.Proofs.Lays.n287 Tryz.prog Tryz.lays287_ren := {
  mixed := by kernel_rfl
  f287 := Tryz.func165.trans (congrArg some (by kernel_rfl))
  f321 := Tryz.func181.trans (congrArg some (by kernel_rfl))
  f322 := Tryz.func182.trans (congrArg some (by kernel_rfl))
  t0 := Tryz.underlying0
  a0 := Tryz.isAgg0
  z0 := Tryz.sizeOf0
  v0 := Tryz.zeroValue0
  t3 := Tryz.underlying3
  a3 := Tryz.isAgg3
  z3 := Tryz.sizeOf3
  v3 := Tryz.zeroValue3
  t4 := Tryz.underlying4
  a4 := Tryz.isAgg4
  z4 := Tryz.sizeOf4
  v4 := Tryz.zeroValue4
  t5 := Tryz.underlying5
  a5 := Tryz.isAgg5
  z5 := Tryz.sizeOf5
  v5 := Tryz.zeroValue5
  t9 := Tryz.underlying9
  a9 := Tryz.isAgg9
  z9 := Tryz.sizeOf9
  v9 := Tryz.zeroValue9
  t21 := Tryz.underlying21
  a21 := Tryz.isAgg21
  z21 := Tryz.sizeOf21
  v21 := Tryz.zeroValue21
  t37 := Tryz.underlying126
  a37 := Tryz.isAgg126
  z37 := Tryz.sizeOf126
  v37 := Tryz.zeroValue126
  t46 := Tryz.underlying116
  a46 := Tryz.isAgg116
  z46 := Tryz.sizeOf116
  v46 := Tryz.zeroValue116
  t53 := Tryz.underlying97
  a53 := Tryz.isAgg97
  z53 := Tryz.sizeOf97
  v53 := Tryz.zeroValue97
  t75 := Tryz.underlying130
  a75 := Tryz.isAgg130
  z75 := Tryz.sizeOf130
  v75 := Tryz.zeroValue130
  t167 := Tryz.underlying232
  a167 := Tryz.isAgg232
  z167 := Tryz.sizeOf232
  v167 := Tryz.zeroValue232 }
open Go.RowKit in
/-- internal/strconv.ParseUint("", 10, 0): (0, ErrSyntax). The world is as it was. (LAID: no walk: one application.) -/
theorem Tryz.internal_strconv_ParseUint_10_empty (w : World) :
    Calls Tryz.prog 165 #[.string ⟨#[]⟩, .int .i64 10, .int .i64 0] w fun e w' => e = .returned (Lib.uintTuple 232 .syntax) ∧ w' = w := Any.internal_strconv_ParseUint_10_empty Tryz.lays287 w
open Go.RowKit in
/-- internal/strconv.ParseUint("", base, bitSize): (0, ErrSyntax): the first test of the text. The world is as it was. (LAID: no walk: one application.) -/
theorem Tryz.internal_strconv_ParseUint_empty (base bits : Int) (w : World) :
    Calls Tryz.prog 165 #[.string ⟨#[]⟩, .int .i64 base, .int .i64 bits] w fun e w' => e = .returned (.tuple #[.int .u64 0, .iface 232 (.int .i64 2)]) ∧ w' = w := Any.internal_strconv_ParseUint_empty Tryz.lays287 base bits w
def Tryz.lays217_ren : Go.Shelf.Ren := ⟨fun | 217 => 175 | 266 => 187 | n => n, fun | 9 => 9 | 5 => 5 | 3 => 3 | n => n, fun | n => n⟩
theorem Tryz.lays217 : Go.Proofs.Lays.n217 Tryz.prog Tryz.lays217_ren := {
  mixed := by kernel_rfl
  f217 := Tryz.func175.trans (congrArg some (by kernel_rfl))
  f266 := Tryz.func187.trans (congrArg some (by kernel_rfl))
  t3 := Tryz.underlying3
  a3 := Tryz.isAgg3
  z3 := Tryz.sizeOf3
  v3 := Tryz.zeroValue3
  t5 := Tryz.underlying5
  a5 := Tryz.isAgg5
  z5 := Tryz.sizeOf5
  v5 := Tryz.zeroValue5
  t9 := Tryz.underlying9
  a9 := Tryz.isAgg9
  z9 := Tryz.sizeOf9
  v9 := Tryz.zeroValue9 }
open Go.RowKit Go.Lib in
/-- internal/stringslite.IndexByte (what strings.IndexByte calls): IT RETURNS 'Lib.indexByte s c'; the world is as it was. (LAID: no walk: one application.) -/
theorem Tryz.stringslite_IndexByte (s : ByteArray) (c : Int) (w : World) :
    Calls Tryz.prog 175 #[.string s, .int .u8 c] w fun e w' => e = .returned (.int .i64 (Lib.indexByte s.data.toList c.toNat.toUInt8)) ∧ w' = w := Any.stringslite_IndexByte Tryz.lays217 s c w
def Tryz.lays224_ren : Go.Shelf.Ren := ⟨fun | 224 => 192 | n => n, fun | 3 => 3 | n => n, fun | n => n⟩
theorem Tryz.lays224 : Go.Proofs.Lays.n224 Tryz.prog Tryz.lays224_ren := {
  mixed := by kernel_rfl
  f224 := Tryz.func192.trans (congrArg some (by kernel_rfl))
  t3 := Tryz.underlying3
  a3 := Tryz.isAgg3
  z3 := Tryz.sizeOf3
  v3 := Tryz.zeroValue3 }
open Go.RowKit Go.Lib in
/-- internal/bytealg.Cutover: "Cutover reports the number of failures of IndexByte we should tolerate before switching over to Index. n is the number of bytes processed so far.": on amd64: (n + 16) / 8. (LAID: no walk: one application.) -/
theorem Tryz.bytealg_Cutover (n : Int) (h0 : 0 ≤ n) (h1 : n < 4611686018427387904) (w : World) :
    Calls Tryz.prog 192 #[.int .i64 n] w fun e w' => e = .returned (.int .i64 ((n + 16) / 8)) ∧ w' = w := Any.bytealg_Cutover Tryz.lays224 n h0 h1 w
def Tryz.lays189_ren : Go.Shelf.Ren := ⟨fun | 189 => 59 | 125 => 56 | 257 => 92 | 128 => 89 | 129 => 90 | 294 => 125 | 295 => 126 | 296 => 127 | 297 => 128 | 298 => 129 | 299 => 130 | 216 => 131 | 300 => 132 | 301 => 133 | 328 => 154 | 329 => 121 | 330 => 122 | 331 => 155 | 332 => 156 | 215 => 62 | 343 => 176 | n => n, fun | 28 => 40 | 3 => 3 | 46 => 116 | 0 => 0 | 51 => 160 | 53 => 97 | 4 => 4 | 183 => 154 | 182 => 153 | 131 => 119 | 5 => 5 | 9 => 9 | 218 => 186 | 222 => 190 | 228 => 219 | 229 => 220 | n => n, fun | n => n⟩
theorem Tryz.lays189 : Go.Proofs.Lays.n189 Tryz.prog Tryz.lays189_ren := {
  mixed := by kernel_rfl
  f125 := Tryz.func56.trans (congrArg some (by kernel_rfl))
  f128 := Tryz.func89.trans (congrArg some (by kernel_rfl))
  f129 := Tryz.func90.trans (congrArg some (by kernel_rfl))
  f189 := Tryz.func59.trans (congrArg some (by kernel_rfl))
  f215 := Tryz.func62.trans (congrArg some (by kernel_rfl))
  f216 := Tryz.func131.trans (congrArg some (by kernel_rfl))
  f257 := Tryz.func92.trans (congrArg some (by kernel_rfl))
  f294 := Tryz.func125.trans (congrArg some (by kernel_rfl))
  f295 := Tryz.func126.trans (congrArg some (by kernel_rfl))
  f296 := Tryz.func127.trans (congrArg some (by kernel_rfl))
  f297 := Tryz.func128.trans (congrArg some (by kernel_rfl))
  f298 := Tryz.func129.trans (congrArg some (by kernel_rfl))
  f299 := Tryz.func130.trans (congrArg some (by kernel_rfl))
  f300 := Tryz.func132.trans (congrArg some (by kernel_rfl))
  f301 := Tryz.func133.trans (congrArg some (by kernel_rfl))
  f328 := Tryz.func154.trans (congrArg some (by kernel_rfl))
  f329 := Tryz.func121.trans (congrArg some (by kernel_rfl))
  f330 := Tryz.func122.trans (congrArg some (by kernel_rfl))
  f331 := Tryz.func155.trans (congrArg some (by kernel_rfl))
  f332 := Tryz.func156.trans (congrArg some (by kernel_rfl))
  f343 := Tryz.func176.trans (congrArg some (by kernel_rfl))
  t0 := Tryz.underlying0
  a0 := Tryz.isAgg0
  z0 := Tryz.sizeOf0
  v0 := Tryz.zeroValue0
  t3 := Tryz.underlying3
  a3 := Tryz.isAgg3
  z3 := Tryz.sizeOf3
  v3 := Tryz.zeroValue3
  t4 := Tryz.underlying4
  a4 := Tryz.isAgg4
  z4 := Tryz.sizeOf4
  v4 := Tryz.zeroValue4
  t5 := Tryz.underlying5
  a5 := Tryz.isAgg5
  z5 := Tryz.sizeOf5
  v5 := Tryz.zeroValue5
  t9 := Tryz.underlying9
  a9 := Tryz.isAgg9
  z9 := Tryz.sizeOf9
  v9 := Tryz.zeroValue9
  t28 := Tryz.underlying40
  a28 := Tryz.isAgg40
  z28 := Tryz.sizeOf40
  v28 := Tryz.zeroValue40
  t46 := Tryz.underlying116
  a46 := Tryz.isAgg116
  z46 := Tryz.sizeOf116
  v46 := Tryz.zeroValue116
  t51 := Tryz.underlying160
  a51 := Tryz.isAgg160
  z51 := Tryz.sizeOf160
  v51 := Tryz.zeroValue160
  t53 := Tryz.underlying97
  a53 := Tryz.isAgg97
  z53 := Tryz.sizeOf97
  v53 := Tryz.zeroValue97
  t131 := Tryz.underlying119
  a131 := Tryz.isAgg119
  z131 := Tryz.sizeOf119
  v131 := Tryz.zeroValue119
  t182 := Tryz.underlying153
  a182 := Tryz.isAgg153
  z182 := Tryz.sizeOf153
  v182 := Tryz.zeroValue153
  t183 := Tryz.underlying154
  a183 := Tryz.isAgg154
  z183 := Tryz.sizeOf154
  v183 := Tryz.zeroValue154
  t218 := Tryz.underlying186
  a218 := Tryz.isAgg186
  z218 := Tryz.sizeOf186
  v218 := Tryz.zeroValue186
  t222 := Tryz.underlying190
  a222 := Tryz.isAgg190
  z222 := Tryz.sizeOf190
  v222 := Tryz.zeroValue190
  t228 := Tryz.underlying219
  a228 := Tryz.isAgg219
  z228 := Tryz.sizeOf219
  v228 := Tryz.zeroValue219
  t229 := Tryz.underlying220
  a229 := Tryz.isAgg220
  z229 := Tryz.sizeOf220
  v229 := Tryz.zeroValue220 }
open Go.Sort Go.RowKit in
theorem Tryz.slices_Sort_int (blk off cap : Nat) (zs : List Int) (w : World) (hH : Holds (Value.int .i64) w blk off zs.toArray) (hblk : blk < w.heap.size) (hsz : zs.length < 4611686018427387904) :
    Calls Tryz.prog 59 #[.slice (some ⟨blk, off, none⟩) zs.length cap] w fun e w' =>
      e = .returned (.tuple #[]) ∧ ∃ n os, w' = grow (putRow (Value.int .i64) (Sort.ahead w n) blk off (zs.mergeSort fun x y => decide (x ≤ y)).toArray) os := Any.slices_Sort_int Tryz.lays189 blk off cap zs w hH hblk hsz
def Tryz.lays206_ren : Go.Shelf.Ren := ⟨fun | 206 => 148 | n => n, fun | 9 => 9 | 4 => 4 | 3 => 3 | n => n, fun | n => n⟩
theorem Tryz.lays206 : Go.Proofs.Lays.n206 Tryz.prog Tryz.lays206_ren := {
  mixed := by kernel_rfl
  f206 := Tryz.func148.trans (congrArg some (by kernel_rfl))
  t3 := Tryz.underlying3
  a3 := Tryz.isAgg3
  z3 := Tryz.sizeOf3
  v3 := Tryz.zeroValue3
  t4 := Tryz.underlying4
  a4 := Tryz.isAgg4
  z4 := Tryz.sizeOf4
  v4 := Tryz.zeroValue4
  t9 := Tryz.underlying9
  a9 := Tryz.isAgg9
  z9 := Tryz.sizeOf9
  v9 := Tryz.zeroValue9 }
open Go.RowKit Go.Lib in
/-- internal/stringslite.HasPrefix (what strings.HasPrefix calls). (LAID: no walk: one application.) -/
theorem Tryz.stringslite_HasPrefix (s p : ByteArray) (w : World) :
    Calls Tryz.prog 148 #[.string s, .string p] w fun e w' => e = .returned (.bool (Lib.hasPrefix s.data.toList p.data.toList)) ∧ w' = w := Any.stringslite_HasPrefix Tryz.lays206 s p w
def Tryz.lays99_ren : Go.Shelf.Ren := ⟨fun | 99 => 111 | 206 => 148 | n => n, fun | 9 => 9 | 4 => 4 | 3 => 3 | n => n, fun | n => n⟩
theorem Tryz.lays99 : Go.Proofs.Lays.n99 Tryz.prog Tryz.lays99_ren := {
  mixed := by kernel_rfl
  f99 := Tryz.func111.trans (congrArg some (by kernel_rfl))
  f206 := Tryz.func148.trans (congrArg some (by kernel_rfl))
  t3 := Tryz.underlying3
  a3 := Tryz.isAgg3
  z3 := Tryz.sizeOf3
  v3 := Tryz.zeroValue3
  t4 := Tryz.underlying4
  a4 := Tryz.isAgg4
  z4 := Tryz.sizeOf4
  v4 := Tryz.zeroValue4
  t9 := Tryz.underlying9
  a9 := Tryz.isAgg9
  z9 := Tryz.sizeOf9
  v9 := Tryz.zeroValue9 }
open Go.RowKit Go.Lib in
/-- strings.HasPrefix: "HasPrefix reports whether the string s begins with prefix.": IT RETURNS 'Lib.hasPrefix s prefix'; the world is as it was. (LAID: no walk: one application.) -/
theorem Tryz.strings_HasPrefix (s p : ByteArray) (w : World) :
    Calls Tryz.prog 111 #[.string s, .string p] w fun e w' => e = .returned (.bool (Lib.hasPrefix s.data.toList p.data.toList)) ∧ w' = w := Any.strings_HasPrefix Tryz.lays99 s p w
def Tryz.lays197_ren : Go.Shelf.Ren := ⟨fun | 197 => 178 | 260 => 188 | n => n, fun | 9 => 9 | 21 => 21 | 3 => 3 | 4 => 4 | 5 => 5 | 105 => 244 | 119 => 257 | 0 => 0 | 46 => 116 | 139 => 260 | 138 => 259 | n => n, fun | 3 => 7 | 4 => 8 | n => n⟩
theorem Tryz.lays197 : Go.Proofs.Lays.n197 Tryz.prog Tryz.lays197_ren := {
  mixed := by kernel_rfl
  f197 := Tryz.func178.trans (congrArg some (by kernel_rfl))
  f260 := Tryz.func188.trans (congrArg some (by kernel_rfl))
  t0 := Tryz.underlying0
  a0 := Tryz.isAgg0
  z0 := Tryz.sizeOf0
  v0 := Tryz.zeroValue0
  t3 := Tryz.underlying3
  a3 := Tryz.isAgg3
  z3 := Tryz.sizeOf3
  v3 := Tryz.zeroValue3
  t4 := Tryz.underlying4
  a4 := Tryz.isAgg4
  z4 := Tryz.sizeOf4
  v4 := Tryz.zeroValue4
  t5 := Tryz.underlying5
  a5 := Tryz.isAgg5
  z5 := Tryz.sizeOf5
  v5 := Tryz.zeroValue5
  t9 := Tryz.underlying9
  a9 := Tryz.isAgg9
  z9 := Tryz.sizeOf9
  v9 := Tryz.zeroValue9
  t21 := Tryz.underlying21
  a21 := Tryz.isAgg21
  z21 := Tryz.sizeOf21
  v21 := Tryz.zeroValue21
  t46 := Tryz.underlying116
  a46 := Tryz.isAgg116
  z46 := Tryz.sizeOf116
  v46 := Tryz.zeroValue116
  t105 := Tryz.underlying244
  a105 := Tryz.isAgg244
  z105 := Tryz.sizeOf244
  v105 := Tryz.zeroValue244
  t119 := Tryz.underlying257
  a119 := Tryz.isAgg257
  z119 := Tryz.sizeOf257
  t138 := Tryz.underlying259
  a138 := Tryz.isAgg259
  z138 := Tryz.sizeOf259
  v138 := Tryz.zeroValue259
  t139 := Tryz.underlying260
  a139 := Tryz.isAgg260
  z139 := Tryz.sizeOf260
  v139 := Tryz.zeroValue260
  g3 := by kernel_rfl
  g4 := by kernel_rfl }
open Go.RowKit Go.Lib in
/-- unicode/utf8.DecodeRuneInString: "DecodeRuneInString is like DecodeRune but its input is a string.": ("DecodeRune unpacks the first UTF-8 encoding in p and returns the rune and its width in bytes."): WHERE s BEGINS WITH AN ASCII BYTE x: (x, 1). (LAID: no walk: one application.) -/
theorem Tryz.utf8_DecodeRuneInString_ascii (s : ByteArray) (x : UInt8) (w : World) (h0 : s.data.toList[0]? = some x) (hx : x.toNat < 128) :
    Calls Tryz.prog 178 #[.string s] w fun e w' => e = .returned (.tuple #[.int .i32 x.toNat, .int .i64 1]) ∧ w' = w := Any.utf8_DecodeRuneInString_ascii Tryz.lays197 s x w h0 hx
def Tryz.lays152_ren : Go.Shelf.Ren := ⟨fun | 152 => 189 | 137 => 152 | 119 => 191 | 224 => 192 | 225 => 193 | 217 => 175 | 266 => 187 | n => n, fun | 9 => 9 | 21 => 21 | 3 => 3 | 4 => 4 | 5 => 5 | 0 => 0 | 46 => 116 | n => n, fun | n => n⟩
theorem Tryz.lays152 : Go.Proofs.Lays.n152 Tryz.prog Tryz.lays152_ren := {
  mixed := by kernel_rfl
  f119 := Tryz.func191.trans (congrArg some (by kernel_rfl))
  f137 := Tryz.func152.trans (congrArg some (by kernel_rfl))
  f152 := Tryz.func189.trans (congrArg some (by kernel_rfl))
  f217 := Tryz.func175.trans (congrArg some (by kernel_rfl))
  f224 := Tryz.func192.trans (congrArg some (by kernel_rfl))
  f225 := Tryz.func193.trans (congrArg some (by kernel_rfl))
  f266 := Tryz.func187.trans (congrArg some (by kernel_rfl))
  t0 := Tryz.underlying0
  a0 := Tryz.isAgg0
  z0 := Tryz.sizeOf0
  v0 := Tryz.zeroValue0
  t3 := Tryz.underlying3
  a3 := Tryz.isAgg3
  z3 := Tryz.sizeOf3
  v3 := Tryz.zeroValue3
  t4 := Tryz.underlying4
  a4 := Tryz.isAgg4
  z4 := Tryz.sizeOf4
  v4 := Tryz.zeroValue4
  t5 := Tryz.underlying5
  a5 := Tryz.isAgg5
  z5 := Tryz.sizeOf5
  v5 := Tryz.zeroValue5
  t9 := Tryz.underlying9
  a9 := Tryz.isAgg9
  z9 := Tryz.sizeOf9
  v9 := Tryz.zeroValue9
  t21 := Tryz.underlying21
  a21 := Tryz.isAgg21
  z21 := Tryz.sizeOf21
  v21 := Tryz.zeroValue21
  t46 := Tryz.underlying116
  a46 := Tryz.isAgg116
  z46 := Tryz.sizeOf116
  v46 := Tryz.zeroValue116 }
open Go.RowKit Go.Lib in
theorem Tryz.strings_IndexRune_ascii (s : ByteArray) (r : Int) (w : World) (h0 : 0 ≤ r) (h1 : r < 128) :
    Calls Tryz.prog 189 #[.string s, .int .i32 r] w fun e w' => e = .returned (.int .i64 (Lib.indexByte s.data.toList r.toNat.toUInt8)) ∧ w' = w := Any.strings_IndexRune_ascii Tryz.lays152 s r w h0 h1
def Tryz.lays151_ren : Go.Shelf.Ren := ⟨fun | 151 => 179 | 152 => 189 | 137 => 152 | 119 => 191 | 224 => 192 | 225 => 193 | 217 => 175 | 266 => 187 | n => n, fun | 9 => 9 | 21 => 21 | 4 => 4 | 3 => 3 | 5 => 5 | 0 => 0 | 46 => 116 | n => n, fun | n => n⟩
theorem Tryz.lays151 : Go.Proofs.Lays.n151 Tryz.prog Tryz.lays151_ren := {
  mixed := by kernel_rfl
  f119 := Tryz.func191.trans (congrArg some (by kernel_rfl))
  f137 := Tryz.func152.trans (congrArg some (by kernel_rfl))
  f151 := Tryz.func179.trans (congrArg some (by kernel_rfl))
  f152 := Tryz.func189.trans (congrArg some (by kernel_rfl))
  f217 := Tryz.func175.trans (congrArg some (by kernel_rfl))
  f224 := Tryz.func192.trans (congrArg some (by kernel_rfl))
  f225 := Tryz.func193.trans (congrArg some (by kernel_rfl))
  f266 := Tryz.func187.trans (congrArg some (by kernel_rfl))
  t0 := Tryz.underlying0
  a0 := Tryz.isAgg0
  z0 := Tryz.sizeOf0
  v0 := Tryz.zeroValue0
  t3 := Tryz.underlying3
  a3 := Tryz.isAgg3
  z3 := Tryz.sizeOf3
  v3 := Tryz.zeroValue3
  t4 := Tryz.underlying4
  a4 := Tryz.isAgg4
  z4 := Tryz.sizeOf4
  v4 := Tryz.zeroValue4
  t5 := Tryz.underlying5
  a5 := Tryz.isAgg5
  z5 := Tryz.sizeOf5
  v5 := Tryz.zeroValue5
  t9 := Tryz.underlying9
  a9 := Tryz.isAgg9
  z9 := Tryz.sizeOf9
  v9 := Tryz.zeroValue9
  t21 := Tryz.underlying21
  a21 := Tryz.isAgg21
  z21 := Tryz.sizeOf21
  v21 := Tryz.zeroValue21
  t46 := Tryz.underlying116
  a46 := Tryz.isAgg116
  z46 := Tryz.sizeOf116
  v46 := Tryz.zeroValue116 }
open Go.RowKit Go.Lib in
theorem Tryz.strings_ContainsRune_ascii (s : ByteArray) (r : Int) (w : World) (h0 : 0 ≤ r) (h1 : r < 128) :
    Calls Tryz.prog 179 #[.string s, .int .i32 r] w fun e w' => e = .returned (.bool (decide (0 ≤ Lib.indexByte s.data.toList r.toNat.toUInt8))) ∧ w' = w := Any.strings_ContainsRune_ascii Tryz.lays151 s r w h0 h1
def Tryz.lays227_ren : Go.Shelf.Ren := ⟨fun | 227 => 160 | n => n, fun | 9 => 9 | 116 => 227 | 4 => 4 | 0 => 0 | 3 => 3 | 5 => 5 | n => n, fun | n => n⟩
theorem Tryz.lays227 : Go.Proofs.Lays.n227 Tryz.prog Tryz.lays227_ren := {
  mixed := by kernel_rfl
  f227 := Tryz.func160.trans (congrArg some (by kernel_rfl))
  t0 := Tryz.underlying0
  a0 := Tryz.isAgg0
  z0 := Tryz.sizeOf0
  v0 := Tryz.zeroValue0
  t3 := Tryz.underlying3
  a3 := Tryz.isAgg3
  z3 := Tryz.sizeOf3
  v3 := Tryz.zeroValue3
  t4 := Tryz.underlying4
  a4 := Tryz.isAgg4
  z4 := Tryz.sizeOf4
  v4 := Tryz.zeroValue4
  t5 := Tryz.underlying5
  a5 := Tryz.isAgg5
  z5 := Tryz.sizeOf5
  v5 := Tryz.zeroValue5
  t9 := Tryz.underlying9
  a9 := Tryz.isAgg9
  z9 := Tryz.sizeOf9
  v9 := Tryz.zeroValue9
  t116 := Tryz.underlying227
  a116 := Tryz.isAgg227
  z116 := Tryz.sizeOf227 }
open Go.RowKit Go.Lib in
theorem Tryz.strings_makeASCIISet (hv116 : ∀ w, (zeroValue 227).run Tryz.prog w = .ok (.agg (Array.replicate 256 (.bool false))) w) (chars : ByteArray) (w : World) (hs : chars.size < 4294967281) (hascii : ∀ (j : Nat) b, chars.data.toList[j]? = some b → b.toNat < 128) :
    Calls Tryz.prog 160 #[.string chars] w fun e w' => e = .returned (.tuple #[.agg (Lib.setCells chars.data.toList), .bool true]) ∧ w' = w.alloc (.cells (Lib.setCells chars.data.toList) 227) := Any.strings_makeASCIISet Tryz.lays227 hv116 (by kernel_rfl) chars w hs hascii
def Tryz.lays228_ren : Go.Shelf.Ren := ⟨fun | 228 => 177 | n => n, fun | 124 => 231 | 5 => 5 | 4 => 4 | 0 => 0 | 116 => 227 | n => n, fun | n => n⟩
theorem Tryz.lays228 : Go.Proofs.Lays.n228 Tryz.prog Tryz.lays228_ren := {
  mixed := by kernel_rfl
  f228 := Tryz.func177.trans (congrArg some (by kernel_rfl))
  t0 := Tryz.underlying0
  a0 := Tryz.isAgg0
  z0 := Tryz.sizeOf0
  v0 := Tryz.zeroValue0
  t4 := Tryz.underlying4
  a4 := Tryz.isAgg4
  z4 := Tryz.sizeOf4
  v4 := Tryz.zeroValue4
  t5 := Tryz.underlying5
  a5 := Tryz.isAgg5
  z5 := Tryz.sizeOf5
  v5 := Tryz.zeroValue5
  t116 := Tryz.underlying227
  a116 := Tryz.isAgg227
  z116 := Tryz.sizeOf227
  t124 := Tryz.underlying231
  a124 := Tryz.isAgg231
  z124 := Tryz.sizeOf231
  v124 := Tryz.zeroValue231 }
open Go.RowKit Go.Lib in
/-- '(as *asciiSet) contains(c)': 'as[c]': the set lies at block b, whole. (LAID: no walk: one application.) -/
theorem Tryz.asciiSet_contains (b : Nat) (x : UInt8) (v : Bool) (w : World) (hc : w.cell? ⟨b, x.toNat, none⟩ = some (.bool v)) :
    Calls Tryz.prog 177 #[.pointer (some ⟨b, 0, none⟩), .int .u8 x.toNat] w fun e w' => e = .returned (.bool v) ∧ w' = w := Any.asciiSet_contains Tryz.lays228 b x v w hc
def Tryz.lays264_ren : Go.Shelf.Ren := ⟨fun | 264 => 139 | n => n, fun | 53 => 97 | 46 => 116 | n => n, fun | n => n⟩
theorem Tryz.lays264 : Go.Proofs.Lays.n264 Tryz.prog Tryz.lays264_ren := {
  mixed := by kernel_rfl
  f264 := Tryz.func139.trans (congrArg some (by kernel_rfl))
  t46 := Tryz.underlying116
  a46 := Tryz.isAgg116
  z46 := Tryz.sizeOf116
  v46 := Tryz.zeroValue116
  t53 := Tryz.underlying97
  a53 := Tryz.isAgg97
  z53 := Tryz.sizeOf97
  v53 := Tryz.zeroValue97 }
open Go.RowKit Go.Lib in
theorem Tryz.bits_Mul64 (x y : Nat) (hx : x < 18446744073709551616) (hy : y < 18446744073709551616) (w : World) :
    Calls Tryz.prog 139 #[.int .u64 x, .int .u64 y] w fun e w' => e = .returned (.tuple #[.int .u64 ((x * y / 18446744073709551616 : Nat) : Int), .int .u64 ((x * y % 18446744073709551616 : Nat) : Int)]) ∧ w' = w := Any.bits_Mul64 Tryz.lays264 x y hx hy w
def Tryz.lays212_ren : Go.Shelf.Ren := ⟨fun | 212 => 110 | 263 => 147 | 264 => 139 | n => n, fun | 46 => 116 | 51 => 160 | 146 => 214 | 53 => 97 | 148 => 205 | n => n, fun | n => n⟩
theorem Tryz.lays212 : Go.Proofs.Lays.n212 Tryz.prog Tryz.lays212_ren := {
  mixed := by kernel_rfl
  f212 := Tryz.func110.trans (congrArg some (by kernel_rfl))
  f263 := Tryz.func147.trans (congrArg some (by kernel_rfl))
  f264 := Tryz.func139.trans (congrArg some (by kernel_rfl))
  t46 := Tryz.underlying116
  a46 := Tryz.isAgg116
  z46 := Tryz.sizeOf116
  v46 := Tryz.zeroValue116
  t51 := Tryz.underlying160
  a51 := Tryz.isAgg160
  z51 := Tryz.sizeOf160
  v51 := Tryz.zeroValue160
  t53 := Tryz.underlying97
  a53 := Tryz.isAgg97
  z53 := Tryz.sizeOf97
  v53 := Tryz.zeroValue97
  t146 := Tryz.underlying214
  a146 := Tryz.isAgg214
  z146 := Tryz.sizeOf214
  v146 := Tryz.zeroValue214
  t148 := Tryz.underlying205
  a148 := Tryz.isAgg205
  z148 := Tryz.sizeOf205
  v148 := Tryz.zeroValue205 }
open Go.RowKit Go.Lib in
/-- math/bits.Mul: "Mul returns the full-width product of x and y": on a machine of 64 bits: Mul64's. (LAID: no walk: one application.) -/
theorem Tryz.bits_Mul (x y : Nat) (hx : x < 18446744073709551616) (hy : y < 18446744073709551616) (w : World) :
    Calls Tryz.prog 110 #[.int .u64 x, .int .u64 y] w fun e w' => e = .returned (.tuple #[.int .u64 ((x * y / 18446744073709551616 : Nat) : Int), .int .u64 ((x * y % 18446744073709551616 : Nat) : Int)]) ∧ w' = w := Any.bits_Mul Tryz.lays212 x y hx hy w
def Tryz.lays105_ren : Go.Shelf.Ren := ⟨fun | 105 => 73 | 212 => 110 | 99 => 111 | 165 => 112 | 166 => 63 | 170 => 113 | 169 => 66 | 263 => 147 | 264 => 139 | 206 => 148 | 240 => 101 | 241 => 149 | 276 => 137 | 277 => 174 | n => n, fun | 9 => 9 | 3 => 3 | 4 => 4 | 20 => 20 | 0 => 0 | 46 => 116 | 109 => 176 | 5 => 5 | 72 => 128 | 76 => 131 | 51 => 160 | 146 => 214 | 53 => 97 | 148 => 205 | 70 => 125 | 37 => 126 | 75 => 130 | 127 => 172 | 164 => 199 | 80 => 134 | n => n, fun | n => n⟩
theorem Tryz.lays105 : Go.Proofs.Lays.n105 Tryz.prog Tryz.lays105_ren := {
  mixed := by kernel_rfl
  f99 := Tryz.func111.trans (congrArg some (by kernel_rfl))
  f105 := Tryz.func73.trans (congrArg some (by kernel_rfl))
  f165 := Tryz.func112.trans (congrArg some (by kernel_rfl))
  f166 := Tryz.func63.trans (congrArg some (by kernel_rfl))
  f169 := Tryz.func66.trans (congrArg some (by kernel_rfl))
  f170 := Tryz.func113.trans (congrArg some (by kernel_rfl))
  f206 := Tryz.func148.trans (congrArg some (by kernel_rfl))
  f212 := Tryz.func110.trans (congrArg some (by kernel_rfl))
  f240 := Tryz.func101.trans (congrArg some (by kernel_rfl))
  f241 := Tryz.func149.trans (congrArg some (by kernel_rfl))
  f263 := Tryz.func147.trans (congrArg some (by kernel_rfl))
  f264 := Tryz.func139.trans (congrArg some (by kernel_rfl))
  f276 := Tryz.func137.trans (congrArg some (by kernel_rfl))
  f277 := Tryz.func174.trans (congrArg some (by kernel_rfl))
  t0 := Tryz.underlying0
  a0 := Tryz.isAgg0
  z0 := Tryz.sizeOf0
  v0 := Tryz.zeroValue0
  t3 := Tryz.underlying3
  a3 := Tryz.isAgg3
  z3 := Tryz.sizeOf3
  v3 := Tryz.zeroValue3
  t4 := Tryz.underlying4
  a4 := Tryz.isAgg4
  z4 := Tryz.sizeOf4
  v4 := Tryz.zeroValue4
  t5 := Tryz.underlying5
  a5 := Tryz.isAgg5
  z5 := Tryz.sizeOf5
  v5 := Tryz.zeroValue5
  t9 := Tryz.underlying9
  a9 := Tryz.isAgg9
  z9 := Tryz.sizeOf9
  v9 := Tryz.zeroValue9
  t20 := Tryz.underlying20
  a20 := Tryz.isAgg20
  z20 := Tryz.sizeOf20
  v20 := Tryz.zeroValue20
  t37 := Tryz.underlying126
  a37 := Tryz.isAgg126
  z37 := Tryz.sizeOf126
  v37 := Tryz.zeroValue126
  t46 := Tryz.underlying116
  a46 := Tryz.isAgg116
  z46 := Tryz.sizeOf116
  v46 := Tryz.zeroValue116
  t51 := Tryz.underlying160
  a51 := Tryz.isAgg160
  z51 := Tryz.sizeOf160
  v51 := Tryz.zeroValue160
  t53 := Tryz.underlying97
  a53 := Tryz.isAgg97
  z53 := Tryz.sizeOf97
  v53 := Tryz.zeroValue97
  t70 := Tryz.underlying125
  a70 := Tryz.isAgg125
  z70 := Tryz.sizeOf125
  v70 := Tryz.zeroValue125
  t72 := Tryz.underlying128
  a72 := Tryz.isAgg128
  z72 := Tryz.sizeOf128
  v72 := Tryz.zeroValue128
  t75 := Tryz.underlying130
  a75 := Tryz.isAgg130
  z75 := Tryz.sizeOf130
  v75 := Tryz.zeroValue130
  t76 := Tryz.underlying131
  a76 := Tryz.isAgg131
  z76 := Tryz.sizeOf131
  v76 := Tryz.zeroValue131
  t109 := Tryz.underlying176
  a109 := Tryz.isAgg176
  z109 := Tryz.sizeOf176
  v109 := Tryz.zeroValue176
  t127 := Tryz.underlying172
  a127 := Tryz.isAgg172
  z127 := Tryz.sizeOf172
  v127 := Tryz.zeroValue172
  t146 := Tryz.underlying214
  a146 := Tryz.isAgg214
  z146 := Tryz.sizeOf214
  v146 := Tryz.zeroValue214
  t148 := Tryz.underlying205
  a148 := Tryz.isAgg205
  z148 := Tryz.sizeOf205
  v148 := Tryz.zeroValue205
  t164 := Tryz.underlying199
  a164 := Tryz.isAgg199
  z164 := Tryz.sizeOf199
  v164 := Tryz.zeroValue199 }
theorem Tryz.Builder_Extra_105 : Builder.Extra Tryz.prog Tryz.lays105_ren := {
  sizeBuilder := by kernel_rfl
  liesBuilder := by kernel_rfl
  t5 := Tryz.underlying5
  a5 := Tryz.isAgg5
  z5 := Tryz.sizeOf5
  v5 := Tryz.zeroValue5
  infoByte := by kernel_rfl
  cellsByte := by kernel_rfl
  sizeByte := by kernel_rfl
  neB5 := by decide }
open Go.RowKit Go.Lib in
/-- THE MAIN CASE: at least two copies of a string that is not empty. (LAID: no walk: one application.) -/
theorem Tryz.strings_Repeat_main (s : ByteArray) (c : Nat) (w : World) (hc2 : 2 ≤ c) (hc : c ≤ 9223372036854775807) (hlen : s.size * c ≤ 140737488355328) (h0 : 0 < s.size) :
    Calls Tryz.prog 73 #[.string s, .int .i64 c] w fun e w' => e = .returned (.string ⟨(Lib.repeatL s.data.toList c).toArray⟩) ∧ Below w.heap.size w w' := Any.strings_Repeat_main Tryz.lays105 Tryz.Builder_Extra_105 s c w hc2 hc hlen h0
open Go.RowKit Go.Lib in
theorem Tryz.strings_Repeat_zero (s : ByteArray) (w : World) :
    Calls Tryz.prog 73 #[.string s, .int .i64 0] w fun e w' => e = .returned (.string ⟨#[]⟩) ∧ w' = w := Any.strings_Repeat_zero Tryz.lays105 s w
open Go.RowKit Go.Lib in
theorem Tryz.strings_Repeat_one (s : ByteArray) (w : World) :
    Calls Tryz.prog 73 #[.string s, .int .i64 1] w fun e w' => e = .returned (.string s) ∧ w' = w := Any.strings_Repeat_one Tryz.lays105 s w
open Go.RowKit Go.Lib in
/-- Copies of the empty string. (LAID: no walk: one application.) -/
theorem Tryz.strings_Repeat_empty (s : ByteArray) (c : Nat) (w : World) (hc2 : 2 ≤ c) (hc : c ≤ 9223372036854775807) (h0 : s.size = 0) :
    Calls Tryz.prog 73 #[.string s, .int .i64 c] w fun e w' => e = .returned (.string ⟨#[]⟩) ∧ w' = w := Any.strings_Repeat_empty Tryz.lays105 s c w hc2 hc h0
open Go.RowKit Go.Lib in
/-- count < 0: "It panics if count is negative". (LAID: no walk: one application.) -/
theorem Tryz.strings_Repeat_negative (s : ByteArray) (c : Int) (w : World) (hc : c < 0) :
    Calls Tryz.prog 73 #[.string s, .int .i64 c] w fun e w' => e = .panicked [{ v := repeatPanic Tryz.lays105_ren "strings: negative Repeat count", recovered := false }] ∧ w' = w := Any.strings_Repeat_negative Tryz.lays105 s c w hc
open Go.RowKit Go.Lib in
/-- len(s) * count is no int: ".. or if the result of (len(s) * count) overflows". (LAID: no walk: one application.) -/
theorem Tryz.strings_Repeat_overflow (s : ByteArray) (c : Nat) (w : World) (hc : c ≤ 9223372036854775807) (hs : s.size ≤ 9223372036854775807) (hbig : 9223372036854775807 < s.size * c) :
    Calls Tryz.prog 73 #[.string s, .int .i64 c] w fun e w' => e = .panicked [{ v := repeatPanic Tryz.lays105_ren "strings: Repeat output length overflow", recovered := false }] ∧ w' = w := Any.strings_Repeat_overflow Tryz.lays105 s c w hc hs hbig
open Go.RowKit Go.Lib in
/-- **strings.Repeat: count ≥ 0, the result within one allocation: count copies of s.** (LAID: no walk: one application.) -/
theorem Tryz.strings_Repeat (s : ByteArray) (c : Nat) (w : World) (hc : c ≤ 9223372036854775807) (hlen : s.size * c ≤ 140737488355328) :
    Calls Tryz.prog 73 #[.string s, .int .i64 c] w fun e w' => e = .returned (.string ⟨(Lib.repeatL s.data.toList c).toArray⟩) ∧ Below w.heap.size w w' := Any.strings_Repeat Tryz.lays105 Tryz.Builder_Extra_105 s c w hc hlen
def Tryz.lays260_ren : Go.Shelf.Ren := ⟨fun | 260 => 188 | n => n, fun | 9 => 9 | 21 => 21 | 3 => 3 | 4 => 4 | 5 => 5 | 119 => 257 | 0 => 0 | 46 => 116 | 139 => 260 | 138 => 259 | n => n, fun | 3 => 7 | 4 => 8 | n => n⟩
theorem Tryz.lays260 : Go.Proofs.Lays.n260 Tryz.prog Tryz.lays260_ren := {
  mixed := by kernel_rfl
  f260 := Tryz.func188.trans (congrArg some (by kernel_rfl))
  t0 := Tryz.underlying0
  a0 := Tryz.isAgg0
  z0 := Tryz.sizeOf0
  v0 := Tryz.zeroValue0
  t3 := Tryz.underlying3
  a3 := Tryz.isAgg3
  z3 := Tryz.sizeOf3
  v3 := Tryz.zeroValue3
  t4 := Tryz.underlying4
  a4 := Tryz.isAgg4
  z4 := Tryz.sizeOf4
  v4 := Tryz.zeroValue4
  t5 := Tryz.underlying5
  a5 := Tryz.isAgg5
  z5 := Tryz.sizeOf5
  v5 := Tryz.zeroValue5
  t9 := Tryz.underlying9
  a9 := Tryz.isAgg9
  z9 := Tryz.sizeOf9
  v9 := Tryz.zeroValue9
  t21 := Tryz.underlying21
  a21 := Tryz.isAgg21
  z21 := Tryz.sizeOf21
  v21 := Tryz.zeroValue21
  t46 := Tryz.underlying116
  a46 := Tryz.isAgg116
  z46 := Tryz.sizeOf116
  v46 := Tryz.zeroValue116
  t119 := Tryz.underlying257
  a119 := Tryz.isAgg257
  z119 := Tryz.sizeOf257
  t138 := Tryz.underlying259
  a138 := Tryz.isAgg259
  z138 := Tryz.sizeOf259
  v138 := Tryz.zeroValue259
  t139 := Tryz.underlying260
  a139 := Tryz.isAgg260
  z139 := Tryz.sizeOf260
  v139 := Tryz.zeroValue260
  g3 := by kernel_rfl
  g4 := by kernel_rfl }
open Go.RowKit Go.Lib in
theorem Tryz.utf8_decodeRuneInStringSlow (s : ByteArray) (w : World) (hT : Lib.Utf8Tabs 7 8 w) :
    Calls Tryz.prog 188 #[.string s] w fun e w' => e = .returned (.tuple #[.int .i32 (Lib.decodeGo s).1, .int .i64 (Lib.decodeGo s).2]) ∧ Below w.heap.size w w' := Any.utf8_decodeRuneInStringSlow Tryz.lays260 s w hT
open Go.RowKit Go.Lib in
/-- **unicode/utf8.DecodeRuneInString AT EVERY STRING.** (LAID: no walk: one application.) -/
theorem Tryz.utf8_DecodeRuneInString (s : ByteArray) (w : World) (hT : Lib.Utf8Tabs 7 8 w) :
    Calls Tryz.prog 178 #[.string s] w fun e w' => e = .returned (.tuple #[.int .i32 (Lib.decodeGo s).1, .int .i64 (Lib.decodeGo s).2]) ∧ Below w.heap.size w w' := Any.utf8_DecodeRuneInString Tryz.lays197 s w hT
def Tryz.lays271_ren : Go.Shelf.Ren := ⟨fun | 271 => 180 | 120 => 190 | 197 => 178 | 260 => 188 | n => n, fun | 9 => 9 | 21 => 21 | 3 => 3 | 4 => 4 | 5 => 5 | 105 => 244 | 119 => 257 | 0 => 0 | 46 => 116 | 139 => 260 | 138 => 259 | n => n, fun | 3 => 7 | 4 => 8 | n => n⟩
theorem Tryz.lays271 : Go.Proofs.Lays.n271 Tryz.prog Tryz.lays271_ren := {
  mixed := by kernel_rfl
  f120 := Tryz.func190.trans (congrArg some (by kernel_rfl))
  f197 := Tryz.func178.trans (congrArg some (by kernel_rfl))
  f260 := Tryz.func188.trans (congrArg some (by kernel_rfl))
  f271 := Tryz.func180.trans (congrArg some (by kernel_rfl))
  t0 := Tryz.underlying0
  a0 := Tryz.isAgg0
  z0 := Tryz.sizeOf0
  v0 := Tryz.zeroValue0
  t3 := Tryz.underlying3
  a3 := Tryz.isAgg3
  z3 := Tryz.sizeOf3
  v3 := Tryz.zeroValue3
  t4 := Tryz.underlying4
  a4 := Tryz.isAgg4
  z4 := Tryz.sizeOf4
  v4 := Tryz.zeroValue4
  t5 := Tryz.underlying5
  a5 := Tryz.isAgg5
  z5 := Tryz.sizeOf5
  v5 := Tryz.zeroValue5
  t9 := Tryz.underlying9
  a9 := Tryz.isAgg9
  z9 := Tryz.sizeOf9
  v9 := Tryz.zeroValue9
  t21 := Tryz.underlying21
  a21 := Tryz.isAgg21
  z21 := Tryz.sizeOf21
  v21 := Tryz.zeroValue21
  t46 := Tryz.underlying116
  a46 := Tryz.isAgg116
  z46 := Tryz.sizeOf116
  v46 := Tryz.zeroValue116
  t105 := Tryz.underlying244
  a105 := Tryz.isAgg244
  z105 := Tryz.sizeOf244
  v105 := Tryz.zeroValue244
  t119 := Tryz.underlying257
  a119 := Tryz.isAgg257
  z119 := Tryz.sizeOf257
  t138 := Tryz.underlying259
  a138 := Tryz.isAgg259
  z138 := Tryz.sizeOf259
  v138 := Tryz.zeroValue259
  t139 := Tryz.underlying260
  a139 := Tryz.isAgg260
  z139 := Tryz.sizeOf260
  v139 := Tryz.zeroValue260
  g3 := by kernel_rfl
  g4 := by kernel_rfl }
open Go.RowKit Go.Lib in
/-- **unicode/utf8.DecodeLastRuneInString AT EVERY STRING.** (LAID: no walk: one application.) -/
theorem Tryz.utf8_DecodeLastRuneInString (s : ByteArray) (w : World) (hs : s.size ≤ 9223372036854775807) (hT : Lib.Utf8Tabs 7 8 w) :
    Calls Tryz.prog 180 #[.string s] w fun e w' => e = .returned (.tuple #[.int .i32 (Lib.decodeLastL s.data.toList).1, .int .i64 (Lib.decodeLastL s.data.toList).2]) ∧ Below w.heap.size w w' := Any.utf8_DecodeLastRuneInString Tryz.lays271 s w hs hT
def Tryz.laysNm237_ren : Go.Shelf.Ren := ⟨fun | 37 => 62 | n => n, fun | 3 => 3 | 4 => 4 | n => n, fun | n => n⟩
theorem Tryz.laysNm237 : Go.Proofs.Lays2.n37 Tryz.prog Tryz.laysNm237_ren := {
  mixed := by kernel_rfl
  f37 := Tryz.func62.trans (congrArg some (by kernel_rfl))
  t3 := Tryz.underlying3
  a3 := Tryz.isAgg3
  z3 := Tryz.sizeOf3
  v3 := Tryz.zeroValue3
  t4 := Tryz.underlying4
  a4 := Tryz.isAgg4
  z4 := Tryz.sizeOf4
  v4 := Tryz.zeroValue4 }
open Go.RowKit Go.Lib in
/-- cmp.isNaN[int]: 'x != x': false. (LAID: no walk: one application.) -/
theorem Tryz.cmp_isNaN_int2 (x : Int) (w : World) :
    Calls Tryz.prog 62 #[.int .i64 x] w fun e w' => e = .returned (.bool false) ∧ w' = w := Any.cmp_isNaN_int2 Tryz.laysNm237 x w
def Tryz.laysNm231_ren : Go.Shelf.Ren := ⟨fun | 31 => 131 | 37 => 62 | n => n, fun | 3 => 3 | 4 => 4 | n => n, fun | n => n⟩
theorem Tryz.laysNm231 : Go.Proofs.Lays2.n31 Tryz.prog Tryz.laysNm231_ren := {
  mixed := by kernel_rfl
  f31 := Tryz.func131.trans (congrArg some (by kernel_rfl))
  f37 := Tryz.func62.trans (congrArg some (by kernel_rfl))
  t3 := Tryz.underlying3
  a3 := Tryz.isAgg3
  z3 := Tryz.sizeOf3
  v3 := Tryz.zeroValue3
  t4 := Tryz.underlying4
  a4 := Tryz.isAgg4
  z4 := Tryz.sizeOf4
  v4 := Tryz.zeroValue4 }
open Go.RowKit Go.Lib in
/-- cmp.Less[int]: "Less reports whether x is less than y.": 'x < y'; the world is as it was. (LAID: no walk: one application.) -/
theorem Tryz.cmp_Less_int2 (x y : Int) (w : World) :
    Calls Tryz.prog 131 #[.int .i64 x, .int .i64 y] w fun e w' => e = .returned (.bool (decide (x < y))) ∧ w' = w := Any.cmp_Less_int2 Tryz.laysNm231 x y w
open Go.RowKit Go.Sort in
/-- .. and plain. (LAID: no walk: one application.) -/
theorem Tryz.slices_Sort_int_none (p : Option Addr) (cap : Nat) (w : World) :
    Calls Tryz.prog 59 #[.slice p 0 cap] w fun e w' => e = .returned (.tuple #[]) ∧ w' = w := Any.slices_Sort_int_none Tryz.lays189 p cap w
def Tryz.laysSlE041_f43_ren : Go.Shelf.Ren := ⟨fun | 41 => 43 | n => n, fun | 22 => 59 | 23 => 97 | 4 => 4 | n => n, fun | n => n⟩
theorem Tryz.laysSlE041_f43 : Go.Proofs.SlLaysE0.n41 Tryz.prog Tryz.laysSlE041_f43_ren := {
  mixed := by kernel_rfl
  f41 := ⟨Tryz.f43.name, by decide, Tryz.func43.trans (congrArg some (by kernel_rfl))⟩
  t4 := Tryz.underlying4
  a4 := Tryz.isAgg4
  z4 := Tryz.sizeOf4
  v4 := Tryz.zeroValue4
  t22 := Tryz.underlying59
  a22 := Tryz.isAgg59
  z22 := Tryz.sizeOf59
  v22 := Tryz.zeroValue59 }
open Go.RowKit Go.Lib in
/-- slices.Clone: "Clone returns a copy of the slice. The elements are copied using assignment, so this is a shallow clone. The result may have additional unused capacity. The result preserves the nilness of s.": OF A SLICE THAT IS NOT nil IT RETURNS A SLICE THAT IS NOT nil, OF THE SAME CELLS, IN MEMORY OF THE CALL's OWN ('ownsRow': the how-to's 6f); below the heap's size at the call all is as it was. (LAID AT THE INSTANCE 'slices.Clone[[]uint64,uint64]': no walk: one application.) -/
theorem Tryz.slices_Clone (i0 : TypeInfo) (z : Value) (size bytes : Nat) (hi : Tryz.prog.info? 97 = some i0) (hz0 : i0.zero = some z) (hz1 : i0.size = size) (hz2 : i0.bytes = bytes) (hzs : z.cells.size = size) (hsz : 0 < size) (z23 : ∀ w, (Go.sizeOf 97).run Tryz.prog w = .ok size w) (b off n c : Nat) (news : List Value) (w : World) (hl : news.length = n * size) (hn : n ≤ maxLen) (hbig : n * bytes ≤ 140737488355328) (hc : ∀ j u, news[j]? = some u → w.cell? ⟨b, off + j, none⟩ = some u) (h1 : ∀ u ∈ news, u.oneCell' = true) :
    Calls Tryz.prog 43 #[.slice (some ⟨b, off, none⟩) n c] w fun e w' => ∃ v', e = .returned v' ∧ w'.ownsRow w.heap.size 97 size v' n news ∧ v' ≠ .slice none 0 0 ∧ Below w.heap.size w w' := AnyE.slices_Clone Tryz.laysSlE041_f43 i0 z size bytes hi hz0 hz1 hz2 hzs hsz z23 b off n c news w hl hn hbig hc h1
open Go.RowKit Go.Lib in
/-- The same at nil: nil comes back; the world is as it was; nothing is asked of the element's type. (LAID AT THE INSTANCE 'slices.Clone[[]uint64,uint64]': no walk: one application.) -/
theorem Tryz.slices_Clone_nil (n c : Nat) (w : World) :
    Calls Tryz.prog 43 #[.slice none n c] w fun e w' => e = .returned (.slice none 0 0) ∧ w' = w := AnyE.slices_Clone_nil Tryz.laysSlE041_f43 n c w
end Go.Proofs
end
section
namespace Go.Proofs.YtienaifmlhcijaaGreatDoor
open Go Go.Gw
set_option linter.unusedVariables false
set_option linter.unusedSimpArgs false
theorem Fagg147 : aggB Tryz.prog 147 2 = true := by kernel_rfl
theorem Fagg184 : aggB Tryz.prog 184 18 = true := by kernel_rfl
theorem Fagg32 : aggB Tryz.prog 32 6 = true := by kernel_rfl
theorem Fagg35 : aggB Tryz.prog 35 5 = true := by kernel_rfl
theorem Fagg42 : aggB Tryz.prog 42 11 = true := by kernel_rfl
theorem Fagg45 : aggB Tryz.prog 45 6 = true := by kernel_rfl
theorem Fagg61 : aggB Tryz.prog 61 3 = true := by kernel_rfl
theorem Fbld203 : buildB Tryz.prog 203 = some ([.int .u64 0, .int .u64 0], [(0, 1), (1, 1)]) := by kernel_rfl
theorem Fbld204 : buildB Tryz.prog 204 = some ([.int .u64 0, .int .u64 0, .int .u64 0, .int .u64 0], [(0, 2), (2, 2)]) := by kernel_rfl
theorem Fbld32 : buildB Tryz.prog 32 = some ([.int .i64 0, .int .i64 0, .int .i64 0, .int .i64 0, .int .i64 0, .string ⟨#[]⟩], [(0, 1), (1, 1), (2, 1), (3, 1), (4, 1), (5, 1)]) := by kernel_rfl
theorem Fbld35 : buildB Tryz.prog 35 = some ([.int .i64 0, .int .i64 0, .int .i64 0, .string ⟨#[]⟩, .slice none 0 0], [(0, 1), (1, 1), (2, 1), (3, 1), (4, 1)]) := by kernel_rfl
theorem Fbld42 : buildB Tryz.prog 42 = some ([.int .i64 0, .int .i64 0, .int .i64 0, .string ⟨#[]⟩, .slice none 0 0, .string ⟨#[]⟩, .slice none 0 0, .int .i64 0, .slice none 0 0, .int .i64 0, .slice none 0 0], [(0, 5), (5, 1), (6, 2), (8, 1), (9, 1), (10, 1)]) := by kernel_rfl
theorem Fbld45 : buildB Tryz.prog 45 = some ([.int .i64 0, .int .i64 0, .int .i64 0, .int .i64 0, .int .i64 0, .int .i64 0], [(0, 1), (1, 1), (2, 1), (3, 1), (4, 1), (5, 1)]) := by kernel_rfl
theorem Fbld50 : buildB Tryz.prog 50 = some ([.int .u8 0, .int .u8 0, .int .u8 0, .int .u8 0], [(0, 1), (1, 1), (2, 1), (3, 1)]) := by kernel_rfl
theorem Fbld61 : buildB Tryz.prog 61 = some ([.int .i64 0, .int .i64 0, .slice none 0 0], [(0, 1), (1, 1), (2, 1)]) := by kernel_rfl
theorem Fbld91 : buildB Tryz.prog 91 = some ([.int .i64 0, .int .i64 0, .int .i64 0, .int .i64 0, .bool false, .int .i64 0, .int .i64 0, .int .i64 0, .slice none 0 0, .map none, .slice none 0 0], [(0, 1), (1, 1), (2, 1), (3, 1), (4, 1), (5, 1), (6, 3), (9, 1), (10, 1)]) := by kernel_rfl
theorem Feqg32 : Tryz.prog.eqGuardType Tryz.prog.depth 32 = false := by kernel_rfl
theorem Feqg45 : Tryz.prog.eqGuardType Tryz.prog.depth 45 = false := by kernel_rfl
theorem Feqg9 : Tryz.prog.eqGuardType Tryz.prog.depth 9 = false := by kernel_rfl
theorem Ffo128_0 : fieldOff Tryz.prog 128 0 = some 0 := by kernel_rfl
theorem Ffo128_1 : fieldOff Tryz.prog 128 1 = some 1 := by kernel_rfl
theorem Ffo147_0 : fieldOff Tryz.prog 147 0 = some 0 := by kernel_rfl
theorem Ffo147_1 : fieldOff Tryz.prog 147 1 = some 1 := by kernel_rfl
theorem Ffo32_0 : fieldOff Tryz.prog 32 0 = some 0 := by kernel_rfl
theorem Ffo32_1 : fieldOff Tryz.prog 32 1 = some 1 := by kernel_rfl
theorem Ffo32_2 : fieldOff Tryz.prog 32 2 = some 2 := by kernel_rfl
theorem Ffo32_3 : fieldOff Tryz.prog 32 3 = some 3 := by kernel_rfl
theorem Ffo32_4 : fieldOff Tryz.prog 32 4 = some 4 := by kernel_rfl
theorem Ffo32_5 : fieldOff Tryz.prog 32 5 = some 5 := by kernel_rfl
theorem Ffo35_0 : fieldOff Tryz.prog 35 0 = some 0 := by kernel_rfl
theorem Ffo35_1 : fieldOff Tryz.prog 35 1 = some 1 := by kernel_rfl
theorem Ffo35_2 : fieldOff Tryz.prog 35 2 = some 2 := by kernel_rfl
theorem Ffo35_3 : fieldOff Tryz.prog 35 3 = some 3 := by kernel_rfl
theorem Ffo35_4 : fieldOff Tryz.prog 35 4 = some 4 := by kernel_rfl
theorem Ffo42_0 : fieldOff Tryz.prog 42 0 = some 0 := by kernel_rfl
theorem Ffo42_4 : fieldOff Tryz.prog 42 4 = some 9 := by kernel_rfl
theorem Ffo45_0 : fieldOff Tryz.prog 45 0 = some 0 := by kernel_rfl
theorem Ffo45_1 : fieldOff Tryz.prog 45 1 = some 1 := by kernel_rfl
theorem Ffo45_2 : fieldOff Tryz.prog 45 2 = some 2 := by kernel_rfl
theorem Ffo45_3 : fieldOff Tryz.prog 45 3 = some 3 := by kernel_rfl
theorem Ffo45_4 : fieldOff Tryz.prog 45 4 = some 4 := by kernel_rfl
theorem Ffo45_5 : fieldOff Tryz.prog 45 5 = some 5 := by kernel_rfl
theorem Ffo50_0 : fieldOff Tryz.prog 50 0 = some 0 := by kernel_rfl
theorem Ffo50_1 : fieldOff Tryz.prog 50 1 = some 1 := by kernel_rfl
theorem Ffo50_2 : fieldOff Tryz.prog 50 2 = some 2 := by kernel_rfl
theorem Ffo50_3 : fieldOff Tryz.prog 50 3 = some 3 := by kernel_rfl
theorem Ffo61_0 : fieldOff Tryz.prog 61 0 = some 0 := by kernel_rfl
theorem Ffo61_1 : fieldOff Tryz.prog 61 1 = some 1 := by kernel_rfl
theorem Ffo61_2 : fieldOff Tryz.prog 61 2 = some 2 := by kernel_rfl
theorem Ffo91_0 : fieldOff Tryz.prog 91 0 = some 0 := by kernel_rfl
theorem Ffo91_1 : fieldOff Tryz.prog 91 1 = some 1 := by kernel_rfl
theorem Ffo91_2 : fieldOff Tryz.prog 91 2 = some 2 := by kernel_rfl
theorem Ffo91_3 : fieldOff Tryz.prog 91 3 = some 3 := by kernel_rfl
theorem Ffo91_4 : fieldOff Tryz.prog 91 4 = some 4 := by kernel_rfl
theorem Ffo91_5 : fieldOff Tryz.prog 91 5 = some 5 := by kernel_rfl
theorem Ffo91_6 : fieldOff Tryz.prog 91 6 = some 6 := by kernel_rfl
theorem Ffo91_7 : fieldOff Tryz.prog 91 7 = some 9 := by kernel_rfl
theorem Ffo91_8 : fieldOff Tryz.prog 91 8 = some 10 := by kernel_rfl
theorem Finf23 : infoB Tryz.prog 23 = some (.nilFunc, 1, 8) := by kernel_rfl
theorem Finf29 : infoB Tryz.prog 29 = some (.slice none 0 0, 1, 24) := by kernel_rfl
theorem Finf3 : infoB Tryz.prog 3 = some (.int .i64 0, 1, 8) := by kernel_rfl
theorem Finf32 : infoB Tryz.prog 32 = some (.agg #[.int .i64 0, .int .i64 0, .int .i64 0, .int .i64 0, .int .i64 0, .string ⟨#[]⟩], 6, 56) := by kernel_rfl
theorem Finf42 : infoB Tryz.prog 42 = some (.agg #[.int .i64 0, .int .i64 0, .int .i64 0, .string ⟨#[]⟩, .slice none 0 0, .string ⟨#[]⟩, .slice none 0 0, .int .i64 0, .slice none 0 0, .int .i64 0, .slice none 0 0], 11, 168) := by kernel_rfl
theorem Finf45 : infoB Tryz.prog 45 = some (.agg #[.int .i64 0, .int .i64 0, .int .i64 0, .int .i64 0, .int .i64 0, .int .i64 0], 6, 48) := by kernel_rfl
theorem Finf5 : infoB Tryz.prog 5 = some (.int .u8 0, 1, 1) := by kernel_rfl
theorem Finf50 : infoB Tryz.prog 50 = some (.agg #[.int .u8 0, .int .u8 0, .int .u8 0, .int .u8 0], 4, 4) := by kernel_rfl
theorem Finf53 : infoB Tryz.prog 53 = some (.pointer none, 1, 8) := by kernel_rfl
theorem Finf9 : infoB Tryz.prog 9 = some (.string ⟨#[]⟩, 1, 16) := by kernel_rfl
theorem Finf97 : infoB Tryz.prog 97 = some (.int .u64 0, 1, 8) := by kernel_rfl
theorem Fmo : Tryz.prog.follows .mixedOrders = true := by kernel_rfl
theorem Fsca125 : scalarB Tryz.prog 125 = true := by kernel_rfl
theorem Fsca126 : scalarB Tryz.prog 126 = true := by kernel_rfl
theorem Fsca169 : scalarB Tryz.prog 169 = true := by kernel_rfl
theorem Fsca23 : scalarB Tryz.prog 23 = true := by kernel_rfl
theorem Fsca25 : scalarB Tryz.prog 25 = true := by kernel_rfl
theorem Fsca29 : scalarB Tryz.prog 29 = true := by kernel_rfl
theorem Fsca3 : scalarB Tryz.prog 3 = true := by kernel_rfl
theorem Fsca33 : scalarB Tryz.prog 33 = true := by kernel_rfl
theorem Fsca4 : scalarB Tryz.prog 4 = true := by kernel_rfl
theorem Fsca5 : scalarB Tryz.prog 5 = true := by kernel_rfl
theorem Fsca53 : scalarB Tryz.prog 53 = true := by kernel_rfl
theorem Fsca59 : scalarB Tryz.prog 59 = true := by kernel_rfl
theorem Fsca72 : scalarB Tryz.prog 72 = true := by kernel_rfl
theorem Fsca76 : scalarB Tryz.prog 76 = true := by kernel_rfl
theorem Fsca89 : scalarB Tryz.prog 89 = true := by kernel_rfl
theorem Fsca9 : scalarB Tryz.prog 9 = true := by kernel_rfl
theorem Fsca93 : scalarB Tryz.prog 93 = true := by kernel_rfl
theorem Fsca95 : scalarB Tryz.prog 95 = true := by kernel_rfl
theorem Fsca97 : scalarB Tryz.prog 97 = true := by kernel_rfl
theorem Fsca98 : scalarB Tryz.prog 98 = true := by kernel_rfl
theorem Fsiz125 : sizeB Tryz.prog 125 1 = true := by kernel_rfl
theorem Fsiz126 : sizeB Tryz.prog 126 1 = true := by kernel_rfl
theorem Fsiz147 : sizeB Tryz.prog 147 2 = true := by kernel_rfl
theorem Fsiz169 : sizeB Tryz.prog 169 1 = true := by kernel_rfl
theorem Fsiz184 : sizeB Tryz.prog 184 18 = true := by kernel_rfl
theorem Fsiz203 : sizeB Tryz.prog 203 2 = true := by kernel_rfl
theorem Fsiz23 : sizeB Tryz.prog 23 1 = true := by kernel_rfl
theorem Fsiz29 : sizeB Tryz.prog 29 1 = true := by kernel_rfl
theorem Fsiz3 : sizeB Tryz.prog 3 1 = true := by kernel_rfl
theorem Fsiz32 : sizeB Tryz.prog 32 6 = true := by kernel_rfl
theorem Fsiz33 : sizeB Tryz.prog 33 1 = true := by kernel_rfl
theorem Fsiz35 : sizeB Tryz.prog 35 5 = true := by kernel_rfl
theorem Fsiz4 : sizeB Tryz.prog 4 1 = true := by kernel_rfl
theorem Fsiz42 : sizeB Tryz.prog 42 11 = true := by kernel_rfl
theorem Fsiz45 : sizeB Tryz.prog 45 6 = true := by kernel_rfl
theorem Fsiz5 : sizeB Tryz.prog 5 1 = true := by kernel_rfl
theorem Fsiz50 : sizeB Tryz.prog 50 4 = true := by kernel_rfl
theorem Fsiz53 : sizeB Tryz.prog 53 1 = true := by kernel_rfl
theorem Fsiz59 : sizeB Tryz.prog 59 1 = true := by kernel_rfl
theorem Fsiz61 : sizeB Tryz.prog 61 3 = true := by kernel_rfl
theorem Fsiz72 : sizeB Tryz.prog 72 1 = true := by kernel_rfl
theorem Fsiz76 : sizeB Tryz.prog 76 1 = true := by kernel_rfl
theorem Fsiz9 : sizeB Tryz.prog 9 1 = true := by kernel_rfl
theorem Fsiz93 : sizeB Tryz.prog 93 1 = true := by kernel_rfl
theorem Fsiz97 : sizeB Tryz.prog 97 1 = true := by kernel_rfl
theorem Fsiz98 : sizeB Tryz.prog 98 1 = true := by kernel_rfl
theorem Fzer128 : zeroB Tryz.prog 128 = some [.pointer none, .slice none 0 0] := by kernel_rfl
theorem Fzer147 : zeroB Tryz.prog 147 = some [.string ⟨#[]⟩, .slice none 0 0] := by kernel_rfl
theorem Fzer169 : zeroB Tryz.prog 169 = some [.int .u64 0] := by kernel_rfl
theorem Fzer184 : zeroB Tryz.prog 184 = some [.int .i64 0, .int .i64 0, .int .i64 0, .int .i64 0, .int .i64 0, .int .i64 0, .int .i64 0, .int .i64 0, .int .i64 0, .int .i64 0, .int .i64 0, .int .i64 0, .int .i64 0, .int .i64 0, .int .i64 0, .int .i64 0, .int .i64 0, .int .i64 0] := by kernel_rfl
theorem Fzer203 : zeroB Tryz.prog 203 = some [.int .u64 0, .int .u64 0] := by kernel_rfl
theorem Fzer207 : zeroB Tryz.prog 207 = some [.int .u8 0, .int .u8 0, .int .u8 0, .int .u8 0, .int .u8 0, .int .u8 0, .int .u8 0, .int .u8 0, .int .u8 0, .int .u8 0, .int .u8 0, .int .u8 0, .int .u8 0, .int .u8 0, .int .u8 0, .int .u8 0] := by kernel_rfl
theorem Fzer240 : zeroB Tryz.prog 240 = some [.int .u8 0, .int .u8 0, .int .u8 0, .int .u8 0, .int .u8 0, .int .u8 0, .int .u8 0, .int .u8 0, .int .u8 0, .int .u8 0, .int .u8 0, .int .u8 0, .int .u8 0, .int .u8 0, .int .u8 0, .int .u8 0, .int .u8 0, .int .u8 0, .int .u8 0, .int .u8 0, .int .u8 0, .int .u8 0, .int .u8 0, .int .u8 0, .int .u8 0, .int .u8 0, .int .u8 0, .int .u8 0, .int .u8 0, .int .u8 0, .int .u8 0, .int .u8 0, .int .u8 0, .int .u8 0, .int .u8 0, .int .u8 0, .int .u8 0, .int .u8 0, .int .u8 0, .int .u8 0, .int .u8 0, .int .u8 0, .int .u8 0, .int .u8 0, .int .u8 0, .int .u8 0, .int .u8 0, .int .u8 0, .int .u8 0, .int .u8 0, .int .u8 0, .int .u8 0, .int .u8 0, .int .u8 0, .int .u8 0, .int .u8 0, .int .u8 0, .int .u8 0, .int .u8 0, .int .u8 0, .int .u8 0, .int .u8 0, .int .u8 0, .int .u8 0, .int .u8 0] := by kernel_rfl
theorem Fzer3 : zeroB Tryz.prog 3 = some [.int .i64 0] := by kernel_rfl
theorem Fzer32 : zeroB Tryz.prog 32 = some [.int .i64 0, .int .i64 0, .int .i64 0, .int .i64 0, .int .i64 0, .string ⟨#[]⟩] := by kernel_rfl
theorem Fzer35 : zeroB Tryz.prog 35 = some [.int .i64 0, .int .i64 0, .int .i64 0, .string ⟨#[]⟩, .slice none 0 0] := by kernel_rfl
theorem Fzer4 : zeroB Tryz.prog 4 = some [.bool false] := by kernel_rfl
theorem Fzer42 : zeroB Tryz.prog 42 = some [.int .i64 0, .int .i64 0, .int .i64 0, .string ⟨#[]⟩, .slice none 0 0, .string ⟨#[]⟩, .slice none 0 0, .int .i64 0, .slice none 0 0, .int .i64 0, .slice none 0 0] := by kernel_rfl
theorem Fzer61 : zeroB Tryz.prog 61 = some [.int .i64 0, .int .i64 0, .slice none 0 0] := by kernel_rfl
theorem Fzer72 : zeroB Tryz.prog 72 = some [.map none] := by kernel_rfl
theorem Fzer76 : zeroB Tryz.prog 76 = some [.slice none 0 0] := by kernel_rfl
theorem Fzer93 : zeroB Tryz.prog 93 = some [.slice none 0 0] := by kernel_rfl
theorem Fzer97 : zeroB Tryz.prog 97 = some [.int .u64 0] := by kernel_rfl
theorem Fzer98 : zeroB Tryz.prog 98 = some [.nilFunc] := by kernel_rfl
end Go.Proofs.YtienaifmlhcijaaGreatDoor
end
section
namespace Go.Proofs.YtienaifmlhcijaaGreatDoor
open Go Go.Gw
set_option linter.unusedSimpArgs false
set_option linter.unusedVariables false
theorem mixA_ex : ∃ f : Nat → Nat, ∀ x, (x ^^^ (x >>> 32)) * 11400714819323198485 % 18446744073709551616 = f x := ⟨fun x => (x ^^^ (x >>> 32)) * 11400714819323198485 % 18446744073709551616, fun _ => rfl⟩
theorem mixB_ex : ∃ f : Nat → Nat, ∀ x, (x ^^^ (x >>> 29)) * 13787848793156543929 % 18446744073709551616 = f x := ⟨fun x => (x ^^^ (x >>> 29)) * 13787848793156543929 % 18446744073709551616, fun _ => rfl⟩
/-- chosen, so that nothing unfolds them -/
noncomputable def mixA : Nat → Nat := Classical.choose mixA_ex
noncomputable def mixB : Nat → Nat := Classical.choose mixB_ex
theorem mixA_def (x : Nat) : (x ^^^ (x >>> 32)) * 11400714819323198485 % 18446744073709551616 = mixA x := Classical.choose_spec mixA_ex x
theorem mixB_def (x : Nat) : (x ^^^ (x >>> 29)) * 13787848793156543929 % 18446744073709551616 = mixB x := Classical.choose_spec mixB_ex x
noncomputable def take64 (s b : Nat) : Nat := mixB (mixA (s ^^^ b)) ^^^ (mixB (mixA (s ^^^ b)) >>> 32)
theorem mixA_lt (x : Nat) : mixA x < 18446744073709551616 := by rw [← mixA_def]; exact Nat.mod_lt _ (by decide)
theorem mixB_lt (x : Nat) : mixB x < 18446744073709551616 := by rw [← mixB_def]; exact Nat.mod_lt _ (by decide)
theorem shr_lt {x q : Nat} (h : x < 18446744073709551616) : x >>> q < 18446744073709551616 := Nat.lt_of_le_of_lt (by rw [Nat.shiftRight_eq_div_pow]; exact Nat.div_le_self _ _) h
theorem xor_lt {x y : Nat} (h : x < 18446744073709551616) (h2 : y < 18446744073709551616) : x ^^^ y < 18446744073709551616 := Nat.xor_lt_two_pow (n := 64) h h2
theorem or_lt {x y : Nat} (h : x < 18446744073709551616) (h2 : y < 18446744073709551616) : x ||| y < 18446744073709551616 := Nat.or_lt_two_pow (n := 64) h h2
theorem take64_lt (s b : Nat) : take64 s b < 18446744073709551616 := xor_lt (mixB_lt _) (shr_lt (mixB_lt _))
noncomputable def stp : Nat → Nat → Nat
  | 0, x => x
  | 1, x => mixA x
  | _, x => mixB (mixA x)
theorem stp0 (x : Nat) : stp 0 x = x := rfl
theorem stp1 (x : Nat) : stp 1 x = mixA x := rfl
theorem stp2 (x : Nat) : stp 2 x = mixB (mixA x) := rfl
theorem take64_def (s b : Nat) : mixB (mixA (s ^^^ b)) ^^^ (mixB (mixA (s ^^^ b)) >>> 32) = take64 s b := rfl
/-- the state of a digest: state, block, bytes in the block -/
structure DS where
  s : Nat
  b : Nat
  n : Nat
structure DS.ok (d : DS) : Prop where
  s : d.s < 18446744073709551616
  n : d.n < 8
  b : d.b < 2 ^ (8 * d.n)
def DS.z : DS := ⟨7046029254386353131, 0, 0⟩
noncomputable def DS.add (d : DS) (c : Nat) : DS := if d.n + 1 = 8 then ⟨take64 d.s (d.b ||| (c <<< (8 * d.n))), 0, 0⟩ else ⟨d.s, d.b ||| (c <<< (8 * d.n)), d.n + 1⟩
theorem DS.z_ok : DS.z.ok := ⟨by decide, by decide, by decide⟩
theorem DS.or_lt {d : DS} (h : d.ok) {c : Nat} (hc : c < 256) : d.b ||| (c <<< (8 * d.n)) < 2 ^ (8 * (d.n + 1)) := by
  have h1 : c <<< (8 * d.n) < 2 ^ (8 * (d.n + 1)) := by
    rw [Nat.shiftLeft_eq, show 8 * (d.n + 1) = 8 + 8 * d.n by omega, Nat.pow_add]
    exact Nat.mul_lt_mul_of_pos_right (by omega) (Nat.pow_pos (by decide))
  exact Nat.or_lt_two_pow (Nat.lt_of_lt_of_le h.b (Nat.pow_le_pow_right (by decide) (by omega))) h1
theorem DS.pow_le {k : Nat} (h : k ≤ 8) : 2 ^ (8 * k) ≤ 18446744073709551616 := Nat.le_trans (Nat.pow_le_pow_right (by decide) (show 8 * k ≤ 64 by omega)) (by decide)
theorem DS.add_ok {d : DS} (h : d.ok) {c : Nat} (hc : c < 256) : (d.add c).ok := by
  have h0 := DS.or_lt h hc
  unfold DS.add
  split
  · exact ⟨take64_lt _ _, by dsimp only; omega, by dsimp only; omega⟩
  · have := h.n
    exact ⟨h.s, by dsimp only; omega, h0⟩
noncomputable def DS.adds (d : DS) (l : List UInt8) : DS := l.foldl (fun d c => d.add c.toNat) d
theorem DS.adds_ok {d : DS} (h : d.ok) (l : List UInt8) : (d.adds l).ok := by
  induction l generalizing d with
  | nil => exact h
  | cons c l ih => exact ih (DS.add_ok h c.toNat_lt)
/-- zeros until the block is full -/
noncomputable def DS.fill : Nat → DS → DS
  | 0, d => d
  | k + 1, d => if d.n = 0 then d else DS.fill k (d.add 0)
theorem DS.add_full {d : DS} (h : d.n + 1 = 8) (c : Nat) : d.add c = ⟨take64 d.s (d.b ||| (c <<< (8 * d.n))), 0, 0⟩ := if_pos h
theorem DS.add_part {d : DS} (h : ¬ d.n + 1 = 8) (c : Nat) : d.add c = ⟨d.s, d.b ||| (c <<< (8 * d.n)), d.n + 1⟩ := if_neg h
theorem DS.shl_lt {d : DS} (h : d.ok) {c : Nat} (hc : c < 256) : c <<< (8 * d.n) < 18446744073709551616 := by
  have := h.n
  refine Nat.lt_of_lt_of_le ?_ (DS.pow_le (k := d.n + 1) (by omega))
  rw [Nat.shiftLeft_eq, show 8 * (d.n + 1) = 8 + 8 * d.n by omega, Nat.pow_add]
  exact Nat.mul_lt_mul_of_pos_right (by omega) (Nat.pow_pos (by decide))
theorem DS.b_lt {d : DS} (h : d.ok) : d.b < 18446744073709551616 := Nat.lt_of_lt_of_le h.b (DS.pow_le (by have := h.n; omega))
theorem DS.or64 {d : DS} (h : d.ok) {c : Nat} (hc : c < 256) : d.b ||| (c <<< (8 * d.n)) < 18446744073709551616 := Nat.lt_of_lt_of_le (DS.or_lt h hc) (DS.pow_le (by have := h.n; omega))
def hexD (n : Nat) : UInt8 := if n < 10 then (48 + n).toUInt8 else (87 + n).toUInt8
def hexS (s : Nat) : ByteArray := ⟨((List.range 16).map fun i => hexD ((s >>> (60 - 4 * i)) % 16)).toArray⟩
def hexL (s : Nat) : List UInt8 := (List.range 16).map fun i => hexD ((s >>> (60 - 4 * i)) % 16)
/-- the first i letters are written -/
def hexC (s i : Nat) : List Value := (List.range 16).map fun j => .int .u8 (if j < i then ((hexD ((s >>> (60 - 4 * j)) % 16)).toNat : Int) else 0)
theorem hexC_len (s i : Nat) : (hexC s i).length = 16 := by simp [hexC]
theorem hexC_set (s i : Nat) (h : i < 16) : (hexC s i).set i (.int .u8 ((hexD ((s >>> (60 - 4 * i)) % 16)).toNat : Int)) = hexC s (i + 1) := by
  apply List.ext_getElem
  · simp [hexC]
  · intro j h1 h2
    rw [List.getElem_set]
    simp only [hexC, List.getElem_map, List.getElem_range]
    split
    · rename_i e; subst e; rw [if_pos (by omega)]
    · rename_i e
      by_cases hj : j < i
      · rw [if_pos hj, if_pos (by omega)]
      · rw [if_neg hj, if_neg (by omega)]
theorem hexC_get (s : Nat) (j : Nat) (hj : j < (hexL s).length) : (hexC s 16)[j]? = some (.int .u8 ((hexL s)[j].toNat : Int)) := by
  have h : j < 16 := by simpa [hexL] using hj
  rw [List.getElem?_eq_getElem (by rw [hexC_len]; exact h)]
  simp only [hexC, hexL, List.getElem_map, List.getElem_range]
  rw [if_pos h]
def hexTab : List Value := [.int .u8 48, .int .u8 49, .int .u8 50, .int .u8 51, .int .u8 52, .int .u8 53, .int .u8 54, .int .u8 55, .int .u8 56, .int .u8 57, .int .u8 97, .int .u8 98, .int .u8 99, .int .u8 100, .int .u8 101, .int .u8 102]
theorem hexTab_get : ∀ i, i < 16 → hexTab[i]? = some (.int .u8 ((hexD i).toNat : Int))
  | 0, _ => rfl | 1, _ => rfl | 2, _ => rfl | 3, _ => rfl | 4, _ => rfl | 5, _ => rfl | 6, _ => rfl | 7, _ => rfl | 8, _ => rfl | 9, _ => rfl | 10, _ => rfl | 11, _ => rfl | 12, _ => rfl | 13, _ => rfl | 14, _ => rfl | 15, _ => rfl
  | n + 16, h => by omega
theorem DS.adds_take (d : DS) (l : List UInt8) (k : Nat) (h : k < l.length) : d.adds (l.take (k + 1)) = (d.adds (l.take k)).add l[k].toNat := by
  unfold DS.adds
  rw [List.take_succ_eq_append_getElem h, List.foldl_append]; rfl
theorem DS.fill_z {d : DS} (h : d.n = 0) (j : Nat) : DS.fill j d = d := by cases j with
  | zero => rfl
  | succ j => exact if_pos h
theorem DS.fill_s {d : DS} (h : d.n ≠ 0) (j : Nat) : DS.fill (j + 1) d = DS.fill j (d.add 0) := if_neg h
theorem DS.add_n (d : DS) (c : Nat) : (d.add c).n = if d.n + 1 = 8 then 0 else d.n + 1 := by unfold DS.add; split <;> rfl
noncomputable def sumN (t : List UInt8) : Nat := (DS.fill 8 ((DS.z.adds t).add 1)).s
noncomputable def sumS (t : ByteArray) : ByteArray := hexS (sumN t.data.toList)
theorem hexS_size (s : Nat) : (hexS s).size = 16 := by simp [hexS, ByteArray.size]
theorem sumS_size (t : ByteArray) : (sumS t).size = 16 := hexS_size _
noncomputable def chainS (t : ByteArray) : Nat → ByteArray
  | 0 => t
  | n + 1 => sumS (chainS t n)
theorem chainS_size {t : ByteArray} (h : t.size ≤ 9223372036854775807) : ∀ n, (chainS t n).size ≤ 9223372036854775807
  | 0 => h
  | n + 1 => by show (sumS _).size ≤ _; rw [sumS_size]; decide
/-- the joined text of a list -/
def partL (s : ByteArray) : List UInt8 := Go.Lib.itoa (s.size : Int) ++ [58] ++ s.data.toList
def joinL (xs : List ByteArray) : List UInt8 := xs.flatMap partL
noncomputable def listS (xs : List ByteArray) : ByteArray := sumS ⟨(joinL xs).toArray⟩
theorem joinL_take {xs : List ByteArray} {k : Nat} (h : k < xs.length) : joinL (xs.take (k + 1)) = joinL (xs.take k) ++ partL xs[k] := by
  unfold joinL; rw [List.take_succ_eq_append_getElem h, List.flatMap_append]; simp
theorem joinL_le {xs : List ByteArray} {k : Nat} (h : k < xs.length) : (joinL (xs.take k)).length + (partL xs[k]).length ≤ (joinL xs).length := by
  rw [← List.length_append, ← joinL_take h]
  conv => rhs; rw [← List.take_append_drop (k + 1) xs]
  unfold joinL; rw [List.flatMap_append, List.length_append]; omega
theorem partL_text (s : ByteArray) : ((⟨(Go.Lib.itoa (s.size : Int)).toArray⟩ : ByteArray) ++ (⟨#[58]⟩ : ByteArray) ++ s).data.toList = partL s := by
  unfold partL; simp [ByteArray.data_append]
theorem partL_size (s : ByteArray) : ((⟨(Go.Lib.itoa (s.size : Int)).toArray⟩ : ByteArray) ++ (⟨#[58]⟩ : ByteArray) ++ s).size = (partL s).length := by
  rw [← partL_text]; exact Array.length_toList.symm
theorem partL_len (s : ByteArray) : (partL s).length = (Go.Lib.itoa (s.size : Int)).length + 1 + s.size := by
  unfold partL; rw [List.length_append, List.length_append, show s.data.toList.length = s.size from Array.length_toList]; rfl
def encS (s : ByteArray) : List Value := [.string s]
end Go.Proofs.YtienaifmlhcijaaGreatDoor
end
section
namespace Go.Proofs.YtienaifmlhcijaaGreatDoor
open Go Go.Gw
set_option linter.unusedSimpArgs false
set_option linter.unusedVariables false
/-- the letters of digests -/
def hexCut : List UInt8 := [48, 49, 50, 51, 52, 53, 54, 55, 56, 57, 97, 98, 99, 100, 101, 102]
def isD (t : ByteArray) : Bool := decide (t.size = 16) && t.data.toList.all (hexCut.contains ·)
theorem dropWhile_nil {α : Type} (p : α → Bool) : ∀ l : List α, (l.dropWhile p = []) ↔ l.all p = true
  | [] => by simp
  | x :: r => by
    cases h : p x with
    | true => simp [List.dropWhile_cons, h, dropWhile_nil p r]
    | false => simp [List.dropWhile_cons, h]
theorem all_sub {α : Type} {p : α → Bool} {l m : List α} (h : ∀ x ∈ l, x ∈ m) (hm : m.all p = true) : l.all p = true := List.all_eq_true.2 fun x hx => List.all_eq_true.1 hm x (h x hx)
theorem trim_nil (l cs : List UInt8) : decide ((⟨(Go.Lib.trimS l cs).toArray⟩ : ByteArray) = ⟨#[]⟩) = l.all (cs.contains ·) := by
  have e : ((⟨(Go.Lib.trimS l cs).toArray⟩ : ByteArray) = ⟨#[]⟩) ↔ Go.Lib.trimS l cs = [] := by
    constructor
    · intro h; have := congrArg (fun b : ByteArray => b.data.toList) h; simpa using this
    · intro h; rw [h]
  rw [Bool.eq_iff_iff, decide_eq_true_eq, e]
  unfold Go.Lib.trimS Go.Lib.trimLeftS Go.Lib.trimRightS
  rw [dropWhile_nil]
  constructor
  · intro h
    have h2 : (l.reverse.dropWhile (cs.contains ·)).all (cs.contains ·) = true := by
      refine all_sub (fun x hx => List.mem_reverse.2 hx) h
    have h3 : l.reverse.dropWhile (cs.contains ·) = [] := by
      cases h4 : l.reverse.dropWhile (cs.contains ·) with
      | nil => rfl
      | cons x r =>
        have h5 := List.head?_dropWhile_not (cs.contains ·) l.reverse
        rw [h4] at h5 h2
        simp only [List.head?_cons] at h5
        have h6 := List.all_eq_true.1 h2 x (by simp)
        rw [h6] at h5; simp at h5
    rw [dropWhile_nil] at h3
    exact all_sub (fun x hx => List.mem_reverse.2 hx) h3
  · intro h
    have h3 : l.reverse.dropWhile (cs.contains ·) = [] := by
      rw [dropWhile_nil]; exact all_sub (fun x hx => List.mem_reverse.1 hx) h
    rw [h3]; rfl
theorem isD_size {t : ByteArray} (h : isD t = true) : t.size = 16 := by
  unfold isD at h
  simp only [Bool.and_eq_true, decide_eq_true_eq] at h
  exact h.1
/-- the digits of a message -/
def digL (s : Nat) : List Nat := (List.range 16).map fun i => (s >>> (60 - 4 * i)) % 16
def restL (s k : Nat) : Nat := (((digL s).take k).map (15 - ·)).sum
noncomputable def digs (m : ByteArray) : List Nat := digL (sumN m.data.toList) ++ [restL (sumN m.data.toList) 16 / 16, restL (sumN m.data.toList) 16 % 16]
theorem digL_len (s : Nat) : (digL s).length = 16 := by simp [digL]
theorem digL_lt (s k : Nat) : (digL s).getD k 0 < 16 := by
  rw [List.getD_eq_getElem?_getD]
  cases h : (digL s)[k]? with
  | none => simp
  | some x =>
    have := List.mem_of_getElem? h
    unfold digL at this
    obtain ⟨i, _, rfl⟩ := List.mem_map.1 this
    exact Nat.mod_lt _ (by decide)
theorem restL_s (s k : Nat) (h : k < 16) : restL s (k + 1) = restL s k + (15 - (digL s).getD k 0) := by
  unfold restL
  have hk : k < (digL s).length := by rw [digL_len]; exact h
  rw [List.take_succ_eq_append_getElem hk, List.map_append, List.sum_append]
  simp [List.getD_eq_getElem?_getD, List.getElem?_eq_getElem hk]
theorem restL_le (s : Nat) : ∀ k, k ≤ 16 → restL s k ≤ 15 * k
  | 0, _ => by simp [restL]
  | k + 1, h => by rw [restL_s s k (by omega)]; have := restL_le s k (by omega); omega
theorem digs_le (m : ByteArray) (k : Nat) : (digs m).getD k 0 ≤ 15 := by
  have hr := restL_le (sumN m.data.toList) 16 (Nat.le_refl _)
  have hd := digL_lt (sumN m.data.toList) k
  unfold digs
  rw [List.getD_eq_getElem?_getD, List.getElem?_append]
  rw [List.getD_eq_getElem?_getD] at hd
  split
  · omega
  · rename_i h
    rw [digL_len] at h
    obtain ⟨j, rfl⟩ : ∃ j, k = 16 + j := ⟨k - 16, by omega⟩
    rw [digL_len, Nat.add_sub_cancel_left]
    match j with
    | 0 => simp only [List.getElem?_cons_zero, Option.getD_some]; omega
    | 1 => simp only [List.getElem?_cons_succ, List.getElem?_cons_zero, Option.getD_some]; omega
    | j + 2 => simp
def digC (s k : Nat) : List Value := (List.range 18).map fun j => .int .i64 (if j < k then ((digL s).getD j 0 : Int) else 0)
noncomputable def digV (m : ByteArray) : List Value := (List.range 18).map fun j => .int .i64 ((digs m).getD j 0 : Int)
theorem digC_len (s k : Nat) : (digC s k).length = 18 := by simp [digC]
theorem digV_len (m : ByteArray) : (digV m).length = 18 := by simp [digV]
theorem digC_set (s i : Nat) (h : i < 16) : (digC s i).set i (.int .i64 ((digL s).getD i 0 : Int)) = digC s (i + 1) := by
  apply List.ext_getElem
  · simp [digC]
  · intro j h1 h2
    rw [List.getElem_set]
    simp only [digC, List.getElem_map, List.getElem_range]
    split
    · rename_i e; subst e; rw [if_pos (by omega)]
    · rename_i e
      by_cases hj : j < i
      · rw [if_pos hj, if_pos (by omega)]
      · rw [if_neg hj, if_neg (by omega)]
theorem digC_get (s i : Nat) (h : i < 16) : (digC s (i + 1))[i]? = some (.int .i64 ((digL s).getD i 0 : Int)) := by
  rw [List.getElem?_eq_getElem (by rw [digC_len]; omega)]
  simp only [digC, List.getElem_map, List.getElem_range]
  rw [if_pos (by omega)]
theorem digV_get (m : ByteArray) (i : Nat) (h : i < 18) : (digV m)[i]? = some (.int .i64 ((digs m).getD i 0 : Int)) := by
  rw [List.getElem?_eq_getElem (by rw [digV_len]; omega)]
  simp only [digV, List.getElem_map, List.getElem_range]
theorem digs_lo (m : ByteArray) (j : Nat) (h : j < 16) : (digs m).getD j 0 = (digL (sumN m.data.toList)).getD j 0 := by
  unfold digs
  rw [List.getD_eq_getElem?_getD, List.getD_eq_getElem?_getD, List.getElem?_append_left (by rw [digL_len]; exact h)]
theorem digs_16 (m : ByteArray) : (digs m).getD 16 0 = restL (sumN m.data.toList) 16 / 16 := by
  unfold digs
  rw [List.getD_eq_getElem?_getD, List.getElem?_append_right (by rw [digL_len]; exact Nat.le_refl _), digL_len]
  rfl
theorem digs_17 (m : ByteArray) : (digs m).getD 17 0 = restL (sumN m.data.toList) 16 % 16 := by
  unfold digs
  rw [List.getD_eq_getElem?_getD, List.getElem?_append_right (by rw [digL_len]; decide), digL_len]
  rfl
theorem digV_fin (m : ByteArray) (s r q : Nat) (hs : s = sumN m.data.toList) (hr : r = restL s 16 / 16) (hq : q = restL s 16 % 16) : ((digC s 16).set 16 (.int .i64 (r : Int))).set 17 (.int .i64 (q : Int)) = digV m := by
  rw [hs] at hr hq
  have hl : (((digC s 16).set 16 (.int .i64 (r : Int))).set 17 (.int .i64 (q : Int))).length = 18 := by rw [List.length_set, List.length_set, digC_len]
  apply List.ext_getElem?
  intro j
  by_cases hj : j < 18
  · rw [List.getElem?_set, List.getElem?_set, digV_get m j hj, List.length_set, digC_len]
    by_cases h16 : j < 16
    · rw [if_neg (by omega), if_neg (by omega), digs_lo m j h16, ← hs]
      have := List.getElem?_eq_getElem (l := digC s 16) (i := j) (by rw [digC_len]; omega)
      rw [this]
      simp only [digC, List.getElem_map, List.getElem_range]
      rw [if_pos h16]
    · have : j = 16 ∨ j = 17 := by omega
      rcases this with rfl | rfl
      · rw [digs_16, hr]; rfl
      · rw [digs_17, hq]; rfl
  · rw [List.getElem?_eq_none (by omega), List.getElem?_eq_none (by rw [digV_len]; omega)]
theorem digV_one (m : ByteArray) : (digV m).all (·.oneCell') = true := by
  unfold digV; rw [List.all_map]; exact List.all_eq_true.2 fun x _ => rfl
theorem idx_hexD : ∀ d, d < 16 → Go.Lib.indexByte hexCut (((hexD d).toNat : Int)).toNat.toUInt8 = (d : Int)
  | 0, _ => by decide | 1, _ => by decide | 2, _ => by decide | 3, _ => by decide | 4, _ => by decide | 5, _ => by decide | 6, _ => by decide | 7, _ => by decide
  | 8, _ => by decide | 9, _ => by decide | 10, _ => by decide | 11, _ => by decide | 12, _ => by decide | 13, _ => by decide | 14, _ => by decide | 15, _ => by decide
  | n + 16, h => by omega
theorem sumS_list (t : ByteArray) : (sumS t).data.toList = (digL (sumN t.data.toList)).map hexD := by
  unfold sumS hexS digL; simp
theorem sumS_at (t : ByteArray) (k : Nat) (hk : k < (sumS t).data.toList.length) : (sumS t).data.toList[k] = hexD ((digL (sumN t.data.toList)).getD k 0) := by
  have h := sumS_list t
  have hl : k < (digL (sumN t.data.toList)).length := by have := congrArg List.length h; simp only [List.length_map] at this; omega
  simp only [h, List.getElem_map, List.getD_eq_getElem?_getD, List.getElem?_eq_getElem hl, Option.getD_some]
theorem sumS_len (t : ByteArray) : (sumS t).data.toList.length = 16 := by rw [sumS_list]; simp [digL_len]
/-- ends of the chains of a signature -/
noncomputable def endsK (m : ByteArray) (xs : List ByteArray) (k : Nat) : List ByteArray := (List.range k).map fun i => chainS (xs.getD i ⟨#[]⟩) (15 - (digs m).getD i 0)
noncomputable def verB (pub m : ByteArray) (xs : List ByteArray) : Bool := decide (xs.length = 18) && xs.all isD && decide (listS (endsK m xs 18) = pub)
theorem endsK_s (m : ByteArray) (xs : List ByteArray) (k : Nat) (h : k < xs.length) : endsK m xs k ++ [chainS xs[k] (15 - (digs m).getD k 0)] = endsK m xs (k + 1) := by
  unfold endsK
  rw [List.range_succ, List.map_append]
  simp [List.getElem?_eq_getElem h]
theorem endsK_len (m : ByteArray) (xs : List ByteArray) (k : Nat) : (endsK m xs k).length = k := by simp [endsK]
theorem chainS_size16 {t : ByteArray} (h : t.size = 16) : ∀ n, (chainS t n).size = 16
  | 0 => h
  | n + 1 => sumS_size _
theorem endsK_size {m : ByteArray} {xs : List ByteArray} {k : Nat} (hk : k ≤ xs.length) (h : ∀ i (h : i < xs.length), i < k → isD xs[i] = true) : ∀ x ∈ endsK m xs k, x.size = 16 := fun x hx => by
  unfold endsK at hx
  obtain ⟨i, hi, rfl⟩ := List.mem_map.1 hx
  have hi := List.mem_range.1 hi
  have hl : i < xs.length := by omega
  have := h i hl hi
  refine chainS_size16 ?_ _
  simpa [List.getElem?_eq_getElem hl] using isD_size this
theorem itoaL_len (n : Int) (h0 : -9223372036854775808 ≤ n) (h1 : n ≤ 9223372036854775807) : (Go.Lib.itoa n).length ≤ 21 := Go.Lib.itoa_length_le n h0 h1
theorem joinL_bound {xs : List ByteArray} {b : Nat} (hb : b ≤ 1000000000) (h : ∀ x ∈ xs, x.size ≤ b) : (joinL xs).length ≤ xs.length * (b + 22) := by
  induction xs with
  | nil => simp [joinL]
  | cons x r ih =>
    have h1 := ih (fun y hy => h y (by simp [hy]))
    have h2 := h x (by simp)
    have h3 := itoaL_len (x.size : Int) (by omega) (by omega)
    have h4 := partL_len x
    unfold joinL at h1 ⊢
    rw [List.flatMap_cons, List.length_append, List.length_cons, Nat.add_mul]
    omega
theorem list_ok {xs : List ByteArray} (h : ∀ x ∈ xs, x.size ≤ 1000) (hl : xs.length ≤ 1000000) : (joinL xs).length ≤ 140737488355328 := by
  have h1 := joinL_bound (b := 1000) (by decide) h
  have h2 : xs.length * (1000 + 22) ≤ 1000000 * (1000 + 22) := Nat.mul_le_mul_right _ hl
  omega
/-- starts and links of the chains of a secret -/
def itoaS (n : Int) : ByteArray := ⟨(Go.Lib.itoa n).toArray⟩
theorem itoaS_size (n : Int) (h0 : -9223372036854775808 ≤ n) (h1 : n ≤ 9223372036854775807) : (itoaS n).size ≤ 21 := by
  have := itoaL_len n h0 h1
  have e : (itoaS n).size = (Go.Lib.itoa n).length := by show (Go.Lib.itoa n).toArray.size = _; simp
  omega
noncomputable def startS (s : ByteArray) (i : Nat) : ByteArray := listS [s, itoaS (i : Int)]
noncomputable def walkK (s : ByteArray) (d : Nat → Nat) (k : Nat) : List ByteArray := (List.range k).map fun i => chainS (startS s i) (d i)
noncomputable def pubS (s : ByteArray) : ByteArray := listS (walkK s (fun _ => 15) 18)
theorem walkK_s (s : ByteArray) (d : Nat → Nat) (k : Nat) : walkK s d k ++ [chainS (startS s k) (d k)] = walkK s d (k + 1) := by
  unfold walkK; rw [List.range_succ, List.map_append]; simp
theorem listS_size (xs : List ByteArray) : (listS xs).size = 16 := sumS_size _
theorem walkK_len (s : ByteArray) (d : Nat → Nat) (k : Nat) : (walkK s d k).length = k := by simp [walkK]
theorem walkK_size (s : ByteArray) (d : Nat → Nat) (k : Nat) : ∀ x ∈ walkK s d k, x.size = 16 := fun x hx => by
  unfold walkK at hx
  obtain ⟨i, _, rfl⟩ := List.mem_map.1 hx
  exact chainS_size16 (listS_size _) _
/-- a transfer as it lies in memory: sv is the signature's slice -/
structure XV where
  tw : ByteArray
  sv : Value
  sig : List ByteArray
instance : Inhabited XV := ⟨⟨⟨#[]⟩, .slice none 0 0, []⟩⟩
def encX (x : XV) : List Value := [.string x.tw, x.sv]
structure TV where
  serial : Int
  show_ : Int
  place : Int
  first : ByteArray
  cv : Value
  chain : List XV
def encT (t : TV) : List Value := [.int .i64 t.serial, .int .i64 t.show_, .int .i64 t.place, .string t.first, t.cv]
/-- inner slices of a chain, to be read -/
def XRows (xs : List XV) : Atom where
  own := false
  fp := fun k => ∃ x ∈ xs, x.sv.ownBlock = some k ∧ 0 < 1 ∧ x.sig ≠ []
  ok := fun w => ∀ x ∈ xs, IsSl w x.sv 1 encS x.sig
  loc := fun w w' h hok x hx => (Sl x.sv 1 encS x.sig).loc w w' (fun b hb => h b ⟨x, hx, hb⟩) (hok x hx)
  lt := fun w b hok ⟨x, hx, hb⟩ => (Sl x.sv 1 encS x.sig).lt w b (hok x hx) hb
instance (priority := 2000) HasSl.xrow (l : List Atom) (xs : List XV) (i : Nat) (h : i < xs.length) : HasSl (XRows xs :: l) (xs[i]'h).sv 1 ByteArray encS (xs[i]'h).sig := ⟨fun w hw => hw (XRows xs) (List.mem_cons_self ..) _ (List.getElem_mem h)⟩
instance ROs.xrows (xs : List XV) (r : List Atom) [h : ROs r] : ROs (XRows xs :: r) := ⟨by simpa [XRows] using h.all⟩
structure TOk (w : World) (t : TV) : Prop where
  sl : IsSl w t.cv 2 encX t.chain
  cap : capOK t.cv
  rows : ∀ x ∈ t.chain, IsSl w x.sv 1 encS x.sig
structure TSz (t : TV) : Prop where
  s0 : -9223372036854775808 ≤ t.serial ∧ t.serial ≤ 9223372036854775807
  s1 : -9223372036854775808 ≤ t.show_ ∧ t.show_ ≤ 9223372036854775807
  s2 : -9223372036854775808 ≤ t.place ∧ t.place ≤ 9223372036854775807
  first : t.first.size ≤ 1000
  len : t.chain.length ≤ 1000
  x : ∀ x ∈ t.chain, x.tw.size ≤ 1000 ∧ x.sig.length ≤ 1000 ∧ ∀ s ∈ x.sig, s.size ≤ 1000
theorem IsSl.ext {w w' : World} (e : Ext w w') {v : Value} {sz : Nat} {α : Type} {enc : α → List Value} {xs : List α} (h : IsSl w v sz enc xs) : IsSl w' v sz enc xs := (Sl v sz enc xs).loc w w' (fun b hb => e.block ((Sl v sz enc xs).lt w b h hb)) h
theorem TOk.ext {w w' : World} {t : TV} (e : Ext w w') (h : TOk w t) : TOk w' t := ⟨IsSl.ext e h.sl, h.cap, fun x hx => IsSl.ext e (h.rows x hx)⟩
def cutT (t : TV) (i : Nat) : TV := { t with cv := subV t.cv 0 i 2, chain := t.chain.take i }
theorem TOk.cut {w : World} {t : TV} (h : TOk w t) (i : Nat) : TOk w (cutT t i) :=
  ⟨by have := h.sl.sub h.cap 0 i; rwa [List.drop_zero] at this, capOK_sub h.cap 0 i 2, fun x hx => h.rows x (List.mem_of_mem_take hx)⟩
theorem TSz.cut {t : TV} (h : TSz t) (i : Nat) : TSz (cutT t i) :=
  ⟨h.s0, h.s1, h.s2, h.first, by show (t.chain.take i).length ≤ 1000; rw [List.length_take]; have := h.len; omega, fun x hx => h.x x (List.mem_of_mem_take hx)⟩
def numT (t : TV) : Int := IntKind.i64.wrap (t.serial - IntKind.i64.wrap (IntKind.i64.wrap (t.show_ + 1) * 10000))
def formX (x : XV) : Bool := decide (x.sig.length = 18) && isD x.tw && x.sig.all isD
def headB (t : TV) : Bool := !(decide (t.show_ < 0) || decide (t.show_ ≥ 20) || decide (numT t < 1) || decide (numT t > 9999) || decide (t.place < -1) || decide (t.place ≥ 4000) || !isD t.first || decide ((t.chain.length : Int) > 50))
def formedB (t : TV) : Bool := headB t && t.chain.all formX
def msgL (t : TV) (tw : ByteArray) : List ByteArray := [itoaS t.serial, itoaS t.show_, t.first] ++ t.chain.map (·.tw) ++ [tw]
noncomputable def msgS (t : TV) (tw : ByteArray) : ByteArray := listS (msgL t tw)
def ownerS (t : TV) : ByteArray := match t.chain.getLast? with | some x => x.tw | none => t.first
def usedB (t : TV) (key : ByteArray) : Bool := decide (t.first = key) || t.chain.any (fun x => decide (x.tw = key))
noncomputable def stepB (t : TV) (i : Nat) : Bool := match t.chain[i]? with
  | some x => !usedB (cutT t i) x.tw && verB (ownerS (cutT t i)) (msgS (cutT t i) x.tw) x.sig
  | none => true
noncomputable def validB (t : TV) : Bool := formedB t && (List.range t.chain.length).all (stepB t)
theorem encX_one {w : World} {x : XV} (h : x.sv.oneCell' = true) : (encX x).all (·.oneCell') = true := by
  simp only [encX, List.all_cons, List.all_nil, h]; rfl
theorem encT_one {t : TV} (h : t.cv.oneCell' = true) : (encT t).all (·.oneCell') = true := by
  simp only [encT, List.all_cons, List.all_nil, h]; rfl
theorem _root_.Go.Gw.HSat.tok {M : Nat → Prop} {w0 w : World} {l : List Atom} (H : HSat M w0 l w) (t : TV) [h1 : HasSl l t.cv 2 XV encX t.chain] [h2 : HasCap l t.cv] [h3 : HasAt l (XRows t.chain)] : TOk w t := ⟨H.sl t.cv, H.cap t.cv, H.ok _ h3.mem⟩
theorem ownerS_some {t : TV} (h : 0 < t.chain.length) : ownerS t = (t.chain[t.chain.length - 1]'(by omega)).tw := by
  unfold ownerS
  rw [List.getLast?_eq_getElem?, List.getElem?_eq_getElem (by omega)]
theorem ownerS_none {t : TV} (h : ¬ 0 < t.chain.length) : ownerS t = t.first := by
  unfold ownerS
  have : t.chain = [] := List.eq_nil_of_length_eq_zero (by omega)
  rw [this]; rfl
theorem stepB_at {t : TV} {k : Nat} (h : k < t.chain.length) : stepB t k = (!usedB (cutT t k) t.chain[k].tw && verB (ownerS (cutT t k)) (msgS (cutT t k) t.chain[k].tw) t.chain[k].sig) := by
  unfold stepB
  rw [List.getElem?_eq_getElem h]
theorem msgL_size {t : TV} {tw : ByteArray} (h : TSz t) (ht : tw.size ≤ 1000) : (∀ x ∈ msgL t tw, x.size ≤ 1000) ∧ (msgL t tw).length ≤ 1004 := by
  refine ⟨fun x hx => ?_, ?_⟩
  · unfold msgL at hx
    simp only [List.mem_append, List.mem_cons, List.not_mem_nil, or_false, List.mem_map] at hx
    have h1 := itoaS_size t.serial h.s0.1 h.s0.2
    have h2 := itoaS_size t.show_ h.s1.1 h.s1.2
    have h3 := h.first
    rcases hx with ((rfl | rfl | rfl) | ⟨y, hy, rfl⟩) | rfl
    · omega
    · omega
    · omega
    · exact (h.x y hy).1
    · exact ht
  · unfold msgL
    have := h.len
    simp only [List.length_append, List.length_cons, List.length_nil, List.length_map]; omega
end Go.Proofs.YtienaifmlhcijaaGreatDoor
end
section
namespace Go.Proofs.YtienaifmlhcijaaGreatDoor
open Go Go.Gw
set_option linter.unusedSimpArgs false
set_option linter.unusedVariables false
theorem hexD_in : ∀ d, d < 16 → hexCut.contains (hexD d) = true
  | 0, _ => by decide | 1, _ => by decide | 2, _ => by decide | 3, _ => by decide | 4, _ => by decide | 5, _ => by decide | 6, _ => by decide | 7, _ => by decide
  | 8, _ => by decide | 9, _ => by decide | 10, _ => by decide | 11, _ => by decide | 12, _ => by decide | 13, _ => by decide | 14, _ => by decide | 15, _ => by decide
  | n + 16, h => by omega
theorem isD_sumS (t : ByteArray) : isD (sumS t) = true := by
  unfold isD
  rw [decide_eq_true (sumS_size t), Bool.true_and, sumS_list, List.all_map]
  refine List.all_eq_true.2 fun x hx => ?_
  unfold digL at hx
  obtain ⟨i, _, rfl⟩ := List.mem_map.1 hx
  exact hexD_in _ (Nat.mod_lt _ (by decide))
theorem isD_listS (xs : List ByteArray) : isD (listS xs) = true := isD_sumS _
def encI (n : Int) : List Value := [.int .i64 n]
end Go.Proofs.YtienaifmlhcijaaGreatDoor
end
section
namespace Go.Proofs.YtienaifmlhcijaaGreatDoor
open Go Go.Gw
set_option linter.unusedSimpArgs false
set_option linter.unusedVariables false
/-- a comparison: of opposite signs, and transitive -/
structure Cmp {α : Type} (c : α → α → Int) : Prop where
  anti : ∀ x y, c y x = - c x y
  tr : ∀ x y z, c x y ≤ 0 → c y z ≤ 0 → c x z ≤ 0
theorem Cmp.refl {α : Type} {c : α → α → Int} (h : Cmp c) (x : α) : c x x = 0 := by have := h.anti x x; omega
theorem Cmp.lt1 {α : Type} {c : α → α → Int} (h : Cmp c) {x y z : α} (h1 : c x y < 0) (h2 : c y z ≤ 0) : c x z < 0 := by
  have a := h.tr x y z (by omega) h2
  have b := h.anti x z
  have d := h.anti x y
  have e := h.anti y z
  rcases Int.lt_or_eq_of_le a with h3 | h3
  · exact h3
  · have := h.tr y z x h2 (by omega)
    omega
theorem Cmp.lt2 {α : Type} {c : α → α → Int} (h : Cmp c) {x y z : α} (h1 : c x y ≤ 0) (h2 : c y z < 0) : c x z < 0 := by
  have a := h.tr x y z h1 (by omega)
  have b := h.anti x z
  have d := h.anti x y
  have e := h.anti y z
  rcases Int.lt_or_eq_of_le a with h3 | h3
  · exact h3
  · have := h.tr z x y (by omega) h1
    omega
/-- the first that says anything -/
def thenC (x y : Int) : Int := if x ≠ 0 then x else y
theorem Cmp.lex {α : Type} {c d : α → α → Int} (h : Cmp c) (k : Cmp d) : Cmp (fun x y => thenC (c x y) (d x y)) where
  anti x y := by
    have := h.anti x y
    have := k.anti x y
    unfold thenC; split <;> split <;> omega
  tr x y z h1 h2 := by
    unfold thenC at h1 h2 ⊢
    by_cases e1 : c x y = 0
    · rw [if_neg (by simpa using e1)] at h1
      by_cases e2 : c y z = 0
      · rw [if_neg (by simpa using e2)] at h2
        have a := h.tr x y z (by omega) (by omega)
        have a' := h.tr z y x (by have := h.anti y z; omega) (by have := h.anti x y; omega)
        have a2 := h.anti x z
        rw [if_neg (by simp; omega)]
        exact k.tr x y z h1 h2
      · rw [if_pos e2] at h2
        have a := h.lt2 (x := x) (y := y) (z := z) (by omega) (by omega)
        rw [if_pos (by omega)]; omega
    · rw [if_pos e1] at h1
      have h2' : c y z ≤ 0 := by
        by_cases e2 : c y z = 0
        · omega
        · rw [if_pos e2] at h2; exact h2
      have a := h.lt1 (x := x) (y := y) (z := z) (by omega) h2'
      rw [if_pos (by omega)]; omega
theorem Cmp.on {α β : Type} {c : β → β → Int} (h : Cmp c) (f : α → β) : Cmp (fun x y => c (f x) (f y)) := ⟨fun x y => h.anti _ _, fun x y z => h.tr _ _ _⟩
def cmpI (x y : Int) : Int := Lib.compareInt x y
theorem cmpI_eq (x y : Int) : cmpI x y = if x < y then -1 else if y < x then 1 else 0 := by
  unfold cmpI Lib.compareInt
  (repeat' split) <;> first | rfl | omega
theorem cmpI_cmp : Cmp cmpI := ⟨fun x y => by simp only [cmpI_eq]; (repeat' split) <;> omega, fun x y z h1 h2 => by simp only [cmpI_eq] at h1 h2 ⊢; revert h1 h2; (repeat' split) <;> omega⟩
theorem cmpI_zero {x y : Int} (h : cmpI x y = 0) : x = y := by rw [cmpI_eq] at h; (repeat' split at h) <;> omega
theorem bl_irr : ∀ x : List UInt8, Op.bytesLess x x = false
  | [] => rfl
  | b :: x => by simp [Op.bytesLess, bl_irr x]
theorem bl_tr : ∀ x y z : List UInt8, Op.bytesLess y x = false → Op.bytesLess z y = false → Op.bytesLess z x = false
  | [], _, z, _, _ => by cases z <;> rfl
  | a :: x, [], z, h1, h2 => by simp [Op.bytesLess] at h1
  | a :: x, b :: y, [], h1, h2 => by simp [Op.bytesLess] at h2
  | a :: x, b :: y, c :: z, h1, h2 => by
    simp only [Op.bytesLess, Bool.or_eq_false_iff, decide_eq_false_iff_not, Bool.and_eq_false_imp, beq_iff_eq, UInt8.not_lt] at h1 h2 ⊢
    refine ⟨UInt8.le_trans h1.1 h2.1, fun e => ?_⟩
    subst e
    have e2 : b = c := UInt8.le_antisymm h2.1 h1.1
    subst e2
    exact bl_tr x y z (h1.2 rfl) (h2.2 rfl)
theorem bl_tot : ∀ x y : List UInt8, Op.bytesLess x y = false → Op.bytesLess y x = false → x = y
  | [], [], _, _ => rfl
  | [], b :: y, h1, h2 => by simp [Op.bytesLess] at h1
  | a :: x, [], h1, h2 => by simp [Op.bytesLess] at h2
  | a :: x, b :: y, h1, h2 => by
    simp only [Op.bytesLess, Bool.or_eq_false_iff, decide_eq_false_iff_not, Bool.and_eq_false_imp, beq_iff_eq, UInt8.not_lt] at h1 h2
    have e : a = b := UInt8.le_antisymm h2.1 h1.1
    subst e
    rw [bl_tot x y (h1.2 rfl) (h2.2 rfl)]
def cmpB (x y : ByteArray) : Int := if Op.bytesLess x.toList y.toList = true then -1 else if Op.bytesLess y.toList x.toList = true then 1 else 0
theorem bl_asym {x y : List UInt8} (h : Op.bytesLess x y = true) : Op.bytesLess y x = false := by
  cases h2 : Op.bytesLess y x with
  | false => rfl
  | true =>
    have h3 : Op.bytesLess x x = true := by
      cases h4 : Op.bytesLess x x with
      | true => rfl
      | false =>
        cases h5 : Op.bytesLess y y with
        | true => rw [bl_irr] at h5; cases h5
        | false =>
          -- x < y < x
          exfalso
          have := strict x y h h2
          exact this
    rw [bl_irr] at h3; cases h3
where
  strict : ∀ x y : List UInt8, Op.bytesLess x y = true → Op.bytesLess y x = true → False
    | [], [], h, _ => by simp [Op.bytesLess] at h
    | [], b :: y, _, h => by simp [Op.bytesLess] at h
    | a :: x, [], h, _ => by simp [Op.bytesLess] at h
    | a :: x, b :: y, h1, h2 => by
      simp only [Op.bytesLess, Bool.or_eq_true, decide_eq_true_eq, Bool.and_eq_true, beq_iff_eq] at h1 h2
      rcases h1 with h1 | ⟨rfl, h1⟩
      · rcases h2 with h2 | ⟨rfl, h2⟩
        · exact absurd (UInt8.lt_trans h1 h2) (UInt8.lt_irrefl _)
        · exact absurd h1 (UInt8.lt_irrefl _)
      · rcases h2 with h2 | ⟨_, h2⟩
        · exact absurd h2 (UInt8.lt_irrefl _)
        · exact strict x y h1 h2
theorem cmpB_le {x y : ByteArray} : cmpB x y ≤ 0 ↔ Op.bytesLess y.toList x.toList = false := by
  unfold cmpB
  split
  · rename_i h; simp [bl_asym h]
  · split
    · rename_i h; simp [h]
    · rename_i h; simpa using h
theorem cmpB_cmp : Cmp cmpB where
  anti x y := by
    unfold cmpB
    cases h1 : Op.bytesLess x.toList y.toList <;> cases h2 : Op.bytesLess y.toList x.toList <;> simp
    rw [bl_asym h1] at h2; cases h2
  tr x y z h1 h2 := cmpB_le.2 (bl_tr _ _ _ (cmpB_le.1 h1) (cmpB_le.1 h2))
theorem cmpB_zero {x y : ByteArray} (h : cmpB x y = 0) : x = y := by
  have h1 : Op.bytesLess y.toList x.toList = false := cmpB_le.1 (by omega)
  have h2 : Op.bytesLess x.toList y.toList = false := cmpB_le.1 (by have := cmpB_cmp.anti x y; omega)
  have := bl_tot _ _ h2 h1
  rw [ByteArray.toList_eq, ByteArray.toList_eq] at this
  cases x; cases y
  simp only at this
  congr 1
  exact Array.toList_inj.1 this
/-- the first that is not zero -/
def orL : List Int → Int
  | [] => 0
  | x :: r => thenC x (orL r)
theorem orL_nz {xs : List Int} {k : Nat} (h : k < xs.length) (hz : (xs[k] != 0) = true) : xs[k] = orL (xs.drop k) := by
  rw [List.drop_eq_getElem_cons h]
  show _ = thenC _ _
  unfold thenC; rw [if_pos (by simpa using hz)]
theorem orL_z {xs : List Int} {k : Nat} (h : k < xs.length) (hz : (xs[k] != 0) = false) : orL (xs.drop k) = orL (xs.drop (k + 1)) := by
  rw [List.drop_eq_getElem_cons h]
  show thenC _ _ = _
  unfold thenC; rw [if_neg (by simpa using hz)]
theorem Cmp.zero0 {α : Type} : Cmp (fun _ _ : α => (0 : Int)) := ⟨fun _ _ => rfl, fun _ _ _ _ _ => Int.le_refl _⟩
/-- a scan -/
structure SV where
  gate : Int
  number : Int
  time : Int
  serial : Int
  kind : Int
  owner : ByteArray
deriving DecidableEq
def encSV (s : SV) : List Value := [.int .i64 s.gate, .int .i64 s.number, .int .i64 s.time, .int .i64 s.serial, .int .i64 s.kind, .string s.owner]
theorem encSV_len (s : SV) : (encSV s).length = 6 := rfl
theorem encSV_one (s : SV) : ∀ v ∈ encSV s, v.oneCell' = true := by intro v hv; simp [encSV] at hv; rcases hv with rfl | rfl | rfl | rfl | rfl | rfl <;> rfl
def ordS (x y : SV) : Int := orL [cmpI x.time y.time, cmpI x.gate y.gate, cmpI x.number y.number, cmpI x.serial y.serial, cmpI x.kind y.kind, cmpB x.owner y.owner]
theorem ordS_cmp : Cmp ordS :=
  (cmpI_cmp.on SV.time).lex ((cmpI_cmp.on SV.gate).lex ((cmpI_cmp.on SV.number).lex ((cmpI_cmp.on SV.serial).lex ((cmpI_cmp.on SV.kind).lex ((cmpB_cmp.on SV.owner).lex .zero0)))))
theorem thenC_zero {x y : Int} (h : thenC x y = 0) : x = 0 ∧ y = 0 := by unfold thenC at h; split at h <;> simp_all
theorem ordS_zero {x y : SV} (h : ordS x y = 0) : x = y := by
  unfold ordS at h
  simp only [orL] at h
  obtain ⟨h1, h⟩ := thenC_zero h
  obtain ⟨h2, h⟩ := thenC_zero h
  obtain ⟨h3, h⟩ := thenC_zero h
  obtain ⟨h4, h⟩ := thenC_zero h
  obtain ⟨h5, h⟩ := thenC_zero h
  obtain ⟨h6, h⟩ := thenC_zero h
  cases x; cases y
  simp only at h1 h2 h3 h4 h5 h6
  rw [cmpI_zero h1, cmpI_zero h2, cmpI_zero h3, cmpI_zero h4, cmpI_zero h5, cmpB_zero h6]
/-- a blame -/
structure BV where
  kind : Int
  serial : Int
  gate : Int
  number : Int
  other : Int
  count : Int
deriving DecidableEq
def encBV (b : BV) : List Value := [.int .i64 b.kind, .int .i64 b.serial, .int .i64 b.gate, .int .i64 b.number, .int .i64 b.other, .int .i64 b.count]
theorem encBV_len (s : BV) : (encBV s).length = 6 := rfl
theorem encBV_one (s : BV) : ∀ v ∈ encBV s, v.oneCell' = true := by intro v hv; simp [encBV] at hv; rcases hv with rfl | rfl | rfl | rfl | rfl | rfl <;> rfl
def ordB (x y : BV) : Int := orL [cmpI x.kind y.kind, cmpI x.gate y.gate, cmpI x.number y.number, cmpI x.serial y.serial, cmpI x.other y.other, cmpI x.count y.count]
theorem ordB_cmp : Cmp ordB :=
  (cmpI_cmp.on BV.kind).lex ((cmpI_cmp.on BV.gate).lex ((cmpI_cmp.on BV.number).lex ((cmpI_cmp.on BV.serial).lex ((cmpI_cmp.on BV.other).lex ((cmpI_cmp.on BV.count).lex .zero0)))))
theorem ordB_zero {x y : BV} (h : ordB x y = 0) : x = y := by
  unfold ordB at h
  simp only [orL] at h
  obtain ⟨h1, h⟩ := thenC_zero h
  obtain ⟨h2, h⟩ := thenC_zero h
  obtain ⟨h3, h⟩ := thenC_zero h
  obtain ⟨h4, h⟩ := thenC_zero h
  obtain ⟨h5, h⟩ := thenC_zero h
  obtain ⟨h6, h⟩ := thenC_zero h
  cases x; cases y
  simp only at h1 h2 h3 h4 h5 h6
  rw [cmpI_zero h1, cmpI_zero h2, cmpI_zero h3, cmpI_zero h4, cmpI_zero h5, cmpI_zero h6]
theorem Cmp.swo {α : Type} {c : α → α → Int} (h : Cmp c) : Sort.SWO (ltOf c) where
  irrefl x := by simp [ltOf, h.refl]
  trans x y z h1 h2 := by simp only [ltOf, decide_eq_true_eq] at *; exact h.lt1 h1 (by omega)
  ntrans x y z h1 h2 := by
    simp only [ltOf, decide_eq_false_iff_not, Int.not_lt] at *
    have a := h.anti x y
    have b := h.anti y z
    have e := h.anti x z
    have := h.tr z y x (by omega) (by omega)
    omega
/-- the list, in order -/
def sortL {α : Type} (c : α → α → Int) (xs : List α) : List α := xs.mergeSort fun x y => !(ltOf c) y x
theorem sortL_perm {α : Type} (c : α → α → Int) (xs : List α) : (sortL c xs).Perm xs := List.mergeSort_perm _ _
theorem sortL_sorted {α : Type} {c : α → α → Int} (h : Cmp c) (xs : List α) : (sortL c xs).Pairwise (fun x y => c x y ≤ 0) := by
  have hp := List.pairwise_mergeSort (le := fun x y => !(ltOf c) y x) (fun a b d h1 h2 => by
    simp only [ltOf, Bool.not_eq_true', decide_eq_false_iff_not, Int.not_lt] at *
    have e1 := h.anti a b; have e2 := h.anti b d; have e3 := h.anti a d
    have := h.tr a b d (by omega) (by omega)
    omega) (fun a b => by
    simp only [ltOf, Bool.or_eq_true, Bool.not_eq_true', decide_eq_false_iff_not, Int.not_lt]
    have := h.anti a b; omega) xs
  refine hp.imp ?_
  intro a b hab
  simp only [ltOf, Bool.not_eq_true', decide_eq_false_iff_not, Int.not_lt] at hab
  have := h.anti a b; omega
theorem sortL_nodup {α : Type} (c : α → α → Int) {xs : List α} (h : xs.Nodup) : (sortL c xs).Nodup := (sortL_perm c xs).nodup_iff.2 h
theorem sortL_apart {α : Type} (c : α → α → Int) {xs : List α} (h : xs.Nodup) (i : Nat) (hi : i + 1 < (sortL c xs).length) : (sortL c xs)[i + 1] ≠ (sortL c xs)[i] := fun e => by
  have := (List.getElem_inj (h₀ := hi) (h₁ := by omega) (sortL_nodup c h)).1 e
  omega
def SV.z : SV := ⟨0, 0, 0, 0, 0, ⟨#[]⟩⟩
def catO {α : Type} (ps : List (Value × List α)) : List α := ps.flatMap (·.2)
theorem catO_take {α : Type} {ps : List (Value × List α)} {k : Nat} (h : k < ps.length) : catO (ps.take (k + 1)) = catO (ps.take k) ++ ps[k].2 := by
  unfold catO; rw [List.take_succ_eq_append_getElem h, List.flatMap_append]; simp
theorem catO_le {α : Type} (ps : List (Value × List α)) (k : Nat) : (catO (ps.take k)).length ≤ (catO ps).length := by
  have e : catO ps = catO (ps.take k) ++ catO (ps.drop k) := by unfold catO; rw [← List.flatMap_append, List.take_append_drop]
  rw [e, List.length_append]; omega
end Go.Proofs.YtienaifmlhcijaaGreatDoor
end
