/- From a contract of a law's function to the law's row: the arguments are opened by their readings, and read as they did afterwards. No condition. -/
import Derived.Test.YtenaoaegichecaaGwRows
import Derived.ProofKit
import Derived.OpenShut
import Derived.JoinedCond
namespace Go.Gw
open Go.ChangeShapes Go.WideShapes Go.ChangeAt Go.RowKit
set_option linter.unusedVariables false
set_option linter.unusedSimpArgs false

theorem Ext.below {W W' : World} (h : Ext W W') : Below W.heap.size W W' := ⟨h.os, h.tape, h.output, h.size, fun k hk => h.block hk⟩
theorem Ext.frozen {W W' : World} (h : Ext W W') (a : Addr) : W'.frozen? a = W.frozen? a := by
  rcases Nat.lt_or_ge a.block W.heap.size with hb | hb
  · exact h.below.frozen hb
  · have e : W.heap[a.block]? = none := Array.getElem?_eq_none hb
    have ht := h.thaw a.block (by rw [e]; trivial)
    have : W.frozen? a = false := by simp [World.frozen?, e]
    rw [this]
    unfold World.frozen?
    cases hx : W'.heap[a.block]? with
    | none => rfl
    | some o =>
      cases o with
      | cells c t fr =>
        obtain ⟨lo, hi⟩ := fr
        rw [hx] at ht
        have hle : hi ≤ lo := ht
        simp only [Bool.and_eq_false_iff, decide_eq_false_iff_not]
        omega
      | _ => rfl

section
variable {H : Type} {enc : TypeId × Value → H} {P : Program}
theorem trodAll_stays (hl : laidOutB P = true) {W W' : World} {sp : Nat → Bool} : ∀ {ts : List TypeId} {vs : List Value} {ds : List (DataW H)} {ps : List MemPlace}, ts.all (fun t => P.readableRec t && Nat.blt t P.types.size) = true →
    DataW.TrodAll enc P W 0 (fun _ => true) true ts vs ds ps → (∀ x ∈ ps, W.sameAt W' x) → (∀ x ∈ ps, sp x.block = true) → DataW.TrodAll enc P W' 0 sp true ts vs ds ps
  | [], _, _, _, _, h, _, _ => by
    obtain ⟨rfl, rfl, rfl⟩ := trodAll_nil h
    exact trodAll_mk0
  | t :: ts, _, _, _, hr, h, hs, hp => by
    obtain ⟨v, vs1, d, ds1, a, b, rfl, rfl, rfl, h1, h2⟩ := trodAll_cons h
    simp only [List.all_cons, Bool.and_eq_true] at hr
    exact trodAll_cons_mk (WideElems.Trod_stays hl hr.1.1 (by simpa using hr.1.2) h1 (fun x hx => hs x (List.mem_append_left _ hx)) (fun x hx => hp x (List.mem_append_left _ hx)))
      (trodAll_stays hl hr.2 h2 (fun x hx => hs x (List.mem_append_right _ hx)) (fun x hx => hp x (List.mem_append_right _ hx)))

theorem law_post {f : Func} {s : ChangeSpec} {W W' : World} {args : Array Value} {ds gs : List (DataW H)} {before : List MemPlace} {bt : TypeId} (hW : DataW.Whole enc P f.params.toList s.vars false W args.toList ds gs before) (hv : s.vars = []) (hl : laidOutB P = true)
    (hr : f.params.toList.all (fun t => P.readableRec t && Nat.blt t P.types.size) = true) (hres : f.resultTypes = #[bt]) (hbt : P.underlying bt = some .bool) (hfn : s.fn H ds = { results := [.lit (.bool true)], args := ds }) (he : Ext W W') :
    s.post enc P f false true false false W args (.bool true) W' := by
  have hW' := hW
  obtain ⟨p, q, hA, hV, rfl, hfz, hnd⟩ := hW
  rw [hv] at hV
  obtain ⟨rfl, rfl⟩ := trodVars_none hV
  have hlt := hW'.lt
  simp only [List.append_nil] at hW' hlt
  refine post_of_same (pa := p) (pv := []) hW' (fun b sp hd => ?_) (fun sp hsp => ?_) (fun sp _ => ?_) (by simp) (he.below.frame _) (fun a => he.frozen a) (ok_one (t := bt) hres rfl (okWide_bool_mk hbt _))
  · rw [List.append_nil, hfn, hres]
    exact trodAll_mk1 (shut_bool hbt _)
  · rw [List.append_nil, hfn]
    exact trodAll_stays hl hr hA (fun x hx => he.below.same (hlt x hx)) hsp
  · rw [List.append_nil, hfn, hv]; rfl

/-! ### arguments -/
/-- whatever cells of type e read as data are those of a y with 'good' -/
def ReadsAs (P : Program) (e : TypeId) {α : Type} (cs : α → List Value) (good : α → Prop) : Prop :=
  ∀ {H : Type} {enc : TypeId × Value → H} {w : World} {base : Nat} {spare : Nat → Bool} {held : Bool} {fuel : Nat} {vs : List Value} {x : DataW H × List MemPlace}, DataW.trod enc P w base spare held fuel e vs = some x → ∃ y, vs = cs y ∧ good y
theorem arg_agg {W : World} {base : Nat} {sp : Nat → Bool} {held : Bool} {r : Reach} {b0 : Nat} {t : TypeId} {fs : Array Field} {α : Type} {cs : α → List Value} {good : α → Prop} {v : Value} {d : DataW H} {ps : List MemPlace} (hT : P.underlying t = some (.struct fs)) (hE : ReadsAs P t cs good)
    (hval : Value.okWide P W r b0 t v) (hd : DataW.Trod enc P W base sp held t v d ps) : ∃ y, v = .agg (cs y).toArray ∧ good y := by
  obtain ⟨c, rfl, _⟩ := okWide_struct hT hval
  obtain ⟨fuel, hf⟩ := hd
  obtain ⟨y, hy, hg⟩ := hE hf
  refine ⟨y, ?_, hg⟩
  rw [← hy]; simp [Value.cells]
theorem readsInt {e : TypeId} {k : IntKind} (hT : P.underlying e = some (.int k)) : ReadsAs P e (fun n : Int => [.int k n]) (fun n => (Lit.int k n).wf = true) := fun h => by
  obtain ⟨n, h1, _, h2⟩ := DataW.trod_int hT h
  exact ⟨n, h1, h2⟩
/-- a slice whose elements read -/
theorem arg_slice {W : World} {base : Nat} {sp : Nat → Bool} {held : Bool} {r : Reach} {b0 : Nat} {t e : TypeId} {sz : Nat} {α : Type} {cs : α → List Value} {good : α → Prop} {v : Value} {d : DataW H} {ps : List MemPlace} (hT : P.underlying t = some (.slice e)) (hc : P.cellsOf e = sz) (hpos : 0 < sz) (hE : ReadsAs P e cs good)
    (hval : Value.okWide P W r b0 t v) (hd : DataW.Trod enc P W base sp held t v d ps) : ∃ xs : List α, IsSl W v sz cs xs ∧ ∀ x ∈ xs, good x := by
  obtain ⟨p, len, cap, rfl⟩ := okWide_slice hT hval
  obtain ⟨fuel, hf⟩ := hd
  rcases DataW.trod_slice hT hf with ⟨h, _⟩ | ⟨a, len', cap', elems, rest, n, _, h, hx, hb, hlc, hcm, hel, hat, _, _⟩
  · simp [Value.cells] at h
    obtain ⟨rfl, rfl, rfl⟩ := h
    exact ⟨[], ⟨by simp, ⟨_, _, rfl⟩, by simp, fun i hi => by simp at hi⟩, by simp⟩
  · simp [Value.cells] at h
    obtain ⟨rfl, rfl, rfl⟩ := h
    have hsp0 : 0 < len → a.spot = none := fun h0 => by
      have h1 := hat 0 h0
      rw [List.getElem?_eq_getElem (by omega)] at h1
      obtain ⟨c, hcells, hy⟩ := Option.bind_eq_some_iff.1 h1
      obtain ⟨_, hlen, hcell⟩ := World.cells?_some hcells
      rw [hc] at hlen hcell
      have g0 := hcell 0 hpos
      rw [List.getElem?_eq_getElem (by omega)] at g0
      have := World.cell?_spot g0
      simpa [Addr.add] using this
    have hstep : ∀ i, i < len → ∃ y : α, good y ∧ (cs y).length = sz ∧ ∃ b off, a = ⟨b, off, none⟩ ∧ ∀ j u, (cs y)[j]? = some u → W.cell? ⟨b, off + i * sz + j, none⟩ = some u := fun i hi => by
      have h1 := hat i hi
      rw [List.getElem?_eq_getElem (by omega)] at h1
      obtain ⟨c, hcells, hy⟩ := Option.bind_eq_some_iff.1 h1
      obtain ⟨y, rfl, hg⟩ := hE hy
      obtain ⟨_, hlen, hcell⟩ := World.cells?_some hcells
      rw [hc] at hlen hcell
      obtain ⟨b, off, spot⟩ := a
      refine ⟨y, hg, hlen, ?_⟩
      have hspot : spot = none := hsp0 (by omega)
      subst hspot
      refine ⟨b, off, rfl, fun j u hu => ?_⟩
      have hj : j < sz := by rw [← hlen]; exact (List.getElem?_eq_some_iff.1 hu).1
      have := hcell j hj
      rw [add_plain, add_plain] at this
      rw [this, hu]
    have : ∀ k, k ≤ len → ∃ xs : List α, xs.length = k ∧ (∀ x ∈ xs, good x ∧ (cs x).length = sz) ∧ ∀ i (h : i < xs.length), ∃ b off, a = ⟨b, off, none⟩ ∧ ∀ j u, (cs xs[i])[j]? = some u → W.cell? ⟨b, off + i * sz + j, none⟩ = some u := by
      intro k
      induction k with
      | zero => intro _; exact ⟨[], rfl, by simp, fun i h => by simp at h⟩
      | succ k ih =>
        intro hk
        obtain ⟨xs, hl, hg, hc'⟩ := ih (by omega)
        obtain ⟨y, g, gl, hy⟩ := hstep k (by omega)
        refine ⟨xs ++ [y], by simp [hl], fun x hx => ?_, fun i hi => ?_⟩
        · rcases List.mem_append.1 hx with h | h
          · exact hg x h
          · simp at h; subst h; exact ⟨g, gl⟩
        · by_cases hik : i < xs.length
          · rw [List.getElem_append_left hik]; exact hc' i hik
          · obtain rfl : i = k := by simp at hi; omega
            rw [List.getElem_append_right (by omega)]
            simpa [hl] using hy
    obtain ⟨xs, hl, hg, hc'⟩ := this len (Nat.le_refl _)
    have hm : maxLen = 9223372036854775807 := by decide
    refine ⟨xs, ⟨by omega, ⟨_, _, by rw [hl]⟩, fun x hx => (hg x hx).2, fun i hi => ?_⟩, fun x hx => (hg x hx).1⟩
    obtain ⟨b, off, rfl, h⟩ := hc' i hi
    exact ⟨b, off, cap, by rw [hl], h⟩
/-- a struct whose fields are all integers of one cell -/
theorem readsInts {e : TypeId} {fs : Array Field} {n : Nat} (hT : P.underlying e = some (.struct fs)) (hn : fs.size = n) (hc : P.cellsOf e = n) (hf : (List.range n).all (fun i => match fs[i]? with | some f => f.offset == i && P.cellsOf f.type == 1 && (match P.underlying f.type with | some (.int .i64) => true | _ => false) | none => false) = true) :
    ReadsAs P e (fun ns : List Int => ns.map (.int .i64)) (fun ns => ns.length = n ∧ ∀ x ∈ ns, -9223372036854775808 ≤ x ∧ x ≤ 9223372036854775807) := fun {H enc w base spare held fuel vs x} h => by
  obtain ⟨xs, m, _, _, hl, hxl, hx⟩ := DataW.trod_struct hT h
  rw [hc] at hl
  have hone : ∀ i, i < n → ∃ k : Int, vs[i]? = some (.int .i64 k) ∧ -9223372036854775808 ≤ k ∧ k ≤ 9223372036854775807 := fun i hi => by
    have h1 := List.all_eq_true.1 hf i (List.mem_range.2 hi)
    cases hfi : fs[i]? with
    | none => rw [hfi] at h1; cases h1
    | some f =>
      rw [hfi] at h1
      simp only [Bool.and_eq_true, beq_iff_eq] at h1
      obtain ⟨⟨ho, hc1⟩, hu⟩ := h1
      have hu : P.underlying f.type = some (.int .i64) := by
        split at hu
        · assumption
        · cases hu
      have h2 := hx i f hfi
      rw [ho, hc1, List.getElem?_eq_getElem (by omega)] at h2
      obtain ⟨k, hk, _, hw⟩ := DataW.trod_int hu h2
      refine ⟨k, ?_, bounds_i64 hw⟩
      have : ((vs.drop i).take 1)[0]? = some (.int .i64 k) := by rw [hk]; rfl
      simpa [List.getElem?_take] using this
  have : ∀ (q : List Value), (∀ i, i < q.length → ∃ k : Int, q[i]? = some (.int .i64 k) ∧ -9223372036854775808 ≤ k ∧ k ≤ 9223372036854775807) → ∃ ns : List Int, q = ns.map (.int .i64) ∧ ∀ x ∈ ns, -9223372036854775808 ≤ x ∧ x ≤ 9223372036854775807 := by
    intro q
    induction q with
    | nil => intro _; exact ⟨[], rfl, by simp⟩
    | cons a r ih =>
      intro hq
      obtain ⟨k, hk, hb⟩ := hq 0 (by simp)
      obtain ⟨ns, hns, hbs⟩ := ih (fun i hi => by have := hq (i + 1) (by simpa using hi); simpa using this)
      simp at hk
      exact ⟨k :: ns, by rw [hk, hns]; rfl, fun x hx => by rcases List.mem_cons.1 hx with rfl | h; exact hb; exact hbs x h⟩
  obtain ⟨ns, h1, h2⟩ := this vs (fun i hi => hone i (by omega))
  exact ⟨ns, h1, by rw [h1] at hl; simpa using hl, h2⟩
theorem okWide_arr {w : World} {r : Reach} {base : Nat} {t : TypeId} {v : Value} {n : Nat} {e : TypeId} (ht : P.underlying t = some (.array n e)) (h : Value.okWide P w r base t v) : ∃ cs, v = .agg cs ∧ cs.size = P.cellsOf t := by
  unfold Value.okWide at h
  rw [ht] at h
  cases v <;> simp_all
theorem readsArr {t e : TypeId} {n : Nat} {k : IntKind} (hT : P.underlying t = some (.array n e)) (he : P.underlying e = some (.int k)) (hc : P.cellsOf e = 1) (hct : P.cellsOf t = n) :
    ReadsAs P t (fun ns : List Int => ns.map (.int k)) (fun ns => ns.length = n ∧ ∀ x ∈ ns, (Lit.int k x).wf = true) := fun {H enc w base spare held fuel vs x} h => by
  obtain ⟨xs, m, _, _, hl, hxl, hx⟩ := DataW.trod_array hT h
  rw [hct] at hl
  have hone : ∀ i, i < n → ∃ q : Int, vs[i]? = some (.int k q) ∧ (Lit.int k q).wf = true := fun i hi => by
    have h2 := hx i hi
    rw [hc, Nat.mul_one, List.getElem?_eq_getElem (by omega)] at h2
    obtain ⟨q, hq, _, hw⟩ := DataW.trod_int he h2
    refine ⟨q, ?_, hw⟩
    have : ((vs.drop i).take 1)[0]? = some (.int k q) := by rw [hq]; rfl
    simpa [List.getElem?_take] using this
  have : ∀ (q : List Value), (∀ i, i < q.length → ∃ z : Int, q[i]? = some (.int k z) ∧ (Lit.int k z).wf = true) → ∃ ns : List Int, q = ns.map (.int k) ∧ ∀ x ∈ ns, (Lit.int k x).wf = true := by
    intro q
    induction q with
    | nil => intro _; exact ⟨[], rfl, by simp⟩
    | cons a r ih =>
      intro hq
      obtain ⟨z, hz, hb⟩ := hq 0 (by simp)
      obtain ⟨ns, hns, hbs⟩ := ih (fun i hi => by have := hq (i + 1) (by simpa using hi); simpa using this)
      simp at hz
      exact ⟨z :: ns, by rw [hz, hns]; rfl, fun x hx => by rcases List.mem_cons.1 hx with rfl | h; exact hb; exact hbs x h⟩
  obtain ⟨ns, h1, h2⟩ := this vs (fun i hi => hone i (by omega))
  exact ⟨ns, h1, by rw [h1] at hl; simpa using hl, h2⟩
theorem arg_arr {W : World} {base : Nat} {sp : Nat → Bool} {held : Bool} {r : Reach} {b0 : Nat} {t e : TypeId} {n : Nat} {α : Type} {cs : α → List Value} {good : α → Prop} {v : Value} {d : DataW H} {ps : List MemPlace} (hT : P.underlying t = some (.array n e)) (hE : ReadsAs P t cs good)
    (hval : Value.okWide P W r b0 t v) (hd : DataW.Trod enc P W base sp held t v d ps) : ∃ y, v = .agg (cs y).toArray ∧ good y := by
  obtain ⟨c, rfl, _⟩ := okWide_arr hT hval
  obtain ⟨fuel, hf⟩ := hd
  obtain ⟨y, hy, hg⟩ := hE hf
  refine ⟨y, ?_, hg⟩
  rw [← hy]; simp [Value.cells]
/-- a cell of a plain kind -/
inductive SK where
  | i (k : IntKind)
  | b
def SK.is : SK → Value → Prop
  | .i k, v => ∃ n, v = .int k n ∧ (Lit.int k n).wf = true
  | .b, v => ∃ x, v = .bool x
def SK.okB (P : Program) (t : TypeId) : SK → Bool
  | .i k => match P.underlying t with | some (.int k') => k' == k | _ => false
  | .b => match P.underlying t with | some .bool => true | _ => false
/-- a struct whose fields are integers and booleans, each of one cell -/
theorem readsScal {e : TypeId} {fs : Array Field} {n : Nat} (ks : List SK) (hT : P.underlying e = some (.struct fs)) (hn : fs.size = n) (hc : P.cellsOf e = n) (hk : ks.length = n) (hf : (List.range n).all (fun i => match fs[i]?, ks[i]? with | some f, some k => f.offset == i && P.cellsOf f.type == 1 && SK.okB P f.type k | _, _ => false) = true) :
    ReadsAs P e (fun vs : List Value => vs) (fun vs => vs.length = n ∧ ∀ (i : Nat) (k : SK), ks[i]? = some k → ∃ v, vs[i]? = some v ∧ SK.is k v) := fun {H enc w base spare held fuel vs x} h => by
  obtain ⟨xs, m, _, _, hl, hxl, hx⟩ := DataW.trod_struct hT h
  rw [hc] at hl
  refine ⟨vs, rfl, hl, fun i k hki => ?_⟩
  have hi : i < n := by rw [← hk]; exact (List.getElem?_eq_some_iff.1 hki).1
  have h1 := List.all_eq_true.1 hf i (List.mem_range.2 hi)
  rw [hki] at h1
  cases hfi : fs[i]? with
  | none => rw [hfi] at h1; cases h1
  | some f =>
    rw [hfi] at h1
    simp only [Bool.and_eq_true, beq_iff_eq] at h1
    obtain ⟨⟨ho, hc1⟩, hu⟩ := h1
    have h2 := hx i f hfi
    rw [ho, hc1, List.getElem?_eq_getElem (by omega)] at h2
    cases k with
    | i k =>
      have hu' : P.underlying f.type = some (.int k) := by
        simp only [SK.okB] at hu
        split at hu
        · rename_i k' hk'; rw [hk']; have : k' = k := by simpa using hu
          rw [this]
        · cases hu
      obtain ⟨q, hq, _, hw⟩ := DataW.trod_int hu' h2
      refine ⟨.int k q, ?_, q, rfl, hw⟩
      have : ((vs.drop i).take 1)[0]? = some (.int k q) := by rw [hq]; rfl
      simpa [List.getElem?_take] using this
    | b =>
      have hu' : P.underlying f.type = some .bool := by
        simp only [SK.okB] at hu
        split at hu
        · assumption
        · cases hu
      obtain ⟨q, hq, _⟩ := DataW.trod_bool hu' h2
      refine ⟨.bool q, ?_, q, rfl⟩
      have : ((vs.drop i).take 1)[0]? = some (.bool q) := by rw [hq]; rfl
      simpa [List.getElem?_take] using this
end
end Go.Gw
