/- From a contract of a law's function to the law's row: the arguments are opened by their readings, and read as they did afterwards. No condition. -/
import Derived.Test.YtnnendajegdnhaaGwRows
import Derived.ProofKit
import Derived.OpenShut
import Derived.JoinedCond
namespace Go.Gw
open Go.ChangeShapes Go.WideShapes Go.ChangeAt Go.RowKit
set_option linter.unusedVariables false
set_option linter.unusedSimpArgs false
theorem Ext.below {W W' : World} (h : Ext W W') : Below W.heap.size W W' := ⟨h.os, h.tape, h.output, h.size, fun k hk => h.block hk⟩
theorem Ext.frozen {W W' : World} (h : Ext W W') (a : Addr) : W'.frozen? a = W.frozen? a := by
  rcases Nat.lt_or_ge a.block W.heap.size with hb | hb
  · exact h.below.frozen hb
  · have e : W.heap[a.block]? = none := Array.getElem?_eq_none hb
    have ht := h.thaw a.block (by rw [e]; trivial)
    have : W.frozen? a = false := by simp [World.frozen?, e]
    rw [this]
    unfold World.frozen?
    cases hx : W'.heap[a.block]? with
    | none => rfl
    | some o =>
      cases o with
      | cells c t fr =>
        obtain ⟨lo, hi⟩ := fr
        rw [hx] at ht
        have hle : hi ≤ lo := ht
        simp only [Bool.and_eq_false_iff, decide_eq_false_iff_not]
        omega
      | _ => rfl
section
variable {H : Type} {enc : TypeId × Value → H} {P : Program}
theorem trodAll_stays (hl : laidOutB P = true) {W W' : World} {sp : Nat → Bool} : ∀ {ts : List TypeId} {vs : List Value} {ds : List (DataW H)} {ps : List MemPlace}, ts.all (fun t => P.readableRec t && Nat.blt t P.types.size) = true →
    DataW.TrodAll enc P W 0 (fun _ => true) true ts vs ds ps → (∀ x ∈ ps, W.sameAt W' x) → (∀ x ∈ ps, sp x.block = true) → DataW.TrodAll enc P W' 0 sp true ts vs ds ps
  | [], _, _, _, _, h, _, _ => by
    obtain ⟨rfl, rfl, rfl⟩ := trodAll_nil h
    exact trodAll_mk0
  | t :: ts, _, _, _, hr, h, hs, hp => by
    obtain ⟨v, vs1, d, ds1, a, b, rfl, rfl, rfl, h1, h2⟩ := trodAll_cons h
    simp only [List.all_cons, Bool.and_eq_true] at hr
    exact trodAll_cons_mk (WideElems.Trod_stays hl hr.1.1 (by simpa using hr.1.2) h1 (fun x hx => hs x (List.mem_append_left _ hx)) (fun x hx => hp x (List.mem_append_left _ hx)))
      (trodAll_stays hl hr.2 h2 (fun x hx => hs x (List.mem_append_right _ hx)) (fun x hx => hp x (List.mem_append_right _ hx)))
theorem law_post {f : Func} {s : ChangeSpec} {W W' : World} {args : Array Value} {ds gs : List (DataW H)} {before : List MemPlace} {bt : TypeId} (hW : DataW.Whole enc P f.params.toList s.vars false W args.toList ds gs before) (hv : s.vars = []) (hl : laidOutB P = true)
    (hr : f.params.toList.all (fun t => P.readableRec t && Nat.blt t P.types.size) = true) (hres : f.resultTypes = #[bt]) (hbt : P.underlying bt = some .bool) (hfn : s.fn H ds = { results := [.lit (.bool true)], args := ds }) (he : Ext W W') :
    s.post enc P f false true false false W args (.bool true) W' := by
  have hW' := hW
  obtain ⟨p, q, hA, hV, rfl, hfz, hnd⟩ := hW
  rw [hv] at hV
  obtain ⟨rfl, rfl⟩ := trodVars_none hV
  have hlt := hW'.lt
  simp only [List.append_nil] at hW' hlt
  refine post_of_same (pa := p) (pv := []) hW' (fun b sp hd => ?_) (fun sp hsp => ?_) (fun sp _ => ?_) (by simp) (he.below.frame _) (fun a => he.frozen a) (ok_one (t := bt) hres rfl (okWide_bool_mk hbt _))
  · rw [List.append_nil, hfn, hres]
    exact trodAll_mk1 (shut_bool hbt _)
  · rw [List.append_nil, hfn]
    exact trodAll_stays hl hr hA (fun x hx => he.below.same (hlt x hx)) hsp
  · rw [List.append_nil, hfn, hv]; rfl
/-- whatever cells of type e read as data are those of a y with 'good' -/
def ReadsAs (P : Program) (e : TypeId) {α : Type} (cs : α → List Value) (good : α → Prop) : Prop :=
  ∀ {H : Type} {enc : TypeId × Value → H} {w : World} {base : Nat} {spare : Nat → Bool} {held : Bool} {fuel : Nat} {vs : List Value} {x : DataW H × List MemPlace}, DataW.trod enc P w base spare held fuel e vs = some x → ∃ y, vs = cs y ∧ good y
theorem readsInt {e : TypeId} {k : IntKind} (hT : P.underlying e = some (.int k)) : ReadsAs P e (fun n : Int => [.int k n]) (fun n => (Lit.int k n).wf = true) := fun h => by
  obtain ⟨n, h1, _, h2⟩ := DataW.trod_int hT h
  exact ⟨n, h1, h2⟩
/-- a struct whose fields are all integers of one cell -/
theorem readsInts {e : TypeId} {fs : Array Field} {n : Nat} (hT : P.underlying e = some (.struct fs)) (hn : fs.size = n) (hc : P.cellsOf e = n) (hf : (List.range n).all (fun i => match fs[i]? with | some f => f.offset == i && P.cellsOf f.type == 1 && (match P.underlying f.type with | some (.int .i64) => true | _ => false) | none => false) = true) :
    ReadsAs P e (fun ns : List Int => ns.map (.int .i64)) (fun ns => ns.length = n ∧ ∀ x ∈ ns, -9223372036854775808 ≤ x ∧ x ≤ 9223372036854775807) := fun {H enc w base spare held fuel vs x} h => by
  obtain ⟨xs, m, _, _, hl, hxl, hx⟩ := DataW.trod_struct hT h
  rw [hc] at hl
  have hone : ∀ i, i < n → ∃ k : Int, vs[i]? = some (.int .i64 k) ∧ -9223372036854775808 ≤ k ∧ k ≤ 9223372036854775807 := fun i hi => by
    have h1 := List.all_eq_true.1 hf i (List.mem_range.2 hi)
    cases hfi : fs[i]? with
    | none => rw [hfi] at h1; cases h1
    | some f =>
      rw [hfi] at h1
      simp only [Bool.and_eq_true, beq_iff_eq] at h1
      obtain ⟨⟨ho, hc1⟩, hu⟩ := h1
      have hu : P.underlying f.type = some (.int .i64) := by
        split at hu
        · assumption
        · cases hu
      have h2 := hx i f hfi
      rw [ho, hc1, List.getElem?_eq_getElem (by omega)] at h2
      obtain ⟨k, hk, _, hw⟩ := DataW.trod_int hu h2
      refine ⟨k, ?_, bounds_i64 hw⟩
      have : ((vs.drop i).take 1)[0]? = some (.int .i64 k) := by rw [hk]; rfl
      simpa [List.getElem?_take] using this
  have : ∀ (q : List Value), (∀ i, i < q.length → ∃ k : Int, q[i]? = some (.int .i64 k) ∧ -9223372036854775808 ≤ k ∧ k ≤ 9223372036854775807) → ∃ ns : List Int, q = ns.map (.int .i64) ∧ ∀ x ∈ ns, -9223372036854775808 ≤ x ∧ x ≤ 9223372036854775807 := by
    intro q
    induction q with
    | nil => intro _; exact ⟨[], rfl, by simp⟩
    | cons a r ih =>
      intro hq
      obtain ⟨k, hk, hb⟩ := hq 0 (by simp)
      obtain ⟨ns, hns, hbs⟩ := ih (fun i hi => by have := hq (i + 1) (by simpa using hi); simpa using this)
      simp at hk
      exact ⟨k :: ns, by rw [hk, hns]; rfl, fun x hx => by rcases List.mem_cons.1 hx with rfl | h; exact hb; exact hbs x h⟩
  obtain ⟨ns, h1, h2⟩ := this vs (fun i hi => hone i (by omega))
  exact ⟨ns, h1, by rw [h1] at hl; simpa using hl, h2⟩
/-- a cell of a plain kind -/
inductive SK where
  | i (k : IntKind)
  | b
def SK.is : SK → Value → Prop
  | .i k, v => ∃ n, v = .int k n ∧ (Lit.int k n).wf = true
  | .b, v => ∃ x, v = .bool x
end
end Go.Gw
