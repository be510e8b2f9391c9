/- From a contract of a law's function to the law's row: the arguments are opened by their readings, and read as they did afterwards. No condition. -/
import Derived.Test.YtbjknckddoegfaaGwRows
import Derived.ProofKit
import Derived.OpenShut
import Derived.JoinedCond
namespace Go.Gw
open Go.ChangeShapes Go.WideShapes Go.ChangeAt Go.RowKit
set_option linter.unusedVariables false
set_option linter.unusedSimpArgs false
theorem Ext.below {W W' : World} (h : Ext W W') : Below W.heap.size W W' := ⟨h.os, h.tape, h.output, h.size, fun k hk => h.block hk⟩
theorem Ext.frozen {W W' : World} (h : Ext W W') (a : Addr) : W'.frozen? a = W.frozen? a := by
  rcases Nat.lt_or_ge a.block W.heap.size with hb | hb
  · exact h.below.frozen hb
  · have e : W.heap[a.block]? = none := Array.getElem?_eq_none hb
    have ht := h.thaw a.block (by rw [e]; trivial)
    have : W.frozen? a = false := by simp [World.frozen?, e]
    rw [this]
    unfold World.frozen?
    cases hx : W'.heap[a.block]? with
    | none => rfl
    | some o =>
      cases o with
      | cells c t fr =>
        obtain ⟨lo, hi⟩ := fr
        rw [hx] at ht
        have hle : hi ≤ lo := ht
        simp only [Bool.and_eq_false_iff, decide_eq_false_iff_not]
        omega
      | _ => rfl
section
variable {H : Type} {enc : TypeId × Value → H} {P : Program}
theorem trodAll_stays (hl : laidOutB P = true) {W W' : World} {sp : Nat → Bool} : ∀ {ts : List TypeId} {vs : List Value} {ds : List (DataW H)} {ps : List MemPlace}, ts.all (fun t => P.readableRec t && Nat.blt t P.types.size) = true →
    DataW.TrodAll enc P W 0 (fun _ => true) true ts vs ds ps → (∀ x ∈ ps, W.sameAt W' x) → (∀ x ∈ ps, sp x.block = true) → DataW.TrodAll enc P W' 0 sp true ts vs ds ps
  | [], _, _, _, _, h, _, _ => by
    obtain ⟨rfl, rfl, rfl⟩ := trodAll_nil h
    exact trodAll_mk0
  | t :: ts, _, _, _, hr, h, hs, hp => by
    obtain ⟨v, vs1, d, ds1, a, b, rfl, rfl, rfl, h1, h2⟩ := trodAll_cons h
    simp only [List.all_cons, Bool.and_eq_true] at hr
    exact trodAll_cons_mk (WideElems.Trod_stays hl hr.1.1 (by simpa using hr.1.2) h1 (fun x hx => hs x (List.mem_append_left _ hx)) (fun x hx => hp x (List.mem_append_left _ hx)))
      (trodAll_stays hl hr.2 h2 (fun x hx => hs x (List.mem_append_right _ hx)) (fun x hx => hp x (List.mem_append_right _ hx)))
theorem law_post {f : Func} {s : ChangeSpec} {W W' : World} {args : Array Value} {ds gs : List (DataW H)} {before : List MemPlace} {bt : TypeId} (hW : DataW.Whole enc P f.params.toList s.vars false W args.toList ds gs before) (hv : s.vars = []) (hl : laidOutB P = true)
    (hr : f.params.toList.all (fun t => P.readableRec t && Nat.blt t P.types.size) = true) (hres : f.resultTypes = #[bt]) (hbt : P.underlying bt = some .bool) (hfn : s.fn H ds = { results := [.lit (.bool true)], args := ds }) (he : Ext W W') :
    s.post enc P f false true false false W args (.bool true) W' := by
  have hW' := hW
  obtain ⟨p, q, hA, hV, rfl, hfz, hnd⟩ := hW
  rw [hv] at hV
  obtain ⟨rfl, rfl⟩ := trodVars_none hV
  have hlt := hW'.lt
  simp only [List.append_nil] at hW' hlt
  refine post_of_same (pa := p) (pv := []) hW' (fun b sp hd => ?_) (fun sp hsp => ?_) (fun sp _ => ?_) (by simp) (he.below.frame _) (fun a => he.frozen a) (ok_one (t := bt) hres rfl (okWide_bool_mk hbt _))
  · rw [List.append_nil, hfn, hres]
    exact trodAll_mk1 (shut_bool hbt _)
  · rw [List.append_nil, hfn]
    exact trodAll_stays hl hr hA (fun x hx => he.below.same (hlt x hx)) hsp
  · rw [List.append_nil, hfn, hv]; rfl
/-- whatever cells of type e read as data are those of a y with 'good' -/
def ReadsAs (P : Program) (e : TypeId) {α : Type} (cs : α → List Value) (good : α → Prop) : Prop :=
  ∀ {H : Type} {enc : TypeId × Value → H} {w : World} {base : Nat} {spare : Nat → Bool} {held : Bool} {fuel : Nat} {vs : List Value} {x : DataW H × List MemPlace}, DataW.trod enc P w base spare held fuel e vs = some x → ∃ y, vs = cs y ∧ good y
theorem readsInt {e : TypeId} {k : IntKind} (hT : P.underlying e = some (.int k)) : ReadsAs P e (fun n : Int => [.int k n]) (fun n => (Lit.int k n).wf = true) := fun h => by
  obtain ⟨n, h1, _, h2⟩ := DataW.trod_int hT h
  exact ⟨n, h1, h2⟩
/-- a cell of a plain kind -/
inductive SK where
  | i (k : IntKind)
  | b
def SK.is : SK → Value → Prop
  | .i k, v => ∃ n, v = .int k n ∧ (Lit.int k n).wf = true
  | .b, v => ∃ x, v = .bool x
end
end Go.Gw
