/- Layer 33: the book and the reference's. No program in sight. No condition. -/
import Derived.Test.YtcgpbalpihkiiaaPlainB
namespace Go.Proofs.Ytcgpbalpihkiiaa
open Go Go.Gw
set_option linter.unusedSimpArgs false
set_option linter.unusedVariables false
structure Sim (s : Bk) (r : RB) : Prop where
  opn : r.opn = s.offers ++ s.bids
  ids : ∀ i, i ∈ r.ids ↔ i ∈ s.ids
  len : r.ids.length = s.ids.length
theorem sim_z : Sim Bk.z RB.z := ⟨rfl, fun i => by simp [Bk.z, RB.z], rfl⟩
theorem find_congr {p q : Ord → Bool} : ∀ {l : List Ord}, (∀ x ∈ l, p x = q x) → l.find? p = l.find? q ∧ l.eraseP p = l.eraseP q
  | [], _ => ⟨rfl, rfl⟩
  | x :: r, h => by
    obtain ⟨h1, h2⟩ := find_congr (l := r) (fun y hy => h y (List.mem_cons_of_mem _ hy))
    have hx := h x (by simp)
    simp only [List.find?_cons, List.eraseP_cons, hx, h1, h2, and_self]
theorem find_app {p : Ord → Bool} {l1 l2 : List Ord} : (l1 ++ l2).find? p = (match l1.find? p with | some x => some x | none => l2.find? p) ∧ (l1 ++ l2).eraseP p = (match l1.find? p with | some _ => l1.eraseP p ++ l2 | none => l1 ++ l2.eraseP p) := by
  induction l1 with
  | nil => simp
  | cons x r ih =>
    simp only [List.cons_append, List.find?_cons, List.eraseP_cons]
    cases hx : p x
    · simp only [ih.1, ih.2]
      cases r.find? p <;> simp
    · simp
theorem insO_left {l1 l2 : List Ord} {o : Ord} (h : ∀ x ∈ l2, befB x o = false) : insO (l1 ++ l2) o = insO l1 o ++ l2 := by
  unfold insO
  induction l1 with
  | nil =>
    cases l2 with
    | nil => rfl
    | cons y r =>
      have hy := h y (by simp)
      simp [List.takeWhile, List.dropWhile, hy]
  | cons x r ih =>
    cases hx : befB x o
    · simp [List.takeWhile, List.dropWhile, hx]
    · simpa [List.takeWhile, List.dropWhile, hx] using ih
theorem insO_right {l1 l2 : List Ord} {o : Ord} (h : ∀ x ∈ l1, befB x o = true) : insO (l1 ++ l2) o = l1 ++ insO l2 o := by
  unfold insO
  induction l1 with
  | nil => rfl
  | cons x r ih =>
    have hx := h x (by simp)
    simpa [List.takeWhile, List.dropWhile, hx] using ih (fun y hy => h y (List.mem_cons_of_mem _ hy))
theorem mat_own {o x : Ord} (h : x.sell = o.sell) : matR o x = false := by simp [matR, matchB, h]
theorem mat_other {o x : Ord} (h : x.sell = !o.sell) : matR o x = agreeB o x := by
  unfold matR matchB agreeB
  cases hs : o.sell <;> rw [hs] at h <;> by_cases e : x.person = o.person <;> simp [h, e]
theorem bef_side {x o : Ord} (h : x.sell ≠ o.sell) : befB x o = x.sell := by rw [befB, if_pos h]
theorem sim_twice {s : Bk} {r : RB} {N : Nat} (h : Inv s N) (hs : Sim s r) (o : Ord) : rtwice r o = twice s o := by
  unfold rtwice twice offered
  have h1 : decide (o.id ∈ r.ids) = decide (o.id ∈ s.ids) := decide_eq_decide.2 (hs.ids _)
  rw [h1, hs.opn, List.any_append]
  have h2 : s.bids.any (serR o) = false := List.any_eq_false.2 (fun x hx => by simp [serR, h.srt.hb x hx])
  have h3 : s.offers.any (serR o) = (o.sell && s.offers.any (serP o)) := by
    rw [Bool.eq_iff_iff, Bool.and_eq_true, List.any_eq_true, List.any_eq_true]
    constructor
    · rintro ⟨x, hx, e⟩
      simp only [serR, Bool.and_eq_true] at e
      exact ⟨e.1.1, x, hx, e.2⟩
    · rintro ⟨e, x, hx, e2⟩
      exact ⟨x, hx, by simp only [serR, Bool.and_eq_true]; exact ⟨⟨e, h.srt.ho x hx⟩, e2⟩⟩
  rw [h2, h3, Bool.or_false]
theorem sim_find {s : Bk} {r : RB} {N : Nat} (h : Inv s N) (hs : Sim s r) (o : Ord) : r.opn.find? (matR o) = (s.other o).find? (agreeB o) ∧ ∀ x, (s.other o).find? (agreeB o) = some x → r.opn.eraseP (matR o) = (s.setOther o ((s.other o).eraseP (agreeB o))).offers ++ (s.setOther o ((s.other o).eraseP (agreeB o))).bids := by
  rw [hs.opn, find_app.1, find_app.2]
  unfold Bk.other Bk.setOther
  cases hsell : o.sell
  · obtain ⟨e1, e2⟩ := find_congr (p := matR o) (q := agreeB o) (l := s.offers) (fun x hx => mat_other (by rw [hsell, h.srt.ho x hx]; rfl))
    have e3 : s.bids.find? (matR o) = none := List.find?_eq_none.2 (fun x hx => by rw [mat_own ((h.srt.hb x hx).trans hsell.symm)]; simp)
    rw [e1, e2, e3]
    simp only [Bool.false_eq_true, if_false]
    refine ⟨by cases s.offers.find? (agreeB o) <;> rfl, fun x hx => ?_⟩
    rw [hx]
  · obtain ⟨e1, e2⟩ := find_congr (p := matR o) (q := agreeB o) (l := s.bids) (fun x hx => mat_other (by rw [hsell, h.srt.hb x hx]; rfl))
    have e3 : s.offers.find? (matR o) = none := List.find?_eq_none.2 (fun x hx => by rw [mat_own ((h.srt.ho x hx).trans hsell.symm)]; simp)
    rw [e3, e1, e2]
    simp only [if_true]
    exact ⟨trivial, fun x hx => trivial⟩
theorem sim_ins {s : Bk} {r : RB} {N : Nat} (h : Inv s N) (hs : Sim s r) (o : Ord) : insO r.opn o = (s.setOwn o (insO (s.own o) o)).offers ++ (s.setOwn o (insO (s.own o) o)).bids := by
  rw [hs.opn]
  unfold Bk.own Bk.setOwn
  cases hsell : o.sell
  · simp only [Bool.false_eq_true, if_false]
    exact insO_right (fun x hx => by rw [bef_side (by rw [h.srt.ho x hx, hsell]; simp), h.srt.ho x hx])
  · simp only [if_true]
    exact insO_left (fun x hx => by rw [bef_side (by rw [h.srt.hb x hx, hsell]; simp), h.srt.hb x hx])
theorem sim_place {s : Bk} {r : RB} {N : Nat} (h : Inv s N) (hs : Sim s r) (o : Ord) : rplaceR r o = placeR s o ∧ Sim (placeS s o) (rplaceS r o) := by
  obtain ⟨hf, he⟩ := sim_find h hs o
  have hi := sim_ins h hs o
  have hl : r.opn.length = s.offers.length + s.bids.length := by rw [hs.opn, List.length_append]
  have hid : ∀ i, i ∈ r.ids ++ [o.id] ↔ i ∈ o.id :: s.ids := fun i => by rw [List.mem_append, List.mem_singleton, List.mem_cons, hs.ids i]; exact or_comm
  have hil : (r.ids ++ [o.id]).length = (o.id :: s.ids).length := by rw [List.length_append, hs.len]; rfl
  unfold rplaceR placeR rplaceS placeS
  rw [sim_twice h hs o, hf, hl]
  by_cases hv : validB o = false
  · simp only [hv, if_true]; exact ⟨trivial, hs⟩
  · simp only [if_neg hv]
    by_cases ht : twice s o = true
    · simp only [ht, if_true]; exact ⟨trivial, hs⟩
    · simp only [if_neg ht]
      have e1 : ∀ l, (s.setOther o l).ids = s.ids := fun l => by unfold Bk.setOther; split <;> rfl
      have e2 : ∀ l, (s.setOwn o l).ids = s.ids := fun l => by unfold Bk.setOwn; split <;> rfl
      cases hc : (s.other o).find? (agreeB o) with
      | some x =>
        refine ⟨by first | trivial | rfl, ⟨he x hc, fun i => ?_, ?_⟩⟩
        · show i ∈ r.ids ++ [o.id] ↔ i ∈ o.id :: (s.setOther o ((s.other o).eraseP (agreeB o))).ids
          rw [e1]; exact hid i
        · show (r.ids ++ [o.id]).length = (o.id :: (s.setOther o ((s.other o).eraseP (agreeB o))).ids).length
          rw [e1]; exact hil
      | none =>
        refine ⟨by first | trivial | rfl, ?_⟩
        by_cases hb : s.offers.length + s.bids.length ≥ 1000
        · simp only [if_pos hb]; exact hs
        · simp only [if_neg hb]
          refine ⟨hi, fun i => ?_, ?_⟩
          · show i ∈ r.ids ++ [o.id] ↔ i ∈ o.id :: (s.setOwn o (insO (s.own o) o)).ids
            rw [e2]; exact hid i
          · show (r.ids ++ [o.id]).length = (o.id :: (s.setOwn o (insO (s.own o) o)).ids).length
            rw [e2]; exact hil
theorem sim_cancel {s : Bk} {r : RB} (hs : Sim s r) (i : Int) (p : ByteArray) : rcancelR r i p = cancelR s i p ∧ Sim (cancelS s i p) (rcancelS r i p) := by
  have h1 := find_app (p := idP i) (l1 := s.offers) (l2 := s.bids)
  rw [← hs.opn] at h1
  unfold rcancelR cancelR rcancelS cancelS
  rw [h1.1, h1.2]
  cases ho : s.offers.find? (idP i) with
  | some x =>
    refine ⟨rfl, ?_⟩
    dsimp only
    split
    · exact ⟨rfl, hs.ids, hs.len⟩
    · exact hs
  | none =>
    dsimp only
    cases hb : s.bids.find? (idP i) with
    | some x =>
      refine ⟨rfl, ?_⟩
      dsimp only
      split
      · exact ⟨rfl, hs.ids, hs.len⟩
      · exact hs
    | none => exact ⟨rfl, hs⟩
def rstepB (r : RB) (p : Opn) : RB := if p.cancel = true then rcancelS r p.ord.id p.ord.person else rplaceS r p.ord
def rruns (r : RB) (ps : List Opn) : RB := ps.foldl rstepB r
theorem rruns_take {r : RB} {ps : List Opn} {k : Nat} (h : k < ps.length) : rruns r (ps.take (k + 1)) = rstepB (rruns r (ps.take k)) ps[k] := by
  unfold rruns; rw [List.take_succ_eq_append_getElem h, List.foldl_append]; rfl
theorem Sim.lens {s : Bk} {r : RB} (h : Sim s r) : r.opn.length = s.offers.length + s.bids.length := by rw [h.opn, List.length_append]
theorem ids_step {s : Bk} {p : Opn} : (stepB s p).ids.length ≤ s.ids.length + 1 := by
  unfold stepB cancelS placeS
  split
  · split
    · split <;> simp
    · split
      · split <;> simp
      · simp
  · split
    · simp
    · split
      · simp
      · split
        · unfold Bk.use Bk.setOther; split <;> simp
        · split
          · simp
          · unfold Bk.use Bk.setOwn; split <;> simp
theorem ids_runs {s : Bk} (ps : List Opn) : (runs s ps).ids.length ≤ s.ids.length + ps.length := by
  induction ps generalizing s with
  | nil => simp [runs]
  | cons p r ih =>
    have h1 := ih (s := stepB s p)
    have h2 := ids_step (s := s) (p := p)
    have e : runs s (p :: r) = runs (stepB s p) r := rfl
    rw [e, List.length_cons]; omega
end Go.Proofs.Ytcgpbalpihkiiaa
