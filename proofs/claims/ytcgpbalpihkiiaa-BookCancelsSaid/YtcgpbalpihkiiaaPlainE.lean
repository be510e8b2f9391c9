/- Layer 33: an order that is taken back. No program in sight. No condition. -/
import Derived.Test.YtcgpbalpihkiiaaPlainD
namespace Go.Proofs.Ytcgpbalpihkiiaa
open Go Go.Gw
set_option linter.unusedSimpArgs false
set_option linter.unusedVariables false
/-- in a list of different Ids one order leaves -/
theorem erase_one {l : List Ord} (hd : l.Pairwise (fun x y => x.id ≠ y.id)) {x : Ord} (hx : x ∈ l) : l.find? (idP x.id) = some x ∧ (∀ y, y ∈ l.eraseP (idP x.id) ↔ y ∈ l ∧ y ≠ x) ∧ (l.eraseP (idP x.id)).length + 1 = l.length ∧ (∀ y ∈ l.eraseP (idP x.id), y.id ≠ x.id) := by
  induction l with
  | nil => simp at hx
  | cons a r ih =>
    obtain ⟨h1, h2⟩ := List.pairwise_cons.1 hd
    by_cases e : a.id = x.id
    · have hax : a = x := by
        rcases List.mem_cons.1 hx with h | h
        · exact h.symm
        · exact absurd e (h1 x h)
      subst hax
      have hp : idP a.id a = true := by simp [idP]
      refine ⟨by simp [List.find?_cons, hp], fun y => ?_, by simp [List.eraseP_cons, hp], fun y hy => ?_⟩
      · simp only [List.eraseP_cons, hp, cond_true, List.mem_cons]
        constructor
        · intro hy; exact ⟨.inr hy, fun e2 => absurd rfl (e2 ▸ h1 y hy)⟩
        · rintro ⟨rfl | hy, hne⟩
          · exact absurd rfl hne
          · exact hy
      · simp only [List.eraseP_cons, hp, cond_true] at hy
        exact (h1 y hy).symm
    · have hp : idP x.id a = false := by simp [idP, e]
      have hxr : x ∈ r := by
        rcases List.mem_cons.1 hx with h | h
        · exact absurd (by rw [h]) e
        · exact h
      obtain ⟨i1, i2, i3, i4⟩ := ih h2 hxr
      refine ⟨by simp [List.find?_cons, hp, i1], fun y => ?_, by simp only [List.eraseP_cons, hp, cond_false, List.length_cons]; omega, fun y hy => ?_⟩
      · simp only [List.eraseP_cons, hp, cond_false, List.mem_cons, i2]
        constructor
        · rintro (rfl | ⟨hy, hne⟩)
          · exact ⟨.inl rfl, fun e2 => e (by rw [e2])⟩
          · exact ⟨.inr hy, hne⟩
        · rintro ⟨rfl | hy, hne⟩
          · exact .inl rfl
          · exact .inr ⟨hy, hne⟩
      · simp only [List.eraseP_cons, hp, cond_false, List.mem_cons] at hy
        rcases hy with rfl | hy
        · exact e
        · exact i4 y hy
theorem find_not {l : List Ord} {i : Int} (h : ∀ y ∈ l, y.id ≠ i) : l.find? (idP i) = none := List.find?_eq_none.2 (fun y hy => by simp [idP, h y hy])
/-- an Id that is used, and not open -/
structure Gone (i : Int) (s : Bk) : Prop where
  used : i ∈ s.ids
  out : ∀ y ∈ s.all, y.id ≠ i
theorem can_mem {s : Bk} {N : Nat} (h : Inv s N) {x : Ord} (hx : x ∈ s.all) : (∀ p, p ≠ x.person → cancelR s x.id p = 15 ∧ cancelS s x.id p = s) ∧ cancelR s x.id x.person = 0 ∧ (∀ y, y ∈ (cancelS s x.id x.person).all ↔ y ∈ s.all ∧ y ≠ x) ∧ (cancelS s x.id x.person).all.length + 1 = s.all.length ∧ Gone x.id (cancelS s x.id x.person) := by
  obtain ⟨d1, d2, d3⟩ := List.pairwise_append.1 h.dist
  rcases List.mem_append.1 hx with ho | hb
  · obtain ⟨e1, e2, e3, e4⟩ := erase_one d1 ho
    have hcs : cancelS s x.id x.person = ⟨s.offers.eraseP (idP x.id), s.bids, s.ids⟩ := by simp [cancelS, e1]
    refine ⟨fun p hp => by simp [cancelR, cancelS, e1, Ne.symm hp], by simp [cancelR, e1], fun y => ?_, ?_, ?_⟩
    · rw [hcs]
      simp only [Bk.all, List.mem_append, e2]
      constructor
      · rintro (⟨hy, hne⟩ | hy)
        · exact ⟨.inl hy, hne⟩
        · exact ⟨.inr hy, fun e => d3 x ho y hy (by rw [e])⟩
      · rintro ⟨hy | hy, hne⟩
        · exact .inl ⟨hy, hne⟩
        · exact .inr hy
    · rw [hcs]; simp only [Bk.all, List.length_append]; omega
    · rw [hcs]
      refine ⟨h.ids x hx, fun y hy => ?_⟩
      rcases List.mem_append.1 hy with hy | hy
      · exact e4 y hy
      · exact (d3 x ho y hy).symm
  · obtain ⟨e1, e2, e3, e4⟩ := erase_one d2 hb
    have hno : s.offers.find? (idP x.id) = none := find_not (fun y hy => d3 y hy x hb)
    have hcs : cancelS s x.id x.person = ⟨s.offers, s.bids.eraseP (idP x.id), s.ids⟩ := by simp [cancelS, e1, hno]
    refine ⟨fun p hp => by simp [cancelR, cancelS, e1, hno, Ne.symm hp], by simp [cancelR, e1, hno], fun y => ?_, ?_, ?_⟩
    · rw [hcs]
      simp only [Bk.all, List.mem_append, e2]
      constructor
      · rintro (hy | ⟨hy, hne⟩)
        · exact ⟨.inl hy, fun e => d3 y hy x hb (by rw [e])⟩
        · exact ⟨.inr hy, hne⟩
      · rintro ⟨hy | hy, hne⟩
        · exact .inl hy
        · exact .inr ⟨hy, hne⟩
    · rw [hcs]; simp only [Bk.all, List.length_append]; omega
    · rw [hcs]
      refine ⟨h.ids x hx, fun y hy => ?_⟩
      rcases List.mem_append.1 hy with hy | hy
      · exact d3 y hy x hb
      · exact e4 y hy
theorem gone_none {s : Bk} {i : Int} (h : Gone i s) (p : ByteArray) : cancelR s i p = 11 ∧ cancelS s i p = s :=
  can_n (fun x hx => by simp [idP, h.out x (List.mem_append_left _ hx)]) (fun x hx => by simp [idP, h.out x (List.mem_append_right _ hx)])
theorem gone_cancel {s : Bk} {i : Int} (h : Gone i s) (k : Int) (p : ByteArray) : Gone i (cancelS s k p) := by
  refine ⟨by rw [can_ids]; exact h.used, fun y hy => h.out y ?_⟩
  unfold cancelS at hy
  split at hy
  · split at hy
    · rcases List.mem_append.1 hy with hy | hy
      · exact List.mem_append_left _ (List.mem_of_mem_eraseP hy)
      · exact List.mem_append_right _ hy
    · exact hy
  · split at hy
    · split at hy
      · rcases List.mem_append.1 hy with hy | hy
        · exact List.mem_append_left _ hy
        · exact List.mem_append_right _ (List.mem_of_mem_eraseP hy)
      · exact hy
    · exact hy
theorem pl_tr2 {s : Bk} {o x : Ord} (h : validB o = true) (h2 : twice s o = false) (hc : (s.other o).find? (agreeB o) = some x) : placeR s o = (tradeOf o x, true, 0) ∧ placeS s o = (s.setOther o ((s.other o).eraseP (agreeB o))).use o.id := by simp [placeR, placeS, h, h2, hc]
theorem other_all {s : Bk} {o x : Ord} (h : x ∈ s.other o) : x ∈ s.all := by
  unfold Bk.other at h
  split at h
  · exact List.mem_append_right _ h
  · exact List.mem_append_left _ h
theorem gone_place {s : Bk} {i : Int} (h : Gone i s) (h0 : i ≠ 0) (o : Ord) : (placeR s o).1.ask ≠ i ∧ (placeR s o).1.bid ≠ i ∧ (o.id = i → (placeR s o).2.2 ≠ 0) ∧ Gone i (placeS s o) := by
  have hz : (0 : Int) ≠ i := Ne.symm h0
  cases hv : validB o
  · obtain ⟨e1, e2⟩ := pl_bad (s := s) hv
    rw [e1, e2]; exact ⟨hz, hz, fun _ => by decide, h⟩
  · cases ht : twice s o
    · have hoi : o.id ≠ i := fun e => notwice ht (by rw [e]; exact h.used)
      cases hc : (s.other o).find? (agreeB o) with
      | some x =>
        have hxi := h.out x (other_all (List.mem_of_find?_eq_some hc))
        obtain ⟨e1, e2⟩ := pl_tr2 hv ht hc
        rw [e1, e2]
        cases hs : o.sell
        · simp only [tradeOf, Bk.use, Bk.setOther, Bk.other, hs, Bool.false_eq_true, if_false]
          exact ⟨hxi, hoi, fun e => absurd e hoi, List.mem_cons_of_mem _ h.used, fun y hy => by
            rcases List.mem_append.1 hy with hy | hy
            · exact h.out y (List.mem_append_left _ (List.mem_of_mem_eraseP hy))
            · exact h.out y (List.mem_append_right _ hy)⟩
        · simp only [tradeOf, Bk.use, Bk.setOther, Bk.other, hs, if_true]
          exact ⟨hoi, hxi, fun e => absurd e hoi, List.mem_cons_of_mem _ h.used, fun y hy => by
            rcases List.mem_append.1 hy with hy | hy
            · exact h.out y (List.mem_append_left _ hy)
            · exact h.out y (List.mem_append_right _ (List.mem_of_mem_eraseP hy))⟩
      | none =>
        have hn : ∀ x ∈ s.other o, agreeB o x = false := fun x hx => by simpa using List.find?_eq_none.1 hc x hx
        by_cases hb : s.offers.length + s.bids.length ≥ 1000
        · obtain ⟨e1, e2⟩ := pl_full hv ht hn hb
          rw [e1, e2]; exact ⟨hz, hz, fun _ => by decide, h⟩
        · obtain ⟨e1, e2⟩ := pl_open hv ht hn (by omega)
          rw [e1, e2]
          refine ⟨hz, hz, fun e => absurd e hoi, ?_⟩
          cases hs : o.sell
          · simp only [Bk.use, Bk.setOwn, Bk.own, hs, Bool.false_eq_true, if_false]
            exact ⟨List.mem_cons_of_mem _ h.used, fun y hy => by
              rcases List.mem_append.1 hy with hy | hy
              · exact h.out y (List.mem_append_left _ hy)
              · rcases insO_mem.1 hy with rfl | hy
                · exact hoi
                · exact h.out y (List.mem_append_right _ hy)⟩
          · simp only [Bk.use, Bk.setOwn, Bk.own, hs, if_true]
            exact ⟨List.mem_cons_of_mem _ h.used, fun y hy => by
              rcases List.mem_append.1 hy with hy | hy
              · rcases insO_mem.1 hy with rfl | hy
                · exact hoi
                · exact h.out y (List.mem_append_left _ hy)
              · exact h.out y (List.mem_append_right _ hy)⟩
    · obtain ⟨e1, e2⟩ := pl_twice hv ht
      rw [e1, e2]; exact ⟨hz, hz, fun _ => by decide, h⟩
theorem str_x (p : ByteArray) : p ++ ⟨#[120]⟩ ≠ p := fun e => by
  have := congrArg ByteArray.size e
  rw [ByteArray.size_append] at this
  have e2 : (⟨#[120]⟩ : ByteArray).size = 1 := rfl
  omega
theorem valid_id {o : Ord} (h : validB o = true) : o.id ≠ 0 ∧ o.person.size ≤ 24 := by
  unfold validB within at h
  simp only [Bool.and_eq_true, decide_eq_true_eq] at h
  exact ⟨by omega, (name_size h.2).2⟩
theorem gone_runs {s : Bk} {i : Int} (h : Gone i s) (h0 : i ≠ 0) (ps : List Opn) : Gone i (runs s ps) := by
  induction ps generalizing s with
  | nil => exact h
  | cons p r ih =>
    have e : runs s (p :: r) = runs (stepB s p) r := rfl
    rw [e]
    refine ih ?_
    unfold stepB
    split
    · exact gone_cancel h _ _
    · exact (gone_place h h0 _).2.2.2
end Go.Proofs.Ytcgpbalpihkiiaa
