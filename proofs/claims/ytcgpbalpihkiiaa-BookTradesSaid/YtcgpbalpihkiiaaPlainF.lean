/- Layer 33: an order that trades. No program in sight. No condition. -/
import Derived.Test.YtcgpbalpihkiiaaPlainC
import Derived.Test.YtcgpbalpihkiiaaPlainE
namespace Go.Proofs.Ytcgpbalpihkiiaa
open Go Go.Gw
set_option linter.unusedSimpArgs false
set_option linter.unusedVariables false
theorem find_split {p : Ord → Bool} {x : Ord} : ∀ {l : List Ord}, l.find? p = some x → p x = true ∧ ∃ as bs, l = as ++ x :: bs ∧ (∀ y ∈ as, p y = false) ∧ l.eraseP p = as ++ bs
  | [], h => by simp at h
  | a :: r, h => by
    cases ha : p a
    · rw [List.find?_cons, ha] at h
      obtain ⟨h1, as, bs, h2, h3, h4⟩ := find_split (l := r) h
      exact ⟨h1, a :: as, bs, by rw [h2]; rfl, fun y hy => by
        rcases List.mem_cons.1 hy with rfl | hy
        · exact ha
        · exact h3 y hy, by rw [List.eraseP_cons, ha, cond_false, h4]; rfl⟩
    · rw [List.find?_cons, ha] at h
      obtain rfl := Option.some.inj h
      exact ⟨ha, [], r, rfl, by simp, by simp [List.eraseP_cons, ha]⟩
/-- the other orders of a list, and that no other one that agrees stands ahead -/
theorem first_one {l : List Ord} {o x : Ord} (hd : l.Pairwise (fun x y => x.id ≠ y.id)) (hp : l.Pairwise (fun x y => befB x y = true)) (hc : l.find? (agreeB o) = some x) : x ∈ l ∧ agreeB o x = true ∧ (∀ y, y ∈ l.eraseP (agreeB o) ↔ y ∈ l ∧ y ≠ x) ∧ (l.eraseP (agreeB o)).length + 1 = l.length ∧ ∀ y ∈ l, agreeB o y = true → y = x ∨ befB x y = true := by
  obtain ⟨h1, as, bs, rfl, h3, h4⟩ := find_split hc
  obtain ⟨d1, d2, d3⟩ := List.pairwise_append.1 hd
  obtain ⟨d4, d5⟩ := List.pairwise_cons.1 d2
  obtain ⟨_, p2, _⟩ := List.pairwise_append.1 hp
  obtain ⟨p4, _⟩ := List.pairwise_cons.1 p2
  refine ⟨by simp, h1, fun y => ?_, by rw [h4]; simp only [List.length_append, List.length_cons]; omega, fun y hy ha => ?_⟩
  · rw [h4, List.mem_append, List.mem_append, List.mem_cons]
    constructor
    · rintro (hy | hy)
      · exact ⟨.inl hy, fun e => d3 y hy x (by simp) (by rw [e])⟩
      · exact ⟨.inr (.inr hy), fun e => d4 y hy (by rw [e])⟩
    · rintro ⟨hy | rfl | hy, hne⟩
      · exact .inl hy
      · exact absurd rfl hne
      · exact .inr hy
  · rcases List.mem_append.1 hy with hy | hy
    · rw [h3 y hy] at ha; cases ha
    · rcases List.mem_cons.1 hy with rfl | hy
      · exact .inl rfl
      · exact .inr (p4 y hy)
theorem pl_kind {s : Bk} {N : Nat} (h : Inv s N) (hN : N < 1000) (o : Ord) :
    (∃ e, placeR s o = (Trd.z, false, e) ∧ e ≠ 0 ∧ placeS s o = s) ∨
    (placeR s o = (Trd.z, false, 0) ∧ (∀ y ∈ s.all, matchB y o = false) ∧ (∀ y, y ∈ (placeS s o).all ↔ y = o ∨ y ∈ s.all) ∧ (placeS s o).all.length = s.all.length + 1) ∨
    ∃ x, placeR s o = (tradeOf o x, true, 0) ∧ x ∈ s.all ∧ matchB x o = true ∧ x.id ≠ 0 ∧ (∀ y, y ∈ (placeS s o).all ↔ y ∈ s.all ∧ y ≠ x) ∧ (placeS s o).all.length + 1 = s.all.length ∧ ∀ y ∈ s.all, matchB y o = true → y = x ∨ befB x y = true := by
  have hl := h.len
  obtain ⟨d1, d2, d3⟩ := List.pairwise_append.1 h.dist
  cases hv : validB o
  · exact .inl ⟨1, (pl_bad hv).1, by decide, (pl_bad hv).2⟩
  · cases ht : twice s o
    · cases hc : (s.other o).find? (agreeB o) with
      | none =>
        have hn : ∀ x ∈ s.other o, agreeB o x = false := fun x hx => by simpa using List.find?_eq_none.1 hc x hx
        obtain ⟨e1, e2⟩ := pl_open hv ht hn (by omega)
        refine .inr (.inl ⟨e1, ?_, ?_, ?_⟩)
        · intro y hy
          cases hs : o.sell
          · rcases List.mem_append.1 hy with hy | hy
            · have hm := mat_other (o := o) (x := y) (by rw [hs, h.srt.ho y hy]; rfl)
              exact hm.trans (hn y (by simp only [Bk.other, hs, Bool.false_eq_true, if_false]; exact hy))
            · exact mat_own ((h.srt.hb y hy).trans hs.symm)
          · rcases List.mem_append.1 hy with hy | hy
            · exact mat_own ((h.srt.ho y hy).trans hs.symm)
            · have hm := mat_other (o := o) (x := y) (by rw [hs, h.srt.hb y hy]; rfl)
              exact hm.trans (hn y (by simp only [Bk.other, hs, if_true]; exact hy))
        · intro y
          rw [e2]
          cases hs : o.sell
          · simp only [Bk.all, Bk.use, Bk.setOwn, Bk.own, hs, Bool.false_eq_true, if_false, List.mem_append, insO_mem]
            constructor
            · rintro (hy | hy | hy)
              · exact .inr (.inl hy)
              · exact .inl hy
              · exact .inr (.inr hy)
            · rintro (hy | hy | hy)
              · exact .inr (.inl hy)
              · exact .inl hy
              · exact .inr (.inr hy)
          · simp only [Bk.all, Bk.use, Bk.setOwn, Bk.own, hs, if_true, List.mem_append, insO_mem, or_assoc]
        · rw [e2]
          cases hs : o.sell
          · simp only [Bk.all, Bk.use, Bk.setOwn, Bk.own, hs, Bool.false_eq_true, if_false, List.length_append, insO_len]; omega
          · simp only [Bk.all, Bk.use, Bk.setOwn, Bk.own, hs, if_true, List.length_append, insO_len]; omega
      | some x =>
        obtain ⟨e1, e2⟩ := pl_tr2 hv ht hc
        have hxa := other_all (List.mem_of_find?_eq_some hc)
        refine .inr (.inr ⟨x, e1, hxa, ?_, (valid_id (h.val x hxa)).1, ?_⟩)
        · have hag : agreeB o x = true := (find_split hc).1
          have hxo := List.mem_of_find?_eq_some hc
          refine Eq.trans (mat_other (o := o) (x := x) ?_) hag
          unfold Bk.other at hxo
          cases hs : o.sell
          · rw [hs] at hxo; rw [h.srt.ho x (by simpa using hxo)]; rfl
          · rw [hs] at hxo; rw [h.srt.hb x (by simpa using hxo)]; rfl
        · rw [e2]
          cases hs : o.sell
          · have hoth : s.other o = s.offers := by simp [Bk.other, hs]
            rw [hoth] at hc
            obtain ⟨f1, f2, f3, f4, f5⟩ := first_one d1 h.srt.so hc
            simp only [Bk.all, Bk.use, Bk.setOther, Bk.other, hs, Bool.false_eq_true, if_false, List.mem_append, List.length_append, f3]
            refine ⟨fun y => ?_, by omega, fun y hy hm => ?_⟩
            · constructor
              · rintro (⟨hy, hne⟩ | hy)
                · exact ⟨.inl hy, hne⟩
                · exact ⟨.inr hy, fun e => d3 x f1 y hy (by rw [e])⟩
              · rintro ⟨hy | hy, hne⟩
                · exact .inl ⟨hy, hne⟩
                · exact .inr hy
            · rcases hy with hy | hy
              · exact f5 y hy ((mat_other (o := o) (x := y) (by rw [hs, h.srt.ho y hy]; rfl)).symm.trans hm)
              · rw [show matchB y o = false from mat_own ((h.srt.hb y hy).trans hs.symm)] at hm; cases hm
          · have hoth : s.other o = s.bids := by simp [Bk.other, hs]
            rw [hoth] at hc
            obtain ⟨f1, f2, f3, f4, f5⟩ := first_one d2 h.srt.sb hc
            simp only [Bk.all, Bk.use, Bk.setOther, Bk.other, hs, if_true, List.mem_append, List.length_append, f3]
            refine ⟨fun y => ?_, by omega, fun y hy hm => ?_⟩
            · constructor
              · rintro (hy | ⟨hy, hne⟩)
                · exact ⟨.inl hy, fun e => d3 y hy x f1 (by rw [e])⟩
                · exact ⟨.inr hy, hne⟩
              · rintro ⟨hy | hy, hne⟩
                · exact .inl hy
                · exact .inr ⟨hy, hne⟩
            · rcases hy with hy | hy
              · rw [show matchB y o = false from mat_own ((h.srt.ho y hy).trans hs.symm)] at hm; cases hm
              · exact f5 y hy ((mat_other (o := o) (x := y) (by rw [hs, h.srt.hb y hy]; rfl)).symm.trans hm)
    · exact .inl ⟨9, (pl_twice hv ht).1, by decide, (pl_twice hv ht).2⟩
theorem match_side {x o : Ord} (h : matchB x o = true) : x.sell ≠ o.sell := fun e => by simp [matchB, e] at h
theorem not_better {x y o : Ord} (hx : matchB x o = true) (hy : matchB y o = true) (h : y = x ∨ befB x y = true) : ¬ ((y.sell = true ∧ y.price < x.price) ∨ (y.sell = false ∧ x.price < y.price) ∨ (y.price = x.price ∧ y.id < x.id)) := by
  rcases h with rfl | h
  · omega
  · have h1 := match_side hx
    have h2 := match_side hy
    have hs : x.sell = y.sell := by
      cases e1 : x.sell <;> cases e2 : y.sell <;> cases e3 : o.sell <;> simp [e1, e2, e3] at h1 h2 ⊢
    rw [befB_same hs] at h
    rw [← hs]
    cases hx : x.sell
    · simp only [hx, Bool.false_eq_true, false_iff] at h
      simp only [Bool.false_eq_true, false_and, false_or, true_and]
      omega
    · simp only [hx, true_iff] at h
      simp only [true_and, Bool.true_eq_false, false_and, false_or]
      omega
def pickO (l : List Ord) (x : Ord) : Ord := if x ∈ l then x else Ord.z
theorem oth_id (o x : Ord) : (if o.sell = true then (tradeOf o x).bid else (tradeOf o x).ask) = x.id := by
  unfold tradeOf; cases o.sell <;> simp
end Go.Proofs.Ytcgpbalpihkiiaa
