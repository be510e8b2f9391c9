/- Layer 33: the open orders of a book. No program in sight. No condition. -/
import Derived.Test.YtcgpbalpihkiiaaPlainB
namespace Go.Proofs.Ytcgpbalpihkiiaa
open Go Go.Gw
set_option linter.unusedSimpArgs false
set_option linter.unusedVariables false
def Bk.all (s : Bk) : List Ord := s.offers ++ s.bids
/-- an open order x ahead of an open order y -/
structure Ahead (x y : Ord) : Prop where
  mat : matchB x y = false
  id : x.id ≠ y.id
  ser : x.sell = true → y.sell = true → x.serial ≠ y.serial
  bef : befB x y = true
theorem Inv.ahead {s : Bk} {N : Nat} (h : Inv s N) : s.all.Pairwise Ahead := by
  obtain ⟨d1, d2, d3⟩ := List.pairwise_append.1 h.dist
  refine List.pairwise_append.2 ⟨?_, ?_, fun x hx y hy => ?_⟩
  · refine List.Pairwise.imp_of_mem (fun {x y} hx hy hxy => ?_) (d1.and (h.ser.and h.srt.so))
    exact ⟨by simp [matchB, h.srt.ho x hx, h.srt.ho y hy], hxy.1, fun _ _ => hxy.2.1, hxy.2.2⟩
  · refine List.Pairwise.imp_of_mem (fun {x y} hx hy hxy => ?_) (d2.and h.srt.sb)
    exact ⟨by simp [matchB, h.srt.hb x hx, h.srt.hb y hy], hxy.1, fun e => (by rw [h.srt.hb x hx] at e; cases e), hxy.2⟩
  · have h1 := h.srt.ho x hx
    have h2 := h.srt.hb y hy
    refine ⟨?_, d3 x hx y hy, fun _ e => (by rw [h2] at e; cases e), by rw [bef_side' (by rw [h1, h2]; simp), h1]⟩
    rcases h.nom x hx y hy with e | e
    · simp [matchB, e]
    · unfold matchB
      by_cases hc : x.sell = y.sell ∨ x.person = y.person
      · rw [if_pos hc]
      · rw [if_neg hc, if_pos h1]; exact decide_eq_false (by omega)
where
  bef_side' {x o : Ord} (h : x.sell ≠ o.sell) : befB x o = x.sell := by rw [befB, if_pos h]
theorem Inv.at_ {s : Bk} {N : Nat} (h : Inv s N) {k i : Nat} (hk : k < i) (hi : i < s.all.length) : Ahead (s.all[k]'(by omega)) s.all[i] := List.pairwise_iff_getElem.1 h.ahead k i (by omega) hi hk
/-- which Ids are used after an operation -/
theorem pl_ids (s : Bk) (o : Ord) : (placeS s o).ids = if (placeR s o).2.2 = 0 then o.id :: s.ids else s.ids := by
  unfold placeS placeR
  by_cases hv : validB o = false
  · simp [hv]
  · simp only [if_neg hv]
    by_cases ht : twice s o = true
    · simp [ht]
    · simp only [if_neg ht]
      cases hc : (s.other o).find? (agreeB o) with
      | some x => simp only [Bk.use, Bk.setOther]; split <;> simp
      | none =>
        by_cases hb : s.offers.length + s.bids.length ≥ 1000
        · simp only [if_pos hb]; simp
        · simp only [if_neg hb]; simp only [Bk.use, Bk.setOwn]; split <;> simp
theorem can_ids (s : Bk) (i : Int) (p : ByteArray) : (cancelS s i p).ids = s.ids := by
  unfold cancelS
  split
  · split <;> rfl
  · split
    · split <;> rfl
    · rfl
theorem used_place (s : Bk) (p : Ord) (i : Int) : (decide (i ∈ s.ids) || ((placeR s p).2.2 == 0 && p.id == i)) = decide (i ∈ (placeS s p).ids) := by
  rw [pl_ids]
  by_cases h : (placeR s p).2.2 = 0
  · rw [if_pos h, h]
    by_cases e : i = p.id
    · simp [e]
    · simp [e, beqI, Ne.symm e]
  · rw [if_neg h, beqI, decide_eq_false h]; simp
theorem tw_all {s : Bk} {N : Nat} (h : Inv s N) (o : Ord) : (decide (o.id ∈ s.ids) || s.all.any (serR o)) = twice s o := by
  unfold twice offered Bk.all
  rw [List.any_append]
  have h2 : s.bids.any (serR o) = false := List.any_eq_false.2 (fun x hx => by simp [serR, h.srt.hb x hx])
  have h3 : s.offers.any (serR o) = (o.sell && s.offers.any (serP o)) := by
    rw [Bool.eq_iff_iff, Bool.and_eq_true, List.any_eq_true, List.any_eq_true]
    constructor
    · rintro ⟨x, hx, e⟩
      simp only [serR, Bool.and_eq_true] at e
      exact ⟨e.1.1, x, hx, e.2⟩
    · rintro ⟨e, x, hx, e2⟩
      exact ⟨x, hx, by simp only [serR, Bool.and_eq_true]; exact ⟨⟨e, h.srt.ho x hx⟩, e2⟩⟩
  rw [h2, h3, Bool.or_false]
theorem any_take {l : List Ord} {p : Ord → Bool} {k : Nat} (h : k < l.length) : (l.take (k + 1)).any p = ((l.take k).any p || p l[k]) := by
  rw [List.take_succ_eq_append_getElem h, List.any_append]; simp
/-- what Place says -/
theorem pl_err {s : Bk} {N : Nat} (h : Inv s N) (hN : N < 1000) (o : Ord) : (placeR s o).2.2 = if (!validB o) = true then 1 else if twice s o = true then 9 else 0 := by
  have hl := h.len
  unfold placeR
  by_cases hv : validB o = false
  · simp [hv]
  · have hv' : validB o = true := by simpa using hv
    simp only [if_neg hv, hv', Bool.not_true, Bool.false_eq_true, if_false]
    by_cases ht : twice s o = true
    · simp [ht]
    · simp only [if_neg ht]
      cases hc : (s.other o).find? (agreeB o) with
      | some x => rfl
      | none => simp [show ¬ 1000 ≤ s.offers.length + s.bids.length by omega]
theorem pl_same {s : Bk} {o : Ord} (h : (placeR s o).2.2 ≠ 0) : placeS s o = s := by
  unfold placeR at h
  unfold placeS
  by_cases hv : validB o = false
  · simp [hv]
  · simp only [if_neg hv] at h ⊢
    by_cases ht : twice s o = true
    · simp [ht]
    · simp only [if_neg ht] at h ⊢
      cases hc : (s.other o).find? (agreeB o) with
      | some x => rw [hc] at h; exact absurd rfl h
      | none =>
        rw [hc] at h
        by_cases hb : s.offers.length + s.bids.length ≥ 1000
        · simp only [if_pos hb]
        · simp only [if_neg hb] at h; exact absurd rfl h
end Go.Proofs.Ytcgpbalpihkiiaa
