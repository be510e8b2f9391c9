/- Layer 33: an order that is taken back. No program in sight. No condition. -/
import Derived.Test.YtcgpbalpihkiiaaPlainD
namespace Go.Proofs.Ytcgpbalpihkiiaa
open Go Go.Gw
set_option linter.unusedSimpArgs false
set_option linter.unusedVariables false
theorem Inv.ids_ne {s : Bk} {N : Nat} (h : Inv s N) {x y : Ord} (hx : x ∈ s.all) (hy : y ∈ s.all) (e : x.id = y.id) : x = y := by
  obtain ⟨i, hi, rfl⟩ := List.getElem_of_mem hx
  obtain ⟨j, hj, rfl⟩ := List.getElem_of_mem hy
  rcases Nat.lt_trichotomy i j with hl | hl | hl
  · exact absurd e (List.pairwise_iff_getElem.1 h.dist i j hi hj hl)
  · subst hl; rfl
  · exact absurd e.symm (List.pairwise_iff_getElem.1 h.dist j i hj hi hl)
theorem pl_tr2 {s : Bk} {o x : Ord} (h : validB o = true) (h2 : twice s o = false) (hc : (s.other o).find? (agreeB o) = some x) : placeR s o = (tradeOf o x, true, 0) ∧ placeS s o = (s.setOther o ((s.other o).eraseP (agreeB o))).use o.id := by simp [placeR, placeS, h, h2, hc]
theorem other_all {s : Bk} {o x : Ord} (h : x ∈ s.other o) : x ∈ s.all := by
  unfold Bk.other at h
  split at h
  · exact List.mem_append_right _ h
  · exact List.mem_append_left _ h
theorem valid_id {o : Ord} (h : validB o = true) : o.id ≠ 0 ∧ o.person.size ≤ 24 := by
  unfold validB within at h
  simp only [Bool.and_eq_true, decide_eq_true_eq] at h
  exact ⟨by omega, (name_size h.2).2⟩
end Go.Proofs.Ytcgpbalpihkiiaa
