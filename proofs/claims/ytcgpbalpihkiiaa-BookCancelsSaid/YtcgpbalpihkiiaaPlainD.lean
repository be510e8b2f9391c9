/- Layer 33: the open orders of a book. No program in sight. No condition. -/
import Derived.Test.YtcgpbalpihkiiaaPlainB
namespace Go.Proofs.Ytcgpbalpihkiiaa
open Go Go.Gw
set_option linter.unusedSimpArgs false
set_option linter.unusedVariables false
def Bk.all (s : Bk) : List Ord := s.offers ++ s.bids
/-- an open order x ahead of an open order y -/
structure Ahead (x y : Ord) : Prop where
  mat : matchB x y = false
  id : x.id ≠ y.id
  ser : x.sell = true → y.sell = true → x.serial ≠ y.serial
  bef : befB x y = true
theorem Inv.ahead {s : Bk} {N : Nat} (h : Inv s N) : s.all.Pairwise Ahead := by
  obtain ⟨d1, d2, d3⟩ := List.pairwise_append.1 h.dist
  refine List.pairwise_append.2 ⟨?_, ?_, fun x hx y hy => ?_⟩
  · refine List.Pairwise.imp_of_mem (fun {x y} hx hy hxy => ?_) (d1.and (h.ser.and h.srt.so))
    exact ⟨by simp [matchB, h.srt.ho x hx, h.srt.ho y hy], hxy.1, fun _ _ => hxy.2.1, hxy.2.2⟩
  · refine List.Pairwise.imp_of_mem (fun {x y} hx hy hxy => ?_) (d2.and h.srt.sb)
    exact ⟨by simp [matchB, h.srt.hb x hx, h.srt.hb y hy], hxy.1, fun e => (by rw [h.srt.hb x hx] at e; cases e), hxy.2⟩
  · have h1 := h.srt.ho x hx
    have h2 := h.srt.hb y hy
    refine ⟨?_, d3 x hx y hy, fun _ e => (by rw [h2] at e; cases e), by rw [bef_side' (by rw [h1, h2]; simp), h1]⟩
    rcases h.nom x hx y hy with e | e
    · simp [matchB, e]
    · unfold matchB
      by_cases hc : x.sell = y.sell ∨ x.person = y.person
      · rw [if_pos hc]
      · rw [if_neg hc, if_pos h1]; exact decide_eq_false (by omega)
where
  bef_side' {x o : Ord} (h : x.sell ≠ o.sell) : befB x o = x.sell := by rw [befB, if_pos h]
theorem Inv.at_ {s : Bk} {N : Nat} (h : Inv s N) {k i : Nat} (hk : k < i) (hi : i < s.all.length) : Ahead (s.all[k]'(by omega)) s.all[i] := List.pairwise_iff_getElem.1 h.ahead k i (by omega) hi hk
theorem can_ids (s : Bk) (i : Int) (p : ByteArray) : (cancelS s i p).ids = s.ids := by
  unfold cancelS
  split
  · split <;> rfl
  · split
    · split <;> rfl
    · rfl
end Go.Proofs.Ytcgpbalpihkiiaa
