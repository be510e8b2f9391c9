/- Plain laws of layer 41: what the laws say. No condition. -/
import Derived.Test.YtnnendajegdnhaaPlainV
namespace Go.Proofs.Ytnnendajegdnhaa
set_option linter.unusedVariables false
set_option linter.unusedSimpArgs false
open Go.Gw
instance (priority := 2000) HasSl.mv (l : List Atom) (e : Go.TypeId) (ms : List Mv) (i : Nat) (h : i < ms.length) : HasSl (RowsA e 1 encI (rowsOf ms) :: l) (ms[i]'h).row.1 1 Int encI (ms[i]'h).row.2 :=
  ⟨fun w hw => by
    have h2 : i < (rowsOf ms).length := by simp [rowsOf, h]
    have h3 := (HasSl.row l e 1 Int encI (rowsOf ms) i h2).at_ w hw
    have e1 : (rowsOf ms)[i] = ms[i].row := by simp [rowsOf]
    rw [e1] at h3; exact h3⟩
instance (priority := 2000) HasSl.mvS (l : List Atom) (ms : List Mv) (i : Nat) (h : i < ms.length) : HasSl (RowsS 1 encI (rowsOf ms) :: l) (ms[i]'h).row.1 1 Int encI (ms[i]'h).row.2 :=
  ⟨fun w hw => by
    have h2 : i < (rowsOf ms).length := by simp [rowsOf, h]
    have h3 := (HasSl.rowS l 1 Int encI (rowsOf ms) i h2).at_ w hw
    have e1 : (rowsOf ms)[i] = ms[i].row := by simp [rowsOf]
    rw [e1] at h3; exact h3⟩
noncomputable def errP (old next : List Pl) (ts : List Ow) : Int := errW old.length next.length (movedL ts)
noncomputable def sayP (old next : List Pl) (ts : List Ow) : List Say := if errP old next ts = 0 then movesL (movedL ts) (oldL old (movedL ts)) next (plL (oldL old (movedL ts)) next) else []
noncomputable def clP (old next : List Pl) (ts : List Ow) : List Int := if errP old next ts = 0 then clL (oldL old (movedL ts)) next else []
noncomputable def crP (old next : List Pl) (ts : List Ow) : List Int := if errP old next ts = 0 then crL (oldL old (movedL ts)) next else []
noncomputable def chkW (old next : List Pl) (ts : List Ow) (sy : List Say) (left right : List Int) : Bool := if errP old next ts = 0 then chkB (movedL ts) (oldL old (movedL ts)) next sy left right else false
/-- the places of the moves of a plan -/
theorem tos_moves {ts : List Ow} {olds next : List Pl} {place : List Int} (h : place.length = ts.length) : tosS (movesL ts olds next place) = place := by
  unfold movesL tosS movesK
  rw [List.map_map]
  apply List.ext_getElem
  · simp [h]
  · intro i h1 h2
    simp only [List.getElem_map, List.getElem_range, Function.comp_apply]
    exact atI_eq h2
structure PlanP (old next : List Pl) (ts : List Ow) : Prop where
  n1 : old.length ≤ 4000
  n2 : next.length ≤ 4000
  n3 : (movedL ts).length ≤ 4000
  ok : PlOK old.length (movedL ts)
theorem planP {old next : List Pl} {ts : List Ow} (h : errP old next ts = 0) : PlanP old next ts := by
  have := errW_ok h
  exact ⟨this.1, this.2.1, this.2.2.1, this.2.2.2⟩
theorem plL_len {olds next : List Pl} (h1 : olds.length ≤ 4000) (h2 : next.length ≤ 4000) : (plL olds next).length = olds.length := by
  have := (pairP_own h1 h2).wf.lg; rw [edges_len] at this; exact this
theorem plan_cov {olds next : List Pl} (h1 : olds.length ≤ 4000) (h2 : next.length ≤ 4000) : checkL (edgesL olds next) next.length (plL olds next) (clL olds next) (crL olds next) = true := by
  have h := pairP_own h1 h2
  have hs := cover_sets (rsP_done h1 h2) next.length
  rw [← edges_len olds next] at h
  refine cover_law (edges_valid h1 h2) h ?_ hs.2
  have := hs.1
  unfold clL
  rw [← edges_len olds next]; exact this
/-- Check accepts what Plan returns -/
theorem plan_chk {old next : List Pl} {ts : List Ow} (h : errP old next ts = 0) : ChkP (movedL ts) (oldL old (movedL ts)) next (sayP old next ts) (clP old next ts) (crP old next ts) := by
  have hp := planP h
  have ho := old_len old (movedL ts)
  have hl := plL_len (olds := oldL old (movedL ts)) (next := next) (by have := hp.n3; omega) hp.n2
  have ht : tosS (sayP old next ts) = plL (oldL old (movedL ts)) next := by
    unfold sayP; rw [if_pos h]; exact tos_moves (by omega)
  refine ⟨?_, fun i h1 h2 => ?_, fun i h1 h2 => ?_, ?_⟩
  · unfold sayP; rw [if_pos h]; exact movesK_len ..
  · unfold sayP at h1 ⊢
    simp only [if_pos h] at h1 ⊢
    simp only [movesL, movesK, List.getElem_map, List.getElem_range]
    rw [List.getD_eq_getElem?_getD, List.getElem?_eq_getElem h2]; rfl
  · rw [ht]
    unfold sayP at h1 ⊢
    simp only [if_pos h] at h1 ⊢
    simp only [movesL, movesK, List.getElem_map, List.getElem_range]
    rw [List.getD_eq_getElem?_getD, List.getElem?_eq_getElem h2]; rfl
  · rw [ht]
    unfold clP crP
    rw [if_pos h, if_pos h]
    exact plan_cov (by have := hp.n3; omega) hp.n2
theorem mv1 {ms : List Mv} {x : Say} (h : ms.map Mv.say = [x]) : ∃ p, ms = [p] ∧ p.say = x := by
  match ms, h with
  | [p], h => simp only [List.map_cons, List.map_nil, List.cons.injEq, and_true] at h; exact ⟨p, rfl, h⟩
end Go.Proofs.Ytnnendajegdnhaa
