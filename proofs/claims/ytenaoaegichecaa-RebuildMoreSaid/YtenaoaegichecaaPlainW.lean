/- Plain laws of layer 41: what the laws say. No condition. -/
import Derived.Test.YtenaoaegichecaaPlainV
namespace Go.Proofs.Ytenaoaegichecaa
set_option linter.unusedVariables false
set_option linter.unusedSimpArgs false
open Go.Gw

instance (priority := 2000) HasSl.mv (l : List Atom) (e : Go.TypeId) (ms : List Mv) (i : Nat) (h : i < ms.length) : HasSl (RowsA e 1 encI (rowsOf ms) :: l) (ms[i]'h).row.1 1 Int encI (ms[i]'h).row.2 :=
  ⟨fun w hw => by
    have h2 : i < (rowsOf ms).length := by simp [rowsOf, h]
    have h3 := (HasSl.row l e 1 Int encI (rowsOf ms) i h2).at_ w hw
    have e1 : (rowsOf ms)[i] = ms[i].row := by simp [rowsOf]
    rw [e1] at h3; exact h3⟩
instance (priority := 2000) HasSl.mvS (l : List Atom) (ms : List Mv) (i : Nat) (h : i < ms.length) : HasSl (RowsS 1 encI (rowsOf ms) :: l) (ms[i]'h).row.1 1 Int encI (ms[i]'h).row.2 :=
  ⟨fun w hw => by
    have h2 : i < (rowsOf ms).length := by simp [rowsOf, h]
    have h3 := (HasSl.rowS l 1 Int encI (rowsOf ms) i h2).at_ w hw
    have e1 : (rowsOf ms)[i] = ms[i].row := by simp [rowsOf]
    rw [e1] at h3; exact h3⟩
/-! ### what a plan gives -/
noncomputable def errP (old next : List Pl) (ts : List Ow) : Int := errW old.length next.length (movedL ts)
noncomputable def sayP (old next : List Pl) (ts : List Ow) : List Say := if errP old next ts = 0 then movesL (movedL ts) (oldL old (movedL ts)) next (plL (oldL old (movedL ts)) next) else []
noncomputable def clP (old next : List Pl) (ts : List Ow) : List Int := if errP old next ts = 0 then clL (oldL old (movedL ts)) next else []
noncomputable def crP (old next : List Pl) (ts : List Ow) : List Int := if errP old next ts = 0 then crL (oldL old (movedL ts)) next else []
noncomputable def chkW (old next : List Pl) (ts : List Ow) (sy : List Say) (left right : List Int) : Bool := if errP old next ts = 0 then chkB (movedL ts) (oldL old (movedL ts)) next sy left right else false
/-- the places of the moves of a plan -/
theorem tos_moves {ts : List Ow} {olds next : List Pl} {place : List Int} (h : place.length = ts.length) : tosS (movesL ts olds next place) = place := by
  unfold movesL tosS movesK
  rw [List.map_map]
  apply List.ext_getElem
  · simp [h]
  · intro i h1 h2
    simp only [List.getElem_map, List.getElem_range, Function.comp_apply]
    exact atI_eq h2
structure PlanP (old next : List Pl) (ts : List Ow) : Prop where
  n1 : old.length ≤ 4000
  n2 : next.length ≤ 4000
  n3 : (movedL ts).length ≤ 4000
  ok : PlOK old.length (movedL ts)
theorem planP {old next : List Pl} {ts : List Ow} (h : errP old next ts = 0) : PlanP old next ts := by
  have := errW_ok h
  exact ⟨this.1, this.2.1, this.2.2.1, this.2.2.2⟩
theorem plL_len {olds next : List Pl} (h1 : olds.length ≤ 4000) (h2 : next.length ≤ 4000) : (plL olds next).length = olds.length := by
  have := (pairP_own h1 h2).wf.lg; rw [edges_len] at this; exact this
theorem plL_isM {olds next : List Pl} (h1 : olds.length ≤ 4000) (h2 : next.length ≤ 4000) : IsM (edgesL olds next) (plL olds next) := by
  have h := pairP_own h1 h2
  exact conv_isM (s := ⟨[], (pairP olds next).1, (pairP olds next).2⟩) h.wf.lg h.low h.conv
theorem plan_cov {olds next : List Pl} (h1 : olds.length ≤ 4000) (h2 : next.length ≤ 4000) : checkL (edgesL olds next) next.length (plL olds next) (clL olds next) (crL olds next) = true := by
  have h := pairP_own h1 h2
  have hs := cover_sets (rsP_done h1 h2) next.length
  rw [← edges_len olds next] at h
  refine cover_law (edges_valid h1 h2) h ?_ hs.2
  have := hs.1
  unfold clL
  rw [← edges_len olds next]; exact this
/-- Check accepts what Plan returns -/
theorem plan_chk {old next : List Pl} {ts : List Ow} (h : errP old next ts = 0) : ChkP (movedL ts) (oldL old (movedL ts)) next (sayP old next ts) (clP old next ts) (crP old next ts) := by
  have hp := planP h
  have ho := old_len old (movedL ts)
  have hl := plL_len (olds := oldL old (movedL ts)) (next := next) (by have := hp.n3; omega) hp.n2
  have ht : tosS (sayP old next ts) = plL (oldL old (movedL ts)) next := by
    unfold sayP; rw [if_pos h]; exact tos_moves (by omega)
  refine ⟨?_, fun i h1 h2 => ?_, fun i h1 h2 => ?_, ?_⟩
  · unfold sayP; rw [if_pos h]; exact movesK_len ..
  · unfold sayP at h1 ⊢
    simp only [if_pos h] at h1 ⊢
    simp only [movesL, movesK, List.getElem_map, List.getElem_range]
    rw [List.getD_eq_getElem?_getD, List.getElem?_eq_getElem h2]; rfl
  · rw [ht]
    unfold sayP at h1 ⊢
    simp only [if_pos h] at h1 ⊢
    simp only [movesL, movesK, List.getElem_map, List.getElem_range]
    rw [List.getD_eq_getElem?_getD, List.getElem?_eq_getElem h2]; rfl
  · rw [ht]
    unfold clP crP
    rw [if_pos h, if_pos h]
    exact plan_cov (by have := hp.n3; omega) hp.n2
/-! ### the fixed examples -/
def seatH (row n view : Int) : Pl := ⟨0, 0, 0, row, n, 0, 0, view, -1⟩
def owH (k place : Int) : Ow := ⟨10000 + k, 0, place, .string ⟨#[]⟩, .slice none 0 0, .string ⟨#[]⟩, .slice none 0 0, 0, .slice none 0 0, 0, .slice none 0 0⟩
def oldH : List Pl := [seatH 0 1 0, seatH 0 2 0, seatH 0 3 1]
def tsH : List Ow := [owH 1 0, owH 2 1, owH 3 2]
def nextH : List Pl := [seatH 0 1 1, seatH 1 1 0]
theorem owH_ok (k place : Int) : (owH k place).ok := ⟨rfl, rfl, rfl, rfl, rfl, rfl⟩
theorem tsH_ok : ∀ o ∈ tsH, o.ok := by
  intro o ho
  simp only [tsH, List.mem_cons, List.not_mem_nil, or_false] at ho
  rcases ho with rfl | rfl | rfl <;> exact owH_ok _ _
theorem movH : movedL tsH = tsH := by rfl
theorem okH : PlOK 3 tsH := by
  intro j hj
  have : j = 0 ∨ j = 1 ∨ j = 2 := by have : j < 3 := hj; omega
  rcases this with rfl | rfl | rfl
  · exact ⟨show (0 : Int) < 3 by omega, fun q hq => by omega⟩
  · refine ⟨show (1 : Int) < 3 by omega, fun q hq => ?_⟩
    obtain rfl : q = 0 := by omega
    exact show (0 : Int) ≠ 1 by omega
  · refine ⟨show (2 : Int) < 3 by omega, fun q hq => ?_⟩
    have : q = 0 ∨ q = 1 := by omega
    rcases this with rfl | rfl
    · exact show (0 : Int) ≠ 2 by omega
    · exact show (1 : Int) ≠ 2 by omega
theorem errH (n : Nat) (hn : n ≤ 4000) : errW 3 n (movedL tsH) = 0 := by
  rw [movH]
  exact errW_0 (by have : tsH.length = 3 := rfl; omega) okH
theorem errH4 : errW 3 3 (movedL (tsH ++ [owH 4 0])) = 1 := by
  rw [show movedL (tsH ++ [owH 4 0]) = tsH ++ [owH 4 0] from rfl]
  exact errW_1 (by have : (tsH ++ [owH 4 0]).length = 4 := rfl; omega) (fun h => (plOK_snoc.1 h).2.2 (owH 1 0) (by simp [tsH]) rfl)
theorem errA : errP oldH oldH tsH = 0 := errH 3 (by omega)
theorem errB : errP oldH ((oldH.take 2).drop 0) tsH = 0 := errH 2 (by omega)
theorem errC : errP oldH nextH tsH = 0 := errH 2 (by omega)
theorem errD : errP oldH [] tsH = 0 := errH 0 (by omega)
theorem errE : errP oldH oldH (tsH ++ [owH 4 0]) = 1 := errH4
theorem sayA : sayP oldH oldH tsH = [(10001, 0, []), (10002, 1, []), (10003, 2, [])] := by unfold sayP; rw [if_pos errA]; kernel_rfl
theorem sayB : sayP oldH ((oldH.take 2).drop 0) tsH = [(10001, 0, []), (10002, 1, []), (10003, -1, [])] := by unfold sayP; rw [if_pos errB]; kernel_rfl
theorem sayC : sayP oldH nextH tsH = [(10001, 1, []), (10002, -1, []), (10003, 0, [])] := by unfold sayP; rw [if_pos errC]; kernel_rfl
theorem sayD : sayP oldH [] tsH = [(10001, -1, []), (10002, -1, []), (10003, -1, [])] := by unfold sayP; rw [if_pos errD]; kernel_rfl
theorem clD : clP oldH [] tsH = [] := by unfold clP; rw [if_pos errD]; kernel_rfl
theorem crD : crP oldH [] tsH = [] := by unfold crP; rw [if_pos errD]; kernel_rfl
theorem chkC : chkW oldH nextH tsH (sayP oldH nextH tsH) (clP oldH nextH tsH) (crP oldH nextH tsH) = true := by unfold chkW; rw [if_pos errC]; exact chk_yes (plan_chk errC)
theorem chkD : chkW oldH nextH tsH (sayP oldH [] tsH) (clP oldH [] tsH) (crP oldH [] tsH) = false := by
  unfold chkW; rw [if_pos errC, sayD, clD, crD]
  refine chk_no (fun h => ?_)
  have h2 := h.cov
  rw [show checkL (edgesL (oldL oldH (movedL tsH)) nextH) nextH.length (tosS [(10001, -1, []), (10002, -1, []), (10003, -1, [])]) [] [] = false by kernel_rfl] at h2
  cases h2
theorem chkE : chkW oldH oldH tsH [] [] [] = false := by
  unfold chkW; rw [if_pos errA]
  exact chk_no (fun h => by have h2 := h.len; cases h2)
theorem mv3 {ms : List Mv} {x y z : Say} (h : ms.map Mv.say = [x, y, z]) : ∃ p q r, ms = [p, q, r] ∧ p.say = x ∧ q.say = y ∧ r.say = z := by
  match ms, h with
  | [p, q, r], h =>
    simp only [List.map_cons, List.map_nil, List.cons.injEq, and_true] at h
    exact ⟨p, q, r, rfl, h.1, h.2.1, h.2.2⟩
theorem clP_len (old next : List Pl) (ts : List Ow) (h : ts.length ≤ 100000) : (clP old next ts).length ≤ 100000 := by
  unfold clP
  split
  · have h1 := coverLeft_len (edgesL (oldL old (movedL ts)) next) (rsP (oldL old (movedL ts)) next) (oldL old (movedL ts)).length
    have h2 := old_len old (movedL ts)
    have h3 : (movedL ts).length ≤ ts.length := by unfold movedL; exact List.length_filter_le _ _
    unfold clL; omega
  · simp
theorem crP_len (old next : List Pl) (ts : List Ow) (h : next.length ≤ 100000) : (crP old next ts).length ≤ 100000 := by
  unfold crP
  split
  · have h1 := coverRight_len (rsP (oldL old (movedL ts)) next) next.length
    unfold crL; omega
  · simp
def shortB (ms : List Mv) (left right : List Int) : Bool := ms.all (fun m => decide ((m.row.2.length : Int) ≤ 20)) && (decide ((ms.length : Int) ≤ 20) && decide ((left.length : Int) ≤ 20) && decide ((right.length : Int) ≤ 20))
theorem short_no {ms : List Mv} {left right : List Int} {k : Nat} (hk : k < ms.length) (h : (ms[k].row.2.length : Int) > 20) : shortB ms left right = false := by
  unfold shortB
  rw [Bool.and_eq_false_iff]; left
  rw [Bool.eq_false_iff]
  intro e
  have := List.all_eq_true.1 e ms[k] (List.getElem_mem hk)
  simp only [decide_eq_true_eq] at this; omega
theorem short_end {ms : List Mv} {left right : List Int} (h : ∀ j (hj : j < ms.length), (ms[j].row.2.length : Int) ≤ 20) : shortB ms left right = (decide ((ms.length : Int) ≤ 20) && decide ((left.length : Int) ≤ 20) && decide ((right.length : Int) ≤ 20)) := by
  unfold shortB
  rw [List.all_eq_true.2 (fun m hm => by obtain ⟨j, hj, rfl⟩ := List.getElem_of_mem hm; simp only [decide_eq_true_eq]; exact h j hj), Bool.true_and]
theorem short_parts {ms : List Mv} {left right : List Int} (h : shortB ms left right = true) : ms.length ≤ 20 ∧ left.length ≤ 20 ∧ right.length ≤ 20 := by
  unfold shortB at h
  simp only [Bool.and_eq_true, decide_eq_true_eq] at h
  omega
theorem mv1 {ms : List Mv} {x : Say} (h : ms.map Mv.say = [x]) : ∃ p, ms = [p] ∧ p.say = x := by
  match ms, h with
  | [p], h => simp only [List.map_cons, List.map_nil, List.cons.injEq, and_true] at h; exact ⟨p, rfl, h⟩
/-! ### many equal places -/
def oneT : List Ow := [owH 1 0]
theorem one_ok : ∀ o ∈ oneT, o.ok := fun o ho => by
  simp only [oneT, List.mem_singleton] at ho; subst ho; exact owH_ok 1 0
theorem many_big {n : Nat} {one : List Pl} (h : n > 4000) : errP one (List.replicate n pl0) oneT = 3 := errW_3 (.inr (.inl (by simpa using h)))
theorem many_err {n : Nat} {one : List Pl} (h : n ≤ 4000) (h1 : 0 < one.length) (h2 : one.length ≤ 4000) : errP one (List.replicate n pl0) oneT = 0 := by
  refine errW_0 (by have : (movedL oneT).length = 1 := rfl; simp only [List.length_replicate]; omega) (fun j hj => ?_)
  have hj0 : j < 1 := hj
  obtain rfl : j = 0 := by omega
  exact ⟨show (0 : Int) < one.length by omega, fun q hq => by omega⟩
theorem many_say {n : Nat} {one : List Pl} (h0 : 0 < n) (h : n ≤ 4000) (h2 : one.length ≤ 4000) (h3 : ∃ r, one = pl0 :: r) : sayP one (List.replicate n pl0) oneT = [(10001, 0, [])] := by
  obtain ⟨r, hr⟩ := h3
  have herr := many_err (one := one) h (by rw [hr]; simp) h2
  have ho : oldL one (movedL oneT) = [pl0] := by rw [hr]; rfl
  unfold sayP
  rw [if_pos herr, ho]
  have hnl : (List.replicate n pl0).length = n := List.length_replicate
  obtain ⟨m, rfl⟩ : ∃ m, n = m + 1 := ⟨n - 1, by omega⟩
  have hch : chF [pl0] (List.replicate (m + 1) pl0) 0 = some 0 := by
    rw [chF_at (by simp), edges_rowG (by simp)]
    rw [List.replicate_succ]
    simp only [List.getElem_cons_zero]
    rw [fits, if_pos (by rfl), firstS]
    rfl
  have hI := startK_inv (olds := [pl0]) (next := List.replicate (m + 1) pl0) (by simp) (by rw [hnl]; exact h) 1 (by simp)
  have hst := pre_stays hI (i := 0) (by simp [edgesL]) hch (Int.le_refl 0) (fun j hj _ => by simp [edgesL] at hj; omega)
  have hk : pairK [pl0] (List.replicate (m + 1) pl0) 1 = startK [pl0] (List.replicate (m + 1) pl0) 1 :=
    pairK_no (olds := [pl0]) (next := List.replicate (m + 1) pl0) (k := 0) (by
      show ¬ atI (startK [pl0] (List.replicate (m + 1) pl0) 1).2 0 < 0
      rw [hst]; omega)
  have hpl : plL [pl0] (List.replicate (m + 1) pl0) = [0] := by
    have e : plL [pl0] (List.replicate (m + 1) pl0) = (pairK [pl0] (List.replicate (m + 1) pl0) 1).2 := rfl
    rw [e, hk]
    have hl : (startK [pl0] (List.replicate (m + 1) pl0) 1).2.length = 1 := by have := hI.wf.lg; simpa [edgesL] using this
    match hq : (startK [pl0] (List.replicate (m + 1) pl0) 1).2, hl with
    | [x], _ => rw [hq] at hst; exact congrArg (fun y => [y]) hst
  rw [hpl]; rfl
end Go.Proofs.Ytenaoaegichecaa
