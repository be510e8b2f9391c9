/- Plain definitions and laws of layer 41: titles that are prepared, moves. No condition. -/
import Derived.Test.YtnnendajegdnhaaPlainT
namespace Go.Proofs.Ytnnendajegdnhaa
set_option linter.unusedVariables false
set_option linter.unusedSimpArgs false
open Go.Gw
theorem Ow.all {o : Ow} (h : o.ok) : o.enc.all (·.oneCell') = true := by
  obtain ⟨h1, h2, h3, h4, h5, h6⟩ := h
  simp only [Ow.enc, List.all_cons, List.all_nil, h1, h2, h3, h4, h5, h6, Bool.and_true, Bool.true_and]
  rfl
theorem plOK_snoc {n : Nat} {l : List Ow} {o : Ow} : PlOK n (l ++ [o]) ↔ PlOK n l ∧ o.place < n ∧ ∀ q ∈ l, q.place ≠ o.place := by
  constructor
  · intro h
    refine ⟨fun j hj => ?_, ?_, fun q hq => ?_⟩
    · have := h j (by simp; omega)
      rw [List.getElem_append_left hj] at this
      refine ⟨this.1, fun q hq => ?_⟩
      have h2 := this.2 q hq
      rwa [List.getElem_append_left (by omega)] at h2
    · have := (h l.length (by simp)).1
      simpa using this
    · obtain ⟨i, hi, rfl⟩ := List.getElem_of_mem hq
      have := (h l.length (by simp)).2 i hi
      rw [List.getElem_append_left hi] at this
      simpa using this
  · rintro ⟨h1, h2, h3⟩ j hj
    by_cases e : j < l.length
    · rw [List.getElem_append_left e]
      refine ⟨(h1 j e).1, fun q hq => ?_⟩
      rw [List.getElem_append_left (by omega)]
      exact (h1 j e).2 q hq
    · obtain rfl : j = l.length := by simp at hj; omega
      simp only [List.getElem_append_right (Nat.le_refl _), Nat.sub_self, List.getElem_cons_zero]
      refine ⟨h2, fun q hq => ?_⟩
      rw [List.getElem_append_left hq]
      exact h3 _ (List.getElem_mem hq)
structure PrepI (old : List Pl) (ts : List Ow) (k : Nat) (e : Int) (s : List Int) (xs : List Pl) : Prop where
  e01 : e = 0 ∨ e = 1
  ok : e = 0 → PlOK old.length (movedL (ts.take k)) ∧ xs = oldL old (movedL (ts.take k)) ∧ ∀ p : Int, p ∈ s ↔ ∃ o ∈ movedL (ts.take k), o.place = p
  bad : e = 1 → ¬ PlOK old.length (movedL (ts.take k))
  len : xs.length ≤ k
theorem prep_start (old : List Pl) (ts : List Ow) : PrepI old ts 0 0 [] [] :=
  ⟨.inl rfl, fun _ => ⟨fun j hj => by simp [movedL] at hj, by simp [movedL, oldL], fun p => by simp [movedL]⟩, fun h => (by cases h), Nat.le_refl _⟩
theorem prep_skip {old : List Pl} {ts : List Ow} {k : Nat} {e : Int} {s : List Int} {xs : List Pl} (h : PrepI old ts k e s xs) (hk : k < ts.length) (hm : movedB ts[k] ≠ true) : PrepI old ts (k + 1) e s xs := by
  have e1 := moved_step hk
  rw [if_neg hm, List.append_nil] at e1
  exact ⟨h.e01, fun he => by rw [e1]; exact h.ok he, fun he => by rw [e1]; exact h.bad he, Nat.le_succ_of_le h.len⟩
theorem prep_bad {old : List Pl} {ts : List Ow} {k : Nat} {e : Int} {s : List Int} {xs : List Pl} (h : PrepI old ts k e s xs) (hk : k < ts.length) (hm : movedB ts[k] = true) (hb : ts[k].place ≥ old.length ∨ ts[k].place ∈ s) : PrepI old ts (k + 1) 1 s xs := by
  have e1 := moved_step hk
  rw [if_pos hm] at e1
  refine ⟨.inr rfl, fun he => (by cases he), fun _ => ?_, Nat.le_succ_of_le h.len⟩
  rw [e1, plOK_snoc]
  rintro ⟨h1, h2, h3⟩
  rcases h.e01 with he | he
  · rcases hb with hb | hb
    · omega
    · obtain ⟨o, ho, hp⟩ := ((h.ok he).2.2 _).1 hb
      exact h3 o ho hp
  · exact h.bad he h1
theorem prep_good {old : List Pl} {ts : List Ow} {k : Nat} {e : Int} {s : List Int} {xs : List Pl} (h : PrepI old ts k e s xs) (hk : k < ts.length) (hm : movedB ts[k] = true) {p : Nat} (hp : ts[k].place = p) (hpl : p < old.length) (hn : (p : Int) ∉ s) : PrepI old ts (k + 1) e ((p : Int) :: s) (xs ++ [old[p]]) := by
  have e1 := moved_step hk
  rw [if_pos hm] at e1
  refine ⟨h.e01, fun he => ?_, fun he => ?_, by simp; exact h.len⟩
  · obtain ⟨h1, h2, h3⟩ := h.ok he
    rw [e1]
    refine ⟨plOK_snoc.2 ⟨h1, by omega, fun q hq e2 => hn ((h3 _).2 ⟨q, hq, by rw [e2, hp]⟩)⟩, ?_, fun x => ?_⟩
    · rw [h2]
      simp [oldL, hp, List.getD_eq_getElem?_getD, List.getElem?_eq_getElem hpl]
    · simp only [List.mem_cons, List.mem_append, List.not_mem_nil, or_false, h3]
      constructor
      · rintro (rfl | ⟨o, ho, e2⟩)
        · exact ⟨_, .inr rfl, hp⟩
        · exact ⟨o, .inl ho, e2⟩
      · rintro ⟨o, ho | rfl, e2⟩
        · exact .inr ⟨o, ho, e2⟩
        · left; rw [← e2, hp]
  · rw [e1, plOK_snoc]
    exact fun h1 => h.bad he h1.1
theorem moved_le (ts : List Ow) (k : Nat) : (movedL (ts.take k)).length ≤ k := by
  unfold movedL
  have := List.length_filter_le movedB (ts.take k)
  rw [List.length_take] at this; omega
theorem errW_3 {n1 n2 : Nat} {l : List Ow} (h : n1 > 4000 ∨ n2 > 4000 ∨ l.length > 4000) : errW n1 n2 l = 3 := by unfold errW; rw [if_pos h]
theorem errW_0 {n1 n2 : Nat} {l : List Ow} (h : ¬ (n1 > 4000 ∨ n2 > 4000 ∨ l.length > 4000)) (hp : PlOK n1 l) : errW n1 n2 l = 0 := by unfold errW; rw [if_neg h, plOK_yes hp]; rfl
theorem errW_1 {n1 n2 : Nat} {l : List Ow} (h : ¬ (n1 > 4000 ∨ n2 > 4000 ∨ l.length > 4000)) (hp : ¬ PlOK n1 l) : errW n1 n2 l = 1 := by unfold errW; rw [if_neg h, plOK_no hp]; rfl
theorem errW_ok {n1 n2 : Nat} {l : List Ow} (h : errW n1 n2 l = 0) : n1 ≤ 4000 ∧ n2 ≤ 4000 ∧ l.length ≤ 4000 ∧ PlOK n1 l := by
  unfold errW at h
  split at h
  · cases h
  · split at h
    · rename_i h1 h2; exact ⟨by omega, by omega, by omega, plOK_iff.1 h2⟩
    · cases h
structure Mv where
  serial : Int
  to_ : Int
  row : Go.Value × List Int
def Mv.enc (m : Mv) : List Go.Value := [.int .i64 m.serial, .int .i64 m.to_, m.row.1]
def rowsOf (ms : List Mv) : List (Go.Value × List Int) := ms.map Mv.row
/-- what a move says -/
def Mv.say (m : Mv) : Int × Int × List Int := (m.serial, m.to_, m.row.2)
/-- the moves of titles -/
def movesK (ts : List Ow) (olds next : List Pl) (place : List Int) (k : Nat) : List (Int × Int × List Int) :=
  (List.range k).map (fun i => ((ts.getD i ⟨0, 0, 0, .int .i64 0, .int .i64 0, .int .i64 0, .int .i64 0, 0, .int .i64 0, 0, .int .i64 0⟩).serial, atI place i, if atI place i < 0 then offL (olds.getD i pl0).kind next place else []))
theorem movesK_succ {ts : List Ow} {olds next : List Pl} {place : List Int} {k : Nat} (h : k < ts.length) (h2 : k < olds.length) : movesK ts olds next place (k + 1) = movesK ts olds next place k ++ [(ts[k].serial, atI place k, if atI place k < 0 then offL olds[k].kind next place else [])] := by
  unfold movesK
  rw [List.range_succ, List.map_append]
  simp [List.getD_eq_getElem?_getD, List.getElem?_eq_getElem h, List.getElem?_eq_getElem h2]
theorem movesK_len (ts : List Ow) (olds next : List Pl) (place : List Int) (k : Nat) : (movesK ts olds next place k).length = k := by simp [movesK]
def movesL (ts : List Ow) (olds next : List Pl) (place : List Int) : List (Int × Int × List Int) := movesK ts olds next place ts.length
theorem oldL_at {old : List Pl} {l : List Ow} {k x : Nat} (hk : k < l.length) (hx : l[k].place = x) (hn : x < old.length) (h : k < (oldL old l).length) : (oldL old l)[k] = old[x] := by
  simp [oldL, hx, List.getD_eq_getElem?_getD, List.getElem?_eq_getElem hn]
theorem chF_at {olds next : List Pl} {i : Nat} (h : i < olds.length) : chF olds next i = firstS next olds[i] (rowG (edgesL olds next) i) := by
  unfold chF; rw [List.getD_eq_getElem?_getD, List.getElem?_eq_getElem h]; rfl
abbrev Say := Int × Int × List Int
def tosS (sy : List Say) : List Int := sy.map (·.2.1)
structure ChkP (l : List Ow) (olds next : List Pl) (sy : List Say) (left right : List Int) : Prop where
  len : sy.length = l.length
  ser : ∀ i (h : i < sy.length) (h2 : i < l.length), sy[i].1 = l[i].serial
  off : ∀ i (h : i < sy.length) (h2 : i < olds.length), sy[i].2.2 = if sy[i].2.1 < 0 then offL olds[i].kind next (tosS sy) else []
  cov : checkL (edgesL olds next) next.length (tosS sy) left right = true
noncomputable def chkB (l : List Ow) (olds next : List Pl) (sy : List Say) (left right : List Int) : Bool := @decide (ChkP l olds next sy left right) (Classical.propDecidable _)
theorem chk_yes {l : List Ow} {olds next : List Pl} {sy : List Say} {left right : List Int} (h : ChkP l olds next sy left right) : chkB l olds next sy left right = true := @decide_eq_true _ (Classical.propDecidable _) h
theorem chk_iff {l : List Ow} {olds next : List Pl} {sy : List Say} {left right : List Int} : chkB l olds next sy left right = true ↔ ChkP l olds next sy left right := ⟨fun h => @of_decide_eq_true _ (Classical.propDecidable _) h, chk_yes⟩
theorem say_get {ms : List Mv} {k : Nat} (h : k < ms.length) (h2 : k < (ms.map Mv.say).length) : (ms.map Mv.say)[k] = (ms[k].serial, ms[k].to_, ms[k].row.2) := by simp [Mv.say]
theorem tos_eq (ms : List Mv) : tosS (ms.map Mv.say) = ms.map Mv.to_ := by simp [tosS, Mv.say]
theorem tos_at {ms : List Mv} {k : Nat} (h : k < ms.length) : atI (tosS (ms.map Mv.say)) k = ms[k].to_ := by rw [tos_eq, atI_eq (by simpa using h)]; simp
theorem tos_len (ms : List Mv) : (tosS (ms.map Mv.say)).length = ms.length := by simp [tosS]
theorem rows_mem {ms : List Mv} {k : Nat} (h : k < ms.length) : ms[k].row ∈ rowsOf ms := List.mem_map.2 ⟨_, List.getElem_mem h, rfl⟩
end Go.Proofs.Ytnnendajegdnhaa
