/- Plain definitions of layer 41: titles, places' numbers, offers. No condition. -/
import Derived.Test.YtnnendajegdnhaaPlainR
namespace Go.Proofs.Ytnnendajegdnhaa
set_option linter.unusedVariables false
set_option linter.unusedSimpArgs false
open Go.Gw
/-- the numbers of a place -/
def spotL (p : Pl) : List Go.Value := [.int .i64 p.level, .int .i64 p.block, .int .i64 p.row, .int .i64 p.seat]
def sameN (p q : Pl) : Bool := decide (p.level = q.level) && decide (p.block = q.block) && decide (p.row = q.row) && decide (p.seat = q.seat)
/-- a title that somebody owns: what is looked at, and what is carried along -/
structure Ow where
  serial : Int
  show_ : Int
  place : Int
  first : Go.Value
  chain : Go.Value
  person : Go.Value
  lines : Go.Value
  total : Int
  means : Go.Value
  gone : Int
  offers : Go.Value
def Ow.enc (o : Ow) : List Go.Value := [.int .i64 o.serial, .int .i64 o.show_, .int .i64 o.place, o.first, o.chain, o.person, o.lines, .int .i64 o.total, o.means, .int .i64 o.gone, o.offers]
def Ow.ok (o : Ow) : Prop := o.first.oneCell' = true ∧ o.chain.oneCell' = true ∧ o.person.oneCell' = true ∧ o.lines.oneCell' = true ∧ o.means.oneCell' = true ∧ o.offers.oneCell' = true
def movedB (o : Ow) : Bool := decide (o.gone = 0) && decide (0 ≤ o.place)
def movedL (ts : List Ow) : List Ow := ts.filter movedB
theorem moved_step {ts : List Ow} {k : Nat} (h : k < ts.length) : movedL (ts.take (k + 1)) = movedL (ts.take k) ++ (if movedB ts[k] = true then [ts[k]] else []) := by
  unfold movedL
  rw [List.take_succ_eq_append_getElem h, List.filter_append, List.filter_cons, List.filter_nil]
/-- the first of some places that has given numbers -/
def firstS (next : List Pl) (o : Pl) : List Int → Option Int
  | [] => none
  | k :: r => if sameN o (next.getD k.toNat o) then some k else firstS next o r
theorem firstS_mem {next : List Pl} {o : Pl} {m : Int} : ∀ {l : List Int}, firstS next o l = some m → m ∈ l
  | k :: r, h => by
    unfold firstS at h
    split at h
    · cases h; exact List.mem_cons_self ..
    · exact List.mem_cons_of_mem _ (firstS_mem h)
/-- the places of titles are different places of a plan of n -/
def PlOK (n : Nat) (l : List Ow) : Prop := ∀ j (hj : j < l.length), l[j].place < n ∧ ∀ q (hq : q < j), (l[q]'(by omega)).place ≠ l[j].place
noncomputable def plOKb (n : Nat) (l : List Ow) : Bool := @decide (PlOK n l) (Classical.propDecidable _)
theorem plOK_yes {n : Nat} {l : List Ow} (h : PlOK n l) : plOKb n l = true := @decide_eq_true _ (Classical.propDecidable _) h
theorem plOK_no {n : Nat} {l : List Ow} (h : ¬ PlOK n l) : plOKb n l = false := @decide_eq_false _ (Classical.propDecidable _) h
theorem plOK_iff {n : Nat} {l : List Ow} : plOKb n l = true ↔ PlOK n l := ⟨fun h => @of_decide_eq_true _ (Classical.propDecidable _) h, plOK_yes⟩
/-- the error of plans and titles that are moved -/
noncomputable def errW (n1 n2 : Nat) (l : List Ow) : Int := if n1 > 4000 ∨ n2 > 4000 ∨ l.length > 4000 then 3 else if plOKb n1 l = true then 0 else 1
theorem moved_place {ts : List Ow} {o : Ow} (h : o ∈ movedL ts) : 0 ≤ o.place ∧ o.gone = 0 := by
  have := (List.mem_filter.1 h).2
  unfold movedB at this
  simp only [Bool.and_eq_true, decide_eq_true_eq] at this
  exact ⟨this.2, this.1⟩
def atB (l : List Bool) (i : Nat) : Bool := l.getD i false
theorem atB_set {l : List Bool} {i : Nat} (v : Bool) (h : i < l.length) (j : Nat) : atB (l.set i v) j = if j = i then v else atB l j := by
  unfold atB
  rw [List.getD_eq_getElem?_getD, List.getD_eq_getElem?_getD, List.getElem?_set]
  by_cases e : j = i
  · subst e; rw [if_pos rfl, if_pos rfl, if_pos h]; rfl
  · rw [if_neg (fun h => e h.symm), if_neg e]
theorem rep_at (n j : Nat) : atB (List.replicate n false) j = false := by
  unfold atB; rw [List.getD_eq_getElem?_getD, List.getElem?_replicate]; split <;> rfl
/-- which places the first k titles have -/
structure SeenP (n : Nat) (l : List Ow) (k : Nat) (s : List Bool) : Prop where
  len : s.length = n
  mem : ∀ x : Nat, atB s x = true ↔ ∃ q, ∃ hq : q < l.length, q < k ∧ l[q].place = x
theorem seen_start (n : Nat) (l : List Ow) : SeenP n l 0 (List.replicate n false) := ⟨by simp, fun x => by rw [rep_at]; simp⟩
theorem seen_step {n : Nat} {l : List Ow} {k : Nat} {s : List Bool} (h : SeenP n l k s) (hk : k < l.length) {x : Nat} (hx : l[k].place = x) (hn : x < n) : SeenP n l (k + 1) (s.set x true) := by
  refine ⟨by rw [List.length_set]; exact h.len, fun y => ?_⟩
  rw [atB_set _ (by rw [h.len]; exact hn)]
  constructor
  · intro e
    by_cases hy : y = x
    · subst hy; exact ⟨k, hk, by omega, hx⟩
    · rw [if_neg hy] at e
      obtain ⟨q, hq, hqk, he⟩ := (h.mem y).1 e
      exact ⟨q, hq, by omega, he⟩
  · rintro ⟨q, hq, hqk, he⟩
    by_cases hy : y = x
    · rw [if_pos hy]
    · rw [if_neg hy]
      refine (h.mem y).2 ⟨q, hq, ?_, he⟩
      by_cases hqe : q = k
      · subst hqe; omega
      · omega
/-- the places that the titles have in the old plan -/
def oldL (old : List Pl) (l : List Ow) : List Pl := l.map (fun o => old.getD o.place.toNat ⟨0, 0, 0, 0, 0, 0, 0, 0, 0⟩)
theorem old_step {old : List Pl} {l : List Ow} {k : Nat} (h : k < l.length) {x : Nat} (hx : l[k].place = x) (hn : x < old.length) : oldL old (l.take (k + 1)) = oldL old (l.take k) ++ [old[x]] := by
  unfold oldL
  rw [List.take_succ_eq_append_getElem h, List.map_append]
  simp [hx, List.getD_eq_getElem?_getD, List.getElem?_eq_getElem hn]
theorem old_len (old : List Pl) (l : List Ow) : (oldL old l).length = l.length := by simp [oldL]
end Go.Proofs.Ytnnendajegdnhaa
