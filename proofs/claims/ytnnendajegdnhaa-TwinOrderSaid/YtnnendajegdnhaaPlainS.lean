/- Plain definitions of layer 41: titles, places' numbers, offers. No condition. -/
import Derived.Test.YtnnendajegdnhaaPlainR
namespace Go.Proofs.Ytnnendajegdnhaa
set_option linter.unusedVariables false
set_option linter.unusedSimpArgs false
open Go.Gw
/-- the numbers of a place -/
def spotL (p : Pl) : List Go.Value := [.int .i64 p.level, .int .i64 p.block, .int .i64 p.row, .int .i64 p.seat]
def sameN (p q : Pl) : Bool := decide (p.level = q.level) && decide (p.block = q.block) && decide (p.row = q.row) && decide (p.seat = q.seat)
/-- a title that somebody owns: what is looked at, and what is carried along -/
structure Ow where
  serial : Int
  show_ : Int
  place : Int
  first : Go.Value
  chain : Go.Value
  person : Go.Value
  lines : Go.Value
  total : Int
  means : Go.Value
  gone : Int
  offers : Go.Value
def Ow.enc (o : Ow) : List Go.Value := [.int .i64 o.serial, .int .i64 o.show_, .int .i64 o.place, o.first, o.chain, o.person, o.lines, .int .i64 o.total, o.means, .int .i64 o.gone, o.offers]
def Ow.ok (o : Ow) : Prop := o.first.oneCell' = true ∧ o.chain.oneCell' = true ∧ o.person.oneCell' = true ∧ o.lines.oneCell' = true ∧ o.means.oneCell' = true ∧ o.offers.oneCell' = true
def movedB (o : Ow) : Bool := decide (o.gone = 0) && decide (0 ≤ o.place)
def movedL (ts : List Ow) : List Ow := ts.filter movedB
theorem moved_step {ts : List Ow} {k : Nat} (h : k < ts.length) : movedL (ts.take (k + 1)) = movedL (ts.take k) ++ (if movedB ts[k] = true then [ts[k]] else []) := by
  unfold movedL
  rw [List.take_succ_eq_append_getElem h, List.filter_append, List.filter_cons, List.filter_nil]
/-- the first of some places that has given numbers -/
def firstS (next : List Pl) (o : Pl) : List Int → Option Int
  | [] => none
  | k :: r => if sameN o (next.getD k.toNat o) then some k else firstS next o r
theorem firstS_mem {next : List Pl} {o : Pl} {m : Int} : ∀ {l : List Int}, firstS next o l = some m → m ∈ l
  | k :: r, h => by
    unfold firstS at h
    split at h
    · cases h; exact List.mem_cons_self ..
    · exact List.mem_cons_of_mem _ (firstS_mem h)
/-- the places of titles are different places of a plan of n -/
def PlOK (n : Nat) (l : List Ow) : Prop := ∀ j (hj : j < l.length), l[j].place < n ∧ ∀ q (hq : q < j), (l[q]'(by omega)).place ≠ l[j].place
noncomputable def plOKb (n : Nat) (l : List Ow) : Bool := @decide (PlOK n l) (Classical.propDecidable _)
theorem plOK_yes {n : Nat} {l : List Ow} (h : PlOK n l) : plOKb n l = true := @decide_eq_true _ (Classical.propDecidable _) h
theorem plOK_no {n : Nat} {l : List Ow} (h : ¬ PlOK n l) : plOKb n l = false := @decide_eq_false _ (Classical.propDecidable _) h
theorem plOK_iff {n : Nat} {l : List Ow} : plOKb n l = true ↔ PlOK n l := ⟨fun h => @of_decide_eq_true _ (Classical.propDecidable _) h, plOK_yes⟩
/-- the error of plans and titles that are moved -/
noncomputable def errW (n1 n2 : Nat) (l : List Ow) : Int := if n1 > 4000 ∨ n2 > 4000 ∨ l.length > 4000 then 3 else if plOKb n1 l = true then 0 else 1
theorem moved_place {ts : List Ow} {o : Ow} (h : o ∈ movedL ts) : 0 ≤ o.place ∧ o.gone = 0 := by
  have := (List.mem_filter.1 h).2
  unfold movedB at this
  simp only [Bool.and_eq_true, decide_eq_true_eq] at this
  exact ⟨this.2, this.1⟩
/-- the places that the titles have in the old plan -/
def oldL (old : List Pl) (l : List Ow) : List Pl := l.map (fun o => old.getD o.place.toNat ⟨0, 0, 0, 0, 0, 0, 0, 0, 0⟩)
theorem old_len (old : List Pl) (l : List Ow) : (oldL old l).length = l.length := by simp [oldL]
end Go.Proofs.Ytnnendajegdnhaa
