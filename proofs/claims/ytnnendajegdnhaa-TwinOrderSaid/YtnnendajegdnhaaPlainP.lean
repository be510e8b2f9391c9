/- Plain definitions and laws for layer 39: places, what is compared of them, edges. No program in sight. No condition. -/
import Derived.Test.YtnnendajegdnhaaPlainB
namespace Go.Proofs.Ytnnendajegdnhaa
open Go Go.Gw
set_option linter.unusedVariables false
set_option linter.unusedSimpArgs false
structure Pl where
  kind : Int
  level : Int
  block : Int
  row : Int
  seat : Int
  x : Int
  y : Int
  view : Int
  with_ : Int
def Pl.enc (p : Pl) : List Value := [.int .i64 p.kind, .int .i64 p.level, .int .i64 p.block, .int .i64 p.row, .int .i64 p.seat, .int .i64 p.x, .int .i64 p.y, .int .i64 p.view, .int .i64 p.with_]
def worthI (p : Pl) : List Int := [p.view, p.level, if p.with_ < 0 then 1 else 0]
def worthL (p : Pl) : List Value := [.int .i64 p.view, .int .i64 p.level, .int .i64 (if p.with_ < 0 then 1 else 0)]
def refAtLeast (p q : Pl) : Bool := p.kind == q.kind && decide (p.view ≤ q.view) && decide (p.level ≤ q.level) && (decide (q.with_ < 0) || decide (p.with_ ≥ 0))
theorem getI (p : Pl) (k : Nat) (h : k < 3) : (worthL p)[0 + Int.toNat (k : Int) * 1]? = some (.int .i64 ((worthI p).getD k 0)) := by
  have : k = 0 ∨ k = 1 ∨ k = 2 := by omega
  rcases this with rfl | rfl | rfl <;> rfl
theorem atLeast_no (p q : Pl) (k : Nat) (hk : k < 3) (h : (worthI q).getD k 0 < (worthI p).getD k 0) : false = refAtLeast p q := by
  have : k = 0 ∨ k = 1 ∨ k = 2 := by omega
  rcases this with rfl | rfl | rfl <;> simp [worthI] at h <;> simp only [refAtLeast, Bool.false_eq, Bool.and_eq_false_iff, Bool.or_eq_false_iff, decide_eq_false_iff_not] <;> grind
theorem atLeast_yes (p q : Pl) (h : ∀ j, j < 3 → (worthI p).getD j 0 ≤ (worthI q).getD j 0) : (p.kind == q.kind) = refAtLeast p q := by
  have h0 := h 0 (by omega)
  have h1 := h 1 (by omega)
  have h2 := h 2 (by omega)
  simp [worthI] at h0 h1 h2
  simp only [refAtLeast]
  grind
/-- the places of a list that are at least as good as p, numbered from k on -/
def fits (p : Pl) : List Pl → Nat → List Int
  | [], _ => []
  | q :: r, k => if refAtLeast q p = true then (k : Int) :: fits p r (k + 1) else fits p r (k + 1)
theorem fits_append (p : Pl) : ∀ (a b : List Pl) (k : Nat), fits p (a ++ b) k = fits p a k ++ fits p b (k + a.length)
  | [], b, k => by simp [fits]
  | q :: r, b, k => by
    have ih := fits_append p r b (k + 1)
    have e : k + 1 + r.length = k + (r.length + 1) := by omega
    simp only [List.cons_append, fits, ih, List.length_cons, e]
    split <;> simp
theorem fits_step (p : Pl) (next : List Pl) (k : Nat) (h : k < next.length) : fits p (next.take (k + 1)) 0 = fits p (next.take k) 0 ++ if refAtLeast next[k] p = true then [(k : Int)] else [] := by
  rw [List.take_succ_eq_append_getElem h, fits_append]
  have e : 0 + (next.take k).length = k := by simp; omega
  rw [e]
  simp only [fits]
theorem fits_len (p : Pl) : ∀ (l : List Pl) (k : Nat), (fits p l k).length ≤ l.length
  | [], _ => by simp [fits]
  | q :: r, k => by
    have := fits_len p r (k + 1)
    simp only [fits, List.length_cons]
    split <;> simp <;> omega
def edgesL (old next : List Pl) : List (List Int) := old.map fun p => fits p next 0
/-- the rows after i rows are done and the next one is at a -/
def rowsAt (old next : List Pl) (i : Nat) (a : List Int) : List (List Int) := edgesL (old.take i) next ++ a :: List.replicate (old.length - (i + 1)) []
theorem rowsAt_len (old next : List Pl) (i : Nat) (a : List Int) (h : i < old.length) : (rowsAt old next i a).length = old.length := by
  simp [rowsAt, edgesL]; omega
theorem rowsAt_get (old next : List Pl) (i : Nat) (a : List Int) (h : i < old.length) : (rowsAt old next i a)[i]'(by rw [rowsAt_len _ _ _ _ h]; exact h) = a := by
  have : (edgesL (old.take i) next).length = i := by simp [edgesL]; omega
  unfold rowsAt
  rw [List.getElem_append_right (by omega)]
  simp [this]
theorem rowsAt_set (old next : List Pl) (i : Nat) (a b : List Int) (h : i < old.length) : (rowsAt old next i a).set i b = rowsAt old next i b := by
  have : (edgesL (old.take i) next).length = i := by simp [edgesL]; omega
  unfold rowsAt
  rw [List.set_append_right _ _ (by omega)]
  simp [this]
theorem rowsAt_start (old next : List Pl) (h : old ≠ []) : List.replicate old.length [] = rowsAt old next 0 [] := by
  cases old with
  | nil => exact absurd rfl h
  | cons p r => simp [rowsAt, edgesL, List.replicate_succ]
theorem rowsAt_next (old next : List Pl) (i : Nat) (h : i + 1 < old.length) : rowsAt old next i (fits old[i] next 0) = rowsAt old next (i + 1) [] := by
  have e : old.length - (i + 1) = (old.length - (i + 1 + 1)) + 1 := by omega
  unfold rowsAt
  rw [e, List.replicate_succ, List.take_succ_eq_append_getElem (by omega)]
  simp only [edgesL, List.map_append, List.map_cons, List.map_nil, List.append_assoc, List.cons_append, List.nil_append]
theorem rowsAt_end (old next : List Pl) (i : Nat) (h : i + 1 = old.length) : rowsAt old next i (fits (old[i]'(by omega)) next 0) = edgesL old next := by
  unfold rowsAt
  rw [h, Nat.sub_self, List.replicate_zero]
  have : old = old.take i ++ [old[i]'(by omega)] := by
    rw [← List.take_succ_eq_append_getElem (by omega), List.take_of_length_le (by omega)]
  conv => rhs; rw [this]
  simp only [edgesL, List.map_append, List.map_cons, List.map_nil]
theorem edges_len (old next : List Pl) : (edgesL old next).length = old.length := by simp [edgesL]
end Go.Proofs.Ytnnendajegdnhaa
