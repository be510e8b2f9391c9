/- Plain definitions and laws for layer 39: places, what is compared of them, edges. No program in sight. No condition. -/
import Derived.Test.YtenaoaegichecaaPlainB
namespace Go.Proofs.Ytenaoaegichecaa
open Go Go.Gw
set_option linter.unusedVariables false
set_option linter.unusedSimpArgs false

structure Pl where
  kind : Int
  level : Int
  block : Int
  row : Int
  seat : Int
  x : Int
  y : Int
  view : Int
  with_ : Int
def Pl.enc (p : Pl) : List Value := [.int .i64 p.kind, .int .i64 p.level, .int .i64 p.block, .int .i64 p.row, .int .i64 p.seat, .int .i64 p.x, .int .i64 p.y, .int .i64 p.view, .int .i64 p.with_]
def worthI (p : Pl) : List Int := [p.view, p.level, if p.with_ < 0 then 1 else 0]
def worthL (p : Pl) : List Value := [.int .i64 p.view, .int .i64 p.level, .int .i64 (if p.with_ < 0 then 1 else 0)]
def refAtLeast (p q : Pl) : Bool := p.kind == q.kind && decide (p.view ≤ q.view) && decide (p.level ≤ q.level) && (decide (q.with_ < 0) || decide (p.with_ ≥ 0))
theorem getI (p : Pl) (k : Nat) (h : k < 3) : (worthL p)[0 + Int.toNat (k : Int) * 1]? = some (.int .i64 ((worthI p).getD k 0)) := by
  have : k = 0 ∨ k = 1 ∨ k = 2 := by omega
  rcases this with rfl | rfl | rfl <;> rfl
theorem atLeast_no (p q : Pl) (k : Nat) (hk : k < 3) (h : (worthI q).getD k 0 < (worthI p).getD k 0) : false = refAtLeast p q := by
  have : k = 0 ∨ k = 1 ∨ k = 2 := by omega
  rcases this with rfl | rfl | rfl <;> simp [worthI] at h <;> simp only [refAtLeast, Bool.false_eq, Bool.and_eq_false_iff, Bool.or_eq_false_iff, decide_eq_false_iff_not] <;> grind
theorem atLeast_yes (p q : Pl) (h : ∀ j, j < 3 → (worthI p).getD j 0 ≤ (worthI q).getD j 0) : (p.kind == q.kind) = refAtLeast p q := by
  have h0 := h 0 (by omega)
  have h1 := h 1 (by omega)
  have h2 := h 2 (by omega)
  simp [worthI] at h0 h1 h2
  simp only [refAtLeast]
  grind
/-- the places of a list that are at least as good as p, numbered from k on -/
def fits (p : Pl) : List Pl → Nat → List Int
  | [], _ => []
  | q :: r, k => if refAtLeast q p = true then (k : Int) :: fits p r (k + 1) else fits p r (k + 1)
theorem fits_append (p : Pl) : ∀ (a b : List Pl) (k : Nat), fits p (a ++ b) k = fits p a k ++ fits p b (k + a.length)
  | [], b, k => by simp [fits]
  | q :: r, b, k => by
    have ih := fits_append p r b (k + 1)
    have e : k + 1 + r.length = k + (r.length + 1) := by omega
    simp only [List.cons_append, fits, ih, List.length_cons, e]
    split <;> simp
theorem fits_step (p : Pl) (next : List Pl) (k : Nat) (h : k < next.length) : fits p (next.take (k + 1)) 0 = fits p (next.take k) 0 ++ if refAtLeast next[k] p = true then [(k : Int)] else [] := by
  rw [List.take_succ_eq_append_getElem h, fits_append]
  have e : 0 + (next.take k).length = k := by simp; omega
  rw [e]
  simp only [fits]
theorem fits_len (p : Pl) : ∀ (l : List Pl) (k : Nat), (fits p l k).length ≤ l.length
  | [], _ => by simp [fits]
  | q :: r, k => by
    have := fits_len p r (k + 1)
    simp only [fits, List.length_cons]
    split <;> simp <;> omega
def edgesL (old next : List Pl) : List (List Int) := old.map fun p => fits p next 0
/-- the rows after i rows are done and the next one is at a -/
def rowsAt (old next : List Pl) (i : Nat) (a : List Int) : List (List Int) := edgesL (old.take i) next ++ a :: List.replicate (old.length - (i + 1)) []
theorem rowsAt_len (old next : List Pl) (i : Nat) (a : List Int) (h : i < old.length) : (rowsAt old next i a).length = old.length := by
  simp [rowsAt, edgesL]; omega
theorem rowsAt_get (old next : List Pl) (i : Nat) (a : List Int) (h : i < old.length) : (rowsAt old next i a)[i]'(by rw [rowsAt_len _ _ _ _ h]; exact h) = a := by
  have : (edgesL (old.take i) next).length = i := by simp [edgesL]; omega
  unfold rowsAt
  rw [List.getElem_append_right (by omega)]
  simp [this]
theorem rowsAt_set (old next : List Pl) (i : Nat) (a b : List Int) (h : i < old.length) : (rowsAt old next i a).set i b = rowsAt old next i b := by
  have : (edgesL (old.take i) next).length = i := by simp [edgesL]; omega
  unfold rowsAt
  rw [List.set_append_right _ _ (by omega)]
  simp [this]
theorem rowsAt_start (old next : List Pl) (h : old ≠ []) : List.replicate old.length [] = rowsAt old next 0 [] := by
  cases old with
  | nil => exact absurd rfl h
  | cons p r => simp [rowsAt, edgesL, List.replicate_succ]
theorem rowsAt_next (old next : List Pl) (i : Nat) (h : i + 1 < old.length) : rowsAt old next i (fits old[i] next 0) = rowsAt old next (i + 1) [] := by
  have e : old.length - (i + 1) = (old.length - (i + 1 + 1)) + 1 := by omega
  unfold rowsAt
  rw [e, List.replicate_succ, List.take_succ_eq_append_getElem (by omega)]
  simp only [edgesL, List.map_append, List.map_cons, List.map_nil, List.append_assoc, List.cons_append, List.nil_append]
theorem rowsAt_end (old next : List Pl) (i : Nat) (h : i + 1 = old.length) : rowsAt old next i (fits (old[i]'(by omega)) next 0) = edgesL old next := by
  unfold rowsAt
  rw [h, Nat.sub_self, List.replicate_zero]
  have : old = old.take i ++ [old[i]'(by omega)] := by
    rw [← List.take_succ_eq_append_getElem (by omega), List.take_of_length_le (by omega)]
  conv => rhs; rw [this]
  simp only [edgesL, List.map_append, List.map_cons, List.map_nil]
theorem fits_ge (p : Pl) : ∀ (l : List Pl) (k : Nat), ∀ x ∈ fits p l k, (k : Int) ≤ x
  | [], _, x, h => by simp [fits] at h
  | q :: r, k, x, h => by
    simp only [fits] at h
    split at h
    · rcases List.mem_cons.1 h with rfl | h
      · omega
      · have := fits_ge p r (k + 1) x h; omega
    · have := fits_ge p r (k + 1) x h; omega
theorem fits_lt (p : Pl) : ∀ (l : List Pl) (k : Nat), ∀ x ∈ fits p l k, x < (k : Int) + l.length
  | [], _, x, h => by simp [fits] at h
  | q :: r, k, x, h => by
    simp only [fits] at h
    simp only [List.length_cons]
    split at h
    · rcases List.mem_cons.1 h with rfl | h
      · omega
      · have := fits_lt p r (k + 1) x h; omega
    · have := fits_lt p r (k + 1) x h; omega
theorem fits_split (p : Pl) (next : List Pl) (k : Nat) (h : k < next.length) : fits p next 0 = fits p (next.take k) 0 ++ ((if refAtLeast next[k] p = true then [(k : Int)] else []) ++ fits p (next.drop (k + 1)) (k + 1)) := by
  have e : next = next.take (k + 1) ++ next.drop (k + 1) := (List.take_append_drop _ _).symm
  have e2 : 0 + (next.take (k + 1)).length = k + 1 := by simp; omega
  conv => lhs; rw [e, fits_append, e2, fits_step p next k h]
  rw [List.append_assoc]
theorem is_iff (p : Pl) (next : List Pl) (k : Nat) (h : k < next.length) :
    (decide (((fits p (next.take k) 0).length : Int) < ((fits p next 0).length : Int)) && ((fits p next 0).getD (fits p (next.take k) 0).length 0 == (k : Int))) = refAtLeast next[k] p := by
  rw [fits_split p next k h]
  generalize fits p (next.take k) 0 = A
  have hg := fits_ge p (next.drop (k + 1)) (k + 1)
  generalize fits p (next.drop (k + 1)) (k + 1) = B at hg
  by_cases hal : refAtLeast next[k] p = true
  · rw [if_pos hal, hal]
    simp only [List.length_append, List.length_cons, List.length_nil, Bool.and_eq_true, decide_eq_true_eq, beq_iff_eq, List.getD_eq_getElem?_getD, List.getElem?_append_right (Nat.le_refl _), Nat.sub_self, List.cons_append, List.nil_append, List.getElem?_cons_zero, Option.getD_some]
    constructor
    · omega
    · trivial
  · rw [if_neg hal, Bool.not_eq_true] at *
    rw [hal, List.nil_append, Bool.and_eq_false_iff]
    cases B with
    | nil => left; simp
    | cons x r =>
      right
      simp only [List.getD_eq_getElem?_getD, List.getElem?_append_right (Nat.le_refl _), Nat.sub_self, List.getElem?_cons_zero, Option.getD_some, beq_eq_false_iff_ne, ne_eq]
      have := hg x (by simp)
      omega
theorem map_row {ps : List (Value × List Int)} {L : List (List Int)} (h : ps.map (·.2) = L) (i : Nat) (hi : i < ps.length) : ps[i].2 = L[i]'(by rw [← h]; simpa using hi) := by
  subst h; simp
theorem edges_row (old next : List Pl) (i : Nat) (hi : i < old.length) : (edgesL old next)[i]'(by simpa [edgesL] using hi) = fits old[i] next 0 := by simp [edgesL]
theorem edges_len (old next : List Pl) : (edgesL old next).length = old.length := by simp [edgesL]
def wantL (old next more : List Pl) : List (List Int) := old.map fun p => fits p next 0 ++ (fits p more 0).map (· + (next.length : Int))
theorem want_at (old next more : List Pl) (i : Nat) (h : i < old.length) : (wantL old next more)[i]'(by simpa [wantL] using h) = fits old[i] next 0 ++ (fits old[i] more 0).map (· + (next.length : Int)) := by simp [wantL]
/-- the rows of L, i of them done, the next one at a -/
def rowsG (L : List (List Int)) (i : Nat) (a : List Int) : List (List Int) := L.take i ++ a :: List.replicate (L.length - (i + 1)) []
theorem rowsG_len (L : List (List Int)) (i : Nat) (a : List Int) (h : i < L.length) : (rowsG L i a).length = L.length := by simp [rowsG]; omega
theorem rowsG_get (L : List (List Int)) (i : Nat) (a : List Int) (h : i < L.length) : (rowsG L i a)[i]'(by rw [rowsG_len _ _ _ h]; exact h) = a := by
  have : (L.take i).length = i := by simp; omega
  unfold rowsG
  rw [List.getElem_append_right (by omega)]
  simp [this]
theorem rowsG_set (L : List (List Int)) (i : Nat) (a b : List Int) (h : i < L.length) : (rowsG L i a).set i b = rowsG L i b := by
  have : (L.take i).length = i := by simp; omega
  unfold rowsG
  rw [List.set_append_right _ _ (by omega)]
  simp [this]
theorem rowsG_start (L : List (List Int)) (h : L ≠ []) : List.replicate L.length [] = rowsG L 0 [] := by
  cases L with
  | nil => exact absurd rfl h
  | cons p r => simp [rowsG, List.replicate_succ]
theorem rowsG_next (L : List (List Int)) (i : Nat) (h : i + 1 < L.length) : rowsG L i (L[i]'(by omega)) = rowsG L (i + 1) [] := by
  have e : L.length - (i + 1) = (L.length - (i + 1 + 1)) + 1 := by omega
  unfold rowsG
  rw [e, List.replicate_succ, List.take_succ_eq_append_getElem (by omega), List.append_assoc]; rfl
theorem rowsG_end (L : List (List Int)) (i : Nat) (h : i + 1 = L.length) : rowsG L i (L[i]'(by omega)) = L := by
  unfold rowsG
  rw [h, Nat.sub_self, List.replicate_zero, ← List.take_succ_eq_append_getElem (by omega), List.take_of_length_le (by omega)]
theorem want_len (old next more : List Pl) : (wantL old next more).length = old.length := by simp [wantL]
def inR (p : Pl) : Prop := -1000 ≤ p.view ∧ p.view ≤ 1000 ∧ -1000 ≤ p.level ∧ p.level ≤ 1000
/-! laws -/
theorem order_bad (a b c : Pl) : ((!refAtLeast a a || (refAtLeast a b && refAtLeast b c && !refAtLeast a c)) || (refAtLeast a b && (a.kind != b.kind || (decide (b.with_ ≥ 0) && decide (a.with_ < 0))))) = false := by
  simp only [refAtLeast]
  rw [Bool.eq_false_iff]
  simp only [ne_eq, Bool.or_eq_true, Bool.and_eq_true, Bool.not_eq_true', bne_iff_ne, beq_iff_eq, decide_eq_true_eq, Bool.and_eq_false_iff, Bool.or_eq_false_iff, beq_eq_false_iff_ne, decide_eq_false_iff_not]
  grind
theorem order_good (a b : Pl) : ((!refAtLeast a b || !refAtLeast b a) || (a.view == b.view && a.level == b.level && (decide (a.with_ < 0) == decide (b.with_ < 0)))) = true := by
  simp only [refAtLeast, Bool.or_eq_true, Bool.and_eq_true, Bool.not_eq_true', bne_iff_ne, beq_iff_eq, decide_eq_decide, decide_eq_true_eq, Bool.and_eq_false_iff, Bool.or_eq_false_iff, beq_eq_false_iff_ne, decide_eq_false_iff_not]
  grind
def moveP (p : Pl) (x y : Int) : Pl := { p with view := p.view + x, level := p.level + y }
theorem improves (a b : Pl) (h : refAtLeast a b = true) (p q r s : Int) (hp : 0 ≤ p) (hq : 0 ≤ q) (hr : 0 ≤ r) (hs : 0 ≤ s) :
    refAtLeast { a with view := a.view - p, level := a.level - q } { b with view := b.view + r, level := b.level + s } = true ∧ refAtLeast { a with view := a.view - p, level := a.level - q } b = true ∧ refAtLeast a { b with view := b.view + r, level := b.level + s } = true := by
  simp only [refAtLeast, Bool.and_eq_true, Bool.or_eq_true, beq_iff_eq, decide_eq_true_eq] at *
  omega
def bareP (p : Pl) : Pl := ⟨p.kind, p.level, 0, 0, 0, 0, 0, p.view, p.with_⟩
theorem fits_bare (p : Pl) : ∀ (l : List Pl) (k : Nat), fits (bareP p) (l.map bareP) k = fits p l k
  | [], _ => rfl
  | q :: r, k => by
    have e : refAtLeast (bareP q) (bareP p) = refAtLeast q p := rfl
    simp only [List.map_cons, fits, e, fits_bare p r (k + 1)]
theorem edges_bare (old next : List Pl) : edgesL (old.map bareP) (next.map bareP) = edgesL old next := by
  simp only [edgesL, List.map_map]
  congr 1; funext p; exact fits_bare p next 0
theorem fits_shift (p : Pl) : ∀ (l : List Pl) (k j : Nat), fits p l (k + j) = (fits p l k).map (· + (j : Int))
  | [], _, _ => rfl
  | q :: r, k, j => by
    have e : k + j + 1 = k + 1 + j := by omega
    simp only [fits, e, fits_shift p r (k + 1) j]
    split <;> simp
theorem fits_both (p : Pl) (a b : List Pl) : fits p (a ++ b) 0 = fits p a 0 ++ (fits p b 0).map (· + (a.length : Int)) := by
  rw [fits_append, fits_shift]
theorem want_eq (old next more : List Pl) : wantL old next more = edgesL old (next ++ more) := by
  simp only [wantL, edgesL]
  congr 1; funext p; exact (fits_both p next more).symm
end Go.Proofs.Ytenaoaegichecaa
