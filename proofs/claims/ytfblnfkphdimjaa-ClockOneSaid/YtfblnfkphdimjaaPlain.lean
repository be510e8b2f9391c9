/- Plain definitions and laws for layer 25: readings of clocks and what they mean. No program in sight. No condition. -/
import Derived.WalkKit
namespace Go.Proofs.Ytfblnfkphdimjaa
set_option linter.unusedSimpArgs false
set_option linter.unusedVariables false
structure Rd where
  shows : Int
  synced : Int
  drift : Int
def Rd.enc (r : Rd) : List Value := [.int .i64 r.shows, .int .i64 r.synced, .int .i64 r.drift]
def btw (n lo hi : Int) : Bool := decide (lo ≤ n) && decide (n ≤ hi)
def valid (r : Rd) : Bool := btw r.shows 0 1000000000 && (btw r.synced 0 r.shows && btw r.drift 0 1000)
def unsure (r : Rd) : Int := ((r.shows - r.synced) * r.drift + 999999) / 1000000
def bnd (r : Rd) : Int × Int × Int := if valid r then (r.shows - unsure r, r.shows + unsure r, 0) else (0, 0, 1)
def trip (x : Int × Int × Int) : Value := .tuple #[.int .i64 x.1, .int .i64 x.2.1, .int .i64 x.2.2]
def pairB (x : Bool × Bool) : Value := .tuple #[.bool x.1, .bool x.2]
def over (r : Rd) (u : Int) : Bool × Bool := if (bnd r).2.2 ≠ 0 then (false, false) else (decide ((bnd r).1 > u), decide ((bnd r).2.1 > u))

theorem valid_iff (r : Rd) : valid r = true ↔ (0 ≤ r.shows ∧ r.shows ≤ 1000000000) ∧ (0 ≤ r.synced ∧ r.synced ≤ r.shows) ∧ 0 ≤ r.drift ∧ r.drift ≤ 1000 := by
  simp [valid, btw]
theorem prod_bd (r : Rd) (h : valid r = true) : 0 ≤ (r.shows - r.synced) * r.drift ∧ (r.shows - r.synced) * r.drift ≤ 1000000000000 := by
  rw [valid_iff] at h
  constructor
  · exact Int.mul_nonneg (by omega) (by omega)
  · have h1 : r.shows - r.synced ≤ 1000000000 := by omega
    have h2 : r.drift ≤ 1000 := by omega
    exact Int.le_trans (Int.mul_le_mul h1 h2 (by omega) (by omega)) (by decide)
theorem bnd_yes (r : Rd) (h : valid r = true) : bnd r = (r.shows - unsure r, r.shows + unsure r, 0) := by simp [bnd, h]
theorem bnd_no (r : Rd) (h : valid r = false) : bnd r = (0, 0, 1) := by simp [bnd, h]
theorem not3 {a b c : Bool} : (!a || !b || !c) = !(a && (b && c)) := by cases a <;> cases b <;> cases c <;> rfl
theorem unsure_bd (r : Rd) (h : valid r = true) : 0 ≤ unsure r ∧ unsure r ≤ 1000000 := by
  have := prod_bd r h
  unfold unsure; omega
theorem bnd_bd (r : Rd) : -1000000 ≤ (bnd r).1 ∧ (bnd r).1 ≤ 1000000000 ∧ 0 ≤ (bnd r).2.1 ∧ (bnd r).2.1 ≤ 1001000000 := by
  cases h : valid r with
  | false => rw [bnd_no r h]; simp
  | true =>
    rw [bnd_yes r h]
    have h1 := unsure_bd r h
    rw [valid_iff] at h
    dsimp only; omega
theorem ref_unsure (n : Int) (h : 0 ≤ n) : (n + 999999) / 1000000 = if decide (n % 1000000 > 0) = true then n / 1000000 + 1 else n / 1000000 := by
  by_cases hp : n % 1000000 > 0
  · rw [if_pos (by simpa using hp)]; omega
  · rw [if_neg (by simpa using hp)]; omega
def encI (n : Int) : List Value := [.int .i64 n]
def maxL : List Int → Int
  | [] => 0
  | x :: r => r.foldl max x
def minL : List Int → Int
  | [] => 0
  | x :: r => r.foldl min x
theorem maxL_take (xs : List Int) (k : Nat) (h1 : 1 ≤ k) (h2 : k < xs.length) : max (maxL (xs.take k)) xs[k] = maxL (xs.take (k + 1)) := by
  cases xs with
  | nil => simp at h2
  | cons x r =>
    obtain ⟨j, rfl⟩ : ∃ j, k = j + 1 := ⟨k - 1, by omega⟩
    simp only [List.take_succ_cons, maxL, List.getElem_cons_succ]
    rw [List.take_succ_eq_append_getElem (by simpa using h2), List.foldl_append]; rfl
theorem minL_take (xs : List Int) (k : Nat) (h1 : 1 ≤ k) (h2 : k < xs.length) : min (minL (xs.take k)) xs[k] = minL (xs.take (k + 1)) := by
  cases xs with
  | nil => simp at h2
  | cons x r =>
    obtain ⟨j, rfl⟩ : ∃ j, k = j + 1 := ⟨k - 1, by omega⟩
    simp only [List.take_succ_cons, minL, List.getElem_cons_succ]
    rw [List.take_succ_eq_append_getElem (by simpa using h2), List.foldl_append]; rfl
theorem maxL_one (xs : List Int) (h : 0 < xs.length) : xs[0] = maxL (xs.take 1) := by
  cases xs with
  | nil => simp at h
  | cons x r => rfl
theorem minL_one (xs : List Int) (h : 0 < xs.length) : xs[0] = minL (xs.take 1) := by
  cases xs with
  | nil => simp at h
  | cons x r => rfl
/-- what Agree answers -/
def agree (l : List Rd) : Int × Int × Int :=
  if l.isEmpty || l.any (fun r => (bnd r).2.2 != 0) then (0, 0, 1)
  else if maxL (l.map fun r => (bnd r).1) > minL (l.map fun r => (bnd r).2.1) then (0, 0, 11)
  else (maxL (l.map fun r => (bnd r).1), minL (l.map fun r => (bnd r).2.1), 0)
theorem agree_bad (l : List Rd) (h : ((l.length : Int) == 0 || l.any (fun r => (bnd r).2.2 != 0)) = true) : agree l = (0, 0, 1) := by
  unfold agree
  rw [if_pos]
  rw [← h]; cases l <;> simp <;> omega
theorem agree_ok (l : List Rd) (h : ((l.length : Int) == 0 || l.any (fun r => (bnd r).2.2 != 0)) = false) : agree l = if maxL (l.map fun r => (bnd r).1) > minL (l.map fun r => (bnd r).2.1) then (0, 0, 11)
  else (maxL (l.map fun r => (bnd r).1), minL (l.map fun r => (bnd r).2.1), 0) := by
  unfold agree
  rw [if_neg]
  rw [Bool.not_eq_true, ← h]; cases l <;> simp <;> omega
theorem maxStep (xs : List Int) (k : Nat) (hk : k < xs.length) (x : Int) (hx : x = xs[k]) : (if ((k : Int) == 0 || decide (x > maxL (xs.take k))) = true then x else maxL (xs.take k)) = maxL (xs.take (k + 1)) := by
  subst hx
  cases k with
  | zero => simp; exact maxL_one xs hk
  | succ k =>
    rw [← maxL_take xs (k + 1) (by omega) hk]
    have : ((((k + 1 : Nat) : Int)) == 0) = false := by simp; omega
    rw [this]
    simp only [Bool.false_or, decide_eq_true_eq]
    split <;> omega
theorem minStep (xs : List Int) (k : Nat) (hk : k < xs.length) (x : Int) (hx : x = xs[k]) : (if ((k : Int) == 0 || decide (x < minL (xs.take k))) = true then x else minL (xs.take k)) = minL (xs.take (k + 1)) := by
  subst hx
  cases k with
  | zero => simp; exact minL_one xs hk
  | succ k =>
    rw [← minL_take xs (k + 1) (by omega) hk]
    have : ((((k + 1 : Nat) : Int)) == 0) = false := by simp; omega
    rw [this]
    simp only [Bool.false_or, decide_eq_true_eq]
    split <;> omega
theorem takeMap {α β : Type} (l : List α) (f : α → β) : (l.map f).take l.length = l.map f := List.take_of_length_le (by simp)
theorem takeStep {α β : Type} (l : List α) (f : α → β) (j : Nat) (hj : j < l.length) : (l.map f).take j ++ [f l[j]] = (l.map f).take (j + 1) := by
  rw [List.take_succ_eq_append_getElem (by simpa using hj)]; simp
theorem foldl_max_ge : ∀ (r : List Int) (a : Int), a ≤ r.foldl max a ∧ (∀ x ∈ r, x ≤ r.foldl max a) ∧ (r.foldl max a = a ∨ r.foldl max a ∈ r)
  | [], a => by simp
  | y :: r, a => by
    obtain ⟨h1, h2, h3⟩ := foldl_max_ge r (max a y)
    refine ⟨by simp only [List.foldl_cons]; omega, fun x hx => ?_, ?_⟩
    · simp only [List.foldl_cons]
      rcases List.mem_cons.1 hx with rfl | hx
      · omega
      · exact h2 x hx
    · simp only [List.foldl_cons]
      rcases h3 with h3 | h3
      · rcases Int.le_total a y with h | h
        · right; rw [h3, Int.max_eq_right h]; simp
        · left; rw [h3, Int.max_eq_left h]
      · right; exact List.mem_cons_of_mem _ h3
theorem foldl_min_le : ∀ (r : List Int) (a : Int), r.foldl min a ≤ a ∧ (∀ x ∈ r, r.foldl min a ≤ x) ∧ (r.foldl min a = a ∨ r.foldl min a ∈ r)
  | [], a => by simp
  | y :: r, a => by
    obtain ⟨h1, h2, h3⟩ := foldl_min_le r (min a y)
    refine ⟨by simp only [List.foldl_cons]; omega, fun x hx => ?_, ?_⟩
    · simp only [List.foldl_cons]
      rcases List.mem_cons.1 hx with rfl | hx
      · omega
      · exact h2 x hx
    · simp only [List.foldl_cons]
      rcases h3 with h3 | h3
      · rcases Int.le_total a y with h | h
        · left; rw [h3, Int.min_eq_left h]
        · right; rw [h3, Int.min_eq_right h]; simp
      · right; exact List.mem_cons_of_mem _ h3
theorem maxL_ge (xs : List Int) (x : Int) (h : x ∈ xs) : x ≤ maxL xs := by
  cases xs with
  | nil => cases h
  | cons y r =>
    obtain ⟨h1, h2, _⟩ := foldl_max_ge r y
    rcases List.mem_cons.1 h with rfl | h
    · exact h1
    · exact h2 x h
theorem minL_le (xs : List Int) (x : Int) (h : x ∈ xs) : minL xs ≤ x := by
  cases xs with
  | nil => cases h
  | cons y r =>
    obtain ⟨h1, h2, _⟩ := foldl_min_le r y
    rcases List.mem_cons.1 h with rfl | h
    · exact h1
    · exact h2 x h
theorem maxL_mem (xs : List Int) (h : xs ≠ []) : maxL xs ∈ xs := by
  cases xs with
  | nil => exact absurd rfl h
  | cons y r =>
    obtain ⟨_, _, h3⟩ := foldl_max_ge r y
    rcases h3 with h3 | h3
    · simp only [maxL, h3]; simp
    · exact List.mem_cons_of_mem _ h3
theorem minL_mem (xs : List Int) (h : xs ≠ []) : minL xs ∈ xs := by
  cases xs with
  | nil => exact absurd rfl h
  | cons y r =>
    obtain ⟨_, _, h3⟩ := foldl_min_le r y
    rcases h3 with h3 | h3
    · simp only [minL, h3]; simp
    · exact List.mem_cons_of_mem _ h3
/-- what Agree answers, said by the readings alone -/
theorem agree_nil : agree [] = (0, 0, 1) := rfl
theorem agree_some_bad (l : List Rd) (r : Rd) (hr : r ∈ l) (h : (bnd r).2.2 ≠ 0) : agree l = (0, 0, 1) :=
  agree_bad l (by rw [Bool.or_eq_true]; exact .inr (List.any_eq_true.2 ⟨r, hr, by simpa using h⟩))
theorem agree_good (l : List Rd) (hne : l ≠ []) (h : ∀ r ∈ l, (bnd r).2.2 = 0) : agree l = if maxL (l.map fun r => (bnd r).1) > minL (l.map fun r => (bnd r).2.1) then (0, 0, 11)
  else (maxL (l.map fun r => (bnd r).1), minL (l.map fun r => (bnd r).2.1), 0) := by
  refine agree_ok l ?_
  rw [Bool.or_eq_false_iff]
  refine ⟨by simp; exact hne, List.any_eq_false.2 fun r hr => by simp [h r hr]⟩
/-- a common time is one between the agreed bounds -/
theorem agree_in (l : List Rd) (hne : l ≠ []) (t : Int) : (∀ r ∈ l, (bnd r).1 ≤ t ∧ t ≤ (bnd r).2.1) ↔ (maxL (l.map fun r => (bnd r).1) ≤ t ∧ t ≤ minL (l.map fun r => (bnd r).2.1)) := by
  constructor
  · intro h
    have h1 := maxL_mem (l.map fun r => (bnd r).1) (by simpa using hne)
    have h2 := minL_mem (l.map fun r => (bnd r).2.1) (by simpa using hne)
    obtain ⟨r, hr, e1⟩ := List.mem_map.1 h1
    obtain ⟨s, hs, e2⟩ := List.mem_map.1 h2
    have a1 := (h r hr).1
    have a2 := (h s hs).2
    omega
  · rintro ⟨h1, h2⟩ r hr
    have a1 := maxL_ge (l.map fun r => (bnd r).1) _ (List.mem_map.2 ⟨r, hr, rfl⟩)
    have a2 := minL_le (l.map fun r => (bnd r).2.1) _ (List.mem_map.2 ⟨r, hr, rfl⟩)
    omega
theorem maxL_congr (xs ys : List Int) (h : ∀ x, x ∈ xs ↔ x ∈ ys) : maxL xs = maxL ys := by
  by_cases hx : xs = []
  · subst hx
    have : ys = [] := by
      cases ys with
      | nil => rfl
      | cons y r => have := (h y).2 (by simp); cases this
    rw [this]
  · have hy : ys ≠ [] := by
      rintro rfl
      have := (h _).1 (maxL_mem xs hx); cases this
    have h1 := maxL_ge ys _ ((h _).1 (maxL_mem xs hx))
    have h2 := maxL_ge xs _ ((h _).2 (maxL_mem ys hy))
    omega
theorem minL_congr (xs ys : List Int) (h : ∀ x, x ∈ xs ↔ x ∈ ys) : minL xs = minL ys := by
  by_cases hx : xs = []
  · subst hx
    have : ys = [] := by
      cases ys with
      | nil => rfl
      | cons y r => have := (h y).2 (by simp); cases this
    rw [this]
  · have hy : ys ≠ [] := by
      rintro rfl
      have := (h _).1 (minL_mem xs hx); cases this
    have h1 := minL_le ys _ ((h _).1 (minL_mem xs hx))
    have h2 := minL_le xs _ ((h _).2 (minL_mem ys hy))
    omega
theorem agree_congr (l l' : List Rd) (h : ∀ r, r ∈ l ↔ r ∈ l') : agree l = agree l' := by
  by_cases hl : l = []
  · subst hl
    have : l' = [] := by
      cases l' with
      | nil => rfl
      | cons y r => have := (h y).2 (by simp); cases this
    rw [this]
  · have hl' : l' ≠ [] := by
      rintro rfl
      cases l with
      | nil => exact hl rfl
      | cons y r => have := (h y).1 (by simp); cases this
    by_cases hb : ∀ r ∈ l, (bnd r).2.2 = 0
    · rw [agree_good l hl hb, agree_good l' hl' (fun r hr => hb r ((h r).2 hr))]
      rw [maxL_congr (l.map fun r => (bnd r).1) (l'.map fun r => (bnd r).1) (by simp [h]), minL_congr (l.map fun r => (bnd r).2.1) (l'.map fun r => (bnd r).2.1) (by simp [h])]
    · simp only [Classical.not_forall] at hb
      obtain ⟨r, hr, hb⟩ := hb
      rw [agree_some_bad l r hr hb, agree_some_bad l' r ((h r).1 hr) hb]
/-- the readings in the opposite order, each twice -/
def turned (l : List Rd) (k : Nat) : List Rd := (l.reverse.take k).flatMap fun r => [r, r]
def allIn (l : List Rd) (t : Int) (k : Nat) : Bool := (l.reverse.take k).all fun r => decide ((bnd r).1 ≤ t) && decide (t ≤ (bnd r).2.1)
theorem turned_len (l : List Rd) (k : Nat) (h : k ≤ l.length) : (turned l k).length = 2 * k := by
  unfold turned
  rw [List.length_flatMap]
  have : (List.map (fun r : Rd => [r, r].length) (l.reverse.take k)).sum = 2 * (l.reverse.take k).length := by
    generalize l.reverse.take k = q
    induction q with
    | nil => rfl
    | cons a r ih => simp only [List.map_cons, List.sum_cons, List.length_cons, List.length_nil] at ih ⊢; omega
  rw [this]; simp; omega
theorem rev_at (l : List Rd) (k : Nat) (h : k < l.length) (j : Nat) (hj : j < l.length) (e : j + k + 1 = l.length) : l.reverse[k]'(by simpa using h) = l[j] := by
  rw [List.getElem_reverse]; congr 1; omega
theorem turned_succ (l : List Rd) (k : Nat) (h : k < l.length) (j : Nat) (hj : j < l.length) (e : j + k + 1 = l.length) : turned l k ++ [l[j], l[j]] = turned l (k + 1) := by
  unfold turned
  rw [List.take_succ_eq_append_getElem (by simpa using h), List.flatMap_append, rev_at l k h j hj e]; simp
theorem allIn_succ (l : List Rd) (t : Int) (k : Nat) (h : k < l.length) (j : Nat) (hj : j < l.length) (e : j + k + 1 = l.length) : (allIn l t k && decide ((bnd l[j]).1 ≤ t) && decide (t ≤ (bnd l[j]).2.1)) = allIn l t (k + 1) := by
  unfold allIn
  rw [List.take_succ_eq_append_getElem (by simpa using h), List.all_append, rev_at l k h j hj e]; simp [Bool.and_assoc]
theorem turned_all (l : List Rd) : agree (turned l l.length) = agree l := by
  refine agree_congr _ _ fun r => ?_
  unfold turned
  rw [List.take_of_length_le (by simp)]
  simp
theorem allIn_iff (l : List Rd) (t : Int) : allIn l t l.length = true ↔ ∀ r ∈ l, (bnd r).1 ≤ t ∧ t ≤ (bnd r).2.1 := by
  unfold allIn
  rw [List.take_of_length_le (by simp)]
  simp [List.all_eq_true]
theorem bnd_err (r : Rd) : (bnd r).2.2 = 0 ∨ (bnd r).2.2 = 1 := by
  unfold bnd; split <;> simp
theorem bad_valid (r : Rd) (h : (bnd r).2.2 ≠ 0) : valid r = false := by
  cases hv : valid r with
  | false => rfl
  | true => rw [bnd_yes r hv] at h; simp at h
theorem good_valid (r : Rd) (h : (bnd r).2.2 = 0) : valid r = true := by
  cases hv : valid r with
  | true => rfl
  | false => rw [bnd_no r hv] at h; simp at h
theorem bad_bnd (r : Rd) (h : (bnd r).2.2 ≠ 0) : bnd r = (0, 0, 1) := bnd_no r (bad_valid r h)
theorem lo_hi (r : Rd) : (bnd r).1 ≤ (bnd r).2.1 := by
  cases hv : valid r with
  | false => rw [bnd_no r hv]; simp
  | true => rw [bnd_yes r hv]; have := unsure_bd r hv; dsimp only; omega
/-- of the agreed bounds -/
theorem agree_lo (l : List Rd) (he : (agree l).2.2 = 0) (r : Rd) (hr : r ∈ l) : (bnd r).1 ≤ (agree l).1 ∧ (agree l).2.1 ≤ (bnd r).2.1 := by
  have hne : l ≠ [] := by rintro rfl; cases hr
  by_cases hb : ∀ r ∈ l, (bnd r).2.2 = 0
  · rw [agree_good l hne hb] at he ⊢
    split at he
    · simp at he
    · rename_i hc
      rw [if_neg hc]
      have a1 := maxL_ge (l.map fun r => (bnd r).1) _ (List.mem_map.2 ⟨r, hr, rfl⟩)
      have a2 := minL_le (l.map fun r => (bnd r).2.1) _ (List.mem_map.2 ⟨r, hr, rfl⟩)
      exact ⟨a1, a2⟩
  · simp only [Classical.not_forall] at hb
    obtain ⟨s, hs, hb⟩ := hb
    rw [agree_some_bad l s hs hb] at he; simp at he
theorem agree_yes (l : List Rd) (hne : l ≠ []) (hb : ∀ r ∈ l, (bnd r).2.2 = 0) (he : (agree l).2.2 = 0) (t : Int) : (agree l).1 ≤ (agree l).2.1 ∧ (allIn l t l.length = true ↔ ((agree l).1 ≤ t ∧ t ≤ (agree l).2.1)) := by
  rw [agree_good l hne hb] at he ⊢
  split at he
  · simp at he
  · rename_i hc
    rw [if_neg hc]
    exact ⟨by dsimp only; omega, (allIn_iff l t).trans (agree_in l hne t)⟩
theorem agree_none (l : List Rd) (hne : l ≠ []) (hb : ∀ r ∈ l, (bnd r).2.2 = 0) (he : (agree l).2.2 ≠ 0) (t : Int) : (agree l).2.2 = 11 ∧ allIn l t l.length = false := by
  rw [agree_good l hne hb] at he ⊢
  split at he
  · rename_i hc
    rw [if_pos hc]
    refine ⟨rfl, ?_⟩
    cases ha : allIn l t l.length with
    | false => rfl
    | true => have := (agree_in l hne t).1 ((allIn_iff l t).1 ha); omega
  · simp at he
theorem law3_abs (A C p q : Int) (nn : Bool) (hl : A ≤ C) (hx : nn = false → A = C) :
    ((((true && (!decide (A > min p q) || decide (C > min p q))) && (!decide (A > max p q) || decide (A > min p q))) && (!decide (C > max p q) || decide (C > min p q))) && ((decide (A > min p q) != decide (C > min p q)) == (decide (A ≤ min p q) && decide (min p q < C)))
      && (nn || (decide (A > min p q) == decide (C > min p q)))) = true := by
  have h1 : (decide (A > min p q) != decide (C > min p q)) = (decide (A ≤ min p q) && decide (min p q < C)) := by
    rw [Bool.eq_iff_iff]
    simp only [bne_iff_ne, ne_eq, Bool.and_eq_true, decide_eq_true_eq, decide_eq_decide]
    omega
  rw [h1, beq_self_eq_true]
  have h2 : (nn || (decide (A > min p q) == decide (C > min p q))) = true := by
    cases nn with
    | true => rfl
    | false => rw [hx rfl]; simp
  rw [h2]
  simp only [Bool.and_eq_true, Bool.or_eq_true, Bool.not_eq_true', decide_eq_true_eq, decide_eq_false_iff_not, Bool.true_and, Bool.and_true]
  omega
theorem law3_plain (r : Rd) (p q : Int) (h : (bnd r).2.2 = 0) :
    ((((true && (!(over r (min p q)).1 || (over r (min p q)).2)) && (!(over r (max p q)).1 || (over r (min p q)).1)) && (!(over r (max p q)).2 || (over r (min p q)).2)) && (((over r (min p q)).1 != (over r (min p q)).2) == (decide ((bnd r).1 ≤ min p q) && decide (min p q < (bnd r).2.1)))
      && ((decide (r.drift > 0) && decide (r.synced < r.shows)) || ((over r (min p q)).1 == (over r (min p q)).2))) = true := by
  unfold over
  rw [if_neg (by simp [h]), if_neg (by simp [h])]
  refine law3_abs _ _ p q _ (lo_hi r) fun hn => ?_
  have hv := good_valid r h
  have hu : unsure r = ((r.shows - r.synced) * r.drift + 999999) / 1000000 := rfl
  have h1 := (valid_iff r).1 hv
  simp only [Bool.and_eq_false_iff, decide_eq_false_iff_not] at hn
  have h2 : (r.shows - r.synced) * r.drift = 0 := by
    by_cases hd : r.drift = 0
    · rw [hd, Int.mul_zero]
    · have : r.shows - r.synced = 0 := by omega
      rw [this, Int.zero_mul]
  rw [bnd_yes r hv]; dsimp only; rw [h2] at hu; omega
theorem mono_mul {a b c d : Int} (h1 : a ≤ b) (h2 : c ≤ d) (h3 : 0 ≤ c) (h4 : 0 ≤ b) : a * c ≤ b * d :=
  Int.le_trans (Int.mul_le_mul_of_nonneg_right h1 h3) (Int.mul_le_mul_of_nonneg_left h2 h4)
theorem law5_plain (r : Rd) (x y z : Int) (hv : valid r = true) (hx : 0 ≤ x ∧ x ≤ 65535) (hy : 0 ≤ y ∧ y ≤ 65535) (hz : 0 ≤ z ∧ z ≤ 65535) :
    (true && ((bnd ⟨r.shows, max 0 (r.synced - x), min 1000 (r.drift + y)⟩).2.2 == 0) && ((bnd ⟨min 1000000000 (r.shows + z), r.synced, r.drift⟩).2.2 == 0)
      && decide ((bnd ⟨r.shows, max 0 (r.synced - x), min 1000 (r.drift + y)⟩).1 ≤ (bnd r).1) && decide ((bnd ⟨r.shows, max 0 (r.synced - x), min 1000 (r.drift + y)⟩).2.1 ≥ (bnd r).2.1)
      && decide ((bnd ⟨min 1000000000 (r.shows + z), r.synced, r.drift⟩).1 ≥ (bnd r).1) && decide ((bnd ⟨min 1000000000 (r.shows + z), r.synced, r.drift⟩).2.1 ≥ (bnd r).2.1)) = true := by
  have h := (valid_iff r).1 hv
  have h2 : valid ⟨r.shows, max 0 (r.synced - x), min 1000 (r.drift + y)⟩ = true := (valid_iff _).2 (by dsimp only; omega)
  have h3 : valid ⟨min 1000000000 (r.shows + z), r.synced, r.drift⟩ = true := (valid_iff _).2 (by dsimp only; omega)
  rw [bnd_yes _ h2, bnd_yes _ h3, bnd_yes _ hv]
  dsimp only
  have u1 : unsure r = ((r.shows - r.synced) * r.drift + 999999) / 1000000 := rfl
  have u2 : unsure ⟨r.shows, max 0 (r.synced - x), min 1000 (r.drift + y)⟩ = ((r.shows - max 0 (r.synced - x)) * min 1000 (r.drift + y) + 999999) / 1000000 := rfl
  have u3 : unsure ⟨min 1000000000 (r.shows + z), r.synced, r.drift⟩ = ((min 1000000000 (r.shows + z) - r.synced) * r.drift + 999999) / 1000000 := rfl
  have m1 : (r.shows - r.synced) * r.drift ≤ (r.shows - max 0 (r.synced - x)) * min 1000 (r.drift + y) := mono_mul (by omega) (by omega) (by omega) (by omega)
  have m2 : (r.shows - r.synced) * r.drift ≤ (min 1000000000 (r.shows + z) - r.synced) * r.drift := mono_mul (by omega) (by omega) (by omega) (by omega)
  obtain ⟨s, hs, hs2⟩ : ∃ s : Int, 0 ≤ s ∧ min 1000000000 (r.shows + z) = r.shows + s := ⟨min 1000000000 (r.shows + z) - r.shows, by omega, by omega⟩
  have m3 : (min 1000000000 (r.shows + z) - r.synced) * r.drift ≤ (r.shows - r.synced) * r.drift + 1000 * s := by
    rw [hs2]
    have e : (r.shows + s - r.synced) * r.drift = (r.shows - r.synced) * r.drift + s * r.drift := by rw [← Int.add_mul]; congr 1; omega
    have : s * r.drift ≤ s * 1000 := Int.mul_le_mul_of_nonneg_left (by omega) hs
    rw [e]; omega
  simp only [Bool.and_eq_true, decide_eq_true_eq, beq_iff_eq, Bool.true_and, ge_iff_le, beq_self_eq_true, true_and]
  omega
theorem agree_one (r : Rd) : agree [r] = bnd r := by
  by_cases h : (bnd r).2.2 = 0
  · rw [agree_good [r] (by simp) (by simpa using h)]
    have := lo_hi r
    simp only [List.map_cons, List.map_nil, maxL, minL, List.foldl_nil]
    rw [if_neg (by omega), ← h]
  · rw [agree_some_bad [r] r (by simp) h, bad_bnd r h]
theorem exact_bnd (t : Int) (h : 0 ≤ t ∧ t ≤ 1000000000) : bnd ⟨t, 0, 0⟩ = (t, t, 0) := by
  have hv : valid ⟨t, 0, 0⟩ = true := (valid_iff _).2 (by dsimp only; omega)
  rw [bnd_yes _ hv]
  have : unsure ⟨t, 0, 0⟩ = 0 := by simp [unsure]
  rw [this]; simp
theorem exact_bad (t : Int) (h : t < 0 ∨ t > 1000000000) : (bnd ⟨t, 0, 0⟩).2.2 ≠ 0 := by
  intro he
  have := (valid_iff _).1 (good_valid _ he)
  dsimp only at this; omega
theorem agree_exact (r : Rd) (t : Int) (hr : (bnd r).2.2 = 0) (h : 0 ≤ t ∧ t ≤ 1000000000) : agree [⟨t, 0, 0⟩, r] = if t < (bnd r).1 ∨ t > (bnd r).2.1 then (0, 0, 11) else (t, t, 0) := by
  rw [agree_good _ (by simp) (by simp [hr, exact_bnd t h])]
  have := lo_hi r
  simp only [List.map_cons, List.map_nil, maxL, minL, List.foldl_nil, List.foldl_cons, exact_bnd t h]
  split <;> split
  · rfl
  · omega
  · omega
  · rw [Int.max_eq_left (by omega), Int.min_eq_left (by omega)]
theorem law2_bad (r : Rd) (hv : valid r = false) : (true && (0 : Int) == 0 && (0 : Int) == 0 && (decide (r.shows < 0) || decide (r.shows > 1000000000) || decide (r.synced < 0) || decide (r.synced > r.shows) || decide (r.drift < 0) || decide (r.drift > 1000))) = true := by
  have hv2 := mt (valid_iff r).2 (by rw [hv]; simp)
  simp only [beq_self_eq_true, Bool.true_and, Bool.or_eq_true, decide_eq_true_eq]; omega
theorem agree_exact_bad (r : Rd) (t : Int) (h : (bnd r).2.2 ≠ 0 ∨ t < 0 ∨ t > 1000000000) : agree [⟨t, 0, 0⟩, r] = (0, 0, 1) := by
  rcases h with h | h
  · exact agree_some_bad _ r (by simp) h
  · exact agree_some_bad _ ⟨t, 0, 0⟩ (by simp) (exact_bad t h)
end Go.Proofs.Ytfblnfkphdimjaa
