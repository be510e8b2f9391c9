/- Plain definitions and laws of layer 35: exchanges by circles. No condition. -/
import Derived.Test.YtoghkehlmibniaaGwCut
import Derived.WalkKit
namespace Go.Proofs.Ytoghkehlmibniaa
set_option linter.unusedVariables false
set_option linter.unusedSimpArgs false

abbrev Ws := List (List Int)
def rowG (es : Ws) (i : Nat) : List Int := es.getD i []
def atI (l : List Int) (i : Nat) : Int := l.getD i (-1)
def atB (l : List Bool) (i : Nat) : Bool := l.getD i false
theorem atI_eq {l : List Int} {i : Nat} (h : i < l.length) : atI l i = l[i] := by unfold atI; rw [List.getD_eq_getElem?_getD, List.getElem?_eq_getElem h]; rfl
theorem atB_eq {l : List Bool} {i : Nat} (h : i < l.length) : atB l i = l[i] := by unfold atB; rw [List.getD_eq_getElem?_getD, List.getElem?_eq_getElem h]; rfl
theorem rowG_eq {l : Ws} {i : Nat} (h : i < l.length) : rowG l i = l[i] := by unfold rowG; rw [List.getD_eq_getElem?_getD, List.getElem?_eq_getElem h]; rfl
theorem rowG_out {l : Ws} {i : Nat} (h : l.length ≤ i) : rowG l i = [] := by unfold rowG; rw [List.getD_eq_getElem?_getD, List.getElem?_eq_none h]; rfl
theorem atI_set {l : List Int} {i : Nat} (v : Int) (h : i < l.length) (j : Nat) : atI (l.set i v) j = if j = i then v else atI l j := by
  unfold atI
  rw [List.getD_eq_getElem?_getD, List.getD_eq_getElem?_getD, List.getElem?_set]
  by_cases hj : j = i
  · subst hj; simp [h]
  · rw [if_neg (fun e => hj e.symm), if_neg hj]
theorem atB_set {l : List Bool} {i : Nat} (v : Bool) (h : i < l.length) (j : Nat) : atB (l.set i v) j = if j = i then v else atB l j := by
  unfold atB
  rw [List.getD_eq_getElem?_getD, List.getD_eq_getElem?_getD, List.getElem?_set]
  by_cases hj : j = i
  · subst hj; simp [h]
  · rw [if_neg (fun e => hj e.symm), if_neg hj]
theorem nodup_le {α : Type} [DecidableEq α] : ∀ {l m : List α}, l.Nodup → (∀ x ∈ l, x ∈ m) → l.length ≤ m.length
  | [], _, _, _ => Nat.zero_le _
  | a :: r, m, hn, hs => by
    have hn' := List.nodup_cons.1 hn
    have ha : a ∈ m := hs a (List.mem_cons_self ..)
    have h := nodup_le (l := r) (m := m.erase a) hn'.2 (fun x hx => (List.mem_erase_of_ne (fun e => by subst e; exact hn'.1 hx)).2 (hs x (List.mem_cons_of_mem _ hx)))
    rw [List.length_erase_of_mem ha] at h
    have := List.length_pos_of_mem ha
    simp only [List.length_cons]; omega
theorem nodup_map {α β : Type} (f : α → β) : ∀ {l : List α}, l.Nodup → (∀ x ∈ l, ∀ y ∈ l, f x = f y → x = y) → (l.map f).Nodup
  | [], _, _ => List.nodup_nil
  | a :: r, hn, hi => by
    have hn' := List.nodup_cons.1 hn
    rw [List.map_cons, List.nodup_cons]
    refine ⟨fun h => ?_, nodup_map f hn'.2 (fun x hx y hy => hi x (List.mem_cons_of_mem _ hx) y (List.mem_cons_of_mem _ hy))⟩
    obtain ⟨b, hb, he⟩ := List.mem_map.1 h
    have := hi b (List.mem_cons_of_mem _ hb) a (List.mem_cons_self ..) he
    subst this; exact hn'.1 hb
/-- what maps a finite list into itself, no two to one, meets all of it -/
theorem onto {α : Type} [DecidableEq α] {B : List α} (hB : B.Nodup) (f : α → α) (hm : ∀ x ∈ B, f x ∈ B) (hi : ∀ x ∈ B, ∀ y ∈ B, f x = f y → x = y) : ∀ y ∈ B, ∃ x ∈ B, f x = y := fun y hy => by
  refine Classical.byContradiction fun hn => ?_
  have h1 : y ∉ B.map f := fun h => by obtain ⟨x, hx, e⟩ := List.mem_map.1 h; exact hn ⟨x, hx, e⟩
  have h2 := nodup_le (l := y :: B.map f) (m := B) (List.nodup_cons.2 ⟨h1, nodup_map f hB hi⟩) (fun z hz => by
    rcases List.mem_cons.1 hz with rfl | hz
    · exact hy
    · obtain ⟨x, hx, rfl⟩ := List.mem_map.1 hz; exact hm x hx)
  simp only [List.length_cons, List.length_map] at h2
  omega

/-! ### what is liked more -/
def findL (l : List Int) (t : Int) : Option Nat := match l with
  | [] => none
  | x :: r => if x = t then some 0 else (findL r t).map (· + 1)
def rankL (l : List Int) (i t : Int) : Nat := match findL l t with
  | some k => k
  | none => if t = i then l.length else l.length + 1
theorem findL_some {l : List Int} {t : Int} : ∀ {k : Nat}, findL l t = some k ↔ k < l.length ∧ atI l k = t ∧ ∀ j, j < k → atI l j ≠ t := by
  induction l with
  | nil => intro k; simp [findL]
  | cons x r ih =>
    intro k
    have a0 : atI (x :: r) 0 = x := rfl
    have aS : ∀ i, atI (x :: r) (i + 1) = atI r i := fun i => rfl
    unfold findL
    by_cases hx : x = t
    · rw [if_pos hx]
      constructor
      · intro h; cases h; exact ⟨by simp, by rw [a0]; exact hx, fun j hj => by omega⟩
      · rintro ⟨_, _, h3⟩
        cases k with
        | zero => rfl
        | succ k => exact absurd (by rw [a0]; exact hx) (h3 0 (by omega))
    · rw [if_neg hx]
      cases k with
      | zero =>
        constructor
        · intro h; simp at h
        · rintro ⟨_, h2, _⟩; rw [a0] at h2; exact absurd h2 hx
      | succ k =>
        rw [show (Option.map (· + 1) (findL r t) = some (k + 1)) ↔ findL r t = some k by cases findL r t <;> simp]
        rw [ih]
        constructor
        · rintro ⟨h1, h2, h3⟩
          refine ⟨by simp; omega, by rw [aS]; exact h2, fun j hj => ?_⟩
          cases j with
          | zero => rw [a0]; exact hx
          | succ j => rw [aS]; exact h3 j (by omega)
        · rintro ⟨h1, h2, h3⟩
          refine ⟨by simpa using h1, by rw [← aS]; exact h2, fun j hj => by have := h3 (j + 1) (by omega); rwa [aS] at this⟩
theorem findL_none {l : List Int} {t : Int} : findL l t = none ↔ t ∉ l := by
  induction l with
  | nil => simp [findL]
  | cons x r ih =>
    unfold findL
    by_cases hx : x = t
    · subst hx; simp
    · rw [if_neg hx]
      simp only [Option.map_eq_none_iff, ih, List.mem_cons, not_or]
      exact ⟨fun h => ⟨fun e => hx e.symm, h⟩, fun h => h.2⟩
theorem findL_lt {l : List Int} {t : Int} {k : Nat} (h : findL l t = some k) : k < l.length := (findL_some.1 h).1
theorem rank_own (l : List Int) (i : Int) : rankL l i i ≤ l.length := by
  unfold rankL
  cases h : findL l i with
  | some k => have := findL_lt h; simp only; omega
  | none => simp
/-- acceptable tickets of one rank are the same -/
theorem rank_inj {l : List Int} {i t u : Int} (ht : rankL l i t ≤ rankL l i i) (e : rankL l i t = rankL l i u) : t = u := by
  have ho := rank_own l i
  obtain ⟨o, hoe⟩ : ∃ o, rankL l i i = o := ⟨_, rfl⟩
  rw [hoe] at ht ho
  clear hoe
  unfold rankL at e ht
  cases h1 : findL l t with
  | some k =>
    rw [h1] at e ht
    cases h2 : findL l u with
    | some j =>
      rw [h2] at e
      simp only at e
      subst e
      rw [← (findL_some.1 h1).2.1, ← (findL_some.1 h2).2.1]
    | none =>
      rw [h2] at e
      have := findL_lt h1
      simp only at e
      split at e <;> omega
  | none =>
    rw [h1] at e ht
    simp only at e ht
    by_cases hti : t = i
    · rw [if_pos hti] at e
      cases h2 : findL l u with
      | some j =>
        rw [h2] at e
        have := findL_lt h2
        simp only at e; omega
      | none =>
        rw [h2] at e
        simp only at e
        split at e
        · rename_i hu; rw [hti, hu]
        · omega
    · rw [if_neg hti] at ht
      omega
theorem rank_in {l : List Int} {i t u : Int} (h : rankL l i t < rankL l i u) (hu : rankL l i u ≤ rankL l i i) : t ∈ l := by
  refine Classical.byContradiction fun hn => ?_
  have ho := rank_own l i
  have e := findL_none.2 hn
  obtain ⟨o, hoe⟩ : ∃ o, rankL l i i = o := ⟨_, rfl⟩
  rw [hoe] at hu ho
  obtain ⟨q, hq⟩ : ∃ q, rankL l i u = q := ⟨_, rfl⟩
  rw [hq] at h hu
  unfold rankL at h
  rw [e] at h
  simp only at h
  split at h <;> omega

/-! ### an exchange by circles: r says in which round a holder leaves -/
structure TTC (ws : Ws) (out : List Int) (r : Nat → Nat) : Prop where
  len : out.length = ws.length
  rng : ∀ k, k < ws.length → 0 ≤ atI out k ∧ atI out k < ws.length
  inj : ∀ k j, k < ws.length → j < ws.length → atI out k = atI out j → k = j
  same : ∀ k, k < ws.length → r (atI out k).toNat = r k
  more : ∀ k, k < ws.length → ∀ t : Nat, t < ws.length → rankL (rowG ws k) k t < rankL (rowG ws k) k (atI out k) → r t < r k
  acc : ∀ k, k < ws.length → rankL (rowG ws k) k (atI out k) ≤ rankL (rowG ws k) k k
/-- every ticket is somebody's, of the same round -/
theorem TTC.onto {ws : Ws} {out : List Int} {r : Nat → Nat} (h : TTC ws out r) (p : Nat → Bool) (hp : ∀ k, k < ws.length → p k = true → p (atI out k).toNat = true) : ∀ t, t < ws.length → p t = true → ∃ k, k < ws.length ∧ p k = true ∧ atI out k = t := fun t ht hpt => by
  have := Go.Proofs.Ytoghkehlmibniaa.onto (B := (List.range ws.length).filter p) (List.nodup_range.sublist List.filter_sublist) (fun k => (atI out k).toNat) (fun x hx => by
    obtain ⟨h1, h2⟩ := List.mem_filter.1 hx
    have h1 := List.mem_range.1 h1
    have := h.rng x h1
    exact List.mem_filter.2 ⟨List.mem_range.2 (by omega), hp x h1 h2⟩) (fun x hx y hy e => by
    have h1 := List.mem_range.1 (List.mem_filter.1 hx).1
    have h2 := List.mem_range.1 (List.mem_filter.1 hy).1
    have := h.rng x h1
    have := h.rng y h2
    exact h.inj x y h1 h2 (by omega)) t (List.mem_filter.2 ⟨List.mem_range.2 ht, hpt⟩)
  obtain ⟨k, hk, e⟩ := this
  obtain ⟨h1, h2⟩ := List.mem_filter.1 hk
  have h1 := List.mem_range.1 h1
  have := h.rng k h1
  exact ⟨k, h1, h2, by omega⟩
/-- whoever leaves before round J gets the same by other wishes of those that leave later -/
theorem ttc_core {ws ws2 : Ws} {out out2 : List Int} {r r2 : Nat → Nat} (h : TTC ws out r) (h2 : TTC ws2 out2 r2) (hl : ws2.length = ws.length) (J : Nat) (hrow : ∀ k, k < ws.length → r k < J → rowG ws2 k = rowG ws k) :
    ∀ m, m ≤ J → ∀ k, k < ws.length → r k < m → atI out2 k = atI out k := by
  intro m
  induction m with
  | zero => intro _ k _ hk; omega
  | succ m ih =>
    intro hm k hk hr
    have IH := ih (by omega)
    by_cases hrm : r k < m
    · exact IH k hk hrm
    have hrk : r k = m := by omega
    -- nobody of the round gets better
    have hle : ∀ k, k < ws.length → r k = m → rankL (rowG ws k) k (atI out k) ≤ rankL (rowG ws k) k (atI out2 k) := fun k hk hr => by
      refine Classical.byContradiction fun hn => ?_
      have hg := h2.rng k (by omega)
      obtain ⟨t, ht⟩ : ∃ t : Nat, atI out2 k = t := ⟨(atI out2 k).toNat, by omega⟩
      have h3 := h.more k hk t (by omega) (by rw [← ht]; omega)
      obtain ⟨q, hq1, hq2, hq3⟩ := h.onto (fun x => decide (r x < m)) (fun x hx hp => by rw [h.same x hx]; exact hp) t (by omega) (by simp; omega)
      have hq2 : r q < m := by simpa using hq2
      have h4 := IH q hq1 hq2
      have := h2.inj k q (by omega) (by omega) (by rw [ht, h4, hq3])
      subst this; omega
    refine Classical.byContradiction fun hne => ?_
    have hstep : ∀ x, x < ws.length → r x = m → r2 (atI out x).toNat ≤ r2 x ∧ (atI out2 x ≠ atI out x → r2 (atI out x).toNat < r2 x) := fun x hx hr => by
      have h3 := hle x hx hr
      have h4 := h.rng x hx
      by_cases he : atI out2 x = atI out x
      · exact ⟨by rw [← he, h2.same x (by omega)]; exact Nat.le_refl _, fun hc => absurd he hc⟩
      · have hlt : rankL (rowG ws x) x (atI out x) < rankL (rowG ws x) x (atI out2 x) := by
          rcases Nat.lt_or_ge (rankL (rowG ws x) x (atI out x)) (rankL (rowG ws x) x (atI out2 x)) with hl | hl
          · exact hl
          · exact absurd (rank_inj (h.acc x hx) (by omega)).symm he
        have h5 := h2.more x (by omega) (atI out x).toNat (by omega) (by rw [hrow x hx (by omega), Int.toNat_of_nonneg h4.1]; exact hlt)
        exact ⟨by omega, fun _ => h5⟩
    have h6 := h.rng k hk
    have h7 := (hstep k hk hrk).2 hne
    obtain ⟨b, hb1, hb2, hb3⟩ := h.onto (fun x => decide (r x = m) && decide (r2 x < r2 k)) (fun x hx hp => by
      simp only [Bool.and_eq_true, decide_eq_true_eq] at hp ⊢
      exact ⟨by rw [h.same x hx]; exact hp.1, by have := (hstep x hx hp.1).1; omega⟩) (atI out k).toNat (by omega) (by
      simp only [Bool.and_eq_true, decide_eq_true_eq]
      exact ⟨by rw [h.same k hk]; exact hrk, h7⟩)
    simp only [Bool.and_eq_true, decide_eq_true_eq] at hb2
    have := h.inj b k hb1 hk (by omega)
    subst this; omega
/-- there is one exchange by circles -/
theorem ttc_unique {ws : Ws} {out out2 : List Int} {r r2 : Nat → Nat} (h : TTC ws out r) (h2 : TTC ws out2 r2) : out2 = out := by
  obtain ⟨J, hJ⟩ : ∃ J, ∀ k, k < ws.length → r k < J := by
    have : ∀ n, ∃ J, ∀ k, k < n → r k < J := fun n => by
      induction n with
      | zero => exact ⟨0, fun k h => by omega⟩
      | succ n ih =>
        obtain ⟨J, hJ⟩ := ih
        refine ⟨J + r n + 1, fun k hk => ?_⟩
        by_cases hkn : k = n
        · subst hkn; omega
        · have := hJ k (by omega); omega
    exact this ws.length
  refine List.ext_getElem (by rw [h.len, h2.len]) (fun k h3 h4 => ?_)
  have := ttc_core h h2 rfl J (fun _ _ _ => rfl) J (Nat.le_refl _) k (by rw [← h.len]; exact h4) (hJ k (by rw [← h.len]; exact h4))
  rwa [atI_eq h3, atI_eq h4] at this
/-- another list does not help -/
theorem ttc_honest {ws ws2 : Ws} {out out2 : List Int} {r r2 : Nat → Nat} (h : TTC ws out r) (h2 : TTC ws2 out2 r2) (hl : ws2.length = ws.length) {i : Nat} (hi : i < ws.length) (hrow : ∀ k, k ≠ i → rowG ws2 k = rowG ws k) : rankL (rowG ws i) i (atI out i) ≤ rankL (rowG ws i) i (atI out2 i) := by
  have hc := ttc_core h h2 hl (r i) (fun k _ hk => hrow k (fun e => by subst e; omega)) (r i) (Nat.le_refl _)
  refine Classical.byContradiction fun hn => ?_
  have hg := h2.rng i (by omega)
  obtain ⟨t, ht⟩ : ∃ t : Nat, atI out2 i = t := ⟨(atI out2 i).toNat, by omega⟩
  have h3 := h.more i hi t (by omega) (by rw [← ht]; omega)
  obtain ⟨q, hq1, hq2, hq3⟩ := h.onto (fun x => decide (r x < r i)) (fun x hx hp => by rw [h.same x hx]; exact hp) t (by omega) (by simp; omega)
  have hq2 : r q < r i := by simpa using hq2
  have h4 := hc q hq1 hq2
  have := h2.inj i q (by omega) (by omega) (by rw [ht, h4, hq3])
  subst this; omega

/-! ### the run -/
structure Right (ws : Ws) : Prop where
  rng : ∀ i, ∀ t ∈ rowG ws i, 0 ≤ t ∧ t < ws.length
  nd : ∀ i, (rowG ws i).Nodup
def bestL (gone : List Bool) (i : Int) : List Int → Int
  | [] => i
  | t :: r => if atB gone t.toNat = true then bestL gone i r else t
def nxtL (ws : Ws) (gone : List Bool) (k : Int) : Int := bestL gone k (rowG ws k.toNat)
theorem bestL_at {gone : List Bool} {i : Int} : ∀ {l : List Int} {q : Nat}, (∀ j, j < q → atB gone (atI l j).toNat = true) → q < l.length → atB gone (atI l q).toNat = false → bestL gone i l = atI l q
  | [], q, _, h, _ => by simp at h
  | t :: r, 0, _, _, h => by
    have h : atB gone t.toNat = false := h
    unfold bestL
    rw [h]; rfl
  | t :: r, q + 1, h1, h2, h3 => by
    have h0 : atB gone t.toNat = true := h1 0 (by omega)
    unfold bestL
    rw [if_pos h0]
    exact bestL_at (l := r) (q := q) (fun j hj => h1 (j + 1) (by omega)) (by simpa using h2) h3
theorem bestL_end {gone : List Bool} {i : Int} : ∀ {l : List Int}, (∀ j, j < l.length → atB gone (atI l j).toNat = true) → bestL gone i l = i
  | [], _ => rfl
  | t :: r, h => by
    have h0 : atB gone t.toNat = true := h 0 (by simp)
    unfold bestL
    rw [if_pos h0]
    exact bestL_end (l := r) (fun j hj => h (j + 1) (by simp; omega))
theorem bestL_cases (gone : List Bool) (i : Int) : ∀ (l : List Int), (∃ q, q < l.length ∧ (∀ j, j < q → atB gone (atI l j).toNat = true) ∧ atB gone (atI l q).toNat = false ∧ bestL gone i l = atI l q) ∨ ((∀ j, j < l.length → atB gone (atI l j).toNat = true) ∧ bestL gone i l = i)
  | [] => .inr ⟨fun j h => by simp at h, rfl⟩
  | t :: r => by
    cases h0 : atB gone t.toNat with
    | false => exact .inl ⟨0, by simp, fun j h => by omega, h0, bestL_at (q := 0) (fun j h => by omega) (by simp) h0⟩
    | true =>
      rcases bestL_cases gone i r with ⟨q, h1, h2, h3, h4⟩ | ⟨h1, h2⟩
      · refine .inl ⟨q + 1, by simp; omega, fun j hj => ?_, h3, bestL_at (q := q + 1) (fun j hj => ?_) (by simp; omega) h3⟩
        all_goals
          cases j with
          | zero => exact h0
          | succ j => exact h2 j (by omega)
      · refine .inr ⟨fun j hj => ?_, bestL_end (fun j hj => ?_)⟩
        all_goals
          cases j with
          | zero => exact h0
          | succ j => exact h1 j (by simpa using hj)
theorem rank_at {l : List Int} {i : Int} {q : Nat} (hq : q < l.length) (h : ∀ j, j < q → atI l j ≠ atI l q) : rankL l i (atI l q) = q := by
  unfold rankL
  rw [findL_some.2 ⟨hq, rfl, h⟩]
theorem rank_lt {l : List Int} {i t : Int} {n : Nat} (h : rankL l i t < n) (hn : n ≤ l.length) : ∃ j, j < n ∧ atI l j = t := by
  unfold rankL at h
  cases hf : findL l t with
  | some k => rw [hf] at h; exact ⟨k, h, (findL_some.1 hf).2.1⟩
  | none => rw [hf] at h; simp only at h; split at h <;> omega
/-- what the best one of those that are there is -/
theorem best_law {ws : Ws} (hr : Right ws) {gone : List Bool} {k : Nat} (hk : k < ws.length) (hg : atB gone k = false) :
    (0 ≤ nxtL ws gone k ∧ nxtL ws gone k < ws.length) ∧ atB gone (nxtL ws gone k).toNat = false ∧ rankL (rowG ws k) k (nxtL ws gone k) ≤ rankL (rowG ws k) k k ∧ ∀ t : Nat, rankL (rowG ws k) k t < rankL (rowG ws k) k (nxtL ws gone k) → atB gone t = true := by
  have e : nxtL ws gone k = bestL gone k (rowG ws k) := rfl
  rw [e]
  rcases bestL_cases gone k (rowG ws k) with ⟨q, h1, h2, h3, h4⟩ | ⟨h1, h2⟩
  · rw [h4]
    have hm : atI (rowG ws k) q ∈ rowG ws k := by rw [atI_eq h1]; exact List.getElem_mem _
    have hne : ∀ j, j < q → atI (rowG ws k) j ≠ atI (rowG ws k) q := fun j hj e2 => by have := h2 j hj; rw [e2, h3] at this; cases this
    have hra := rank_at (i := (k : Int)) h1 hne
    refine ⟨hr.rng k _ hm, h3, ?_, fun t ht => ?_⟩
    · rw [hra]
      rcases Nat.lt_or_ge (rankL (rowG ws k) k k) q with hl | hl
      · obtain ⟨j, hj, e2⟩ := rank_lt hl (by omega)
        have := h2 j hj
        rw [e2, Int.toNat_natCast, hg] at this; cases this
      · exact hl
    · rw [hra] at ht
      obtain ⟨j, hj, e2⟩ := rank_lt ht (by omega)
      have := h2 j hj
      rwa [e2, Int.toNat_natCast] at this
  · rw [h2]
    refine ⟨by omega, by rw [Int.toNat_natCast]; exact hg, Nat.le_refl _, fun t ht => ?_⟩
    obtain ⟨j, hj, e2⟩ := rank_lt (n := rankL (rowG ws k) k k) ht (rank_own _ _)
    have := rank_own (rowG ws k) (k : Int)
    have := h1 j (by omega)
    rwa [e2, Int.toNat_natCast] at this
/-- the holders that have left, with their tickets -/
structure SwI (ws : Ws) (gone : List Bool) (out : List Int) (r : Nat → Nat) (J : Nat) : Prop where
  lg : gone.length = ws.length
  lo : out.length = ws.length
  rng : ∀ k, k < ws.length → atB gone k = true → (0 ≤ atI out k ∧ atI out k < ws.length) ∧ atB gone (atI out k).toNat = true
  inj : ∀ k j, k < ws.length → j < ws.length → atB gone k = true → atB gone j = true → atI out k = atI out j → k = j
  same : ∀ k, k < ws.length → atB gone k = true → r (atI out k).toNat = r k
  low : ∀ k, k < ws.length → atB gone k = true → r k < J
  more : ∀ k, k < ws.length → atB gone k = true → ∀ t : Nat, t < ws.length → rankL (rowG ws k) k t < rankL (rowG ws k) k (atI out k) → atB gone t = true ∧ r t < r k
  acc : ∀ k, k < ws.length → atB gone k = true → rankL (rowG ws k) k (atI out k) ≤ rankL (rowG ws k) k k
/-- a circle of those that are there -/
structure Circ (ws : Ws) (gone : List Bool) (c : List Int) : Prop where
  ne : c ≠ []
  nd : c.Nodup
  rng : ∀ x ∈ c, 0 ≤ x ∧ x < ws.length
  there : ∀ x ∈ c, atB gone x.toNat = false
  nxt : ∀ q, q < c.length → nxtL ws gone (atI c q) = atI c ((q + 1) % c.length)
def setT (gone : List Bool) (c : List Int) : List Bool := c.foldl (fun g k => g.set k.toNat true) gone
def setO (out : List Int) (c : List Int) (f : Int → Int) : List Int := c.foldl (fun o k => o.set k.toNat (f k)) out
theorem setT_snoc (gone : List Bool) (c : List Int) (k : Int) : setT gone (c ++ [k]) = (setT gone c).set k.toNat true := by simp [setT]
theorem setO_snoc (out : List Int) (c : List Int) (f : Int → Int) (k : Int) : setO out (c ++ [k]) f = (setO out c f).set k.toNat (f k) := by simp [setO]
theorem setT_len (c : List Int) : ∀ gone : List Bool, (setT gone c).length = gone.length := by
  induction c with
  | nil => intro g; rfl
  | cons a c ih => intro g; show (setT (g.set a.toNat true) c).length = _; rw [ih]; simp
theorem setO_len (c : List Int) (f : Int → Int) : ∀ out : List Int, (setO out c f).length = out.length := by
  induction c with
  | nil => intro g; rfl
  | cons a c ih => intro g; show (setO (g.set a.toNat (f a)) c f).length = _; rw [ih]; simp
theorem setT_at (j : Nat) : ∀ (c : List Int) (gone : List Bool), (∀ x ∈ c, 0 ≤ x ∧ x < gone.length) → atB (setT gone c) j = (decide ((j : Int) ∈ c) || atB gone j)
  | [], g, _ => by simp [setT]
  | a :: c, g, h => by
    have ha := h a (List.mem_cons_self ..)
    show atB (setT (g.set a.toNat true) c) j = _
    rw [setT_at j c _ (fun x hx => by rw [List.length_set]; exact h x (List.mem_cons_of_mem _ hx)), atB_set _ (by omega)]
    by_cases hj : j = a.toNat
    · rw [if_pos hj]
      have : (j : Int) = a := by omega
      simp [this]
    · rw [if_neg hj]
      have : (j : Int) ≠ a := by omega
      simp [this]
theorem setO_at (f : Int → Int) (j : Nat) : ∀ (c : List Int) (out : List Int), (∀ x ∈ c, 0 ≤ x ∧ x < out.length) → atI (setO out c f) j = if (j : Int) ∈ c then f j else atI out j
  | [], g, _ => by simp [setO]
  | a :: c, g, h => by
    have ha := h a (List.mem_cons_self ..)
    show atI (setO (g.set a.toNat (f a)) c f) j = _
    rw [setO_at f j c _ (fun x hx => by rw [List.length_set]; exact h x (List.mem_cons_of_mem _ hx)), atI_set _ (by omega)]
    by_cases hj : j = a.toNat
    · have e : (j : Int) = a := by omega
      rw [if_pos hj, e]; simp
    · have e : (j : Int) ≠ a := by omega
      rw [if_neg hj]
      simp [e]
theorem sw_start {ws : Ws} {out : List Int} (ho : out.length = ws.length) : SwI ws (List.replicate ws.length false) out (fun _ => 0) 0 := by
  have hf : ∀ k, atB (List.replicate ws.length false) k = false := fun k => by
    unfold atB
    rw [List.getD_eq_getElem?_getD, List.getElem?_replicate]
    split <;> rfl
  have hx : ∀ {k : Nat} {p : Prop}, atB (List.replicate ws.length false) k = true → p := fun h => by rw [hf] at h; cases h
  exact ⟨by simp, ho, fun k _ h => hx h, fun k j _ _ h => hx h, fun k _ h => hx h, fun k _ h => hx h, fun k _ h => hx h, fun k _ h => hx h⟩
theorem sw_end {ws : Ws} {gone : List Bool} {out : List Int} {r : Nat → Nat} {J : Nat} (h : SwI ws gone out r J) (hall : ∀ k, k < ws.length → atB gone k = true) : TTC ws out r :=
  ⟨h.lo, fun k hk => (h.rng k hk (hall k hk)).1, fun k j hk hj e => h.inj k j hk hj (hall k hk) (hall j hj) e, fun k hk => h.same k hk (hall k hk), fun k hk t ht hl => (h.more k hk (hall k hk) t ht hl).2, fun k hk => h.acc k hk (hall k hk)⟩
theorem mem_at {c : List Int} {x : Int} (h : x ∈ c) : ∃ q, q < c.length ∧ atI c q = x := by
  obtain ⟨q, hq, e⟩ := List.getElem_of_mem h
  exact ⟨q, hq, by rw [atI_eq hq]; exact e⟩
theorem at_mem {c : List Int} {q : Nat} (h : q < c.length) : atI c q ∈ c := by rw [atI_eq h]; exact List.getElem_mem _
theorem nodup_at {c : List Int} (h : c.Nodup) {p q : Nat} (hp : p < c.length) (hq : q < c.length) (e : atI c p = atI c q) : p = q := by
  rw [atI_eq hp, atI_eq hq] at e
  have hne := List.pairwise_iff_getElem.1 (List.nodup_iff_pairwise_ne.1 h)
  rcases Nat.lt_trichotomy p q with hl | hl | hl
  · exact absurd e (hne p q hp hq hl)
  · exact hl
  · exact absurd e.symm (hne q p hq hp hl)
theorem Circ.in_ {ws : Ws} {gone : List Bool} {c : List Int} (h : Circ ws gone c) {x : Int} (hx : x ∈ c) : nxtL ws gone x ∈ c := by
  obtain ⟨q, hq, rfl⟩ := mem_at hx
  rw [h.nxt q hq]
  exact at_mem (Nat.mod_lt _ (by omega))
theorem Circ.inj {ws : Ws} {gone : List Bool} {c : List Int} (h : Circ ws gone c) {x y : Int} (hx : x ∈ c) (hy : y ∈ c) (e : nxtL ws gone x = nxtL ws gone y) : x = y := by
  obtain ⟨p, hp, rfl⟩ := mem_at hx
  obtain ⟨q, hq, rfl⟩ := mem_at hy
  rw [h.nxt p hp, h.nxt q hq] at e
  have := nodup_at h.nd (Nat.mod_lt _ (by omega)) (Nat.mod_lt _ (by omega)) e
  have hpq : p = q := by
    rcases Nat.lt_or_ge (p + 1) c.length with h1 | h1 <;> rcases Nat.lt_or_ge (q + 1) c.length with h2 | h2
    · rw [Nat.mod_eq_of_lt h1, Nat.mod_eq_of_lt h2] at this; omega
    · rw [Nat.mod_eq_of_lt h1, show q + 1 = c.length by omega, Nat.mod_self] at this; omega
    · rw [Nat.mod_eq_of_lt h2, show p + 1 = c.length by omega, Nat.mod_self] at this; omega
    · omega
  rw [hpq]
/-- a circle leaves -/
theorem sw_step {ws : Ws} (hr : Right ws) {gone : List Bool} {out : List Int} {r : Nat → Nat} {J : Nat} (h : SwI ws gone out r J) {c : List Int} (hc : Circ ws gone c) :
    SwI ws (setT gone c) (setO out c (nxtL ws gone)) (fun k => if (k : Int) ∈ c then J else r k) (J + 1) := by
  have hlg := h.lg
  have hlo := h.lo
  have hg : ∀ j, atB (setT gone c) j = (decide ((j : Int) ∈ c) || atB gone j) := fun j => setT_at j c gone (fun x hx => by rw [hlg]; exact hc.rng x hx)
  have ho : ∀ j : Nat, atI (setO out c (nxtL ws gone)) j = if (j : Int) ∈ c then nxtL ws gone j else atI out j := fun j => setO_at _ j c out (fun x hx => by rw [hlo]; exact hc.rng x hx)
  have hno : ∀ j : Nat, (j : Int) ∈ c → atB gone j = false := fun j hj => by have := hc.there _ hj; rwa [Int.toNat_natCast] at this
  have hnat : ∀ {x : Int}, x ∈ c → ∃ j : Nat, x = j := fun {x} hx => ⟨x.toNat, by have := hc.rng x hx; omega⟩
  have hold : ∀ {k : Nat}, atB (setT gone c) k = true → (k : Int) ∉ c → atB gone k = true := fun {k} hk hn => by rw [hg] at hk; simpa [hn] using hk
  refine ⟨by rw [setT_len, hlg], by rw [setO_len, hlo], fun k hk hgk => ?_, fun k j hk hj hgk hgj e => ?_, fun k hk hgk => ?_, fun k hk hgk => ?_, fun k hk hgk t ht hl => ?_, fun k hk hgk => ?_⟩
  · rw [ho]
    by_cases hm : (k : Int) ∈ c
    · rw [if_pos hm]
      have h1 := hc.in_ hm
      have h2 := hc.rng _ h1
      refine ⟨h2, ?_⟩
      rw [hg, Int.toNat_of_nonneg h2.1]; simp [h1]
    · rw [if_neg hm]
      have h1 := h.rng k hk (hold hgk hm)
      exact ⟨h1.1, by rw [hg, h1.2]; simp⟩
  · rw [ho, ho] at e
    by_cases hm : (k : Int) ∈ c <;> by_cases hn : (j : Int) ∈ c
    · rw [if_pos hm, if_pos hn] at e
      have := hc.inj hm hn e; omega
    · rw [if_pos hm, if_neg hn] at e
      have h1 := (h.rng j hj (hold hgj hn)).2
      rw [← e, hc.there _ (hc.in_ hm)] at h1; cases h1
    · rw [if_neg hm, if_pos hn] at e
      have h1 := (h.rng k hk (hold hgk hm)).2
      rw [e, hc.there _ (hc.in_ hn)] at h1; cases h1
    · rw [if_neg hm, if_neg hn] at e
      exact h.inj k j hk hj (hold hgk hm) (hold hgj hn) e
  · rw [ho]
    by_cases hm : (k : Int) ∈ c
    · rw [if_pos hm]
      have h1 := hc.in_ hm
      have h2 := hc.rng _ h1
      simp only [hm, if_true]
      rw [if_pos (by rw [Int.toNat_of_nonneg h2.1]; exact h1)]
    · rw [if_neg hm]
      have h1 := h.rng k hk (hold hgk hm)
      have h2 : ((atI out k).toNat : Int) ∉ c := fun hh => by have := hno _ hh; rw [h1.2] at this; cases this
      simp only [hm, h2, if_false]
      exact h.same k hk (hold hgk hm)
  · by_cases hm : (k : Int) ∈ c
    · simp only [hm, if_true]; omega
    · simp only [hm, if_false]; have := h.low k hk (hold hgk hm); omega
  · rw [ho] at hl
    by_cases hm : (k : Int) ∈ c
    · rw [if_pos hm] at hl
      have h1 := (best_law hr hk (hno k hm)).2.2.2 t hl
      have h2 : (t : Int) ∉ c := fun hh => by have := hno _ hh; rw [h1] at this; cases this
      simp only [hm, h2, if_true, if_false]
      exact ⟨by rw [hg, h1]; simp, h.low t ht h1⟩
    · rw [if_neg hm] at hl
      obtain ⟨h1, h3⟩ := h.more k hk (hold hgk hm) t ht hl
      have h2 : (t : Int) ∉ c := fun hh => by have := hno _ hh; rw [h1] at this; cases this
      simp only [hm, h2, if_false]
      exact ⟨by rw [hg, h1]; simp, h3⟩
  · rw [ho]
    by_cases hm : (k : Int) ∈ c
    · rw [if_pos hm]; exact (best_law hr hk (hno k hm)).2.2.1
    · rw [if_neg hm]; exact h.acc k hk (hold hgk hm)
/-- the way that pointers lead, till it meets itself -/
structure Way (ws : Ws) (gone : List Bool) (way : List Int) (i : Int) : Prop where
  nd : way.Nodup
  rng : ∀ x ∈ way, 0 ≤ x ∧ x < ws.length
  there : ∀ x ∈ way, atB gone x.toNat = false
  irng : 0 ≤ i ∧ i < ws.length
  ithere : atB gone i.toNat = false
  step : ∀ q, q + 1 < way.length → nxtL ws gone (atI way q) = atI way (q + 1)
  last : way ≠ [] → nxtL ws gone (atI way (way.length - 1)) = i
theorem way_start {ws : Ws} {gone : List Bool} {i : Int} (h1 : 0 ≤ i ∧ i < ws.length) (h2 : atB gone i.toNat = false) : Way ws gone [] i :=
  ⟨List.nodup_nil, fun x h => (by cases h), fun x h => (by cases h), h1, h2, fun q h => by simp at h, fun h => absurd rfl h⟩
theorem way_next {ws : Ws} (hr : Right ws) {gone : List Bool} {way : List Int} {i : Int} (h : Way ws gone way i) (hi : i ∉ way) : Way ws gone (way ++ [i]) (nxtL ws gone i) := by
  obtain ⟨k, rfl⟩ : ∃ k : Nat, i = k := ⟨i.toNat, by have := h.irng; omega⟩
  have hk := h.irng
  have hb := best_law hr (k := k) (by omega) (by have := h.ithere; rwa [Int.toNat_natCast] at this)
  have hat : ∀ q, q < way.length → atI (way ++ [(k : Int)]) q = atI way q := fun q hq => by
    unfold atI; simp only [List.getD_eq_getElem?_getD, List.getElem?_append_left hq]
  have hal : atI (way ++ [(k : Int)]) way.length = k := by
    unfold atI; simp
  refine ⟨by rw [List.nodup_append]; exact ⟨h.nd, by simp, fun a ha b hb e => by simp at hb; subst hb; subst e; exact hi ha⟩, fun x hx => ?_, fun x hx => ?_, hb.1, hb.2.1, fun q hq => ?_, fun _ => ?_⟩
  · rcases List.mem_append.1 hx with hx | hx
    · exact h.rng x hx
    · simp at hx; subst hx; exact h.irng
  · rcases List.mem_append.1 hx with hx | hx
    · exact h.there x hx
    · simp at hx; subst hx; exact h.ithere
  · simp only [List.length_append, List.length_cons, List.length_nil] at hq
    rw [hat q (by omega)]
    by_cases hl : q + 1 < way.length
    · rw [hat _ hl]; exact h.step q hl
    · rw [show q + 1 = way.length by omega, hal]
      have := h.last (fun e => by subst e; simp at hq)
      rwa [show way.length - 1 = q by omega] at this
  · simp only [List.length_append, List.length_cons, List.length_nil, Nat.add_sub_cancel]
    rw [hal]
theorem way_stop {ws : Ws} {gone : List Bool} {way : List Int} {a : Nat} (ha : a < way.length) (h : Way ws gone way (atI way a)) : Circ ws gone (way.drop a) := by
  have hl : (way.drop a).length = way.length - a := List.length_drop
  have hat : ∀ q, atI (way.drop a) q = atI way (a + q) := fun q => by unfold atI; simp [List.getD_eq_getElem?_getD, List.getElem?_drop]
  refine ⟨fun e => by have := congrArg List.length e; rw [hl] at this; simp at this; omega, h.nd.sublist (List.drop_sublist _ _), fun x hx => h.rng x (List.mem_of_mem_drop hx), fun x hx => h.there x (List.mem_of_mem_drop hx), fun q hq => ?_⟩
  rw [hl] at hq ⊢
  rw [hat, hat]
  by_cases hq1 : q + 1 < way.length - a
  · rw [Nat.mod_eq_of_lt hq1, h.step (a + q) (by omega)]; rfl
  · rw [show q + 1 = way.length - a by omega, Nat.mod_self, Nat.add_zero]
    have := h.last (fun e => by subst e; simp at ha)
    rwa [show way.length - 1 = a + q by omega] at this
theorem nodup_rng {l : List Int} {n : Nat} (h : l.Nodup) (hr : ∀ x ∈ l, 0 ≤ x ∧ x < (n : Int)) : l.length ≤ n := by
  have := nodup_le (l := l.map Int.toNat) (m := List.range n) (nodup_map _ h (fun x hx y hy e => by have := hr x hx; have := hr y hy; omega)) (fun x hx => by
    obtain ⟨k, hk, rfl⟩ := List.mem_map.1 hx
    have := hr k hk
    exact List.mem_range.2 (by omega))
  simpa using this
theorem Way.few {ws : Ws} {gone : List Bool} {way : List Int} {i : Int} (h : Way ws gone way i) : way.length ≤ ws.length := nodup_rng h.nd h.rng
/-- how many are there -/
def thereN (gone : List Bool) : Nat := (gone.filter (fun b => !b)).length

/-! ### what the walks lean on -/
def encI (n : Int) : List Go.Value := [.int .i64 n]
def encB (b : Bool) : List Go.Value := [.bool b]
def gr (ps : List (Go.Value × List Int)) : Ws := ps.map (·.2)
theorem gr_len (ps : List (Go.Value × List Int)) : (gr ps).length = ps.length := by simp [gr]
theorem gr_row (ps : List (Go.Value × List Int)) {i : Nat} (h : i < ps.length) : rowG (gr ps) i = ps[i].2 := by
  rw [rowG_eq (by rw [gr_len]; exact h)]; simp [gr]
theorem find_no {xs : List Int} {n : Int} (h : ∀ j (h : j < xs.length), xs[j] ≠ n) : n ∉ xs := fun hm => by
  obtain ⟨j, hj, e⟩ := List.getElem_of_mem hm
  exact h j hj e
def fewW (ws : Ws) (n : Int) : Bool := decide ((ws.length : Int) ≤ n) && ws.all (fun l => decide ((l.length : Int) ≤ 40))
theorem few_no {ps : List (Go.Value × List Int)} {n : Int} (k : Nat) (hk : k < ps.length) (h : (ps[k].2.length : Int) > 40) : fewW (gr ps) n = false := by
  rw [Bool.eq_false_iff]
  intro e
  simp only [fewW, Bool.and_eq_true, List.all_eq_true, decide_eq_true_eq] at e
  have := e.2 ps[k].2 (by unfold gr; exact List.mem_map.2 ⟨_, List.getElem_mem hk, rfl⟩)
  omega
theorem few_end {ps : List (Go.Value × List Int)} (n : Int) (hno : ∀ j (h : j < ps.length), (ps[j].2.length : Int) ≤ 40) : fewW (gr ps) n = decide ((ps.length : Int) ≤ n) := by
  unfold fewW
  rw [gr_len, show (gr ps).all (fun l => decide ((l.length : Int) ≤ 40)) = true from List.all_eq_true.2 (fun l hl => by
    obtain ⟨p, hp, rfl⟩ := List.mem_map.1 hl
    obtain ⟨j, hj, rfl⟩ := List.getElem_of_mem hp
    exact decide_eq_true (hno j hj)), Bool.and_true]
theorem few_parts {ws : Ws} {n : Int} (h : fewW ws n = true) : (ws.length : Int) ≤ n ∧ ∀ i, ((rowG ws i).length : Int) ≤ 40 := by
  simp only [fewW, Bool.and_eq_true, List.all_eq_true, decide_eq_true_eq] at h
  refine ⟨h.1, fun i => ?_⟩
  by_cases hi : i < ws.length
  · rw [rowG_eq hi]; exact h.2 _ (List.getElem_mem hi)
  · rw [rowG_out (by omega)]; simp
/-- numbers below n, none twice -/
def RowOK (n : Nat) (l : List Int) : Prop := ∀ j, j < l.length → (0 ≤ atI l j ∧ atI l j < n) ∧ ∀ q, q < j → atI l q ≠ atI l j
instance (n : Nat) (l : List Int) : Decidable (RowOK n l) := by unfold RowOK; infer_instance
def rightW (ws : Ws) : Bool := ws.all (fun l => decide (RowOK ws.length l))
theorem right_iff {ws : Ws} : rightW ws = true ↔ Right ws := by
  simp only [rightW, List.all_eq_true, decide_eq_true_eq]
  constructor
  · intro h
    refine ⟨fun i t ht => ?_, fun i => ?_⟩
    · by_cases hi : i < ws.length
      · rw [rowG_eq hi] at ht
        obtain ⟨q, hq, rfl⟩ := mem_at ht
        exact (h _ (List.getElem_mem hi) q hq).1
      · rw [rowG_out (by omega)] at ht; cases ht
    · by_cases hi : i < ws.length
      · rw [rowG_eq hi, List.nodup_iff_pairwise_ne, List.pairwise_iff_getElem]
        intro a b ha hb hab
        have := (h _ (List.getElem_mem hi) b hb).2 a hab
        rwa [atI_eq ha, atI_eq hb] at this
      · rw [rowG_out (by omega)]; exact List.nodup_nil
  · intro h l hl j hj
    obtain ⟨i, hi, rfl⟩ := List.getElem_of_mem hl
    have e := rowG_eq hi
    refine ⟨h.rng i _ (by rw [e]; exact at_mem hj), fun q hq e2 => ?_⟩
    have := h.nd i
    rw [e] at this
    have := nodup_at this (by omega) hj e2
    omega
theorem right_no {ps : List (Go.Value × List Int)} (k j : Nat) (hk : k < ps.length) (hj : j < ps[k].2.length) (h : ¬ ((0 ≤ atI ps[k].2 j ∧ atI ps[k].2 j < ps.length) ∧ ∀ q, q < j → atI ps[k].2 q ≠ atI ps[k].2 j)) : rightW (gr ps) = false := by
  rw [Bool.eq_false_iff]
  intro e
  simp only [rightW, List.all_eq_true, decide_eq_true_eq, gr_len] at e
  exact h (e ps[k].2 (List.mem_map.2 ⟨_, List.getElem_mem hk, rfl⟩) j hj)
theorem right_yes {ps : List (Go.Value × List Int)} (h : ∀ k (hk : k < ps.length), RowOK ps.length ps[k].2) : rightW (gr ps) = true := by
  simp only [rightW, List.all_eq_true, decide_eq_true_eq, gr_len]
  intro l hl
  obtain ⟨p, hp, rfl⟩ := List.mem_map.1 hl
  obtain ⟨j, hj, rfl⟩ := List.getElem_of_mem hp
  exact h j hj
/-- the map of a set of numbers -/
def memS : List Int → Int → Option Bool
  | [] => fun _ => none
  | n :: l => Go.Gw.upd (memS l) n true
theorem memS_some (l : List Int) (x : Int) : memS l x = if x ∈ l then some true else none := by
  induction l with
  | nil => rfl
  | cons n l ih =>
    unfold memS Go.Gw.upd
    by_cases h : x = n
    · subst h; simp
    · rw [if_neg h, ih]; simp [h]
theorem memS_get (l : List Int) (x : Int) : (memS l x).getD false = decide (x ∈ l) := by
  rw [memS_some]; by_cases h : x ∈ l <;> simp [h]
theorem take_mem {l : List Int} {k : Nat} {x : Int} (hk : k ≤ l.length) : x ∈ l.take k ↔ ∃ q, q < k ∧ atI l q = x := by
  rw [List.mem_take_iff_getElem]
  constructor
  · rintro ⟨q, hq, e⟩; exact ⟨q, by omega, by rw [atI_eq (by omega)]; exact e⟩
  · rintro ⟨q, hq, e⟩; exact ⟨q, by omega, by rw [atI_eq (by omega)] at e; exact e⟩
theorem take_rev {l : List Int} {k : Nat} (hk : k < l.length) : (l.take (k + 1)).reverse = l[k] :: (l.take k).reverse := by
  rw [List.take_succ_eq_append_getElem hk]; simp
theorem not_before {l : List Int} {k : Nat} (hk : k < l.length) : (∀ q, q < k → atI l q ≠ atI l k) ↔ l[k] ∉ l.take k := by
  rw [take_mem (by omega), ← atI_eq hk]
  exact ⟨fun h ⟨q, h1, h2⟩ => h q h1 h2, fun h q h1 h2 => h ⟨q, h1, h2⟩⟩
def exchW (got : List Int) (n : Nat) : Bool := decide (got.length = n) && decide (RowOK n got)
theorem rep_at (n j : Nat) : atB (List.replicate n false) j = false := by
  unfold atB
  rw [List.getD_eq_getElem?_getD, List.getElem?_replicate]
  split <;> rfl
theorem setT_take {l : List Int} {n k : Nat} (hk : k < l.length) : (setT (List.replicate n false) (l.take k)).set l[k].toNat true = setT (List.replicate n false) (l.take (k + 1)) := by
  rw [List.take_succ_eq_append_getElem hk, setT_snoc]
theorem setT_get {l : List Int} {n k : Nat} (hk : k ≤ l.length) (hr : ∀ q, q < k → 0 ≤ atI l q ∧ atI l q < n) {x : Int} (hx : 0 ≤ x) : atB (setT (List.replicate n false) (l.take k)) x.toNat = decide (x ∈ l.take k) := by
  rw [setT_at _ _ _ (fun y hy => by
    obtain ⟨q, h1, rfl⟩ := (take_mem hk).1 hy
    rw [List.length_replicate]; exact hr q h1), rep_at, Bool.or_false, Int.toNat_of_nonneg hx]

/-- where a number stands first; -1 if nowhere -/
def idxI (l : List Int) (n : Int) : Int := match findL l n with
  | some k => k
  | none => -1
theorem idxI_some {l : List Int} {n : Int} {k : Nat} (h1 : k < l.length) (h2 : atI l k = n) (h3 : ∀ j, j < k → atI l j ≠ n) : idxI l n = k := by
  rw [idxI, findL_some.2 ⟨h1, h2, h3⟩]
theorem idxI_none {l : List Int} {n : Int} (h : ∀ j, j < l.length → atI l j ≠ n) : idxI l n = -1 := by
  rw [idxI, findL_none.2 (fun hm => by obtain ⟨q, hq, e⟩ := mem_at hm; exact h q hq e)]

/-- of each list, what stands before this place is gone -/
structure AtOK (ws : Ws) (gone : List Bool) (at_ : List Int) : Prop where
  len : at_.length = ws.length
  ok : ∀ i, i < ws.length → 0 ≤ atI at_ i ∧ atI at_ i ≤ (rowG ws i).length ∧ ∀ q : Nat, (q : Int) < atI at_ i → atB gone (atI (rowG ws i) q).toNat = true
theorem at_start (ws : Ws) (gone : List Bool) : AtOK ws gone (List.replicate ws.length 0) := by
  have hf : ∀ k, k < ws.length → atI (List.replicate ws.length 0) k = 0 := fun k hk => by
    rw [atI_eq (by simpa using hk)]; simp
  exact ⟨by simp, fun i hi => by rw [hf i hi]; exact ⟨by omega, by omega, fun q hq => by omega⟩⟩
theorem AtOK.mono {ws : Ws} {gone gone2 : List Bool} {at_ : List Int} (h : AtOK ws gone at_) (hg : ∀ j, atB gone j = true → atB gone2 j = true) : AtOK ws gone2 at_ :=
  ⟨h.len, fun i hi => ⟨(h.ok i hi).1, (h.ok i hi).2.1, fun q hq => hg _ ((h.ok i hi).2.2 q hq)⟩⟩
theorem AtOK.step {ws : Ws} {gone : List Bool} {at_ : List Int} (h : AtOK ws gone at_) {i q : Nat} (hi : i < ws.length) (he : atI at_ i = q) (hq : q < (rowG ws i).length) (hg : atB gone (atI (rowG ws i) q).toNat = true) : AtOK ws gone (at_.set i ((q : Int) + 1)) := by
  have hl := h.len
  refine ⟨by simp [hl], fun j hj => ?_⟩
  rw [atI_set _ (by omega)]
  split
  · rename_i e; subst e
    refine ⟨by omega, by omega, fun p hp => ?_⟩
    by_cases hpq : p = q
    · subst hpq; exact hg
    · exact (h.ok j hi).2.2 p (by omega)
  · exact h.ok j hj
def placeM (way : List Int) : Int → Option Int := fun x => (findL way x).map (fun k => (k : Int))
theorem placeM_nil : placeM [] = fun _ => none := rfl
theorem findL_snoc (way : List Int) (k x : Int) (hk : k ∉ way) : findL (way ++ [k]) x = if x = k then some way.length else findL way x := by
  induction way with
  | nil => simp only [List.nil_append, findL]; by_cases h : k = x <;> simp [h]; exact fun e => h e.symm
  | cons a way ih =>
    have ha : k ≠ a := fun e => hk (by simp [e])
    have hk' : k ∉ way := fun h => hk (List.mem_cons_of_mem _ h)
    simp only [List.cons_append, findL]
    rw [ih hk']
    by_cases h1 : a = x
    · subst h1; rw [if_pos rfl, if_neg (Ne.symm ha), if_pos rfl]
    · rw [if_neg h1, if_neg h1]
      by_cases h2 : x = k
      · rw [if_pos h2, if_pos h2]; rfl
      · rw [if_neg h2, if_neg h2]
theorem placeM_next {way : List Int} {k : Int} (hk : k ∉ way) : Go.Gw.upd (placeM way) k (way.length : Int) = placeM (way ++ [k]) := by
  funext x
  unfold Go.Gw.upd placeM
  rw [findL_snoc way k x hk]
  by_cases h : x = k <;> simp [h]
def thereC (gone : List Bool) : Nat := ((List.range gone.length).filter (fun j => !atB gone j)).length
theorem there_less {ws : Ws} {gone : List Bool} {c : List Int} (hl : gone.length = ws.length) (h : Circ ws gone c) : thereC (setT gone c) < thereC gone := by
  have hg : ∀ j, atB (setT gone c) j = (decide ((j : Int) ∈ c) || atB gone j) := fun j => setT_at j c gone (fun x hx => by rw [hl]; exact h.rng x hx)
  obtain ⟨x, hx⟩ := List.exists_mem_of_ne_nil c h.ne
  have hr := h.rng x hx
  have := nodup_le (l := x.toNat :: (List.range (setT gone c).length).filter (fun j => !atB (setT gone c) j)) (m := (List.range gone.length).filter (fun j => !atB gone j))
    (List.nodup_cons.2 ⟨fun hm => by
      have := (List.mem_filter.1 hm).2
      rw [hg, Int.toNat_of_nonneg hr.1] at this
      simp [hx] at this, List.nodup_range.sublist List.filter_sublist⟩) (fun y hy => by
      rcases List.mem_cons.1 hy with rfl | hy
      · exact List.mem_filter.2 ⟨List.mem_range.2 (by omega), by rw [h.there x hx]; rfl⟩
      · obtain ⟨h1, h2⟩ := List.mem_filter.1 hy
        rw [setT_len] at h1
        refine List.mem_filter.2 ⟨h1, ?_⟩
        rw [hg] at h2
        simp only [Bool.not_or, Bool.and_eq_true] at h2
        exact h2.2)
  simp only [List.length_cons] at this
  unfold thereC; omega
theorem setT_keeps {ws : Ws} {gone : List Bool} {c : List Int} (hl : gone.length = ws.length) (h : Circ ws gone c) (j : Nat) (hj : atB gone j = true) : atB (setT gone c) j = true := by
  rw [setT_at j c gone (fun x hx => by rw [hl]; exact h.rng x hx), hj, Bool.or_true]
theorem setT_step {gone : List Bool} {c : List Int} {q : Nat} (hq : q < c.length) : (setT gone (c.take q)).set c[q].toNat true = setT gone (c.take (q + 1)) := by
  rw [List.take_succ_eq_append_getElem hq, setT_snoc]
theorem setO_step {out : List Int} {c : List Int} {f : Int → Int} {q : Nat} (hq : q < c.length) : (setO out (c.take q) f).set c[q].toNat (f c[q]) = setO out (c.take (q + 1)) f := by
  rw [List.take_succ_eq_append_getElem hq, setO_snoc]
end Go.Proofs.Ytoghkehlmibniaa
