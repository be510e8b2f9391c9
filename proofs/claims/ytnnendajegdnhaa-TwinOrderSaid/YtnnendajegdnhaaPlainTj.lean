/- Plain laws of layer 42: places that can be sold one after the other can be sold in any order. No condition. -/
import Derived.Test.YtnnendajegdnhaaPlainTi
namespace Go.Proofs.Ytnnendajegdnhaa
set_option linter.unusedVariables false
set_option linter.unusedSimpArgs false
open Go.Gw
theorem sub_perm {α : Type} [DecidableEq α] : ∀ {l m : List α}, l.Nodup → (∀ x ∈ l, x ∈ m) → ∃ r, m.Perm (l ++ r)
  | [], m, _, _ => ⟨m, List.Perm.refl _⟩
  | x :: l, m, hn, hs => by
    have hn' := List.nodup_cons.1 hn
    have hx : x ∈ m := hs x (by simp)
    obtain ⟨r, hr⟩ := sub_perm (l := l) (m := m.erase x) hn'.2 (fun y hy => (List.mem_erase_of_ne (by rintro rfl; exact hn'.1 hy)).2 (hs y (by simp [hy])))
    exact ⟨r, (List.perm_cons_erase hx).trans (hr.cons x)⟩
/-- what has been sold, beginning with the titles ts -/
structure Sold (old next : List Pl) (ts T : List Ow) (S : List Int) (k : Nat) : Prop where
  tw : TwOK old next T (20 + k)
  len : S.length ≤ k
  pl : plcs T = plcs ts ++ S
  rk : rk (oldsT old T) next = rk (oldsT old ts) next + S.length
section
variable {old next : List Pl} {ts T : List Ow} {S : List Int} {k : Nat}
theorem sold_0 (h : TwOK old next ts 20) : Sold old next ts ts [] 0 := ⟨h, Nat.le_refl _, by simp, by simp⟩
theorem plcs_append (a b : List Ow) : plcs (a ++ b) = plcs a ++ plcs b := by simp [plcs, moved_append]
theorem plcs_new {serial place : Int} (h : 0 ≤ place) : plcs [newOw serial place] = [place] := by unfold plcs; rw [moved_new h]; rfl
theorem sold_no (h : Sold old next ts T S k) {p s : Int} (he : sellE old next T p s ≠ 0) : Sold old next ts (sellT old next T p s) S (k + 1) := by
  rw [sellT_err he]; exact ⟨h.tw.mono (by omega), by have := h.len; omega, h.pl, h.rk⟩
theorem sold_yes (h : Sold old next ts T S k) {p s : Int} (he : sellE old next T p s = 0) : Sold old next ts (sellT old next T p s) (S ++ [p]) (k + 1) := by
  obtain ⟨h1, h2, h3, h4, h5⟩ := sell_parts he
  have hs := h.tw.sell p s
  have e : sellT old next T p s = T ++ [newOw s p] := by unfold sellT; rw [if_pos he]
  have hk := rk_snoc (p := old.getD p.toNat pl0) (ps := oldsT old T) (next := next) (by rw [oldsT_len]; omega) h.tw.nx
  have hd : rk (oldsT old T ++ [old.getD p.toNat pl0]) next ≠ rk (oldsT old T) next := by unfold denyB at h5; simpa using h5
  refine ⟨hs, by have := h.len; simp; omega, by rw [e, plcs_append, plcs_new h1.1, h.pl, List.append_assoc], ?_⟩
  rw [e, oldsT_new h1.1, List.length_append, List.length_singleton]
  have := h.rk
  omega
theorem rk_more {a b next : List Pl} (h1 : (a ++ b).length ≤ 4000) (h2 : next.length ≤ 4000) : rk a next ≤ rk (a ++ b) next ∧ rk (a ++ b) next ≤ rk a next + b.length := by
  induction b generalizing a with
  | nil => simp
  | cons x r ih =>
    have e : a ++ x :: r = (a ++ [x]) ++ r := by simp
    rw [e] at h1 ⊢
    have hi := ih (a := a ++ [x]) h1
    have hs := rk_snoc (p := x) (ps := a) (next := next) (by simp at h1; omega) h2
    simp only [List.length_cons]
    omega
theorem plAt_append (old : List Pl) (a b : List Int) : plAt old (a ++ b) = plAt old a ++ plAt old b := by simp [plAt]
theorem Sold.nodup (h : Sold old next ts T S k) : (plcs ts ++ S).Nodup := by
  rw [← h.pl]
  unfold plcs
  exact (List.pairwise_map.2 (plOK_pw.1 (err_0.1 h.tw.err).2.2.2).2)
theorem Sold.rng (h : Sold old next ts T S k) : ∀ p ∈ S, 0 ≤ p ∧ p < old.length := fun p hp => plcs_ok h.tw p (by rw [h.pl]; exact List.mem_append_right _ hp)
theorem Sold.size (h : Sold old next ts T S k) : (plcs ts ++ S).length ≤ 20 + k := by
  rw [← h.pl, plcs_len]; exact h.tw.ml
/-- a part of what has been sold, in any order, and one more of it -/
theorem sold_any (h : Sold old next ts T S k) (hk : k ≤ 100) {R : List Int} {p : Int} (hn : (R ++ [p]).Nodup) (hs : ∀ x ∈ R ++ [p], x ∈ S) : rk (plAt old (plcs ts ++ R ++ [p])) next = rk (plAt old (plcs ts ++ R)) next + 1 := by
  obtain ⟨r, hr⟩ := sub_perm hn hs
  have hsz := h.size
  have hl := hr.length_eq
  simp only [List.length_append, List.length_singleton] at hl hsz
  have hx := h.tw.nx
  have e0 : rk (oldsT old T) next = rk (plAt old (plcs ts ++ R ++ [p] ++ r)) next := by
    rw [← plAt_plcs, h.pl]
    refine rk_perm ?_ (by rw [plAt_len, List.length_append]; omega) hx
    unfold plAt
    refine List.Perm.map _ ?_
    rw [List.append_assoc (plcs ts), List.append_assoc (plcs ts)]
    exact List.Perm.append_left _ hr
  have hrk := h.rk
  rw [e0, ← plAt_plcs] at hrk
  have h1 := rk_more (a := plAt old (plcs ts ++ R ++ [p])) (b := plAt old r) (next := next) (by rw [← plAt_append, plAt_len]; simp; omega) hx
  have h2 := rk_more (a := plAt old (plcs ts)) (b := plAt old R) (next := next) (by rw [← plAt_append, plAt_len]; simp; omega) hx
  have h3 := rk_snoc (p := old.getD p.toNat pl0) (ps := plAt old (plcs ts ++ R)) (next := next) (by rw [plAt_len]; simp; omega) hx
  rw [← plAt_append] at h1 h2
  rw [← plAt_snoc] at h3
  rw [plAt_len] at h1 h2
  omega
/-- the new titles of the second pass -/
def newsK (S : List Int) (o : Nat → Nat) (i : Nat) : List Ow := (List.range i).map (fun j : Nat => newOw (900000 + (j : Int)) (S.getD (o j) 0))
def takenK (S : List Int) (o : Nat → Nat) (i : Nat) : List Int := (List.range i).map (fun j : Nat => S.getD (o j) 0)
theorem newsK_succ (S : List Int) (o : Nat → Nat) (i : Nat) : newsK S o (i + 1) = newsK S o i ++ [newOw (900000 + (i : Int)) (S.getD (o i) 0)] := by
  unfold newsK; rw [List.range_succ, List.map_append]; rfl
theorem takenK_succ (S : List Int) (o : Nat → Nat) (i : Nat) : takenK S o (i + 1) = takenK S o i ++ [S.getD (o i) 0] := by
  unfold takenK; rw [List.range_succ, List.map_append]; rfl
theorem getD_at {S : List Int} {j : Nat} (h : j < S.length) : S.getD j 0 = S[j] := by rw [List.getD_eq_getElem?_getD, List.getElem?_eq_getElem h]; rfl
theorem takenK_nodup {S : List Int} {o : Nat → Nat} (hS : S.Nodup) (ho : ∀ j, j < S.length → o j < S.length) (hi : ∀ i j, i < S.length → j < S.length → o i = o j → i = j) {n : Nat} (hn : n ≤ S.length) : (takenK S o n).Nodup := by
  unfold takenK
  refine List.pairwise_map.2 (List.pairwise_iff_getElem.2 (fun i j hi' hj' hij => ?_))
  simp only [List.length_range] at hi' hj'
  simp only [List.getElem_range]
  rw [getD_at (ho i (by omega)), getD_at (ho j (by omega))]
  intro e
  have := (List.getElem_inj hS).1 e
  have := hi i j (by omega) (by omega) this
  omega
theorem takenK_sub {S : List Int} {o : Nat → Nat} (ho : ∀ j, j < S.length → o j < S.length) {n : Nat} (hn : n ≤ S.length) : ∀ x ∈ takenK S o n, x ∈ S := fun x hx => by
  obtain ⟨j, hj, rfl⟩ := List.mem_map.1 hx
  have := List.mem_range.1 hj
  rw [getD_at (ho j (by omega))]
  exact List.getElem_mem _
theorem newsK_plcs {S : List Int} {o : Nat → Nat} (hr : ∀ p ∈ S, 0 ≤ p) (ho : ∀ j, j < S.length → o j < S.length) : ∀ {n : Nat}, n ≤ S.length → plcs (newsK S o n) = takenK S o n
  | 0, _ => rfl
  | n + 1, h => by
    rw [newsK_succ, takenK_succ, plcs_append, newsK_plcs hr ho (n := n) (by omega), plcs_new]
    rw [getD_at (ho n (by omega))]
    exact hr _ (List.getElem_mem _)
theorem order_ok (h : Sold old next ts T S k) (hk : k ≤ 20) (htw : TwOK old next ts 20) (hser : ∀ x ∈ ts, x.serial < 900000) {o : Nat → Nat} (ho : ∀ j, j < S.length → o j < S.length) (hi : ∀ i j, i < S.length → j < S.length → o i = o j → i = j) :
    ∀ n, n ≤ S.length → TwOK old next (ts ++ newsK S o n) (20 + n) ∧ (n < S.length → sellE old next (ts ++ newsK S o n) (S.getD (o n) 0) (900000 + (n : Int)) = 0)
  | 0, _ => ⟨by simpa [newsK] using htw, fun hn => order_sell h hk htw hser ho hi (by simpa [newsK] using htw) hn⟩
  | n + 1, hn => by
    obtain ⟨h1, h2⟩ := order_ok h hk htw hser ho hi n (by omega)
    have he := h2 (by omega)
    have hs := h1.sell (S.getD (o n) 0) (900000 + (n : Int))
    have e : sellT old next (ts ++ newsK S o n) (S.getD (o n) 0) (900000 + (n : Int)) = ts ++ newsK S o (n + 1) := by
      unfold sellT; rw [if_pos he, newsK_succ, List.append_assoc]
    rw [e] at hs
    exact ⟨hs, fun hn => order_sell h hk htw hser ho hi hs hn⟩
where
  order_sell (h : Sold old next ts T S k) (hk : k ≤ 20) (htw : TwOK old next ts 20) (hser : ∀ x ∈ ts, x.serial < 900000) {o : Nat → Nat} (ho : ∀ j, j < S.length → o j < S.length) (hi : ∀ i j, i < S.length → j < S.length → o i = o j → i = j) {n : Nat}
      (ht : TwOK old next (ts ++ newsK S o n) (20 + n)) (hn : n < S.length) : sellE old next (ts ++ newsK S o n) (S.getD (o n) 0) (900000 + (n : Int)) = 0 := by
    have hpS : S.getD (o n) 0 ∈ S := by rw [getD_at (ho n hn)]; exact List.getElem_mem _
    have hr := h.rng
    have hlen := h.len
    have hnd := List.nodup_append.1 h.nodup
    have hpl : plcs (ts ++ newsK S o n) = plcs ts ++ takenK S o n := by rw [plcs_append, newsK_plcs (fun p hp => (hr p hp).1) ho (by omega)]
    have htk := takenK_nodup hnd.2.1 ho hi (n := n + 1) (by omega)
    rw [takenK_succ] at htk
    have hsub := takenK_sub ho (n := n + 1) (by omega)
    rw [takenK_succ] at hsub
    have hml := ht.ml
    have hA : argB old.length (S.getD (o n) 0) (900000 + (n : Int)) = false := by
      have := hr _ hpS
      simp only [argB, Bool.or_eq_false_iff, decide_eq_false_iff_not]; omega
    have hU : usedB (ts ++ newsK S o n) (900000 + (n : Int)) = false := used_no (fun y hy => by
      rcases List.mem_append.1 hy with h' | h'
      · have := hser y h'; omega
      · obtain ⟨j, hj, rfl⟩ := List.mem_map.1 h'
        have := List.mem_range.1 hj
        show (900000 + (j : Int)) ≠ _
        omega)
    have hT : takenB (ts ++ newsK S o n) (S.getD (o n) 0) = false := by
      rw [takenB, List.any_eq_false]
      intro x hx
      have hm : x.place ∈ plcs (ts ++ newsK S o n) := List.mem_map.2 ⟨x, hx, rfl⟩
      rw [hpl] at hm
      simp only [decide_eq_true_eq]
      rintro e
      rw [e] at hm
      rcases List.mem_append.1 hm with h' | h'
      · exact hnd.2.2 _ h' _ hpS rfl
      · exact (List.nodup_append.1 htk).2.2 _ h' _ (by simp) rfl
    refine (sellE_ok hA hU hT (by omega) ?_).1
    have hany := sold_any h (by omega) htk hsub
    unfold denyB
    rw [decide_eq_false_iff_not, ← plAt_plcs old (ts ++ newsK S o n), ← plAt_snoc, hpl, hany]
    omega
end
/-- the two orders -/
def ordT (turn by_ n : Nat) (j : Nat) : Nat := if turn = 1 then (j + by_) % n else n - 1 - j
theorem ordT_lt {turn by_ n j : Nat} (h : j < n) : ordT turn by_ n j < n := by
  unfold ordT
  split
  · exact Nat.mod_lt _ (by omega)
  · omega
theorem ordT_inj {turn by_ n : Nat} : ∀ i j, i < n → j < n → ordT turn by_ n i = ordT turn by_ n j → i = j := by
  intro i j hi hj h
  unfold ordT at h
  split at h
  · have h1 : (i + by_ % n) % n = (j + by_ % n) % n := by
      rw [Nat.add_mod i by_ n, Nat.add_mod j by_ n] at h
      rw [Nat.mod_eq_of_lt hi, Nat.mod_eq_of_lt hj] at h
      exact h
    have hb : by_ % n < n := Nat.mod_lt _ (by omega)
    generalize by_ % n = c at h1 hb
    by_cases a1 : i + c < n
    · rw [Nat.mod_eq_of_lt a1] at h1
      by_cases a2 : j + c < n
      · rw [Nat.mod_eq_of_lt a2] at h1; omega
      · rw [Nat.mod_eq_sub_mod (by omega), Nat.mod_eq_of_lt (by omega)] at h1; omega
    · rw [Nat.mod_eq_sub_mod (by omega), Nat.mod_eq_of_lt (a := i + c - n) (by omega)] at h1
      by_cases a2 : j + c < n
      · rw [Nat.mod_eq_of_lt a2] at h1; omega
      · rw [Nat.mod_eq_sub_mod (by omega), Nat.mod_eq_of_lt (a := j + c - n) (by omega)] at h1; omega
  · omega
end Go.Proofs.Ytnnendajegdnhaa
