/- Plain laws of layer 35: stable exchanges. No condition. -/
import Derived.Test.YtoghkehlmibniaaPlainB
namespace Go.Proofs.Ytoghkehlmibniaa
set_option linter.unusedVariables false
set_option linter.unusedSimpArgs false
open Go.Gw

/-- pointers to the tickets that a holder likes as much as what it gets, or more -/
def toW (ws : Ws) (got : List Int) : Nat → List Int := fun i => atI got i :: (rowG ws i).take (rankL (rowG ws i) i (atI got i))
structure StabP (ws : Ws) (got : List Int) : Prop where
  len : got.length = ws.length
  right : Right ws
  row : RowOK ws.length got
  acc : ∀ i, i < ws.length → rankL (rowG ws i) i (atI got i) ≤ rankL (rowG ws i) i i
  free : ∀ i, i < ws.length → ∀ t : Nat, (t : Int) ∈ (rowG ws i).take (rankL (rowG ws i) i (atI got i)) → ¬ (Rch (toW ws got) t i ∧ Rch (toW ws got) i t)
noncomputable def stabB (ws : Ws) (got : List Int) : Bool := @decide (ws.length ≤ 1000 ∧ StabP ws got) (Classical.propDecidable _)
theorem stab_yes {ws : Ws} {got : List Int} (hn : ws.length ≤ 1000) (h : StabP ws got) : stabB ws got = true := by unfold stabB; exact @decide_eq_true _ (Classical.propDecidable _) ⟨hn, h⟩
theorem stab_no {ws : Ws} {got : List Int} (h : ¬ (ws.length ≤ 1000 ∧ StabP ws got)) : stabB ws got = false := by unfold stabB; exact @decide_eq_false _ (Classical.propDecidable _) h
theorem stab_iff {ws : Ws} {got : List Int} : stabB ws got = true ↔ ws.length ≤ 1000 ∧ StabP ws got := by unfold stabB; exact ⟨fun h => @of_decide_eq_true _ (Classical.propDecidable _) h, fun h => @decide_eq_true _ (Classical.propDecidable _) h⟩

/-- the test of Stable says what acceptable means -/
theorem acc_test {l : List Int} {i t : Int} : ((0 ≤ idxI l i ∧ (idxI l t < 0 ∨ idxI l i < idxI l t)) ∨ (idxI l t < 0 ∧ t ≠ i)) ↔ ¬ rankL l i t ≤ rankL l i i := by
  unfold idxI rankL
  cases hi : findL l i with
  | some k =>
    have hk := findL_lt hi
    cases ht : findL l t with
    | some j => simp only; omega
    | none =>
      have hti : t ≠ i := fun e => by rw [e, hi] at ht; cases ht
      simp only [if_neg hti]; omega
  | none =>
    cases ht : findL l t with
    | some j => have hj := findL_lt ht; simp only [if_true]; omega
    | none =>
      by_cases hti : t = i
      · simp [hti]
      · simp [hti]
theorem idx_rank {l : List Int} {i t : Int} (h : 0 ≤ idxI l t) : idxI l t = (rankL l i t : Nat) := by
  unfold idxI rankL at *
  cases ht : findL l t with
  | some j => rfl
  | none => rw [ht] at h; simp at h
theorem idx_len {l : List Int} {i t : Int} (h : idxI l t < 0) (ha : rankL l i t ≤ rankL l i i) : l.length = rankL l i t := by
  have h1 := rank_own l i
  have h2 : findL l t = none := by
    unfold idxI at h
    cases ht : findL l t with
    | some j => rw [ht] at h; simp at h; omega
    | none => rfl
  have h3 : l.length ≤ rankL l i t := by
    unfold rankL; rw [h2]; simp only; split <;> omega
  omega
structure BetOK (ps : List (Go.Value × List Int)) (got : List Int) (qs : List (Go.Value × List Int)) (i : Nat) : Prop where
  len : qs.length = ps.length
  at_ : ∀ j (h : j < ps.length) (h2 : j < qs.length), j < i → qs[j] = (subV ps[j].1 0 (rankL ps[j].2 j (atI got j)) 1, ps[j].2.take (rankL ps[j].2 j (atI got j)))
  acc : ∀ j (h : j < ps.length), j < i → rankL ps[j].2 j (atI got j) ≤ rankL ps[j].2 j j
theorem bet_start (ps : List (Go.Value × List Int)) (got : List Int) (v : Go.Value) : BetOK ps got (List.replicate ps.length (v, [])) 0 :=
  ⟨by simp, fun j h h2 h3 => by omega, fun j h h2 => by omega⟩
theorem bet_step {ps : List (Go.Value × List Int)} {got : List Int} {qs : List (Go.Value × List Int)} {i m : Nat} (h : BetOK ps got qs i) (hi : i < ps.length) (hm : m = rankL ps[i].2 i (atI got i)) (ha : rankL ps[i].2 i (atI got i) ≤ rankL ps[i].2 i i) : BetOK ps got (qs.set i (subV ps[i].1 0 m 1, ps[i].2.take m)) (i + 1) := by
  refine ⟨by rw [List.length_set]; exact h.len, fun j hj h2 hji => ?_, fun j hj hji => ?_⟩
  · rw [List.getElem_set]
    split
    · rename_i e; subst e; rw [hm]
    · exact h.at_ j hj (by rw [List.length_set] at h2; exact h2) (by omega)
  · by_cases e : j = i
    · subst e; exact ha
    · exact h.acc j hj (by omega)
theorem bet_row {ps : List (Go.Value × List Int)} {got : List Int} {qs : List (Go.Value × List Int)} (h : BetOK ps got qs ps.length) (i : Nat) : rowG (gr qs) i = (rowG (gr ps) i).take (rankL (rowG (gr ps) i) i (atI got i)) := by
  by_cases hi : i < ps.length
  · have h2 : i < qs.length := by rw [h.len]; exact hi
    rw [gr_row qs h2, gr_row ps hi, h.at_ i hi h2 hi]
  · rw [rowG_out (by rw [gr_len, h.len]; omega), rowG_out (by rw [gr_len]; omega), List.take_nil]
theorem bet_to {ps : List (Go.Value × List Int)} {got : List Int} {qs : List (Go.Value × List Int)} (h : BetOK ps got qs ps.length) : toS got qs = toW (gr ps) got := by
  funext i; unfold toS toW; rw [bet_row h]
theorem right_len {ws : Ws} (h : Right ws) (i : Nat) : (rowG ws i).length ≤ ws.length := nodup_rng (h.nd i) (fun x hx => h.rng i x hx)
theorem to_rng {ws : Ws} {got : List Int} (h : Right ws) (hl : got.length = ws.length) (hr : RowOK ws.length got) {u : Nat} (hu : u < ws.length) {t : Int} (ht : t ∈ toW ws got u) : 0 ≤ t ∧ t < ws.length := by
  unfold toW at ht
  rcases List.mem_cons.1 ht with rfl | ht
  · exact (hr u (by omega)).1
  · exact h.rng u t (List.mem_of_mem_take ht)
theorem bet_acc {ps : List (Go.Value × List Int)} {got : List Int} {qs : List (Go.Value × List Int)} (h : BetOK ps got qs ps.length) : ∀ i, i < (gr ps).length → rankL (rowG (gr ps) i) i (atI got i) ≤ rankL (rowG (gr ps) i) i i := fun i hi => by
  rw [gr_len] at hi; rw [gr_row ps hi]; exact h.acc i hi hi
theorem bet_free {ps : List (Go.Value × List Int)} {got : List Int} {qs : List (Go.Value × List Int)} {out : List Nat} (h : BetOK ps got qs ps.length) (hr : Right (gr ps)) (hc : ∀ x y, x < ps.length → y < ps.length → (atN out x = atN out y ↔ Rch (toS got qs) x y ∧ Rch (toS got qs) y x))
    (hno : ∀ j (hj : j < qs.length), ∀ t ∈ qs[j].2, atN out t.toNat ≠ atN out j) : ∀ i, i < (gr ps).length → ∀ t : Nat, (t : Int) ∈ (rowG (gr ps) i).take (rankL (rowG (gr ps) i) i (atI got i)) → ¬ (Rch (toW (gr ps) got) t i ∧ Rch (toW (gr ps) got) i t) := fun i hi t ht hx => by
  rw [gr_len] at hi
  have h2 : i < qs.length := by rw [h.len]; exact hi
  have htn : t < ps.length := by have := (hr.rng i _ (List.mem_of_mem_take ht)).2; rw [gr_len] at this; omega
  rw [← bet_row h, gr_row qs h2] at ht
  have := hno i h2 t ht
  rw [Int.toNat_natCast] at this
  rw [← bet_to h] at hx
  exact this ((hc t i htn hi).2 hx)
theorem bet_bad {ps : List (Go.Value × List Int)} {got : List Int} {qs : List (Go.Value × List Int)} {out : List Nat} (h : BetOK ps got qs ps.length) (hr : Right (gr ps)) (hc : ∀ x y, x < ps.length → y < ps.length → (atN out x = atN out y ↔ Rch (toS got qs) x y ∧ Rch (toS got qs) y x))
    {i t : Nat} (hi : i < qs.length) (ht : (t : Int) ∈ qs[i].2) (e : atN out t = atN out i) : ¬ StabP (gr ps) got := fun hs => by
  have hi2 : i < ps.length := by rw [← h.len]; exact hi
  have hrow := bet_row h i
  rw [gr_row qs hi] at hrow
  rw [hrow] at ht
  have htn : t < ps.length := by have := (hr.rng i _ (List.mem_of_mem_take ht)).2; rw [gr_len] at this; omega
  have := (hc t i htn hi2).1 e
  rw [bet_to h] at this
  exact hs.free i (by rw [gr_len]; exact hi2) t ht this
end Go.Proofs.Ytoghkehlmibniaa
