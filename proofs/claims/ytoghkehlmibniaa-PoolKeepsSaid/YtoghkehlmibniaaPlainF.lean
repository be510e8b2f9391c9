/- Plain laws of layer 35: turned numbers, lists without what does not count, many holders. No condition. -/
import Derived.Test.YtoghkehlmibniaaPlainE
namespace Go.Proofs.Ytoghkehlmibniaa
set_option linter.unusedVariables false
set_option linter.unusedSimpArgs false
open Go.Gw

theorem atI_map (f : Int → Int) {l : List Int} {k : Nat} (h : k < l.length) : atI (l.map f) k = f (atI l k) := by
  rw [atI_eq (by simpa using h), atI_eq h]; simp
theorem atI_gen (f : Nat → Int) {n k : Nat} (h : k < n) : atI ((List.range n).map f) k = f k := by
  rw [atI_eq (by simpa using h)]; simp
theorem rowG_gen (f : Nat → List Int) {n k : Nat} (h : k < n) : rowG ((List.range n).map f) k = f k := by
  rw [rowG_eq (by simpa using h)]; simp
theorem rows_ext {ws ws2 : Ws} (hl : ws2.length = ws.length) (h : ∀ k, k < ws.length → rowG ws2 k = rowG ws k) : ws2 = ws :=
  List.ext_getElem hl (fun k h1 h2 => by have := h k h2; rwa [rowG_eq h1, rowG_eq h2] at this)
/-- a map that keeps places apart keeps ranks -/
theorem find_map {f : Int → Int} (hf : ∀ x y, f x = f y → x = y) (l : List Int) (t : Int) : findL (l.map f) (f t) = findL l t := by
  cases h : findL l t with
  | none => exact findL_none.2 (fun hm => by
      obtain ⟨x, hx, e⟩ := List.mem_map.1 hm
      exact findL_none.1 h (by rw [← hf _ _ e]; exact hx))
  | some k =>
    obtain ⟨h1, h2, h3⟩ := findL_some.1 h
    exact findL_some.2 ⟨by simpa using h1, by rw [atI_map f h1, h2], fun j hj e => by rw [atI_map f (by omega)] at e; exact h3 j hj (hf _ _ e)⟩
theorem rank_map {f : Int → Int} (hf : ∀ x y, f x = f y → x = y) (l : List Int) (i t : Int) : rankL (l.map f) (f i) (f t) = rankL l i t := by
  unfold rankL
  rw [find_map hf]
  cases findL l t with
  | some k => rfl
  | none =>
    simp only [List.length_map]
    by_cases e : t = i
    · subst e; simp
    · rw [if_neg e, if_neg (fun h => e (hf _ _ h))]
def turnT (n : Nat) (t : Int) : Int := if 0 ≤ t ∧ t < n then n - 1 - t else t
theorem turn_inj (n : Nat) (x y : Int) (h : turnT n x = turnT n y) : x = y := by
  unfold turnT at h; split at h <;> split at h <;> omega
theorem turn_in {n : Nat} {t : Int} : (0 ≤ turnT n t ∧ turnT n t < n) ↔ (0 ≤ t ∧ t < n) := by
  unfold turnT; split <;> omega
theorem turn_at {n k : Nat} (h : k < n) : turnT n k = ((n - 1 - k : Nat) : Int) := by
  unfold turnT; rw [if_pos (by omega)]; omega
def turnW (ws : Ws) : Ws := (List.range ws.length).map (fun i => (rowG ws (ws.length - 1 - i)).map (turnT ws.length))
theorem turnW_len (ws : Ws) : (turnW ws).length = ws.length := by simp [turnW]
theorem turnW_row {ws : Ws} {k : Nat} (h : k < ws.length) : rowG (turnW ws) k = (rowG ws (ws.length - 1 - k)).map (turnT ws.length) := rowG_gen _ h
theorem turn_right {ws : Ws} : Right (turnW ws) ↔ Right ws := by
  constructor
  · intro h
    have key : ∀ i, i < ws.length → rowG (turnW ws) (ws.length - 1 - i) = (rowG ws i).map (turnT ws.length) := fun i hi => by
      rw [turnW_row (by omega), show ws.length - 1 - (ws.length - 1 - i) = i by omega]
    refine ⟨fun i t ht => ?_, fun i => ?_⟩
    · by_cases hi : i < ws.length
      · have := h.rng (ws.length - 1 - i) (turnT ws.length t) (by rw [key i hi]; exact List.mem_map.2 ⟨t, ht, rfl⟩)
        rw [turnW_len] at this
        exact turn_in.1 this
      · rw [rowG_out (by omega)] at ht; cases ht
    · by_cases hi : i < ws.length
      · have := h.nd (ws.length - 1 - i)
        rw [key i hi] at this
        exact (List.nodup_iff_pairwise_ne.2 ((List.pairwise_map.1 (List.nodup_iff_pairwise_ne.1 this)).imp (fun hne e => hne (by rw [e]))))
      · rw [rowG_out (by omega)]; exact List.nodup_nil
  · intro h
    refine ⟨fun i t ht => ?_, fun i => ?_⟩
    · by_cases hi : i < ws.length
      · rw [turnW_row hi] at ht
        obtain ⟨x, hx, rfl⟩ := List.mem_map.1 ht
        rw [turnW_len]
        exact turn_in.2 (h.rng _ x hx)
      · rw [rowG_out (by rw [turnW_len]; omega)] at ht; cases ht
    · by_cases hi : i < ws.length
      · rw [turnW_row hi]
        exact nodup_map _ (h.nd _) (fun x _ y _ e => turn_inj _ x y e)
      · rw [rowG_out (by rw [turnW_len]; omega)]; exact List.nodup_nil
theorem turn_ttc {ws : Ws} {out : List Int} {r : Nat → Nat} (h : TTC ws out r) : TTC (turnW ws) ((List.range ws.length).map (fun i => (ws.length : Int) - 1 - atI out (ws.length - 1 - i))) (fun k => r (ws.length - 1 - k)) := by
  have hat : ∀ k, k < ws.length → atI ((List.range ws.length).map (fun i => (ws.length : Int) - 1 - atI out (ws.length - 1 - i))) k = (ws.length : Int) - 1 - atI out (ws.length - 1 - k) := fun k hk => atI_gen _ hk
  have htn : ∀ k, k < ws.length → (ws.length : Int) - 1 - atI out (ws.length - 1 - k) = turnT ws.length (atI out (ws.length - 1 - k)) := fun k hk => by
    unfold turnT; rw [if_pos (h.rng _ (by omega))]
  have hown : ∀ k, k < ws.length → (k : Int) = turnT ws.length ((ws.length - 1 - k : Nat) : Int) := fun k hk => by rw [turn_at (by omega)]; omega
  refine ⟨by simp [turnW_len], fun k hk => ?_, fun k j hk hj e => ?_, fun k hk => ?_, fun k hk t ht hl => ?_, fun k hk => ?_⟩
  · rw [turnW_len] at hk ⊢
    rw [hat k hk]
    have := h.rng (ws.length - 1 - k) (by omega); omega
  · rw [turnW_len] at hk hj
    rw [hat k hk, hat j hj] at e
    have := h.inj (ws.length - 1 - k) (ws.length - 1 - j) (by omega) (by omega) (by omega)
    omega
  · rw [turnW_len] at hk
    rw [hat k hk]
    have h1 := h.rng (ws.length - 1 - k) (by omega)
    have h2 := h.same (ws.length - 1 - k) (by omega)
    show r _ = r _
    rw [← h2]; congr 1; omega
  · rw [turnW_len] at hk ht
    rw [hat k hk, htn k hk, turnW_row hk, hown k hk, hown t ht, rank_map (turn_inj _), rank_map (turn_inj _)] at hl
    exact h.more _ (by omega) _ (by omega) hl
  · rw [turnW_len] at hk
    rw [hat k hk, htn k hk, turnW_row hk, hown k hk, rank_map (turn_inj _), rank_map (turn_inj _)]
    exact h.acc _ (by omega)
theorem turn_law {ws : Ws} {out out2 : List Int} {e e2 : Int} (h : SwapRes ws out e) (h2 : SwapRes (turnW ws) out2 e2) : e = e2 ∧ out.length = out2.length ∧ ∀ k, k < out.length → out.length = ws.length ∧ atI out2 (ws.length - 1 - k) = (ws.length : Int) - 1 - atI out k := by
  rcases h with ⟨a, rfl, r, ht⟩ | ⟨a, rfl, rfl⟩ <;> rcases h2 with ⟨b, rfl, r2, ht2⟩ | ⟨b, rfl, rfl⟩
  · have := ttc_unique (turn_ttc ht) ht2
    subst this
    refine ⟨rfl, by simp [ht.len], fun k hk => ?_⟩
    have hl := ht.len
    refine ⟨hl, ?_⟩
    rw [atI_gen _ (by omega)]; congr 2; omega
  · rw [right_iff.2 (turn_right.2 (right_iff.1 a))] at b; cases b
  · rw [right_iff.2 (turn_right.1 (right_iff.1 b))] at a; cases a
  · exact ⟨rfl, rfl, fun k hk => by simp at hk⟩
/-- rows that are filled from the last -/
structure RowsDn (n : Nat) (f : Nat → List Int) (qs : List (Go.Value × List Int)) (i : Nat) : Prop where
  len : qs.length = n
  at_ : ∀ j (h2 : n - 1 - j < qs.length), j < i → qs[n - 1 - j].2 = f j
theorem dn_start (n : Nat) (f : Nat → List Int) (v : Go.Value) : RowsDn n f (List.replicate n (v, [])) 0 := ⟨by simp, fun j h hj => by omega⟩
theorem dn_step {n : Nat} {f : Nat → List Int} {qs : List (Go.Value × List Int)} {i : Nat} (h : RowsDn n f qs i) (hi : i < n) (v : Go.Value) {l : List Int} (hl : l = f i) : RowsDn n f (qs.set (n - 1 - i) (v, l)) (i + 1) :=
  ⟨by rw [List.length_set]; exact h.len, fun j h2 hj => by
    rw [List.getElem_set]
    split
    · rw [show j = i by omega, hl]
    · exact h.at_ j (by simpa using h2) (by omega)⟩
theorem dn_end {ps qs : List (Go.Value × List Int)} (h : RowsDn ps.length (fun j => (rowG (gr ps) j).map (turnT ps.length)) qs ps.length) : gr qs = turnW (gr ps) := by
  refine rows_ext (by rw [turnW_len, gr_len, gr_len, h.len]) (fun k hk => ?_)
  rw [turnW_len, gr_len] at hk
  rw [turnW_row (by rw [gr_len]; exact hk), gr_row qs (by rw [h.len]; exact hk), gr_len]
  have := h.at_ (ps.length - 1 - k) (by rw [h.len]; omega) (by omega)
  simp only [show ps.length - 1 - (ps.length - 1 - k) = k by omega] at this
  exact this

/-! ### without what does not count -/
def lessR (out : List Int) (l : List Int) (i : Int) : List Int := (l.take (rankL l i i)).filter (fun t => decide (atI out t.toNat ≠ t))
def lessW (ws : Ws) (out : List Int) : Ws := (List.range ws.length).map (fun (i : Nat) => lessR out (rowG ws i) (i : Int))
theorem lessW_len (ws : Ws) (out : List Int) : (lessW ws out).length = ws.length := by simp [lessW]
theorem lessW_row {ws : Ws} {out : List Int} {k : Nat} (h : k < ws.length) : rowG (lessW ws out) k = lessR out (rowG ws k) k := rowG_gen _ h
theorem less_sub {out l : List Int} {i : Int} : (lessR out l i).Sublist l := List.filter_sublist.trans (List.take_sublist _ _)
theorem less_right {ws : Ws} (h : Right ws) (out : List Int) : Right (lessW ws out) := by
  refine ⟨fun i t ht => ?_, fun i => ?_⟩
  · by_cases hi : i < ws.length
    · rw [lessW_row hi] at ht; rw [lessW_len]
      exact h.rng i t (less_sub.subset ht)
    · rw [rowG_out (by rw [lessW_len]; omega)] at ht; cases ht
  · by_cases hi : i < ws.length
    · rw [lessW_row hi]; exact (h.nd i).sublist less_sub
    · rw [rowG_out (by rw [lessW_len]; omega)]; exact List.nodup_nil
/-- in a list without repeats a part of it keeps the order -/
theorem sub_before {l m : List Int} (h : m.Sublist l) (hn : l.Nodup) {a b : Nat} (hab : a < b) (hb : b < m.length) {i : Int} : rankL l i (atI m a) < rankL l i (atI m b) := by
  have hr : ∀ q, q < l.length → rankL l i (atI l q) = q := fun q hq => rank_at hq (fun j hj e2 => by have := nodup_at hn (by omega) hq e2; omega)
  have hp : l.Pairwise (fun x y => rankL l i x < rankL l i y) := List.pairwise_iff_getElem.2 (fun a b ha hb hab => by
    rw [← atI_eq ha, ← atI_eq hb, hr a ha, hr b hb]; exact hab)
  have := List.pairwise_iff_getElem.1 (hp.sublist h) a b (by omega) hb hab
  rwa [← atI_eq (by omega), ← atI_eq hb] at this
theorem own_not {l : List Int} {i : Int} : i ∉ l.take (rankL l i i) := fun hm => by
  have := take_at (i := i) (rank_own l i) hm; omega
theorem less_none {out l : List Int} {i : Int} : findL (lessR out l i) i = none := findL_none.2 (fun hm => own_not (List.mem_filter.1 hm).1)
theorem less_own {out l : List Int} {i : Int} : rankL (lessR out l i) i i = (lessR out l i).length := by unfold rankL; rw [less_none]; simp
theorem less_ttc {ws : Ws} (hr : Right ws) {out : List Int} {r : Nat → Nat} (h : TTC ws out r) : TTC (lessW ws out) out r := by
  have hbef : ∀ k, k < ws.length → ∀ t : Int, rankL (lessR out (rowG ws k) k) k t < rankL (lessR out (rowG ws k) k) k (atI out k) → rankL (rowG ws k) k t < rankL (rowG ws k) k (atI out k) := fun k hk t hlt => by
    have hac := h.acc k hk
    have hown := rank_own (rowG ws k) k
    -- the ticket stands in the shorter list, unless it is the own one
    have hmem : atI out k ≠ k → atI out k ∈ lessR out (rowG ws k) k := fun hne => by
      have hl : rankL (rowG ws k) k (atI out k) < rankL (rowG ws k) k k := by
        rcases Nat.lt_or_ge (rankL (rowG ws k) k (atI out k)) (rankL (rowG ws k) k k) with hl | hl
        · exact hl
        · exact absurd (rank_inj hac (by omega)) hne
      refine List.mem_filter.2 ⟨at_take hl (Nat.le_refl _), ?_⟩
      have h1 := h.rng k hk
      simp only [decide_eq_true_eq]
      intro e
      have := h.inj (atI out k).toNat k (by omega) hk e
      omega
    have hle : rankL (lessR out (rowG ws k) k) k (atI out k) ≤ (lessR out (rowG ws k) k).length := by
      by_cases e : atI out k = k
      · rw [e, less_own]; exact Nat.le_refl _
      · obtain ⟨q, hq, e2⟩ := mem_at (hmem e)
        cases hf : findL (lessR out (rowG ws k) k) (atI out k) with
        | none => exact absurd (hmem e) (findL_none.1 hf)
        | some j => have := findL_lt hf; unfold rankL; rw [hf]; simp only; omega
    obtain ⟨a, ha, e⟩ := rank_lt hlt hle
    by_cases he : atI out k = k
    · -- the own ticket: whatever stands in the shorter list stands ahead of it
      have hm : t ∈ (rowG ws k).take (rankL (rowG ws k) k k) := by rw [← e]; exact (List.mem_filter.1 (at_mem (by omega) : atI (lessR out (rowG ws k) k) a ∈ _)).1
      rw [he]; exact take_at hown hm
    · obtain ⟨b, hb, e2⟩ := mem_at (hmem he)
      have hrb : rankL (lessR out (rowG ws k) k) k (atI out k) = b := by
        rw [← e2]
        exact rank_at hb (fun j hj e3 => by
          have hn := (hr.nd k).sublist (less_sub (out := out) (l := rowG ws k) (i := k))
          have := nodup_at hn (by omega) hb e3; omega)
      rw [hrb] at ha
      rw [← e, ← e2]
      exact sub_before less_sub (hr.nd k) ha hb
  refine ⟨by rw [lessW_len]; exact h.len, fun k hk => ?_, fun k j hk hj e => ?_, fun k hk => ?_, fun k hk t ht hl => ?_, fun k hk => ?_⟩
  · rw [lessW_len] at hk ⊢; exact h.rng k hk
  · rw [lessW_len] at hk hj; exact h.inj k j hk hj e
  · rw [lessW_len] at hk; exact h.same k hk
  · rw [lessW_len] at hk ht
    rw [lessW_row hk] at hl
    exact h.more k hk t ht (hbef k hk t hl)
  · rw [lessW_len] at hk
    rw [lessW_row hk, less_own]
    refine Decidable.not_not.1 (fun hn => ?_)
    -- else the own ticket stood ahead of it
    have := hbef k hk k (by rw [less_own]; omega)
    have := h.acc k hk
    omega
theorem keep_own {ws : Ws} {out : List Int} {r : Nat → Nat} (h : TTC ws out r) {k : Nat} (hk : k < ws.length) (h0 : rankL (rowG ws k) k k = 0) : atI out k = k := by
  have := h.acc k hk
  exact rank_inj this (by omega)
/-- rows that are filled from the first -/
structure RowsTo (n : Nat) (f : Nat → List Int) (qs : List (Go.Value × List Int)) (i : Nat) (cur : List Int) : Prop where
  len : qs.length = n
  at_ : ∀ j (h2 : j < qs.length), j < i → qs[j].2 = f j
  now : ∀ (h2 : i < qs.length), qs[i].2 = cur
  more : ∀ j (h2 : j < qs.length), i < j → qs[j].2 = []
theorem rt_start (n : Nat) (f : Nat → List Int) (v : Go.Value) : RowsTo n f (List.replicate n (v, [])) 0 [] := ⟨by simp, fun j h hj => by omega, fun h => by simp, fun j h hj => by simp⟩
theorem RowsTo.put {n : Nat} {f : Nat → List Int} {qs : List (Go.Value × List Int)} {i : Nat} {cur : List Int} (h : RowsTo n f qs i cur) (v : Go.Value) (cur2 : List Int) : RowsTo n f (qs.set i (v, cur2)) i cur2 := by
  refine ⟨by rw [List.length_set]; exact h.len, fun j h2 hji => ?_, fun h2 => by simp, fun j h2 hji => ?_⟩
  · rw [List.getElem_set, if_neg (by omega)]; exact h.at_ j (by simpa using h2) hji
  · rw [List.getElem_set, if_neg (by omega)]; exact h.more j (by simpa using h2) hji
theorem RowsTo.next {n : Nat} {f : Nat → List Int} {qs : List (Go.Value × List Int)} {i : Nat} {cur : List Int} (h : RowsTo n f qs i cur) (hc : cur = f i) : RowsTo n f qs (i + 1) [] := by
  refine ⟨h.len, fun j h2 hji => ?_, fun h2 => h.more _ h2 (by omega), fun j h2 hji => h.more j h2 (by omega)⟩
  by_cases e : j = i
  · subst e; rw [h.now h2, hc]
  · exact h.at_ j h2 (by omega)
theorem RowsTo.done {n : Nat} {f : Nat → List Int} {qs : List (Go.Value × List Int)} {cur : List Int} (h : RowsTo n f qs n cur) : gr qs = (List.range n).map f := by
  refine rows_ext (by rw [gr_len, h.len]; simp) (fun k hk => ?_)
  have hk : k < n := by simpa using hk
  rw [rowG_gen _ hk, gr_row qs (by rw [h.len]; exact hk), h.at_ k (by rw [h.len]; exact hk) hk]
theorem filter_snoc {l : List Int} {k : Nat} (hk : k < l.length) (p : Int → Bool) : (l.take (k + 1)).filter p = (l.take k).filter p ++ (if p l[k] then [l[k]] else []) := by
  rw [List.take_succ_eq_append_getElem hk, List.filter_append, List.filter_cons, List.filter_nil]
theorem rank_head {l : List Int} {i : Int} (h : l = [] ∨ (0 < l.length ∧ atI l 0 = i)) : rankL l i i = 0 := by
  rcases h with rfl | ⟨h1, h2⟩
  · simp [rankL, findL]
  · conv => lhs; rw [← h2]
    rw [h2]
    have := rank_at (i := i) h1 (fun j hj => by omega)
    rwa [h2] at this

/-! ### many holders -/
def manyW (n : Nat) (s : Int) (i : Nat) : Ws := (List.range i).map (fun (j : Nat) => [((j : Int) + s) % (n : Int)])
theorem many_len (n : Nat) (s : Int) (i : Nat) : (manyW n s i).length = i := by simp [manyW]
theorem many_snoc (n : Nat) (s : Int) (i : Nat) : manyW n s (i + 1) = manyW n s i ++ [[((i : Int) + s) % (n : Int)]] := by simp [manyW, List.range_succ]
theorem many_row (n : Nat) (s : Int) {i j : Nat} (h : j < i) : rowG (manyW n s i) j = [((j : Int) + s) % (n : Int)] := rowG_gen _ h
theorem many_right (n : Nat) (s : Int) : Right (manyW n s n) := by
  refine ⟨fun i t ht => ?_, fun i => ?_⟩
  · by_cases hi : i < n
    · rw [many_row n s hi] at ht
      have ht : t = ((i : Int) + s) % (n : Int) := by simpa using ht
      subst ht
      rw [many_len]
      exact ⟨Int.emod_nonneg _ (by omega), Int.emod_lt_of_pos _ (by omega)⟩
    · rw [rowG_out (by rw [many_len]; omega)] at ht; cases ht
  · by_cases hi : i < n
    · rw [many_row n s hi]; simp
    · rw [rowG_out (by rw [many_len]; omega)]; exact List.nodup_nil
theorem many_ttc (n : Nat) (s : Int) : TTC (manyW n s n) ((List.range n).map (fun (j : Nat) => ((j : Int) + s) % (n : Int))) (fun _ => 0) := by
  have hat : ∀ k, k < n → atI ((List.range n).map (fun (j : Nat) => ((j : Int) + s) % (n : Int))) k = ((k : Int) + s) % (n : Int) := fun k hk => atI_gen _ hk
  have hr0 : ∀ k, k < n → ∀ i, rankL [((k : Int) + s) % (n : Int)] i (((k : Int) + s) % (n : Int)) = 0 := fun k hk i => rank_at (l := [((k : Int) + s) % (n : Int)]) (q := 0) (by simp) (fun j hj => by omega)
  refine ⟨by simp [many_len], fun k hk => ?_, fun k j hk hj e => ?_, fun k hk => rfl, fun k hk t ht hl => ?_, fun k hk => ?_⟩
  · rw [many_len] at hk ⊢
    rw [hat k hk]; exact ⟨Int.emod_nonneg _ (by omega), Int.emod_lt_of_pos _ (by omega)⟩
  · rw [many_len] at hk hj
    rw [hat k hk, hat j hj] at e
    have h1 : ((k : Int) + s) % (n : Int) - ((j : Int) + s) % (n : Int) = 0 := by omega
    have h2 : (((k : Int) + s) - ((j : Int) + s)) % (n : Int) = 0 := by rw [Int.sub_emod, h1]; simp
    have h3 : ((k : Int) - j) % (n : Int) = 0 := by rw [← h2]; congr 1; omega
    obtain ⟨c, hc⟩ := Int.dvd_of_emod_eq_zero h3
    rcases Int.lt_trichotomy c 0 with hc0 | hc0 | hc0
    · have : (n : Int) * c ≤ (n : Int) * (-1) := Int.mul_le_mul_of_nonneg_left (by omega) (by omega)
      omega
    · subst hc0; omega
    · have : (n : Int) * 1 ≤ (n : Int) * c := Int.mul_le_mul_of_nonneg_left (by omega) (by omega)
      omega
  · rw [many_len] at hk ht
    rw [many_row n s hk, hat k hk, hr0 k hk] at hl
    omega
  · rw [many_len] at hk
    rw [many_row n s hk, hat k hk, hr0 k hk]; omega
end Go.Proofs.Ytoghkehlmibniaa
