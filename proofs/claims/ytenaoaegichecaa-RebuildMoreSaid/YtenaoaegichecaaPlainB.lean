/- Plain laws of layer 40 that lean on the search: trying all, neighbours, further edges, other numbers, parts. No condition. -/
import Derived.Test.YtenaoaegichecaaPlain
namespace Go.Proofs.Ytenaoaegichecaa
set_option linter.unusedVariables false
set_option linter.unusedSimpArgs false

theorem map_atI (got : List Int) : (List.range got.length).map (atI got) = got := by
  refine List.ext_getElem (by simp) (fun i h1 h2 => ?_)
  simp only [List.getElem_map, List.getElem_range]
  exact atI_eq h2
theorem sizeN_eq (got : List Int) : sizeN got = (got.filter (fun x => decide (x ≠ -1))).length := by
  conv => rhs; rw [← map_atI got, List.filter_map, List.length_map]
  rfl
theorem sizeN_cons (g : Int) (got : List Int) : sizeN (g :: got) = (if g = -1 then 0 else 1) + sizeN got := by
  rw [sizeN_eq, sizeN_eq, List.filter_cons]
  by_cases h : g = -1 <;> simp [h]; omega
theorem sizeN_append (a b : List Int) : sizeN (a ++ b) = sizeN a + sizeN b := by
  rw [sizeN_eq, sizeN_eq, sizeN_eq, List.filter_append, List.length_append]
theorem atI_mem {l : List Int} {i : Nat} (h : i < l.length) : atI l i ∈ l := by rw [atI_eq h]; exact List.getElem_mem _
theorem isM_cons {l : List Int} {es : Gr} {g : Int} {got : List Int} : IsM (l :: es) (g :: got) ↔ IsM es got ∧ (g = -1 ∨ (g ∈ l ∧ g ∉ got)) := by
  have a0 : atI (g :: got) 0 = g := rfl
  have aS : ∀ i, atI (g :: got) (i + 1) = atI got i := fun i => rfl
  have r0 : rowG (l :: es) 0 = l := rfl
  have rS : ∀ i, rowG (l :: es) (i + 1) = rowG es i := fun i => rfl
  refine ⟨fun h => ⟨⟨by have := h.len; simpa using this, fun i hi => by have := h.mem (i + 1) (by simp; omega); rwa [aS, rS] at this, fun i hi hn k hk => by
    have := h.inj (i + 1) (by simp; omega) (by rw [aS]; exact hn) (k + 1) (by omega); rwa [aS, aS] at this⟩, ?_⟩, fun ⟨h, hg⟩ => ⟨by simp [h.len], fun i hi => ?_, fun i hi hn k hk => ?_⟩⟩
  · have h0 := h.mem 0 (by simp)
    rw [a0, r0] at h0
    by_cases hg : g = -1
    · exact .inl hg
    · refine .inr ⟨h0.resolve_left hg, fun hm => ?_⟩
      obtain ⟨i, hi, e⟩ := List.getElem_of_mem hm
      have := h.inj (i + 1) (by simp; omega) (by rw [aS, atI_eq hi, e]; exact hg) 0 (by omega)
      rw [a0, aS, atI_eq hi, e] at this
      exact this rfl
  · cases i with
    | zero => rw [a0, r0]; exact hg.imp id (fun x => x.1)
    | succ i => rw [aS, rS]; exact h.mem i (by simpa using hi)
  · cases i with
    | zero => omega
    | succ i =>
      rw [aS] at hn ⊢
      have hi' : i < got.length := by simpa using hi
      cases k with
      | zero =>
        rw [a0]
        rcases hg with hg | ⟨_, hg⟩
        · omega
        · intro e; exact hg (by rw [e]; exact atI_mem hi')
      | succ k => rw [aS]; exact h.inj i hi' hn k (by omega)

/-! ### trying all -/
def bestRow (f : Int → Nat) (used : List Int) : List Int → List Int → Nat → Nat
  | _, [], out => out
  | pre, n :: r, out => bestRow f used (pre ++ [n]) r (if n ∉ used ∧ n ∉ pre then max out (1 + f n) else out)
def bestL : Gr → List Int → Nat
  | [], _ => 0
  | l :: es, used => bestRow (fun n => bestL es (used ++ [n])) used [] l (bestL es used)
theorem bestRow_ge (f : Int → Nat) (used : List Int) : ∀ (r pre : List Int) (out : Nat), out ≤ bestRow f used pre r out
  | [], _, _ => Nat.le_refl _
  | n :: r, pre, out => by
    unfold bestRow
    refine Nat.le_trans ?_ (bestRow_ge f used r _ _)
    split <;> omega
theorem bestRow_has (f : Int → Nat) (used : List Int) : ∀ (r pre : List Int) (out : Nat) (n : Int), n ∈ r → n ∉ used → n ∉ pre → 1 + f n ≤ bestRow f used pre r out
  | [], _, _, _, h, _, _ => by cases h
  | m :: r, pre, out, n, h, hu, hp => by
    unfold bestRow
    by_cases hm : n = m
    · subst hm
      rw [if_pos ⟨hu, hp⟩]
      exact Nat.le_trans (by omega) (bestRow_ge f used r _ _)
    · rcases List.mem_cons.1 h with h | h
      · exact absurd h hm
      · exact bestRow_has f used r _ _ n h hu (by simp [hp, hm])
theorem bestRow_is (f : Int → Nat) (used : List Int) : ∀ (r pre : List Int) (out : Nat), bestRow f used pre r out = out ∨ ∃ n ∈ r, n ∉ used ∧ bestRow f used pre r out = 1 + f n
  | [], _, _ => .inl rfl
  | m :: r, pre, out => by
    unfold bestRow
    split
    · rename_i hm
      rcases bestRow_is f used r (pre ++ [m]) (max out (1 + f m)) with h | ⟨n, h1, h2, h3⟩
      · rw [h]
        by_cases hmx : out ≤ 1 + f m
        · exact .inr ⟨m, List.mem_cons_self .., hm.1, by omega⟩
        · exact .inl (by omega)
      · exact .inr ⟨n, List.mem_cons_of_mem _ h1, h2, h3⟩
    · rcases bestRow_is f used r (pre ++ [m]) out with h | ⟨n, h1, h2, h3⟩
      · exact .inl h
      · exact .inr ⟨n, List.mem_cons_of_mem _ h1, h2, h3⟩
theorem bestL_le : ∀ (es : Gr) (used : List Int), bestL es used ≤ es.length
  | [], _ => Nat.le_refl _
  | l :: es, used => by
    unfold bestL
    rcases bestRow_is (fun n => bestL es (used ++ [n])) used l [] (bestL es used) with h | ⟨n, _, _, h⟩
    · rw [h]; have := bestL_le es used; simp; omega
    · rw [h]; have := bestL_le es (used ++ [n]); simp; omega
theorem bestL_some : ∀ (es : Gr) (used : List Int), (∀ l ∈ es, ∀ n ∈ l, 0 ≤ n) → ∃ got, IsM es got ∧ (∀ x ∈ got, x ≠ -1 → x ∉ used) ∧ sizeN got = bestL es used
  | [], used, _ => ⟨[], ⟨rfl, fun i h => by simp at h, fun i h => by simp at h⟩, fun x h => (by cases h), rfl⟩
  | l :: es, used, hv => by
    have hv' : ∀ l ∈ es, ∀ n ∈ l, 0 ≤ n := fun l hl => hv l (List.mem_cons_of_mem _ hl)
    unfold bestL
    rcases bestRow_is (fun n => bestL es (used ++ [n])) used l [] (bestL es used) with h | ⟨n, h1, h2, h⟩
    · obtain ⟨got, g1, g2, g3⟩ := bestL_some es used hv'
      refine ⟨-1 :: got, isM_cons.2 ⟨g1, .inl rfl⟩, fun x hx hn => ?_, by rw [h, sizeN_cons, if_pos rfl, g3]; omega⟩
      rcases List.mem_cons.1 hx with rfl | hx
      · exact absurd rfl hn
      · exact g2 x hx hn
    · obtain ⟨got, g1, g2, g3⟩ := bestL_some es (used ++ [n]) hv'
      have hn0 := hv l (List.mem_cons_self ..) n h1
      refine ⟨n :: got, isM_cons.2 ⟨g1, .inr ⟨h1, fun hm => ?_⟩⟩, fun x hx hx1 => ?_, by rw [h, sizeN_cons, if_neg (by omega), g3]⟩
      · exact g2 n hm (by omega) (by simp)
      · rcases List.mem_cons.1 hx with rfl | hx
        · exact h2
        · exact fun hu => g2 x hx hx1 (List.mem_append_left _ hu)
theorem bestL_max : ∀ (es : Gr) (used got : List Int), IsM es got → (∀ x ∈ got, x ≠ -1 → x ∉ used) → sizeN got ≤ bestL es used
  | [], used, got, h, _ => by
    have : got = [] := by have := h.len; simpa using this
    subst this; exact Nat.le_refl _
  | l :: es, used, [], h, _ => by have := h.len; simp at this
  | l :: es, used, g :: got, h, hu => by
    obtain ⟨h1, h2⟩ := isM_cons.1 h
    have hu' : ∀ x ∈ got, x ≠ -1 → x ∉ used := fun x hx => hu x (List.mem_cons_of_mem _ hx)
    unfold bestL
    rw [sizeN_cons]
    by_cases hg : g = -1
    · rw [if_pos hg]
      have := bestL_max es used got h1 hu'
      have h3 := bestRow_ge (fun n => bestL es (used ++ [n])) used l [] (bestL es used)
      omega
    · rw [if_neg hg]
      obtain ⟨h3, h4⟩ := h2.resolve_left hg
      have := bestL_max es (used ++ [g]) got h1 (fun x hx hx1 hm => by
        rcases List.mem_append.1 hm with hm | hm
        · exact hu' x hx hx1 hm
        · simp at hm; subst hm; exact h4 hx)
      have h5 := bestRow_has (fun n => bestL es (used ++ [n])) used l [] (bestL es used) g h3 (hu g (List.mem_cons_self ..) hg) (by simp)
      omega
theorem best_law {es : Gr} {right : Int} (hv : validG es right = true) : sizeN (gotL es right) = bestL es [] := by
  have hp := validG_parts hv
  have h0 : ∀ l ∈ es, ∀ n ∈ l, 0 ≤ n := fun l hl n hn => by
    obtain ⟨i, hi, rfl⟩ := List.getElem_of_mem hl
    exact (hp.2.2.2 i n (by rw [rowG_eq hi]; exact hn)).1
  obtain ⟨got, g1, _, g3⟩ := bestL_some es [] h0
  have h1 := match_best hv g1
  have h2 := bestL_max es [] _ (match_isM hv) (fun x _ _ h => by cases h)
  omega

/-! ### neighbours -/
def addNew (out : List Int) : List Int → List Int
  | [] => out
  | n :: r => if n ∈ out then addNew out r else addNew (out ++ [n]) r
def nbL (es : Gr) : List Int → List Int → List Int
  | out, [] => out
  | out, i :: set => nbL es (addNew out (rowG es i.toNat)) set
theorem addNew_law : ∀ (r out : List Int), out.Nodup → (addNew out r).Nodup ∧ ∀ n, n ∈ addNew out r ↔ n ∈ out ∨ n ∈ r
  | [], out, h => ⟨h, fun n => by simp [addNew]⟩
  | m :: r, out, h => by
    unfold addNew
    split
    · rename_i hm
      obtain ⟨h1, h2⟩ := addNew_law r out h
      refine ⟨h1, fun n => ?_⟩
      rw [h2, List.mem_cons]
      constructor
      · rintro (h | h)
        · exact .inl h
        · exact .inr (.inr h)
      · rintro (h | rfl | h)
        · exact .inl h
        · exact .inl hm
        · exact .inr h
    · rename_i hm
      obtain ⟨h1, h2⟩ := addNew_law r (out ++ [m]) (by
        rw [List.nodup_append]
        exact ⟨h, (by simp), fun a ha b hb e => by simp at hb; subst hb; subst e; exact hm ha⟩)
      refine ⟨h1, fun n => ?_⟩
      rw [h2, List.mem_cons, List.mem_append, List.mem_singleton, or_assoc]
theorem nbL_law (es : Gr) : ∀ (set out : List Int), out.Nodup → (nbL es out set).Nodup ∧ ∀ n, n ∈ nbL es out set ↔ n ∈ out ∨ ∃ i ∈ set, n ∈ rowG es i.toNat
  | [], out, h => ⟨h, fun n => by simp [nbL]⟩
  | i :: set, out, h => by
    obtain ⟨h1, h2⟩ := addNew_law (rowG es i.toNat) out h
    obtain ⟨h3, h4⟩ := nbL_law es set (addNew out (rowG es i.toNat)) h1
    refine ⟨h3, fun n => ?_⟩
    unfold nbL
    rw [h4, h2]
    constructor
    · rintro ((h | h) | ⟨j, hj, h⟩)
      · exact .inl h
      · exact .inr ⟨i, List.mem_cons_self .., h⟩
      · exact .inr ⟨j, List.mem_cons_of_mem _ hj, h⟩
    · rintro (h | ⟨j, hj, h⟩)
      · exact .inl (.inl h)
      · rcases List.mem_cons.1 hj with rfl | hj
        · exact .inl (.inr h)
        · exact .inr ⟨j, hj, h⟩
theorem addNew_len : ∀ (r out : List Int), (addNew out r).length ≤ out.length + r.length
  | [], out => by simp [addNew]
  | n :: r, out => by
    unfold addNew
    split
    · have := addNew_len r out; simp; omega
    · have := addNew_len r (out ++ [n]); simp at this ⊢; omega
theorem hall_yes {es : Gr} {right : Int} (hv : validG es right = true) (hs : sizeN (gotL es right) = es.length) {set : List Int} (hn : set.Nodup) (hr : ∀ i ∈ set, 0 ≤ i ∧ i < es.length) : set.length ≤ (nbL es [] set).length := by
  have hm := match_isM hv
  have hall : ∀ i, i < es.length → atI (gotL es right) i ≠ -1 := fun i hi e => by
    have h1 : (matched (gotL es right)).length ≤ ((List.range es.length).erase i).length := by
      refine nodup_le (nodup_matched _) (fun x hx => ?_)
      obtain ⟨a, b⟩ := mem_matched.1 hx
      rw [List.mem_erase_of_ne (fun e2 => by subst e2; exact b e), List.mem_range, ← hm.len]; exact a
    rw [List.length_erase_of_mem (List.mem_range.2 hi), List.length_range] at h1
    unfold sizeN at hs
    omega
  have := nodup_le (l := set.map (fun i => atI (gotL es right) i.toNat)) (m := nbL es [] set) (nodup_map _ hn (fun x hx y hy e => by
    have h1 := hr x hx
    have h2 := hr y hy
    have := hm.inj' (by rw [hm.len]; omega) (by rw [hm.len]; omega) (hall _ (by omega)) e
    omega)) (fun n hx => by
    obtain ⟨i, hi, rfl⟩ := List.mem_map.1 hx
    have h1 := hr i hi
    exact ((nbL_law es set [] List.nodup_nil).2 _).2 (.inr ⟨i, hi, (hm.mem i.toNat (by rw [hm.len]; omega)).resolve_left (hall _ (by omega))⟩))
  simpa using this
theorem hall_no {es : Gr} {right : Int} (hv : validG es right = true) (hs : sizeN (gotL es right) ≠ es.length) {free : List Int} (hf : ∀ i : Nat, i < es.length → (i : Int) ∉ leftL es right → (i : Int) ∈ free) (hfr : ∀ i ∈ free, 0 ≤ i ∧ i < es.length ∧ i ∉ leftL es right) : (nbL es [] free).length < free.length := by
  obtain ⟨_, fl, fr, hc, hm, hsz⟩ := check_parts (match_law hv)
  rw [coversL_iff] at hc
  have hle : sizeN (gotL es right) ≤ es.length := by have := sizeN_le (gotL es right); rw [hm.len] at this; exact this
  have h1 : (nbL es [] free).length ≤ (rightL es right).length := nodup_le (nbL_law es free [] List.nodup_nil).1 (fun n hn => by
    rcases ((nbL_law es free [] List.nodup_nil).2 n).1 hn with h | ⟨i, hi, h⟩
    · cases h
    · obtain ⟨a, b, c⟩ := hfr i hi
      exact (hc i.toNat (by omega)).resolve_left (by rw [Int.toNat_of_nonneg a]; exact c) n h)
  have h2 : (List.range es.length).length ≤ ((leftL es right).map Int.toNat ++ free.map Int.toNat).length := nodup_le (nodup_range _) (fun i hi => by
    rw [List.mem_append]
    by_cases h : (i : Int) ∈ leftL es right
    · exact .inl (List.mem_map.2 ⟨i, h, by simp⟩)
    · exact .inr (List.mem_map.2 ⟨i, hf i (List.mem_range.1 hi) h, by simp⟩))
  simp only [List.length_range, List.length_append, List.length_map] at h2
  omega

/-! ### further edges, other numbers, parts -/
theorem isM_of {es es2 : Gr} {got : List Int} (h : IsM es got) (hl : es2.length = es.length) (hr : ∀ i, i < es.length → ∀ n ∈ rowG es i, n ∈ rowG es2 i) : IsM es2 got :=
  ⟨by rw [h.len, hl], fun i hi => (h.mem i hi).imp id (fun x => hr i (by rw [← h.len]; exact hi) _ x), h.inj⟩
theorem rowG_set {es : Gr} {i : Nat} (l : List Int) (hi : i < es.length) (j : Nat) : rowG (es.set i l) j = if j = i then l else rowG es j := by
  unfold rowG
  rw [List.getD_eq_getElem?_getD, List.getD_eq_getElem?_getD, List.getElem?_set]
  by_cases hj : j = i
  · subst hj; simp [hi]
  · rw [if_neg (fun e => hj e.symm), if_neg hj]
theorem further_valid {es : Gr} {right : Int} (hv : validG es right = true) {i : Nat} (hi : i < es.length) {x : Int} (hx : 0 ≤ x ∧ x < right) : validG (es.set i (rowG es i ++ [x])) right = true := by
  obtain ⟨h1, h2, h3, h4⟩ := validG_parts hv
  refine validG_mk (by simpa using h1) h2 h3 (fun j n hn => ?_)
  rw [rowG_set _ hi] at hn
  split at hn
  · rcases List.mem_append.1 hn with h | h
    · exact h4 i n h
    · simp at h; subst h; exact hx
  · exact h4 j n hn
theorem further_law {es : Gr} {right : Int} (hv : validG es right = true) {i : Nat} (hi : i < es.length) {x : Int} (hx : 0 ≤ x ∧ x < right) :
    sizeN (gotL (es.set i (rowG es i ++ [x])) right) = sizeN (gotL es right) ∨ sizeN (gotL (es.set i (rowG es i ++ [x])) right) = sizeN (gotL es right) + 1 := by
  have hv2 := further_valid hv hi hx
  have h1 := match_best hv2 (isM_of (match_isM hv) (by simp) (fun j _ n hn => by
    rw [rowG_set _ hi]
    split
    · rename_i e; subst e; exact List.mem_append_left _ hn
    · exact hn))
  obtain ⟨_, _, _, hc, _, hs⟩ := check_parts (match_law hv)
  rw [coversL_iff] at hc
  have h2 := match_cover hv2 (l := (i : Int) :: leftL es right) (r := rightL es right) (coversL_iff.2 (fun j hj => by
    rw [rowG_set _ hi]
    by_cases hji : j = i
    · subst hji; exact .inl (List.mem_cons_self ..)
    · rw [if_neg hji]; exact (hc j (by simpa using hj)).imp (List.mem_cons_of_mem _) id))
  simp only [List.length_cons] at h2
  omega
def turnRow (right : Int) (l : List Int) : List Int := l.reverse.flatMap (fun n => [right - 1 - n, right - 1 - n])
def turnL (right : Int) (es : Gr) : Gr := es.reverse.map (turnRow right)
theorem turnRow_mem {right : Int} {l : List Int} {n : Int} : n ∈ turnRow right l ↔ right - 1 - n ∈ l := by
  unfold turnRow
  rw [List.mem_flatMap]
  constructor
  · rintro ⟨m, hm, h⟩
    simp at h hm; subst h
    rwa [show right - 1 - (right - 1 - m) = m by omega]
  · intro h
    exact ⟨right - 1 - n, by simpa using h, by simp; omega⟩
theorem turnL_row {right : Int} {es : Gr} {i : Nat} (hi : i < es.length) : rowG (turnL right es) i = turnRow right (rowG es (es.length - 1 - i)) := by
  rw [rowG_eq (by simp [turnL]; exact hi), rowG_eq (by omega)]
  simp [turnL, List.getElem_reverse]
theorem turnL_valid {es : Gr} {right : Int} (hv : validG es right = true) : validG (turnL right es) right = true := by
  obtain ⟨h1, h2, h3, h4⟩ := validG_parts hv
  refine validG_mk (by simpa [turnL] using h1) h2 h3 (fun j n hn => ?_)
  by_cases hj : j < es.length
  · rw [turnL_row hj, turnRow_mem] at hn
    have := h4 _ _ hn; omega
  · rw [rowG_out (by simp [turnL]; omega)] at hn; cases hn
def turnGot (right : Int) (got : List Int) : List Int := got.reverse.map (fun n => if n = -1 then -1 else right - 1 - n)
theorem turnGot_at {right : Int} {got : List Int} {i : Nat} (hi : i < got.length) : atI (turnGot right got) i = if atI got (got.length - 1 - i) = -1 then -1 else right - 1 - atI got (got.length - 1 - i) := by
  rw [atI_eq (by simp [turnGot]; exact hi), atI_eq (l := got) (by omega)]
  simp [turnGot, List.getElem_reverse]
theorem turnGot_size {right : Int} {got : List Int} (h : ∀ x ∈ got, x < right) : sizeN (turnGot right got) = sizeN got := by
  rw [sizeN_eq, sizeN_eq, turnGot, List.filter_map, List.length_map, List.filter_reverse, List.length_reverse]
  congr 1
  refine List.filter_congr (fun x hx => ?_)
  have := h x hx
  simp only [Function.comp]
  by_cases hx1 : x = -1
  · simp [hx1]
  · simp [hx1]; omega
/-- a matching turned is one of the graph turned -/
theorem turn_isM {es es2 : Gr} {right : Int} {got : List Int} (h : IsM es got) (hr : ∀ x ∈ got, x < right) (hl : es2.length = es.length) (hrow : ∀ i, i < es.length → ∀ n, n ∈ rowG es (es.length - 1 - i) → right - 1 - n ∈ rowG es2 i) : IsM es2 (turnGot right got) := by
  have hlg : (turnGot right got).length = got.length := by simp [turnGot]
  refine ⟨by rw [hlg, h.len, hl], fun i hi => ?_, fun i hi hn k hk => ?_⟩
  · rw [hlg] at hi
    rw [turnGot_at hi]
    split
    · exact .inl rfl
    · rename_i hx
      refine .inr (hrow i (by rw [← h.len]; exact hi) _ ?_)
      rw [← h.len]
      exact (h.mem _ (by omega)).resolve_left hx
  · rw [hlg] at hi
    rw [turnGot_at hi] at hn ⊢
    rw [turnGot_at (by omega)]
    split at hn
    · exact absurd rfl hn
    · rename_i hx
      rw [if_neg hx]
      split
      · exact fun e => hn e.symm
      · rename_i hy
        intro e
        have := h.inj' (i := got.length - 1 - k) (j := got.length - 1 - i) (by omega) (by omega) hy (by omega)
        omega
theorem got_lt {es : Gr} {right : Int} (hv : validG es right = true) {got : List Int} (h : IsM es got) : ∀ x ∈ got, x < right := fun x hx => by
  obtain ⟨i, hi, rfl⟩ := List.getElem_of_mem hx
  rw [← atI_eq hi]
  rcases h.mem i hi with e | e
  · have := (validG_parts hv).2.1; omega
  · exact ((validG_parts hv).2.2.2 i _ e).2
theorem turn_law {es : Gr} {right : Int} (hv : validG es right = true) : sizeN (gotL (turnL right es) right) = sizeN (gotL es right) := by
  have hv2 := turnL_valid hv
  have hlen : (turnL right es).length = es.length := by simp [turnL]
  have h1 := match_best hv2 (turn_isM (match_isM hv) (got_lt hv (match_isM hv)) hlen (fun i hi n hn => by
    rw [turnL_row hi, turnRow_mem, show right - 1 - (right - 1 - n) = n by omega]; exact hn))
  rw [turnGot_size (got_lt hv (match_isM hv))] at h1
  have h2 := match_best hv (turn_isM (match_isM hv2) (got_lt hv2 (match_isM hv2)) hlen.symm (fun i hi n hn => by
    rw [hlen] at hi hn
    rw [turnL_row (by omega), turnRow_mem] at hn
    rwa [show es.length - 1 - (es.length - 1 - i) = i by omega] at hn))
  rw [turnGot_size (got_lt hv2 (match_isM hv2))] at h2
  omega
def shiftL (m : Int) (es : Gr) : Gr := es.map (fun l => l.map (m + ·))
theorem shiftL_row {m : Int} {es : Gr} (i : Nat) : rowG (shiftL m es) i = (rowG es i).map (m + ·) := by
  by_cases hi : i < es.length
  · rw [rowG_eq (by simp [shiftL]; exact hi), rowG_eq hi]; simp [shiftL]
  · rw [rowG_out (by simp [shiftL]; omega), rowG_out (by omega)]; rfl
theorem parts_valid {a b : Gr} {m n : Int} (ha : validG a m = true) (hb : validG b n = true) (hm : m ≤ 2000) (hn : n ≤ 2000) (hl : a.length + b.length ≤ 4000) : validG (a ++ shiftL m b) (m + n) = true := by
  obtain ⟨_, h2, _, h4⟩ := validG_parts ha
  obtain ⟨_, g2, _, g4⟩ := validG_parts hb
  refine validG_mk (by simpa [shiftL] using hl) (by omega) (by omega) (fun i x hx => ?_)
  rw [rowG_append] at hx
  split at hx
  · have := h4 i x hx; omega
  · rw [shiftL_row] at hx
    obtain ⟨y, hy, rfl⟩ := List.mem_map.1 hx
    have := g4 _ y hy; omega
theorem sizeN_shift {m : Int} (hm : 0 ≤ m) : ∀ got : List Int, (∀ x ∈ got, -1 ≤ x) → sizeN (got.map (fun x => if x = -1 then -1 else m + x)) = sizeN got
  | [], _ => rfl
  | g :: got, h => by
    rw [List.map_cons, sizeN_cons, sizeN_cons, sizeN_shift hm got (fun x hx => h x (List.mem_cons_of_mem _ hx))]
    have := h g (List.mem_cons_self ..)
    by_cases hg : g = -1
    · simp [hg]
    · simp [hg]; omega
theorem parts_law {a b : Gr} {m n : Int} (ha : validG a m = true) (hb : validG b n = true) (hm : m ≤ 2000) (hn : n ≤ 2000) (hl : a.length + b.length ≤ 4000) : sizeN (gotL (a ++ shiftL m b) (m + n)) = sizeN (gotL a m) + sizeN (gotL b n) := by
  have hv := parts_valid ha hb hm hn hl
  have hpa := validG_parts ha
  have hpb := validG_parts hb
  have ma := match_isM ha
  have mb := match_isM hb
  have hlow : ∀ x ∈ gotL b n, -1 ≤ x := fun x hx => by
    obtain ⟨i, hi, rfl⟩ := List.getElem_of_mem hx
    rw [← atI_eq hi]
    rcases mb.mem i hi with e | e
    · omega
    · have := hpb.2.2.2 i _ e; omega
  have hat : ∀ i, i < (gotL b n).length → atI ((gotL b n).map (fun x => if x = -1 then -1 else m + x)) i = if atI (gotL b n) i = -1 then -1 else m + atI (gotL b n) i := fun i hi => by
    rw [atI_eq (by simpa using hi), atI_eq hi]; simp
  have hM : IsM (a ++ shiftL m b) (gotL a m ++ (gotL b n).map (fun x => if x = -1 then -1 else m + x)) := by
    refine ⟨by simp [ma.len, mb.len, shiftL], fun i hi => ?_, fun i hi hne k hk => ?_⟩
    · rw [atI_append, rowG_append, ← ma.len]
      split
      · exact ma.mem i (by assumption)
      · rename_i hia
        have hib : i - (gotL a m).length < (gotL b n).length := by simp at hi; omega
        rw [hat _ hib, shiftL_row]
        split
        · exact .inl rfl
        · rename_i hx
          exact .inr (List.mem_map.2 ⟨_, (mb.mem _ hib).resolve_left hx, rfl⟩)
    · rw [atI_append] at hne ⊢
      rw [atI_append]
      by_cases hia : i < (gotL a m).length
      · rw [if_pos hia] at hne ⊢; rw [if_pos (by omega)]; exact ma.inj i hia hne k hk
      · rw [if_neg hia] at hne ⊢
        have hib : i - (gotL a m).length < (gotL b n).length := by simp at hi; omega
        rw [hat _ hib] at hne ⊢
        have hx : atI (gotL b n) (i - (gotL a m).length) ≠ -1 := fun e => by rw [if_pos e] at hne; exact hne rfl
        have hxb := hpb.2.2.2 _ _ ((mb.mem _ hib).resolve_left hx)
        rw [if_neg hx]
        by_cases hka : k < (gotL a m).length
        · rw [if_pos hka]
          have := got_lt ha ma _ (atI_mem hka)
          omega
        · rw [if_neg hka, hat _ (by omega)]
          split
          · omega
          · rename_i hy
            have := mb.inj _ hib hx (k - (gotL a m).length) (by omega)
            omega
  have h1 := match_best hv hM
  rw [sizeN_append, sizeN_shift hpa.2.1 _ hlow] at h1
  obtain ⟨_, _, _, ca, _, sa⟩ := check_parts (match_law ha)
  obtain ⟨_, _, _, cb, _, sb⟩ := check_parts (match_law hb)
  rw [coversL_iff] at ca cb
  have h2 := match_cover hv (l := leftL a m ++ (leftL b n).map ((a.length : Int) + ·)) (r := rightL a m ++ (rightL b n).map (m + ·)) (coversL_iff.2 (fun i hi => by
    rw [rowG_append]
    by_cases hia : i < a.length
    · rw [if_pos hia]
      exact (ca i hia).imp (List.mem_append_left _) (fun h x hx => List.mem_append_left _ (h x hx))
    · rw [if_neg hia, shiftL_row]
      have hib : i - a.length < b.length := by simp [shiftL] at hi; omega
      refine (cb _ hib).imp (fun h => List.mem_append_right _ (List.mem_map.2 ⟨_, h, by omega⟩)) (fun h x hx => ?_)
      obtain ⟨y, hy, rfl⟩ := List.mem_map.1 hx
      exact List.mem_append_right _ (List.mem_map.2 ⟨y, h y hy, rfl⟩)))
  simp only [List.length_append, List.length_map] at h2
  omega
theorem cover_small {es : Gr} {right : Int} (hv : validG es right = true) : (leftL es right).length ≤ 1000000 ∧ (rightL es right).length ≤ 1000000 := by
  obtain ⟨_, _, _, _, hm, hs⟩ := check_parts (match_law hv)
  have := sizeN_le (gotL es right)
  have := hm.len
  have := (validG_parts hv).1
  omega

theorem nodup_rng {l : List Int} {right : Int} (h : l.Nodup) (hr : ∀ n ∈ l, 0 ≤ n ∧ n < right) : l.length ≤ right.toNat := by
  have := nodup_le (l := l.map Int.toNat) (m := List.range right.toNat) (nodup_map _ h (fun x hx y hy e => by have := hr x hx; have := hr y hy; omega)) (fun x hx => by
    obtain ⟨n, hn, rfl⟩ := List.mem_map.1 hx
    have := hr n hn
    exact List.mem_range.2 (by omega))
  simpa using this
theorem bestL_drop (ps : List (Go.Value × List Int)) (i : Nat) (hi : i < ps.length) (used : List Int) : bestL ((gr ps).drop i) used = bestRow (fun n => bestL ((gr ps).drop (i + 1)) (used ++ [n])) used [] ps[i].2 (bestL ((gr ps).drop (i + 1)) used) := by
  rw [List.drop_eq_getElem_cons (by rw [gr_len]; exact hi)]
  simp only [gr, List.getElem_map]
  rfl
theorem bestL_end (ps : List (Go.Value × List Int)) (i : Nat) (hi : ps.length ≤ i) (used : List Int) : bestL ((gr ps).drop i) used = 0 := by
  rw [List.drop_of_length_le (by rw [gr_len]; exact hi)]; rfl

theorem gr_append (a b : List (Go.Value × List Int)) : gr (a ++ b) = gr a ++ gr b := by simp [gr]
theorem gr_snoc {ps qs : List (Go.Value × List Int)} {k : Nat} (h : gr qs = (gr ps).take k) (hk : k < ps.length) {u : Go.Value} : gr (qs ++ [(u, [] ++ ps[k].2)]) = (gr ps).take (k + 1) := by
  rw [gr_append, h, List.take_succ_eq_append_getElem (by rw [gr_len]; exact hk)]
  simp [gr]

theorem greatest_law {es : Gr} {right : Int} {got left cover : List Int} (h : checkL es right got left cover = true) (other dl dr : List Int) :
    sizeL es got = (left.length : Int) + (cover.length : Int) ∧ True ∧ (true && decide (sizeL es other ≤ (left.length : Int) + (cover.length : Int)) && (!coversL es dl dr || decide ((dl.length : Int) + (dr.length : Int) ≥ (left.length : Int) + (cover.length : Int)))) = true := by
  obtain ⟨_, _, _, hc, hm, hs⟩ := check_parts h
  refine ⟨by rw [sizeL_yes hm, hs]; rfl, trivial, ?_⟩
  have h1 : sizeL es other ≤ (left.length : Int) + (cover.length : Int) := by
    by_cases ho : IsM es other
    · have := weak ho hc
      rw [sizeL_yes ho]; omega
    · rw [sizeL_no ho]; omega
  rw [decide_eq_true h1]
  cases hcd : coversL es dl dr with
  | false => rfl
  | true =>
    have := weak hm hcd
    rw [decide_eq_true (show (dl.length : Int) + (dr.length : Int) ≥ (left.length : Int) + (cover.length : Int) by omega)]
    rfl

def encB (b : Bool) : List Go.Value := [.bool b]
def chosen (choice : List Bool) : Nat → List Int
  | 0 => []
  | k + 1 => if (decide ((k : Int) < choice.length) && choice.getD k false) = true then chosen choice k ++ [(k : Int)] else chosen choice k
def freeL (left : List Int) : Nat → List Int
  | 0 => []
  | k + 1 => if (k : Int) ∈ left then freeL left k else freeL left k ++ [(k : Int)]
theorem chosen_in (choice : List Bool) : ∀ k, ∀ i ∈ chosen choice k, 0 ≤ i ∧ i < k
  | 0, i, h => by cases h
  | k + 1, i, h => by
    unfold chosen at h
    split at h
    · rcases List.mem_append.1 h with h | h
      · have := chosen_in choice k i h; omega
      · simp at h; omega
    · have := chosen_in choice k i h; omega
theorem chosen_nodup (choice : List Bool) : ∀ k, (chosen choice k).Nodup
  | 0 => List.nodup_nil
  | k + 1 => by
    unfold chosen
    split
    · rw [List.nodup_append]
      exact ⟨chosen_nodup choice k, by simp, fun a ha b hb e => by simp at hb; have := chosen_in choice k a ha; omega⟩
    · exact chosen_nodup choice k
theorem chosen_len (choice : List Bool) : ∀ k, (chosen choice k).length ≤ k
  | 0 => Nat.le_refl _
  | k + 1 => by
    unfold chosen
    have := chosen_len choice k
    split <;> simp <;> omega
theorem freeL_in (left : List Int) : ∀ k i, i ∈ freeL left k ↔ 0 ≤ i ∧ i < k ∧ i ∉ left
  | 0, i => ⟨fun h => (by cases h), fun h => by omega⟩
  | k + 1, i => by
    unfold freeL
    split
    · rename_i h
      rw [freeL_in left k i]
      constructor
      · intro ⟨a, b, c⟩; exact ⟨a, by omega, c⟩
      · intro ⟨a, b, c⟩
        refine ⟨a, ?_, c⟩
        by_cases e : i = k
        · subst e; exact absurd h c
        · omega
    · rename_i h
      rw [List.mem_append, freeL_in left k i, List.mem_singleton]
      constructor
      · rintro (⟨a, b, c⟩ | rfl)
        · exact ⟨a, by omega, c⟩
        · exact ⟨by omega, by omega, h⟩
      · intro ⟨a, b, c⟩
        by_cases e : i = k
        · exact .inr e
        · exact .inl ⟨a, by omega, c⟩
theorem freeL_len (left : List Int) : ∀ k, (freeL left k).length ≤ k
  | 0 => Nat.le_refl _
  | k + 1 => by
    unfold freeL
    have := freeL_len left k
    split <;> simp <;> omega
theorem hall_law {es : Gr} {right : Int} (hv : validG es right = true) (choice : List Bool) :
    (sizeN (gotL es right) = es.length → (chosen choice es.length).length ≤ (nbL es [] (chosen choice es.length)).length) ∧
    (sizeN (gotL es right) ≠ es.length → (nbL es [] (freeL (leftL es right) es.length)).length < (freeL (leftL es right) es.length).length) :=
  ⟨fun h => hall_yes hv h (chosen_nodup _ _) (chosen_in _ _), fun h => hall_no hv h (fun i hi hn => (freeL_in _ _ _).2 ⟨by omega, by omega, hn⟩) (fun i hi => by
    have := (freeL_in _ _ _).1 hi; exact ⟨this.1, by omega, this.2.2⟩)⟩
theorem gr_set (ps : List (Go.Value × List Int)) (i : Nat) (u : Go.Value) (l : List Int) : gr (ps.set i (u, l)) = (gr ps).set i l := by simp [gr, List.map_set]
theorem gr_at {ps qs : List (Go.Value × List Int)} (h : gr qs = gr ps) {i : Nat} (hi : i < qs.length) : qs[i].2 = rowG (gr ps) i := by rw [← h, gr_row qs hi]
theorem turnL_step (right : Int) (ps : List (Go.Value × List Int)) {i : Nat} (hi : i < ps.length) : turnL right ((gr ps).drop i) = turnL right ((gr ps).drop (i + 1)) ++ [turnRow right ps[i].2] := by
  rw [List.drop_eq_getElem_cons (by rw [gr_len]; exact hi)]
  simp [turnL, gr]
theorem turnRow_step (right : Int) (l : List Int) {i : Nat} (hi : i < l.length) : turnRow right (l.drop i) = turnRow right (l.drop (i + 1)) ++ [right - 1 - l[i], right - 1 - l[i]] := by
  rw [List.drop_eq_getElem_cons hi]
  unfold turnRow
  rw [List.reverse_cons, List.flatMap_append]
  rfl
theorem turnRow_len (right : Int) (l : List Int) : (turnRow right l).length = 2 * l.length := by
  simp [turnRow, List.length_flatMap]
  induction l with
  | nil => rfl
  | cons a l ih => simp at ih ⊢; omega
theorem shift_step (m : Int) (ps : List (Go.Value × List Int)) {i : Nat} (hi : i < ps.length) : (shiftL m (gr ps)).take (i + 1) = (shiftL m (gr ps)).take i ++ [ps[i].2.map (m + ·)] := by
  rw [List.take_succ_eq_append_getElem (by simp [shiftL, gr]; exact hi)]
  simp [shiftL, gr]
end Go.Proofs.Ytenaoaegichecaa
