import Derived.Test.YtenaoaegichecaaPlainY
import Derived.Test.YtenaoaegichecaaGwBits
namespace Go.Proofs.Ytenaoaegichecaa
open Go.Gw
set_option linter.unusedVariables false
set_option linter.unusedSimpArgs false
/-! ### changes that are not accepted -/
section
variable {old next : List Pl} {ts : List Ow} {ms : List Mv}
theorem PlanM.no (h : PlanM old next ts ms) {sy : List Say} {l r : List Int} (hn : ¬ ChkP (movedL ts) (oldL old (movedL ts)) next sy l r) : chkW old next ts sy l r = false := by
  unfold chkW; rw [if_pos h.err]; exact chk_no hn
/-- one move less -/
theorem PlanM.less (h : PlanM old next ts ms) (h0 : 0 < ms.length) {l r : List Int} {ms2 : List Mv} (h2 : ms2.length < ms.length) : chkW old next ts (ms2.map Mv.say) l r = false :=
  h.no (fun hc => by have := hc.len; have := h.len; rw [List.length_map] at *; omega)
/-- a move that stands elsewhere -/
theorem PlanM.moves (h : PlanM old next ts ms) {l r : List Int} {ms2 : List Mv} {i : Nat} (hi : i < ms.length) (h2 : i < ms2.length) (hs : ms2[i].serial ≠ ms[i].serial) : chkW old next ts (ms2.map Mv.say) l r = false :=
  h.no (fun hc => by
    have ht : i < (movedL ts).length := by have := h.len; omega
    have := hc.ser i (by simpa using h2) ht
    rw [say_get h2 (by simpa using h2), ← h.serial hi ht] at this
    exact hs this)
/-- a place given twice -/
theorem PlanM.twice (h : PlanM old next ts ms) {l r : List Int} {ms2 : List Mv} {i k : Nat} (hi : i < ms2.length) (hk : k < ms2.length) (hne : i ≠ k) (h0 : 0 ≤ ms2[i].to_) (e : ms2[i].to_ = ms2[k].to_) : chkW old next ts (ms2.map Mv.say) l r = false :=
  h.no (fun hc => by
    have hm := (check_parts hc.cov).2.2.2.2.1
    have e1 := tos_at hi
    have e2 := tos_at hk
    exact hne (hm.inj' (by rw [tos_len]; exact hi) (by rw [tos_len]; exact hk) (by rw [e1]; omega) (by rw [e1, e2, e])))
theorem cnt_left {a b : List Int} {i : Nat} : ∀ k, (∀ j, j < k → atI b j = if j = i then -1 else atI a j) → 0 ≤ atI a i → cntG a k = cntG b k + if i < k then 1 else 0
  | 0, _, _ => by rw [if_neg (by omega)]; rfl
  | k + 1, h, h0 => by
    have ih := cnt_left k (fun j hj => h j (by omega)) h0
    have hk := h k (by omega)
    have ea : cntG a (k + 1) = if 0 ≤ atI a k then cntG a k + 1 else cntG a k := rfl
    have eb : cntG b (k + 1) = if 0 ≤ atI b k then cntG b k + 1 else cntG b k := rfl
    by_cases e : k = i
    · subst e
      rw [if_pos rfl] at hk
      rw [if_neg (Nat.lt_irrefl k)] at ih
      rw [ea, eb, hk, if_pos h0, if_neg (show ¬ (0 : Int) ≤ -1 by omega), if_pos (Nat.lt_succ_self k)]
      omega
    · rw [if_neg e] at hk
      have e3 : (i < k) = (i < k + 1) := propext (by omega)
      simp only [e3] at ih
      rw [ea, eb, hk]
      by_cases ha : 0 ≤ atI a k
      · rw [if_pos ha, if_pos ha]; omega
      · rw [if_neg ha, if_neg ha]; omega
/-- one that has a place left out -/
theorem PlanM.left_out (h : PlanM old next ts ms) {ms2 : List Mv} {i : Nat} (hi : i < ms.length) (h2 : ms2.length = ms.length) (h0 : 0 ≤ ms[i].to_) (ht : ∀ j, j < ms.length → atI (tosS (ms2.map Mv.say)) j = if j = i then -1 else atI (tosS (ms.map Mv.say)) j) :
    chkW old next ts (ms2.map Mv.say) (clP old next ts) (crP old next ts) = false := by
  refine h.no (fun hc => ?_)
  have hcov := hc.cov
  have e1 : clP old next ts = clL (oldL old (movedL ts)) next := by unfold clP; rw [if_pos h.err]
  have e2 : crP old next ts = crL (oldL old (movedL ts)) next := by unfold crP; rw [if_pos h.err]
  rw [e1, e2] at hcov
  have hs := best_cover hcov h.cov
  have hl2 : (tosS (ms2.map Mv.say)).length = ms.length := by rw [tos_len]; exact h2
  rw [← h.size, sizeN_cntG (fun j hj => by
    rw [hl2] at hj
    rw [ht j hj]
    split
    · omega
    · rw [tos_at hj]; exact h.low hj), hl2] at hs
  have := cnt_left ms.length ht (by rw [tos_at hi]; exact h0)
  rw [if_pos hi] at this
  omega
end
/-- the places of all moves but one -/
def takeW (tos : List Int) (i : Nat) : Nat → List Int
  | 0 => []
  | k + 1 => takeW tos i k ++ if k = i then [] else [atI tos k]
theorem takeW_len (tos : List Int) (i : Nat) : ∀ k, (takeW tos i k).length ≤ k
  | 0 => Nat.le_refl _
  | k + 1 => by have := takeW_len tos i k; unfold takeW; split <;> simp <;> omega
theorem mem_takeW {tos : List Int} {i : Nat} {x : Int} : ∀ {k}, x ∈ takeW tos i k → ∃ j, j < k ∧ j ≠ i ∧ atI tos j = x
  | 0, h => by cases h
  | k + 1, h => by
    unfold takeW at h
    rcases List.mem_append.1 h with h | h
    · obtain ⟨j, hj, r⟩ := mem_takeW h; exact ⟨j, by omega, r⟩
    · split at h
      · cases h
      · rename_i e; exact ⟨k, by omega, e, by simpa using (List.mem_singleton.1 h).symm⟩
theorem PlanM.not_taken {old next : List Pl} {ts : List Ow} {ms : List Mv} (h : PlanM old next ts ms) {i : Nat} (hi : i < ms.length) (h0 : 0 ≤ ms[i].to_) : ms[i].to_ ∉ takeW (tosS (ms.map Mv.say)) i ms.length := fun hm => by
  obtain ⟨j, hj, hne, e⟩ := mem_takeW hm
  rw [tos_at hj] at e
  exact hne (h.inj hi hj h0 e.symm).symm
theorem mem_rows_set {ms : List Mv} {i : Nat} {m : Mv} {p : Go.Value × List Int} (h : p ∈ rowsOf (ms.set i m)) : p ∈ rowsOf ms ∨ p = m.row := by
  unfold rowsOf at *
  obtain ⟨x, hx, rfl⟩ := List.mem_map.1 h
  rcases List.mem_or_eq_of_mem_set hx with hx | rfl
  · exact .inl (List.mem_map.2 ⟨x, hx, rfl⟩)
  · exact .inr rfl
theorem mem_rows_take {ms : List Mv} {n : Nat} {p : Go.Value × List Int} (h : p ∈ rowsOf ((ms.take n).drop 0)) : p ∈ rowsOf ms := by
  rw [List.drop_zero] at h
  obtain ⟨x, hx, rfl⟩ := List.mem_map.1 h
  exact List.mem_map.2 ⟨x, List.mem_of_mem_take hx, rfl⟩
theorem mem_rows_swap {ms : List Mv} {i k : Nat} (hi : i < ms.length) (hk : k < ms.length) {p : Go.Value × List Int} (h : p ∈ rowsOf ((ms.set i ms[k]).set k ms[i])) : p ∈ rowsOf ms := by
  rcases mem_rows_set h with h | rfl
  · rcases mem_rows_set h with h | rfl
    · exact h
    · exact rows_mem hk
  · exact rows_mem hi
theorem tos_set (ms : List Mv) (i : Nat) (m : Mv) (hi : i < ms.length) (j : Nat) : atI (tosS ((ms.set i m).map Mv.say)) j = if j = i then m.to_ else atI (tosS (ms.map Mv.say)) j := by
  have e : tosS ((ms.set i m).map Mv.say) = (tosS (ms.map Mv.say)).set i m.to_ := by simp only [tosS, List.map_map, List.map_set]; rfl
  rw [e, atI_set _ (by rw [tos_len]; exact hi)]
theorem PlanM.left_step {old next : List Pl} {ts : List Ow} {ms ms2 : List Mv} (h : PlanM old next ts ms) {i k : Nat} {m : Mv} (hk : k < ms.length) (hl : ms2.length = ms.length) (hm : m.to_ = -1) (hc : k = i ∨ ms[k].to_ < 0)
    (ht : ∀ j, atI (tosS (ms2.map Mv.say)) j = if j = i ∧ j < k then -1 else atI (tosS (ms.map Mv.say)) j) (j : Nat) : atI (tosS ((ms2.set k m).map Mv.say)) j = if j = i ∧ j < k + 1 then -1 else atI (tosS (ms.map Mv.say)) j := by
  rw [tos_set ms2 k m (by omega) j]
  by_cases e : j = k
  · subst e
    rw [if_pos rfl, hm]
    rcases hc with e2 | e2
    · rw [if_pos ⟨e2, Nat.lt_succ_self _⟩]
    · have := h.low hk
      split
      · rfl
      · rw [tos_at hk]; omega
  · rw [if_neg e, ht j]
    have : (j = i ∧ j < k) = (j = i ∧ j < k + 1) := propext (by omega)
    simp only [this]
theorem left_skip {tos tos2 : List Int} {i k : Nat} (hc : k ≠ i) (ht : ∀ j, atI tos2 j = if j = i ∧ j < k then -1 else atI tos j) (j : Nat) : atI tos2 j = if j = i ∧ j < k + 1 then -1 else atI tos j := by
  rw [ht j]
  have : (j = i ∧ j < k) = (j = i ∧ j < k + 1) := propext (by omega)
  simp only [this]
theorem left_all {tos tos2 : List Int} {i n : Nat} (ht : ∀ j, atI tos2 j = if j = i ∧ j < n then -1 else atI tos j) (j : Nat) (hj : j < n) : atI tos2 j = if j = i then -1 else atI tos j := by
  rw [ht j]
  have : (j = i ∧ j < n) = (j = i) := propext (by omega)
  simp only [this]
/-! ### rows that are read alone -/
theorem rowsRead {M : Nat → Prop} {w0 w : Go.World} {l : List Atom} {e : Go.TypeId} {sz : Nat} {α : Type} {enc : α → List Go.Value} {ps : List (Go.Value × List α)} (H : HSat M w0 (RowsA e sz enc ps :: l) w) : HSat M w0 (RowsS sz enc ps :: l) w :=
  H.conv (fun h => by cases h) (fun b ⟨p, hp, hb, _⟩ => ⟨OSl e p.1 sz enc p.2, List.mem_map.2 ⟨p, hp, rfl⟩, rfl, hb⟩) (fun hok p hp => IsOSl.sl (hok.1 (OSl e p.1 sz enc p.2) (List.mem_map.2 ⟨p, hp, rfl⟩)).2)
theorem rowsMore {M : Nat → Prop} {w0 w : Go.World} {l : List Atom} {e : Go.TypeId} {sz : Nat} {α : Type} {enc : α → List Go.Value} {ps qs : List (Go.Value × List α)} {v : Go.Value} {xs : List α} (H : HSat M w0 (OSl e v sz enc xs :: RowsS sz enc ps :: l) w) (hq : ∀ q ∈ qs, q ∈ ps ∨ q = (v, xs)) : HSat M w0 (RowsS sz enc qs :: l) w := by
  have h1 := H.ok (OSl e v sz enc xs) (List.mem_cons_self ..)
  have h2 := H.ok (RowsS sz enc ps) (List.mem_cons_of_mem _ (List.mem_cons_self ..))
  have s1 := List.pairwise_cons.1 H.sep
  have s2 := List.pairwise_cons.1 s1.2
  refine HSat.ro (H.drop 2) (RowsS sz enc qs) rfl (fun q hm => ?_) (fun y hy ho b hb => ?_)
  · rcases hq q hm with h | rfl
    · exact h2 q h
    · exact IsOSl.sl h1
  · obtain ⟨q, hm, hb, h0, hne⟩ := hb
    rcases hq q hm with h | rfl
    · exact s2.1 y hy (.inr ho) b ⟨q, h, hb, h0, hne⟩
    · exact s1.1 y (List.mem_cons_of_mem _ hy) (.inl rfl) b hb
theorem addr_zero (p : Go.Addr) : p = p.add 0 := by unfold Go.Addr.add; simp
end Go.Proofs.Ytenaoaegichecaa
