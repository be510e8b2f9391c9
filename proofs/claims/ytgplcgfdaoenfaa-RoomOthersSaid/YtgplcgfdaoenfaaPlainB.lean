/- Plain laws for layer 21, second part: what the statements say of who is called. No program in sight. No condition. -/
import Derived.Test.YtgplcgfdaoenfaaPlain
namespace Go.Proofs.Ytgplcgfdaoenfaa
open Go Go.Gw
set_option linter.unusedVariables false
set_option linter.unusedSimpArgs false
theorem calledGo_prefix (r : RM) {now later : Int} (h : now ≤ later) : ∀ (l : List Int) (k : Nat), calledGo r now l k <+: calledGo r later l k
  | [], k => List.prefix_refl _
  | i :: l, k => by
    have ih := calledGo_prefix r h l (k + 1)
    simp only [calledGo]
    by_cases h1 : r.call (k : Int) > now
    · rw [if_pos h1]; exact List.nil_prefix
    · rw [if_neg h1, if_neg (show ¬ r.call (k : Int) > later by omega)]
      split
      · exact List.cons_prefix_cons.2 ⟨rfl, ih⟩
      · exact ih
theorem called_prefix (r : RM) {now later : Int} (h : now ≤ later) : called r now <+: called r later := calledGo_prefix r h _ _
theorem called_take (r : RM) {now later : Int} (h : now ≤ later) : (called r now).length ≤ (called r later).length ∧ called r now = (called r later).take (called r now).length :=
  ⟨(called_prefix r h).length_le, (List.prefix_iff_eq_take.1 (called_prefix r h))⟩
theorem calledGo_sub (r : RM) (now : Int) : ∀ (l : List Int) (k : Nat), (calledGo r now l k).Sublist l
  | [], k => List.Sublist.refl _
  | i :: l, k => by
    have ih := calledGo_sub r now l (k + 1)
    simp only [calledGo]
    split
    · exact List.nil_sublist _
    · split
      · exact ih.cons_cons _
      · exact ih.cons _
theorem called_sub (r : RM) (now : Int) : (called r now).Sublist r.order := calledGo_sub r now _ _
theorem called_len (r : RM) (now : Int) : (called r now).length ≤ r.order.length := (called_sub r now).length_le
/-! ### what stays -/
structure Alike (r s : RM) : Prop where
  order : s.order = r.order
  width : s.width = r.width
  span : s.span = r.span
  from_ : s.from_ = r.from_
theorem Alike.trans {r s t : RM} (h : Alike r s) (h' : Alike s t) : Alike r t := ⟨h'.order.trans h.order, h'.width.trans h.width, h'.span.trans h.span, h'.from_.trans h.from_⟩
theorem Alike.call {r s : RM} (h : Alike r s) (k : Int) : s.call k = r.call k := by simp only [RM.call, h.width, h.span, h.from_]
theorem serve_alike (r : RM) (i now : Int) : Alike r (serve r i now).2 := by
  unfold serve; split
  · exact ⟨rfl, rfl, rfl, rfl⟩
  · split <;> exact ⟨rfl, rfl, rfl, rfl⟩
theorem leave_alike (r : RM) (i : Int) : Alike r (leave r i).2 := by
  unfold leave; split <;> exact ⟨rfl, rfl, rfl, rfl⟩
theorem step_alike (r : RM) (o : Op) : Alike r (stepRM r o) := by
  unfold stepRM; split
  · exact leave_alike _ _
  · exact serve_alike _ _ _
theorem fold_alike : ∀ (l : List Op) (r : RM), Alike r (l.foldl stepRM r)
  | [], r => ⟨rfl, rfl, rfl, rfl⟩
  | o :: l, r => (step_alike r o).trans (fold_alike l _)
theorem made_alike (order : List Int) (width span from_ : Int) (l : List Op) : Alike (newRM order width span from_) (madeRM order width span from_ l) := fold_alike l _
theorem fold_wf : ∀ (l : List Op) (r : RM) (N : Nat), r.WF N → (l.foldl stepRM r).WF (N + l.length)
  | [], r, N, h => h
  | o :: l, r, N, h => by
    have := fold_wf l _ _ (step_wf h o)
    rw [List.length_cons, show N + (l.length + 1) = N + 1 + l.length by omega]; exact this
theorem made_wf {order : List Int} {width span from_ : Int} (h : newOK order width span from_ = true) (l : List Op) : (madeRM order width span from_ l).WF l.length := by
  have := fold_wf l _ _ (new_wf h)
  rwa [Nat.zero_add] at this
/-! ### who is called late -/
theorem called_end {r : RM} {N : Nat} (h : r.WF N) (now : Int) (hn : r.from_ + r.span * (r.order.length : Int) ≤ now) : called r now = r.order.filter (waits r) := by
  have := called_stop r now r.order.length (Nat.le_refl _) (fun q hq => ?_) (.inl rfl)
  · rw [this, List.take_length]
  · have h1 : (q : Int) / r.width ≤ (q : Int) := Int.ediv_le_self _ (by omega)
    have hs := h.nums.span
    have h2 : (q : Int) / r.width * r.span ≤ (r.order.length : Int) * r.span := Int.mul_le_mul_of_nonneg_right (by omega) (by omega)
    rw [Int.mul_comm] at hn
    unfold RM.call; omega
theorem called_two {r s : RM} {N N' : Nat} (h : r.WF N) (h' : s.WF N') (ha : Alike r s) (now : Int) (hw : ∀ i ∈ r.order, waits r i = true) : called s now = (called r now).filter (waits s) := by
  rw [called_eq h now, called_eq h' now, ha.order, List.filter_map, List.filter_filter]
  congr 1
  apply List.filter_congr
  intro p hp
  have hm : p.1 ∈ r.order := by
    have := List.mem_zipIdx hp
    obtain ⟨_, h2, h3⟩ := this
    rw [h3]; exact List.getElem_mem _
  simp only [Function.comp_apply, ha.call, hw p.1 hm, Bool.and_true]
  exact Bool.and_comm _ _
theorem new_waits {order : List Int} {width span from_ : Int} : ∀ i ∈ (newRM order width span from_).order, waits (newRM order width span from_) i = true := by
  intro i hi
  simp only [waits, RM.at_, newRM]
  rw [stateOf_val order order.length i (Nat.le_refl _), List.take_length, if_pos (show i ∈ order from hi)]; rfl
/-! ### serving -/
theorem mem_called {r : RM} {N : Nat} (h : r.WF N) (i now : Int) : i ∈ called r now ↔ ∃ k, ∃ hk : k < r.order.length, r.order[k] = i ∧ r.call (k : Int) ≤ now ∧ r.at_ i = 1 := by
  rw [called_eq h now]
  simp only [List.mem_map, List.mem_filter, Bool.and_eq_true, decide_eq_true_eq, waits, beq_iff_eq]
  constructor
  · rintro ⟨⟨x, k⟩, ⟨hm, h1, h2⟩, rfl⟩
    obtain ⟨_, hk, he⟩ := List.mem_zipIdx hm
    simp only [Nat.zero_add, Nat.sub_zero] at hk he
    exact ⟨k, hk, he.symm, h1, h2⟩
  · rintro ⟨k, hk, rfl, h1, h2⟩
    refine ⟨(r.order[k], k), ⟨?_, h1, h2⟩, rfl⟩
    rw [List.mk_mem_zipIdx_iff_getElem?, List.getElem?_eq_getElem hk]
theorem serve_zero {r : RM} {N : Nat} (h : r.WF N) (i now : Int) : (serve r i now).1 = 0 ↔ i ∈ called r now := by
  rw [mem_called h]
  by_cases hi : i ∈ r.order
  · obtain ⟨k, hk, rfl⟩ := List.getElem_of_mem hi
    have hat := at_order h k hk
    rw [serve_at h k hk]
    have hu : ∀ j (hj : j < r.order.length), r.order[j] = r.order[k] → j = k := fun j hj e => (List.getElem_inj h.nodup).1 e
    by_cases h1 : r.at_ r.order[k] - 1 ≠ 0
    · rw [if_pos h1]
      simp only [show ¬ (12 : Int) = 0 by omega, false_iff]
      rintro ⟨j, hj, _, _, e⟩; omega
    · rw [if_neg h1]
      by_cases h2 : r.call (k : Int) > now
      · rw [if_pos h2]
        simp only [show ¬ (18 : Int) = 0 by omega, false_iff]
        rintro ⟨j, hj, e, h3, _⟩
        obtain rfl := hu j hj e
        omega
      · rw [if_neg h2]
        simp only [true_iff]
        exact ⟨k, hk, rfl, by omega, by omega⟩
  · rw [serve_none h i now hi]
    simp only [show ¬ (11 : Int) = 0 by omega, false_iff]
    rintro ⟨k, hk, rfl, _⟩; exact hi (List.getElem_mem hk)
theorem serve_same (r : RM) (i now : Int) (h : (serve r i now).1 ≠ 0) : (serve r i now).2 = r := by
  unfold serve at h ⊢
  split
  · rfl
  · rename_i h1
    rw [if_neg h1] at h
    split
    · rfl
    · rename_i h2
      rw [if_neg h2] at h; exact absurd rfl h
theorem setSt_at (r : RM) (i s x : Int) : (setSt r i s).at_ x = if x = i then s else r.at_ x := by
  simp only [RM.at_, setSt, upd]; split <;> rfl
theorem serve_done (r : RM) (i now : Int) (h : (serve r i now).1 = 0) : (serve r i now).2 = { setSt r i 2 with served := r.served ++ [i] } := by
  have := (serve_eq r i now)
  rw [this.2, if_pos (this.1.symm.trans h)]
theorem serve_waits (r : RM) (i now : Int) (h : (serve r i now).1 = 0) (x : Int) : waits (serve r i now).2 x = (waits r x && decide (x ≠ i)) := by
  rw [serve_done r i now h]
  have : ({ setSt r i 2 with served := r.served ++ [i] } : RM).at_ x = (setSt r i 2).at_ x := rfl
  unfold waits
  rw [this, setSt_at]
  by_cases hx : x = i <;> simp [hx]
theorem waits_called {r s : RM} {N N' : Nat} (h : r.WF N) (h' : s.WF N') (ha : Alike r s) (now : Int) (p : Int → Bool) (hw : ∀ x, waits s x = (waits r x && p x)) : called s now = (called r now).filter p := by
  rw [called_eq h now, called_eq h' now, ha.order, List.filter_map, List.filter_filter]
  congr 1
  apply List.filter_congr
  intro q hq
  simp only [Function.comp_apply, ha.call, hw]
  cases decide (r.call (q.2 : Int) ≤ now) <;> cases waits r q.1 <;> cases p q.1 <;> rfl
theorem serve_called {r : RM} {N : Nat} (h : r.WF N) (i now : Int) (hz : (serve r i now).1 = 0) : called (serve r i now).2 now = (called r now).filter (fun x => decide (x ≠ i)) :=
  waits_called h (serve_wf h i now) (serve_alike r i now) now _ (serve_waits r i now hz)
theorem called_nodup {r : RM} {N : Nat} (h : r.WF N) (now : Int) : (called r now).Nodup := h.nodup.sublist (called_sub r now)
theorem filter_len {l : List Int} (hn : l.Nodup) {i : Int} (hi : i ∈ l) : (l.filter (fun x => decide (x ≠ i))).length + 1 = l.length := by
  have e : l.filter (fun x => decide (x ≠ i)) = l.erase i := by
    rw [hn.erase_eq_filter]
    apply List.filter_congr
    intro x _
    simp [bne, BEq.beq]
  rw [e, List.length_erase_of_mem hi]
  have := List.length_pos_of_mem hi
  omega
theorem serve_facts {r : RM} {N : Nat} (h : r.WF N) (i now : Int) (hz : (serve r i now).1 = 0) :
    (serve r i now).2.served = r.served ++ [i] ∧ i ∉ called (serve r i now).2 now ∧ ((called (serve r i now).2 now).length : Int) = (called r now).length - 1 ∧ ∀ t, (serve (serve r i now).2 i t) = (12, (serve r i now).2) ∧ leave (serve r i now).2 i = (12, (serve r i now).2) := by
  have hm := (serve_zero h i now).1 hz
  have hc := serve_called h i now hz
  refine ⟨by rw [serve_done r i now hz], by rw [hc]; simp, ?_, fun t => ?_⟩
  · rw [hc]; have := filter_len (called_nodup h now) hm; omega
  · have hat : (serve r i now).2.at_ i = 2 := by
      rw [serve_done r i now hz]
      exact (setSt_at r i 2 i).trans (if_pos rfl)
    have hr : readyE (serve r i now).2 i = 12 := by unfold readyE; rw [hat]; decide
    constructor
    · generalize (serve r i now).2 = s at hr ⊢
      unfold serve; rw [hr, if_pos (by decide)]
    · unfold leave; rw [hr, if_pos (by decide)]
/-! ### in the order of the room -/
theorem sub_next {a b : List Int} {i j : Nat} (hj : j < a.length) (hi : i < b.length) (hs : (b.drop i).Sublist (a.drop j)) (hne : a[j] ≠ b[i]) : (b.drop i).Sublist (a.drop (j + 1)) := by
  rw [List.drop_eq_getElem_cons hi, List.drop_eq_getElem_cons hj] at hs
  rw [List.drop_eq_getElem_cons hi]
  rcases List.sublist_cons_iff.1 hs with h | ⟨q, e, h⟩
  · exact h
  · simp only [List.cons.injEq] at e; exact absurd e.1.symm hne
theorem sub_both {a b : List Int} {i j : Nat} (hj : j < a.length) (hi : i < b.length) (hs : (b.drop i).Sublist (a.drop j)) (he : a[j] = b[i]) : (b.drop (i + 1)).Sublist (a.drop (j + 1)) := by
  rw [List.drop_eq_getElem_cons hi, List.drop_eq_getElem_cons hj, he] at hs
  exact List.cons_sublist_cons.1 hs
theorem sub_end {a b : List Int} {i : Nat} (hi : i < b.length) (hs : (b.drop i).Sublist (a.drop a.length)) : False := by
  rw [List.drop_length, List.drop_eq_getElem_cons hi] at hs
  cases hs
theorem getD_at (l : List Int) (k : Nat) (h : k < l.length) : l.getD k 0 = l[k] := by
  rw [List.getD_eq_getElem?_getD, List.getElem?_eq_getElem h]; rfl
/-! ### the width -/
theorem fresh_at {order : List Int} {width span from_ : Int} (hok : newOK order width span from_ = true) (now : Int) (c : Nat) (hc : c ≤ order.length) (h : ∀ k : Nat, k < order.length → ((newRM order width span from_).call (k : Int) ≤ now ↔ k < c)) : called (newRM order width span from_) now = order.take c := by
  have := called_stop (newRM order width span from_) now c hc (fun q hq => (h q (by omega)).2 hq) (by
    by_cases hcl : c = order.length
    · exact .inl hcl
    · right
      have := h c (by omega)
      have h2 : ¬ c < c := by omega
      rw [← this] at h2; omega)
  rw [this]
  show (order.take c).filter (waits (newRM order width span from_)) = order.take c
  exact List.filter_eq_self.2 fun i hi => new_waits i (List.mem_of_mem_take hi)
/-- the number of those whose time has come -/
def come (width span from_ now : Int) : Int := if now < from_ then 0 else ((now - from_) / span + 1) * width
theorem call_come {order : List Int} {width span from_ : Int} (h : Nums order width span from_) (k : Nat) (now : Int) : (newRM order width span from_).call (k : Int) ≤ now ↔ (k : Int) < come width span from_ now := by
  have hs := h.span
  have hw := h.width
  have h0 : 0 ≤ (k : Int) / width := Int.ediv_nonneg (by omega) (by omega)
  simp only [RM.call, newRM, come]
  by_cases hn : now < from_
  · rw [if_pos hn]
    have : 0 ≤ (k : Int) / width * span := Int.mul_nonneg h0 (by omega)
    constructor <;> intro <;> omega
  · rw [if_neg hn]
    rw [← Int.ediv_lt_iff_lt_mul (show (0 : Int) < width by omega)]
    have e : from_ + (k : Int) / width * span ≤ now ↔ (k : Int) / width ≤ (now - from_) / span := by
      rw [Int.le_ediv_iff_mul_le (show (0 : Int) < span by omega)]
      constructor <;> intro <;> omega
    rw [e]; constructor <;> intro <;> omega
theorem fresh_len {order : List Int} {width span from_ : Int} (hok : newOK order width span from_ = true) (now : Int) : ((called (newRM order width span from_) now).length : Int) = min (order.length : Int) (come width span from_ now) := by
  have hn := (new_wf hok).nums
  have hn' : Nums order width span from_ := hn
  have hc0 : 0 ≤ come width span from_ now := by
    unfold come
    split
    · omega
    · have : 0 ≤ (now - from_) / span := Int.ediv_nonneg (by omega) (by have := hn'.span; omega)
      exact Int.mul_nonneg (by omega) (by have := hn'.width; omega)
  have := fresh_at hok now (min order.length (come width span from_ now).toNat) (by omega) (fun k hk => by rw [call_come hn' k now]; omega)
  rw [this, List.length_take]; omega
theorem width_law {order : List Int} {width span from_ : Int} (hok : newOK order width span from_ = true) (now : Int) :
    0 ≤ ((called (newRM order width span from_) now).length : Int) - (called (newRM order width span from_) (now - 1)).length ∧ ((called (newRM order width span from_) now).length : Int) - (called (newRM order width span from_) (now - 1)).length ≤ width ∧
    (((called (newRM order width span from_) now).length : Int) - (called (newRM order width span from_) (now - 1)).length = 0 ∨ now ≥ from_ ∧ (now - from_) % span = 0) := by
  have hn : Nums order width span from_ := (new_wf hok).nums
  have hw := hn.width
  have hs := hn.span
  rw [fresh_len hok now, fresh_len hok (now - 1)]
  unfold come
  by_cases h1 : now < from_
  · rw [if_pos h1, if_pos (by omega)]; omega
  · rw [if_neg h1]
    by_cases h2 : now = from_
    · subst h2
      rw [if_pos (by omega)]
      simp
      omega
    · rw [if_neg (by omega)]
      have hm := Int.emod_nonneg (now - from_) (show span ≠ 0 by omega)
      have hm2 := Int.emod_lt_of_pos (now - from_) (show 0 < span by omega)
      have hd := Int.mul_ediv_add_emod (now - from_) span
      generalize hq : (now - from_) / span = q at *
      generalize hr : (now - from_) % span = r at *
      have hpos : 0 ≤ q := by rw [← hq]; exact Int.ediv_nonneg (by omega) (by omega)
      by_cases hr0 : r = 0
      · have e : (now - 1 - from_) / span = q - 1 := by
          have : now - 1 - from_ = (span - 1) + span * (q - 1) := by rw [Int.mul_sub]; omega
          rw [this, Int.add_mul_ediv_left _ _ (by omega), Int.ediv_eq_zero_of_lt (by omega) (by omega)]; omega
        rw [e]
        have e2 : (q + 1) * width = (q - 1 + 1) * width + width := by rw [show q + 1 = (q - 1 + 1) + 1 by omega, Int.add_mul (q - 1 + 1) 1]; omega
        have h0 : 0 ≤ (q - 1 + 1) * width := Int.mul_nonneg (by omega) (by omega)
        rw [e2]; omega
      · have e : (now - 1 - from_) / span = q := by
          have : now - 1 - from_ = (r - 1) + span * q := by omega
          rw [this, Int.add_mul_ediv_left _ _ (by omega), Int.ediv_eq_zero_of_lt (by omega) (by omega)]; omega
        rw [e]; omega
/-! ### leaving, the end -/
theorem leave_zero (s : RM) (i : Int) : (leave s i).1 = 0 ↔ waits s i = true := by
  unfold leave readyE waits
  by_cases h0 : s.at_ i = 0
  · simp [h0]
  · by_cases h1 : s.at_ i = 1
    · simp [h1]
    · simp [h0, h1]
theorem leave_waits (s : RM) (i x : Int) : waits (leave s i).2 x = (waits s x && decide (x ≠ i)) := by
  by_cases hz : (leave s i).1 = 0
  · have e := leave_eq s i
    rw [e.2, if_pos (e.1.symm.trans hz)]
    unfold waits
    rw [setSt_at]
    by_cases hx : x = i <;> simp [hx]
  · have e := leave_eq s i
    rw [e.2, if_neg (fun h => hz (e.1.trans h))]
    have hw : waits s i = false := by
      cases hb : waits s i with
      | false => rfl
      | true => exact absurd ((leave_zero s i).2 hb) hz
    by_cases hx : x = i
    · subst hx; simp [hw]
    · simp [hx]
theorem notin_step (l : List Int) (k : Nat) (hk : k < l.length) (x : Int) : (decide (x ∉ l.take k) && decide (x ≠ l[k])) = decide (x ∉ l.take (k + 1)) := by
  have e : x ∈ l.take (k + 1) ↔ x ∈ l.take k ∨ x = l[k] := by rw [List.take_succ_eq_append_getElem hk, List.mem_append, List.mem_singleton]
  rw [← Bool.decide_and]
  exact decide_eq_decide.2 (by rw [e, not_or])
theorem notin_drop (l : List Int) (k : Nat) (hk : k < l.length) (x : Int) : (decide (x ∉ l.drop (k + 1)) && decide (x ≠ l[k])) = decide (x ∉ l.drop k) := by
  rw [List.drop_eq_getElem_cons hk]
  simp only [List.mem_cons, not_or, Bool.decide_and]
  exact Bool.and_comm _ _
theorem count_step (l : List Int) (p : Int → Bool) (k : Nat) (hk : k < l.length) : ((l.take (k + 1)).filter p).length = ((l.take k).filter p).length + if p l[k] = true then 1 else 0 := by
  rw [List.take_succ_eq_append_getElem hk, List.filter_append, List.length_append, List.filter_cons, List.filter_nil]
  split <;> rfl
theorem notin_at {l : List Int} (hn : l.Nodup) (k : Nat) (hk : k < l.length) : l[k] ∉ l.take k := fun h => by
  obtain ⟨j, hj, e⟩ := List.getElem_of_mem h
  simp only [List.length_take] at hj
  rw [List.getElem_take] at e
  have := (List.getElem_inj hn).1 e
  omega
theorem notin_after {l : List Int} (hn : l.Nodup) (k : Nat) (hk : k < l.length) : l[k] ∉ l.drop (k + 1) := fun h => by
  obtain ⟨j, hj, e⟩ := List.getElem_of_mem h
  simp only [List.length_drop] at hj
  rw [List.getElem_drop] at e
  have := (List.getElem_inj hn).1 e
  omega
theorem called_gone {r s : RM} {N N' : Nat} (h : r.WF N) (h' : s.WF N') (ha : Alike r s) (now : Int) (L : List Int) (hw : ∀ x, waits s x = (waits r x && decide (x ∉ L))) (hL : ∀ x ∈ called r now, x ∈ L) : called s now = [] := by
  rw [waits_called h h' ha now _ hw]
  exact List.filter_eq_nil_iff.2 fun x hx => by simp [hL x hx]
theorem serve_rest {r s : RM} {N N' : Nat} (h : r.WF N) (h' : s.WF N') (ha : Alike r s) (now : Int) (q : Nat) (hq : q < (called r now).length) (hw : ∀ x, waits s x = (waits r x && decide (x ∉ (called r now).drop (q + 1)))) :
    (serve s (called r now)[q] now).1 = 0 ∧ ∀ x, waits (serve s (called r now)[q] now).2 x = (waits r x && decide (x ∉ (called r now).drop q)) := by
  have hz : (serve s (called r now)[q] now).1 = 0 := by
    rw [serve_zero h', waits_called h h' ha now _ hw, List.mem_filter]
    exact ⟨List.getElem_mem hq, by simpa using notin_after (called_nodup h now) q hq⟩
  exact ⟨hz, fun x => by rw [serve_waits s _ now hz, hw x, Bool.and_assoc, notin_drop]⟩
theorem mem_filter_at {l : List Int} {p : Int → Bool} (k : Nat) (hk : k < l.length) : l[k] ∈ l.filter p ↔ p l[k] = true := by
  rw [List.mem_filter]; exact ⟨fun h => h.2, fun h => ⟨List.getElem_mem hk, h⟩⟩
theorem others_law {f r : RM} {N N' : Nat} (h : f.WF N) (h' : r.WF N') (ha : Alike f r) (hw : ∀ i ∈ f.order, waits f i = true) (now fin : Int) (he : called r fin = r.order.filter (waits r)) : called r now = (called f now).filter (fun x => decide (x ∈ called r fin)) := by
  rw [called_two h h' ha now hw]
  apply List.filter_congr
  intro x hx
  have hm : x ∈ r.order := by rw [ha.order]; exact (called_sub f now).subset hx
  rw [he]
  cases hb : waits r x with
  | true => exact (decide_eq_true (List.mem_filter.2 ⟨hm, hb⟩)).symm
  | false => exact (decide_eq_false (fun q => by have := (List.mem_filter.1 q).2; rw [hb] at this; cases this)).symm
end Go.Proofs.Ytgplcgfdaoenfaa
