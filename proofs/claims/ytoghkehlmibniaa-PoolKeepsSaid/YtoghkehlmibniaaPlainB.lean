/- Plain laws of layer 35: components of pointers, stable exchanges. No condition. -/
import Derived.Test.YtoghkehlmibniaaPlain
namespace Go.Proofs.Ytoghkehlmibniaa
set_option linter.unusedVariables false
set_option linter.unusedSimpArgs false

/-- pointers lead from a holder to another one -/
inductive Rch (to : Nat → List Int) : Nat → Nat → Prop
  | refl (u : Nat) : Rch to u u
  | step {u v w : Nat} : (v : Int) ∈ to u → Rch to v w → Rch to u w
theorem Rch.trans {to : Nat → List Int} {u v w : Nat} (h : Rch to u v) (h2 : Rch to v w) : Rch to u w := by
  induction h with
  | refl => exact h2
  | step he _ ih => exact .step he (ih h2)
theorem Rch.one {to : Nat → List Int} {u v : Nat} (h : (v : Int) ∈ to u) : Rch to u v := .step h (.refl v)
/-- the same within a set -/
inductive PathIn (to : Nat → List Int) (S : List Nat) : Nat → Nat → Prop
  | refl {u : Nat} : u ∈ S → PathIn to S u u
  | step {u v w : Nat} : u ∈ S → (v : Int) ∈ to u → PathIn to S v w → PathIn to S u w
structure Fin (to : Nat → List Int) (n : Nat) (seen : List Bool) (order : List Nat) : Prop where
  ln : seen.length = n
  nd : order.Nodup
  sub : ∀ x ∈ order, x < n ∧ atB seen x = true
  closed : ∀ x ∈ order, ∀ y : Nat, (y : Int) ∈ to x → atB seen y = true
  good : ∀ a i b, order = a ++ i :: b → ∀ v, PathIn to (a ++ [i]) v i → Rch to i v
structure WalkOut (to : Nat → List Int) (n i : Nat) (seen : List Bool) (order : List Nat) (seen' : List Bool) (order' : List Nat) : Prop where
  fin : Fin to n seen' order'
  new : ∃ new, order' = order ++ new ∧ i ∈ new ∧ (∀ x ∈ new, Rch to i x) ∧ (∀ x ∈ new, atB seen x = false) ∧ ∀ x, atB seen' x = true ↔ atB seen x = true ∨ x ∈ new
structure WalkMid (to : Nat → List Int) (n i : Nat) (seen : List Bool) (order : List Nat) (s : List Bool) (o : List Nat) (k : Nat) : Prop where
  fin : Fin to n s o
  new : ∃ new, o = order ++ new ∧ (∀ x ∈ new, Rch to i x) ∧ (∀ x ∈ new, atB seen x = false ∧ x ≠ i) ∧ ∀ x, atB s x = true ↔ atB seen x = true ∨ x = i ∨ x ∈ new
  done : ∀ q, q < k → q < (to i).length → atB s (atI (to i) q).toNat = true
theorem mid_start {to : Nat → List Int} {n i : Nat} {seen : List Bool} {order : List Nat} (h : Fin to n seen order) (hi : i < n) : WalkMid to n i seen order (seen.set i true) order 0 := by
  have hl := h.ln
  have hs : ∀ x, atB (seen.set i true) x = true ↔ atB seen x = true ∨ x = i := fun x => by
    rw [atB_set _ (by omega)]
    by_cases hx : x = i <;> simp [hx]
  refine ⟨⟨by simp [hl], h.nd, fun x hx => ⟨(h.sub x hx).1, (hs x).2 (.inl (h.sub x hx).2)⟩, fun x hx y hy => (hs y).2 (.inl (h.closed x hx y hy)), h.good⟩, ⟨[], by simp, by simp, by simp, fun x => by rw [hs]; simp⟩, fun q hq => by omega⟩
theorem mid_skip {to : Nat → List Int} {n i k : Nat} {seen s : List Bool} {order o : List Nat} (h : WalkMid to n i seen order s o k) (hk : atB s (atI (to i) k).toNat = true) : WalkMid to n i seen order s o (k + 1) :=
  ⟨h.fin, h.new, fun q hq hl => by
    by_cases hqk : q = k
    · subst hqk; exact hk
    · exact h.done q (by omega) hl⟩
theorem mid_call {to : Nat → List Int} {n i k t : Nat} {seen s s' : List Bool} {order o o' : List Nat} (h : WalkMid to n i seen order s o k) (hk : k < (to i).length) (ht : atI (to i) k = t) (hw : WalkOut to n t s o s' o') : WalkMid to n i seen order s' o' (k + 1) := by
  obtain ⟨new, e1, e2, e3, e4⟩ := h.new
  obtain ⟨new2, f1, f2, f3, f4, f5⟩ := hw.new
  have hit : (t : Int) ∈ to i := by rw [← ht]; exact at_mem hk
  refine ⟨hw.fin, ⟨new ++ new2, by rw [f1, e1, List.append_assoc], fun x hx => ?_, fun x hx => ?_, fun x => ?_⟩, fun q hq hl => ?_⟩
  · rcases List.mem_append.1 hx with hx | hx
    · exact e2 x hx
    · exact .step hit (f3 x hx)
  · rcases List.mem_append.1 hx with hx | hx
    · exact e3 x hx
    · have h1 := f4 x hx
      have h2 := e4 x
      rw [h1] at h2
      have h3 : ¬ (atB seen x = true ∨ x = i ∨ x ∈ new) := fun hh => by have := h2.2 hh; cases this
      exact ⟨by rw [← Bool.not_eq_true]; exact fun hh => h3 (.inl hh), fun hh => h3 (.inr (.inl hh))⟩
  · rw [f5, e4, List.mem_append]
    constructor
    · rintro ((h | h | h) | h)
      · exact .inl h
      · exact .inr (.inl h)
      · exact .inr (.inr (.inl h))
      · exact .inr (.inr (.inr h))
    · rintro (h | h | h | h)
      · exact .inl (.inl h)
      · exact .inl (.inr (.inl h))
      · exact .inl (.inr (.inr h))
      · exact .inr h
  · rw [f5]
    by_cases hqk : q = k
    · subst hqk; rw [ht, Int.toNat_natCast]; exact .inr f2
    · exact .inl (h.done q (by omega) hl)
theorem path_exit {to : Nat → List Int} {S : List Nat} {A : List Nat} {v i : Nat} (h : PathIn to S v i) (hv : v ∈ A) (hi : i ∉ A) : ∃ y z : Nat, y ∈ A ∧ (z : Int) ∈ to y ∧ z ∈ S ∧ z ∉ A := by
  induction h with
  | refl _ => exact absurd hv hi
  | @step u w x hu he hp ih =>
    by_cases hw : w ∈ A
    · exact ih hw hi
    · refine ⟨u, w, hv, he, ?_, hw⟩
      cases hp with
      | refl h => exact h
      | step h _ _ => exact h
theorem PathIn.head {to : Nat → List Int} {S : List Nat} {v i : Nat} (h : PathIn to S v i) : v ∈ S := by
  cases h with
  | refl h => exact h
  | step h _ _ => exact h
theorem mid_end {to : Nat → List Int} {n i k : Nat} {seen s : List Bool} {order o : List Nat} (h0 : Fin to n seen order) (hi : i < n) (hsi : atB seen i = false) (h : WalkMid to n i seen order s o k) (hk : (to i).length ≤ k) : WalkOut to n i seen order s (o ++ [i]) := by
  obtain ⟨new, e1, e2, e3, e4⟩ := h.new
  have hio : i ∉ o := fun hm => by
    rw [e1] at hm
    rcases List.mem_append.1 hm with hm | hm
    · have := (h0.sub i hm).2; rw [hsi] at this; cases this
    · exact (e3 i hm).2 rfl
  refine ⟨⟨h.fin.ln, ?_, fun x hx => ?_, fun x hx y hy => ?_, fun a j b e v hp => ?_⟩, ⟨new ++ [i], by rw [e1, List.append_assoc], by simp, fun x hx => ?_, fun x hx => ?_, fun x => ?_⟩⟩
  · rw [List.nodup_append]
    exact ⟨h.fin.nd, by simp, fun a ha b hb e => by simp at hb; subst hb; subst e; exact hio ha⟩
  · rcases List.mem_append.1 hx with hx | hx
    · exact h.fin.sub x hx
    · simp at hx; subst hx; exact ⟨hi, (e4 x).2 (.inr (.inl rfl))⟩
  · rcases List.mem_append.1 hx with hx | hx
    · exact h.fin.closed x hx y hy
    · simp at hx; subst hx
      obtain ⟨q, hq, he⟩ := mem_at hy
      have := h.done q (by omega) hq
      rwa [he, Int.toNat_natCast] at this
  · rcases List.eq_nil_or_concat b with rfl | ⟨b', c, rfl⟩
    · have e5 : o = a ∧ i = j := by
        have := List.append_inj' e (by simp)
        exact ⟨this.1, by simpa using this.2⟩
      obtain ⟨rfl, rfl⟩ := e5
      have hv := hp.head
      rcases List.mem_append.1 hv with hv | hv
      · rw [e1] at hv
        rcases List.mem_append.1 hv with hv | hv
        · exfalso
          obtain ⟨y, z, hy, hz, hzS, hzn⟩ := path_exit hp hv (fun hm => by have := (h0.sub i hm).2; rw [hsi] at this; cases this)
          have h1 := h0.closed y hy z hz
          rcases List.mem_append.1 hzS with hzS | hzS
          · rw [e1] at hzS
            rcases List.mem_append.1 hzS with hzS | hzS
            · exact hzn hzS
            · have := (e3 z hzS).1; rw [h1] at this; cases this
          · simp at hzS; subst hzS; rw [hsi] at h1; cases h1
        · exact e2 v hv
      · simp at hv; subst hv; exact .refl _
    · have e5 : o = a ++ j :: b' := by
        have e6 : o ++ [i] = (a ++ j :: b') ++ [c] := by rw [e]; simp
        exact (List.append_inj' e6 (by simp)).1
      exact h.fin.good a j b' e5 v hp
  · rcases List.mem_append.1 hx with hx | hx
    · exact e2 x hx
    · simp at hx; subst hx; exact .refl _
  · rcases List.mem_append.1 hx with hx | hx
    · exact (e3 x hx).1
    · simp at hx; subst hx; exact hsi
  · rw [e4, List.mem_append, List.mem_singleton]
    constructor
    · rintro (h | h | h)
      · exact .inl h
      · exact .inr (.inr h)
      · exact .inr (.inl h)
    · rintro (h | h | h)
      · exact .inl h
      · exact .inr (.inr h)
      · exact .inr (.inl h)
theorem there_mono {s s' : List Bool} (hl : s'.length = s.length) (h : ∀ x, atB s x = true → atB s' x = true) : thereC s' ≤ thereC s :=
  nodup_le (List.nodup_range.sublist List.filter_sublist) (fun y hy => by
    obtain ⟨h1, h2⟩ := List.mem_filter.1 hy
    refine List.mem_filter.2 ⟨by rw [← hl]; exact h1, ?_⟩
    cases hs : atB s y with
    | false => rfl
    | true => rw [h y hs] at h2; cases h2)
theorem there_set {s : List Bool} {i : Nat} (hi : i < s.length) (hs : atB s i = false) : thereC (s.set i true) < thereC s := by
  have := nodup_le (l := i :: (List.range (s.set i true).length).filter (fun j => !atB (s.set i true) j)) (m := (List.range s.length).filter (fun j => !atB s j))
    (List.nodup_cons.2 ⟨fun hm => by
      have := (List.mem_filter.1 hm).2
      rw [atB_set _ hi, if_pos rfl] at this; exact absurd this (by decide), List.nodup_range.sublist List.filter_sublist⟩) (fun y hy => by
      rcases List.mem_cons.1 hy with rfl | hy
      · exact List.mem_filter.2 ⟨List.mem_range.2 hi, by rw [hs]; rfl⟩
      · obtain ⟨h1, h2⟩ := List.mem_filter.1 hy
        rw [List.length_set] at h1
        refine List.mem_filter.2 ⟨h1, ?_⟩
        rw [atB_set _ hi] at h2
        split at h2
        · cases h2
        · exact h2)
  simp only [List.length_cons] at this
  unfold thereC; omega
theorem WalkOut.mono {to : Nat → List Int} {n i : Nat} {seen seen' : List Bool} {order order' : List Nat} (h : WalkOut to n i seen order seen' order') (x : Nat) (hx : atB seen x = true) : atB seen' x = true := by
  obtain ⟨new, _, _, _, _, e⟩ := h.new
  exact (e x).2 (.inl hx)
theorem WalkMid.mono {to : Nat → List Int} {n i k : Nat} {seen s : List Bool} {order o : List Nat} (h : WalkMid to n i seen order s o k) (hi : i < seen.length) (x : Nat) (hx : atB (seen.set i true) x = true) : atB s x = true := by
  obtain ⟨new, _, _, _, e⟩ := h.new
  rw [atB_set _ hi] at hx
  refine (e x).2 ?_
  split at hx
  · exact .inr (.inl (by assumption))
  · exact .inl hx
theorem fin_start (to : Nat → List Int) (n : Nat) : Fin to n (List.replicate n false) [] :=
  ⟨by simp, List.nodup_nil, fun x h => (by cases h), fun x h => (by cases h), fun a i b h => by simp at h⟩
/-- all of them, one after the other -/
structure Pass (to : Nat → List Int) (n : Nat) (seen : List Bool) (order : List Nat) (k : Nat) : Prop where
  fin : Fin to n seen order
  same : ∀ x, atB seen x = true → x ∈ order
  all : ∀ j, j < k → atB seen j = true
theorem pass_start (to : Nat → List Int) (n : Nat) : Pass to n (List.replicate n false) [] 0 := ⟨fin_start to n, fun x h => (by rw [rep_at] at h; cases h), fun j h => by omega⟩
theorem pass_skip {to : Nat → List Int} {n k : Nat} {seen : List Bool} {order : List Nat} (h : Pass to n seen order k) (hk : atB seen k = true) : Pass to n seen order (k + 1) :=
  ⟨h.fin, h.same, fun j hj => by
    by_cases hjk : j = k
    · subst hjk; exact hk
    · exact h.all j (by omega)⟩
theorem pass_call {to : Nat → List Int} {n k : Nat} {seen s : List Bool} {order o : List Nat} (h : Pass to n seen order k) (hw : WalkOut to n k seen order s o) : Pass to n s o (k + 1) := by
  obtain ⟨new, e1, e2, _, _, e5⟩ := hw.new
  refine ⟨hw.fin, fun x hx => ?_, fun j hj => ?_⟩
  · rw [e1]
    rcases (e5 x).1 hx with hx | hx
    · exact List.mem_append_left _ (h.same x hx)
    · exact List.mem_append_right _ hx
  · by_cases hjk : j = k
    · subst hjk; exact (e5 j).2 (.inr e2)
    · exact hw.mono j (h.all j (by omega))

/-! ### numbers of components -/
def atN (l : List Nat) (i : Nat) : Nat := l.getD i 0
theorem atN_eq {l : List Nat} {i : Nat} (h : i < l.length) : atN l i = l[i] := by unfold atN; rw [List.getD_eq_getElem?_getD, List.getElem?_eq_getElem h]; rfl
theorem atN_set {l : List Nat} {i : Nat} (v : Nat) (h : i < l.length) (j : Nat) : atN (l.set i v) j = if j = i then v else atN l j := by
  unfold atN
  rw [List.getD_eq_getElem?_getD, List.getD_eq_getElem?_getD, List.getElem?_set]
  by_cases hj : j = i
  · subst hj; simp [h]
  · rw [if_neg (fun e => hj e.symm), if_neg hj]
/-- the last ones of the order have their numbers, from place j on -/
structure Cls (to : Nat → List Int) (n : Nat) (order out : List Nat) (m j : Nat) : Prop where
  lo : out.length = n
  bd : ∀ x, x < n → atN out x ≤ m
  mj : m + j ≤ n
  done : ∀ q, j ≤ q → (h : q < order.length) → 0 < atN out order[q]
  pred : ∀ x y, x < n → y < n → (y : Int) ∈ to x → 0 < atN out y → 0 < atN out x
  cls : ∀ x y, x < n → y < n → 0 < atN out x → 0 < atN out y → (atN out x = atN out y ↔ Rch to x y ∧ Rch to y x)
theorem repN_at (n j : Nat) : atN (List.replicate n 0) j = 0 := by
  unfold atN
  rw [List.getD_eq_getElem?_getD, List.getElem?_replicate]
  split <;> rfl
theorem cls_start (to : Nat → List Int) (n : Nat) (order : List Nat) (hl : order.length = n) : Cls to n order (List.replicate n 0) 0 order.length :=
  ⟨by simp, fun x _ => by rw [repN_at]; omega, by omega, fun q h1 h2 => by omega, fun x y _ _ _ h => by rw [repN_at] at h; omega, fun x y _ _ h => by rw [repN_at] at h; omega⟩
theorem cls_skip {to : Nat → List Int} {n m j : Nat} {order out : List Nat} (h : Cls to n order out m (j + 1)) (hj : j < order.length) (hp : 0 < atN out order[j]) : Cls to n order out m j :=
  ⟨h.lo, h.bd, by have := h.mj; omega, fun q h1 h2 => by
    by_cases hq : q = j
    · subst hq; exact hp
    · exact h.done q (by omega) h2, h.pred, h.cls⟩
/-- those that reach i, one after the other; xs still wait -/
structure Bfs (to : Nat → List Int) (n : Nat) (out0 : List Nat) (m i : Nat) (out xs : List Nat) : Prop where
  lo : out.length = n
  old : ∀ x, x < n → 0 < atN out0 x → atN out x = atN out0 x
  new : ∀ x, x < n → atN out0 x = 0 → atN out x = 0 ∨ atN out x = m
  rch : ∀ x, x < n → atN out0 x = 0 → atN out x = m → Rch to x i
  que : ∀ x ∈ xs, x < n ∧ atN out0 x = 0 ∧ atN out x = m
  pre : ∀ x y, x < n → y < n → (y : Int) ∈ to x → atN out0 y = 0 → atN out y = m → y ∉ xs → 0 < atN out x
  at_ : atN out i = m
theorem bfs_start {to : Nat → List Int} {n m i : Nat} {out0 : List Nat} (hl : out0.length = n) (hi : i < n) (h0 : atN out0 i = 0) (hm : 0 < m) : Bfs to n out0 m i (out0.set i m) [i] := by
  have hs : ∀ x, atN (out0.set i m) x = if x = i then m else atN out0 x := fun x => atN_set _ (by omega) x
  refine ⟨by simp [hl], fun x _ hx => ?_, fun x _ hx => ?_, fun x _ hx he => ?_, fun x hx => ?_, fun x y _ _ _ h1 h2 h3 => ?_, by rw [hs, if_pos rfl]⟩
  · rw [hs, if_neg (fun e => by subst e; omega)]
  · rw [hs]; split
    · exact .inr rfl
    · exact .inl hx
  · rw [hs] at he
    split at he
    · rename_i e; subst e; exact .refl _
    · omega
  · simp at hx; subst hx; exact ⟨hi, h0, by rw [hs, if_pos rfl]⟩
  · rw [hs] at h2
    split at h2
    · rename_i e; exact absurd (by simp [e]) h3
    · omega
theorem bfs_add {to : Nat → List Int} {n m i t y : Nat} {out0 out xs : List Nat} (h : Bfs to n out0 m i out xs) (ht : t < n) (hy : y ∈ xs) (hty : (y : Int) ∈ to t) (h0 : atN out t = 0) (hm : 0 < m) : Bfs to n out0 m i (out.set t m) (xs ++ [t]) := by
  have hl := h.lo
  have hs : ∀ x, atN (out.set t m) x = if x = t then m else atN out x := fun x => atN_set _ (by omega) x
  have ho : atN out0 t = 0 := by
    rcases Nat.eq_zero_or_pos (atN out0 t) with h1 | h1
    · exact h1
    · have := h.old t ht h1; omega
  obtain ⟨y1, y2, y3⟩ := h.que y hy
  have hri := h.rch y y1 y2 y3
  refine ⟨by simp [hl], fun x hx hp => ?_, fun x hx hp => ?_, fun x hx hp he => ?_, fun x hx => ?_, fun x z hx hz he h1 h2 h3 => ?_, ?_⟩
  · rw [hs, if_neg (fun e => by subst e; omega)]; exact h.old x hx hp
  · rw [hs]; split
    · exact .inr rfl
    · exact h.new x hx hp
  · rw [hs] at he
    split at he
    · rename_i e; subst e; exact .step hty hri
    · exact h.rch x hx hp he
  · rcases List.mem_append.1 hx with hx | hx
    · obtain ⟨a, b, c⟩ := h.que x hx
      refine ⟨a, b, ?_⟩
      rw [hs]; split
      · rfl
      · exact c
    · simp at hx; subst hx; exact ⟨ht, ho, by rw [hs, if_pos rfl]⟩
  · rw [hs] at h2
    rw [hs]
    split at h2
    · rename_i e; exact absurd (by simp [e]) h3
    · split
      · exact hm
      · exact h.pre x z hx hz he h1 h2 (fun hh => h3 (List.mem_append_left _ hh))
  · rw [hs]; split
    · rfl
    · exact h.at_
theorem bfs_next {to : Nat → List Int} {n m i y : Nat} {out0 out xs : List Nat} (h : Bfs to n out0 m i out (y :: xs)) (hp : ∀ x, x < n → (y : Int) ∈ to x → 0 < atN out x) : Bfs to n out0 m i out xs :=
  ⟨h.lo, h.old, h.new, h.rch, fun x hx => h.que x (List.mem_cons_of_mem _ hx), fun x z hx hz he h1 h2 h3 => by
    by_cases hzy : z = y
    · subst hzy; exact hp x hx he
    · exact h.pre x z hx hz he h1 h2 (fun hh => (List.mem_cons.1 hh).elim hzy h3), h.at_⟩
theorem Cls.back {to : Nat → List Int} {n m j : Nat} {order out : List Nat} (hto : ∀ u, u < n → ∀ t ∈ to u, 0 ≤ t ∧ t < n) (h : Cls to n order out m j) {x y : Nat} (hp : Rch to x y) : x < n → 0 < atN out y → 0 < atN out x := by
  induction hp with
  | refl => intro _ h; exact h
  | @step u v w he _ ih =>
    intro hu hw
    have hv := hto u hu _ he
    exact h.pred u v hu (by omega) he (ih (by omega) hw)
theorem cls_end {to : Nat → List Int} {n m j : Nat} {order out0 out : List Nat} {seen : List Bool} (hto : ∀ u, u < n → ∀ t ∈ to u, 0 ≤ t ∧ t < n) (hf : Pass to n seen order n) (hj : j < order.length) (h : Cls to n order out0 m (j + 1)) (h0 : atN out0 order[j] = 0) (hb : Bfs to n out0 (m + 1) order[j] out []) : Cls to n order out (m + 1) j := by
  have hlt : ∀ x, x ∈ order → x < n := fun x hx => (hf.fin.sub x hx).1
  have hin : ∀ x, x < n → x ∈ order := fun x hx => hf.same x (hf.all x hx)
  have hjn := hlt _ (List.getElem_mem hj)
  -- what has a number now
  have hnew : ∀ x, x < n → 0 < atN out x → 0 < atN out0 x ∨ (atN out0 x = 0 ∧ atN out x = m + 1) := fun x hx hp => by
    rcases Nat.eq_zero_or_pos (atN out0 x) with h1 | h1
    · rcases hb.new x hx h1 with h2 | h2
      · omega
      · exact .inr ⟨h1, h2⟩
    · exact .inl h1
  -- who reaches i and has no number is reached by i
  have hfor : ∀ x, x < n → atN out0 x = 0 → Rch to x order[j] → Rch to order[j] x := fun x hx hx0 hp => by
    have e : order = order.take j ++ order[j] :: order.drop (j + 1) := by rw [← List.drop_eq_getElem_cons hj, List.take_append_drop]
    refine hf.fin.good _ _ _ e x ?_
    have hpos : ∀ y, y < n → atN out0 y = 0 → y ∈ order.take j ++ [order[j]] := fun y hy hy0 => by
      obtain ⟨q, hq, rfl⟩ := List.getElem_of_mem (hin y hy)
      rcases Nat.lt_trichotomy q j with hl | hl | hl
      · exact List.mem_append_left _ (List.mem_take_iff_getElem.2 ⟨q, by omega, rfl⟩)
      · subst hl; exact List.mem_append_right _ (List.mem_singleton.2 rfl)
      · have := h.done q (by omega) hq; omega
    have key : ∀ u z, Rch to u z → u < n → atN out0 u = 0 → PathIn to (order.take j ++ [order[j]]) u z := fun u z hp => by
      induction hp with
      | refl => exact fun hu hu0 => .refl (hpos _ hu hu0)
      | @step u v w he hp ih =>
        intro hu hu0
        have hv := hto u hu _ he
        have hv0 : atN out0 v = 0 := by
          rcases Nat.eq_zero_or_pos (atN out0 v) with h1 | h1
          · exact h1
          · have := h.pred u v hu (by omega) he h1; omega
        exact .step (hpos u hu hu0) he (ih (by omega) hv0)
    exact key x _ hp hx hx0
  refine ⟨hb.lo, fun x hx => ?_, by have := h.mj; omega, fun q h1 h2 => ?_, fun x y hx hy he hp => ?_, fun x y hx hy hpx hpy => ?_⟩
  · rcases Nat.eq_zero_or_pos (atN out0 x) with h1 | h1
    · rcases hb.new x hx h1 with h2 | h2 <;> omega
    · rw [hb.old x hx h1]; have := h.bd x hx; omega
  · by_cases hq : q = j
    · subst hq; rw [hb.at_]; omega
    · have h3 := h.done q (by omega) h2
      rw [hb.old _ (hlt _ (List.getElem_mem h2)) h3]; exact h3
  · rcases hnew y hy hp with h1 | ⟨h1, h2⟩
    · have := h.pred x y hx hy he h1
      rw [hb.old x hx this]; exact this
    · exact hb.pre x y hx hy he h1 h2 (by simp)
  · rcases hnew x hx hpx with h1 | ⟨h1, h2⟩ <;> rcases hnew y hy hpy with h3 | ⟨h3, h4⟩
    · rw [hb.old x hx h1, hb.old y hy h3]; exact h.cls x y hx hy h1 h3
    · rw [hb.old x hx h1, h4]
      have := h.bd x hx
      refine ⟨fun e => by omega, fun hr => ?_⟩
      have := h.back hto hr.2 hy h1
      omega
    · rw [h2, hb.old y hy h3]
      have := h.bd y hy
      refine ⟨fun e => by omega, fun hr => ?_⟩
      have := h.back hto hr.1 hx h3
      omega
    · rw [h2, h4]
      refine ⟨fun _ => ?_, fun _ => rfl⟩
      have a := hb.rch x hx h1 h2
      have b := hb.rch y hy h3 h4
      exact ⟨a.trans (hfor y hy h3 b), b.trans (hfor x hx h1 a)⟩
theorem cls_all {to : Nat → List Int} {n m : Nat} {order out : List Nat} {seen : List Bool} (hf : Pass to n seen order n) (h : Cls to n order out m 0) : ∀ x y, x < n → y < n → (atN out x = atN out y ↔ Rch to x y ∧ Rch to y x) := fun x y hx hy => by
  have hp : ∀ x, x < n → 0 < atN out x := fun x hx => by
    obtain ⟨q, hq, rfl⟩ := List.getElem_of_mem (hf.same x (hf.all x hx))
    exact h.done q (by omega) hq
  exact h.cls x y hx hy (hp x hx) (hp y hy)
def zeroC (out : List Nat) : Nat := ((List.range out.length).filter (fun j => decide (atN out j = 0))).length
theorem zero_set {out : List Nat} {t m : Nat} (ht : t < out.length) (h0 : atN out t = 0) (hm : 0 < m) : zeroC (out.set t m) < zeroC out := by
  have := nodup_le (l := t :: (List.range (out.set t m).length).filter (fun j => decide (atN (out.set t m) j = 0))) (m := (List.range out.length).filter (fun j => decide (atN out j = 0)))
    (List.nodup_cons.2 ⟨fun hm2 => by
      have := (List.mem_filter.1 hm2).2
      rw [atN_set _ ht, if_pos rfl] at this
      simp at this; omega, List.nodup_range.sublist List.filter_sublist⟩) (fun y hy => by
      rcases List.mem_cons.1 hy with rfl | hy
      · exact List.mem_filter.2 ⟨List.mem_range.2 ht, by simp [h0]⟩
      · obtain ⟨h1, h2⟩ := List.mem_filter.1 hy
        rw [List.length_set] at h1
        refine List.mem_filter.2 ⟨h1, ?_⟩
        rw [atN_set _ ht] at h2
        split at h2
        · simp at h2; omega
        · exact h2)
  simp only [List.length_cons] at this
  unfold zeroC; omega

def encN (n : Nat) : List Go.Value := [.int .i64 (n : Int)]
/-- to whom pointers lead: what a holder gets, and what it likes more -/
def toS (got : List Int) (qs : List (Go.Value × List Int)) : Nat → List Int := fun i => atI got i :: rowG (gr qs) i

/-- who points to whom: of holders below i, and of the first k pointers of i -/
structure FromOK (to : Nat → List Int) (n : Nat) (fs : List (Go.Value × List Nat)) (i k : Nat) : Prop where
  len : fs.length = n
  mem : ∀ t, (h : t < fs.length) → ∀ x, x ∈ fs[t].2 ↔ (x < i ∧ (t : Int) ∈ to x) ∨ (x = i ∧ (t : Int) ∈ (to i).take k)
  bnd : ∀ t, (h : t < fs.length) → fs[t].2.length ≤ 1100 * i + k
theorem from_start (to : Nat → List Int) (n : Nat) : FromOK to n (List.replicate n (Go.Value.slice none 0 0, [])) 0 0 :=
  ⟨by simp, fun t h x => by simp, fun t h => by simp⟩
theorem from_step {to : Nat → List Int} {n : Nat} {fs : List (Go.Value × List Nat)} {i k t : Nat} (h : FromOK to n fs i k) (ht : t < fs.length) (hk : k < (to i).length) (he : (to i)[k] = t) (u : Go.Value) : FromOK to n (fs.set t (u, fs[t].2 ++ [i])) i (k + 1) := by
  refine ⟨by simp [h.len], fun s hs x => ?_, fun s hs => ?_⟩
  · rw [List.take_succ_eq_append_getElem hk, he]
    rw [List.getElem_set]
    have hs' : s < fs.length := by simpa using hs
    split
    · rename_i e; subst e
      simp only [List.mem_append, List.mem_singleton]
      rw [h.mem t ht x]
      constructor
      · rintro ((h | h) | h)
        · exact .inl h
        · exact .inr ⟨h.1, .inl h.2⟩
        · exact .inr ⟨h, .inr trivial⟩
      · rintro (h | ⟨h1, h | h⟩)
        · exact .inl (.inl h)
        · exact .inl (.inr ⟨h1, h⟩)
        · exact .inr h1
    · rename_i e
      simp only [List.mem_append, List.mem_singleton]
      rw [h.mem s hs' x]
      constructor
      · rintro (h | h)
        · exact .inl h
        · exact .inr ⟨h.1, .inl h.2⟩
      · rintro (h | ⟨h1, h | h⟩)
        · exact .inl h
        · exact .inr ⟨h1, h⟩
        · exact absurd (by omega) e
  · have hs' : s < fs.length := by simpa using hs
    rw [List.getElem_set]
    split
    · have := h.bnd t ht; simp; omega
    · have := h.bnd s hs'; omega
theorem from_end {to : Nat → List Int} {n : Nat} {fs : List (Go.Value × List Nat)} {i k : Nat} (h : FromOK to n fs i k) (hk : k = (to i).length) (hl : (to i).length ≤ 1100) : FromOK to n fs (i + 1) 0 := by
  subst hk
  refine ⟨h.len, fun t ht x => ?_, fun t ht => by have := h.bnd t ht; omega⟩
  rw [h.mem t ht x, List.take_length]
  simp only [List.take_zero, List.not_mem_nil, and_false, or_false]
  constructor
  · rintro (⟨a, b⟩ | ⟨rfl, b⟩)
    · exact ⟨by omega, b⟩
    · exact ⟨by omega, b⟩
  · rintro ⟨a, b⟩
    by_cases e : x = i
    · subst e; exact .inr ⟨rfl, b⟩
    · exact .inl ⟨by omega, b⟩
end Go.Proofs.Ytoghkehlmibniaa
