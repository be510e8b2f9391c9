/- Plain laws of layer 35: the reference's way into a circle; who reaches whom. No condition. -/
import Derived.Test.YtoghkehlmibniaaPlainC
namespace Go.Proofs.Ytoghkehlmibniaa
set_option linter.unusedVariables false
set_option linter.unusedSimpArgs false
open Go.Gw

def itN (f : Nat → Nat) : Nat → Nat → Nat
  | 0, x => x
  | k + 1, x => f (itN f k x)
theorem it_add (f : Nat → Nat) (a b x : Nat) : itN f (a + b) x = itN f a (itN f b x) := by
  induction a with
  | zero => rw [Nat.zero_add]; rfl
  | succ a ih => rw [show a + 1 + b = (a + b) + 1 by omega]; show f _ = f _; rw [ih]
theorem it_mul {f : Nat → Nat} {d x : Nat} (h : itN f d x = x) : ∀ a, itN f (a * d) x = x
  | 0 => by rw [Nat.zero_mul]; rfl
  | a + 1 => by rw [Nat.succ_mul, it_add, h, it_mul h a]
/-- after n steps among n one stands in a circle -/
theorem it_circle {f : Nat → Nat} {n x : Nat} (h : ∀ k, itN f k x < n) : ∃ d, 0 < d ∧ itN f d (itN f n x) = itN f n x := by
  have hne : ¬ ((List.range (n + 1)).map (fun k => itN f k x)).Nodup := fun hd => by
    have := nodup_le (m := List.range n) hd (fun y hy => by
      obtain ⟨k, _, rfl⟩ := List.mem_map.1 hy
      exact List.mem_range.2 (h k))
    simp at this; omega
  have hex : ∃ p q, p < q ∧ q ≤ n ∧ itN f p x = itN f q x := Classical.byContradiction (fun hno => hne (nodup_map _ List.nodup_range (fun p hp q hq e => by
    have hp := List.mem_range.1 hp
    have hq := List.mem_range.1 hq
    rcases Nat.lt_trichotomy p q with hl | hl | hl
    · exact absurd ⟨p, q, hl, by omega, e⟩ hno
    · exact hl
    · exact absurd ⟨q, p, hl, by omega, e.symm⟩ hno)))
  obtain ⟨p, q, hpq, hqn, e⟩ := hex
  refine ⟨q - p, by omega, ?_⟩
  rw [← it_add, show q - p + n = (n - p) + q by omega, it_add, ← e, ← it_add, show n - p + p = n by omega]
def nxN (ws : Ws) (gone : List Bool) (k : Nat) : Nat := (nxtL ws gone k).toNat
theorem nx_law {ws : Ws} (hr : Right ws) {gone : List Bool} {k : Nat} (hk : k < ws.length) (hg : atB gone k = false) : nxtL ws gone k = (nxN ws gone k : Int) ∧ nxN ws gone k < ws.length ∧ atB gone (nxN ws gone k) = false := by
  have hb := best_law hr hk hg
  unfold nxN
  exact ⟨by omega, by omega, hb.2.1⟩
theorem it_law {ws : Ws} (hr : Right ws) {gone : List Bool} {k : Nat} (hk : k < ws.length) (hg : atB gone k = false) : ∀ j, itN (nxN ws gone) j k < ws.length ∧ atB gone (itN (nxN ws gone) j k) = false
  | 0 => ⟨hk, hg⟩
  | j + 1 => by have h := it_law hr hk hg j; exact (nx_law hr h.1 h.2).2
theorem way_at {ws : Ws} (hr : Right ws) {gone : List Bool} {way : List Int} {i : Int} {x : Nat} (h : Way ws gone way i) (h0 : atI (way ++ [i]) 0 = x) (hx : x < ws.length) (hg : atB gone x = false) : ∀ q, q < way.length → atI way q = (itN (nxN ws gone) q x : Nat) := by
  intro q
  induction q with
  | zero =>
    intro hq
    have : atI (way ++ [i]) 0 = atI way 0 := by unfold atI; simp only [List.getD_eq_getElem?_getD, List.getElem?_append_left hq]
    rw [← this, h0]; rfl
  | succ q ih =>
    intro hq
    rw [← h.step q hq, ih (by omega)]
    have hi := it_law hr hx hg q
    exact (nx_law hr hi.1 hi.2).1
theorem way_circ {ws : Ws} (hr : Right ws) {gone : List Bool} {way : List Int} {i : Int} {x : Nat} (h : Way ws gone way i) (h0 : atI (way ++ [i]) 0 = x) (hx : x < ws.length) (hg : atB gone x = false) (hc : ∃ d, 0 < d ∧ itN (nxN ws gone) d x = x) (hi : i ∈ way) : Circ ws gone way := by
  obtain ⟨p, hp, e⟩ := mem_at hi
  have hat := way_at hr h h0 hx hg
  rcases Nat.eq_zero_or_pos p with h0 | hpos
  · subst h0
    have := way_stop (a := 0) hp (by rw [e]; exact h)
    rwa [List.drop_zero] at this
  · exfalso
    obtain ⟨d, hd, hcd⟩ := hc
    have hl := h.last (fun e => by subst e; simp at hp)
    have hlast := hat (way.length - 1) (by omega)
    have hit := it_law hr hx hg (way.length - 1)
    rw [hlast, (nx_law hr hit.1 hit.2).1] at hl
    have he : itN (nxN ws gone) way.length x = itN (nxN ws gone) p x := by
      have h1 : itN (nxN ws gone) way.length x = nxN ws gone (itN (nxN ws gone) (way.length - 1) x) := by
        conv => lhs; rw [show way.length = (way.length - 1) + 1 by omega]
        rfl
      have h2 := hat p hp
      rw [e, ← hl] at h2
      rw [h1]; exact Int.ofNat.inj h2
    have hm := it_mul hcd p
    have hle : p ≤ p * d := Nat.le_mul_of_pos_right p hd
    have h3 : itN (nxN ws gone) (way.length - p) x = x := by
      have h4 : itN (nxN ws gone) (p * d - p + way.length) x = itN (nxN ws gone) (p * d - p + p) x := by rw [it_add, he, ← it_add]
      rw [show p * d - p + p = p * d by omega, hm, show p * d - p + way.length = (way.length - p) + p * d by omega, it_add, hm] at h4
      exact h4
    have h5 := hat (way.length - p) (by omega)
    have h6 := hat 0 (by omega)
    rw [h3] at h5
    have := nodup_at h.nd (by omega) (by omega) (h5.trans h6.symm)
    omega
theorem head_snoc {way : List Int} {i j : Int} : atI (way ++ [i] ++ [j]) 0 = atI (way ++ [i]) 0 := by
  cases way with
  | nil => rfl
  | cons a as => rfl
/-- who is there -/
def flip (gone : List Bool) : List Bool := gone.map (!·)
theorem flip_len (gone : List Bool) : (flip gone).length = gone.length := by simp [flip]
theorem flip_at {gone : List Bool} {k : Nat} (h : k < gone.length) (h2 : k < (flip gone).length) : (flip gone)[k] = !atB gone k := by
  rw [atB_eq h]; simp [flip]
theorem flip_set (gone : List Bool) (k : Nat) : (flip gone).set k false = flip (gone.set k true) := by
  unfold flip; rw [List.map_set]; rfl
theorem flip_all {l : List Bool} {n : Nat} (hl : l.length = n) (h : ∀ j, j < n → atB l j = true) : l = flip (List.replicate n false) := by
  refine List.ext_getElem (by simp [flip, hl]) (fun j h1 h2 => ?_)
  have := h j (by omega)
  rw [atB_eq h1] at this
  rw [this]; simp [flip]
/-! ### who reaches whom -/
structure Rx (to : Nat → List Int) (n x y : Nat) (s : List Bool) (l : List Int) (k : Nat) : Prop where
  ln : s.length = n
  mem : ∀ j : Nat, atB s j = true ↔ (j : Int) ∈ l
  nd : l.Nodup
  rng : ∀ j ∈ l, 0 ≤ j ∧ j < n
  from_ : ∀ j ∈ l, Rch to x j.toNat
  first : (x : Int) ∈ l
  done : ∀ j, j < k → j < l.length → ∀ t ∈ to (atI l j).toNat, t ∈ l
  noend : ∀ j, j < k → j < l.length → atI l j ≠ y
theorem rx_start {to : Nat → List Int} {n x : Nat} (y : Nat) (hx : x < n) : Rx to n x y ((List.replicate n false).set x true) [(x : Int)] 0 := by
  refine ⟨by simp, fun j => ?_, by simp, fun j hj => ?_, fun j hj => ?_, by simp, fun j hj => by omega, fun j hj => by omega⟩
  · rw [atB_set _ (by simpa using hx), rep_at]
    simp only [List.mem_cons, List.not_mem_nil, or_false]
    split <;> rename_i h
    · simp [h]
    · simp; omega
  · simp at hj; omega
  · simp at hj; subst hj; exact Rch.refl _
theorem rx_len {to : Nat → List Int} {n x y k : Nat} {s : List Bool} {l : List Int} (h : Rx to n x y s l k) : l.length ≤ n := nodup_rng h.nd h.rng
theorem rx_add {to : Nat → List Int} {n x y k u t : Nat} {s : List Bool} {l : List Int} (h : Rx to n x y s l k) (hu : (u : Int) ∈ l) (ht : (t : Int) ∈ to u) (htn : t < n) (hs : atB s t = false) (hk : k < l.length) : Rx to n x y (s.set t true) (l ++ [(t : Int)]) k := by
  have hat : ∀ q, q < l.length → atI (l ++ [(t : Int)]) q = atI l q := fun q hq => by unfold atI; simp only [List.getD_eq_getElem?_getD, List.getElem?_append_left hq]
  have hnt : (t : Int) ∉ l := fun hm => by rw [(h.mem t).2 hm] at hs; cases hs
  refine ⟨by rw [List.length_set]; exact h.ln, fun j => ?_, ?_, fun j hj => ?_, fun j hj => ?_, List.mem_append_left _ h.first, fun j hj hl => ?_, fun j hj hl => ?_⟩
  · rw [atB_set _ (by rw [h.ln]; exact htn), List.mem_append]
    simp only [List.mem_cons, List.not_mem_nil, or_false]
    split <;> rename_i e
    · simp [e]
    · rw [h.mem]; constructor
      · exact fun hm => .inl hm
      · rintro (hm | hm)
        · exact hm
        · omega
  · rw [List.nodup_append]
    exact ⟨h.nd, by simp, fun a ha b hb e => by simp at hb; subst hb; subst e; exact hnt ha⟩
  · rcases List.mem_append.1 hj with hj | hj
    · exact h.rng j hj
    · simp at hj; omega
  · rcases List.mem_append.1 hj with hj | hj
    · exact h.from_ j hj
    · simp at hj; subst hj
      have := h.from_ _ hu
      rw [Int.toNat_natCast] at this ⊢
      exact this.trans (.one ht)
  · rw [hat j (by omega)]
    exact fun z hz => List.mem_append_left _ (h.done j hj (by omega) z hz)
  · rw [hat j (by omega)]; exact h.noend j hj (by omega)
theorem rx_step {to : Nat → List Int} {n x y k u : Nat} {s : List Bool} {l : List Int} (h : Rx to n x y s l k) (hu : atI l k = u) (hne : u ≠ y) (hd : ∀ t ∈ to u, t ∈ l) : Rx to n x y s l (k + 1) :=
  ⟨h.ln, h.mem, h.nd, h.rng, h.from_, h.first, fun j hj hl => by
    by_cases e : j = k
    · subst e; rw [hu, Int.toNat_natCast]; exact hd
    · exact h.done j (by omega) hl, fun j hj hl => by
    by_cases e : j = k
    · subst e; rw [hu]; omega
    · exact h.noend j (by omega) hl⟩
theorem rx_yes {to : Nat → List Int} {n x y k : Nat} {s : List Bool} {l : List Int} (h : Rx to n x y s l k) (hk : k < l.length) (e : atI l k = y) : Rch to x y := by
  have := h.from_ _ (at_mem hk)
  rwa [e, Int.toNat_natCast] at this
theorem rx_no {to : Nat → List Int} {n x y k : Nat} {s : List Bool} {l : List Int} (hto : ∀ u, u < n → ∀ t ∈ to u, 0 ≤ t ∧ t < n) (h : Rx to n x y s l k) (hk : l.length ≤ k) : ¬ Rch to x y := fun hr => by
  have key : ∀ {a b : Nat}, Rch to a b → (a : Int) ∈ l → (b : Int) ∈ l := fun hp => by
    induction hp with
    | refl => exact id
    | step he _ ih =>
      intro ha
      obtain ⟨p, hp, e⟩ := mem_at ha
      have := h.done p (by omega) hp
      rw [e, Int.toNat_natCast] at this
      exact ih (this _ he)
  obtain ⟨p, hp, e⟩ := mem_at (key hr h.first)
  exact h.noend p (by omega) hp e
noncomputable def rchB (to : Nat → List Int) (x y : Nat) : Bool := @decide (Rch to x y) (Classical.propDecidable _)
theorem rchB_yes {to : Nat → List Int} {x y : Nat} (h : Rch to x y) : rchB to x y = true := @decide_eq_true _ (Classical.propDecidable _) h
theorem rchB_no {to : Nat → List Int} {x y : Nat} (h : ¬ Rch to x y) : rchB to x y = false := @decide_eq_false _ (Classical.propDecidable _) h
theorem rchB_iff {to : Nat → List Int} {x y : Nat} : rchB to x y = true ↔ Rch to x y := ⟨fun h => @of_decide_eq_true _ (Classical.propDecidable _) h, rchB_yes⟩

/-! ### the reference's pointers -/
structure ToMid (ps : List (Go.Value × List Int)) (got : List Int) (qs : List (Go.Value × List Int)) (i : Nat) (cur : List Int) : Prop where
  len : qs.length = ps.length
  at_ : ∀ j (h2 : j < qs.length), j < i → qs[j].2 = toW (gr ps) got j
  now : ∀ (h2 : i < qs.length), qs[i].2 = cur
  more : ∀ j (h2 : j < qs.length), i < j → qs[j].2 = []
  acc : ∀ j (h : j < ps.length), j < i → rankL ps[j].2 j (atI got j) ≤ rankL ps[j].2 j j
theorem mid0 (ps : List (Go.Value × List Int)) (got : List Int) (v : Go.Value) : ToMid ps got (List.replicate ps.length (v, [])) 0 [] :=
  ⟨by simp, fun j h h2 => by omega, fun h => by simp, fun j h h2 => by simp, fun j h h2 => by omega⟩
theorem ToMid.put {ps : List (Go.Value × List Int)} {got : List Int} {qs : List (Go.Value × List Int)} {i : Nat} {cur cur2 : List Int} (h : ToMid ps got qs i cur) (v : Go.Value) : ToMid ps got (qs.set i (v, cur2)) i cur2 := by
  refine ⟨by rw [List.length_set]; exact h.len, fun j h2 hji => ?_, fun h2 => by simp, fun j h2 hji => ?_, h.acc⟩
  · rw [List.getElem_set, if_neg (by omega)]; exact h.at_ j (by simpa using h2) hji
  · rw [List.getElem_set, if_neg (by omega)]; exact h.more j (by simpa using h2) hji
theorem ToMid.next {ps : List (Go.Value × List Int)} {got : List Int} {qs : List (Go.Value × List Int)} {i : Nat} {cur : List Int} (h : ToMid ps got qs i cur) (hi : i < ps.length) (hc : cur = toW (gr ps) got i) (ha : rankL ps[i].2 i (atI got i) ≤ rankL ps[i].2 i i) : ToMid ps got qs (i + 1) [] := by
  refine ⟨h.len, fun j h2 hji => ?_, fun h2 => h.more _ h2 (by omega), fun j h2 hji => h.more j h2 (by omega), fun j hj hji => ?_⟩
  · by_cases e : j = i
    · subst e; rw [h.now h2, hc]
    · exact h.at_ j h2 (by omega)
  · by_cases e : j = i
    · subst e; exact ha
    · exact h.acc j hj (by omega)
theorem ToMid.all {ps : List (Go.Value × List Int)} {got : List Int} {qs : List (Go.Value × List Int)} {cur : List Int} (h : ToMid ps got qs ps.length cur) {i : Nat} (hi : i < ps.length) : rowG (gr qs) i = toW (gr ps) got i := by
  rw [gr_row qs (by rw [h.len]; exact hi), h.at_ i (by rw [h.len]; exact hi) hi]
theorem rch_congr {to to2 : Nat → List Int} {n : Nat} (h : ∀ i, i < n → to i = to2 i) (hr : ∀ u, u < n → ∀ t ∈ to u, 0 ≤ t ∧ t < n) {x y : Nat} (hp : Rch to x y) : x < n → Rch to2 x y := by
  induction hp with
  | refl => exact fun _ => .refl _
  | step he _ ih =>
    intro hx
    have := hr _ hx _ he
    exact .step (by rw [← h _ hx]; exact he) (ih (by omega))
theorem rank_stop {l : List Int} {i t : Int} {k : Nat} (hk : k ≤ l.length) (hno : ∀ j, j < k → atI l j ≠ t) (hend : k = l.length ∨ atI l k = t ∧ k < l.length) (ha : rankL l i t ≤ rankL l i i) : k = rankL l i t := by
  rcases hend with h | ⟨h, hl⟩
  · subst h
    have h2 : findL l t = none := findL_none.2 (fun hm => by
      obtain ⟨q, hq, e⟩ := mem_at hm
      exact hno q hq e)
    have h1 := rank_own l i
    have h3 : l.length ≤ rankL l i t := by unfold rankL; rw [h2]; simp only; split <;> omega
    omega
  · unfold rankL; rw [findL_some.2 ⟨hl, h, hno⟩]
theorem mid_free {ps : List (Go.Value × List Int)} {got : List Int} {qs : List (Go.Value × List Int)} {cur : List Int} (h : ToMid ps got qs ps.length cur) (hto : ∀ u, u < ps.length → ∀ t ∈ rowG (gr qs) u, 0 ≤ t ∧ t < ps.length)
    (hno : ∀ j (hj : j < qs.length), ∀ q, 1 ≤ q → q < qs[j].2.length → rchB (rowG (gr qs)) (atI qs[j].2 q).toNat j = false) : ∀ i, i < (gr ps).length → ∀ t : Nat, (t : Int) ∈ (rowG (gr ps) i).take (rankL (rowG (gr ps) i) i (atI got i)) → ¬ (Rch (toW (gr ps) got) t i ∧ Rch (toW (gr ps) got) i t) := fun i hi t ht hx => by
  rw [gr_len] at hi
  have h2 : i < qs.length := by rw [h.len]; exact hi
  have hrow : qs[i].2 = toW (gr ps) got i := by rw [← h.all hi, gr_row qs h2]
  obtain ⟨q, hq, e⟩ := mem_at ht
  have hat : atI (toW (gr ps) got i) (q + 1) = t := by unfold toW atI; rw [List.getD_cons_succ]; exact e
  have := hno i h2 (q + 1) (by omega) (by rw [hrow]; unfold toW; simp only [List.length_cons]; omega)
  rw [hrow, hat, Int.toNat_natCast] at this
  have htn : t < ps.length := by
    have := hto i hi t (by rw [h.all hi, ← hat]; exact at_mem (by unfold toW; simp only [List.length_cons]; omega))
    omega
  have hr : Rch (rowG (gr qs)) t i := rch_congr (n := ps.length) (fun j hj => (h.all hj).symm) (fun u hu t ht => by rw [← h.all hu] at ht; exact hto u hu t ht) hx.1 htn
  rw [rchB_yes hr] at this; cases this
theorem atI_cons (x : Int) (l : List Int) (q : Nat) : atI (x :: l) (q + 1) = atI l q := rfl
theorem mid_bad {ps : List (Go.Value × List Int)} {got : List Int} {qs : List (Go.Value × List Int)} {cur : List Int} (h : ToMid ps got qs ps.length cur) (hto : ∀ u, u < ps.length → ∀ t ∈ rowG (gr qs) u, 0 ≤ t ∧ t < ps.length)
    {i q t : Nat} (hi : i < qs.length) (hq : 1 ≤ q) (hql : q < qs[i].2.length) (e : atI qs[i].2 q = t) (hr : rchB (rowG (gr qs)) t i = true) : ¬ StabP (gr ps) got := fun hs => by
  have hi2 : i < ps.length := by rw [← h.len]; exact hi
  have hrow : qs[i].2 = toW (gr ps) got i := by rw [← h.all hi2, gr_row qs hi]
  have htm : (t : Int) ∈ toW (gr ps) got i := by rw [← hrow, ← e]; exact at_mem hql
  have htn : t < ps.length := by have := hto i hi2 t (by rw [h.all hi2]; exact htm); omega
  rw [hrow] at e hql
  refine hs.free i (by rw [gr_len]; exact hi2) t ?_ ⟨rch_congr (n := ps.length) (fun j hj => h.all hj) hto (rchB_iff.1 hr) htn, .one htm⟩
  obtain ⟨q2, rfl⟩ : ∃ q2, q = q2 + 1 := ⟨q - 1, by omega⟩
  unfold toW at e hql
  simp only [List.length_cons] at hql
  rw [← e, atI_cons]
  exact at_mem (by omega)
end Go.Proofs.Ytoghkehlmibniaa
