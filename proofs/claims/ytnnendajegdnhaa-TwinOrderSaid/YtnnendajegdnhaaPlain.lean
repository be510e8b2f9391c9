/- Plain definitions and laws of layer 40: matchings, covers, the search. No condition. -/
import Derived.Test.YtnnendajegdnhaaGwCut
import Derived.WalkKit
namespace Go.Proofs.Ytnnendajegdnhaa
set_option linter.unusedVariables false
set_option linter.unusedSimpArgs false
abbrev Gr := List (List Int)
def rowG (es : Gr) (i : Nat) : List Int := es.getD i []
def atI (l : List Int) (i : Nat) : Int := l.getD i (-1)
def okN (right n : Int) : Bool := decide (0 ≤ n) && decide (n < right)
def validG (es : Gr) (right : Int) : Bool := decide (es.length ≤ 4000) && (decide (0 ≤ right) && (decide (right ≤ 4000) && es.all (fun l => l.all (okN right))))
theorem atI_eq {l : List Int} {i : Nat} (h : i < l.length) : atI l i = l[i] := by unfold atI; rw [List.getD_eq_getElem?_getD, List.getElem?_eq_getElem h]; rfl
theorem rowG_eq {l : Gr} {i : Nat} (h : i < l.length) : rowG l i = l[i] := by unfold rowG; rw [List.getD_eq_getElem?_getD, List.getElem?_eq_getElem h]; rfl
theorem rowG_out {l : Gr} {i : Nat} (h : l.length ≤ i) : rowG l i = [] := by unfold rowG; rw [List.getD_eq_getElem?_getD, List.getElem?_eq_none h]; rfl
theorem atI_set {l : List Int} {i : Nat} (v : Int) (h : i < l.length) (j : Nat) : atI (l.set i v) j = if j = i then v else atI l j := by
  unfold atI
  rw [List.getD_eq_getElem?_getD, List.getD_eq_getElem?_getD, List.getElem?_set]
  by_cases hj : j = i
  · subst hj; simp [h]
  · rw [if_neg (fun e => hj e.symm), if_neg hj]
theorem atI_append {a b : List Int} (i : Nat) : atI (a ++ b) i = if i < a.length then atI a i else atI b (i - a.length) := by
  unfold atI
  simp only [List.getD_eq_getElem?_getD, List.getElem?_append]
  split <;> rfl
theorem validG_parts {es : Gr} {right : Int} (h : validG es right = true) : es.length ≤ 4000 ∧ 0 ≤ right ∧ right ≤ 4000 ∧ ∀ i, ∀ n ∈ rowG es i, 0 ≤ n ∧ n < right := by
  simp only [validG, Bool.and_eq_true, decide_eq_true_eq, List.all_eq_true, okN] at h
  refine ⟨h.1, h.2.1, h.2.2.1, fun i n hn => ?_⟩
  by_cases hi : i < es.length
  · rw [rowG_eq hi] at hn; exact h.2.2.2 _ (List.getElem_mem hi) n hn
  · rw [rowG_out (by omega)] at hn; cases hn
theorem validG_mk {es : Gr} {right : Int} (h1 : es.length ≤ 4000) (h2 : 0 ≤ right) (h3 : right ≤ 4000) (h4 : ∀ i, ∀ n ∈ rowG es i, 0 ≤ n ∧ n < right) : validG es right = true := by
  simp only [validG, Bool.and_eq_true, decide_eq_true_eq, List.all_eq_true, okN]
  refine ⟨h1, h2, h3, fun l hl n hn => ?_⟩
  obtain ⟨i, hi, rfl⟩ := List.getElem_of_mem hl
  exact h4 i n (by rw [rowG_eq hi]; exact hn)
theorem nodup_le {α : Type} [DecidableEq α] : ∀ {l m : List α}, l.Nodup → (∀ x ∈ l, x ∈ m) → l.length ≤ m.length
  | [], _, _, _ => Nat.zero_le _
  | a :: r, m, hn, hs => by
    have hn' := List.nodup_cons.1 hn
    have ha : a ∈ m := hs a (List.mem_cons_self ..)
    have h := nodup_le (l := r) (m := m.erase a) hn'.2 (fun x hx => (List.mem_erase_of_ne (fun e => by subst e; exact hn'.1 hx)).2 (hs x (List.mem_cons_of_mem _ hx)))
    rw [List.length_erase_of_mem ha] at h
    have := List.length_pos_of_mem ha
    simp only [List.length_cons]; omega
theorem nodup_map {α β : Type} (f : α → β) : ∀ {l : List α}, l.Nodup → (∀ x ∈ l, ∀ y ∈ l, f x = f y → x = y) → (l.map f).Nodup
  | [], _, _ => List.nodup_nil
  | a :: r, hn, hi => by
    have hn' := List.nodup_cons.1 hn
    rw [List.map_cons, List.nodup_cons]
    refine ⟨fun h => ?_, nodup_map f hn'.2 (fun x hx y hy => hi x (List.mem_cons_of_mem _ hx) y (List.mem_cons_of_mem _ hy))⟩
    obtain ⟨b, hb, he⟩ := List.mem_map.1 h
    have := hi b (List.mem_cons_of_mem _ hb) a (List.mem_cons_self ..) he
    subst this; exact hn'.1 hb
theorem nodup_filter {α : Type} (p : α → Bool) {l : List α} (h : l.Nodup) : (l.filter p).Nodup := h.sublist List.filter_sublist
theorem length_part {α : Type} (p : α → Bool) : ∀ l : List α, l.length = (l.filter p).length + (l.filter (fun x => !p x)).length
  | [] => rfl
  | a :: r => by
    have := length_part p r
    cases h : p a <;> simp [List.filter, h, this] <;> omega
theorem nodup_range (n : Nat) : (List.range n).Nodup := List.nodup_range
structure IsM (es : Gr) (got : List Int) : Prop where
  len : got.length = es.length
  mem : ∀ i, i < got.length → atI got i = -1 ∨ atI got i ∈ rowG es i
  inj : ∀ i, i < got.length → atI got i ≠ -1 → ∀ k, k < i → atI got k ≠ atI got i
def isMb (es : Gr) (got : List Int) : Bool := decide (got.length = es.length) && (List.range got.length).all (fun i => decide (atI got i = -1) || ((rowG es i).contains (atI got i) && (List.range i).all (fun k => decide (atI got k ≠ atI got i))))
theorem isMb_iff {es : Gr} {got : List Int} : isMb es got = true ↔ IsM es got := by
  simp only [isMb, Bool.and_eq_true, decide_eq_true_eq, List.all_eq_true, List.mem_range, Bool.or_eq_true, List.contains_iff_mem]
  refine ⟨fun h => ⟨h.1, fun i hi => (h.2 i hi).imp id (fun x => x.1), fun i hi hne k hk => ?_⟩, fun h => ⟨h.len, fun i hi => ?_⟩⟩
  · rcases h.2 i hi with h1 | h1
    · exact absurd h1 hne
    · exact h1.2 k hk
  · by_cases hne : atI got i = -1
    · exact .inl hne
    · exact .inr ⟨(h.mem i hi).resolve_left hne, h.inj i hi hne⟩
theorem IsM.inj' {es : Gr} {got : List Int} (h : IsM es got) {i j : Nat} (hi : i < got.length) (hj : j < got.length) (hne : atI got i ≠ -1) (e : atI got i = atI got j) : i = j := by
  rcases Nat.lt_trichotomy i j with hl | rfl | hl
  · exact absurd e (h.inj j hj (by rw [← e]; exact hne) i hl)
  · rfl
  · exact absurd e.symm (h.inj i hi hne j hl)
/-- the matched left vertices -/
def matched (got : List Int) : List Nat := (List.range got.length).filter (fun i => decide (atI got i ≠ -1))
def sizeN (got : List Int) : Nat := (matched got).length
def sizeL (es : Gr) (got : List Int) : Int := if isMb es got then (sizeN got : Int) else -1
theorem mem_matched {got : List Int} {i : Nat} : i ∈ matched got ↔ i < got.length ∧ atI got i ≠ -1 := by simp [matched]
theorem nodup_matched (got : List Int) : (matched got).Nodup := nodup_filter _ (nodup_range _)
theorem sizeL_yes {es : Gr} {got : List Int} (h : IsM es got) : sizeL es got = sizeN got := by rw [sizeL, if_pos (isMb_iff.2 h)]
theorem sizeL_no {es : Gr} {got : List Int} (h : ¬ IsM es got) : sizeL es got = -1 := by rw [sizeL, if_neg (fun e => h (isMb_iff.1 e))]
def coversL (es : Gr) (left right : List Int) : Bool := (List.range es.length).all (fun i => left.contains (i : Int) || (rowG es i).all (fun n => right.contains n))
theorem coversL_iff {es : Gr} {left right : List Int} : coversL es left right = true ↔ ∀ i, i < es.length → (i : Int) ∈ left ∨ ∀ n ∈ rowG es i, n ∈ right := by
  simp [coversL, List.all_eq_true, List.contains_iff_mem]
structure Formed (l : List Int) (n : Int) : Prop where
  at_ : ∀ i, i < l.length → 0 ≤ atI l i ∧ atI l i < n ∧ (0 < i → atI l (i - 1) < atI l i)
def formedB (l : List Int) (n : Int) : Bool := (List.range l.length).all (fun i => decide (0 ≤ atI l i) && (decide (atI l i < n) && (decide (i = 0) || decide (atI l (i - 1) < atI l i))))
theorem formedB_iff {l : List Int} {n : Int} : formedB l n = true ↔ Formed l n := by
  simp only [formedB, List.all_eq_true, List.mem_range, Bool.and_eq_true, decide_eq_true_eq, Bool.or_eq_true]
  refine ⟨fun h => ⟨fun i hi => ⟨(h i hi).1, (h i hi).2.1, fun h0 => (h i hi).2.2.resolve_left (by omega)⟩⟩, fun h i hi => ⟨(h.at_ i hi).1, (h.at_ i hi).2.1, ?_⟩⟩
  by_cases h0 : i = 0
  · exact .inl h0
  · exact .inr ((h.at_ i hi).2.2 (by omega))
theorem Formed.lt {l : List Int} {n : Int} (h : Formed l n) : ∀ (j i : Nat), i < j → j < l.length → atI l i < atI l j
  | 0, i, hij, _ => by omega
  | j + 1, i, hij, hj => by
    have h1 := (h.at_ (j + 1) hj).2.2 (by omega)
    rw [Nat.add_sub_cancel] at h1
    rcases Nat.lt_or_ge i j with hl | hl
    · exact Int.lt_trans (Formed.lt h j i hl (by omega)) h1
    · obtain rfl : i = j := by omega
      exact h1
theorem Formed.nodup {l : List Int} {n : Int} (h : Formed l n) : l.Nodup := by
  rw [List.nodup_iff_pairwise_ne, List.pairwise_iff_getElem]
  intro i j hi hj hij
  have := h.lt j i hij hj
  rw [atI_eq hi, atI_eq hj] at this
  omega
def checkL (es : Gr) (right : Int) (got left cover : List Int) : Bool :=
  validG es right && (formedB left es.length && (formedB cover right && (coversL es left cover && decide (sizeL es got = (left.length : Int) + (cover.length : Int)))))
/-- no matching is greater than a cover -/
theorem weak {es : Gr} {got left right : List Int} (hm : IsM es got) (hc : coversL es left right = true) : sizeN got ≤ left.length + right.length := by
  rw [coversL_iff] at hc
  have e := length_part (fun i : Nat => decide ((i : Int) ∈ left)) (matched got)
  have n1 : ((matched got).filter (fun i : Nat => decide ((i : Int) ∈ left))).length ≤ left.length := by
    have := nodup_le (l := ((matched got).filter (fun i : Nat => decide ((i : Int) ∈ left))).map (fun i : Nat => (i : Int))) (m := left)
      (nodup_map _ (nodup_filter _ (nodup_matched got)) (fun x _ y _ h => by have h : (x : Int) = y := h; omega)) (fun x hx => by
        obtain ⟨i, hi, rfl⟩ := List.mem_map.1 hx
        simpa using (List.mem_filter.1 hi).2)
    simpa using this
  have n2 : ((matched got).filter (fun i : Nat => !decide ((i : Int) ∈ left))).length ≤ right.length := by
    have := nodup_le (l := ((matched got).filter (fun i : Nat => !decide ((i : Int) ∈ left))).map (fun i => atI got i)) (m := right)
      (nodup_map _ (nodup_filter _ (nodup_matched got)) (fun x hx y hy h => by
        have hx' := mem_matched.1 (List.mem_filter.1 hx).1
        have hy' := mem_matched.1 (List.mem_filter.1 hy).1
        exact hm.inj' hx'.1 hy'.1 hx'.2 h)) (fun x hx => by
        obtain ⟨i, hi, rfl⟩ := List.mem_map.1 hx
        obtain ⟨h1, h2⟩ := List.mem_filter.1 hi
        have h1 := mem_matched.1 h1
        have h3 := (hc i (by rw [← hm.len]; exact h1.1)).resolve_left (by simpa using h2)
        exact h3 _ ((hm.mem i h1.1).resolve_left h1.2))
    simpa using this
  unfold sizeN; omega
theorem check_parts {es : Gr} {right : Int} {got left cover : List Int} (h : checkL es right got left cover = true) : validG es right = true ∧ Formed left es.length ∧ Formed cover right ∧ coversL es left cover = true ∧ IsM es got ∧ sizeN got = left.length + cover.length := by
  simp only [checkL, Bool.and_eq_true, decide_eq_true_eq] at h
  obtain ⟨h1, h2, h3, h4, h5⟩ := h
  have hm : IsM es got := by
    refine Classical.byContradiction fun hn => ?_
    rw [sizeL_no hn] at h5; omega
  rw [sizeL_yes hm] at h5
  exact ⟨h1, formedB_iff.1 h2, formedB_iff.1 h3, h4, hm, by omega⟩
structure AS where
  seen : List Int
  owner : List Int
  got : List Int
deriving DecidableEq
def AS.see (s : AS) (n : Int) : AS := { s with seen := n :: s.seen }
def AS.pair (s : AS) (n i : Int) : AS := { s with owner := s.owner.set n.toNat i, got := s.got.set i.toNat n }
def augRow (rec : Int → AS → Bool × AS) (i : Int) : List Int → AS → Bool × AS
  | [], s => (false, s)
  | n :: r, s =>
    if n ∈ s.seen then augRow rec i r s
    else if atI s.owner n.toNat < 0 then (true, (s.see n).pair n i)
    else match rec (atI s.owner n.toNat) (s.see n) with
      | (true, s2) => (true, s2.pair n i)
      | (false, s2) => augRow rec i r s2
def aug (es : Gr) : Nat → Int → AS → Bool × AS
  | 0, _, s => (false, s)
  | f + 1, i, s => augRow (aug es f) i (rowG es i.toNat) s
structure AWF (es : Gr) (right : Int) (s : AS) : Prop where
  lo : s.owner.length = right.toNat
  lg : s.got.length = es.length
  own : ∀ n : Nat, -1 ≤ atI s.owner n ∧ atI s.owner n < es.length
  nd : s.seen.Nodup
  rng : ∀ n ∈ s.seen, 0 ≤ n ∧ n < right
theorem AWF.see {es : Gr} {right : Int} {s : AS} (h : AWF es right s) {n : Int} (hn : 0 ≤ n ∧ n < right) (hs : n ∉ s.seen) : AWF es right (s.see n) :=
  ⟨h.lo, h.lg, h.own, List.nodup_cons.2 ⟨hs, h.nd⟩, fun m hm => by rcases List.mem_cons.1 hm with rfl | hm; exact hn; exact h.rng m hm⟩
theorem AWF.pair {es : Gr} {right : Int} {s : AS} (h : AWF es right s) {n i : Int} (hn : 0 ≤ n ∧ n < right) (hi : 0 ≤ i ∧ i < es.length) : AWF es right (s.pair n i) := by
  have hlo := h.lo
  refine ⟨by simp [AS.pair, h.lo], by simp [AS.pair, h.lg], fun m => ?_, h.nd, h.rng⟩
  show -1 ≤ atI (s.owner.set n.toNat i) m ∧ _
  rw [show (s.pair n i).owner = s.owner.set n.toNat i from rfl, atI_set _ (by omega)]
  split
  · omega
  · exact h.own m
theorem AWF.few {es : Gr} {right : Int} {s : AS} (h : AWF es right s) : s.seen.length ≤ right.toNat := by
  have := nodup_le (l := s.seen.map Int.toNat) (m := List.range right.toNat) (nodup_map _ h.nd (fun x hx y hy e => by have := h.rng x hx; have := h.rng y hy; omega)) (fun x hx => by
    obtain ⟨n, hn, rfl⟩ := List.mem_map.1 hx
    have := h.rng n hn
    exact List.mem_range.2 (by omega))
  simpa using this
/-- what every search leaves -/
structure AugOut (es : Gr) (right : Int) (s : AS) (b : Bool) (s' : AS) : Prop where
  wf : AWF es right s'
  sub : ∀ n ∈ s.seen, n ∈ s'.seen
  len : s.seen.length ≤ s'.seen.length
  no : b = false → s'.owner = s.owner ∧ s'.got = s.got
theorem AugOut.refl {es : Gr} {right : Int} {s : AS} (h : AWF es right s) : AugOut es right s false s := ⟨h, fun _ h => h, Nat.le_refl _, fun _ => ⟨rfl, rfl⟩⟩
theorem augRow_out {es : Gr} {right : Int} {rec : Int → AS → Bool × AS} (hrec : ∀ (i : Int) s, 0 ≤ i ∧ i < es.length → AWF es right s → AugOut es right s (rec i s).1 (rec i s).2) {i : Int} (hi : 0 ≤ i ∧ i < es.length) :
    ∀ (r : List Int) (s : AS), (∀ n ∈ r, 0 ≤ n ∧ n < right) → AWF es right s → AugOut es right s (augRow rec i r s).1 (augRow rec i r s).2
  | [], s, _, hs => AugOut.refl hs
  | n :: r, s, hr, hs => by
    have hn := hr n (List.mem_cons_self ..)
    have hr' : ∀ m ∈ r, 0 ≤ m ∧ m < right := fun m hm => hr m (List.mem_cons_of_mem _ hm)
    unfold augRow
    split
    · exact augRow_out hrec hi r s hr' hs
    · rename_i hns
      have hs1 := hs.see hn hns
      split
      · exact ⟨hs1.pair hn hi, fun m hm => List.mem_cons_of_mem _ hm, by simp [AS.see, AS.pair], fun h => by cases h⟩
      · rename_i ho
        have hb := hs.own n.toNat
        have h1 := hrec (atI s.owner n.toNat) (s.see n) ⟨by omega, hb.2⟩ hs1
        cases hq : rec (atI s.owner n.toNat) (s.see n) with
        | mk b s2 =>
          rw [hq] at h1
          have hsub : ∀ m ∈ s.seen, m ∈ s2.seen := fun m hm => h1.sub m (List.mem_cons_of_mem _ hm)
          have hlen : s.seen.length ≤ s2.seen.length := Nat.le_trans (by simp [AS.see]) h1.len
          cases b with
          | true => exact ⟨h1.wf.pair hn hi, hsub, hlen, fun h => by cases h⟩
          | false =>
            have h2 := augRow_out hrec hi r s2 hr' h1.wf
            have hno := h1.no rfl
            exact ⟨h2.wf, fun m hm => h2.sub m (hsub m hm), Nat.le_trans hlen h2.len, fun hb => ⟨((h2.no hb).1).trans hno.1, ((h2.no hb).2).trans hno.2⟩⟩
theorem aug_out {es : Gr} {right : Int} (hv : validG es right = true) : ∀ (f : Nat) (i : Int) (s : AS), 0 ≤ i ∧ i < es.length → AWF es right s → AugOut es right s (aug es f i s).1 (aug es f i s).2
  | 0, i, s, hi, hs => AugOut.refl hs
  | f + 1, i, s, hi, hs => augRow_out (aug_out hv f) hi _ s (fun n hn => (validG_parts hv).2.2.2 _ n hn) hs
/-- owner and got are each other's converse, but for owner at x -/
structure Conv (es : Gr) (s : AS) (x : Int) : Prop where
  got : ∀ j : Nat, 0 ≤ atI s.got j → atI s.got j ∈ rowG es j ∧ atI s.owner (atI s.got j).toNat = j
  own : ∀ n : Nat, (n : Int) ≠ x → 0 ≤ atI s.owner n → atI s.got (atI s.owner n).toNat = n
/-- D is closed: all its vertices are taken, and the takers' neighbours lie in it -/
structure Closed (es : Gr) (owner : List Int) (D : Int → Prop) : Prop where
  taken : ∀ n : Nat, D n → 0 ≤ atI owner n
  all : ∀ n : Nat, D n → ∀ m ∈ rowG es (atI owner n).toNat, D m
structure AugYes (es : Gr) (i : Nat) (s s' : AS) : Prop where
  conv : Conv es s' (atI s.got i)
  new : 0 ≤ atI s'.got i ∧ atI s'.got i ∉ s.seen
  keep : ∀ j : Nat, 0 ≤ atI s.got j → 0 ≤ atI s'.got j
  free : ∀ j : Nat, j ≠ i → atI s.got j < 0 → atI s'.got j < 0
  ownS : ∀ n : Nat, (n : Int) ∈ s.seen → atI s'.owner n = atI s.owner n
  gotS : ∀ j : Nat, j ≠ i → (atI s.got j = -1 ∨ atI s.got j ∈ s.seen) → atI s'.got j = atI s.got j
  ownD : ∀ D : Int → Prop, Closed es s.owner D → (∃ m ∈ rowG es i, ¬ D m) ∧ ∀ n : Nat, D n → atI s'.owner n = atI s.owner n
structure AugNo (es : Gr) (s s' : AS) : Prop where
  closed : ∀ n : Nat, (n : Int) ∈ s'.seen → (n : Int) ∉ s.seen → 0 ≤ atI s.owner n ∧ ∀ m ∈ rowG es (atI s.owner n).toNat, m ∈ s'.seen
theorem AugYes.weak {es : Gr} {i : Nat} {s s2 s' : AS} (ho : s2.owner = s.owner) (hg : s2.got = s.got) (hs : ∀ n ∈ s.seen, n ∈ s2.seen) (h : AugYes es i s2 s') : AugYes es i s s' := by
  obtain ⟨h1, h2, h3, h4, h5, h6, h7⟩ := h
  rw [hg] at h1 h3 h4 h6
  rw [ho] at h5 h7
  exact ⟨h1, ⟨h2.1, fun h => h2.2 (hs _ h)⟩, h3, h4, fun n hn => h5 n (hs _ hn), fun j hj hg => h6 j hj (hg.imp id (hs _)), h7⟩
theorem augRow_law {es : Gr} {right : Int} (c : Nat) {rec : Int → AS → Bool × AS} (hout : ∀ (i : Int) s, 0 ≤ i ∧ i < es.length → AWF es right s → AugOut es right s (rec i s).1 (rec i s).2)
    (hlaw : ∀ (i : Nat) (s : AS), i < es.length → AWF es right s → c + 1 ≤ s.seen.length → Conv es s (-1) → (atI s.got i = -1 ∨ atI s.got i ∈ s.seen) →
      ((rec i s).1 = true → AugYes es i s (rec i s).2) ∧ ((rec i s).1 = false → AugNo es s (rec i s).2 ∧ ∀ m ∈ rowG es i, m ∈ (rec i s).2.seen)) {i : Nat} (hi : i < es.length) :
    ∀ (r : List Int) (s : AS), (∀ n ∈ r, (0 ≤ n ∧ n < right) ∧ n ∈ rowG es i) → AWF es right s → c ≤ s.seen.length → Conv es s (-1) → (atI s.got i = -1 ∨ atI s.got i ∈ s.seen) →
      ((augRow rec i r s).1 = true → AugYes es i s (augRow rec i r s).2) ∧ ((augRow rec i r s).1 = false → AugNo es s (augRow rec i r s).2 ∧ ∀ m ∈ r, m ∈ (augRow rec i r s).2.seen)
  | [], s, _, hs, _, _, _ => by
    refine ⟨fun h => (by cases h), fun _ => ⟨⟨fun n h1 h2 => absurd h1 h2⟩, fun m hm => (by cases hm)⟩⟩
  | n :: r, s, hr, hs, hcl, hc, hgi => by
    have hn := hr n (List.mem_cons_self ..)
    have hr' : ∀ m ∈ r, (0 ≤ m ∧ m < right) ∧ m ∈ rowG es i := fun m hm => hr m (List.mem_cons_of_mem _ hm)
    have hii : (0 : Int) ≤ (i : Int) ∧ (i : Int) < es.length := by omega
    have hlo := hs.lo
    have hlg := hs.lg
    unfold augRow
    split
    · rename_i hns
      have ih := augRow_law c hout hlaw hi r s hr' hs hcl hc hgi
      refine ⟨ih.1, fun h => ⟨(ih.2 h).1, fun m hm => ?_⟩⟩
      rcases List.mem_cons.1 hm with rfl | hm
      · exact (augRow_out hout hii r s (fun n hn => (hr' n hn).1) hs).sub _ hns
      · exact (ih.2 h).2 m hm
    · rename_i hns
      have hs1 := hs.see hn.1 hns
      obtain ⟨k, rfl⟩ : ∃ k : Nat, n = k := ⟨n.toNat, by omega⟩
      simp only [Int.toNat_natCast]
      split
      · rename_i ho
        refine ⟨fun _ => ?_, fun h => by cases h⟩
        have eo : ∀ q, atI ((s.see k).pair k i).owner q = if q = k then (i : Int) else atI s.owner q := fun q => by
          show atI (s.owner.set (k : Int).toNat i) q = _
          rw [atI_set _ (by omega)]; rfl
        have eg : ∀ q, atI ((s.see k).pair k i).got q = if q = i then (k : Int) else atI s.got q := fun q => by
          show atI (s.got.set (i : Int).toNat k) q = _
          rw [atI_set _ (by omega)]; rfl
        refine ⟨⟨fun j hj => ?_, fun q hq hj => ?_⟩, ?_, fun j hj => ?_, fun j hj hg => ?_, fun q hq => ?_, fun j hj hg => ?_, fun D hD => ⟨⟨k, hn.2, fun hk => ?_⟩, fun q hq => ?_⟩⟩
        · rw [eg] at hj ⊢
          by_cases hji : j = i
          · subst hji; simp only [if_true, Int.toNat_natCast] at hj ⊢; exact ⟨hn.2, by rw [eo, if_pos rfl]⟩
          · rw [if_neg hji] at hj ⊢
            obtain ⟨h1, h2⟩ := hc.got j hj
            refine ⟨h1, ?_⟩
            rw [eo, if_neg]; exact h2
            intro e; rw [e] at h2; omega
        · rw [eo] at hj ⊢
          by_cases hqk : q = k
          · subst hqk; rw [if_pos rfl, Int.toNat_natCast, eg, if_pos rfl]
          · rw [if_neg hqk] at hj ⊢
            have h1 := hc.own q (by omega) hj
            rw [eg]
            by_cases hji : (atI s.owner q).toNat = i
            · exfalso; rw [hji] at h1; exact hq h1.symm
            · rw [if_neg hji]; exact h1
        · rw [eg, if_pos rfl]; exact ⟨by omega, hns⟩
        · rw [eg]; split <;> omega
        · rw [eg, if_neg hj]; exact hg
        · rw [eo, if_neg (fun e => by subst e; exact hns hq)]
        · rw [eg, if_neg hj]
        · have := hD.taken k hk; omega
        · rw [eo, if_neg (fun e => by subst e; have := hD.taken q hq; omega)]
      · rename_i ho
        have hb := hs.own k
        obtain ⟨o, hoe⟩ : ∃ o : Nat, atI s.owner k = o := ⟨(atI s.owner k).toNat, by omega⟩
        rw [hoe] at ho hb ⊢
        have hgo : atI s.got o = k := by have := hc.own k (by omega) (by omega); rw [hoe] at this; simpa using this
        have h0 := hout o (s.see k) ⟨by omega, hb.2⟩ hs1
        have hsee : (s.see k).got = s.got ∧ (s.see k).owner = s.owner := ⟨rfl, rfl⟩
        have h1 := hlaw o (s.see k) (by omega) hs1 (by simp [AS.see]; omega) ⟨fun j hj => hc.got j hj, fun q hq hj => hc.own q hq hj⟩ (.inr (by rw [hsee.1, hgo]; exact List.mem_cons_self ..))
        have hio : i ≠ o := by
          intro e; subst e
          rw [hgo] at hgi
          rcases hgi with hgi | hgi
          · omega
          · exact hns hgi
        cases hrq : rec o (s.see k) with
        | mk b s2 =>
          rw [hrq] at h0 h1
          cases b with
          | true =>
            refine ⟨fun _ => ?_, fun h => by cases h⟩
            have hy := h1.1 rfl
            have l2 : s2.owner.length = _ := h0.wf.lo
            have g2 : s2.got.length = _ := h0.wf.lg
            have eo : ∀ q, atI (s2.pair k i).owner q = if q = k then (i : Int) else atI s2.owner q := fun q => by
              show atI (s2.owner.set (k : Int).toNat i) q = _
              rw [atI_set _ (by omega)]; rfl
            have eg : ∀ q, atI (s2.pair k i).got q = if q = i then (k : Int) else atI s2.got q := fun q => by
              show atI (s2.got.set (i : Int).toNat k) q = _
              rw [atI_set _ (by omega)]; rfl
            have hcv : Conv es s2 k := by have := hy.conv; rwa [hsee.1, hgo] at this
            have hok : atI s2.owner k = o := by rw [hy.ownS k (List.mem_cons_self ..)]; exact hoe
            have hgi2 : atI s2.got i = atI s.got i := hy.gotS i hio (hgi.imp id (fun h => List.mem_cons_of_mem _ h))
            refine ⟨⟨fun j hj => ?_, fun q hq hj => ?_⟩, ?_, fun j hj => ?_, fun j hj hg => ?_, fun q hq => ?_, fun j hj hg => ?_, fun D hD => ⟨⟨k, hn.2, fun hk => ?_⟩, fun q hq => ?_⟩⟩
            · rw [eg] at hj ⊢
              by_cases hji : j = i
              · subst hji; simp only [if_true, Int.toNat_natCast] at hj ⊢; exact ⟨hn.2, by rw [eo, if_pos rfl]⟩
              · rw [if_neg hji] at hj ⊢
                obtain ⟨h1, h2⟩ := hcv.got j hj
                refine ⟨h1, ?_⟩
                rw [eo, if_neg]; exact h2
                intro e
                rw [e, hok] at h2
                have : o = j := by omega
                subst this
                have h3 := hy.new.2
                apply h3
                have h4 := hy.new.1
                rw [show atI s2.got o = k by omega]
                exact List.mem_cons_self ..
            · rw [eo] at hj ⊢
              by_cases hqk : q = k
              · subst hqk; rw [if_pos rfl, Int.toNat_natCast, eg, if_pos rfl]
              · rw [if_neg hqk] at hj ⊢
                have h1 := hcv.own q (by omega) hj
                rw [eg]
                by_cases hji : (atI s2.owner q).toNat = i
                · exfalso; rw [hji, hgi2] at h1; exact hq h1.symm
                · rw [if_neg hji]; exact h1
            · rw [eg, if_pos rfl]; exact ⟨by omega, hns⟩
            · rw [eg]; split
              · omega
              · exact hy.keep j hj
            · rw [eg, if_neg hj]
              refine hy.free j (fun e => ?_) hg
              subst e; rw [hgo] at hg; omega
            · rw [eo, if_neg (fun e => by subst e; exact hns hq)]; exact hy.ownS q (List.mem_cons_of_mem _ hq)
            · rw [eg, if_neg hj]
              refine hy.gotS j (fun e => ?_) (hg.imp id (fun h => List.mem_cons_of_mem _ h))
              subst e; rw [hgo] at hg
              rcases hg with hg | hg
              · omega
              · exact hns hg
            · obtain ⟨m, hm, hnm⟩ := (hy.ownD D hD).1
              have := hD.all k hk m
              rw [hoe, Int.toNat_natCast] at this
              exact hnm (this hm)
            · rw [eo, if_neg, (hy.ownD D hD).2 q hq]; rfl
              rintro rfl
              obtain ⟨m, hm, hnm⟩ := (hy.ownD D hD).1
              have := hD.all q hq m
              rw [hoe, Int.toNat_natCast] at this
              exact hnm (this hm)
          | false =>
            have hno := h0.no rfl
            obtain ⟨hcd, hall⟩ := h1.2 rfl
            have hsub : ∀ m ∈ s.seen, m ∈ s2.seen := fun m hm => h0.sub m (List.mem_cons_of_mem _ hm)
            have hgi2 : atI s2.got i = -1 ∨ atI s2.got i ∈ s2.seen := by rw [hno.2]; exact hgi.imp id (hsub _)
            have hc2 : Conv es s2 (-1) := ⟨fun j hj => by rw [hno.2] at hj ⊢; rw [hno.1]; exact hc.got j hj, fun q hq hj => by rw [hno.1] at hj ⊢; rw [hno.2]; exact hc.own q hq hj⟩
            have ih := augRow_law c hout hlaw hi r s2 hr' h0.wf (by have := h0.len; simp [AS.see] at this; omega) hc2 hgi2
            have ho2 := augRow_out hout hii r s2 (fun n hn => (hr' n hn).1) h0.wf
            refine ⟨fun h => (ih.1 h).weak hno.1 hno.2 hsub, fun h => ⟨⟨fun q hq hnq => ?_⟩, fun m hm => ?_⟩⟩
            · by_cases hq2 : (q : Int) ∈ s2.seen
              · by_cases hqk : q = k
                · subst hqk
                  refine ⟨by omega, fun m hm => ?_⟩
                  rw [hoe, Int.toNat_natCast] at hm
                  exact ho2.sub m (hall m hm)
                · obtain ⟨a1, a2⟩ := hcd.closed q hq2 (fun h => by rcases List.mem_cons.1 h with h | h; exact hqk (by omega); exact hnq h)
                  exact ⟨a1, fun m hm => ho2.sub m (a2 m hm)⟩
              · obtain ⟨a1, a2⟩ := (ih.2 h).1.closed q hq hq2
                have e1 : s2.owner = s.owner := hno.1
                rw [e1] at a1 a2
                exact ⟨a1, a2⟩
            · rcases List.mem_cons.1 hm with rfl | hm
              · exact ho2.sub _ (h0.sub _ (List.mem_cons_self ..))
              · exact (ih.2 h).2 m hm
theorem aug_law {es : Gr} {right : Int} (hv : validG es right = true) : ∀ (f i : Nat) (s : AS), i < es.length → AWF es right s → right.toNat < f + s.seen.length → Conv es s (-1) → (atI s.got i = -1 ∨ atI s.got i ∈ s.seen) →
      ((aug es f i s).1 = true → AugYes es i s (aug es f i s).2) ∧ ((aug es f i s).1 = false → AugNo es s (aug es f i s).2 ∧ ∀ m ∈ rowG es i, m ∈ (aug es f i s).2.seen)
  | 0, i, s, hi, hs, hf, _, _ => by have := hs.few; omega
  | f + 1, i, s, hi, hs, hf, hc, hgi => by
    have h := augRow_law (right := right) s.seen.length (rec := aug es f) (aug_out hv f) (fun j s2 hj hs2 hl hc2 hg2 => aug_law hv f j s2 hj hs2 (by omega) hc2 hg2) hi (rowG es i) s (fun n hn => ⟨(validG_parts hv).2.2.2 _ n hn, hn⟩) hs (Nat.le_refl _) hc hgi
    exact h
def fuelG (right : Int) : Nat := right.toNat + 1
def augAll (es : Gr) (right : Int) : Nat → List Int × List Int
  | 0 => (List.replicate right.toNat (-1), List.replicate es.length (-1))
  | k + 1 => let r := aug es (fuelG right) k ⟨[], (augAll es right k).1, (augAll es right k).2⟩
    (r.2.owner, r.2.got)
structure AllInv (es : Gr) (right : Int) (k : Nat) (p : List Int × List Int) : Prop where
  wf : AWF es right ⟨[], p.1, p.2⟩
  conv : Conv es ⟨[], p.1, p.2⟩ (-1)
  low : ∀ j, -1 ≤ atI p.2 j
  late : ∀ j, k ≤ j → atI p.2 j = -1
  dead : ∃ D : Int → Prop, Closed es p.1 D ∧ (∀ n, D n → 0 ≤ n ∧ n < right) ∧ ∀ j, j < k → atI p.2 j = -1 → ∀ n ∈ rowG es j, D n
theorem atI_rep (n i : Nat) : atI (List.replicate n (-1)) i = -1 := by
  unfold atI
  rw [List.getD_eq_getElem?_getD, List.getElem?_replicate]
  split <;> rfl
theorem allInv {es : Gr} {right : Int} (hv : validG es right = true) : ∀ k, k ≤ es.length → AllInv es right k (augAll es right k)
  | 0, _ => by
    refine ⟨⟨by simp [augAll], by simp [augAll], fun n => ?_, List.nodup_nil, fun n h => by cases h⟩, ⟨fun j h => ?_, fun n _ h => ?_⟩, fun j => ?_, fun j _ => ?_, fun _ => False, ⟨fun n h => h.elim, fun n h => h.elim⟩, fun n h => h.elim, fun j h => by omega⟩
    · show -1 ≤ atI (List.replicate right.toNat (-1)) n ∧ _
      rw [show (augAll es right 0).1 = List.replicate right.toNat (-1) from rfl, atI_rep]; omega
    · have h : 0 ≤ atI (List.replicate es.length (-1)) j := h
      rw [atI_rep] at h; omega
    · have h : 0 ≤ atI (List.replicate right.toNat (-1)) n := h
      rw [atI_rep] at h; omega
    · show -1 ≤ atI (List.replicate es.length (-1)) j
      rw [atI_rep]; omega
    · exact atI_rep _ _
  | k + 1, hk => by
    have ih := allInv hv k (by omega)
    obtain ⟨p, hp⟩ : ∃ p, augAll es right k = p := ⟨_, rfl⟩
    rw [hp] at ih
    have hout := aug_out hv (fuelG right) k ⟨[], p.1, p.2⟩ (by omega) ih.wf
    have hlaw := aug_law hv (fuelG right) k ⟨[], p.1, p.2⟩ (by omega) ih.wf (by simp [fuelG]) ih.conv (.inl (ih.late k (Nat.le_refl _)))
    have he : augAll es right (k + 1) = ((aug es (fuelG right) k ⟨[], p.1, p.2⟩).2.owner, (aug es (fuelG right) k ⟨[], p.1, p.2⟩).2.got) := by rw [augAll, hp]
    rw [he]
    obtain ⟨D, hD1, hD2, hD3⟩ := ih.dead
    cases hq : aug es (fuelG right) k ⟨[], p.1, p.2⟩ with
    | mk b s =>
      rw [hq] at hout hlaw
      have hwf : AWF es right ⟨[], s.owner, s.got⟩ := ⟨hout.wf.lo, hout.wf.lg, hout.wf.own, List.nodup_nil, fun n h => by cases h⟩
      cases b with
      | true =>
        have hy := hlaw.1 rfl
        have hpk : atI p.2 k = -1 := ih.late k (Nat.le_refl _)
        have hcv := hy.conv
        have hlow : ∀ j, -1 ≤ atI s.got j := fun j => by
          by_cases hjk : j = k
          · subst hjk; have : 0 ≤ atI s.got j := hy.new.1; omega
          · rcases Int.lt_or_le (atI p.2 j) 0 with h | h
            · have e : atI p.2 j = -1 := by have := ih.low j; omega
              have := hy.gotS j hjk (.inl e)
              have e2 : atI (⟨[], p.1, p.2⟩ : AS).got j = -1 := e
              have e3 : atI s.got j = -1 := this.trans e2
              omega
            · have : 0 ≤ atI s.got j := hy.keep j h
              omega
        refine ⟨hwf, ⟨fun j h => hcv.got j h, fun n hn h => hcv.own n (fun e => ?_) h⟩, hlow, fun j hj => ?_, D, ⟨fun n hn => ?_, fun n hn m hm => ?_⟩, hD2, fun j hj hg => ?_⟩
        · have e2 : (n : Int) = atI p.2 k := e
          omega
        · have e : atI p.2 j = -1 := ih.late j (by omega)
          have := hy.gotS j (by omega) (.inl e)
          exact this.trans e
        · rw [(hy.ownD D hD1).2 n hn]; exact hD1.taken n hn
        · rw [(hy.ownD D hD1).2 n hn] at hm; exact hD1.all n hn m hm
        · have hjk : j ≠ k := by
            rintro rfl
            have h0 : 0 ≤ atI s.got j := hy.new.1
            have hg : atI s.got j = -1 := hg
            omega
          refine hD3 j (by omega) ?_
          have h1 := ih.low j
          rcases Int.lt_or_le (atI p.2 j) 0 with h | h
          · omega
          · have h0 : 0 ≤ atI s.got j := hy.keep j h
            have hg : atI s.got j = -1 := hg
            omega
      | false =>
        have hno := hout.no rfl
        obtain ⟨hcl, hall⟩ := hlaw.2 rfl
        have e1 : s.owner = p.1 := hno.1
        have e2 : s.got = p.2 := hno.2
        rw [e1, e2] at hwf ⊢
        have hrng := hout.wf.rng
        refine ⟨hwf, ih.conv, ih.low, fun j hj => ih.late j (by omega), fun n => D n ∨ n ∈ s.seen, ⟨fun n hn => ?_, fun n hn m hm => ?_⟩, fun n hn => hn.elim (hD2 n) (hrng n), fun j hj hg n hn => ?_⟩
        · rcases hn with hn | hn
          · exact hD1.taken n hn
          · exact (hcl.closed n hn (by simp)).1
        · rcases hn with hn | hn
          · exact .inl (hD1.all n hn m hm)
          · exact .inr ((hcl.closed n hn (by simp)).2 m hm)
        · by_cases hjk : j = k
          · subst hjk; exact .inr (hall n hn)
          · exact .inl (hD3 j (by omega) hg n hn)
structure RS where
  left : List Int
  reached : List Int
deriving DecidableEq
def reachRow (rec : Int → RS → RS) (owner : List Int) : List Int → RS → RS
  | [], s => s
  | n :: r, s => if n ∈ s.reached then reachRow rec owner r s else reachRow rec owner r (rec (atI owner n.toNat) { s with reached := n :: s.reached })
def reach (es : Gr) (owner : List Int) : Nat → Int → RS → RS
  | 0, _, s => s
  | f + 1, i, s => if i ∈ s.left then s else reachRow (reach es owner f) owner (rowG es i.toNat) { s with left := i :: s.left }
structure RWF (es : Gr) (right : Int) (s : RS) : Prop where
  nd : s.reached.Nodup
  rng : ∀ n ∈ s.reached, 0 ≤ n ∧ n < right
  lft : ∀ i ∈ s.left, 0 ≤ i ∧ i < es.length
  lnd : s.left.Nodup
theorem RWF.few {es : Gr} {right : Int} {s : RS} (h : RWF es right s) : s.reached.length ≤ right.toNat := by
  have := nodup_le (l := s.reached.map Int.toNat) (m := List.range right.toNat) (nodup_map _ h.nd (fun x hx y hy e => by have := h.rng x hx; have := h.rng y hy; omega)) (fun x hx => by
    obtain ⟨n, hn, rfl⟩ := List.mem_map.1 hx
    have := h.rng n hn
    exact List.mem_range.2 (by omega))
  simpa using this
structure ReachOut (es : Gr) (right : Int) (owner : List Int) (s s' : RS) : Prop where
  wf : RWF es right s'
  subL : ∀ i ∈ s.left, i ∈ s'.left
  subR : ∀ n ∈ s.reached, n ∈ s'.reached
  len : s.reached.length ≤ s'.reached.length
  done : ∀ j ∈ s'.left, j ∉ s.left → ∀ n ∈ rowG es j.toNat, n ∈ s'.reached
  back : ∀ n ∈ s'.reached, n ∉ s.reached → atI owner n.toNat ∈ s'.left
theorem ReachOut.refl {es : Gr} {right : Int} {owner : List Int} {s : RS} (h : RWF es right s) : ReachOut es right owner s s := ⟨h, fun _ h => h, fun _ h => h, Nat.le_refl _, fun j h1 h2 => absurd h1 h2, fun n h1 h2 => absurd h1 h2⟩
theorem ReachOut.trans {es : Gr} {right : Int} {owner : List Int} {s s1 s2 : RS} (h1 : ReachOut es right owner s s1) (h2 : ReachOut es right owner s1 s2) : ReachOut es right owner s s2 :=
  ⟨h2.wf, fun i h => h2.subL i (h1.subL i h), fun n h => h2.subR n (h1.subR n h), Nat.le_trans h1.len h2.len, fun j hj hn n hm => by
    by_cases h : j ∈ s1.left
    · exact h2.subR n (h1.done j h hn n hm)
    · exact h2.done j hj h n hm, fun n hn hs => by
    by_cases h : n ∈ s1.reached
    · exact h2.subL _ (h1.back n h hs)
    · exact h2.back n hn h⟩
/-- what is new on the left comes from i, or over what is new on the right -/
def From (owner : List Int) (i : Option Int) (s s' : RS) : Prop := ∀ j ∈ s'.left, j ∉ s.left → some j = i ∨ ∃ n ∈ s'.reached, n ∉ s.reached ∧ atI owner n.toNat = j
theorem reachRow_law {es : Gr} {right : Int} {owner : List Int} {D : Int → Prop} (hD : Closed es owner D) (hDr : ∀ n, D n → 0 ≤ n ∧ n < right) (hown : ∀ n : Nat, atI owner n < es.length) (c : Nat) {rec : Int → RS → RS}
    (hrec : ∀ (i : Int) (s : RS), 0 ≤ i ∧ i < es.length → (∀ n ∈ rowG es i.toNat, D n) → RWF es right s → (∀ n ∈ s.reached, D n) → c + 1 ≤ s.reached.length →
      ReachOut es right owner s (rec i s) ∧ i ∈ (rec i s).left ∧ From owner (some i) s (rec i s) ∧ ∀ n ∈ (rec i s).reached, D n) :
    ∀ (r : List Int) (s : RS), (∀ n ∈ r, D n) → RWF es right s → (∀ n ∈ s.reached, D n) → c ≤ s.reached.length →
      ReachOut es right owner s (reachRow rec owner r s) ∧ (∀ n ∈ r, n ∈ (reachRow rec owner r s).reached) ∧ From owner none s (reachRow rec owner r s) ∧ ∀ n ∈ (reachRow rec owner r s).reached, D n
  | [], s, _, hs, hsD, _ => ⟨ReachOut.refl hs, fun n h => (by cases h), fun j h1 h2 => absurd h1 h2, hsD⟩
  | n :: r, s, hr, hs, hsD, hc => by
    have hn := hr n (List.mem_cons_self ..)
    have hr' : ∀ m ∈ r, D m := fun m hm => hr m (List.mem_cons_of_mem _ hm)
    unfold reachRow
    split
    · rename_i hns
      obtain ⟨h1, h2, h3, h4⟩ := reachRow_law hD hDr hown c hrec r s hr' hs hsD hc
      refine ⟨h1, fun m hm => ?_, h3, h4⟩
      rcases List.mem_cons.1 hm with rfl | hm
      · exact h1.subR _ hns
      · exact h2 m hm
    · rename_i hns
      have hnr := hDr n hn
      obtain ⟨k, rfl⟩ : ∃ k : Nat, n = k := ⟨n.toNat, by omega⟩
      have hs1 : RWF es right { s with reached := (k : Int) :: s.reached } := ⟨List.nodup_cons.2 ⟨hns, hs.nd⟩, fun m hm => by rcases List.mem_cons.1 hm with rfl | hm; exact hnr; exact hs.rng m hm, hs.lft, hs.lnd⟩
      have hsD1 : ∀ m ∈ (k : Int) :: s.reached, D m := fun m hm => by rcases List.mem_cons.1 hm with rfl | hm; exact hn; exact hsD m hm
      have ht := hD.taken k hn
      simp only [Int.toNat_natCast]
      obtain ⟨h1, h2, h3, h4⟩ := hrec (atI owner k) { s with reached := (k : Int) :: s.reached } ⟨ht, hown k⟩ (fun m hm => hD.all k hn m hm) hs1 hsD1 (by simp only [List.length_cons]; omega)
      obtain ⟨g1, g2, g3, g4⟩ := reachRow_law hD hDr hown c hrec r (rec (atI owner k) { s with reached := (k : Int) :: s.reached }) hr' h1.wf h4 (by have := h1.len; simp only [List.length_cons] at this; omega)
      have h0 : ReachOut es right owner s (rec (atI owner k) { s with reached := (k : Int) :: s.reached }) := by
        refine ⟨h1.wf, h1.subL, fun m hm => h1.subR m (List.mem_cons_of_mem _ hm), by have := h1.len; simp only [List.length_cons] at this; omega, h1.done, fun m hm hms => ?_⟩
        by_cases hmk : m = k
        · subst hmk; rw [Int.toNat_natCast]; exact h2
        · exact h1.back m hm (fun h => by rcases List.mem_cons.1 h with h | h; exact hmk h; exact hms h)
      refine ⟨h0.trans g1, fun m hm => ?_, fun j hj hjs => .inr ?_, g4⟩
      · rcases List.mem_cons.1 hm with rfl | hm
        · exact g1.subR _ (h1.subR _ (List.mem_cons_self ..))
        · exact g2 m hm
      · by_cases hj1 : j ∈ (rec (atI owner k) { s with reached := (k : Int) :: s.reached }).left
        · rcases h3 j hj1 hjs with h | ⟨m, hm, hms, he⟩
          · exact ⟨k, g1.subR _ (h1.subR _ (List.mem_cons_self ..)), hns, by rw [Int.toNat_natCast]; exact (Option.some.inj h).symm⟩
          · exact ⟨m, g1.subR _ hm, fun h => hms (List.mem_cons_of_mem _ h), he⟩
        · rcases g3 j hj hj1 with h | ⟨m, hm, hms, he⟩
          · cases h
          · exact ⟨m, hm, fun h => hms (h0.subR _ h), he⟩
theorem reach_law {es : Gr} {right : Int} {owner : List Int} {D : Int → Prop} (hD : Closed es owner D) (hDr : ∀ n, D n → 0 ≤ n ∧ n < right) (hown : ∀ n : Nat, atI owner n < es.length) :
    ∀ (f : Nat) (i : Int) (s : RS), 0 ≤ i ∧ i < es.length → (∀ n ∈ rowG es i.toNat, D n) → RWF es right s → (∀ n ∈ s.reached, D n) → right.toNat < f + s.reached.length →
      ReachOut es right owner s (reach es owner f i s) ∧ i ∈ (reach es owner f i s).left ∧ From owner (some i) s (reach es owner f i s) ∧ ∀ n ∈ (reach es owner f i s).reached, D n
  | 0, i, s, _, _, hs, _, hf => by have := hs.few; omega
  | f + 1, i, s, hi, hn, hs, hsD, hf => by
    unfold reach
    split
    · rename_i h
      exact ⟨ReachOut.refl hs, h, fun j h1 h2 => absurd h1 h2, hsD⟩
    · rename_i hil
      have hs1 : RWF es right { s with left := i :: s.left } := ⟨hs.nd, hs.rng, fun j hj => by rcases List.mem_cons.1 hj with rfl | hj; exact hi; exact hs.lft j hj, List.nodup_cons.2 ⟨hil, hs.lnd⟩⟩
      obtain ⟨h1, h2, h3, h4⟩ := reachRow_law hD hDr hown s.reached.length (rec := reach es owner f) (fun j s2 hj hn2 hs2 hD2 hl => reach_law hD hDr hown f j s2 hj hn2 hs2 hD2 (by omega)) (rowG es i.toNat) { s with left := i :: s.left } hn hs1 hsD (Nat.le_refl _)
      refine ⟨⟨h1.wf, fun j hj => h1.subL j (List.mem_cons_of_mem _ hj), h1.subR, h1.len, fun j hj hjs => ?_, h1.back⟩, h1.subL i (List.mem_cons_self ..), fun j hj hjs => ?_, h4⟩
      · by_cases hji : j = i
        · subst hji; exact h2
        · exact h1.done j hj (fun h => by rcases List.mem_cons.1 h with h | h; exact hji h; exact hjs h)
      · by_cases hji : j = i
        · exact .inl (by rw [hji])
        · rcases h3 j hj (fun h => by rcases List.mem_cons.1 h with h | h; exact hji h; exact hjs h) with h | h
          · cases h
          · exact .inr h
/-- from all left vertices without a right one -/
def reachAll (es : Gr) (right : Int) (owner got : List Int) : Nat → RS
  | 0 => ⟨[], []⟩
  | k + 1 => if atI got k < 0 then reach es owner (fuelG right) k (reachAll es right owner got k) else reachAll es right owner got k
def coverLeft (es : Gr) (s : RS) : Nat → List Int
  | 0 => []
  | k + 1 => if (k : Int) ∈ s.left then coverLeft es s k else coverLeft es s k ++ [(k : Int)]
def coverRight (s : RS) : Nat → List Int
  | 0 => []
  | k + 1 => if (k : Int) ∈ s.reached then coverRight s k ++ [(k : Int)] else coverRight s k
def ownL (es : Gr) (right : Int) : List Int := (augAll es right es.length).1
def gotL (es : Gr) (right : Int) : List Int := (augAll es right es.length).2
def rsL (es : Gr) (right : Int) : RS := reachAll es right (ownL es right) (gotL es right) es.length
def leftL (es : Gr) (right : Int) : List Int := coverLeft es (rsL es right) es.length
def rightL (es : Gr) (right : Int) : List Int := coverRight (rsL es right) right.toNat
structure RAInv (es : Gr) (right : Int) (owner got : List Int) (D : Int → Prop) (k : Nat) (s : RS) : Prop where
  wf : RWF es right s
  inD : ∀ n ∈ s.reached, D n
  done : ∀ j ∈ s.left, ∀ n ∈ rowG es j.toNat, n ∈ s.reached
  back : ∀ n ∈ s.reached, atI owner n.toNat ∈ s.left
  from_ : ∀ j ∈ s.left, (atI got j.toNat < 0) ∨ ∃ n ∈ s.reached, atI owner n.toNat = j
  free : ∀ j : Nat, j < k → atI got j < 0 → (j : Int) ∈ s.left
theorem reachAll_inv {es : Gr} {right : Int} {owner got : List Int} {D : Int → Prop} (hD : Closed es owner D) (hDr : ∀ n, D n → 0 ≤ n ∧ n < right) (hown : ∀ n : Nat, atI owner n < es.length)
    (hfree : ∀ j, j < es.length → atI got j < 0 → ∀ n ∈ rowG es j, D n) : ∀ k, k ≤ es.length → RAInv es right owner got D k (reachAll es right owner got k)
  | 0, _ => ⟨⟨List.nodup_nil, fun n h => (by cases h), fun n h => (by cases h), List.nodup_nil⟩, fun n h => (by cases h), fun n h => (by cases h), fun n h => (by cases h), fun n h => (by cases h), fun j h => by omega⟩
  | k + 1, hk => by
    have ih := reachAll_inv hD hDr hown hfree k (by omega)
    unfold reachAll
    split
    · rename_i hg
      obtain ⟨h1, h2, h3, h4⟩ := reach_law hD hDr hown (fuelG right) k (reachAll es right owner got k) (by omega) (fun n hn => hfree k (by omega) hg n (by simpa using hn)) ih.wf ih.inD (by simp [fuelG]; omega)
      refine ⟨h1.wf, h4, fun j hj n hn => ?_, fun n hn => ?_, fun j hj => ?_, fun j hj hgj => ?_⟩
      · by_cases h : j ∈ (reachAll es right owner got k).left
        · exact h1.subR n (ih.done j h n hn)
        · exact h1.done j hj h n hn
      · by_cases h : n ∈ (reachAll es right owner got k).reached
        · exact h1.subL _ (ih.back n h)
        · exact h1.back n hn h
      · by_cases h : j ∈ (reachAll es right owner got k).left
        · exact (ih.from_ j h).imp id (fun ⟨n, hn, he⟩ => ⟨n, h1.subR n hn, he⟩)
        · rcases h3 j hj h with h | ⟨n, hn, _, he⟩
          · have := Option.some.inj h
            subst this; exact .inl (by simpa using hg)
          · exact .inr ⟨n, hn, he⟩
      · by_cases hjk : j = k
        · subst hjk; exact h2
        · exact h1.subL _ (ih.free j (by omega) hgj)
    · rename_i hg
      refine ⟨ih.wf, ih.inD, ih.done, ih.back, ih.from_, fun j hj hgj => ?_⟩
      by_cases hjk : j = k
      · subst hjk; exact absurd hgj hg
      · exact ih.free j (by omega) hgj
theorem coverLeft_mem {es : Gr} {s : RS} (x : Int) : ∀ k, x ∈ coverLeft es s k ↔ ∃ i : Nat, i < k ∧ x = i ∧ (i : Int) ∉ s.left
  | 0 => ⟨fun h => (by cases h), fun ⟨i, h, _⟩ => by omega⟩
  | k + 1 => by
    unfold coverLeft
    split
    · rename_i h
      rw [coverLeft_mem x k]
      exact ⟨fun ⟨i, h1, h2⟩ => ⟨i, by omega, h2⟩, fun ⟨i, h1, h2, h3⟩ => ⟨i, by
        by_cases hik : i = k
        · subst hik; exact absurd h h3
        · omega, h2, h3⟩⟩
    · rename_i h
      rw [List.mem_append, coverLeft_mem x k, List.mem_singleton]
      refine ⟨fun h' => ?_, fun ⟨i, h1, h2, h3⟩ => ?_⟩
      · rcases h' with ⟨i, h1, h2⟩ | rfl
        · exact ⟨i, by omega, h2⟩
        · exact ⟨k, by omega, rfl, h⟩
      · by_cases hik : i = k
        · subst hik; exact .inr h2
        · exact .inl ⟨i, by omega, h2, h3⟩
theorem coverRight_mem {s : RS} (x : Int) : ∀ k, x ∈ coverRight s k ↔ ∃ i : Nat, i < k ∧ x = i ∧ (i : Int) ∈ s.reached
  | 0 => ⟨fun h => (by cases h), fun ⟨i, h, _⟩ => by omega⟩
  | k + 1 => by
    unfold coverRight
    split
    · rename_i h
      rw [List.mem_append, coverRight_mem x k, List.mem_singleton]
      refine ⟨fun h' => ?_, fun ⟨i, h1, h2, h3⟩ => ?_⟩
      · rcases h' with ⟨i, h1, h2⟩ | rfl
        · exact ⟨i, by omega, h2⟩
        · exact ⟨k, by omega, rfl, h⟩
      · by_cases hik : i = k
        · subst hik; exact .inr h2
        · exact .inl ⟨i, by omega, h2, h3⟩
    · rename_i h
      rw [coverRight_mem x k]
      exact ⟨fun ⟨i, h1, h2⟩ => ⟨i, by omega, h2⟩, fun ⟨i, h1, h2, h3⟩ => ⟨i, by
        by_cases hik : i = k
        · subst hik; exact absurd h3 h
        · omega, h2, h3⟩⟩
theorem formed_snoc {l : List Int} {n : Int} (h : Formed l n) {k : Int} (h0 : 0 ≤ k) (hk : k < n) (hl : ∀ x ∈ l, x < k) : Formed (l ++ [k]) n := ⟨fun i hi => by
  have hi' : i < l.length + 1 := by simpa using hi
  rw [atI_append, atI_append]
  by_cases h1 : i < l.length
  · rw [if_pos h1, if_pos (by omega)]; exact h.at_ i h1
  · obtain rfl : i = l.length := by omega
    rw [if_neg (by omega), Nat.sub_self]
    refine ⟨h0, hk, fun h2 => ?_⟩
    rw [if_pos (by omega)]
    exact hl _ (by rw [atI_eq (by omega)]; exact List.getElem_mem _)⟩
theorem coverLeft_formed {es : Gr} {s : RS} {n : Int} : ∀ k : Nat, (k : Int) ≤ n → Formed (coverLeft es s k) n
  | 0, _ => ⟨fun i hi => by simp [coverLeft] at hi⟩
  | k + 1, hk => by
    have ih := coverLeft_formed (es := es) (s := s) k (n := n) (by omega)
    unfold coverLeft
    split
    · exact ih
    · exact formed_snoc ih (by omega) (by omega) (fun x hx => by obtain ⟨i, h, rfl, _⟩ := (coverLeft_mem x k).1 hx; omega)
theorem coverRight_formed {s : RS} {n : Int} : ∀ k : Nat, (k : Int) ≤ n → Formed (coverRight s k) n
  | 0, _ => ⟨fun i hi => by simp [coverRight] at hi⟩
  | k + 1, hk => by
    have ih := coverRight_formed (s := s) k (n := n) (by omega)
    unfold coverRight
    split
    · exact formed_snoc ih (by omega) (by omega) (fun x hx => by obtain ⟨i, h, rfl, _⟩ := (coverRight_mem x k).1 hx; omega)
    · exact ih
theorem conv_isM {es : Gr} {s : AS} (hl : s.got.length = es.length) (hlow : ∀ j, -1 ≤ atI s.got j) (hc : Conv es s (-1)) : IsM es s.got := by
  refine ⟨hl, fun i hi => ?_, fun i hi hne k hk e => ?_⟩
  · have := hlow i
    by_cases h : atI s.got i = -1
    · exact .inl h
    · exact .inr (hc.got i (by omega)).1
  · have h1 := hlow i
    have h2 := (hc.got i (by omega)).2
    have h3 := (hc.got k (by omega)).2
    rw [e, h2] at h3
    omega
/-- what the search returns is accepted -/
theorem match_law {es : Gr} {right : Int} (hv : validG es right = true) : checkL es right (gotL es right) (leftL es right) (rightL es right) = true := by
  have hvp := validG_parts hv
  have hI := allInv hv es.length (Nat.le_refl _)
  obtain ⟨D, hD1, hD2, hD3⟩ := hI.dead
  have hlg : (gotL es right).length = es.length := hI.wf.lg
  have hlow : ∀ j, -1 ≤ atI (gotL es right) j := hI.low
  have hown : ∀ n : Nat, atI (ownL es right) n < es.length := fun n => (hI.wf.own n).2
  have hown0 : ∀ n : Nat, -1 ≤ atI (ownL es right) n := fun n => (hI.wf.own n).1
  have hm : IsM es (gotL es right) := conv_isM (s := ⟨[], ownL es right, gotL es right⟩) hlg hlow hI.conv
  have hR : RAInv es right (ownL es right) (gotL es right) D es.length (rsL es right) := reachAll_inv hD1 hD2 hown (fun j hj hg => hD3 j hj (by have := hI.low j; have hg : atI (augAll es right es.length).2 j < 0 := hg; omega)) es.length (Nat.le_refl _)
  have hgot := hI.conv.got
  have howns : ∀ n : Nat, 0 ≤ atI (ownL es right) n → atI (gotL es right) (atI (ownL es right) n).toNat = n := fun n h => hI.conv.own n (by omega) h
  obtain ⟨rs, hrs⟩ : ∃ rs, rs = rsL es right := ⟨_, rfl⟩
  have hcov : coversL es (leftL es right) (rightL es right) = true := by
    rw [coversL_iff]
    intro i hi
    by_cases h : (i : Int) ∈ (rsL es right).left
    · refine .inr fun n hn => ?_
      have h1 := hR.done _ h n (by simpa using hn)
      have h2 := hvp.2.2.2 i n hn
      exact (coverRight_mem n _).2 ⟨n.toNat, by omega, by omega, by rw [Int.toNat_of_nonneg (by omega)]; exact h1⟩
    · exact .inl ((coverLeft_mem _ _).2 ⟨i, hi, rfl, h⟩)
  have hsz : sizeN (gotL es right) = (leftL es right).length + (rightL es right).length := by
    have hle := weak hm hcov
    have fl : Formed (leftL es right) es.length := coverLeft_formed _ (Int.le_refl _)
    have fr : Formed (rightL es right) right := coverRight_formed _ (by omega)
    have hge : ((leftL es right).map Int.toNat ++ (rightL es right).map (fun n => (atI (ownL es right) n.toNat).toNat)).length ≤ (matched (gotL es right)).length := by
      refine nodup_le ?_ ?_
      · rw [List.nodup_append]
        refine ⟨nodup_map _ fl.nodup (fun x hx y hy e => ?_), nodup_map _ fr.nodup (fun x hx y hy e => ?_), fun a ha b hb => ?_⟩
        · obtain ⟨i, _, rfl, _⟩ := (coverLeft_mem x _).1 hx
          obtain ⟨j, _, rfl, _⟩ := (coverLeft_mem y _).1 hy
          simp at e; omega
        · obtain ⟨i, _, rfl, hi⟩ := (coverRight_mem x _).1 hx
          obtain ⟨j, _, rfl, hj⟩ := (coverRight_mem y _).1 hy
          simp only [Int.toNat_natCast] at e
          have h1 := howns i (hD1.taken i (hR.inD _ hi))
          have h2 := howns j (hD1.taken j (hR.inD _ hj))
          rw [e, h2] at h1
          exact h1.symm
        · obtain ⟨x, hx, rfl⟩ := List.mem_map.1 ha
          obtain ⟨y, hy, rfl⟩ := List.mem_map.1 hb
          obtain ⟨i, _, rfl, hi⟩ := (coverLeft_mem x _).1 hx
          obtain ⟨j, _, rfl, hj⟩ := (coverRight_mem y _).1 hy
          intro e
          simp only [Int.toNat_natCast] at e
          have h1 := hR.back _ hj
          rw [Int.toNat_natCast] at h1
          have h2 := hD1.taken j (hR.inD _ hj)
          have h2 : 0 ≤ atI (ownL es right) j := h2
          exact hi (by rw [show (i : Int) = atI (ownL es right) j by omega]; exact h1)
      · intro x hx
        rw [mem_matched]
        rcases List.mem_append.1 hx with h | h
        · obtain ⟨y, hy, rfl⟩ := List.mem_map.1 h
          obtain ⟨i, hi, rfl, hn⟩ := (coverLeft_mem y _).1 hy
          rw [Int.toNat_natCast]
          refine ⟨by omega, fun e => hn (hR.free i hi (by omega))⟩
        · obtain ⟨y, hy, rfl⟩ := List.mem_map.1 h
          obtain ⟨i, hi, rfl, hn⟩ := (coverRight_mem y _).1 hy
          simp only [Int.toNat_natCast]
          have h2 : 0 ≤ atI (ownL es right) i := hD1.taken i (hR.inD _ hn)
          have h3 := hown i
          rw [howns i h2]
          exact ⟨by omega, by omega⟩
    simp only [List.length_append, List.length_map] at hge
    unfold sizeN at hle ⊢
    omega
  simp only [checkL, Bool.and_eq_true, decide_eq_true_eq]
  refine ⟨hv, formedB_iff.2 (coverLeft_formed _ (Int.le_refl _)), formedB_iff.2 (coverRight_formed _ (by omega)), hcov, ?_⟩
  rw [sizeL_yes hm, hsz]; omega
theorem match_isM {es : Gr} {right : Int} (hv : validG es right = true) : IsM es (gotL es right) := (check_parts (match_law hv)).2.2.2.2.1
def encI (n : Int) : List Go.Value := [.int .i64 n]
/-- the graph of its rows in memory -/
def gr (ps : List (Go.Value × List Int)) : Gr := ps.map (·.2)
theorem gr_len (ps : List (Go.Value × List Int)) : (gr ps).length = ps.length := by simp [gr]
theorem gr_row (ps : List (Go.Value × List Int)) {i : Nat} (h : i < ps.length) : rowG (gr ps) i = ps[i].2 := by
  rw [rowG_eq (by rw [gr_len]; exact h)]; simp [gr]
theorem valid_no1 {es : Gr} {right : Int} (h : (es.length : Int) > 4000 ∨ right < 0 ∨ right > 4000) : validG es right = false := by
  rw [Bool.eq_false_iff]
  intro e
  have := validG_parts e
  omega
theorem valid_any {ps : List (Go.Value × List Int)} {right : Int} (h1 : (ps.length : Int) ≤ 4000) (h2 : 0 ≤ right) (h3 : right ≤ 4000) : validG (gr ps) right = !ps.any (fun p => p.2.any (fun n => !okN right n)) := by
  unfold validG
  rw [gr_len, decide_eq_true (show ps.length ≤ 4000 by omega), decide_eq_true h2, decide_eq_true h3]
  simp only [Bool.true_and, gr, List.all_map, List.not_any_eq_all_not, Bool.not_not]
  rfl
def goodAt (es : Gr) (got : List Int) (i : Nat) : Prop := atI got i = -1 ∨ (atI got i ∈ rowG es i ∧ ∀ k, k < i → atI got k ≠ atI got i)
def cntM (got : List Int) (k : Nat) : Nat := ((List.range k).filter (fun i => decide (atI got i ≠ -1))).length
theorem cntM_succ (got : List Int) (k : Nat) : cntM got (k + 1) = cntM got k + (if atI got k = -1 then 0 else 1) := by
  unfold cntM
  rw [List.range_succ, List.filter_append, List.length_append]
  by_cases h : atI got k = -1 <;> simp [List.filter, h]
theorem good_isM {es : Gr} {got : List Int} (hl : got.length = es.length) (h : ∀ i, i < got.length → goodAt es got i) : IsM es got :=
  ⟨hl, fun i hi => (h i hi).imp id (fun x => x.1), fun i hi hn => ((h i hi).resolve_left hn).2⟩
/-- the map of a set of numbers -/
def memS : List Int → Int → Option Bool
  | [] => fun _ => none
  | n :: l => Go.Gw.upd (memS l) n true
theorem memS_some (l : List Int) (x : Int) : memS l x = if x ∈ l then some true else none := by
  induction l with
  | nil => rfl
  | cons n l ih =>
    unfold memS Go.Gw.upd
    by_cases h : x = n
    · subst h; simp
    · rw [if_neg h, ih]; simp [h]
theorem memS_get (l : List Int) (x : Int) : (memS l x).getD false = decide (x ∈ l) := by
  rw [memS_some]; by_cases h : x ∈ l <;> simp [h]
def fillL (n k : Nat) : List Int := List.replicate k (-1) ++ List.replicate (n - k) 0
theorem fill_len {n k : Nat} (h : k ≤ n) : (fillL n k).length = n := by simp [fillL]; omega
theorem fill_zero (n : Nat) : fillL n 0 = List.replicate n 0 := by simp [fillL]
theorem fill_end (n : Nat) : fillL n n = List.replicate n (-1) := by simp [fillL]
theorem fill_step {n k : Nat} (h : k < n) : (fillL n k).set k (-1) = fillL n (k + 1) := by
  unfold fillL
  rw [List.set_append_right _ _ (by simp), List.length_replicate, Nat.sub_self, show n - k = (n - (k + 1)) + 1 by omega, List.replicate_succ, List.set_cons_zero, List.replicate_succ', List.append_assoc]
  rfl
theorem augAll_zero (es : Gr) (right : Int) : augAll es right 0 = (List.replicate right.toNat (-1), List.replicate es.length (-1)) := rfl
theorem aug_succ (ps : List (Go.Value × List Int)) (f i : Nat) (s : AS) (hi : i < ps.length) : aug (gr ps) (f + 1) (i : Int) s = augRow (aug (gr ps) f) i ps[i].2 s := by
  show augRow _ _ (rowG (gr ps) (i : Int).toNat) s = _
  rw [Int.toNat_natCast, gr_row ps hi]
theorem reach_succ (ps : List (Go.Value × List Int)) (owner : List Int) (f i : Nat) (s : RS) (hi : i < ps.length) (hn : (i : Int) ∉ s.left) : reach (gr ps) owner (f + 1) (i : Int) s = reachRow (reach (gr ps) owner f) owner ps[i].2 { s with left := (i : Int) :: s.left } := by
  rw [reach, if_neg hn]
  show reachRow _ _ (rowG (gr ps) (i : Int).toNat) _ = _
  rw [Int.toNat_natCast, gr_row ps hi]
theorem reach_in (es : Gr) (owner : List Int) (f : Nat) (i : Int) (s : RS) (h : i ∈ s.left) : reach es owner (f + 1) i s = s := by rw [reach, if_pos h]
theorem coverLeft_len (es : Gr) (s : RS) : ∀ k, (coverLeft es s k).length ≤ k
  | 0 => Nat.le_refl _
  | k + 1 => by
    unfold coverLeft
    have := coverLeft_len es s k
    split <;> simp <;> omega
theorem coverRight_len (s : RS) : ∀ k, (coverRight s k).length ≤ k
  | 0 => Nat.le_refl _
  | k + 1 => by
    unfold coverRight
    have := coverRight_len s k
    split <;> simp <;> omega
end Go.Proofs.Ytnnendajegdnhaa
