/- Plain laws of layer 42: how many places can have a new place at the same time; a twin's operations. No condition. -/
import Derived.Test.YtnnendajegdnhaaPlainY
namespace Go.Proofs.Ytnnendajegdnhaa
set_option linter.unusedVariables false
set_option linter.unusedSimpArgs false
open Go.Gw
def rk (ps next : List Pl) : Nat := sizeN (gotL (edgesL ps next) (next.length : Int))
theorem rk_isM {ps next : List Pl} (h1 : ps.length ≤ 4000) (h2 : next.length ≤ 4000) : IsM (edgesL ps next) (gotL (edgesL ps next) (next.length : Int)) := match_isM (edges_valid h1 h2)
theorem rk_best {ps next : List Pl} (h1 : ps.length ≤ 4000) (h2 : next.length ≤ 4000) {g : List Int} (h : IsM (edgesL ps next) g) : sizeN g ≤ rk ps next := best (match_law (edges_valid h1 h2)) h
theorem isM_perm {es es2 : Gr} (h : es.Perm es2) : ∀ {g : List Int}, IsM es g → ∃ g2, IsM es2 g2 ∧ g.Perm g2 := by
  induction h with
  | nil => exact fun {g} h => ⟨g, h, List.Perm.refl _⟩
  | @cons x l1 l2 _ ih =>
    intro g h
    match g, h with
    | [], h => have := h.len; simp at this
    | y :: t, h =>
      obtain ⟨h1, h2⟩ := isM_cons.1 h
      obtain ⟨t2, h3, hp⟩ := ih h1
      exact ⟨y :: t2, isM_cons.2 ⟨h3, h2.imp_right (fun h => ⟨h.1, fun hm => h.2 (hp.mem_iff.2 hm)⟩)⟩, hp.cons y⟩
  | @swap x y l =>
    intro g h
    match g, h with
    | [], h => have := h.len; simp at this
    | [a], h => have := h.len; simp at this
    | a :: b :: t, h =>
      obtain ⟨h1, h2⟩ := isM_cons.1 h
      obtain ⟨h3, h4⟩ := isM_cons.1 h1
      refine ⟨b :: a :: t, isM_cons.2 ⟨isM_cons.2 ⟨h3, ?_⟩, ?_⟩, List.Perm.swap _ _ _⟩
      · exact h2.imp_right (fun h => ⟨h.1, fun hm => h.2 (List.mem_cons_of_mem _ hm)⟩)
      · by_cases hb : b = -1
        · exact .inl hb
        · refine .inr ⟨(h4.resolve_left hb).1, fun hm => ?_⟩
          rcases List.mem_cons.1 hm with e | hm
          · subst e
            exact (h2.resolve_left hb).2 (List.mem_cons_self ..)
          · exact (h4.resolve_left hb).2 hm
  | trans _ _ ih1 ih2 =>
    intro g h
    obtain ⟨g2, h2, p2⟩ := ih1 h
    obtain ⟨g3, h3, p3⟩ := ih2 h2
    exact ⟨g3, h3, p2.trans p3⟩
theorem sizeN_perm {a b : List Int} (h : a.Perm b) : sizeN a = sizeN b := by rw [sizeN_eq, sizeN_eq]; exact (h.filter _).length_eq
theorem rk_perm {ps qs next : List Pl} (h : ps.Perm qs) (h1 : ps.length ≤ 4000) (h2 : next.length ≤ 4000) : rk ps next = rk qs next := by
  have hl := h.length_eq
  have go : ∀ {ps qs : List Pl}, ps.Perm qs → ps.length ≤ 4000 → qs.length ≤ 4000 → rk ps next ≤ rk qs next := fun {ps qs} h h1 h3 => by
    obtain ⟨g, hg, hp⟩ := isM_perm (h.map (fun p => fits p next 0)) (rk_isM h1 h2)
    have := rk_best h3 h2 (g := g) hg
    have e := sizeN_perm hp
    show sizeN _ ≤ _
    omega
  exact Nat.le_antisymm (go h h1 (by omega)) (go h.symm (by omega) h1)
theorem rk_cons {p : Pl} {ps next : List Pl} (h1 : ps.length + 1 ≤ 4000) (h2 : next.length ≤ 4000) : rk ps next ≤ rk (p :: ps) next ∧ rk (p :: ps) next ≤ rk ps next + 1 := by
  constructor
  · have := rk_best (ps := p :: ps) (by simpa using h1) h2 (g := -1 :: gotL (edgesL ps next) (next.length : Int)) (isM_cons.2 ⟨rk_isM (by omega) h2, .inl rfl⟩)
    rw [sizeN_cons] at this
    simpa [rk] using this
  · have hm := rk_isM (ps := p :: ps) (next := next) (by simpa using h1) h2
    show sizeN (gotL (edgesL (p :: ps) next) (next.length : Int)) ≤ _
    revert hm
    generalize gotL (edgesL (p :: ps) next) (next.length : Int) = g
    intro hm
    match g, hm with
    | [], hm => simp [sizeN, matched]
    | y :: t, hm =>
      have := rk_best (by omega) h2 (isM_cons.1 hm).1
      rw [sizeN_cons]
      split <;> omega
theorem rk_snoc {p : Pl} {ps next : List Pl} (h1 : ps.length + 1 ≤ 4000) (h2 : next.length ≤ 4000) : rk ps next ≤ rk (ps ++ [p]) next ∧ rk (ps ++ [p]) next ≤ rk ps next + 1 := by
  rw [rk_perm (List.perm_append_comm (l₁ := ps) (l₂ := [p])) (by simpa using h1) h2]
  exact rk_cons h1 h2
def newOw (serial place : Int) : Ow := ⟨serial, 0, place, .string ⟨#[]⟩, .slice none 0 0, .string ⟨#[]⟩, .slice none 0 0, 0, .slice none 0 0, 0, .slice none 0 0⟩
theorem newOw_ok (s p : Int) : (newOw s p).ok := ⟨rfl, rfl, rfl, rfl, rfl, rfl⟩
def argB (n : Nat) (place serial : Int) : Bool := decide (place < 0) || decide (place ≥ n) || decide (serial < 1) || decide (serial > 1000000000)
def usedB (ts : List Ow) (serial : Int) : Bool := ts.any (fun x => decide (x.serial = serial))
def takenB (ts : List Ow) (place : Int) : Bool := (movedL ts).any (fun x => decide (x.place = place))
def oldsT (old : List Pl) (ts : List Ow) : List Pl := oldL old (movedL ts)
def denyB (old next : List Pl) (ts : List Ow) (place : Int) : Bool := decide (rk (oldsT old ts ++ [old.getD place.toNat pl0]) next = rk (oldsT old ts) next)
def sellE (old next : List Pl) (ts : List Ow) (place serial : Int) : Int :=
  if argB old.length place serial = true then 1 else if usedB ts serial = true then 9 else if takenB ts place = true then 16 else if (movedL ts).length ≥ 4000 then 3 else if denyB old next ts place = true then 15 else 0
def sellT (old next : List Pl) (ts : List Ow) (place serial : Int) : List Ow := if sellE old next ts place serial = 0 then ts ++ [newOw serial place] else ts
def dropP (serial : Int) (x : Ow) : Bool := decide (x.serial = serial) && movedB x
def dropE (ts : List Ow) (serial : Int) : Int := if ts.any (dropP serial) = true then 0 else 11
def dropT (ts : List Ow) (serial : Int) : List Ow := ts.eraseP (dropP serial)
structure Op where
  drop : Bool
  place : Int
  serial : Int
def Op.enc (o : Op) : List Go.Value := [.bool o.drop, .int .i64 o.place, .int .i64 o.serial]
def stepT (old next : List Pl) (ts : List Ow) (o : Op) : List Ow := if o.drop = true then dropT ts o.serial else sellT old next ts o.place o.serial
def runT (old next : List Pl) (ts : List Ow) (l : List Op) : List Ow := l.foldl (stepT old next) ts
/-- what holds of the titles of a twin -/
structure TwOK (old next : List Pl) (ts : List Ow) (n : Nat) : Prop where
  err : errP old next ts = 0
  ser : ts.Pairwise (fun x y => x.serial ≠ y.serial)
  len : ts.length ≤ n
  ok : ∀ o ∈ ts, o.ok
theorem plOK_pw {n : Nat} {l : List Ow} : PlOK n l ↔ (∀ o ∈ l, o.place < n) ∧ l.Pairwise (fun x y => x.place ≠ y.place) := by
  constructor
  · intro h
    refine ⟨fun o ho => ?_, List.pairwise_iff_getElem.2 (fun i j hi hj hij => (h j hj).2 i hij)⟩
    obtain ⟨j, hj, rfl⟩ := List.getElem_of_mem ho
    exact (h j hj).1
  · intro ⟨h1, h2⟩ j hj
    exact ⟨h1 _ (List.getElem_mem hj), fun q hq => List.pairwise_iff_getElem.1 h2 q j (by omega) hj hq⟩
theorem err_0 {old next : List Pl} {ts : List Ow} : errP old next ts = 0 ↔ old.length ≤ 4000 ∧ next.length ≤ 4000 ∧ (movedL ts).length ≤ 4000 ∧ PlOK old.length (movedL ts) := by
  constructor
  · exact fun h => errW_ok h
  · exact fun ⟨h1, h2, h3, h4⟩ => errW_0 (by omega) h4
theorem moved_append (xs ys : List Ow) : movedL (xs ++ ys) = movedL xs ++ movedL ys := by simp [movedL]
theorem moved_new {serial place : Int} (h : 0 ≤ place) : movedL [newOw serial place] = [newOw serial place] := by simp [movedL, movedB, newOw, h]
theorem argB_no {n : Nat} {place serial : Int} (h : argB n place serial = false) : 0 ≤ place ∧ place < n ∧ 1 ≤ serial ∧ serial ≤ 1000000000 := by
  simp only [argB, Bool.or_eq_false_iff, decide_eq_false_iff_not] at h
  omega
theorem sell_parts {old next : List Pl} {ts : List Ow} {place serial : Int} (h : sellE old next ts place serial = 0) :
    (0 ≤ place ∧ place < old.length ∧ 1 ≤ serial ∧ serial ≤ 1000000000) ∧ (∀ x ∈ ts, x.serial ≠ serial) ∧ (∀ x ∈ movedL ts, x.place ≠ place) ∧ (movedL ts).length < 4000 ∧ denyB old next ts place = false := by
  unfold sellE at h
  split at h
  · cases h
  · rename_i h1
    split at h
    · cases h
    · rename_i h2
      split at h
      · cases h
      · rename_i h3
        split at h
        · cases h
        · rename_i h4
          split at h
          · cases h
          · rename_i h5
            refine ⟨argB_no (by simpa using h1), fun x hx e => h2 (List.any_eq_true.2 ⟨x, hx, by simpa using e⟩), fun x hx e => h3 (List.any_eq_true.2 ⟨x, hx, by simpa using e⟩), by omega, by simpa using h5⟩
theorem sell_new {old next : List Pl} {ts : List Ow} {place serial : Int} {n : Nat} (h : TwOK old next ts n) (h2 : (0 ≤ place ∧ place < old.length) ∧ (∀ x ∈ ts, x.serial ≠ serial) ∧ (∀ x ∈ movedL ts, x.place ≠ place) ∧ (movedL ts).length < 4000) : TwOK old next (ts ++ [newOw serial place]) (n + 1) := by
  obtain ⟨⟨a1, a2⟩, a3, a4, a5⟩ := h2
  obtain ⟨e1, e2, e3, e4⟩ := err_0.1 h.err
  obtain ⟨p1, p2⟩ := plOK_pw.1 e4
  refine ⟨err_0.2 ⟨e1, e2, ?_, ?_⟩, ?_, ?_, ?_⟩
  · rw [moved_append, moved_new a1, List.length_append]; simp; omega
  · rw [moved_append, moved_new a1]
    refine plOK_pw.2 ⟨fun o ho => ?_, List.pairwise_append.2 ⟨p2, List.pairwise_singleton _ _, fun x hx y hy => ?_⟩⟩
    · rcases List.mem_append.1 ho with h | h
      · exact p1 o h
      · obtain rfl := List.mem_singleton.1 h; exact a2
    · obtain rfl := List.mem_singleton.1 hy; exact a4 x hx
  · refine List.pairwise_append.2 ⟨h.ser, List.pairwise_singleton _ _, fun x hx y hy => ?_⟩
    obtain rfl := List.mem_singleton.1 hy; exact a3 x hx
  · have := h.len; simp; omega
  · intro o ho
    rcases List.mem_append.1 ho with h' | h'
    · exact h.ok o h'
    · obtain rfl := List.mem_singleton.1 h'; exact newOw_ok _ _
theorem TwOK.mono {old next : List Pl} {ts : List Ow} {n m : Nat} (h : TwOK old next ts n) (hm : n ≤ m) : TwOK old next ts m := ⟨h.err, h.ser, Nat.le_trans h.len hm, h.ok⟩
theorem TwOK.sub {old next : List Pl} {ts us : List Ow} {n : Nat} (h : TwOK old next ts n) (hs : us.Sublist ts) : TwOK old next us n := by
  obtain ⟨e1, e2, e3, e4⟩ := err_0.1 h.err
  obtain ⟨p1, p2⟩ := plOK_pw.1 e4
  have hm : (movedL us).Sublist (movedL ts) := hs.filter _
  exact ⟨err_0.2 ⟨e1, e2, Nat.le_trans hm.length_le e3, plOK_pw.2 ⟨fun o ho => p1 o (hm.subset ho), p2.sublist hm⟩⟩, h.ser.sublist hs, Nat.le_trans hs.length_le h.len, fun o ho => h.ok o (hs.subset ho)⟩
theorem TwOK.sell {old next : List Pl} {ts : List Ow} {n : Nat} (h : TwOK old next ts n) (place serial : Int) : TwOK old next (sellT old next ts place serial) (n + 1) := by
  unfold sellT
  split
  · rename_i he
    obtain ⟨h1, h2, h3, h4, h5⟩ := sell_parts he
    exact sell_new h ⟨⟨h1.1, h1.2.1⟩, h2, h3, h4⟩
  · exact h.mono (by omega)
theorem TwOK.drop {old next : List Pl} {ts : List Ow} {n : Nat} (h : TwOK old next ts n) (serial : Int) : TwOK old next (dropT ts serial) n := h.sub (List.eraseP_sublist ..)
theorem TwOK.step {old next : List Pl} {ts : List Ow} {n : Nat} (h : TwOK old next ts n) (o : Op) : TwOK old next (stepT old next ts o) (n + 1) := by
  unfold stepT
  split
  · exact (h.drop _).mono (by omega)
  · exact h.sell _ _
theorem TwOK.run {old next : List Pl} {ts : List Ow} {n : Nat} (h : TwOK old next ts n) (l : List Op) : TwOK old next (runT old next ts l) (n + l.length) := by
  induction l generalizing ts n with
  | nil => exact h
  | cons o r ih => exact (ih (h.step o)).mono (by simp; omega)
theorem oldsT_len (old : List Pl) (ts : List Ow) : (oldsT old ts).length = (movedL ts).length := old_len _ _
theorem oldsT_new {old : List Pl} {ts : List Ow} {serial place : Int} (h : 0 ≤ place) : oldsT old (ts ++ [newOw serial place]) = oldsT old ts ++ [old.getD place.toNat pl0] := by
  unfold oldsT oldL
  rw [moved_append, moved_new h, List.map_append]; rfl
theorem TwOK.m {old next : List Pl} {ts : List Ow} {n : Nat} (h : TwOK old next ts n) : (movedL ts).length ≤ 4000 := (err_0.1 h.err).2.2.1
theorem TwOK.nx {old next : List Pl} {ts : List Ow} {n : Nat} (h : TwOK old next ts n) : next.length ≤ 4000 := (err_0.1 h.err).2.1
theorem PlanM.rk {old next : List Pl} {ts : List Ow} {ms : List Mv} (h : PlanM old next ts ms) : cntG (tosS (ms.map Mv.say)) ms.length = rk (oldsT old ts) next := by
  have hv := edges_valid h.small (planP h.err).n2
  rw [← h.match_eq rfl, ← sizeN_cntG (fun j _ => match_low hv j)]; rfl
def KP (pr : Int → Bool) (l : List Int) : List Int := l.filter (fun y => !pr y)
theorem kp_succ {pr : Int → Bool} {xs : List Int} {k : Nat} (hk : k < xs.length) : KP pr (xs.take (k + 1)) = KP pr (xs.take k) ++ (if pr xs[k] = true then [] else [xs[k]]) := by
  unfold KP
  rw [List.take_succ_eq_append_getElem hk, List.filter_append]
  cases h : pr xs[k] <;> simp [List.filter, h]
theorem kp_keep {pr : Int → Bool} {xs : List Int} {k : Nat} (hk : k < xs.length) (h : pr xs[k] = false) : KP pr (xs.take (k + 1)) = KP pr (xs.take k) ++ [xs[k]] := by rw [kp_succ hk, if_neg (by rw [h]; simp)]
theorem kp_drop {pr : Int → Bool} {xs : List Int} {k : Nat} (hk : k < xs.length) (h : pr xs[k] = true) : KP pr (xs.take (k + 1)) = KP pr (xs.take k) := by rw [kp_succ hk, if_pos h, List.append_nil]
theorem kp_all {pr : Int → Bool} {l : List Int} (h : ∀ x ∈ l, pr x = false) : KP pr l = l := List.filter_eq_self.2 (fun x hx => by rw [h x hx]; rfl)
theorem kp_start {pr : Int → Bool} {xs : List Int} {q : Nat} (hq : q < xs.length) (hpq : pr xs[q] = true) (hbq : ∀ j (h : j < xs.length), j < q → pr xs[j] = false) : KP pr (xs.take (q + 1)) = xs.take q := by
  rw [kp_drop hq hpq]
  refine kp_all (fun x hx => ?_)
  obtain ⟨j, hj, rfl⟩ := List.getElem_of_mem hx
  rw [List.length_take] at hj
  rw [List.getElem_take]; exact hbq j (by omega) (by omega)
theorem drop_get {xs ys : List Int} {k : Nat} (h : ys.drop k = xs.drop k) (hk : k < xs.length) (hy : k < ys.length) : ys[k] = xs[k] := by
  rw [List.drop_eq_getElem_cons hk, List.drop_eq_getElem_cons hy] at h
  exact (List.cons.inj h).1
theorem drop_more {xs ys : List Int} {k : Nat} (h : ys.drop k = xs.drop k) : ys.drop (k + 1) = xs.drop (k + 1) := by
  have := congrArg (List.drop 1) h
  simpa [List.drop_drop] using this
theorem set_take {ys : List Int} {i : Nat} {x : Int} (hi : i < ys.length) : (ys.set i x).take (i + 1) = ys.take i ++ [x] := by
  rw [List.take_succ_eq_append_getElem (by simpa using hi), List.getElem_set_self, List.take_set_of_le (Nat.le_refl _)]
theorem set_drop {ys : List Int} {i k : Nat} {x : Int} (h : i < k) : (ys.set i x).drop k = ys.drop k := by
  rw [List.drop_set_of_lt h]
end Go.Proofs.Ytnnendajegdnhaa
