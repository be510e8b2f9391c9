/- Plain definitions and laws for layer 49: a door that sheds load. No program in sight. No condition. -/
import Derived.WalkKit
namespace Go.Proofs.Ytojmagbonbcffaa
set_option linter.unusedSimpArgs false
set_option linter.unusedVariables false
def encI (n : Int) : List Value := [.int .i64 n]
def sumL (l : List Int) : Int := l.foldl (· + ·) 0
theorem sumL_nil : sumL [] = 0 := rfl
theorem foldl_add (l : List Int) (a : Int) : l.foldl (· + ·) a = a + l.foldl (· + ·) 0 := by
  induction l generalizing a with
  | nil => simp
  | cons x r ih => simp only [List.foldl_cons]; rw [ih (a + x), ih (0 + x)]; omega
theorem sumL_cons (x : Int) (r : List Int) : sumL (x :: r) = x + sumL r := by
  unfold sumL; rw [List.foldl_cons, foldl_add]; omega
theorem sumL_append (a b : List Int) : sumL (a ++ b) = sumL a + sumL b := by
  induction a with
  | nil => simp [sumL_nil]
  | cons x r ih => rw [List.cons_append, sumL_cons, sumL_cons, ih]; omega
theorem sumL_take (l : List Int) (k : Nat) (h : k < l.length) : sumL (l.take k) + l[k] = sumL (l.take (k + 1)) := by
  rw [List.take_succ_eq_append_getElem h, sumL_append, sumL_cons, sumL_nil]; omega
/-- every number of the list lies between the bounds -/
def Bd (lo hi : Int) (l : List Int) : Prop := ∀ x ∈ l, lo ≤ x ∧ x ≤ hi
theorem sumL_bd {lo hi : Int} : ∀ {l : List Int}, Bd lo hi l → lo * l.length ≤ sumL l ∧ sumL l ≤ hi * l.length
  | [], _ => by simp [sumL_nil]
  | x :: r, h => by
    have h1 := h x (by simp)
    obtain ⟨h2, h3⟩ := sumL_bd (l := r) (fun y hy => h y (List.mem_cons_of_mem _ hy))
    rw [sumL_cons]
    simp only [List.length_cons, Int.natCast_add, Int.natCast_one, Int.mul_add, Int.mul_one]
    omega
theorem Bd.take {lo hi : Int} {l : List Int} (h : Bd lo hi l) (k : Nat) : Bd lo hi (l.take k) := fun x hx => h x (List.mem_of_mem_take hx)
def badN (n : Int) : Bool := decide (n < 0) || decide (n > 4000)
def okTime (n : Int) : Bool := decide (n ≥ 0) && decide (n ≤ 1000000000)
structure Ask where
  cls : Int
  basket : Int
  now : Int
def Ask.enc (x : Ask) : List Value := [.int .i64 x.cls, .int .i64 x.basket, .int .i64 x.now]
def goodAsk (x : Ask) : Bool := decide (x.cls ≥ 0) && decide (x.cls < 3) && decide (x.basket ≥ 0) && decide (x.now ≥ 0) && decide (x.now ≤ 1000000000)
/-- a door: span, greatest time, reserves, total, what passed in this span without a basket, and all -/
structure DS where
  span : Int
  now : Int
  res : List Int
  total : Int
  load : List Int
  passed : List Int
structure DS.WF (s : DS) (N : Nat) : Prop where
  span : 1 ≤ s.span ∧ s.span ≤ 1000000000
  now : 0 ≤ s.now ∧ s.now ≤ 1000000000
  len : 1 ≤ s.res.length ∧ s.res.length ≤ 8
  ll : s.load.length = s.res.length
  lp : s.passed.length = s.res.length
  res : Bd 0 4000 s.res
  total : 1 ≤ s.total ∧ s.total ≤ 4000
  load : Bd 0 N s.load
  passed : Bd 0 N s.passed
def bump (l : List Int) (k : Nat) : List Int := l.set k (l.getD k 0 + 1)
/-- the door at a time -/
def moved (s : DS) (t : Int) : DS := if max s.now t / s.span = s.now / s.span then { s with now := max s.now t } else { s with now := max s.now t, load := List.replicate s.res.length 0, passed := List.replicate s.res.length 0 }
def takenL (load res : List Int) : List Int := List.zipWith max load res
def room (s : DS) (c : Int) : Bool := !(decide (s.load.getD c.toNat 0 ≥ s.res.getD c.toNat 0) && decide (sumL (takenL s.load s.res) ≥ s.total))
def enter (s : DS) (c basket : Int) : Bool × DS :=
  if c < 0 ∨ c ≥ s.res.length ∨ basket < 0 then (false, s)
  else if basket = 0 then if room s c = true then (true, { s with load := bump s.load c.toNat, passed := bump s.passed c.toNat }) else (false, s)
  else (true, { s with passed := bump s.passed c.toNat })
def offer (s : DS) (c basket t : Int) : Bool × DS := if okTime t = true then enter (moved s t) c basket else (false, s)
def passedL (s : DS) (t : Int) : List Int := if okTime t = true then if t / s.span = s.now / s.span then s.passed else List.replicate s.res.length 0 else []
def newOK (span : Int) (rs : List Int) (total : Int) : Bool := !(decide (span < 1) || decide (span > 1000000000) || decide ((rs.length : Int) < 1) || decide ((rs.length : Int) > 8) || decide (total < 1) || badN total || rs.any badN || decide (sumL rs > total))
def newDS (span : Int) (rs : List Int) (total : Int) : DS := ⟨span, 0, rs, total, List.replicate rs.length 0, List.replicate rs.length 0⟩
theorem bd_any {rs : List Int} (h : rs.any badN = false) : Bd 0 4000 rs := fun x hx => by
  have := List.any_eq_false.1 h x hx
  simp only [badN, Bool.or_eq_true, decide_eq_true_eq, not_or, Int.not_lt] at this
  omega
theorem Bd.wide {lo hi lo' hi' : Int} {l : List Int} (h : Bd lo hi l) (h1 : lo' ≤ lo) (h2 : hi ≤ hi') : Bd lo' hi' l := fun x hx => by have := h x hx; omega
theorem set_take_rep (xs : List Int) (k : Nat) (h : k < xs.length) : (xs.take k ++ List.replicate (xs.length - k) 0).set k xs[k] = xs.take (k + 1) ++ List.replicate (xs.length - (k + 1)) 0 := by
  have e : xs.length - k = (xs.length - (k + 1)) + 1 := by omega
  rw [e, List.replicate_succ, List.set_append_right _ _ (by simp; omega)]
  have e2 : k - (xs.take k).length = 0 := by simp; omega
  rw [e2, List.set_cons_zero, List.take_succ_eq_append_getElem h, List.append_assoc]; rfl
theorem take_rep_all (xs : List Int) (k : Nat) (h : xs.length ≤ k) : xs.take k ++ List.replicate (xs.length - k) 0 = xs := by
  rw [List.take_of_length_le h, Nat.sub_eq_zero_of_le h]; simp
theorem getD_at (l : List Int) (k : Nat) (h : k < l.length) : l.getD k 0 = l[k] := by
  rw [List.getD_eq_getElem?_getD, List.getElem?_eq_getElem h]; rfl
theorem bump_at (l : List Int) (k : Nat) (h : k < l.length) : bump l k = l.set k (l[k] + 1) := by rw [bump, getD_at l k h]
theorem room_at (s : DS) (c : Int) (h1 : c.toNat < s.load.length) (h2 : c.toNat < s.res.length) : room s c = !(decide (s.load[c.toNat] ≥ s.res[c.toNat]) && decide (sumL (takenL s.load s.res) ≥ s.total)) := by
  rw [room, getD_at _ _ h1, getD_at _ _ h2]
theorem taken_len {s : DS} {N : Nat} (h : s.WF N) : (takenL s.load s.res).length = s.res.length := by
  simp [takenL, h.ll]
theorem taken_at {s : DS} {N : Nat} (h : s.WF N) (k : Nat) (hk : k < s.res.length) : (takenL s.load s.res)[k]'(by rw [taken_len h]; exact hk) = max (s.load[k]'(by rw [h.ll]; exact hk)) s.res[k] := by
  simp [takenL]
theorem taken_bd {s : DS} {N : Nat} (h : s.WF N) (hN : N ≤ 1000000) : Bd (-1000000000) 1000000000 (takenL s.load s.res) := fun x hx => by
  obtain ⟨k, hk, rfl⟩ := List.getElem_of_mem hx
  have hk' : k < s.res.length := by rw [← taken_len h]; exact hk
  rw [taken_at h k hk']
  have h1 := h.load _ (List.getElem_mem (show k < s.load.length by rw [h.ll]; exact hk'))
  have h2 := h.res _ (List.getElem_mem hk')
  omega
theorem bump_len (l : List Int) (k : Nat) : (bump l k).length = l.length := by simp [bump]
theorem bump_bd {l : List Int} {k N : Nat} (h : Bd 0 N l) : Bd 0 (N + 1 : Nat) (bump l k) := fun x hx => by
  unfold bump at hx
  rcases List.mem_or_eq_of_mem_set hx with hx | rfl
  · have := h x hx; omega
  · by_cases hk : k < l.length
    · have := h _ (List.getElem_mem hk)
      rw [List.getD_eq_getElem?_getD, List.getElem?_eq_getElem hk]; simp; omega
    · rw [List.getD_eq_getElem?_getD, List.getElem?_eq_none (by omega)]; simp; omega
theorem Bd.more {l : List Int} {N : Nat} (h : Bd 0 N l) : Bd 0 (N + 1 : Nat) l := h.wide (by omega) (by omega)
theorem rep_bd (n N : Nat) : Bd 0 N (List.replicate n 0) := fun x hx => by rw [List.eq_of_mem_replicate hx]; omega
theorem moved_wf {s : DS} {N : Nat} (h : s.WF N) (t : Int) (ht : okTime t = true) : (moved s t).WF N := by
  simp only [okTime, Bool.and_eq_true, decide_eq_true_eq] at ht
  have hn := h.now
  unfold moved
  split
  · exact ⟨h.span, by dsimp only; omega, h.len, h.ll, h.lp, h.res, h.total, h.load, h.passed⟩
  · exact ⟨h.span, by dsimp only; omega, h.len, by simp, by simp, h.res, h.total, rep_bd _ _, rep_bd _ _⟩
theorem WF.more {s : DS} {N : Nat} (h : s.WF N) : s.WF (N + 1) := ⟨h.span, h.now, h.len, h.ll, h.lp, h.res, h.total, h.load.more, h.passed.more⟩
theorem enter_wf {s : DS} {N : Nat} (h : s.WF N) (c k : Int) : (enter s c k).2.WF (N + 1) := by
  unfold enter
  split
  · exact WF.more h
  · split
    · split
      · exact ⟨h.span, h.now, h.len, by simpa [bump_len] using h.ll, by simpa [bump_len] using h.lp, h.res, h.total, bump_bd h.load, bump_bd h.passed⟩
      · exact WF.more h
    · exact ⟨h.span, h.now, h.len, h.ll, by simpa [bump_len] using h.lp, h.res, h.total, h.load.more, bump_bd h.passed⟩
theorem offer_wf {s : DS} {N : Nat} (h : s.WF N) (c k t : Int) : (offer s c k t).2.WF (N + 1) := by
  unfold offer
  split
  · rename_i ht; exact enter_wf (moved_wf h t ht) c k
  · exact WF.more h
theorem new_wf {sp tot : Int} {rs : List Int} (h : newOK sp rs tot = true) : (newDS sp rs tot).WF 0 := by
  simp only [newOK, Bool.not_eq_true', Bool.or_eq_false_iff, decide_eq_false_iff_not, badN] at h
  obtain ⟨⟨⟨⟨⟨⟨⟨h1, h2⟩, h3⟩, h4⟩, h5⟩, h6, h6'⟩, h7⟩, h8⟩ := h
  exact ⟨by simp only [newDS]; omega, by simp [newDS], by simp only [newDS]; omega, by simp [newDS], by simp [newDS], bd_any h7, by simp only [newDS]; omega, rep_bd _ _, rep_bd _ _⟩
/-! ### the reference -/
structure Past where
  cls : Int
  basket : Int
  time : Int
def Past.enc (p : Past) : List Value := [.int .i64 p.cls, .int .i64 p.basket, .int .i64 p.time]
structure RS where
  span : Int
  now : Int
  res : List Int
  total : Int
  past : List Past
structure RS.WF (r : RS) (N : Nat) : Prop where
  span : 1 ≤ r.span ∧ r.span ≤ 1000000000
  now : 0 ≤ r.now ∧ r.now ≤ 1000000000
  len : 1 ≤ r.res.length ∧ r.res.length ≤ 8
  res : Bd 0 4000 r.res
  total : 1 ≤ r.total ∧ r.total ≤ 4000
  past : r.past.length ≤ N
  times : ∀ p ∈ r.past, 0 ≤ p.time ∧ p.time ≤ r.now
def counts (r : RS) (c : Int) (all : Bool) (p : Past) : Bool := p.cls == c && (p.time / r.span == r.now / r.span && (all || p.basket == 0))
def rload (r : RS) (c : Int) (all : Bool) : Int := ((r.past.filter (counts r c all)).length : Int)
def loads (r : RS) (all : Bool) : List Int := (List.range r.res.length).map fun (i : Nat) => rload r (i : Int) all
def takenR (r : RS) : List Int := takenL (loads r false) r.res
def rfree (r : RS) : Int := r.total - sumL (takenR r)
def renter (r : RS) (c basket : Int) : Bool × RS :=
  if c < 0 ∨ c ≥ r.res.length ∨ basket < 0 then (false, r)
  else if basket = 0 ∧ rload r c false ≥ r.res.getD c.toNat 0 ∧ rfree r ≤ 0 then (false, r)
  else (true, { r with past := r.past ++ [⟨c, basket, r.now⟩] })
def rmoved (r : RS) (t : Int) : RS := { r with now := max r.now t }
def roffer (r : RS) (c basket t : Int) : Bool × RS := if okTime t = true then renter (rmoved r t) c basket else (false, r)
def rpassed (r : RS) (t : Int) : List Int := if okTime t = true then if t / r.span = r.now / r.span then loads r true else List.replicate r.res.length 0 else []
def newRS (span : Int) (rs : List Int) (total : Int) : RS := ⟨span, 0, rs, total, []⟩
theorem rload_bd (r : RS) (c : Int) (b : Bool) : 0 ≤ rload r c b ∧ rload r c b ≤ r.past.length := by
  have := List.length_filter_le (counts r c b) r.past
  unfold rload; omega
theorem count_step (r : RS) (c : Int) (b : Bool) (k : Nat) (h : k < r.past.length) : (((r.past.take (k + 1)).filter (counts r c b)).length : Int) = ((r.past.take k).filter (counts r c b)).length + (if counts r c b r.past[k] = true then 1 else 0) := by
  rw [List.take_succ_eq_append_getElem h, List.filter_append]
  by_cases hc : counts r c b r.past[k] = true <;> simp [hc]
theorem loads_len (r : RS) (b : Bool) : (loads r b).length = r.res.length := by simp [loads]
theorem loads_at (r : RS) (b : Bool) (k : Nat) (h : k < r.res.length) : (loads r b)[k]'(by rw [loads_len]; exact h) = rload r (k : Int) b := by simp [loads]
theorem takenR_len (r : RS) : (takenR r).length = r.res.length := by simp [takenR, takenL, loads_len]
theorem takenR_at (r : RS) (k : Nat) (h : k < r.res.length) : (takenR r)[k]'(by rw [takenR_len]; exact h) = max (rload r (k : Int) false) r.res[k] := by simp [takenR, takenL, loads]
theorem rmoved_wf {r : RS} {N : Nat} (h : r.WF N) (t : Int) (ht : okTime t = true) : (rmoved r t).WF N := by
  simp only [okTime, Bool.and_eq_true, decide_eq_true_eq] at ht
  have hn := h.now
  exact ⟨h.span, by simp only [rmoved]; omega, h.len, h.res, h.total, h.past, fun p hp => by have := h.times p hp; simp only [rmoved]; omega⟩
theorem RS.WF.more {r : RS} {N : Nat} (h : r.WF N) : r.WF (N + 1) := ⟨h.span, h.now, h.len, h.res, h.total, by have := h.past; omega, h.times⟩
theorem renter_wf {r : RS} {N : Nat} (h : r.WF N) (c k : Int) : (renter r c k).2.WF (N + 1) := by
  unfold renter
  split
  · exact h.more
  · split
    · exact h.more
    · refine ⟨h.span, h.now, h.len, h.res, h.total, by simp; have := h.past; omega, fun p hp => ?_⟩
      rcases List.mem_append.1 hp with hp | hp
      · exact h.times p hp
      · simp at hp; subst hp; exact ⟨h.now.1, Int.le_refl _⟩
theorem roffer_wf {r : RS} {N : Nat} (h : r.WF N) (c k t : Int) : (roffer r c k t).2.WF (N + 1) := by
  unfold roffer
  split
  · rename_i ht; exact renter_wf (rmoved_wf h t ht) c k
  · exact h.more
theorem newRS_wf {sp tot : Int} {rs : List Int} (h : newOK sp rs tot = true) : (newRS sp rs tot).WF 0 := by
  have w := new_wf h
  exact ⟨w.span, w.now, w.len, w.res, w.total, by simp [newRS], by simp [newRS]⟩
theorem takenR_bd {r : RS} {N : Nat} (h : r.WF N) (hN : N ≤ 100000) : Bd 0 1000000 (takenR r) := fun x hx => by
  obtain ⟨k, hk, rfl⟩ := List.getElem_of_mem hx
  have hk' : k < r.res.length := by rw [← takenR_len r]; exact hk
  rw [takenR_at r k hk']
  have h1 := rload_bd r (k : Int) false
  have h2 := h.res _ (List.getElem_mem hk')
  have h3 := h.past
  omega
theorem take_step (r : RS) (k : Nat) (hk : k < r.res.length) : r.total - sumL ((takenR r).take k) - max (rload r (k : Int) false) r.res[k] = r.total - sumL ((takenR r).take (k + 1)) := by
  have := sumL_take (takenR r) k (by rw [takenR_len]; exact hk)
  rw [takenR_at r k hk] at this
  omega
theorem new_no {sp tot : Int} {rs : List Int} (k : Nat) (hk : k < rs.length) (hx : rs[k] < 0 ∨ rs[k] > tot - sumL (rs.take k)) (hp : Bd 0 4000 (rs.take k)) : newOK sp rs tot = false := by
  cases h : newOK sp rs tot with
  | false => rfl
  | true =>
    exfalso
    have w := new_wf h
    have hb : Bd 0 4000 rs := w.res
    have h1 := hb _ (List.getElem_mem hk)
    have h2 := sumL_take rs k hk
    have h3 : sumL (rs.take (k + 1)) + sumL (rs.drop (k + 1)) = sumL rs := by rw [← sumL_append, List.take_append_drop]
    have h4 := sumL_bd (l := rs.drop (k + 1)) (fun x hx => hb x (List.mem_of_mem_drop hx))
    simp only [newOK, Bool.not_eq_true', Bool.or_eq_false_iff, decide_eq_false_iff_not] at h
    omega
theorem new_args {sp tot : Int} {rs : List Int} (h : sp < 1 ∨ sp > 1000000000 ∨ (rs.length : Int) < 1 ∨ (rs.length : Int) > 8 ∨ tot < 1 ∨ tot > 4000) : newOK sp rs tot = false := by
  simp only [newOK, badN, Bool.not_eq_false', Bool.or_eq_true, decide_eq_true_eq]; omega
theorem new_yes {sp tot : Int} {rs : List Int} (h : ¬ (sp < 1 ∨ sp > 1000000000 ∨ (rs.length : Int) < 1 ∨ (rs.length : Int) > 8 ∨ tot < 1 ∨ tot > 4000)) (hb : Bd 0 4000 rs) (hs : sumL rs ≤ tot) : newOK sp rs tot = true := by
  simp only [newOK, badN, Bool.not_eq_true', Bool.or_eq_false_iff, decide_eq_false_iff_not, List.any_eq_false, Bool.or_eq_true, decide_eq_true_eq]
  have : ∀ x ∈ rs, ¬ (x < 0 ∨ x > 4000) := fun x hx => by have := hb x hx; omega
  simp only [not_or] at h
  refine ⟨⟨⟨⟨⟨⟨⟨?_, ?_⟩, ?_⟩, ?_⟩, ?_⟩, ?_, ?_⟩, this⟩, ?_⟩ <;> omega
theorem door_ok {sp a b c m : Int} (hs : 0 ≤ sp ∧ sp ≤ 255) (ha : 0 ≤ a ∧ a ≤ 255) (hb : 0 ≤ b ∧ b ≤ 255) (hc : 0 ≤ c ∧ c ≤ 255) (hm : 0 ≤ m ∧ m ≤ 255) : newOK (1 + sp % 20) [a % 6, b % 6, c % 6] (max 1 (a % 6 + b % 6 + c % 6 + m % 8)) = true := by
  refine new_yes (by simp only [List.length_cons, List.length_nil]; omega) (fun x hx => ?_) ?_
  · simp only [List.mem_cons, List.not_mem_nil, or_false] at hx; omega
  · simp only [sumL_cons, sumL_nil]; omega
theorem roffer_res (r : RS) (c k t : Int) : (roffer r c k t).2.res = r.res := by
  unfold roffer renter rmoved; repeat' split
  all_goals rfl
/-! ### door and reference agree -/
structure Sim (s : DS) (r : RS) : Prop where
  span : s.span = r.span
  now : s.now = r.now
  res : s.res = r.res
  total : s.total = r.total
  load : s.load = loads r false
  passed : s.passed = loads r true
theorem div_mono {a b c : Int} (hc : 0 < c) (h : a ≤ b) : a / c ≤ b / c := Int.ediv_le_ediv hc h
theorem rload_moved {r : RS} {N : Nat} (h : r.WF N) (t c : Int) (b : Bool) : rload (rmoved r t) c b = if max r.now t / r.span = r.now / r.span then rload r c b else 0 := by
  unfold rload
  split
  · rename_i e
    have : ∀ p, counts (rmoved r t) c b p = counts r c b p := fun p => by simp only [counts, rmoved, e]
    rw [show counts (rmoved r t) c b = counts r c b from funext this]; rfl
  · rename_i e
    have : r.past.filter (counts (rmoved r t) c b) = [] := by
      rw [List.filter_eq_nil_iff]
      intro p hp hc
      simp only [counts, rmoved, Bool.and_eq_true, beq_iff_eq] at hc
      have h1 := h.times p hp
      have hs := h.span
      have d1 := div_mono (show (0 : Int) < r.span by omega) h1.2
      have d2 := div_mono (show (0 : Int) < r.span by omega) (show r.now ≤ max r.now t by omega)
      omega
    show (((rmoved r t).past.filter _).length : Int) = 0
    simp only [rmoved] at this ⊢; rw [this]; rfl
theorem loads_moved {r : RS} {N : Nat} (h : r.WF N) (t : Int) (b : Bool) : loads (rmoved r t) b = if max r.now t / r.span = r.now / r.span then loads r b else List.replicate r.res.length 0 := by
  unfold loads
  have : ∀ i : Nat, rload (rmoved r t) (i : Int) b = if max r.now t / r.span = r.now / r.span then rload r (i : Int) b else 0 := fun i => rload_moved h t i b
  split
  · rename_i e
    simp only [this, if_pos e]; rfl
  · rename_i e
    simp only [this, if_neg e]
    apply List.ext_getElem <;> simp [rmoved]
theorem sim_moved {s : DS} {r : RS} {N : Nat} (hs : Sim s r) (h : r.WF N) (t : Int) : Sim (moved s t) (rmoved r t) := by
  unfold moved
  rw [hs.now, hs.span]
  split
  · rename_i e
    exact ⟨rfl, rfl, hs.res, hs.total, by rw [loads_moved h, if_pos e]; exact hs.load, by rw [loads_moved h, if_pos e]; exact hs.passed⟩
  · rename_i e
    exact ⟨rfl, rfl, hs.res, hs.total, by rw [loads_moved h, if_neg e, hs.res], by rw [loads_moved h, if_neg e, hs.res]⟩
theorem loads_push (r : RS) (c k : Int) (b : Bool) (hc : 0 ≤ c ∧ c < r.res.length) : loads { r with past := r.past ++ [⟨c, k, r.now⟩] } b = if b = true ∨ k = 0 then bump (loads r b) c.toNat else loads r b := by
  have hl : ∀ i : Int, rload { r with past := r.past ++ [⟨c, k, r.now⟩] } i b = rload r i b + if c = i ∧ (b = true ∨ k = 0) then 1 else 0 := fun i => by
    have e1 : counts { r with past := r.past ++ [⟨c, k, r.now⟩] } i b = counts r i b := rfl
    have e2 : counts r i b ⟨c, k, r.now⟩ = decide (c = i ∧ (b = true ∨ k = 0)) := by
      rw [Bool.eq_iff_iff]; simp [counts]
    unfold rload
    rw [e1]
    simp only [List.filter_append, List.length_append, List.filter_cons, List.filter_nil, e2]
    by_cases hh : c = i ∧ (b = true ∨ k = 0) <;> simp [hh]
  apply List.ext_getElem
  · split <;> simp [loads, bump]
  · intro i h1 h2
    simp only [loads_len] at h1
    rw [loads_at { r with past := r.past ++ [⟨c, k, r.now⟩] } b i h1, hl]
    have h3 : (loads r b)[i]'(by rw [loads_len]; exact h1) = rload r (i : Int) b := loads_at r b i h1
    by_cases hb : b = true ∨ k = 0
    · simp only [if_pos hb, bump, List.getElem_set]
      by_cases hi : c.toNat = i
      · subst hi
        rw [if_pos rfl, getD_at _ _ (by rw [loads_len]; exact h1), h3, if_pos (by constructor; omega; exact hb)]
      · rw [if_neg hi, h3, if_neg (by omega)]; omega
    · simp only [if_neg hb]
      rw [h3, if_neg (by intro ⟨_, h⟩; exact hb h)]; omega
theorem sim_enter {s : DS} {r : RS} (hs : Sim s r) (c k : Int) : (enter s c k).1 = (renter r c k).1 ∧ Sim (enter s c k).2 (renter r c k).2 := by
  unfold enter renter
  rw [hs.res]
  by_cases h1 : c < 0 ∨ c ≥ r.res.length ∨ k < 0
  · rw [if_pos h1, if_pos h1]; exact ⟨rfl, hs⟩
  · rw [if_neg h1, if_neg h1]
    have hc : 0 ≤ c ∧ c < r.res.length := by omega
    have hroom : room s c = !(decide (rload r c false ≥ r.res.getD c.toNat 0) && decide (rfree r ≤ 0)) := by
      unfold room
      rw [hs.load, hs.res, hs.total, getD_at (loads r false) c.toNat (by rw [loads_len]; omega), loads_at r false c.toNat (by omega)]
      have e1 : ((c.toNat : Nat) : Int) = c := by omega
      rw [e1]
      have e2 : decide (sumL (takenL (loads r false) r.res) ≥ r.total) = decide (rfree r ≤ 0) := by
        rw [decide_eq_decide, rfree, takenR]; omega
      rw [e2]
    have p1 := loads_push r c k true hc
    have p2 := loads_push r c k false hc
    rw [if_pos (.inl rfl)] at p1
    by_cases hk : k = 0
    · rw [if_pos hk]
      rw [if_pos (.inr hk)] at p2
      by_cases hr : room s c = true
      · rw [if_pos hr, if_neg (by rw [hroom] at hr; simp only [Bool.not_eq_true', Bool.and_eq_false_iff, decide_eq_false_iff_not] at hr; rintro ⟨_, a, b⟩; omega)]
        exact ⟨rfl, hs.span, hs.now, rfl, hs.total, by rw [p2, hs.load], by rw [p1, hs.passed]⟩
      · rw [if_neg hr, if_pos (by rw [hroom] at hr; simp only [Bool.not_eq_true', Bool.not_eq_false', Bool.not_eq_true, Bool.not_eq_false, Bool.and_eq_true, decide_eq_true_eq] at hr; exact ⟨hk, hr⟩)]
        exact ⟨rfl, hs⟩
    · rw [if_neg hk, if_neg (fun h => hk h.1)]
      rw [if_neg (by simp [hk])] at p2
      exact ⟨rfl, hs.span, hs.now, rfl, hs.total, by rw [p2]; exact hs.load, by rw [p1, hs.passed]⟩
theorem sim_offer {s : DS} {r : RS} {N : Nat} (hs : Sim s r) (h : r.WF N) (c k t : Int) : (offer s c k t).1 = (roffer r c k t).1 ∧ Sim (offer s c k t).2 (roffer r c k t).2 := by
  unfold offer roffer
  split
  · exact sim_enter (sim_moved hs h t) c k
  · exact ⟨rfl, hs⟩
theorem sim_passed {s : DS} {r : RS} (hs : Sim s r) (t : Int) : passedL s t = rpassed r t := by
  unfold passedL rpassed
  rw [hs.span, hs.now, hs.res, hs.passed]
theorem sim_new (sp tot : Int) (rs : List Int) : Sim (newDS sp rs tot) (newRS sp rs tot) := by
  have : ∀ b, List.replicate rs.length (0 : Int) = loads (newRS sp rs tot) b := fun b => by
    apply List.ext_getElem <;> simp [loads, newRS, rload]
  exact ⟨rfl, rfl, rfl, rfl, this false, this true⟩
/-! ### the laws of one door -/
def tick (s : DS) (t : Int) : DS := if okTime t = true then moved s t else s
theorem offer_no {s : DS} {c k t : Int} (h : (offer s c k t).1 = false) : (offer s c k t).2 = tick s t := by
  unfold offer tick at *
  split
  · rename_i ht
    rw [if_pos ht] at h
    unfold enter at *
    split
    · rfl
    · rename_i h1
      rw [if_neg h1] at h
      split
      · rename_i h2
        rw [if_pos h2] at h
        split
        · rename_i h3; rw [if_pos h3] at h; cases h
        · rfl
      · rename_i h2; rw [if_neg h2] at h; cases h
  · rfl
theorem offer_neg (s : DS) (t : Int) : offer s (-1) 0 t = (false, tick s t) := by
  unfold offer tick enter
  split
  · rw [if_pos (by omega)]
  · rfl
theorem moved_res (s : DS) (t : Int) : (moved s t).res = s.res := by unfold moved; split <;> rfl
theorem moved_span (s : DS) (t : Int) : (moved s t).span = s.span := by unfold moved; split <;> rfl
theorem moved_total (s : DS) (t : Int) : (moved s t).total = s.total := by unfold moved; split <;> rfl
theorem moved_now (s : DS) (t : Int) : (moved s t).now = max s.now t := by unfold moved; split <;> rfl
theorem enter_keep (s : DS) (c k : Int) : (enter s c k).2.res = s.res ∧ (enter s c k).2.span = s.span ∧ (enter s c k).2.total = s.total ∧ (enter s c k).2.now = s.now := by
  unfold enter; repeat' split
  all_goals exact ⟨rfl, rfl, rfl, rfl⟩
theorem offer_keep (s : DS) (c k t : Int) : (offer s c k t).2.res = s.res ∧ (offer s c k t).2.span = s.span ∧ (offer s c k t).2.total = s.total ∧ (offer s c k t).2.now = if okTime t = true then max s.now t else s.now := by
  unfold offer
  split
  · have h := enter_keep (moved s t) c k
    rw [moved_res, moved_span, moved_total, moved_now] at h; exact h
  · exact ⟨rfl, rfl, rfl, rfl⟩
/-- alike but for what passed with a basket -/
structure Same (s q : DS) : Prop where
  span : s.span = q.span
  now : s.now = q.now
  res : s.res = q.res
  total : s.total = q.total
  load : s.load = q.load
theorem Same.refl (s : DS) : Same s s := ⟨rfl, rfl, rfl, rfl, rfl⟩
theorem same_moved {s q : DS} (h : Same s q) (t : Int) : Same (moved s t) (moved q t) := by
  unfold moved
  rw [h.now, h.span]
  split
  · exact ⟨rfl, rfl, h.res, h.total, h.load⟩
  · exact ⟨rfl, rfl, h.res, h.total, by simp [h.res]⟩
theorem same_room {s q : DS} (h : Same s q) (c : Int) : room s c = room q c := by unfold room; rw [h.load, h.res, h.total]
theorem apart_basket {s q : DS} (h : Same s q) (c k t : Int) (hk : k ≠ 0) : Same (offer s c k t).2 (tick q t) := by
  unfold offer tick
  split
  · have hm := same_moved h t
    unfold enter
    split
    · exact hm
    · exact ⟨hm.span, hm.now, hm.res, hm.total, hm.load⟩
  · exact h
theorem apart_plain {s q : DS} (h : Same s q) (c t : Int) : (offer s c 0 t).1 = (offer q c 0 t).1 ∧ Same (offer s c 0 t).2 (offer q c 0 t).2 := by
  unfold offer
  split
  · have hm := same_moved h t
    unfold enter
    rw [hm.res]
    split
    · exact ⟨rfl, hm⟩
    · rw [if_pos rfl, if_pos rfl, same_room hm]
      split
      · exact ⟨rfl, hm.span, hm.now, rfl, hm.total, by simp [hm.load]⟩
      · exact ⟨rfl, hm⟩
  · exact ⟨rfl, h⟩
/-! a new span -/
theorem moved_fresh {s q : DS} {t : Int} (hs : s.span = q.span) (hr : s.res = q.res) (htot : s.total = q.total) (h1 : s.now ≤ t) (h2 : q.now ≤ t) (d1 : s.now / s.span ≠ t / s.span) (d2 : q.now / s.span ≠ t / s.span) : moved s t = moved q t := by
  unfold moved
  have m1 : max s.now t = t := by omega
  have m2 : max q.now t = t := by omega
  rw [m1, m2, ← hs, if_neg (fun e => d1 e.symm), if_neg (fun e => d2 e.symm)]
  cases s; cases q; simp only at hs hr htot ⊢; subst hs; subst hr; subst htot; rfl
theorem offer_fresh {s q : DS} {t : Int} (ht : okTime t = true) (h : moved s t = moved q t) (c k : Int) : offer s c k t = offer q c k t := by
  unfold offer; rw [if_pos ht, if_pos ht, h]
theorem passed_after (s : DS) (c k t : Int) (u : Int) : True := trivial
/-! sums -/
theorem sumL_set (l : List Int) (k : Nat) (x : Int) (h : k < l.length) : sumL (l.set k x) = sumL l - l[k] + x := by
  have e1 : l = l.take k ++ l[k] :: l.drop (k + 1) := by rw [List.getElem_cons_drop, List.take_append_drop]
  have e2 : l.set k x = l.take k ++ x :: l.drop (k + 1) := by rw [List.set_eq_take_append_cons_drop, if_pos h]
  have e3 := congrArg sumL e1
  rw [sumL_append, sumL_cons] at e3
  rw [e2, sumL_append, sumL_cons]; omega
theorem sumL_bump (l : List Int) (k : Nat) (h : k < l.length) : sumL (bump l k) = sumL l + 1 := by
  rw [bump_at l k h, sumL_set l k _ h]; omega
theorem taken_bump (l r : List Int) (k : Nat) (h : k < l.length) (h2 : k < r.length) : takenL (bump l k) r = (takenL l r).set k (max (l[k] + 1) r[k]) := by
  rw [bump_at l k h]
  apply List.ext_getElem?
  intro i
  simp only [takenL, List.getElem?_zipWith, List.getElem?_set, List.length_zipWith]
  by_cases hi : k = i
  · subst hi; simp [h, h2]; omega
  · simp [hi]
theorem sum_taken_bump (l r : List Int) (k : Nat) (h : k < l.length) (h2 : k < r.length) : sumL (takenL (bump l k) r) = sumL (takenL l r) + if l[k] < r[k] then 0 else 1 := by
  have hl : k < (takenL l r).length := by simp [takenL]; omega
  rw [taken_bump l r k h h2, sumL_set _ _ _ hl]
  have : (takenL l r)[k] = max l[k] r[k] := by simp [takenL]
  rw [this]
  split <;> omega
theorem sum_le_taken : ∀ (l r : List Int), l.length = r.length → sumL l ≤ sumL (takenL l r)
  | [], _, _ => by simp [takenL, sumL_nil]
  | x :: l, [], h => by simp at h
  | x :: l, y :: r, h => by
    have := sum_le_taken l r (by simpa using h)
    simp only [takenL, List.zipWith_cons_cons, sumL_cons] at this ⊢
    omega
/-- all that is taken is within the total -/
def Fits (s : DS) : Prop := sumL (takenL s.load s.res) ≤ s.total
theorem fits_zero {s : DS} {N : Nat} (h : s.WF N) (hf : sumL s.res ≤ s.total) (h0 : s.load = List.replicate s.res.length 0) : Fits s := by
  have : takenL s.load s.res = s.res := by
    apply List.ext_getElem
    · simp [takenL, h0]
    · intro i h1 h2
      have := h.res _ (List.getElem_mem h2)
      simp [takenL, h0]; omega
  unfold Fits; rw [this]; exact hf
theorem fits_moved {s : DS} {N : Nat} (h : s.WF N) (hf : sumL s.res ≤ s.total) (hs : Fits s) (t : Int) (ht : okTime t = true) : Fits (moved s t) := by
  by_cases hc : max s.now t / s.span = s.now / s.span
  · unfold moved; rw [if_pos hc]; exact hs
  · refine fits_zero (moved_wf h t ht) (by rw [moved_res, moved_total]; exact hf) ?_
    unfold moved; rw [if_neg hc]
theorem fits_enter {s : DS} {N : Nat} (h : s.WF N) (hs : Fits s) (c k : Int) : Fits (enter s c k).2 := by
  unfold enter
  split
  · exact hs
  · rename_i h1
    have hl := h.ll
    split
    · split
      · rename_i hr
        unfold Fits at hs ⊢
        rw [room_at s c (by omega) (by omega)] at hr
        simp only
        rw [sum_taken_bump _ _ _ (by omega) (by omega)]
        simp only [Bool.not_eq_true', Bool.and_eq_false_iff, decide_eq_false_iff_not] at hr
        split <;> omega
      · exact hs
    · exact hs
theorem fits_offer {s : DS} {N : Nat} (h : s.WF N) (hf : sumL s.res ≤ s.total) (hs : Fits s) (c k t : Int) : Fits (offer s c k t).2 := by
  unfold offer
  split
  · rename_i ht; exact fits_enter (moved_wf h t ht) (fits_moved h hf hs t ht) c k
  · exact hs
/-- m counts, for each span, what passed without a basket -/
def Counted (s : DS) (m : Int → Option Int) : Prop := (m (s.now / s.span)).getD 0 = sumL s.load ∧ ∀ q, s.now / s.span < q → m q = none
theorem sumL_rep (n : Nat) : sumL (List.replicate n 0) = 0 := by
  induction n with
  | zero => rfl
  | succ n ih => rw [List.replicate_succ, sumL_cons, ih]; rfl
theorem counted_moved {s : DS} {N : Nat} {m : Int → Option Int} (h : s.WF N) (hc : Counted s m) (t : Int) : Counted (moved s t) m := by
  have hs := h.span
  have d := div_mono (show (0 : Int) < s.span by omega) (show s.now ≤ max s.now t by omega)
  unfold moved
  split
  · rename_i e
    refine ⟨?_, fun q hq => ?_⟩
    · simp only; rw [e]; exact hc.1
    · simp only at hq; rw [e] at hq; exact hc.2 q hq
  · rename_i e
    refine ⟨?_, fun q hq => hc.2 q (by simp only at hq; omega)⟩
    simp only
    rw [hc.2 _ (by omega), sumL_rep]; rfl
theorem good_iff (x : Ask) : goodAsk x = true ↔ (0 ≤ x.cls ∧ x.cls < 3 ∧ 0 ≤ x.basket ∧ 0 ≤ x.now ∧ x.now ≤ 1000000000) := by
  simp only [goodAsk, Bool.and_eq_true, decide_eq_true_eq]; omega
theorem ok_iff (t : Int) : okTime t = true ↔ 0 ≤ t ∧ t ≤ 1000000000 := by
  simp only [okTime, Bool.and_eq_true, decide_eq_true_eq, ge_iff_le]
theorem offer_good {s : DS} {x : Ask} (h3 : s.res.length = 3) (h : (offer s x.cls x.basket x.now).1 = true) : goodAsk x = true := by
  rw [good_iff]
  unfold offer at h
  split at h
  · rename_i ht
    rw [ok_iff] at ht
    unfold enter at h
    rw [moved_res, h3] at h
    split at h
    · cases h
    · omega
  · cases h
theorem offer_basket {s : DS} {x : Ask} (h3 : s.res.length = 3) (hb : x.basket > 0) (h : goodAsk x = true) : (offer s x.cls x.basket x.now).1 = true := by
  rw [good_iff] at h
  unfold offer
  rw [if_pos ((ok_iff _).2 (by omega))]
  unfold enter
  rw [moved_res, h3, if_neg (by omega), if_neg (by omega)]
theorem counted_pass {s : DS} {N : Nat} {m : Int → Option Int} (h : s.WF N) (hc : Counted s m) (c t : Int) (hp : (offer s c 0 t).1 = true) :
    okTime t = true ∧ sumL (offer s c 0 t).2.load = (m (max s.now t / s.span)).getD 0 + 1 ∧ Counted (offer s c 0 t).2 (fun x => if x = max s.now t / s.span then some ((m (max s.now t / s.span)).getD 0 + 1) else m x) := by
  unfold offer at hp ⊢
  split at hp
  · rename_i ht
    rw [if_pos ht]
    have hm := counted_moved h hc t
    have hw := moved_wf h t ht
    have hll := hw.ll
    unfold enter at hp ⊢
    split at hp
    · cases hp
    · rename_i h1
      rw [if_neg h1, if_pos rfl]
      rw [if_pos rfl] at hp
      split at hp
      · rename_i hr
        rw [if_pos hr]
        have hs1 := hm.1
        rw [moved_now, moved_span] at hs1
        have hsum := sumL_bump (moved s t).load c.toNat (by omega)
        refine ⟨ht, by simp only; rw [hsum, hs1], ?_, fun q hq => ?_⟩
        · simp only [moved_now, moved_span, if_true]; rw [hsum, hs1]; rfl
        · simp only [moved_now, moved_span] at hq ⊢
          rw [if_neg (by omega)]
          exact hm.2 q (by rw [moved_now, moved_span]; exact hq)
      · cases hp
  · cases hp
theorem counted_else {s : DS} {N : Nat} {m : Int → Option Int} (h : s.WF N) (hc : Counted s m) (c k t : Int) (hp : (offer s c k t).1 = false ∨ k ≠ 0) : Counted (offer s c k t).2 m := by
  unfold offer at hp ⊢
  split
  · rename_i ht
    rw [if_pos ht] at hp
    have hm := counted_moved h hc t
    unfold enter at hp ⊢
    split
    · exact hm
    · rename_i h1
      rw [if_neg h1] at hp
      split
      · rename_i hk
        split
        · rename_i hr
          rw [if_pos hk, if_pos hr] at hp
          rcases hp with hp | hp
          · cases hp
          · exact absurd hk hp
        · exact hm
      · exact hm
  · exact hc
def OfD (s : DS) (sp : Int) (rs : List Int) (tot : Int) : Prop := s.span = sp ∧ s.res = rs ∧ s.total = tot
theorem of_offer {s : DS} {sp tot : Int} {rs : List Int} (h : OfD s sp rs tot) (c k t : Int) : OfD (offer s c k t).2 sp rs tot := by
  obtain ⟨h1, h2, h3, _⟩ := offer_keep s c k t
  exact ⟨h2.trans h.1, h1.trans h.2.1, h3.trans h.2.2⟩
theorem of_new (sp tot : Int) (rs : List Int) : OfD (newDS sp rs tot) sp rs tot := ⟨rfl, rfl, rfl⟩
theorem tick_eq (s : DS) (t : Int) : tick s t = (offer s (-1) 0 t).2 := by rw [offer_neg]
theorem pass_count {s : DS} {N : Nat} {m : Int → Option Int} (h : s.WF N) (hf : sumL s.res ≤ s.total) (hft : Fits s) (hc : Counted s m) (c t : Int) (hp : (offer s c 0 t).1 = true) :
    (m ((offer s c 0 t).2.now / (offer s c 0 t).2.span)).getD 0 + 1 ≤ s.total ∧ 0 ≤ (m ((offer s c 0 t).2.now / (offer s c 0 t).2.span)).getD 0 ∧ Counted (offer s c 0 t).2 (fun x => if x = (offer s c 0 t).2.now / (offer s c 0 t).2.span then some ((m ((offer s c 0 t).2.now / (offer s c 0 t).2.span)).getD 0 + 1) else m x) := by
  obtain ⟨h1, h2, h3⟩ := counted_pass h hc c t hp
  obtain ⟨k1, k2, k3, k4⟩ := offer_keep s c 0 t
  rw [if_pos h1] at k4
  have hfit := fits_offer h hf hft c 0 t
  have hw := offer_wf h c 0 t
  have hle := sum_le_taken (offer s c 0 t).2.load (offer s c 0 t).2.res (hw.ll)
  have hnn := sumL_bd hw.load
  have hpos : 1 ≤ sumL (offer s c 0 t).2.load := by
    have hm := counted_moved h hc t
    have hmw := moved_wf h t h1
    have h0 := sumL_bd hmw.load
    have e1 := hm.1
    rw [moved_now, moved_span] at e1
    omega
  unfold Fits at hfit
  rw [k1] at hfit hle
  rw [k4, k2]
  rw [k3] at hfit
  exact ⟨by omega, by omega, h3⟩
theorem pass_countk {s : DS} {N : Nat} {m : Int → Option Int} (h : s.WF N) (hf : sumL s.res ≤ s.total) (hft : Fits s) (hc : Counted s m) (c k t : Int) (hk : k = 0) (hp : (offer s c k t).1 = true) :
    (m ((offer s c k t).2.now / (offer s c k t).2.span)).getD 0 + 1 ≤ s.total ∧ 0 ≤ (m ((offer s c k t).2.now / (offer s c k t).2.span)).getD 0 ∧ Counted (offer s c k t).2 (fun x => if x = (offer s c k t).2.now / (offer s c k t).2.span then some ((m ((offer s c k t).2.now / (offer s c k t).2.span)).getD 0 + 1) else m x) := by
  subst hk; exact pass_count h hf hft hc c t hp
theorem offer_tick_eq {s : DS} {c k t : Int} (h : (offer s c k t).1 = false) : (offer s c k t).2 = (offer s (-1) 0 t).2 := by rw [offer_no h, offer_neg]
theorem apart_basket' {s q : DS} (h : Same s q) (c k t : Int) (hk : k ≠ 0) : Same (offer s c k t).2 (offer q (-1) 0 t).2 := by rw [offer_neg]; exact apart_basket h c k t hk
theorem apart_plain' {s q : DS} (h : Same s q) (c k t : Int) (hk : k = 0) : (offer s c k t).1 = (offer q c 0 t).1 ∧ Same (offer s c k t).2 (offer q c 0 t).2 := by subst hk; exact apart_plain h c t
/-- from start on, for one width, both doors are the same as soon as the time is known -/
def Alike (s q : DS) (a b : Int) : Prop := ∀ t, a ≤ t → t < b → moved s t = moved q t
theorem alike_refl (s : DS) (a b : Int) : Alike s s a b := fun _ _ _ => rfl
theorem alike_new {s q : DS} {sp tot : Int} {rs : List Int} (h1 : OfD s sp rs tot) (h2 : OfD q sp rs tot) (hsp : 1 ≤ sp) (hs : s.now < 50 * sp) (hq : q.now < 50 * sp) : Alike s q (50 * sp) (50 * sp + sp) := fun t ha hb => by
  have ht : t / sp = 50 := by
    have e1 := Int.mul_ediv_add_emod t sp
    have e2 := Int.emod_nonneg t (show sp ≠ 0 by omega)
    have e3 := Int.emod_lt_of_pos t (show 0 < sp by omega)
    have l1 : 50 ≤ t / sp := (Int.le_ediv_iff_mul_le (by omega)).2 (by omega)
    have l2 : t / sp < 51 := Int.ediv_lt_of_lt_mul (by omega) (by omega)
    omega
  have hs' : s.now / sp < 50 := Int.ediv_lt_of_lt_mul (by omega) (by omega)
  have hq' : q.now / sp < 50 := Int.ediv_lt_of_lt_mul (by omega) (by omega)
  refine moved_fresh (h1.1.trans h2.1.symm) (h1.2.1.trans h2.2.1.symm) (h1.2.2.trans h2.2.2.symm) (by omega) (by omega) ?_ ?_
  · rw [h1.1]; omega
  · rw [h1.1]; omega
theorem alike_offer {s q : DS} {a b : Int} (h : Alike s q a b) (t c k : Int) (h1 : a ≤ t) (h2 : t < b) (ht : 0 ≤ t ∧ t ≤ 1000000000) : offer s c k t = offer q c k t := offer_fresh ((ok_iff t).2 ht) (h t h1 h2) c k
theorem offer_now {s : DS} {b : Int} (c k t : Int) (h : s.now < b) (ht : t < b) : (offer s c k t).2.now < b := by
  rw [(offer_keep s c k t).2.2.2]
  split <;> omega
theorem WF.mono {s : DS} {N M : Nat} (h : s.WF N) (hn : N ≤ M) : s.WF M := ⟨h.span, h.now, h.len, h.ll, h.lp, h.res, h.total, h.load.wide (Int.le_refl _) (by omega), h.passed.wide (Int.le_refl _) (by omega)⟩
theorem start_range {sp x : Int} (h : 1 ≤ sp) : 50 * sp ≤ 50 * sp + max 0 x % sp ∧ 50 * sp + max 0 x % sp < 50 * sp + sp := by
  have e2 := Int.emod_nonneg (max 0 x) (show sp ≠ 0 by omega)
  have e3 := Int.emod_lt_of_pos (max 0 x) (show 0 < sp by omega)
  omega
/-! one span, no baskets -/
theorem sum3 (l r : List Int) (h1 : l.length = 3) (h2 : r.length = 3) : sumL (takenL l r) = max l[0] r[0] + max l[1] r[1] + max l[2] r[2] := by
  match l, r, h1, h2 with
  | [a, b, c], [x, y, z], _, _ => simp [takenL, sumL_cons, sumL_nil]; omega
theorem still_span {s : DS} (hsp : s.span = 20) (hn : 0 ≤ s.now ∧ s.now < 20) (t : Int) (ht : 0 ≤ t ∧ t < 20) : moved s t = { s with now := max s.now t } := by
  unfold moved
  rw [hsp, if_pos (by omega)]
theorem offer_still {s : DS} {N : Nat} (h : s.WF N) (hsp : s.span = 20) (hn : 0 ≤ s.now ∧ s.now < 20) (h3 : s.res.length = 3) (c t : Int) (hc : 0 ≤ c ∧ c < 3) (ht : 0 ≤ t ∧ t < 20) :
    offer s c 0 t = (room s c, if room s c = true then { s with now := max s.now t, load := bump s.load c.toNat, passed := bump s.passed c.toNat } else { s with now := max s.now t }) := by
  unfold offer
  rw [if_pos ((ok_iff t).2 (by omega)), still_span hsp hn t ht]
  unfold enter
  have : room { s with now := max s.now t } c = room s c := rfl
  rw [this]
  simp only [h3]
  rw [if_neg (by omega), if_pos trivial]
  by_cases hr : room s c = true
  · rw [if_pos hr, if_pos hr, hr]
  · rw [if_neg hr, if_neg hr]; simp at hr; rw [hr]
def Still (s : DS) (res : List Int) (tot : Int) : Prop := s.span = 20 ∧ (0 ≤ s.now ∧ s.now < 20) ∧ s.res = res ∧ s.total = tot ∧ s.passed = s.load
theorem still_step {s : DS} {N : Nat} {res : List Int} {tot : Int} (h : s.WF N) (hs : Still s res tot) (h3 : res.length = 3) (c t : Int) (hc : 0 ≤ c ∧ c < 3) (ht : 0 ≤ t ∧ t < 20) :
    (offer s c 0 t).1 = room s c ∧ Still (offer s c 0 t).2 res tot ∧ (offer s c 0 t).2.load = if room s c = true then bump s.load c.toNat else s.load := by
  obtain ⟨h1, h2, h4, h5, h6⟩ := hs
  have e := offer_still h h1 h2 (by rw [h4]; exact h3) c t hc ht
  rw [e]
  refine ⟨rfl, ?_, ?_⟩
  · by_cases hr : room s c = true
    · simp only [if_pos hr]; exact ⟨h1, by simp only; omega, h4, h5, by simp only [h6]⟩
    · simp only [if_neg hr]; exact ⟨h1, by simp only; omega, h4, h5, h6⟩
  · by_cases hr : room s c = true
    · simp only [if_pos hr]
    · simp only [if_neg hr]
theorem still_passed {s : DS} {res : List Int} {tot : Int} (hs : Still s res tot) : passedL s 0 = s.load := by
  obtain ⟨h1, h2, h4, h5, h6⟩ := hs
  unfold passedL
  rw [if_pos (by decide), h1, if_pos (by omega), h6]
theorem still_room (s : DS) (h1 : s.load.length = 3) (h2 : s.res.length = 3) (c : Nat) (hc : c < 3) : room s (c : Int) = (decide (s.load[c] < s.res[c]) || decide (max s.load[0] s.res[0] + max s.load[1] s.res[1] + max s.load[2] s.res[2] < s.total)) := by
  rw [room_at s _ (by simpa using (by omega : c < s.load.length)) (by simpa using (by omega : c < s.res.length))]
  simp only [Int.toNat_natCast]
  rw [sum3 _ _ h1 h2, Bool.eq_iff_iff]
  simp only [Bool.not_eq_true', Bool.and_eq_false_iff, decide_eq_false_iff_not, Bool.or_eq_true, decide_eq_true_eq]
  omega
theorem sum_new {sp tot : Int} {rs : List Int} (h : newOK sp rs tot = true) : sumL (newDS sp rs tot).res ≤ (newDS sp rs tot).total := by
  simp only [newOK, Bool.not_eq_true', Bool.or_eq_false_iff, decide_eq_false_iff_not] at h
  simp only [newDS]; omega
theorem fits_new {sp tot : Int} {rs : List Int} (h : newOK sp rs tot = true) : Fits (newDS sp rs tot) := fits_zero (new_wf h) (sum_new h) rfl
theorem counted_new (sp tot : Int) (rs : List Int) : Counted (newDS sp rs tot) (fun _ => none) := ⟨by simp [newDS, sumL_rep], fun _ _ => rfl⟩
end Go.Proofs.Ytojmagbonbcffaa
