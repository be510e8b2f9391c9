/- Plain definitions and laws for layer 21: waiting rooms. No program in sight. No condition. -/
import Derived.Test.YtgplcgfdaoenfaaGwRows
namespace Go.Proofs.Ytgplcgfdaoenfaa
open Go Go.Gw
set_option linter.unusedVariables false
set_option linter.unusedSimpArgs false
def encI (n : Int) : List Value := [.int .i64 n]
abbrev kI : Int → Value := fun n => .int .i64 n
structure Op where
  out : Bool
  i : Int
  now : Int
def Op.enc (o : Op) : List Value := [.bool o.out, .int .i64 o.i, .int .i64 o.now]
structure RM where
  order : List Int
  width : Int
  span : Int
  from_ : Int
  st : Int → Option Int
  nst : Nat
  pl : Int → Option Int
  npl : Nat
  served : List Int
def RM.at_ (r : RM) (i : Int) : Int := (r.st i).getD 0
def RM.call (r : RM) (k : Int) : Int := r.from_ + k / r.width * r.span
structure Nums (order : List Int) (width span from_ : Int) : Prop where
  len : order.length ≤ 4000
  width : 1 ≤ width ∧ width ≤ 4000
  span : 1 ≤ span ∧ span ≤ 1000000
  from_ : 0 ≤ from_ ∧ from_ ≤ 1000000000
structure RM.WF (r : RM) (N : Nat) : Prop where
  nums : Nums r.order r.width r.span r.from_
  nodup : r.order.Nodup
  nonneg : ∀ i ∈ r.order, 0 ≤ i
  mem : ∀ i, r.at_ i ≠ 0 ↔ i ∈ r.order
  vals : ∀ i, 0 ≤ r.at_ i ∧ r.at_ i ≤ 3
  place : ∀ k (h : k < r.order.length), r.pl r.order[k] = some (k : Int)
  noplace : ∀ i, i ∉ r.order → r.pl i = none
  served : r.served.length ≤ N
theorem div_mul_bd {k w s : Int} (hk : 0 ≤ k ∧ k ≤ 4000) (hw : 1 ≤ w) (hs : 1 ≤ s ∧ s ≤ 1000000) : 0 ≤ k / w ∧ k / w ≤ 4000 ∧ 0 ≤ k / w * s ∧ k / w * s ≤ 4000000000 := by
  have h1 : 0 ≤ k / w := Int.ediv_nonneg hk.1 (by omega)
  have h2 : k / w ≤ k := Int.ediv_le_self w hk.1
  have h3 : 0 ≤ k / w * s := Int.mul_nonneg h1 (by omega)
  have h4 : k / w * s ≤ 4000 * 1000000 := Int.mul_le_mul (by omega) hs.2 (by omega) (by omega)
  exact ⟨h1, by omega, h3, by omega⟩
theorem call_mono (r : RM) {N : Nat} (h : r.WF N) {j k : Int} (hj : 0 ≤ j) (hjk : j ≤ k) : r.call j ≤ r.call k := by
  have hn := h.nums
  have h1 : j / r.width ≤ k / r.width := Int.ediv_le_ediv (by have := hn.width; omega) hjk
  have h2 : j / r.width * r.span ≤ k / r.width * r.span := Int.mul_le_mul_of_nonneg_right h1 (by have := hn.span; omega)
  unfold RM.call; omega
def waits (r : RM) (i : Int) : Bool := r.at_ i == 1
/-- who is called: those that wait, up to the first one whose time has not come -/
def calledGo (r : RM) (now : Int) : List Int → Nat → List Int
  | [], _ => []
  | i :: l, k => if r.call (k : Int) > now then [] else if waits r i = true then i :: calledGo r now l (k + 1) else calledGo r now l (k + 1)
def called (r : RM) (now : Int) : List Int := calledGo r now r.order 0
theorem calledGo_stop (r : RM) (now : Int) : ∀ (l : List Int) (k j : Nat), j ≤ l.length → (∀ q, q < j → r.call ((k + q : Nat) : Int) ≤ now) → (j = l.length ∨ r.call ((k + j : Nat) : Int) > now) → calledGo r now l k = (l.take j).filter (waits r)
  | [], k, j, hj, _, _ => by simp [calledGo]
  | i :: l, k, 0, hj, _, hs => by
    rcases hs with hs | hs
    · simp at hs
    · simp only [calledGo]; rw [if_pos (by simpa using hs)]; simp
  | i :: l, k, j + 1, hj, hq, hs => by
    have h0 := hq 0 (by omega)
    have ih := calledGo_stop r now l (k + 1) j (by simpa using hj) (fun q h => by have := hq (q + 1) (by omega); rw [show k + 1 + q = k + (q + 1) by omega]; exact this) (by
      rcases hs with hs | hs
      · left; simpa using hs
      · right; rw [show k + 1 + j = k + (j + 1) by omega]; exact hs)
    simp only [calledGo, ih, List.take_succ_cons, List.filter_cons]
    rw [if_neg (by simp only [Nat.add_zero] at h0; omega)]
theorem called_stop (r : RM) (now : Int) (j : Nat) (hj : j ≤ r.order.length) (hq : ∀ q : Nat, q < j → r.call (q : Int) ≤ now) (hs : j = r.order.length ∨ r.call (j : Int) > now) : called r now = (r.order.take j).filter (waits r) :=
  calledGo_stop r now r.order 0 j hj (fun q h => by simpa using hq q h) (by simpa using hs)
/-- with the times going up, who is called is found by every time -/
theorem called_eq {r : RM} {N : Nat} (h : r.WF N) (now : Int) : called r now = (r.order.zipIdx.filter (fun p => decide (r.call (p.2 : Int) ≤ now) && waits r p.1)).map (·.1) := by
  have key : ∀ (l : List Int) (k : Nat), calledGo r now l k = ((l.zipIdx k).filter (fun p => decide (r.call (p.2 : Int) ≤ now) && waits r p.1)).map (·.1) := by
    intro l
    induction l with
    | nil => intro k; simp [calledGo]
    | cons i l ih =>
      intro k
      simp only [calledGo, List.zipIdx_cons, List.filter_cons]
      by_cases hc : r.call (k : Int) > now
      · rw [if_pos hc]
        have hno : ∀ (l : List Int) (j : Nat), k ≤ j → ((l.zipIdx j).filter (fun p => decide (r.call (p.2 : Int) ≤ now) && waits r p.1)) = [] := by
          intro l
          induction l with
          | nil => intro j _; rfl
          | cons x l ih2 =>
            intro j hj
            have hm := call_mono r h (j := (k : Int)) (k := (j : Int)) (by omega) (by omega)
            simp only [List.zipIdx_cons, List.filter_cons]
            rw [if_neg (by simp; intro h; omega), ih2 (j + 1) (by omega)]
        rw [if_neg (by simp; intro h; omega), hno l (k + 1) (by omega)]; rfl
      · rw [if_neg hc, ih (k + 1)]
        have hd : decide (r.call (k : Int) ≤ now) = true := by simp; omega
        simp only [hd, Bool.true_and]
        split <;> rfl
  exact key r.order 0
def readyE (r : RM) (i : Int) : Int := if r.at_ i = 0 then 11 else if r.at_ i ≠ 1 then 12 else 0
def earlyE (r : RM) (i now : Int) : Int := if r.call ((r.pl i).getD 0) > now then 18 else 0
def setSt (r : RM) (i s : Int) : RM := { r with st := upd r.st i s, nst := if (r.st i).isSome = true then r.nst else r.nst + 1 }
def serve (r : RM) (i now : Int) : Int × RM := if readyE r i ≠ 0 then (readyE r i, r) else if earlyE r i now ≠ 0 then (earlyE r i now, r) else (0, { setSt r i 2 with served := r.served ++ [i] })
def leave (r : RM) (i : Int) : Int × RM := if readyE r i ≠ 0 then (readyE r i, r) else (0, setSt r i 3)
/-- the first check that fails -/
def firstE : List Int → Int
  | [] => 0
  | e :: r => if e ≠ 0 then e else firstE r
theorem firstE_zero : ∀ (l : List Int), (∀ e ∈ l, e = 0) → firstE l = 0
  | [], _ => rfl
  | e :: r, h => by simp only [firstE, h e (by simp), ne_eq, not_true_eq_false, if_false]; exact firstE_zero r (fun x hx => h x (by simp [hx]))
theorem firstE_at : ∀ (l : List Int) (k : Nat) (hk : k < l.length), (∀ j (h : j < k), l[j]'(by omega) = 0) → l[k] ≠ 0 → firstE l = l[k]
  | [], k, hk, _, _ => by simp at hk
  | e :: r, 0, _, _, h => by simp at h; simp [firstE, h]
  | e :: r, k + 1, hk, h0, h => by
    have he : e = 0 := h0 0 (by omega)
    have := firstE_at r k (by simpa using hk) (fun j hj => by have := h0 (j + 1) (by omega); simpa using this) (by simpa using h)
    simp only [firstE, he, ne_eq, not_true_eq_false, if_false, List.getElem_cons_succ]; exact this
theorem firstE_one (a : Int) : firstE [a] = a := by simp only [firstE]; split; rfl; rename_i h; simpa using Eq.symm (by simpa using h)
theorem firstE_two (a b : Int) : firstE [a, b] = if a ≠ 0 then a else b := by
  simp only [firstE]
  split
  · rfl
  · split
    · rfl
    · rename_i h; simp at h; exact h.symm
theorem serve_eq (r : RM) (i now : Int) : (serve r i now).1 = firstE [readyE r i, earlyE r i now] ∧ (serve r i now).2 = if firstE [readyE r i, earlyE r i now] = 0 then { setSt r i 2 with served := r.served ++ [i] } else r := by
  rw [firstE_two]; unfold serve
  by_cases h1 : readyE r i ≠ 0
  · rw [if_pos h1, if_pos h1, if_neg h1]; exact ⟨rfl, rfl⟩
  · rw [if_neg h1, if_neg h1]
    by_cases h2 : earlyE r i now ≠ 0
    · rw [if_pos h2, if_neg h2]; exact ⟨rfl, rfl⟩
    · rw [if_neg h2, if_pos (by simpa using h2)]; exact ⟨by simp at h2; exact h2.symm, rfl⟩
theorem leave_eq (r : RM) (i : Int) : (leave r i).1 = firstE [readyE r i] ∧ (leave r i).2 = if firstE [readyE r i] = 0 then setSt r i 3 else r := by
  rw [firstE_one]; unfold leave
  by_cases h1 : readyE r i ≠ 0
  · rw [if_pos h1, if_neg h1]; exact ⟨rfl, rfl⟩
  · rw [if_neg h1, if_pos (by simpa using h1)]; exact ⟨by simpa using Eq.symm (by simpa using h1), rfl⟩
/-- the place map of the first k of a list, laid one after the other -/
def placeOf (l : List Int) : Nat → (Int → Option Int)
  | 0 => fun _ => none
  | k + 1 => fun x => if h : k < l.length then upd (placeOf l k) l[k] (k : Int) x else placeOf l k x
def stateOf (l : List Int) : Nat → (Int → Option Int)
  | 0 => fun _ => none
  | k + 1 => fun x => if h : k < l.length then upd (stateOf l k) l[k] 1 x else stateOf l k x
theorem stateOf_step (l : List Int) (k : Nat) (h : k < l.length) : stateOf l (k + 1) = upd (stateOf l k) l[k] 1 := by
  funext x; simp only [stateOf, dif_pos h]
theorem placeOf_step (l : List Int) (k : Nat) (h : k < l.length) : placeOf l (k + 1) = upd (placeOf l k) l[k] (k : Int) := by
  funext x; simp only [placeOf, dif_pos h]
theorem stateOf_val (l : List Int) : ∀ (k : Nat) (x : Int), k ≤ l.length → stateOf l k x = if x ∈ l.take k then some 1 else none
  | 0, x, _ => by simp [stateOf]
  | k + 1, x, hk => by
    rw [stateOf_step l k (by omega), List.take_succ_eq_append_getElem (by omega)]
    unfold upd
    rw [stateOf_val l k x (by omega)]
    by_cases hx : x = l[k]
    · rw [if_pos hx, if_pos (by rw [hx]; exact List.mem_append_right _ (List.mem_singleton.2 rfl))]
    · rw [if_neg hx]
      have e : (x ∈ l.take k ++ [l[k]]) ↔ x ∈ l.take k := by
        rw [List.mem_append, List.mem_singleton]
        exact ⟨fun h => h.elim id (fun h => absurd h hx), .inl⟩
      simp only [e]
theorem placeOf_none (l : List Int) : ∀ (k : Nat) (x : Int), k ≤ l.length → x ∉ l.take k → placeOf l k x = none
  | 0, x, _, _ => rfl
  | k + 1, x, hk, hx => by
    rw [List.take_succ_eq_append_getElem (by omega)] at hx
    simp only [List.mem_append, List.mem_cons, List.not_mem_nil, or_false, not_or] at hx
    rw [placeOf_step l k (by omega), upd_ne _ _ hx.2]
    exact placeOf_none l k x (by omega) hx.1
theorem placeOf_at (l : List Int) (hn : l.Nodup) : ∀ (k j : Nat) (hk : k ≤ l.length) (hj : j < k), placeOf l k (l[j]'(by omega)) = some (j : Int)
  | 0, j, _, hj => by omega
  | k + 1, j, hk, hj => by
    rw [placeOf_step l k (by omega)]
    by_cases hjk : j = k
    · subst hjk; exact upd_same _ _ _
    · have hne : l[j]'(by omega) ≠ l[k]'(by omega) := fun e => hjk ((List.getElem_inj hn).1 e)
      rw [upd_ne _ _ hne]
      exact placeOf_at l hn k j (by omega) (by omega)
def badArgs (order : List Int) (width span from_ : Int) : Bool := decide ((order.length : Int) > 4000) || decide (width < 1) || decide (width > 4000) || decide (span < 1) || decide (span > 1000000) || decide (from_ < 0) || decide (from_ > 1000000000)
def newOK (order : List Int) (width span from_ : Int) : Bool := !badArgs order width span from_ && (order.all (fun i => decide (0 ≤ i)) && decide order.Nodup)
def newRM (order : List Int) (width span from_ : Int) : RM := ⟨order, width, span, from_, stateOf order order.length, order.length, placeOf order order.length, order.length, []⟩
theorem nums_of {order : List Int} {width span from_ : Int} (h : badArgs order width span from_ = false) : Nums order width span from_ := by
  simp only [badArgs, Bool.or_eq_false_iff, decide_eq_false_iff_not] at h
  constructor <;> omega
theorem new_wf {order : List Int} {width span from_ : Int} (h : newOK order width span from_ = true) : (newRM order width span from_).WF 0 := by
  simp only [newOK, Bool.and_eq_true, Bool.not_eq_true', decide_eq_true_eq, List.all_eq_true] at h
  obtain ⟨h1, h2, h3⟩ := h
  have hst : ∀ i, (newRM order width span from_).at_ i = if i ∈ order then 1 else 0 := fun i => by
    simp only [RM.at_, newRM]
    rw [stateOf_val order order.length i (Nat.le_refl _), List.take_length]
    split <;> rfl
  refine ⟨nums_of h1, h3, h2, fun i => ?_, fun i => ?_, fun k hk => ?_, fun i hi => ?_, by simp [newRM]⟩
  · rw [hst i]; split <;> simp_all [newRM]
  · rw [hst i]; split <;> omega
  · exact placeOf_at order h3 order.length k (Nat.le_refl _) hk
  · exact placeOf_none order order.length i (Nat.le_refl _) (by rw [List.take_length]; exact hi)
theorem new_neg {order : List Int} {width span from_ : Int} (k : Nat) (hk : k < order.length) (h : order[k] < 0 ∨ order[k] ∈ order.take k) : newOK order width span from_ = false := by
  rw [newOK, Bool.and_eq_false_iff]
  right
  rw [Bool.and_eq_false_iff]
  rcases h with h | h
  · left
    rw [List.all_eq_false]
    exact ⟨order[k], List.getElem_mem hk, by simp; omega⟩
  · right
    rw [decide_eq_false_iff_not]
    intro hn
    obtain ⟨j, hj, e⟩ := List.getElem_of_mem h
    simp only [List.length_take] at hj
    rw [List.getElem_take] at e
    have := (List.getElem_inj hn).1 e
    omega
theorem new_args {order : List Int} {width span from_ : Int} (h : badArgs order width span from_ = true) : newOK order width span from_ = false := by
  rw [newOK, h]; rfl
theorem new_yes {order : List Int} {width span from_ : Int} (h : badArgs order width span from_ = false) (h1 : ∀ x ∈ order, 0 ≤ x) (h2 : order.Nodup) : newOK order width span from_ = true := by
  rw [newOK, h]; simp; exact ⟨h1, h2⟩
theorem nodup_step (l : List Int) (k : Nat) (h : k < l.length) (hn : (l.take k).Nodup) (hx : l[k] ∉ l.take k) : (l.take (k + 1)).Nodup := by
  rw [List.take_succ_eq_append_getElem h, List.nodup_append]
  refine ⟨hn, by simp, fun a ha b hb => ?_⟩
  simp at hb; subst hb
  intro e; subst e; exact hx ha
theorem stateOf_get (l : List Int) (k : Nat) (hk : k ≤ l.length) (x : Int) : (stateOf l k x).getD 0 ≠ 0 ↔ x ∈ l.take k := by
  rw [stateOf_val l k x hk]; split <;> simp_all
theorem stateOf_some (l : List Int) (k : Nat) (hk : k ≤ l.length) (x : Int) (h : x ∉ l.take k) : (stateOf l k x).isSome = false := by
  rw [stateOf_val l k x hk, if_neg h]; rfl
theorem placeOf_some (l : List Int) (k : Nat) (hk : k ≤ l.length) (x : Int) (h : x ∉ l.take k) : (placeOf l k x).isSome = false := by
  rw [placeOf_none l k x hk h]; rfl
theorem setSt_wf {r : RM} {N : Nat} (h : r.WF N) (i s : Int) (hi : readyE r i = 0) (hs : 1 ≤ s ∧ s ≤ 3) : (setSt r i s).WF N := by
  have hmem : i ∈ r.order := by
    rw [← h.mem i]
    intro h0
    unfold readyE at hi
    rw [if_pos h0] at hi; omega
  have hat : ∀ x, (setSt r i s).at_ x = if x = i then s else r.at_ x := fun x => by
    simp only [RM.at_, setSt, upd]
    split <;> rfl
  refine ⟨h.nums, h.nodup, h.nonneg, fun x => ?_, fun x => ?_, h.place, h.noplace, h.served⟩
  · rw [hat x]
    split
    · rename_i e; subst e; exact ⟨fun _ => hmem, fun _ => by omega⟩
    · exact h.mem x
  · rw [hat x]
    split
    · omega
    · exact h.vals x
theorem WF.more {r : RM} {N : Nat} (h : r.WF N) : r.WF (N + 1) := ⟨h.nums, h.nodup, h.nonneg, h.mem, h.vals, h.place, h.noplace, by have := h.served; omega⟩
theorem serve_wf {r : RM} {N : Nat} (h : r.WF N) (i now : Int) : (serve r i now).2.WF (N + 1) := by
  unfold serve
  split
  · exact WF.more h
  · rename_i h1
    split
    · exact WF.more h
    · have hw := setSt_wf h i 2 (by simpa using h1) (by omega)
      exact ⟨hw.nums, hw.nodup, hw.nonneg, hw.mem, hw.vals, hw.place, hw.noplace, by have := hw.served; simp [setSt] at this ⊢; omega⟩
theorem leave_wf {r : RM} {N : Nat} (h : r.WF N) (i : Int) : (leave r i).2.WF (N + 1) := by
  unfold leave
  split
  · exact WF.more h
  · rename_i h1
    exact WF.more (setSt_wf h i 3 (by simpa using h1) (by omega))
theorem pl_bd {r : RM} {N : Nat} (h : r.WF N) (i : Int) : 0 ≤ (r.pl i).getD 0 ∧ (r.pl i).getD 0 ≤ 4000 := by
  by_cases hi : i ∈ r.order
  · obtain ⟨k, hk, rfl⟩ := List.getElem_of_mem hi
    rw [h.place k hk]
    have := h.nums.len
    simp; omega
  · rw [h.noplace i hi]; simp
def stepRM (r : RM) (o : Op) : RM := if o.out = true then (leave r o.i).2 else (serve r o.i o.now).2
def madeRM (order : List Int) (width span from_ : Int) (l : List Op) : RM := l.foldl stepRM (newRM order width span from_)
theorem step_wf {r : RM} {N : Nat} (h : r.WF N) (o : Op) : (stepRM r o).WF (N + 1) := by
  unfold stepRM; split
  · exact leave_wf h _
  · exact serve_wf h _ _
theorem made_step (order : List Int) (width span from_ : Int) (l : List Op) (k : Nat) (h : k < l.length) : madeRM order width span from_ (l.take (k + 1)) = stepRM (madeRM order width span from_ (l.take k)) l[k] := by
  rw [List.take_succ_eq_append_getElem h, madeRM, List.foldl_append]; rfl
/-! ### the reference's lists -/
def timesL (r : RM) : List Int := (List.range r.order.length).map fun (k : Nat) => r.call (k : Int)
def statesL (r : RM) : List Int := r.order.map fun i => r.at_ i - 1
theorem timesL_len (r : RM) : (timesL r).length = r.order.length := by simp [timesL]
theorem statesL_len (r : RM) : (statesL r).length = r.order.length := by simp [statesL]
theorem timesL_at (r : RM) (k : Nat) (h : k < r.order.length) : (timesL r)[k]'(by rw [timesL_len]; exact h) = r.call (k : Int) := by simp [timesL]
theorem statesL_at (r : RM) (k : Nat) (h : k < r.order.length) : (statesL r)[k]'(by rw [statesL_len]; exact h) = r.at_ r.order[k] - 1 := by simp [statesL]
theorem states_set {r : RM} {N : Nat} (h : r.WF N) (k : Nat) (hk : k < r.order.length) (s : Int) : (statesL r).set k (s - 1) = statesL (setSt r r.order[k] s) := by
  apply List.ext_getElem
  · simp [statesL, setSt]
  · intro j h1 h2
    have hj : j < r.order.length := by simpa [statesL] using h1
    have e : (statesL (setSt r r.order[k] s))[j] = (setSt r r.order[k] s).at_ r.order[j] - 1 := by simp [statesL, setSt]
    rw [e, List.getElem_set]
    simp only [RM.at_, setSt, upd]
    by_cases hjk : k = j
    · subst hjk; simp
    · rw [if_neg hjk, if_neg (fun e => hjk ((List.getElem_inj h.nodup).1 e).symm)]
      exact statesL_at r j hj
theorem at_order {r : RM} {N : Nat} (h : r.WF N) (k : Nat) (hk : k < r.order.length) : 1 ≤ r.at_ r.order[k] ∧ r.at_ r.order[k] ≤ 3 := by
  have h1 := (h.mem r.order[k]).2 (List.getElem_mem hk)
  have h2 := h.vals r.order[k]
  omega
theorem ready_at {r : RM} {N : Nat} (h : r.WF N) (k : Nat) (hk : k < r.order.length) : readyE r r.order[k] = if r.at_ r.order[k] - 1 ≠ 0 then 12 else 0 := by
  have := at_order h k hk
  unfold readyE
  rw [if_neg (by omega)]
  by_cases h1 : r.at_ r.order[k] = 1
  · rw [if_neg (by simpa using h1), if_neg (by omega)]
  · rw [if_pos h1, if_pos (by omega)]
theorem ready_none {r : RM} {N : Nat} (h : r.WF N) (i : Int) (hi : i ∉ r.order) : readyE r i = 11 := by
  unfold readyE
  rw [if_pos]
  by_cases h0 : r.at_ i = 0
  · exact h0
  · exact absurd ((h.mem i).1 h0) hi
theorem early_at {r : RM} {N : Nat} (h : r.WF N) (k : Nat) (hk : k < r.order.length) (now : Int) : earlyE r r.order[k] now = if r.call (k : Int) > now then 18 else 0 := by
  unfold earlyE; rw [h.place k hk]; rfl
theorem getD_st (r : RM) (k : Nat) (h : k < r.order.length) : (statesL r).getD k 0 = r.at_ r.order[k] - 1 := by
  rw [List.getD_eq_getElem?_getD, List.getElem?_eq_getElem (by rw [statesL_len]; exact h), ← statesL_at r k h]; rfl
theorem getD_ti (r : RM) (k : Nat) (h : k < r.order.length) : (timesL r).getD k 0 = r.call (k : Int) := by
  rw [List.getD_eq_getElem?_getD, List.getElem?_eq_getElem (by rw [timesL_len]; exact h), ← timesL_at r k h]; rfl
theorem serve_none {r : RM} {N : Nat} (h : r.WF N) (i now : Int) (hi : i ∉ r.order) : serve r i now = (11, r) := by
  unfold serve; rw [ready_none h i hi, if_pos (by decide)]
theorem leave_none {r : RM} {N : Nat} (h : r.WF N) (i : Int) (hi : i ∉ r.order) : leave r i = (11, r) := by
  unfold leave; rw [ready_none h i hi, if_pos (by decide)]
theorem serve_at {r : RM} {N : Nat} (h : r.WF N) (k : Nat) (hk : k < r.order.length) (now : Int) : serve r r.order[k] now = if r.at_ r.order[k] - 1 ≠ 0 then (12, r) else if r.call (k : Int) > now then (18, r) else (0, { setSt r r.order[k] 2 with served := r.served ++ [r.order[k]] }) := by
  unfold serve; rw [ready_at h k hk, early_at h k hk]
  by_cases h1 : r.at_ r.order[k] - 1 ≠ 0
  · rw [if_pos h1, if_pos h1, if_pos (by decide)]
  · rw [if_neg h1, if_neg h1, if_neg (by decide)]
    by_cases h2 : r.call (k : Int) > now
    · rw [if_pos h2, if_pos h2, if_pos (by decide)]
    · rw [if_neg h2, if_neg h2, if_neg (by decide)]
theorem leave_at {r : RM} {N : Nat} (h : r.WF N) (k : Nat) (hk : k < r.order.length) : leave r r.order[k] = if r.at_ r.order[k] - 1 ≠ 0 then (12, r) else (0, setSt r r.order[k] 3) := by
  unfold leave; rw [ready_at h k hk]
  by_cases h1 : r.at_ r.order[k] - 1 ≠ 0
  · rw [if_pos h1, if_pos h1, if_pos (by decide)]
  · rw [if_neg h1, if_neg h1, if_neg (by decide)]
theorem states_new (order : List Int) (width span from_ : Int) : List.replicate order.length (0 : Int) = statesL (newRM order width span from_) := by
  apply List.ext_getElem
  · simp [statesL, newRM]
  · intro j h1 h2
    have hj : j < order.length := by simpa using h1
    rw [List.getElem_replicate, statesL_at _ j hj]
    simp only [RM.at_, newRM]
    rw [stateOf_val order order.length _ (Nat.le_refl _), List.take_length, if_pos (List.getElem_mem hj)]; rfl
theorem times_step (r : RM) (k : Nat) (h : k < r.order.length) : (timesL r).take k ++ [r.call (k : Int)] = (timesL r).take (k + 1) := by
  rw [List.take_succ_eq_append_getElem (by rw [timesL_len]; exact h), timesL_at r k h]
def pick (r : RM) (now : Int) (p : Int × Nat) : Bool := decide (r.call (p.2 : Int) ≤ now) && waits r p.1
def calledTo (r : RM) (now : Int) (k : Nat) : List Int := ((r.order.zipIdx.take k).filter (pick r now)).map (·.1)
theorem calledTo_end {r : RM} {N : Nat} (h : r.WF N) (now : Int) : calledTo r now r.order.length = called r now := by
  rw [called_eq h now, calledTo, List.take_of_length_le (by simp)]; rfl
theorem calledTo_step (r : RM) (now : Int) (k : Nat) (h : k < r.order.length) : calledTo r now (k + 1) = calledTo r now k ++ if pick r now (r.order[k], k) = true then [r.order[k]] else [] := by
  unfold calledTo
  rw [List.take_succ_eq_append_getElem (by simpa using h), List.filter_append, List.map_append]
  have e : r.order.zipIdx[k]'(by simpa using h) = (r.order[k], k) := by simp
  rw [e, List.filter_cons, List.filter_nil]
  split <;> rfl
theorem calledTo_len (r : RM) (now : Int) (k : Nat) : (calledTo r now k).length ≤ k := by
  unfold calledTo
  rw [List.length_map]
  have h1 := List.length_filter_le (pick r now) (r.order.zipIdx.take k)
  have h2 := List.length_take_le k r.order.zipIdx
  omega
theorem find_no {l : List Int} {i : Int} (h : ∀ j (hj : j < l.length), l[j] ≠ i) : i ∉ l := fun hm => by
  obtain ⟨j, hj, e⟩ := List.getElem_of_mem hm
  exact h j hj e
end Go.Proofs.Ytgplcgfdaoenfaa
