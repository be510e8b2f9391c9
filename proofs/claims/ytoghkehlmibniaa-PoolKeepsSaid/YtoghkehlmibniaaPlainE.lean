/- Plain laws of layer 35: a stable exchange is the one by circles. No condition. -/
import Derived.Test.YtoghkehlmibniaaPlainD
namespace Go.Proofs.Ytoghkehlmibniaa
set_option linter.unusedVariables false
set_option linter.unusedSimpArgs false
open Go.Gw

theorem at_take {l : List Int} {i t u : Int} (h : rankL l i t < rankL l i u) (hu : rankL l i u ≤ rankL l i i) : t ∈ l.take (rankL l i u) := by
  have h1 := rank_own l i
  obtain ⟨j, hj, e⟩ := rank_lt h (by omega)
  exact (take_mem (by omega)).2 ⟨j, hj, e⟩
theorem take_at {l : List Int} {i t : Int} {m : Nat} (hm : m ≤ l.length) (h : t ∈ l.take m) : rankL l i t < m := by
  obtain ⟨q, hq, e⟩ := (take_mem hm).1 h
  cases hf : findL l t with
  | none => exact absurd (by rw [← e]; exact at_mem (by omega)) (findL_none.1 hf)
  | some k =>
    have hk := findL_some.1 hf
    have : rankL l i t = k := by unfold rankL; rw [hf]
    rw [this]
    rcases Nat.lt_or_ge q k with h | h
    · exact absurd e (hk.2.2 q h)
    · omega
/-- what comes by circles is stable -/
theorem stab_of_ttc {ws : Ws} (hr : Right ws) {out : List Int} {r : Nat → Nat} (h : TTC ws out r) : StabP ws out := by
  have hrow : RowOK ws.length out := fun j hj => by
    rw [h.len] at hj
    exact ⟨h.rng j hj, fun q hq e => by have := h.inj q j (by omega) hj e; omega⟩
  have hle : ∀ u, u < ws.length → ∀ t : Nat, (t : Int) ∈ (rowG ws u).take (rankL (rowG ws u) u (atI out u)) → r t < r u := fun u hu t ht => by
    have h1 := h.acc u hu
    have h2 := rank_own (rowG ws u) u
    have h3 := hr.rng u _ (List.mem_of_mem_take ht)
    exact h.more u hu t (by omega) (take_at (by omega) ht)
  have hmono : ∀ {u v : Nat}, Rch (toW ws out) u v → u < ws.length → r v ≤ r u := fun hp => by
    induction hp with
    | refl => exact fun _ => Nat.le_refl _
    | @step u v w he _ ih =>
      intro hu
      have hv := to_rng hr h.len hrow hu he
      have := ih (by omega)
      unfold toW at he
      rcases List.mem_cons.1 he with he | he
      · have h1 := h.same u hu
        rw [← he, Int.toNat_natCast] at h1
        omega
      · have := hle u hu v he; omega
  refine ⟨h.len, hr, hrow, h.acc, fun i hi t ht hx => ?_⟩
  have h1 := hle i hi t ht
  have h3 := hr.rng i _ (List.mem_of_mem_take ht)
  have h2 := hmono hx.1 (by omega)
  omega
theorem it_inj {f : Nat → Nat} {n : Nat} (hf : ∀ x, x < n → f x < n) (hi : ∀ x y, x < n → y < n → f x = f y → x = y) : ∀ a x y, x < n → y < n → itN f a x = itN f a y → x = y
  | 0, x, y, _, _, e => e
  | a + 1, x, y, hx, hy, e => by
    have hr : ∀ a x, x < n → itN f a x < n := fun a => by
      induction a with
      | zero => exact fun x h => h
      | succ a ih => exact fun x h => hf _ (ih x h)
    exact it_inj hf hi a x y hx hy (hi _ _ (hr a x hx) (hr a y hy) e)
/-- a stable exchange is the one by circles -/
theorem ttc_of_stab {ws : Ws} {out got : List Int} {r : Nat → Nat} (h : TTC ws out r) (hs : StabP ws got) : got = out := by
  have hgr : ∀ k, k < ws.length → 0 ≤ atI got k ∧ atI got k < ws.length := fun k hk => (hs.row k (by rw [hs.len]; exact hk)).1
  have hgi : ∀ k j, k < ws.length → j < ws.length → atI got k = atI got j → k = j := fun k j hk hj e => by
    rcases Nat.lt_trichotomy k j with hl | hl | hl
    · exact absurd e ((hs.row j (by rw [hs.len]; exact hj)).2 k hl)
    · exact hl
    · exact absurd e.symm ((hs.row k (by rw [hs.len]; exact hk)).2 j hl)
  have key : ∀ m, ∀ k, k < ws.length → r k < m → atI got k = atI out k := by
    intro m
    induction m with
    | zero => intro k _ hk; omega
    | succ m IH =>
      intro k hk hr
      by_cases hrm : r k < m
      · exact IH k hk hrm
      have hrk : r k = m := by omega
      have hle : ∀ x, x < ws.length → r x = m → rankL (rowG ws x) x (atI out x) ≤ rankL (rowG ws x) x (atI got x) := fun x hx hr => by
        refine Classical.byContradiction fun hn => ?_
        have hg := hgr x hx
        obtain ⟨t, ht⟩ : ∃ t : Nat, atI got x = t := ⟨(atI got x).toNat, by omega⟩
        have h3 := h.more x hx t (by omega) (by rw [← ht]; omega)
        obtain ⟨q, hq1, hq2, hq3⟩ := h.onto (fun y => decide (r y < m)) (fun y hy hp => by rw [h.same y hy]; exact hp) t (by omega) (by simp; omega)
        have hq2 : r q < m := by simpa using hq2
        have h4 := IH q hq1 hq2
        have := hgi x q hx hq1 (by rw [ht, h4, hq3])
        subst this; omega
      have hbet : ∀ x, x < ws.length → r x = m → atI got x ≠ atI out x → atI out x ∈ (rowG ws x).take (rankL (rowG ws x) x (atI got x)) := fun x hx hr hne => by
        have h3 := hle x hx hr
        have hlt : rankL (rowG ws x) x (atI out x) < rankL (rowG ws x) x (atI got x) := by
          rcases Nat.lt_or_ge (rankL (rowG ws x) x (atI out x)) (rankL (rowG ws x) x (atI got x)) with hl | hl
          · exact hl
          · exact absurd (rank_inj (h.acc x hx) (by omega)).symm hne
        exact at_take hlt (hs.acc x hx)
      have hptr : ∀ x, x < ws.length → r x = m → atI out x ∈ toW ws got x := fun x hx hr => by
        unfold toW
        by_cases he : atI got x = atI out x
        · rw [he]; exact List.mem_cons_self ..
        · exact List.mem_cons_of_mem _ (hbet x hx hr he)
      refine Classical.byContradiction fun hne => ?_
      let f : Nat → Nat := fun x => (atI out x).toNat
      have hf : ∀ x, x < ws.length → f x < ws.length := fun x hx => by have := h.rng x hx; show (atI out x).toNat < _; omega
      have hfi : ∀ x y, x < ws.length → y < ws.length → f x = f y → x = y := fun x y hx hy e => by
        have h1 := h.rng x hx
        have h2 := h.rng y hy
        have e : (atI out x).toNat = (atI out y).toNat := e
        exact h.inj x y hx hy (by omega)
      have hit : ∀ a, itN f a k < ws.length ∧ r (itN f a k) = m := fun a => by
        induction a with
        | zero => exact ⟨hk, hrk⟩
        | succ a ih => exact ⟨hf _ ih.1, by show r (atI out _).toNat = m; rw [h.same _ ih.1]; exact ih.2⟩
      obtain ⟨d, hd, hc⟩ := it_circle (f := f) (n := ws.length) (x := k) (fun a => (hit a).1)
      have hdk : itN f d k = k := by
        refine it_inj hf hfi ws.length _ _ (hit d).1 hk ?_
        rw [← it_add, Nat.add_comm, it_add]; exact hc
      have hrch : ∀ a, Rch (toW ws got) (itN f 1 k) (itN f (a + 1) k) := fun a => by
        induction a with
        | zero => exact .refl _
        | succ a ih =>
          refine ih.trans (.one ?_)
          have h1 := hptr _ (hit (a + 1)).1 (hit (a + 1)).2
          have h2 := h.rng _ (hit (a + 1)).1
          show (((atI out (itN f (a + 1) k)).toNat : Nat) : Int) ∈ _
          rw [Int.toNat_of_nonneg h2.1]; exact h1
      have h1 := h.rng k hk
      have e1 : itN f 1 k = (atI out k).toNat := rfl
      have h2 := hrch (d - 1)
      rw [show d - 1 + 1 = d by omega, hdk, e1] at h2
      exact hs.free k hk (atI out k).toNat (by rw [Int.toNat_of_nonneg h1.1]; exact hbet k hk hrk hne) ⟨h2, .one (by rw [Int.toNat_of_nonneg h1.1]; exact hptr k hk hrk)⟩
  refine List.ext_getElem (by rw [hs.len, h.len]) (fun k h3 h4 => ?_)
  have := key (r k + 1) k (by rw [← h.len]; exact h4) (by omega)
  rwa [atI_eq h3, atI_eq h4] at this
theorem stab_swap {ws : Ws} (hn : ws.length ≤ 1000) (hr : Right ws) {out : List Int} {r : Nat → Nat} (h : TTC ws out r) (got : List Int) : stabB ws got = decide (got = out) := by
  by_cases e : got = out
  · subst e; rw [stab_yes hn (stab_of_ttc hr h), decide_eq_true rfl]
  · rw [stab_no (fun hs => e (ttc_of_stab h hs.2)), decide_eq_false e]
theorem stab_bad {ws : Ws} {got : List Int} (h : rightW ws = false) : stabB ws got = false := stab_no (fun hs => by rw [right_iff.2 hs.2.right] at h; cases h)

/-! ### closed examples -/
def ttcB (ws : Ws) (out : List Int) (rl : List Nat) : Bool :=
  decide (out.length = ws.length) && (List.range ws.length).all (fun k => decide (0 ≤ atI out k ∧ atI out k < ws.length) && decide (rl.getD (atI out k).toNat 0 = rl.getD k 0) && decide (rankL (rowG ws k) k (atI out k) ≤ rankL (rowG ws k) k k) &&
    (List.range ws.length).all (fun t => (decide (atI out k ≠ atI out t) || decide (k = t)) && (decide (rankL (rowG ws k) k (atI out k) ≤ rankL (rowG ws k) k (t : Nat)) || decide (rl.getD t 0 < rl.getD k 0))))
theorem ttc_chk {ws : Ws} {out : List Int} (rl : List Nat) (h : ttcB ws out rl = true) : TTC ws out (fun k => rl.getD k 0) := by
  unfold ttcB at h
  simp only [Bool.and_eq_true, decide_eq_true_eq, List.all_eq_true, List.mem_range, Bool.or_eq_true] at h
  obtain ⟨h1, h2⟩ := h
  refine ⟨h1, fun k hk => (h2 k hk).1.1.1, fun k j hk hj e => ?_, fun k hk => (h2 k hk).1.1.2, fun k hk t ht hl => ?_, fun k hk => (h2 k hk).1.2⟩
  · rcases ((h2 k hk).2 j hj).1 with h | h
    · exact absurd e h
    · exact h
  · rcases ((h2 k hk).2 t ht).2 with h | h
    · omega
    · exact h
theorem ttc_is {ws : Ws} {out2 : List Int} (rl : List Nat) (out : List Int) (h : ttcB ws out rl = true) {r : Nat → Nat} (h2 : TTC ws out2 r) : out2 = out := ttc_unique (ttc_chk rl h) h2
theorem stab_is {ws : Ws} (rl : List Nat) (out : List Int) (h : ttcB ws out rl = true) (hr : rightW ws = true) (hn : ws.length ≤ 1000) (got : List Int) {b : Bool} (e : decide (got = out) = b) : stabB ws got = b := by
  rw [stab_swap hn (right_iff.1 hr) (ttc_chk rl h), e]

/-! ### the laws -/
theorem ttc_exch {ws : Ws} {out : List Int} {r : Nat → Nat} (h : TTC ws out r) : exchW out ws.length = true := by
  unfold exchW
  rw [decide_eq_true h.len, decide_eq_true (p := RowOK ws.length out)]
  · rfl
  · intro j hj
    rw [h.len] at hj
    exact ⟨h.rng j hj, fun q hq e => by have := h.inj q j (by omega) hj e; omega⟩
theorem circ_law {ws : Ws} {out : List Int} {r : Nat → Nat} (h : TTC ws out r) {c : List Int} (hc : ∀ k, k < c.length → 0 ≤ atI c k ∧ atI c k < ws.length)
    (hno : ∀ k, k < c.length → rankL (rowG ws (atI c k).toNat) (atI c k) (atI c ((k + 1) % c.length)) ≤ rankL (rowG ws (atI c k).toNat) (atI c k) (atI out (atI c k).toNat)) :
    ∀ k, k < c.length → atI c ((k + 1) % c.length) = atI out (atI c k).toNat := by
  have hm : ∀ k, k < c.length → (k + 1) % c.length < c.length := fun k hk => Nat.mod_lt _ (by omega)
  have hst : ∀ k, k < c.length → r (atI c ((k + 1) % c.length)).toNat ≤ r (atI c k).toNat ∧ (atI c ((k + 1) % c.length) ≠ atI out (atI c k).toNat → r (atI c ((k + 1) % c.length)).toNat < r (atI c k).toNat) := fun k hk => by
    have h1 := hc k hk
    have h2 := hc _ (hm k hk)
    have h3 := hno k hk
    obtain ⟨x, hx⟩ : ∃ x : Nat, atI c k = x := ⟨(atI c k).toNat, by omega⟩
    obtain ⟨y, hy⟩ : ∃ y : Nat, atI c ((k + 1) % c.length) = y := ⟨(atI c ((k + 1) % c.length)).toNat, by omega⟩
    rw [hx, hy] at h3 ⊢
    simp only [Int.toNat_natCast] at h3 ⊢
    by_cases e : (y : Int) = atI out x
    · have := h.same x (by omega)
      rw [← e, Int.toNat_natCast] at this
      exact ⟨by omega, fun hn => absurd e hn⟩
    · have hl : rankL (rowG ws x) x (y : Int) < rankL (rowG ws x) x (atI out x) := by
        rcases Nat.lt_or_ge (rankL (rowG ws x) x (y : Int)) (rankL (rowG ws x) x (atI out x)) with hl | hl
        · exact hl
        · exact absurd (rank_inj (h.acc x (by omega)) (by omega)).symm e
      have := h.more x (by omega) y (by omega) hl
      exact ⟨by omega, fun _ => this⟩
  have hdn : ∀ k j, k ≤ j → j < c.length → r (atI c j).toNat ≤ r (atI c k).toNat := fun k j => by
    induction j with
    | zero => intro h1 _; rw [show k = 0 by omega]; exact Nat.le_refl _
    | succ j ih =>
      intro h1 h2
      by_cases e : k = j + 1
      · subst e; exact Nat.le_refl _
      · have h3 := (hst j (by omega)).1
        rw [Nat.mod_eq_of_lt h2] at h3
        have := ih (by omega) (by omega)
        omega
  intro k hk
  refine Classical.byContradiction fun hne => ?_
  have h1 := (hst k hk).2 hne
  have h2 := hdn 0 k (by omega) hk
  have h3 := (hst (c.length - 1) (by omega)).1
  rw [show c.length - 1 + 1 = c.length by omega, Nat.mod_self] at h3
  by_cases hl : k + 1 < c.length
  · rw [Nat.mod_eq_of_lt hl] at h1
    have := hdn (k + 1) (c.length - 1) (by omega) (by omega)
    omega
  · rw [show k + 1 = c.length by omega, Nat.mod_self] at h1
    omega
/-- what an exchange answers -/
def SwapRes (ws : Ws) (out : List Int) (e : Int) : Prop := (rightW ws = true ∧ e = 0 ∧ ∃ r, TTC ws out r) ∨ (rightW ws = false ∧ e = 1 ∧ out = [])
theorem swapres_det {ws : Ws} {out out2 : List Int} {e e2 : Int} (h : SwapRes ws out e) (h2 : SwapRes ws out2 e2) : e = e2 ∧ out = out2 := by
  rcases h with ⟨a, rfl, r, ht⟩ | ⟨a, rfl, rfl⟩ <;> rcases h2 with ⟨b, rfl, r2, ht2⟩ | ⟨b, rfl, rfl⟩
  · exact ⟨rfl, ttc_unique ht2 ht⟩
  · rw [a] at b; cases b
  · rw [a] at b; cases b
  · exact ⟨rfl, rfl⟩
end Go.Proofs.Ytoghkehlmibniaa
