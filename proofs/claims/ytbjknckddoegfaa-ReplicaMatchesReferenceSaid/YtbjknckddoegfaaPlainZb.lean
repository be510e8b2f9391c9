/- Layer 48: the phases of progress. No program in sight. No condition. -/
import Derived.Test.YtbjknckddoegfaaPlainZa
namespace Go.Proofs.Ytbjknckddoegfaa
open Go Go.Gw
set_option linter.unusedSimpArgs false
set_option linter.unusedVariables false
def Quiet (g : Grp) : Prop := ∀ a b, g.q a b = []
theorem PH.elect {g : Grp} {γ : Gh} (R : RI g γ) (hq : Quiet g) (hu : Up g) {i : Nat} (hi : i < g.n) (hm : ∀ v, v < g.n → (g.at_ v).term ≤ (g.at_ i).term) : PH (g.elect i) i ((g.at_ i).term + 1) (fun v => (g.at_ v).log) := by
  have Pi := R.peers i hi
  have s1 := Pi.s1
  have hlow : lastT (g.at_ i).log < (g.at_ i).term + 1 := by
    by_cases e : (g.at_ i).log = []
    · rw [e]; show (0 : Int) < _; have := R.term0 hi; omega
    · have := (R.ok.last Pi.log.led Pi.log.hi e).2.2.2.2.1; omega
  unfold Grp.elect
  rw [if_pos ⟨hi, hu i hi⟩]
  have hn := Grp.put_n g i ((g.at_ i).ask i)
  have hat := Grp.put_same (g := g) ((g.at_ i).ask i) hi
  have hoth : ∀ v, v ≠ i → (g.put i ((g.at_ i).ask i)).at_ v = g.at_ v := fun v hv => Grp.put_ne _ hv
  have hqq : ∀ a b, ((g.put i ((g.at_ i).ask i)).all i (.ask ((g.at_ i).term + 1) (lastT (g.at_ i).log) (g.at_ i).log.length)).q a b = if a = i ∧ b ≠ i ∧ b < g.n then [.ask ((g.at_ i).term + 1) (lastT (g.at_ i).log) (g.at_ i).log.length] else [] := fun a b => by
    show (if a = i ∧ b ≠ i ∧ b < (g.put i ((g.at_ i).ask i)).n then g.q a b ++ [_] else g.q a b) = _
    rw [hn, hq a b]; rfl
  refine PW.leads ⟨fun v hv => ?_, by rw [Grp.all_n, hn]; exact hi, by rw [Grp.all_at, hat]; rfl, hlow, fun a b m h => ?_, fun j hj hji => ?_⟩ (by rw [Grp.all_at, hat]; rfl) ⟨fun v hv => ?_, by rw [Grp.all_at, hat]; show decide (i = i) = true; simp, fun j hj hji ht => ?_⟩
  · rw [Grp.all_n, hn] at hv
    rw [Grp.all_at]
    by_cases e : v = i
    · rw [e, hat]; exact hu i hi
    · rw [hoth v e]; exact hu v hv
  · rw [hqq] at h
    rw [Grp.all_n, hn]
    split at h
    · rename_i e; exact .inl ⟨e.1, e.2.1, e.2.2, .inl (List.mem_singleton.1 h)⟩
    · cases h
  · rw [Grp.all_n, hn] at hj
    rw [Grp.all_at, hoth j hji, hqq, hqq, if_pos ⟨rfl, hji, hj⟩, if_neg (fun e => hji e.1)]
    exact .inr ⟨by have := hm j hj; omega, rfl, rfl, [], rfl, by simp⟩
  · rw [Grp.all_at]
    by_cases e : v = i
    · rw [e, hat]; rfl
    · rw [hoth v e]
  · rw [Grp.all_n, hn] at hj
    rw [Grp.all_at, hoth j hji] at ht
    have := hm j hj
    omega
theorem PH.quiet {g : Grp} {i : Nat} {T : Int} {L0 : Nat → List Ent} (H : PH g i T L0) (hq : Quiet g) : (∀ v, v < g.n → (g.at_ v).term = T) ∧ (∀ v, v < g.n → v ≠ i → (g.at_ v).role = 0) ∧
    (((g.at_ i).role = 1 ∧ (∀ v, v < g.n → (g.at_ v).log = L0 v) ∧ ¬ ∀ v, v < g.n → fresher (L0 v) (L0 i)) ∨ ((g.at_ i).role = 2 ∧ (∀ v, v < g.n → (g.at_ v).log = (g.at_ i).log ∧ (g.at_ i).done ≤ (g.at_ v).done) ∧ (lastT (g.at_ i).log = T → (g.at_ i).log ≠ [] → (g.at_ i).log.length ≤ (g.at_ i).done))) := by
  have W := H.w
  have ht : ∀ v, v < g.n → v ≠ i → (g.at_ v).term = T ∧ (g.at_ v).role = 0 := fun v hv hvi => by
    rcases W.tj v hv hvi with h | ⟨_, _, _, X, h, _⟩
    · exact ⟨h.1, h.2.1⟩
    · rw [hq] at h; cases h
  refine ⟨fun v hv => ?_, fun v hv hvi => (ht v hv hvi).2, ?_⟩
  · by_cases e : v = i
    · rw [e]; exact W.ti
    · exact (ht v hv e).1
  rcases H.r with ⟨r1, C, r2⟩ | ⟨r1, S, C⟩
  · refine .inl ⟨r1, C.logs, fun hf => ?_⟩
    have := maj_all (f := (g.at_ i).votes) (Nat.lt_of_le_of_lt (Nat.zero_le _) W.hi) (fun v hv => by
      by_cases e : v = i
      · rw [e]; exact C.self
      · rcases C.got v hv e (ht v hv e).1 (hf v hv) with h | h
        · exact h
        · rw [hq] at h; cases h)
    rw [r2] at this; cases this
  · refine .inr ⟨r1, fun v hv => ?_, fun h1 h2 => ?_⟩
    · by_cases e : v = i
      · rw [e]; exact ⟨rfl, Nat.le_refl _⟩
      · rcases S.sync v hv e with ⟨X, h⟩ | h
        · rw [hq] at h; cases X <;> cases h
        · exact h.2
    · by_cases hd : (g.at_ i).done < (g.at_ i).log.length
      · have h3 := C h1 h2 hd
        rw [maj_all (Nat.lt_of_le_of_lt (Nat.zero_le _) W.hi) (fun v hv => by
          by_cases e : v = i
          · simp [e]
          · rcases S.ackd v hv e with h | h | h
            · exact absurd (hq i v) h
            · rw [hq] at h; cases h
            · simp [h])] at h3
        cases h3
      · omega
theorem bestTo_none {g : Grp} : ∀ {k : Nat}, (∀ v, v < k → (g.at_ v).role ≠ 2) → bestTo g k = none
  | 0, _ => rfl
  | k + 1, h => by
    unfold bestTo
    rw [bestTo_none (fun v hv => h v (by omega))]
    dsimp only
    rw [if_neg (fun e => h k (by omega) e.1)]
theorem bestTo_one {g : Grp} {i : Nat} (hr : (g.at_ i).role = 2) (hd : (g.at_ i).down = false) : ∀ {k : Nat}, (∀ v, v < k → v ≠ i → (g.at_ v).role ≠ 2) → i < k → bestTo g k = some i
  | 0, _, h => by omega
  | k + 1, h, hi => by
    unfold bestTo
    by_cases e : i = k
    · subst e
      rw [bestTo_none (fun v hv => h v (by omega) (by omega))]
      dsimp only
      rw [if_pos ⟨hr, hd⟩]
    · rw [bestTo_one hr hd (fun v hv hne => h v (by omega) hne) (by omega)]
      dsimp only
      rw [if_neg (fun x => h k (by omega) (fun y => e y.symm) x.1)]
theorem PH.propose {g : Grp} {i : Nat} {T : Int} {L0 : Nat → List Ent} (H : PH g i T L0) (hr : (g.at_ i).role = 2) (r : ByteArray) (ht : g.taker r = some i) :
    PH (g.propose r) i T L0 ∧ ((g.propose r).at_ i).role = 2 ∧ ((g.propose r).at_ i).log = (g.at_ i).log ++ [⟨T, r⟩] := by
  have W := H.w
  unfold Grp.propose
  rw [ht]
  dsimp only
  obtain ⟨h1, h2, h3⟩ := W.shares0 (p := (g.at_ i).snoc r) (W.up i W.hi) W.ti hr
  have hat : ((g.put i ((g.at_ i).snoc r)).share i).at_ i = (g.at_ i).snoc r := Grp.put_same _ W.hi
  obtain ⟨d, e⟩ := Grp.commit_self (g := (g.put i ((g.at_ i).snoc r)).share i) (i := i) h1.hi
  refine ⟨h1.commits h2 h3, ?_, ?_⟩
  · rw [e]; exact h2
  · rw [e, hat]
    show (g.at_ i).log ++ [⟨(g.at_ i).term, r⟩] = _
    rw [W.ti]
theorem fresher.total (a b : List Ent) : fresher a b ∨ fresher b a := by
  unfold fresher
  rcases Int.lt_trichotomy (lastT a) (lastT b) with h | h | h
  · exact .inl (.inl h)
  · rcases Nat.le_total a.length b.length with h2 | h2
    · exact .inl (.inr ⟨h, h2⟩)
    · exact .inr (.inr ⟨h.symm, h2⟩)
  · exact .inr (.inl h)
theorem fresher.trans {a b c : List Ent} (h1 : fresher a b) (h2 : fresher b c) : fresher a c := by
  unfold fresher at *; omega
theorem fresher.refl (a : List Ent) : fresher a a := .inr ⟨rfl, Nat.le_refl _⟩
theorem freshest (f : Nat → List Ent) : ∀ n : Nat, 0 < n → ∃ j, j < n ∧ ∀ v, v < n → fresher (f v) (f j)
  | 0, h => by omega
  | 1, _ => ⟨0, by omega, fun v hv => by obtain rfl : v = 0 := by omega
                                         exact fresher.refl _⟩
  | n + 2, _ => by
    obtain ⟨j, h1, h2⟩ := freshest f (n + 1) (by omega)
    rcases fresher.total (f (n + 1)) (f j) with h | h
    · exact ⟨j, by omega, fun v hv => by
        by_cases e : v = n + 1
        · rw [e]; exact h
        · exact h2 v (by omega)⟩
    · exact ⟨n + 1, by omega, fun v hv => by
        by_cases e : v = n + 1
        · rw [e]; exact fresher.refl _
        · exact (h2 v (by omega)).trans h⟩
theorem greatest (f : Nat → Int) : ∀ n : Nat, 0 < n → ∃ j, j < n ∧ ∀ v, v < n → f v ≤ f j
  | 0, h => by omega
  | 1, _ => ⟨0, by omega, fun v hv => by obtain rfl : v = 0 := by omega
                                         exact Int.le_refl _⟩
  | n + 2, _ => by
    obtain ⟨j, h1, h2⟩ := greatest f (n + 1) (by omega)
    rcases Int.le_total (f (n + 1)) (f j) with h | h
    · exact ⟨j, by omega, fun v hv => by
        by_cases e : v = n + 1
        · rw [e]; exact h
        · exact h2 v (by omega)⟩
    · exact ⟨n + 1, by omega, fun v hv => by
        by_cases e : v = n + 1
        · rw [e]; exact Int.le_refl _
        · exact Int.le_trans (h2 v (by omega)) h⟩
/-- where the elections stand -/
def Phase (g : Grp) (i : Nat) : Prop := (∃ w, i ≤ w ∧ w < g.n ∧ ∀ v, v < g.n → (g.at_ v).term ≤ (g.at_ w).term) ∨
  (∃ k T, k < g.n ∧ (∀ v, v < g.n → (g.at_ v).term = T) ∧ ∀ j, k ≤ j → j < i → ¬ ∀ v, v < g.n → fresher (g.at_ v).log (g.at_ (j % g.n)).log)
theorem Phase.start {g : Grp} (h : 0 < g.n) : Phase g 0 := by
  obtain ⟨j, h1, h2⟩ := greatest (fun v => (g.at_ v).term) g.n h
  exact .inl ⟨j, Nat.zero_le _, h1, h2⟩
theorem Phase.over {g : Grp} (h0 : 0 < g.n) (h : Phase g (2 * g.n)) : False := by
  rcases h with ⟨w, h1, h2, _⟩ | ⟨k, T, h1, _, h2⟩
  · omega
  · obtain ⟨j, h3, h4⟩ := freshest (fun v => (g.at_ v).log) g.n h0
    by_cases e : k ≤ j
    · refine h2 j e (by omega) ?_
      rw [Nat.mod_eq_of_lt h3]; exact h4
    · refine h2 (j + g.n) (by omega) (by omega) ?_
      rw [Nat.add_mod_right, Nat.mod_eq_of_lt h3]; exact h4
/-- closed under deliveries -/
def Still (J : Grp → Prop) : Prop := ∀ g a b, J g → J (g.deliver a b false).1
theorem deliver_max {g : Grp} {L : Nat} {M : Int} (H : Lim g L M) {w : Nat} (hw : w < g.n) (e : (g.at_ w).term = M) (a b : Nat) : ((g.deliver a b false).1.at_ w).term = M := by
  have h1 := (H.deliver a b false).tm w (by rw [Grp.deliver_n]; exact hw)
  have h2 : M ≤ ((g.deliver a b false).1.at_ w).term := by
    by_cases hb : w = b
    · subst hb
      unfold Grp.deliver
      split
      · split
        · exact Int.le_of_eq e.symm
        · rename_i m r hq
          dsimp only; split
          · have := (Grp.receive_all (g := g.pop a w r) (i := a) (j := w) m hw (L := L) (H.log w hw) (fun t l d e => (H.qs a w m (by rw [hq]; exact List.mem_cons_self ..)).2 t l d e)).1
            rw [this]; show _ ≤ max (g.at_ w).term _; omega
          · show _ ≤ (g.at_ w).term; omega
      · exact Int.le_of_eq e.symm
    · rw [Grp.deliver_at _ _ (.inl hb)]; omega
  omega
structure NE (N : Nat) (L : Nat) (M : Int) (w : Nat) (g : Grp) : Prop where
  n : g.n = N
  wn : w < g.n
  lim : Lim g L M
  tw : (g.at_ w).term = M
theorem NE.still (N L : Nat) (M : Int) (w : Nat) : Still (NE N L M w) := fun g a b H => ⟨by rw [Grp.deliver_n]; exact H.n, by rw [Grp.deliver_n]; exact H.wn, H.lim.deliver a b false, deliver_max H.lim H.wn H.tw a b⟩
theorem NE.phase {N L : Nat} {M : Int} {w i : Nat} {g : Grp} (H : NE N L M w g) (hi : i < w) : Phase g (i + 1) := .inl ⟨w, hi, H.wn, fun v hv => by rw [H.tw]; exact H.lim.tm v hv⟩
theorem propose_term {g : Grp} (r : ByteArray) (v : Nat) : ((g.propose r).at_ v).term = (g.at_ v).term := by
  unfold Grp.propose; split
  · rfl
  · rename_i i h
    have hi := (bestTo_some (taker_some h).2.1).1
    by_cases e : v = i
    · subst e
      obtain ⟨d, e⟩ := Grp.commit_self (g := (g.put v ((g.at_ v).snoc r)).share v) (i := v) (by rw [Grp.share_n, Grp.put_n]; exact hi)
      rw [e, Grp.share_at, Grp.put_same _ hi]; rfl
    · rw [Grp.commit_at _ e, Grp.share_at, Grp.put_ne _ e]
theorem NE.propose {N L : Nat} {M : Int} {w : Nat} {g : Grp} (H : NE N L M w g) (r : ByteArray) : NE N (L + 1) M w (g.propose r) := ⟨by rw [Grp.propose_n]; exact H.n, by rw [Grp.propose_n]; exact H.wn, H.lim.propose r, by rw [propose_term]; exact H.tw⟩
theorem PH.still (N i : Nat) (T : Int) (L0 : Nat → List Ent) : Still (fun g => g.n = N ∧ PH g i T L0) := fun g a b H => ⟨by rw [Grp.deliver_n]; exact H.1, (H.2.deliver a b).1⟩
theorem PH.still2 (N i : Nat) (T : Int) (L0 : Nat → List Ent) (l : List Ent) : Still (fun g => g.n = N ∧ PH g i T L0 ∧ (g.at_ i).role = 2 ∧ (g.at_ i).log = l) := fun g a b ⟨h1, h2, h3, h4⟩ => by
  obtain ⟨h5, h6⟩ := h2.deliver a b
  obtain ⟨h7, h8⟩ := h6 h3
  exact ⟨by rw [Grp.deliver_n]; exact h1, h5, h7, by rw [h8]; exact h4⟩
/-- all have committed what was proposed -/
def Won (g : Grp) (k : Nat) (r : ByteArray) : Prop := ∀ v, v < g.n → (g.at_ v).recs.length = k + 1 ∧ (g.at_ v).recs[k]? = some r
/-- one election -/
theorem Phase.step {g : Grp} {γ : Gh} (R : RI g γ) (hq : Quiet g) (hu : Up g) {L : Nat} {M : Int} (hL : Lim g L M) (h0 : 0 < g.n) {i : Nat} (hp : Phase g i) (r : ByteArray) :
    ∃ J : Grp → Prop, J (g.elect (i % g.n)) ∧ Still J ∧ ∀ g2, J g2 → Quiet g2 → (bestTo g2 g2.n = none ∧ Phase g2 (i + 1)) ∨
      ∃ q, bestTo g2 g2.n = some q ∧ (g2.taker r = some q → ∃ J2 : Grp → Prop, J2 (g2.propose r) ∧ Still J2 ∧ ∀ g4 γ4, RI g4 γ4 → J2 g4 → Quiet g4 → Phase g4 (i + 1) ∨ Won g4 (g2.at_ q).log.length r) := by
  have hi : i % g.n < g.n := Nat.mod_lt _ h0
  by_cases hm : ∀ v, v < g.n → (g.at_ v).term ≤ (g.at_ (i % g.n)).term
  · -- the greatest term
    have H := PH.elect R hq hu hi hm
    refine ⟨_, ⟨Grp.elect_n _ _, H⟩, PH.still g.n (i % g.n) _ _, fun g2 ⟨en, H2⟩ hq2 => ?_⟩
    obtain ⟨q1, q2, q3⟩ := H2.quiet hq2
    rcases q3 with ⟨r1, r2, r3⟩ | ⟨r1, r2, r3⟩
    · refine .inl ⟨bestTo_none (fun v hv h => ?_), .inr ?_⟩
      · by_cases e : v = i % g.n
        · rw [e, r1] at h; cases h
        · rw [q2 v hv e] at h; cases h
      · have hnow : ¬ ∀ v, v < g2.n → fresher (g2.at_ v).log (g2.at_ (i % g2.n)).log := fun hf => r3 (fun v hv => by
          have := hf v hv
          rw [en] at this
          rw [r2 v hv, r2 _ (by rw [en]; exact hi)] at this
          exact this)
        rcases hp with ⟨w, w1, w2, w3⟩ | ⟨k, T, k1, k2, k3⟩
        · refine ⟨i, _, by rw [en]; omega, q1, fun j j1 j2 => ?_⟩
          obtain rfl : j = i := by omega
          exact hnow
        · refine ⟨k, _, by rw [en]; exact k1, q1, fun j j1 j2 => ?_⟩
          by_cases e : j = i
          · rw [e]; exact hnow
          · intro hf
            refine k3 j j1 (by omega) (fun v hv => ?_)
            have := hf v (by rw [en]; exact hv)
            rw [en, r2 v (by rw [en]; exact hv), r2 _ (by rw [en]; exact Nat.mod_lt _ h0)] at this
            exact this
    · have hb : bestTo g2 g2.n = some (i % g.n) := bestTo_one r1 (H2.w.up _ H2.w.hi) (fun v hv hne h => by rw [q2 v hv hne] at h; cases h) H2.w.hi
      refine .inr ⟨_, hb, fun htk => ?_⟩
      obtain ⟨p1, p2, p3⟩ := H2.propose r1 r htk
      refine ⟨_, ⟨Grp.propose_n _ _, p1, p2, p3⟩, PH.still2 g2.n _ _ _ _, fun g4 γ4 R4 ⟨e1, H4, e3, e4⟩ hq4 => .inr (fun v hv => ?_)⟩
      obtain ⟨u1, u2, u3⟩ := H4.quiet hq4
      obtain ⟨v1, v2, v3⟩ := u3.resolve_left (fun h => by rw [e3] at h; cases h.1)
      have hl : lastT (g4.at_ (i % g.n)).log = (g.at_ (i % g.n)).term + 1 := by rw [e4]; unfold lastT; simp
      have hd := v3 hl (by rw [e4]; simp)
      obtain ⟨x1, x2⟩ := v2 v hv
      have hrec : (g4.at_ v).recs = (((g2.at_ (i % g.n)).log ++ [(⟨(g.at_ (i % g.n)).term + 1, r⟩ : Ent)]).map Ent.txt) := by
        unfold Peer.recs
        rw [x1, List.take_of_length_le (by omega), e4]
      rw [hrec]
      refine ⟨by simp, by simp⟩
  · -- somebody has a greater one
    obtain ⟨w, w1, w2, w3⟩ : ∃ w, i ≤ w ∧ w < g.n ∧ ∀ v, v < g.n → (g.at_ v).term ≤ (g.at_ w).term := by
      rcases hp with h | ⟨k, T, k1, k2, k3⟩
      · exact h
      · exact absurd (fun v hv => by rw [k2 v hv, k2 _ hi]; exact Int.le_refl _) hm
    have hin : i % g.n = i := Nat.mod_eq_of_lt (by omega)
    rw [hin] at hm ⊢
    have hwi : w ≠ i := fun e => hm (e ▸ w3)
    have hlt : (g.at_ i).term + 1 ≤ (g.at_ w).term := by
      by_cases e : (g.at_ i).term < (g.at_ w).term
      · omega
      · exact absurd (fun v hv => Int.le_trans (w3 v hv) (by omega)) hm
    have hL' : Lim g L (g.at_ w).term := ⟨hL.log, w3, fun a b x hx => by rw [hq] at hx; cases hx⟩
    have hel : ((g.elect i).at_ w) = g.at_ w := by
      unfold Grp.elect; split
      · rw [Grp.lead_at _ hwi, Grp.all_at, Grp.put_ne _ hwi]
      · rfl
    refine ⟨NE g.n L (g.at_ w).term w, ⟨Grp.elect_n _ _, by rw [Grp.elect_n]; exact w2, hL'.elect i hlt, by rw [hel]⟩, NE.still _ _ _ _, fun g2 H2 hq2 => ?_⟩
    cases hb : bestTo g2 g2.n with
    | none => exact .inl ⟨rfl, H2.phase (by omega)⟩
    | some q => exact .inr ⟨q, rfl, fun _ => ⟨_, H2.propose r, NE.still _ _ _ _, fun g4 γ4 R4 H4 hq4 => .inl (H4.phase (by omega))⟩⟩
end Go.Proofs.Ytbjknckddoegfaa
