/- Layer 48: one asks to lead, and all follow, or nobody is the leader. No program in sight. No condition. -/
import Derived.Test.YtbjknckddoegfaaPlainY
namespace Go.Proofs.Ytbjknckddoegfaa
open Go Go.Gw
set_option linter.unusedSimpArgs false
set_option linter.unusedVariables false
theorem comK_none {ok : Nat → Bool} {d : Nat} : ∀ {m : Nat}, comK ok d m = none → ∀ x, d < x → x ≤ m → ok x = false
  | 0, _, x, h1, h2 => by omega
  | m + 1, h, x, h1, h2 => by
    unfold comK at h
    split at h
    · split at h
      · cases h
      · rename_i hn
        by_cases e : x = m + 1
        · subst e; simpa using hn
        · exact comK_none h x h1 (by omega)
    · omega
theorem comK_max {ok : Nat → Bool} {d k : Nat} : ∀ {m : Nat}, comK ok d m = some k → ∀ x, k < x → x ≤ m → ok x = false
  | 0, h, x, h1, h2 => by omega
  | m + 1, h, x, h1, h2 => by
    unfold comK at h
    split at h
    · split at h
      · cases h; omega
      · rename_i hn
        by_cases e : x = m + 1
        · subst e; simpa using hn
        · exact comK_max h x h1 (by omega)
    · cases h
theorem maj_all {n : Nat} {f : Nat → Bool} (h0 : 0 < n) (h : ∀ v, v < n → f v = true) : maj n f = true := by
  unfold maj count
  rw [List.filter_eq_self.2 (fun v hv => h v (List.mem_range.1 hv)), List.length_range]
  simp; omega
/-- replica i asks to lead in term T, or leads in it; L0: the logs when it asked -/
structure PW (g : Grp) (i : Nat) (T : Int) (L0 : Nat → List Ent) : Prop where
  up : ∀ v, v < g.n → (g.at_ v).down = false
  hi : i < g.n
  ti : (g.at_ i).term = T
  low : lastT (L0 i) < T
  qs : ∀ a b m, m ∈ g.q a b → (a = i ∧ b ≠ i ∧ b < g.n ∧ (m = .ask T (lastT (L0 i)) (L0 i).length ∨ ((g.at_ i).role = 2 ∧ ∃ l d, m = .share T l d))) ∨ (b = i ∧ a ≠ i ∧ a < g.n ∧ ((∃ x, m = .vote T x) ∨ ∃ k, m = .ack T k))
  tj : ∀ j, j < g.n → j ≠ i → ((g.at_ j).term = T ∧ (g.at_ j).role = 0 ∧ ∀ m ∈ g.q i j, ∃ l d, m = .share T l d) ∨ ((g.at_ j).term < T ∧ g.q j i = [] ∧ (g.at_ j).log = L0 j ∧ ∃ X, g.q i j = .ask T (lastT (L0 i)) (L0 i).length :: X ∧ ∀ m ∈ X, ∃ l d, m = .share T l d)
structure PC (g : Grp) (i : Nat) (T : Int) (L0 : Nat → List Ent) : Prop where
  logs : ∀ v, v < g.n → (g.at_ v).log = L0 v
  self : (g.at_ i).votes i = true
  got : ∀ j, j < g.n → j ≠ i → (g.at_ j).term = T → fresher (L0 j) (L0 i) → (g.at_ i).votes j = true ∨ .vote T true ∈ g.q j i
structure PL (g : Grp) (i : Nat) (T : Int) : Prop where
  sync : ∀ j, j < g.n → j ≠ i → (∃ X, g.q i j = X ++ [.share T (g.at_ i).log (g.at_ i).done]) ∨ (g.q i j = [] ∧ (g.at_ j).log = (g.at_ i).log ∧ (g.at_ i).done ≤ (g.at_ j).done)
  ackd : ∀ j, j < g.n → j ≠ i → g.q i j ≠ [] ∨ .ack T ((g.at_ i).log.length : Int) ∈ g.q j i ∨ ((g.at_ i).log.length : Int) ≤ (g.at_ i).acks j
def Comd (g : Grp) (i : Nat) (T : Int) : Prop := lastT (g.at_ i).log = T → (g.at_ i).log ≠ [] → (g.at_ i).done < (g.at_ i).log.length → maj g.n (fun f => decide (f = i) || decide ((g.at_ i).acks f ≥ ((g.at_ i).log.length : Int))) = false
structure PH (g : Grp) (i : Nat) (T : Int) (L0 : Nat → List Ent) : Prop where
  w : PW g i T L0
  r : ((g.at_ i).role = 1 ∧ PC g i T L0 ∧ maj g.n (g.at_ i).votes = false) ∨ ((g.at_ i).role = 2 ∧ PL g i T ∧ Comd g i T)
/-- a leader sends its log: what is to be shown about where it stood -/
theorem PW.shares0 {g : Grp} {i : Nat} {T : Int} {L0 : Nat → List Ent} (W : PW g i T L0) {p : Peer} (hd : p.down = false) (ht : p.term = T) (hr : p.role = 2) : PW ((g.put i p).share i) i T L0 ∧ (((g.put i p).share i).at_ i).role = 2 ∧ PL ((g.put i p).share i) i T := by
  have hn : ((g.put i p).share i).n = g.n := Grp.put_n _ _ _
  have hat : ((g.put i p).share i).at_ i = p := Grp.put_same p W.hi
  have hoth : ∀ v, v ≠ i → ((g.put i p).share i).at_ v = g.at_ v := fun v hv => Grp.put_ne p hv
  have hq : ∀ a b, ((g.put i p).share i).q a b = if a = i ∧ b ≠ i ∧ b < g.n then g.q a b ++ [.share T p.log p.done] else g.q a b := fun a b => by
    show (if a = i ∧ b ≠ i ∧ b < (g.put i p).n then (g.put i p).q a b ++ [_] else (g.put i p).q a b) = _
    rw [Grp.put_n, Grp.put_same p W.hi, ht]; rfl
  refine ⟨⟨fun v hv => ?_, by rw [hn]; exact W.hi, by rw [hat]; exact ht, W.low, fun a b m hm => ?_, fun j hj hji => ?_⟩, by rw [hat]; exact hr, ⟨fun j hj hji => ?_, fun j hj hji => ?_⟩⟩
  · rw [hn] at hv
    by_cases e : v = i
    · rw [e, hat]; exact hd
    · rw [hoth v e]; exact W.up v hv
  · rw [hq] at hm
    rw [hn, hat]
    split at hm
    · rename_i e
      rcases List.mem_append.1 hm with h | h
      · rcases W.qs a b m h with ⟨c1, c2, c3, c4⟩ | h
        · exact .inl ⟨c1, c2, c3, c4.imp id fun x => ⟨hr, x.2⟩⟩
        · exact absurd h.1 e.2.1
      · exact .inl ⟨e.1, e.2.1, e.2.2, .inr ⟨hr, _, _, List.mem_singleton.1 h⟩⟩
    · rcases W.qs a b m hm with ⟨c1, c2, c3, c4⟩ | h
      · exact .inl ⟨c1, c2, c3, c4.imp id fun x => ⟨hr, x.2⟩⟩
      · exact .inr h
  · rw [hn] at hj
    rw [hoth j hji, hq, if_pos ⟨rfl, hji, hj⟩, hq, if_neg (fun e => hji e.1)]
    rcases W.tj j hj hji with ⟨c1, c2, c3⟩ | ⟨c1, c2, c3, X, c4, c5⟩
    · refine .inl ⟨c1, c2, fun m hm => ?_⟩
      rcases List.mem_append.1 hm with h | h
      · exact c3 m h
      · exact ⟨_, _, List.mem_singleton.1 h⟩
    · refine .inr ⟨c1, c2, c3, X ++ [.share T p.log p.done], by rw [c4]; rfl, fun m hm => ?_⟩
      rcases List.mem_append.1 hm with h | h
      · exact c5 m h
      · exact ⟨_, _, List.mem_singleton.1 h⟩
  · rw [hn] at hj
    exact .inl ⟨g.q i j, by rw [hq, if_pos ⟨rfl, hji, hj⟩, hat]⟩
  · rw [hn] at hj
    exact .inl (by rw [hq, if_pos ⟨rfl, hji, hj⟩]; simp)
theorem PW.shares {g : Grp} {i : Nat} {T : Int} {L0 : Nat → List Ent} (W : PW g i T L0) {p : Peer} (hd : p.down = false) (ht : p.term = T) (hr : p.role = 2) (hc : Comd ((g.put i p).share i) i T) : PH ((g.put i p).share i) i T L0 := by
  obtain ⟨h1, h2, h3⟩ := W.shares0 hd ht hr
  exact ⟨h1, .inr ⟨h2, h3, hc⟩⟩
theorem PW.leads {g : Grp} {i : Nat} {T : Int} {L0 : Nat → List Ent} (W : PW g i T L0) (hr : (g.at_ i).role = 1) (C : PC g i T L0) : PH (g.lead i) i T L0 := by
  unfold Grp.lead; split
  · refine W.shares (W.up i W.hi) W.ti rfl (fun h => ?_)
    have hat : ((g.put i (g.at_ i).lead).share i).at_ i = (g.at_ i).lead := Grp.put_same _ W.hi
    change lastT (((g.put i (g.at_ i).lead).share i).at_ i).log = T at h
    rw [hat] at h
    have h : lastT (g.at_ i).log = T := h
    rw [C.logs i W.hi] at h
    have := W.low
    omega
  · rename_i hm
    exact ⟨W, .inl ⟨hr, C, by simpa using hm⟩⟩
theorem last_get {l : List Ent} (h : l ≠ []) : (l.getD (l.length - 1) Ent.z).term = lastT l := by
  have := List.length_pos_iff.2 h
  rw [lastT_eq h, List.getD_eq_getElem?_getD, List.getElem?_eq_getElem (by omega)]; rfl
theorem PW.commits {g : Grp} {i : Nat} {T : Int} {L0 : Nat → List Ent} (W : PW g i T L0) (hr : (g.at_ i).role = 2) (C : PL g i T) : PH (g.commit i) i T L0 := by
  have key : lastT (g.at_ i).log = T → (g.at_ i).log ≠ [] → comOk g i (g.at_ i).log.length = false → maj g.n (fun f => decide (f = i) || decide ((g.at_ i).acks f ≥ ((g.at_ i).log.length : Int))) = false := fun h1 h2 h3 => by
    unfold comOk at h3
    rw [last_get h2, h1, W.ti] at h3
    simpa using h3
  unfold Grp.commit; split
  · rename_i k hk
    obtain ⟨b1, b2, b3⟩ := comK_some hk
    refine W.shares (W.up i W.hi) W.ti hr (fun h1 h2 h3 => ?_)
    have hn : ((g.put i { g.at_ i with done := k }).share i).n = g.n := Grp.put_n _ _ _
    have hat : ((g.put i { g.at_ i with done := k }).share i).at_ i = { g.at_ i with done := k } := Grp.put_same _ W.hi
    rw [hat] at h1 h2 h3
    rw [hn, hat]
    exact key h1 h2 (comK_max hk _ h3 (Nat.le_refl _))
  · rename_i hk
    exact ⟨W, .inr ⟨hr, C, fun h1 h2 h3 => key h1 h2 (comK_none hk _ h3 (Nat.le_refl _))⟩⟩
/-- replica j answers i -/
structure Reply (g g' : Grp) (i j : Nat) (r : List Msg) (p : Peer) (x : Msg) : Prop where
  n : g'.n = g.n
  at_ : g'.at_ j = p
  oth : ∀ v, v ≠ j → g'.at_ v = g.at_ v
  ij : g'.q i j = r
  ji : g'.q j i = g.q j i ++ [x]
  els : ∀ a b, ¬ (a = i ∧ b = j) → ¬ (a = j ∧ b = i) → g'.q a b = g.q a b
theorem reply {g : Grp} {i j : Nat} (hj : j < g.n) (hij : i ≠ j) (r : List Msg) (p : Peer) (x : Msg) : Reply g (((g.pop i j r).put j p).send j i x) i j r p x := by
  refine ⟨Grp.put_n _ _ _, Grp.put_same p hj, fun v hv => Grp.put_ne p hv, ?_, ?_, fun a b h1 h2 => ?_⟩
  · show (if i = j ∧ j = i then _ else (if i = i ∧ j = j then r else g.q i j)) = r
    rw [if_neg (fun e => hij e.1), if_pos ⟨rfl, rfl⟩]
  · show (if j = j ∧ i = i then (if j = i ∧ i = j then r else g.q j i) ++ [x] else _) = _
    rw [if_pos ⟨rfl, rfl⟩, if_neg (fun e => hij e.2)]
  · show (if a = j ∧ b = i then _ else (if a = i ∧ b = j then r else g.q a b)) = _
    rw [if_neg h2, if_neg h1]
theorem PW.reply {g g' : Grp} {i j : Nat} {T : Int} {L0 : Nat → List Ent} (W : PW g i T L0) (hj : j < g.n) (hji : j ≠ i) {r : List Msg} {p : Peer} {x : Msg} (E : Reply g g' i j r p x) (hd : p.down = false) (ht : p.term = T) (hr : p.role = 0) (hs : ∀ m ∈ r, m ∈ g.q i j ∧ ∃ l d, m = .share T l d) (hx : (∃ y, x = .vote T y) ∨ ∃ k, x = .ack T k) : PW g' i T L0 := by
  have hai : g'.at_ i = g.at_ i := E.oth i (Ne.symm hji)
  refine ⟨fun v hv => ?_, by rw [E.n]; exact W.hi, by rw [hai]; exact W.ti, W.low, fun a b m hm => ?_, fun k hk hki => ?_⟩
  · rw [E.n] at hv
    by_cases e : v = j
    · rw [e, E.at_]; exact hd
    · rw [E.oth v e]; exact W.up v hv
  · rw [E.n, hai]
    by_cases e1 : a = i ∧ b = j
    · rw [e1.1, e1.2, E.ij] at hm
      rw [e1.1, e1.2]
      exact W.qs i j m (hs m hm).1
    · by_cases e2 : a = j ∧ b = i
      · rw [e2.1, e2.2, E.ji] at hm
        rw [e2.1, e2.2]
        rcases List.mem_append.1 hm with h | h
        · exact W.qs j i m h
        · rw [List.mem_singleton.1 h]; exact .inr ⟨rfl, hji, hj, hx⟩
      · rw [E.els a b e1 e2] at hm
        exact W.qs a b m hm
  · rw [E.n] at hk
    by_cases e : k = j
    · subst e
      rw [E.at_, E.ij]
      exact .inl ⟨ht, hr, fun m hm => (hs m hm).2⟩
    · rw [E.oth k e, E.els i k (fun h => e h.2) (fun h => hji h.1.symm), E.els k i (fun h => hki h.1) (fun h => e h.1)]
      exact W.tj k hk hki
/-- replica i notes what j sent -/
structure Note (g g' : Grp) (i j : Nat) (r : List Msg) (p : Peer) : Prop where
  n : g'.n = g.n
  at_ : g'.at_ i = p
  oth : ∀ v, v ≠ i → g'.at_ v = g.at_ v
  ji : g'.q j i = r
  els : ∀ a b, ¬ (a = j ∧ b = i) → g'.q a b = g.q a b
theorem note {g : Grp} {i j : Nat} (hi : i < g.n) (r : List Msg) (p : Peer) : Note g ((g.pop j i r).put i p) i j r p :=
  ⟨Grp.put_n _ _ _, Grp.put_same p hi, fun v hv => Grp.put_ne p hv, if_pos ⟨rfl, rfl⟩, fun a b h => if_neg h⟩
theorem PW.note {g g' : Grp} {i j : Nat} {T : Int} {L0 : Nat → List Ent} (W : PW g i T L0) (hj : j < g.n) (hji : j ≠ i) {m0 : Msg} {r : List Msg} {p : Peer} (E : Note g g' i j r p) (hq : g.q j i = m0 :: r) (hd : p.down = false) (ht : p.term = T) (hr : p.role = (g.at_ i).role) : PW g' i T L0 := by
  refine ⟨fun v hv => ?_, by rw [E.n]; exact W.hi, by rw [E.at_]; exact ht, W.low, fun a b m hm => ?_, fun k hk hki => ?_⟩
  · rw [E.n] at hv
    by_cases e : v = i
    · rw [e, E.at_]; exact hd
    · rw [E.oth v e]; exact W.up v hv
  · rw [E.n, E.at_, hr]
    by_cases e2 : a = j ∧ b = i
    · rw [e2.1, e2.2, E.ji] at hm
      rw [e2.1, e2.2]
      exact W.qs j i m (by rw [hq]; exact List.mem_cons_of_mem _ hm)
    · rw [E.els a b e2] at hm
      exact W.qs a b m hm
  · rw [E.n] at hk
    rw [E.oth k hki, E.els i k (fun h => hki h.2)]
    rcases W.tj k hk hki with h | ⟨c1, c2, c3⟩
    · exact .inl h
    · refine .inr ⟨c1, ?_, c3⟩
      have hne : ¬ (k = j ∧ i = i) := fun e => by rw [e.1, hq] at c2; cases c2
      rw [E.els k i hne]; exact c2
theorem Peer.step_eq {p : Peer} {t : Int} (h : t = p.term) : p.step t = p := by unfold Peer.step; rw [if_neg (by omega)]
theorem PH.deliver {g : Grp} {i : Nat} {T : Int} {L0 : Nat → List Ent} (H : PH g i T L0) (a b : Nat) : PH (g.deliver a b false).1 i T L0 ∧ ((g.at_ i).role = 2 → ((g.deliver a b false).1.at_ i).role = 2 ∧ ((g.deliver a b false).1.at_ i).log = (g.at_ i).log) := by
  have W := H.w
  unfold Grp.deliver
  split
  · rename_i hab
    obtain ⟨ha, hb, hne⟩ := hab
    split
    · exact ⟨H, fun h => ⟨h, rfl⟩⟩
    · rename_i m r hq
      have hin : m ∈ g.q a b := by rw [hq]; exact List.mem_cons_self ..
      dsimp only
      rw [if_pos ⟨rfl, W.up b hb⟩]
      rcases W.qs a b m hin with ⟨c1, c2, c3, c4⟩ | ⟨c1, c2, c3, c4⟩
      · subst c1
        rcases W.tj b hb c2 with ⟨d1, d2, d3⟩ | ⟨d1, d2, d3, X, d4, d5⟩
        · -- a log
          obtain ⟨l, d, rfl⟩ := d3 m hin
          have hrole : (g.at_ a).role = 2 := by
            rcases c4 with h | h
            · cases h
            · exact h.1
          have hp : ((g.pop a b r).at_ b).step T = g.at_ b := Peer.step_eq d1.symm
          unfold Grp.receive
          simp only [Msg.term, hp]
          rw [if_pos d1.symm]
          have E := Go.Proofs.Ytbjknckddoegfaa.reply (g := g) (i := a) hb hne r { g.at_ b with role := 0, log := l, done := max (g.at_ b).done d } (.ack (g.at_ b).term l.length)
          generalize hg' : ((g.pop a b r).put b { g.at_ b with role := 0, log := l, done := max (g.at_ b).done d }).send b a (.ack (g.at_ b).term l.length) = g' at *
          have hai : g'.at_ a = g.at_ a := E.oth a hne
          have hsr : ∀ m ∈ r, m ∈ g.q a b ∧ ∃ l d, m = .share T l d := fun m hm => ⟨by rw [hq]; exact List.mem_cons_of_mem _ hm, d3 m (by rw [hq]; exact List.mem_cons_of_mem _ hm)⟩
          have W' := W.reply hb c2 E (W.up b hb) d1 rfl hsr (.inr ⟨_, by rw [d1]⟩)
          obtain ⟨_, S, C⟩ := H.r.resolve_left (fun h => by rw [hrole] at h; cases h.1)
          have hlast : r = [] → l = (g.at_ a).log ∧ d = (g.at_ a).done := fun hr => by
            rcases S.sync b hb c2 with ⟨Y, hY⟩ | ⟨hY, _⟩
            · rw [hq, hr] at hY
              cases Y with
              | nil => simp at hY; exact hY
              | cons y Y => simp at hY
            · rw [hq] at hY; cases hY
          refine ⟨⟨W', .inr ⟨by rw [hai]; exact hrole, ⟨fun k hk hka => ?_, fun k hk hka => ?_⟩, ?_⟩⟩, fun _ => by rw [hai]; exact ⟨hrole, rfl⟩⟩
          · rw [E.n] at hk
            rw [hai]
            by_cases e : k = b
            · subst e
              rw [E.ij, E.at_]
              cases hr : r with
              | nil =>
                obtain ⟨e1, e2⟩ := hlast hr
                exact .inr ⟨rfl, e1, by show _ ≤ max _ _; omega⟩
              | cons y Y =>
                rcases S.sync k hb c2 with ⟨Z, hZ⟩ | ⟨hZ, _⟩
                · rw [hq, hr] at hZ
                  cases Z with
                  | nil => simp at hZ
                  | cons z Z => exact .inl ⟨Z, by simp only [List.cons_append, List.cons.injEq] at hZ; exact hZ.2⟩
                · rw [hq] at hZ; cases hZ
            · rw [E.els a k (fun h => e h.2) (fun h => hne h.1), E.oth k e]
              exact S.sync k hk hka
          · rw [E.n] at hk
            rw [hai]
            by_cases e : k = b
            · subst e
              rw [E.ij, E.ji]
              cases hr : r with
              | nil =>
                obtain ⟨e1, e2⟩ := hlast hr
                exact .inr (.inl (by rw [← e1, d1]; simp))
              | cons y Y => exact .inl (by simp)
            · rw [E.els a k (fun h => e h.2) (fun h => hne h.1), E.els k a (fun h => hka h.1) (fun h => e h.1)]
              exact S.ackd k hk hka
          · unfold Comd at C ⊢
            rw [hai, E.n]; exact C
        · -- an ask
          rw [hq] at d4
          simp only [List.cons.injEq] at d4
          obtain ⟨rfl, rfl⟩ := d4
          have hp : ((g.pop a b r).at_ b).step T = { g.at_ b with term := T, vote := -1, role := 0 } := by
            show (g.at_ b).step T = _
            unfold Peer.step; rw [if_pos d1]
          unfold Grp.receive
          simp only [Msg.term, hp]
          generalize hgr : Peer.grants { g.at_ b with term := T, vote := -1, role := 0 } a T (lastT (L0 a)) ((L0 a).length : Int) = ok
          have hok : fresher (L0 b) (L0 a) → ok = true := fun hf => by
            rw [← hgr]
            unfold Peer.grants
            unfold fresher at hf
            rw [← d3] at hf
            simp only [Bool.and_eq_true, Bool.or_eq_true, decide_eq_true_eq]
            refine ⟨⟨trivial, .inl trivial⟩, ?_⟩
            rcases hf with h | ⟨h1, h2⟩
            · exact .inl h
            · exact .inr ⟨h1.symm, by omega⟩
          generalize hp' : (if ok = true then ({ g.at_ b with term := T, vote := (a : Int), role := 0 } : Peer) else { g.at_ b with term := T, vote := -1, role := 0 }) = p'
          have p1 : p'.term = T := by rw [← hp']; split <;> rfl
          have p2 : p'.role = 0 := by rw [← hp']; split <;> rfl
          have p3 : p'.log = (g.at_ b).log := by rw [← hp']; split <;> rfl
          have p4 : p'.down = (g.at_ b).down := by rw [← hp']; split <;> rfl
          have E := Go.Proofs.Ytbjknckddoegfaa.reply (g := g) (i := a) hb hne r p' (.vote T ok)
          generalize hg' : ((g.pop a b r).put b p').send b a (.vote T ok) = g' at *
          have hai : g'.at_ a = g.at_ a := E.oth a hne
          have hsr : ∀ m ∈ r, m ∈ g.q a b ∧ ∃ l d, m = .share T l d := fun m hm => ⟨by rw [hq]; exact List.mem_cons_of_mem _ hm, d5 m hm⟩
          have W' := W.reply hb c2 E (by rw [p4]; exact W.up b hb) p1 p2 hsr (.inl ⟨_, rfl⟩)
          refine ⟨⟨W', ?_⟩, fun h => by rw [hai]; exact ⟨h, rfl⟩⟩
          rcases H.r with ⟨r1, C, r2⟩ | ⟨r1, S, C⟩
          · refine .inl ⟨by rw [hai]; exact r1, ⟨fun v hv => ?_, by rw [hai]; exact C.self, fun k hk hka hkt hf => ?_⟩, by rw [hai, E.n]; exact r2⟩
            · rw [E.n] at hv
              by_cases e : v = b
              · rw [e, E.at_, p3]; exact C.logs b hb
              · rw [E.oth v e]; exact C.logs v hv
            · rw [E.n] at hk
              rw [hai]
              by_cases e : k = b
              · subst e
                rw [E.ji, hok hf]
                exact .inr (by simp)
              · rw [E.oth k e] at hkt
                rw [E.els k a (fun h => hka h.1) (fun h => e h.1)]
                exact C.got k hk hka hkt hf
          · refine .inr ⟨by rw [hai]; exact r1, ⟨fun k hk hka => ?_, fun k hk hka => ?_⟩, ?_⟩
            · rw [E.n] at hk
              rw [hai]
              by_cases e : k = b
              · subst e
                rw [E.ij]
                rcases S.sync k hb c2 with ⟨Z, hZ⟩ | ⟨hZ, _⟩
                · rw [hq] at hZ
                  cases Z with
                  | nil => simp at hZ
                  | cons z Z => exact .inl ⟨Z, by simp only [List.cons_append, List.cons.injEq] at hZ; exact hZ.2⟩
                · rw [hq] at hZ; cases hZ
              · rw [E.els a k (fun h => e h.2) (fun h => hne h.1), E.oth k e]
                exact S.sync k hk hka
            · rw [E.n] at hk
              rw [hai]
              by_cases e : k = b
              · subst e
                rw [E.ij]
                rcases S.sync k hb c2 with ⟨Z, hZ⟩ | ⟨hZ, _⟩
                · rw [hq] at hZ
                  cases Z with
                  | nil => simp at hZ
                  | cons z Z =>
                    simp only [List.cons_append, List.cons.injEq] at hZ
                    exact .inl (by rw [hZ.2]; simp)
                · rw [hq] at hZ; cases hZ
              · rw [E.els a k (fun h => e h.2) (fun h => hne h.1), E.els k a (fun h => hka h.1) (fun h => e h.1)]
                exact S.ackd k hk hka
            · unfold Comd at C ⊢
              rw [hai, E.n]; exact C
      · subst c1
        have hmt : m.term = T := by rcases c4 with ⟨x, rfl⟩ | ⟨k, rfl⟩ <;> rfl
        have hp : ((g.pop a b r).at_ b).step m.term = g.at_ b := Peer.step_eq (by rw [hmt]; exact W.ti.symm)
        -- nothing is noted
        have same : (∀ y, m = .vote T y → (g.at_ b).role = 1 → y = false) → (∀ k, m = .ack T k → (g.at_ b).role ≠ 2) → PH ((g.pop a b r).put b (g.at_ b)) b T L0 ∧ ((g.at_ b).role = 2 → (((g.pop a b r).put b (g.at_ b)).at_ b).role = 2 ∧ (((g.pop a b r).put b (g.at_ b)).at_ b).log = (g.at_ b).log) := fun hv hk => by
          have E := Go.Proofs.Ytbjknckddoegfaa.note (g := g) (j := a) hb r (g.at_ b)
          have W' := W.note ha c2 E hq (W.up b hb) W.ti rfl
          generalize (g.pop a b r).put b (g.at_ b) = g' at *
          refine ⟨⟨W', ?_⟩, fun h => by rw [E.at_]; exact ⟨h, rfl⟩⟩
          rcases H.r with ⟨r1, C, r2⟩ | ⟨r1, S, C⟩
          · refine .inl ⟨by rw [E.at_]; exact r1, ⟨fun v hv' => ?_, by rw [E.at_]; exact C.self, fun k hk' hka hkt hf => ?_⟩, by rw [E.at_, E.n]; exact r2⟩
            · rw [E.n] at hv'
              by_cases e : v = b
              · rw [e, E.at_]; exact C.logs b hb
              · rw [E.oth v e]; exact C.logs v hv'
            · rw [E.n] at hk'
              rw [E.at_]
              rw [E.oth k hka] at hkt
              have h := C.got k hk' hka hkt hf
              by_cases e : k = a
              · subst e
                rw [E.ji]
                rcases h with h | h
                · exact .inl h
                · rw [hq] at h
                  rcases List.mem_cons.1 h with h | h
                  · have := hv true h.symm r1; cases this
                  · exact .inr h
              · rw [E.els k b (fun h => e h.1)]; exact h
          · refine .inr ⟨by rw [E.at_]; exact r1, ⟨fun k hk' hka => ?_, fun k hk' hka => ?_⟩, ?_⟩
            · rw [E.n] at hk'
              rw [E.at_, E.oth k hka, E.els b k (fun h => hka h.2)]
              exact S.sync k hk' hka
            · rw [E.n] at hk'
              rw [E.at_, E.els b k (fun h => hka h.2)]
              have h := S.ackd k hk' hka
              by_cases e : k = a
              · subst e
                rw [E.ji]
                rcases h with h | h | h
                · exact .inl h
                · rw [hq] at h
                  rcases List.mem_cons.1 h with h | h
                  · exact absurd r1 (hk _ h.symm)
                  · exact .inr (.inl h)
                · exact .inr (.inr h)
              · rw [E.els k b (fun h => e h.1)]; exact h
            · unfold Comd at C ⊢
              rw [E.at_, E.n]; exact C
        rcases c4 with ⟨x, rfl⟩ | ⟨k, rfl⟩
        · unfold Grp.receive
          simp only [Msg.term] at hp ⊢
          simp only [hp]
          split
          · rename_i hc
            have E := Go.Proofs.Ytbjknckddoegfaa.note (g := g) (j := a) hb r { g.at_ b with votes := fun k => if k = a then true else (g.at_ b).votes k }
            have W' := W.note ha c2 E hq (W.up b hb) W.ti rfl
            obtain ⟨r1, C, r2⟩ := H.r.resolve_right (fun h => by rw [hc.1] at h; cases h.1)
            refine ⟨W'.leads (by rw [E.at_]; exact hc.1) ⟨fun v hv' => ?_, ?_, fun k hk' hka hkt hf => ?_⟩, fun h => by rw [hc.1] at h; cases h⟩
            · rw [E.n] at hv'
              by_cases e : v = b
              · rw [e, E.at_]; exact C.logs b hb
              · rw [E.oth v e]; exact C.logs v hv'
            · rw [E.at_]
              show (if b = a then true else (g.at_ b).votes b) = true
              rw [C.self]; split <;> rfl
            · rw [E.n] at hk'
              rw [E.oth k hka] at hkt
              have h := C.got k hk' hka hkt hf
              rw [E.at_]
              by_cases e : k = a
              · exact .inl (if_pos e)
              · rw [E.els k b (fun h => e h.1)]
                refine h.imp (fun h => ?_) id
                show (if k = a then true else (g.at_ b).votes k) = true
                rw [if_neg e]; exact h
          · rename_i hc
            exact same (fun y hy hr => by
              cases hy
              cases x with
              | false => rfl
              | true => exact absurd ⟨hr, W.ti.symm, rfl⟩ hc) (fun k hk => by cases hk)
        · unfold Grp.receive
          simp only [Msg.term] at hp ⊢
          simp only [hp]
          split
          · rename_i hc
            have E := Go.Proofs.Ytbjknckddoegfaa.note (g := g) (j := a) hb r { g.at_ b with acks := fun f => if f = a then max ((g.at_ b).acks a) k else (g.at_ b).acks f }
            have W' := W.note ha c2 E hq (W.up b hb) W.ti rfl
            obtain ⟨r1, S, C⟩ := H.r.resolve_left (fun h => by rw [hc.1] at h; cases h.1)
            generalize (g.pop a b r).put b { g.at_ b with acks := fun f => if f = a then max ((g.at_ b).acks a) k else (g.at_ b).acks f } = g' at *
            have hr' : (g'.at_ b).role = 2 := by rw [E.at_]; exact hc.1
            have P' : PL g' b T := by
              refine ⟨fun f hk' hka => ?_, fun f hk' hka => ?_⟩
              · rw [E.n] at hk'
                rw [E.at_, E.oth f hka, E.els b f (fun h => hka h.2)]
                exact S.sync f hk' hka
              · rw [E.n] at hk'
                rw [E.at_, E.els b f (fun h => hka h.2)]
                have h := S.ackd f hk' hka
                by_cases e : f = a
                · subst e
                  rw [E.ji]
                  show _ ∨ _ ∨ _ ≤ (if f = f then max ((g.at_ b).acks f) k else _)
                  rw [if_pos rfl]
                  rcases h with h | h | h
                  · exact .inl h
                  · rw [hq] at h
                    rcases List.mem_cons.1 h with h | h
                    · cases h
                      exact .inr (.inr (by show ((g.at_ b).log.length : Int) ≤ max _ _; omega))
                    · exact .inr (.inl h)
                  · exact .inr (.inr (by show ((g.at_ b).log.length : Int) ≤ max _ _; omega))
                · rw [E.els f b (fun h => e h.1)]
                  show _ ∨ _ ∨ _ ≤ (if f = a then _ else (g.at_ b).acks f)
                  rw [if_neg e]; exact h
            refine ⟨W'.commits hr' P', fun _ => ?_⟩
            unfold Grp.commit
            have hb' : b < g'.n := by rw [E.n]; exact hb
            split
            · rw [Grp.share_at, Grp.put_same _ hb']
              exact ⟨hr', by show (g'.at_ b).log = _; rw [E.at_]⟩
            · exact ⟨hr', by rw [E.at_]⟩
          · rename_i hc
            exact same (fun y hy => by cases hy) (fun k hk hr => hc ⟨hr, W.ti.symm⟩)
  · exact ⟨H, fun h => ⟨h, rfl⟩⟩
end Go.Proofs.Ytbjknckddoegfaa
