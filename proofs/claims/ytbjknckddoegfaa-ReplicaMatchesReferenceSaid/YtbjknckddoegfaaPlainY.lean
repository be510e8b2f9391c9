/- Layer 48: majorities; what an operation leaves alone; a measure of what is under way. No program in sight. No condition. -/
import Derived.Test.YtbjknckddoegfaaPlainX
namespace Go.Proofs.Ytbjknckddoegfaa
open Go Go.Gw
set_option linter.unusedSimpArgs false
set_option linter.unusedVariables false
theorem Grp.share_at (g : Grp) (i v : Nat) : (g.share i).at_ v = g.at_ v := rfl
theorem Grp.send_at (g : Grp) (i j : Nat) (m : Msg) (v : Nat) : (g.send i j m).at_ v = g.at_ v := rfl
theorem Grp.pop_at (g : Grp) (i j : Nat) (r : List Msg) (v : Nat) : (g.pop i j r).at_ v = g.at_ v := rfl
theorem Grp.lead_at (g : Grp) {i v : Nat} (h : v ≠ i) : (g.lead i).at_ v = g.at_ v := by
  unfold Grp.lead; split
  · rw [Grp.share_at, Grp.put_ne _ h]
  · rfl
theorem Grp.commit_at (g : Grp) {i v : Nat} (h : v ≠ i) : (g.commit i).at_ v = g.at_ v := by
  unfold Grp.commit; split
  · rw [Grp.share_at, Grp.put_ne _ h]
  · rfl
theorem Grp.receive_at (g : Grp) {i j v : Nat} (m : Msg) (h : v ≠ j) : (g.receive i j m).at_ v = g.at_ v := by
  unfold Grp.receive
  cases m <;> dsimp only <;> (try split) <;> simp only [Grp.send_at, Grp.lead_at _ h, Grp.commit_at _ h, Grp.put_ne _ h]
theorem Grp.deliver_at (g : Grp) {i j v : Nat} (b : Bool) (h : v ≠ j ∨ (g.at_ v).down = true) : (g.deliver i j b).1.at_ v = g.at_ v := by
  unfold Grp.deliver
  split
  · split
    · rfl
    · dsimp only; split
      · rename_i hc
        rw [Grp.receive_at _ _ (by
          rcases h with h | h
          · exact h
          · intro e; subst e; rw [hc.2] at h; cases h), Grp.pop_at]
      · rfl
  · rfl
/-- a stopped replica stays as it is -/
theorem Grp.act_down (g : Grp) {k a b v : Nat} {r : ByteArray} (hk : k < 5) (hd : (g.at_ v).down = true) : (g.act k a b r).at_ v = g.at_ v := by
  unfold Grp.act
  split; exact Grp.deliver_at _ _ (.inr hd)
  split; exact Grp.deliver_at _ _ (.inr hd)
  split
  · unfold Grp.elect; split
    · rename_i h
      have hne : v ≠ a := fun e => by subst e; rw [hd] at h; cases h.2
      rw [Grp.lead_at _ hne, Grp.all_at, Grp.put_ne _ hne]
    · rfl
  split
  · unfold Grp.propose; split
    · rfl
    · rename_i i h
      have hb := (bestTo_some (taker_some h).2.1).2.2
      have hne : v ≠ i := fun e => by subst e; rw [hd] at hb; cases hb
      rw [Grp.commit_at _ hne, Grp.share_at, Grp.put_ne _ hne]
  split
  · unfold Grp.crash; split
    · rename_i h
      have hne : v ≠ a := fun e => by subst e; exact h.2 hd
      rw [Grp.put_ne _ hne]
    · rfl
  · omega
theorem Grp.crash_down (g : Grp) {i : Nat} (hi : i < g.n) : ((g.crash i true).at_ i).down = true := by
  unfold Grp.crash; split
  · rw [Grp.put_same _ hi]
  · rename_i h
    cases hd : (g.at_ i).down with
    | true => rfl
    | false => exact absurd ⟨hi, by simp [hd]⟩ h
theorem Grp.crash_ne (g : Grp) {i v : Nat} (b : Bool) (h : v ≠ i) : (g.crash i b).at_ v = g.at_ v := by
  unfold Grp.crash; split
  · exact Grp.put_ne _ h
  · rfl
theorem Maj.low {n m : Nat} {S : Nat → Prop} (h : Maj n S) (hm : 2 * (n - m) ≤ n) : ∃ v, v < m ∧ S v := by
  obtain ⟨l, d, hl, c⟩ := h
  by_cases he : ∃ v ∈ l, v < m
  · obtain ⟨v, hv, hvm⟩ := he; exact ⟨v, hvm, (hl v hv).2⟩
  · have h1 : ∀ v ∈ l, m ≤ v := fun v hv => Nat.le_of_not_lt fun h => he ⟨v, hv, h⟩
    have d2 : (l.map (· - m)).Nodup := by
      rw [List.nodup_iff_pairwise_ne, List.pairwise_map]
      rw [List.nodup_iff_pairwise_ne] at d
      exact d.imp_of_mem fun {a b} ha hb hab => by have := h1 a ha; have := h1 b hb; omega
    have := nodup_le d2 (n := n - m) (fun v hv => by
      obtain ⟨x, hx, rfl⟩ := List.mem_map.1 hv
      have := (hl x hx).1; have := h1 x hx; omega)
    rw [List.length_map] at this
    omega
/-- while the first m replicas are down, nobody commits what they do not have -/
theorem RI.major {g : Grp} {γ : Gh} (R : RI g γ) {m : Nat} {t : ByteArray} (hm : 2 * (g.n - m) ≤ g.n) (hmn : m ≤ g.n) (hno : ∀ v, v < m → ∀ e ∈ (g.at_ v).log, e.txt ≠ t) {i : Nat} (hi : i < g.n) : t ∉ (g.at_ i).recs := fun hin => by
  obtain ⟨k, hk, e⟩ := List.getElem_of_mem hin
  unfold Peer.recs at hk e
  rw [List.getElem_map] at e
  rw [List.length_map] at hk
  have hd : k < (g.at_ i).done := by rw [List.length_take] at hk; omega
  obtain ⟨t', k', c1, c2, c3, c4⟩ := (R.peers i hi).done.com.resolve_left (by omega)
  obtain ⟨hk2, e1⟩ := pre_get c4 hk
  rw [e1] at e
  obtain ⟨v, hv, hvk⟩ := c1.maj.low hm
  have Pv := R.peers v (by omega)
  obtain ⟨b1, b2⟩ := Pv.had t' (by omega)
  have hpre : (γ.h.llog t').take k' <+: (g.at_ v).log := by
    by_cases es : γ.src v = t'
    · have h2 := b2 es
      have hlo := Pv.log
      rw [es] at hlo
      exact pre_of_len (List.take_prefix _ _) hlo.hi (by rw [List.length_take]; omega)
    · exact (c1.later R.ok _ (γ.src v) (Nat.le_refl _) (by omega) Pv.log.led).trans Pv.log.lo
  have hk3 : k < ((γ.h.llog t').take k').length := by rw [List.length_take]; have := c1.len; omega
  obtain ⟨hk4, e2⟩ := pre_get hpre hk3
  rw [List.getElem_take] at e2
  exact hno v hv _ (List.getElem_mem hk4) (by rw [← e2]; exact e)
def sumN : Nat → (Nat → Nat) → Nat
  | 0, _ => 0
  | k + 1, f => sumN k f + f k
theorem sumN_congr {f g : Nat → Nat} : ∀ {n : Nat}, (∀ a, a < n → f a = g a) → sumN n f = sumN n g
  | 0, _ => rfl
  | n + 1, h => by unfold sumN; rw [sumN_congr (fun a ha => h a (by omega)), h n (by omega)]
theorem sumN_le {f g : Nat → Nat} : ∀ {n : Nat}, (∀ a, a < n → f a ≤ g a) → sumN n f ≤ sumN n g
  | 0, _ => Nat.le_refl _
  | n + 1, h => by unfold sumN; have := sumN_le (n := n) (fun a ha => h a (by omega)); have := h n (by omega); omega
theorem sumN_const (c : Nat) : ∀ n : Nat, sumN n (fun _ => c) = n * c
  | 0 => by simp [sumN]
  | n + 1 => by unfold sumN; rw [sumN_const c n, Nat.add_mul]; dsimp only; omega
theorem sumN_add (f g : Nat → Nat) : ∀ n : Nat, sumN n (fun a => f a + g a) = sumN n f + sumN n g
  | 0 => rfl
  | n + 1 => by unfold sumN; rw [sumN_add f g n]; dsimp only; omega
/-- two functions that differ at i -/
theorem sumN_at {f g : Nat → Nat} {i : Nat} : ∀ {n : Nat}, i < n → (∀ a, a < n → a ≠ i → f a = g a) → sumN n f + g i = sumN n g + f i
  | 0, h, _ => by omega
  | n + 1, h, he => by
    unfold sumN
    by_cases e : i = n
    · subst e
      rw [sumN_congr (fun a ha => he a (by omega) (by omega))]; omega
    · have := sumN_at (f := f) (g := g) (i := i) (n := n) (by omega) (fun a ha h => he a (by omega) h)
      rw [he n (by omega) (fun h => e h.symm)]; omega
def Msg.wt : Msg → Nat
  | .ask _ _ _ => 2
  | .vote _ _ => 1
  | .share _ _ _ => 2
  | .ack _ _ => 1
def qw (l : List Msg) : Nat := (l.map Msg.wt).sum
theorem qw_cons (m : Msg) (l : List Msg) : qw (m :: l) = m.wt + qw l := by simp [qw]
theorem qw_snoc (m : Msg) (l : List Msg) : qw (l ++ [m]) = qw l + m.wt := by simp [qw]
/-- the messages -/
def Grp.qs (g : Grp) : Nat := sumN g.n fun a => sumN g.n fun b => qw (g.q a b)
def Peer.pw (p : Peer) : Nat := if p.role = 1 then 12 + 12 * (p.log.length - p.done) else if p.role = 2 then 12 * (p.log.length - p.done) else 0
def Grp.ps_ (g : Grp) : Nat := sumN g.n fun v => (g.at_ v).pw
def Grp.pot (g : Grp) : Nat := g.qs + g.ps_
theorem Grp.qs_put (g : Grp) (i : Nat) (p : Peer) : (g.put i p).qs = g.qs := by unfold Grp.qs; rw [Grp.put_n]; rfl
theorem Grp.ps_put {g : Grp} {i : Nat} (p : Peer) (h : i < g.n) : (g.put i p).ps_ + (g.at_ i).pw = g.ps_ + p.pw := by
  unfold Grp.ps_
  rw [Grp.put_n]
  have := sumN_at (f := fun v => ((g.put i p).at_ v).pw) (g := fun v => (g.at_ v).pw) h (fun a _ hne => by rw [Grp.put_ne _ hne])
  rw [Grp.put_same _ h] at this
  exact this
theorem Grp.qs_upd {g g' : Grp} (hn : g'.n = g.n) {i j : Nat} (hi : i < g.n) (hj : j < g.n) (h : ∀ a b, ¬ (a = i ∧ b = j) → g'.q a b = g.q a b) : g'.qs + qw (g.q i j) = g.qs + qw (g'.q i j) := by
  unfold Grp.qs
  rw [hn]
  have h1 := sumN_at (f := fun b => qw (g'.q i b)) (g := fun b => qw (g.q i b)) hj (fun b _ hne => by rw [h i b (fun e => hne e.2)])
  have h2 := sumN_at (f := fun a => sumN g.n fun b => qw (g'.q a b)) (g := fun a => sumN g.n fun b => qw (g.q a b)) hi (fun a _ hne => sumN_congr (fun b _ => by rw [h a b (fun e => hne e.1)]))
  omega
theorem Grp.qs_send {g : Grp} {i j : Nat} (m : Msg) (hi : i < g.n) (hj : j < g.n) : (g.send i j m).qs = g.qs + m.wt := by
  have := Grp.qs_upd (g := g) (g' := g.send i j m) rfl hi hj (fun a b h => if_neg h)
  have e : (g.send i j m).q i j = g.q i j ++ [m] := if_pos ⟨rfl, rfl⟩
  rw [e, qw_snoc] at this
  omega
theorem Grp.qs_pop {g : Grp} {i j : Nat} {m : Msg} {r : List Msg} (hi : i < g.n) (hj : j < g.n) (h : g.q i j = m :: r) : (g.pop i j r).qs + m.wt = g.qs := by
  have := Grp.qs_upd (g := g) (g' := g.pop i j r) rfl hi hj (fun a b h => if_neg h)
  have e : (g.pop i j r).q i j = r := if_pos ⟨rfl, rfl⟩
  rw [e, h, qw_cons] at this
  omega
theorem Grp.qs_all {g : Grp} {i : Nat} (m : Msg) (hi : i < g.n) : (g.all i m).qs + m.wt ≤ g.qs + g.n * m.wt := by
  have h2 := sumN_at (f := fun a => sumN g.n fun b => qw ((g.all i m).q a b)) (g := fun a => sumN g.n fun b => qw (g.q a b)) hi (fun a _ hne => sumN_congr (fun b _ => by
    have : (g.all i m).q a b = g.q a b := if_neg (fun e => hne e.1)
    rw [this]))
  have h3 := sumN_at (f := fun b => qw ((g.all i m).q i b)) (g := fun b => qw (g.q i b) + m.wt) hi (fun b hb hne => by
    have : (g.all i m).q i b = g.q i b ++ [m] := if_pos ⟨rfl, hne, hb⟩
    rw [this, qw_snoc])
  have h4 : (g.all i m).q i i = g.q i i := if_neg (fun e => e.2.1 rfl)
  rw [sumN_add, sumN_const] at h3
  rw [h4] at h3
  unfold Grp.qs
  rw [Grp.all_n]
  omega
theorem Peer.step_pw (p : Peer) (t : Int) : (p.step t).pw ≤ p.pw := by
  unfold Peer.step; split
  · exact Nat.zero_le _
  · exact Nat.le_refl _
theorem Grp.share_qs {g : Grp} {i : Nat} (hi : i < g.n) (h7 : g.n ≤ 7) : (g.share i).qs ≤ g.qs + 12 := by
  have := Grp.qs_all (g := g) (.share (g.at_ i).term (g.at_ i).log (g.at_ i).done) hi
  have e : (Msg.share (g.at_ i).term (g.at_ i).log (g.at_ i).done).wt = 2 := rfl
  rw [e] at this
  show (g.all i _).qs ≤ _
  omega
theorem Grp.share_ps (g : Grp) (i : Nat) : (g.share i).ps_ = g.ps_ := rfl
theorem Grp.lead_pot {g : Grp} {i : Nat} (hi : i < g.n) (h7 : g.n ≤ 7) (hr : (g.at_ i).role = 1) : (g.lead i).pot ≤ g.pot ∧ (g.lead i).qs ≤ g.qs + 12 := by
  unfold Grp.lead; split
  · have h1 := Grp.ps_put (g.at_ i).lead hi
    have hn := Grp.put_n g i (g.at_ i).lead
    have h2 := Grp.share_qs (g := g.put i (g.at_ i).lead) (by rw [hn]; exact hi) (by rw [hn]; exact h7)
    rw [Grp.qs_put] at h2
    have e1 : (g.at_ i).pw = 12 + 12 * ((g.at_ i).log.length - (g.at_ i).done) := by unfold Peer.pw; rw [if_pos hr]
    have e2 : (g.at_ i).lead.pw = 12 * ((g.at_ i).log.length - (g.at_ i).done) := rfl
    refine ⟨?_, h2⟩
    unfold Grp.pot
    rw [Grp.share_ps]
    change ((g.put i (g.at_ i).lead).share i).qs + (g.put i (g.at_ i).lead).ps_ ≤ _
    omega
  · exact ⟨Nat.le_refl _, by omega⟩
theorem Grp.commit_pot {g : Grp} {i : Nat} (hi : i < g.n) (h7 : g.n ≤ 7) (hr : (g.at_ i).role = 2) : (g.commit i).pot ≤ g.pot ∧ (g.commit i).qs ≤ g.qs + 12 := by
  unfold Grp.commit; split
  · rename_i k hk
    obtain ⟨b1, b2, _⟩ := comK_some hk
    have h1 := Grp.ps_put { g.at_ i with done := k } hi
    have hn := Grp.put_n g i { g.at_ i with done := k }
    have h2 := Grp.share_qs (g := g.put i { g.at_ i with done := k }) (by rw [hn]; exact hi) (by rw [hn]; exact h7)
    rw [Grp.qs_put] at h2
    have e1 : (g.at_ i).pw = 12 * ((g.at_ i).log.length - (g.at_ i).done) := by unfold Peer.pw; rw [hr]; rfl
    have e2 : ({ g.at_ i with done := k } : Peer).pw = 12 * ((g.at_ i).log.length - k) := by unfold Peer.pw; dsimp only; rw [hr]; rfl
    refine ⟨?_, h2⟩
    unfold Grp.pot
    rw [Grp.share_ps]
    omega
  · exact ⟨Nat.le_refl _, by omega⟩
theorem Grp.receive_pot {g : Grp} {i j : Nat} (m : Msg) (hi : i < g.n) (hj : j < g.n) (h7 : g.n ≤ 7) : (g.receive i j m).pot < g.pot + m.wt ∧ (g.receive i j m).qs ≤ g.qs + 12 := by
  have hs := Peer.step_pw (g.at_ j) m.term
  have key : ∀ p : Peer, p.pw ≤ ((g.at_ j).step m.term).pw → (g.put j p).pot ≤ g.pot ∧ (g.put j p).qs = g.qs := fun p hp => by
    have h1 := Grp.ps_put p hj
    refine ⟨?_, Grp.qs_put _ _ _⟩
    unfold Grp.pot
    rw [Grp.qs_put]; omega
  have sd : ∀ (p : Peer) (x : Msg), p.pw ≤ ((g.at_ j).step m.term).pw → x.wt = 1 → ((g.put j p).send j i x).pot ≤ g.pot + 1 ∧ ((g.put j p).send j i x).qs ≤ g.qs + 12 := fun p x hp hx => by
    obtain ⟨h1, h2⟩ := key p hp
    have hn := Grp.put_n g j p
    have h3 := Grp.qs_send (g := g.put j p) (i := j) (j := i) x (by rw [hn]; exact hj) (by rw [hn]; exact hi)
    have h4 : ((g.put j p).send j i x).ps_ = (g.put j p).ps_ := rfl
    unfold Grp.pot at h1 ⊢
    omega
  unfold Grp.receive
  generalize hp : (g.at_ j).step m.term = p at *
  cases m with
  | ask t l n =>
    dsimp only
    obtain ⟨h1, h2⟩ := sd (if p.grants i t l n = true then { p with vote := (i : Int) } else p) (.vote p.term (p.grants i t l n)) (by split <;> exact Nat.le_refl _) rfl
    have : (Msg.ask t l n).wt = 2 := rfl
    exact ⟨by omega, h2⟩
  | vote t b =>
    have hw : (Msg.vote t b).wt = 1 := rfl
    dsimp only
    split
    · rename_i hc
      obtain ⟨h1, h2⟩ := key { p with votes := fun k => if k = i then true else p.votes k } (Nat.le_refl _)
      have hn := Grp.put_n g j { p with votes := fun k => if k = i then true else p.votes k }
      obtain ⟨h3, h4⟩ := Grp.lead_pot (g := g.put j { p with votes := fun k => if k = i then true else p.votes k }) (i := j) (by rw [hn]; exact hj) (by rw [hn]; exact h7) (by rw [Grp.put_same _ hj]; exact hc.1)
      exact ⟨by omega, by omega⟩
    · obtain ⟨h1, h2⟩ := key p (Nat.le_refl _)
      exact ⟨by omega, by omega⟩
  | share t l d =>
    have hw : (Msg.share t l d).wt = 2 := rfl
    dsimp only
    split
    · obtain ⟨h1, h2⟩ := sd { p with role := 0, log := l, done := max p.done d } (.ack p.term l.length) (Nat.zero_le _) rfl
      exact ⟨by omega, h2⟩
    · obtain ⟨h1, h2⟩ := sd p (.ack p.term 0) (Nat.le_refl _) rfl
      exact ⟨by omega, h2⟩
  | ack t n =>
    have hw : (Msg.ack t n).wt = 1 := rfl
    dsimp only
    split
    · rename_i hc
      obtain ⟨h1, h2⟩ := key { p with acks := fun k => if k = i then max (p.acks i) n else p.acks k } (Nat.le_refl _)
      have hn := Grp.put_n g j { p with acks := fun k => if k = i then max (p.acks i) n else p.acks k }
      obtain ⟨h3, h4⟩ := Grp.commit_pot (g := g.put j { p with acks := fun k => if k = i then max (p.acks i) n else p.acks k }) (i := j) (by rw [hn]; exact hj) (by rw [hn]; exact h7) (by rw [Grp.put_same _ hj]; exact hc.1)
      exact ⟨by omega, by omega⟩
    · obtain ⟨h1, h2⟩ := key p (Nat.le_refl _)
      exact ⟨by omega, by omega⟩
/-- each delivery uses something up -/
theorem Grp.deliver_pot {g : Grp} (h7 : g.n ≤ 7) (i j : Nat) (lost : Bool) : ((g.deliver i j lost).2 = true → (g.deliver i j lost).1.pot < g.pot) ∧ ((g.deliver i j lost).2 = false → (g.deliver i j lost).1 = g) ∧ (g.deliver i j lost).1.qs ≤ g.qs + 12 := by
  unfold Grp.deliver
  split
  · rename_i hc
    obtain ⟨hi, hj, hij⟩ := hc
    split
    · exact ⟨fun h => (by cases h), fun _ => rfl, Nat.le_add_right _ _⟩
    · rename_i m r hq
      have h1 := Grp.qs_pop hi hj hq
      have hw : 0 < m.wt := by cases m <;> simp [Msg.wt]
      have h2 : (g.pop i j r).pot + m.wt = g.pot := by
        unfold Grp.pot
        have : (g.pop i j r).ps_ = g.ps_ := rfl
        omega
      dsimp only
      refine ⟨fun _ => ?_, fun h => (by cases h), ?_⟩
      · split
        · have := (Grp.receive_pot (g := g.pop i j r) (i := i) (j := j) m hi hj h7).1
          omega
        · omega
      · split
        · have := (Grp.receive_pot (g := g.pop i j r) (i := i) (j := j) m hi hj h7).2
          omega
        · omega
  · exact ⟨fun h => (by cases h), fun _ => rfl, Nat.le_add_right _ _⟩
theorem Grp.elect_qs {g : Grp} (h7 : g.n ≤ 7) (i : Nat) : (g.elect i).qs ≤ g.qs + 24 := by
  unfold Grp.elect; split
  · rename_i h
    have hn := Grp.put_n g i ((g.at_ i).ask i)
    have h1 := Grp.qs_all (g := g.put i ((g.at_ i).ask i)) (i := i) (.ask ((g.at_ i).term + 1) (lastT (g.at_ i).log) (g.at_ i).log.length) (by rw [hn]; exact h.1)
    have e : (Msg.ask ((g.at_ i).term + 1) (lastT (g.at_ i).log) (g.at_ i).log.length).wt = 2 := rfl
    rw [e, Grp.qs_put, hn] at h1
    have h2 := (Grp.lead_pot (g := (g.put i ((g.at_ i).ask i)).all i (.ask ((g.at_ i).term + 1) (lastT (g.at_ i).log) (g.at_ i).log.length)) (i := i) (by rw [Grp.all_n, hn]; exact h.1) (by rw [Grp.all_n, hn]; exact h7) (by rw [Grp.all_at, Grp.put_same _ h.1]; rfl)).2
    omega
  · omega
theorem Grp.propose_qs {g : Grp} (h7 : g.n ≤ 7) (r : ByteArray) : (g.propose r).qs ≤ g.qs + 24 := by
  unfold Grp.propose; split
  · omega
  · rename_i i h
    obtain ⟨b1, b2, _⟩ := bestTo_some (taker_some h).2.1
    have hn := Grp.put_n g i ((g.at_ i).snoc r)
    have h1 := Grp.share_qs (g := g.put i ((g.at_ i).snoc r)) (i := i) (by rw [hn]; exact b1) (by rw [hn]; exact h7)
    rw [Grp.qs_put] at h1
    have h2 := (Grp.commit_pot (g := (g.put i ((g.at_ i).snoc r)).share i) (i := i) (by rw [Grp.share_n, hn]; exact b1) (by rw [Grp.share_n, hn]; exact h7) (by rw [Grp.share_at, Grp.put_same _ b1]; exact b2)).2
    omega
theorem Grp.crash_qs (g : Grp) (i : Nat) (b : Bool) : (g.crash i b).qs = g.qs := by unfold Grp.crash; split; exact Grp.qs_put _ _ _; rfl
theorem Grp.act_qs {g : Grp} (h7 : g.n ≤ 7) (k a b : Nat) (r : ByteArray) : (g.act k a b r).qs ≤ g.qs + 24 := by
  unfold Grp.act
  split
  · have := (Grp.deliver_pot h7 a b false).2.2; omega
  split
  · have := (Grp.deliver_pot h7 a b true).2.2; omega
  split; exact Grp.elect_qs h7 a
  split; exact Grp.propose_qs h7 r
  split <;> rw [Grp.crash_qs] <;> omega
end Go.Proofs.Ytbjknckddoegfaa
