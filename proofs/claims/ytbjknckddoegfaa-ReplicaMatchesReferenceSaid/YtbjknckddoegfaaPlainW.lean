/- Layer 48: every operation keeps what holds. No program in sight. No condition. -/
import Derived.Test.YtbjknckddoegfaaPlainV
namespace Go.Proofs.Ytbjknckddoegfaa
open Go Go.Gw
set_option linter.unusedSimpArgs false
set_option linter.unusedVariables false
/-- each entry of a leader's log -/
def txtOK (P : Nat → ByteArray → Prop) (γ : Gh) : Prop := ∀ s, γ.h.led s → ∀ i (h : i < (γ.h.llog s).length), P i (γ.h.llog s)[i].txt
/-- the history has grown by what replica j did; r: what was appended -/
structure Ev (γ γ' : Gh) (j : Nat) (r : Option (Nat × ByteArray)) : Prop where
  h : Hist.Le γ.h γ'.h
  had : ∀ v t, v ≠ j → γ'.h.had v t = γ.h.had v t
  txt : ∀ P : Nat → ByteArray → Prop, (∀ x, r = some x → P x.1 x.2) → txtOK P γ → txtOK P γ'
theorem Ev.refl (γ : Gh) (j : Nat) : Ev γ γ j none := ⟨Hist.Le.refl _, fun _ _ _ => rfl, fun _ _ h => h⟩
theorem Hist.Le.trans {a b c : Hist} (h1 : Hist.Le a b) (h2 : Hist.Le b c) : Hist.Le a c :=
  ⟨fun u hu => ⟨(h2.led u (h1.led u hu).1).1, (h2.led u (h1.led u hu).1).2.1.trans (h1.led u hu).2.1, (h1.led u hu).2.2.trans (h2.led u (h1.led u hu).1).2.2⟩, fun v t => Nat.le_trans (h1.had v t) (h2.had v t)⟩
theorem Ev.trans {a b c : Gh} {j : Nat} {r : Option (Nat × ByteArray)} (h1 : Ev a b j r) (h2 : Ev b c j none) : Ev a c j r :=
  ⟨h1.h.trans h2.h, fun v t hv => (h2.had v t hv).trans (h1.had v t hv), fun P hr h => h2.txt P (fun _ e => by cases e) (h1.txt P hr h)⟩
theorem Gh.Le.ev {γ γ' : Gh} {j : Nat} {T : Int} (hl : Gh.Le γ γ' j T) (h1 : γ'.h.led = γ.h.led) (h2 : γ'.h.llog = γ.h.llog) : Ev γ γ' j none := ⟨hl.h, fun v t hv => hl.had v t (.inl hv), fun P _ h s hs i hi => by
  have hi' : i < (γ.h.llog s).length := by rw [h2] at hi; exact hi
  have := h s (h1 ▸ hs) i hi'
  simpa only [h2] using this⟩
theorem Grp.put_put (g : Grp) (j : Nat) (p q : Peer) : (g.put j p).put j q = g.put j q := by simp [Grp.put]
theorem Grp.put_self (g : Grp) {j : Nat} (h : j < g.n) : g.put j (g.at_ j) = g := by
  unfold Grp.put Grp.at_
  obtain ⟨ps, q⟩ := g
  have h : j < ps.length := h
  simp [h]
theorem RI.send {g : Grp} {γ : Gh} (R : RI g γ) {i j : Nat} {m : Msg} (hi : i < g.n) (hj : j < g.n) (hij : i ≠ j) (hm : MsgOK γ g.n (g.at_ i).term i j m) (hs : ∀ t l d, m ≠ .share t l d) : RI (g.send i j m) γ :=
  R.sends (S := fun a b => a = i ∧ b = j) (m := m) (fun a b ⟨e1, e2⟩ => by subst e1; subst e2; exact ⟨hi, hj, hij, hm⟩) (fun a b _ t l d e => absurd e (hs t l d))
theorem RI.ask {g : Grp} {γ : Gh} (R : RI g γ) {i : Nat} {m : Msg} (hi : i < g.n) (hm : ∀ j, j < g.n → j ≠ i → MsgOK γ g.n (g.at_ i).term i j m) (hs : ∀ t l d, m ≠ .share t l d) : RI (g.all i m) γ :=
  R.sends (S := fun a b => a = i ∧ b ≠ i ∧ b < g.n) (m := m) (fun a b ⟨e1, e2, e3⟩ => by subst e1; exact ⟨hi, e3, Ne.symm e2, hm b e3 e2⟩) (fun a b _ t l d e => absurd e (hs t l d))
/-- a leader sends its log -/
theorem RI.share {g : Grp} {γ : Gh} (R : RI g γ) {i : Nat} (hi : i < g.n) (hr : (g.at_ i).role = 2) : RI (g.share i) γ := by
  have Pi := R.peers i hi
  obtain ⟨a1, a2, a3, a4, a5, a6, a7⟩ := Pi.lead hr
  have hlo := Pi.log
  have hdo := Pi.done
  rw [a4] at hlo hdo
  refine R.sends (S := fun a b => a = i ∧ b ≠ i ∧ b < g.n) (m := .share (g.at_ i).term (g.at_ i).log (g.at_ i).done) (fun a b ⟨e1, e2, e3⟩ => by subst e1; exact ⟨hi, e3, Ne.symm e2, a2, a3, hlo, hdo⟩) (fun a b ⟨e1, e2, e3⟩ t l d e => ?_)
  cases e
  refine ⟨fun l' d' hm => ?_, fun hs => ?_⟩
  · have := (R.msgs a b _ hm).2.2.2.2.2.1.hi.length_le
    rwa [← a5] at this
  · have := (R.peers b e3).log.hi.length_le
    rwa [hs, ← a5] at this
theorem comK_some {ok : Nat → Bool} {d : Nat} : ∀ {m k : Nat}, comK ok d m = some k → d < k ∧ k ≤ m ∧ ok k = true
  | 0, k, h => by cases h
  | m + 1, k, h => by
    unfold comK at h
    split at h
    · rename_i h1
      split at h
      · cases h; exact ⟨by omega, Nat.le_refl _, by assumption⟩
      · obtain ⟨b1, b2, b3⟩ := comK_some h
        exact ⟨b1, by omega, b3⟩
    · cases h
theorem RI.commits {g : Grp} {γ : Gh} (R : RI g γ) {i : Nat} (hi : i < g.n) (hr : (g.at_ i).role = 2) : RI (g.commit i) γ := by
  unfold Grp.commit
  split
  · rename_i k hk
    obtain ⟨h1, h2, h3⟩ := comK_some hk
    have R1 := R.commit hi hr (by omega) h2 h3
    have hn := Grp.put_n g i { g.at_ i with done := k }
    exact R1.share (by rw [hn]; exact hi) (by rw [Grp.put_same _ hi]; exact hr)
  · exact R
theorem RI.leads {g : Grp} {γ : Gh} (R : RI g γ) {i : Nat} (hi : i < g.n) (hr : (g.at_ i).role = 1) : ∃ γ', RI (g.lead i) γ' ∧ Ev γ γ' i none := by
  unfold Grp.lead
  split
  · rename_i hm
    obtain ⟨γ', R1, hl, e1, e2, e3⟩ := R.crown hi hr hm
    have hn := Grp.put_n g i (g.at_ i).lead
    refine ⟨γ', R1.share (by rw [hn]; exact hi) (by rw [Grp.put_same _ hi]; rfl), hl.h, fun v t hv => hl.had v t (.inl hv), fun P _ h s hs k hk => ?_⟩
    by_cases e : s = (g.at_ i).term
    · subst e
      have hlo := (R.peers i hi).log
      have hk' : k < (g.at_ i).log.length := by rw [e3] at hk; exact hk
      obtain ⟨hb, eg⟩ := pre_get hlo.hi hk'
      have := h _ hlo.led k hb
      rw [← eg] at this
      simpa only [e3] using this
    · have hs' := ((e1 s).1 hs).resolve_left e
      have hk' : k < (γ.h.llog s).length := by rw [e2 s e] at hk; exact hk
      have := h s hs' k hk'
      simpa only [e2 s e] using this
  · exact ⟨γ, R, Ev.refl _ _⟩
def Grp.pop (g : Grp) (i j : Nat) (r : List Msg) : Grp := { g with q := fun a b => if a = i ∧ b = j then r else g.q a b }
theorem RI.receive {g : Grp} {γ : Gh} (R0 : RI g γ) {i j : Nat} {m : Msg} {r : List Msg} (hq : g.q i j = m :: r) : ∃ γ', RI ((g.pop i j r).receive i j m) γ' ∧ Ev γ γ' j none := by
  have hin : m ∈ g.q i j := by rw [hq]; exact List.mem_cons_self ..
  obtain ⟨hi, hj, hij, hm⟩ := R0.msgs i j m hin
  have R1 : RI (g.pop i j r) γ := R0.pop hq
  have hfirst := R0.first i j
  have hfifo := R0.fifo i j
  rw [hq] at hfirst hfifo
  have hrest : ∀ x ∈ (g.pop i j r).q i j, x ∈ r := fun x hx => by simpa [Grp.pop] using hx
  generalize hg : g.pop i j r = g1 at R1 hrest
  have en : g1.n = g.n := by rw [← hg]; rfl
  have ea : ∀ v, g1.at_ v = g.at_ v := fun v => by rw [← hg]; rfl
  rw [← en] at hi hj
  rw [← ea, ← en] at hm
  have R2 := R1.newer hj m.term
  generalize hp : (g1.at_ j).step m.term = p at R2
  have hpl : p.log = (g1.at_ j).log := by rw [← hp]; unfold Peer.step; split <;> rfl
  have hpt : m.term ≤ p.term := by rw [← hp]; unfold Peer.step; split; exact Int.le_refl _; omega
  generalize hg2 : g1.put j p = g2 at R2
  have hn : g2.n = g1.n := by rw [← hg2]; exact Grp.put_n _ _ _
  have hpj : g2.at_ j = p := by rw [← hg2]; exact Grp.put_same _ hj
  have hpi : g2.at_ i = g1.at_ i := by rw [← hg2]; exact Grp.put_ne _ hij
  have hpp : ∀ x, g1.put j x = g2.put j x := fun x => by rw [← hg2, Grp.put_put]
  have hq2 : g2.q = g1.q := by rw [← hg2]; rfl
  rw [← hn] at hi hj hm
  rw [← hpi] at hm
  have hself : g2.put j p = g2 := by rw [← hpj]; exact Grp.put_self _ hj
  unfold Grp.receive
  rw [hp]
  cases m with
  | ask t l k =>
    obtain ⟨m1, m2, m3, m4⟩ := hm
    have hpt : t ≤ p.term := hpt
    dsimp only [Msg.term]
    rw [hpp]
    generalize hB : p.grants i t l k = B
    cases B with
    | true =>
      rw [if_pos rfl]
      have hok := hB
      unfold Peer.grants at hok
      simp only [Bool.and_eq_true, Bool.or_eq_true, decide_eq_true_eq] at hok
      obtain ⟨⟨ht, hv⟩, hf⟩ := hok
      have ht2 : (g2.at_ j).term = t := by rw [hpj]; exact ht.symm
      obtain ⟨γ', R3, hl, e1, e2, e3, e4⟩ := R2.vote (j := j) (c := i) hj hi hij (by rw [hpj]; exact hv) (by rw [ht2]; exact m1) (by rw [ht2]; exact m2) (by
        rw [ht2, hpj]
        unfold fresher
        rw [← m3]
        rcases hf with h | ⟨h1, h2⟩
        · exact .inl h
        · exact .inr ⟨h1.symm, by omega⟩)
      rw [hpj] at R3
      have hn3 := Grp.put_n g2 j { p with vote := (i : Int) }
      refine ⟨γ', R3.send (by rw [hn3]; exact hj) (by rw [hn3]; exact hi) (Ne.symm hij) ?_ (fun _ _ _ e => by cases e), hl.ev e2 e3⟩
      intro _
      rw [hpj] at e4
      exact e4
    | false =>
      rw [if_neg (by simp), hself]
      refine ⟨γ, R2.send hj hi (Ne.symm hij) (fun h => by cases h) (fun _ _ _ e => by cases e), Ev.refl _ _⟩
  | vote t b =>
    simp only [Msg.term, hpp]
    split
    · rename_i hc
      obtain ⟨c1, c2, c3⟩ := hc
      have hv : γ.vt i t = some j := hm c3
      have R3 := R2.votes (i := i) hj (by rw [hpj]; exact c1) (by rw [hpj, ← c2]; exact hv)
      rw [hpj] at R3
      have hn3 := Grp.put_n g2 j { p with votes := fun k => if k = i then true else p.votes k }
      exact R3.leads (by rw [hn3]; exact hj) (by rw [Grp.put_same _ hj]; exact c1)
    · rw [hself]; exact ⟨γ, R2, Ev.refl _ _⟩
  | share t l d =>
    obtain ⟨m1, m2, m3, m4⟩ := hm
    simp only [Msg.term, hpp]
    split
    · rename_i hc
      have ht2 : (g2.at_ j).term = t := by rw [hpj]; exact hc.symm
      obtain ⟨γ', R3, hl, e2, e3, e4⟩ := R2.take (j := j) (l := l) (d := d) hj (by rw [ht2]; exact m1) (by rw [ht2]; exact m3) (by rw [ht2]; exact m4) (fun hs => by
          rw [hpj, hpl, ea]
          exact hfirst t l d (List.mem_cons_self ..) (by rw [hs, ht2])) (fun a t' l' d' hm' e => by
          rw [ht2] at e
          subst e
          have h1 := (R2.msgs a j _ hm').2.2.2.2.1
          rw [m2] at h1
          subst h1
          rw [hq2] at hm'
          exact (List.pairwise_cons.1 hfifo).1 _ (hrest _ hm') t' l d l' d' rfl rfl)
      rw [hpj] at R3 e4
      have hn3 := Grp.put_n g2 j (p.take l d)
      refine ⟨γ', R3.send (by rw [hn3]; exact hj) (by rw [hn3]; exact hi) (Ne.symm hij) ?_ (fun _ _ _ e => by cases e), hl.ev e2 e3⟩
      show ((l.length : Nat) : Int) ≤ _
      rw [e4]; exact Int.le_refl _
    · rw [hself]
      refine ⟨γ, R2.send hj hi (Ne.symm hij) ?_ (fun _ _ _ e => by cases e), Ev.refl _ _⟩
      show (0 : Int) ≤ _
      exact Int.natCast_nonneg _
  | ack t n =>
    simp only [Msg.term, hpp]
    split
    · rename_i hc
      obtain ⟨c1, c2⟩ := hc
      have hv : n ≤ (γ.h.had i t : Int) := hm
      have R3 := R2.acks (i := i) (m := n) hj (by rw [hpj]; exact c1) (by rw [hpj, ← c2]; exact hv)
      rw [hpj] at R3
      have hn3 := Grp.put_n g2 j { p with acks := fun k => if k = i then max (p.acks i) n else p.acks k }
      exact ⟨γ, R3.commits (by rw [hn3]; exact hj) (by rw [Grp.put_same _ hj]; exact c1), Ev.refl _ _⟩
    · rw [hself]; exact ⟨γ, R2, Ev.refl _ _⟩
def Grp.deliver (g : Grp) (i j : Nat) (lost : Bool) : Grp × Bool :=
  if i < g.n ∧ j < g.n ∧ i ≠ j then match g.q i j with
    | [] => (g, false)
    | m :: r => (if lost = false ∧ (g.at_ j).down = false then (g.pop i j r).receive i j m else g.pop i j r, true)
  else (g, false)
def Grp.crash (g : Grp) (i : Nat) (b : Bool) : Grp := if i < g.n ∧ (g.at_ i).down ≠ b then g.put i { g.at_ i with down := b, role := 0, done := 0 } else g
def Grp.elect (g : Grp) (i : Nat) : Grp := if i < g.n ∧ (g.at_ i).down = false then ((g.put i ((g.at_ i).ask i)).all i (.ask ((g.at_ i).term + 1) (lastT (g.at_ i).log) (g.at_ i).log.length)).lead i else g
/-- to whom a record goes, if it is taken -/
def Grp.taker (g : Grp) (r : ByteArray) : Option Nat := if r.size > 200 then none else match bestTo g g.n with
  | none => none
  | some i => if (g.at_ i).log.length ≥ 100 then none else some i
def Grp.propose (g : Grp) (r : ByteArray) : Grp := match g.taker r with
  | none => g
  | some i => (((g.put i ((g.at_ i).snoc r))).share i).commit i
theorem RI.deliver {g : Grp} {γ : Gh} (R : RI g γ) (i j : Nat) (lost : Bool) : ∃ γ', RI (g.deliver i j lost).1 γ' ∧ Ev γ γ' j none ∧ ((g.at_ j).down = true → γ' = γ) := by
  unfold Grp.deliver
  split
  · split
    · exact ⟨γ, R, Ev.refl _ _, fun _ => rfl⟩
    · rename_i m r hq
      dsimp only
      split
      · rename_i hc
        obtain ⟨γ', h1, h2⟩ := R.receive hq
        exact ⟨γ', h1, h2, fun h => by rw [hc.2] at h; cases h⟩
      · exact ⟨γ, R.pop hq, Ev.refl _ _, fun _ => rfl⟩
  · exact ⟨γ, R, Ev.refl _ _, fun _ => rfl⟩
theorem RI.crashed {g : Grp} {γ : Gh} (R : RI g γ) (i : Nat) (b : Bool) : RI (g.crash i b) γ := by
  unfold Grp.crash
  split
  · rename_i h; exact R.crash h.1 b
  · exact R
theorem Grp.all_n (g : Grp) (i : Nat) (m : Msg) : (g.all i m).n = g.n := rfl
theorem Grp.all_at (g : Grp) (i : Nat) (m : Msg) (v : Nat) : (g.all i m).at_ v = g.at_ v := rfl
theorem RI.elects {g : Grp} {γ : Gh} (R : RI g γ) (i : Nat) : ∃ γ', RI (g.elect i) γ' ∧ Ev γ γ' i none ∧ ((g.at_ i).down = true → γ' = γ) := by
  unfold Grp.elect
  split
  · rename_i h
    obtain ⟨hi, hd⟩ := h
    obtain ⟨γ1, R1, hl, e1, e2, e3, e4⟩ := R.elect hi
    have hn := Grp.put_n g i ((g.at_ i).ask i)
    have hat := Grp.put_same (g := g) ((g.at_ i).ask i) hi
    have R2 : RI ((g.put i ((g.at_ i).ask i)).all i (.ask ((g.at_ i).term + 1) (lastT (g.at_ i).log) (g.at_ i).log.length)) γ1 := R1.ask (by rw [hn]; exact hi) (fun j hj hji => by
      rw [hat]
      exact ⟨by have := R.term0 hi; omega, Int.le_refl _, by rw [e4], by rw [e4]⟩) (fun _ _ _ e => by cases e)
    obtain ⟨γ', R3, ev⟩ := R2.leads (i := i) (by rw [Grp.all_n, hn]; exact hi) (by rw [Grp.all_at, hat]; rfl)
    exact ⟨γ', R3, (hl.ev e2 e3).trans ev, fun h => by rw [hd] at h; cases h⟩
  · exact ⟨γ, R, Ev.refl _ _, fun _ => rfl⟩
theorem bestTo_some {g : Grp} : ∀ {k i : Nat}, bestTo g k = some i → i < k ∧ (g.at_ i).role = 2 ∧ (g.at_ i).down = false
  | 0, i, h => by cases h
  | k + 1, i, h => by
    unfold bestTo at h
    split at h
    · rename_i a ha
      split at h
      · rename_i hc; cases h; exact ⟨by omega, hc.1, hc.2.1⟩
      · cases h; obtain ⟨b1, b2⟩ := bestTo_some ha; exact ⟨by omega, b2⟩
    · split at h
      · rename_i hc; cases h; exact ⟨by omega, hc⟩
      · cases h
theorem taker_some {g : Grp} {r : ByteArray} {i : Nat} (h : g.taker r = some i) : r.size ≤ 200 ∧ bestTo g g.n = some i ∧ (g.at_ i).log.length < 100 := by
  unfold Grp.taker at h
  split at h
  · cases h
  · split at h
    · cases h
    · rename_i a ha
      split at h
      · cases h
      · cases h; exact ⟨by omega, ha, by omega⟩
/-- the index that a proposed record gets -/
def Grp.got (g : Grp) (r : ByteArray) : Option (Nat × ByteArray) := (g.taker r).map fun i => ((g.at_ i).log.length, r)
theorem RI.proposes {g : Grp} {γ : Gh} (R : RI g γ) (r : ByteArray) : ∃ γ', RI (g.propose r) γ' ∧ ∃ j, (g.got r ≠ none → j < g.n ∧ (g.at_ j).down = false) ∧ Ev γ γ' j (g.got r) ∧ (g.got r = none → γ' = γ) := by
  unfold Grp.propose Grp.got
  cases h : g.taker r with
  | none => exact ⟨γ, R, 0, fun h => absurd rfl h, Ev.refl _ _, fun _ => rfl⟩
  | some i =>
    dsimp only [Option.map]
    obtain ⟨h1, h2, h3⟩ := taker_some h
    obtain ⟨b1, b2, b3⟩ := bestTo_some h2
    obtain ⟨γ', R1, hl, e1, e2, e3⟩ := R.append b1 b2 r
    have hn := Grp.put_n g i ((g.at_ i).snoc r)
    have hat := Grp.put_same (g := g) ((g.at_ i).snoc r) b1
    have R2 := R1.share (i := i) (by rw [hn]; exact b1) (by rw [hat]; exact b2)
    have R3 : RI (((g.put i ((g.at_ i).snoc r)).share i).commit i) γ' := R2.commits (i := i) (by show i < (g.put i ((g.at_ i).snoc r)).n; rw [hn]; exact b1) (by show ((g.put i ((g.at_ i).snoc r)).at_ i).role = 2; rw [hat]; exact b2)
    obtain ⟨a1, a2, a3, a4, a5, _⟩ := (R.peers i b1).lead b2
    refine ⟨γ', R3, i, fun _ => ⟨b1, b3⟩, ⟨hl.h, fun v t hv => hl.had v t (.inl hv), fun P hr hP s hs k hk => ?_⟩, fun h => by cases h⟩
    have hs' : γ.h.led s := e1 ▸ hs
    by_cases e : s = (g.at_ i).term
    · subst e
      have hle : (γ'.h.llog (g.at_ i).term).length = (γ.h.llog (g.at_ i).term).length + 1 := by rw [e3]; simp
      by_cases hk2 : k < (γ.h.llog (g.at_ i).term).length
      · have := hP _ hs' k hk2
        have e5 : (γ'.h.llog (g.at_ i).term)[k] = (γ.h.llog (g.at_ i).term)[k] := by simp only [e3]; rw [List.getElem_append_left hk2]
        rw [e5]; exact this
      · have hk3 : k = (γ.h.llog (g.at_ i).term).length := by omega
        have e5 : (γ'.h.llog (g.at_ i).term)[k] = ⟨(g.at_ i).term, r⟩ := by simp only [e3, hk3]; simp
        rw [e5]
        have := hr _ rfl
        rw [a5, ← hk3] at this
        exact this
    · have hk' : k < (γ.h.llog s).length := by rw [e2 s e] at hk; exact hk
      have := hP s hs' k hk'
      simpa only [e2 s e] using this
end Go.Proofs.Ytbjknckddoegfaa
