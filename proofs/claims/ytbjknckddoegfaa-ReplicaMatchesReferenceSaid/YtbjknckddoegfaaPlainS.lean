/- Layer 48: what holds of replicas at any time. No program in sight. No condition. -/
import Derived.Test.YtbjknckddoegfaaPlainR
namespace Go.Proofs.Ytbjknckddoegfaa
open Go Go.Gw
set_option linter.unusedSimpArgs false
set_option linter.unusedVariables false
/-- what is remembered beside the replicas -/
structure Gh where
  h : Hist
  ldr : Int → Nat
  vt : Nat → Int → Option Nat
  clog : Nat → Int → List Ent
  src : Nat → Int
/-- l is a part of the log of term s's leader -/
structure LogOK (h : Hist) (s : Int) (l : List Ent) : Prop where
  led : h.led s
  lo : h.base s <+: l
  hi : l <+: h.llog s
/-- the first d entries of l are committed -/
structure CP (h : Hist) (n : Nat) (s : Int) (l : List Ent) (d : Nat) : Prop where
  len : d ≤ l.length
  com : d = 0 ∨ ∃ t k, h.Com n t k ∧ t ≤ s ∧ d ≤ k ∧ l.take d <+: h.llog t
structure PeerOK (γ : Gh) (n : Nat) (v : Nat) (p : Peer) : Prop where
  s0 : 0 ≤ γ.src v
  s1 : γ.src v ≤ p.term
  log : LogOK γ.h (γ.src v) p.log
  lead : p.role = 2 → γ.h.led p.term ∧ 0 < p.term ∧ γ.ldr p.term = v ∧ γ.src v = p.term ∧ p.log = γ.h.llog p.term ∧ γ.h.had v p.term = p.log.length ∧ ∀ k, k < n → p.acks k ≤ (γ.h.had k p.term : Int)
  cand : p.role = 1 → 0 < p.term ∧ γ.vt v p.term = some v ∧ γ.clog v p.term = p.log ∧ γ.src v < p.term ∧ ¬ (γ.h.led p.term ∧ γ.ldr p.term = v) ∧ ∀ k, k < n → p.votes k = true → γ.vt k p.term = some v
  vote : ∀ c, γ.vt v p.term = some c → p.vote = (c : Int)
  after : ∀ u, p.term < u → γ.vt v u = none ∧ γ.h.had v u = 0 ∧ ¬ (γ.h.led u ∧ γ.ldr u = v)
  had : ∀ t, 0 < γ.h.had v t → t ≤ γ.src v ∧ (γ.src v = t → γ.h.had v t ≤ p.log.length)
  done : CP γ.h n (γ.src v) p.log p.done
def fresher (a b : List Ent) : Prop := lastT a < lastT b ∨ lastT a = lastT b ∧ a.length ≤ b.length
/-- a vote that was given -/
structure RecOK (γ : Gh) (v : Nat) (u : Int) (c : Nat) : Prop where
  u0 : 0 < u
  s0 : 0 ≤ γ.h.vsrc v u
  s1 : γ.h.vsrc v u ≤ u
  log : LogOK γ.h (γ.h.vsrc v u) (γ.h.vlog v u)
  kept : ∀ t, t < u → 0 < γ.h.had v t → t ≤ γ.h.vsrc v u ∧ (γ.h.vsrc v u = t → γ.h.had v t ≤ (γ.h.vlog v u).length)
  fresh : fresher (γ.h.vlog v u) (γ.clog c u)
/-- a message from i to j; T: the sender's term -/
def MsgOK (γ : Gh) (n : Nat) (T : Int) (i j : Nat) : Msg → Prop
  | .ask t l k => 0 < t ∧ t ≤ T ∧ l = lastT (γ.clog i t) ∧ k = ((γ.clog i t).length : Int)
  | .vote t b => b = true → γ.vt i t = some j
  | .share t l d => 0 < t ∧ γ.ldr t = i ∧ LogOK γ.h t l ∧ CP γ.h n t l d
  | .ack t k => k ≤ (γ.h.had i t : Int)
def noLonger (m m' : Msg) : Prop := ∀ t l d l' d', m = .share t l d → m' = .share t l' d' → l.length ≤ l'.length
structure RI (g : Grp) (γ : Gh) : Prop where
  ok : γ.h.OK g.n
  z : γ.h.led 0 ∧ γ.h.base 0 = [] ∧ γ.h.llog 0 = []
  led : ∀ u, γ.h.led u → 0 ≤ u ∧ (0 < u → γ.ldr u < g.n ∧ γ.h.base u = γ.clog (γ.ldr u) u ∧ ∀ v, γ.h.vot u v → v < g.n ∧ γ.vt v u = some (γ.ldr u))
  peers : ∀ v, v < g.n → PeerOK γ g.n v (g.at_ v)
  recs : ∀ v u c, v < g.n → γ.vt v u = some c → RecOK γ v u c ∧ c < g.n ∧ u ≤ (g.at_ c).term
  msgs : ∀ i j m, m ∈ g.q i j → i < g.n ∧ j < g.n ∧ i ≠ j ∧ MsgOK γ g.n (g.at_ i).term i j m
  fifo : ∀ i j, (g.q i j).Pairwise noLonger
  first : ∀ i j t l d, .share t l d ∈ g.q i j → γ.src j = t → (g.at_ j).log.length ≤ l.length
/-- the history grows -/
structure Hist.Le (h h' : Hist) : Prop where
  led : ∀ u, h.led u → h'.led u ∧ h'.base u = h.base u ∧ h.llog u <+: h'.llog u
  had : ∀ v t, h.had v t ≤ h'.had v t
theorem Hist.Le.refl (h : Hist) : Hist.Le h h := ⟨fun u hu => ⟨hu, rfl, List.prefix_rfl⟩, fun _ _ => Nat.le_refl _⟩
theorem Hist.Com.le {h h' : Hist} {n : Nat} (hl : Hist.Le h h') {t : Int} {k : Nat} (hc : h.Com n t k) : h'.Com n t k := by
  obtain ⟨h1, h2, h3⟩ := hl.led t hc.led
  have h4 := h3.length_le
  refine ⟨h1, hc.pos, Nat.le_trans hc.len h4, fun hk => ?_, hc.maj.mono (fun v _ hv => Nat.le_trans hv (hl.had v t))⟩
  have hk' : k - 1 < (h.llog t).length := by have := hc.len; have := hc.pos; omega
  obtain ⟨_, e⟩ := pre_get h3 hk'
  rw [← e]; exact hc.own hk'
theorem LogOK.le {h h' : Hist} (hl : Hist.Le h h') {s : Int} {l : List Ent} (ho : LogOK h s l) : LogOK h' s l := by
  obtain ⟨h1, h2, h3⟩ := hl.led s ho.led
  exact ⟨h1, h2 ▸ ho.lo, ho.hi.trans h3⟩
theorem CP.le {h h' : Hist} (hl : Hist.Le h h') {n : Nat} {s : Int} {l : List Ent} {d : Nat} (ho : CP h n s l d) : CP h' n s l d := by
  refine ⟨ho.len, ho.com.imp id fun ⟨t, k, hc, h1, h2, h3⟩ => ⟨t, k, hc.le hl, h1, h2, h3.trans (hl.led t hc.led).2.2⟩⟩
theorem CP.zero (h : Hist) (n : Nat) (s : Int) (l : List Ent) : CP h n s l 0 := ⟨Nat.zero_le _, .inl rfl⟩
/-- a log of a later term, or a longer one of the same, holds what was committed -/
theorem CP.move {h : Hist} {n : Nat} (H : h.OK n) {s s' : Int} {l l' : List Ent} {d : Nat} (hc : CP h n s l d) (hl : LogOK h s l) (hl' : LogOK h s' l') (h1 : s ≤ s') (h2 : s = s' → l.length ≤ l'.length) : CP h n s' l' d ∧ l.take d = l'.take d := by
  rcases hc.com with e | ⟨t, k, hk, hts, hdk, hp⟩
  · subst e; exact ⟨CP.zero _ _ _ _, by simp⟩
  · have hlen := hc.len
    have hdl : (l.take d).length = d := by rw [List.length_take]; omega
    have hpre : l.take d <+: l' := by
      by_cases e : s = s'
      · subst e
        exact (List.take_prefix _ _).trans (pre_of_len hl.hi hl'.hi (h2 rfl))
      · have hlat := hk.later H _ s' (Nat.le_refl _) (by omega) hl'.led
        have hk2 : l.take d <+: (h.llog t).take k := pre_of_len hp (List.take_prefix _ _) (by rw [hdl, List.length_take]; have := hk.len; omega)
        exact (hk2.trans hlat).trans hl'.lo
    have he : l.take d = l'.take d := by rw [pre_take hpre, hdl]
    refine ⟨⟨by have := hpre.length_le; omega, .inr ⟨t, k, hk, by omega, hdk, by rw [← he]; exact hp⟩⟩, he⟩
theorem Grp.put_n (g : Grp) (i : Nat) (p : Peer) : (g.put i p).n = g.n := by simp [Grp.put, Grp.n]
theorem Grp.put_same {g : Grp} {i : Nat} (p : Peer) (h : i < g.n) : (g.put i p).at_ i = p := by
  unfold Grp.put Grp.at_
  rw [List.getD_eq_getElem?_getD, List.getElem?_set]
  have : i < g.ps.length := h
  simp [this]
theorem Grp.put_ne {g : Grp} {i v : Nat} (p : Peer) (h : v ≠ i) : (g.put i p).at_ v = g.at_ v := by
  unfold Grp.put Grp.at_
  rw [List.getD_eq_getElem?_getD, List.getD_eq_getElem?_getD, List.getElem?_set, if_neg (Ne.symm h)]
/-- what may change when replica j, in term T, does something -/
structure Gh.Le (γ γ' : Gh) (j : Nat) (T : Int) : Prop where
  h : Hist.Le γ.h γ'.h
  led : ∀ u, γ'.h.led u → γ.h.led u ∨ γ'.ldr u = j
  ldr : ∀ u, γ.h.led u → γ'.ldr u = γ.ldr u
  llog : ∀ u, γ.h.led u → γ.ldr u ≠ j → γ'.h.llog u = γ.h.llog u
  src : ∀ v, v ≠ j → γ'.src v = γ.src v
  had : ∀ v t, v ≠ j ∨ t < T → γ'.h.had v t = γ.h.had v t
  vt : ∀ v, v ≠ j → γ'.vt v = γ.vt v
  vto : ∀ v u c, γ.vt v u = some c → γ'.vt v u = some c ∧ γ'.h.vlog v u = γ.h.vlog v u ∧ γ'.h.vsrc v u = γ.h.vsrc v u
  clog : ∀ c u, c ≠ j ∨ u ≤ T → γ'.clog c u = γ.clog c u
theorem PeerOK.other {γ γ' : Gh} {n j v : Nat} {T : Int} {p : Peer} (hl : Gh.Le γ γ' j T) (hv : v ≠ j) (h : PeerOK γ n v p) : PeerOK γ' n v p := by
  have hs := hl.src v hv
  have hvt := hl.vt v hv
  refine ⟨by rw [hs]; exact h.s0, by rw [hs]; exact h.s1, by rw [hs]; exact h.log.le hl.h, fun hr => ?_, fun hr => ?_, fun c hc => h.vote c (by rw [← hvt]; exact hc), fun u hu => ?_, fun t ht => ?_, by rw [hs]; exact h.done.le hl.h⟩
  · obtain ⟨a1, a2, a3, a4, a5, a6, a7⟩ := h.lead hr
    refine ⟨(hl.h.led _ a1).1, a2, (hl.ldr _ a1).trans a3, by rw [hs]; exact a4, by rw [hl.llog _ a1 (by rw [a3]; exact hv)]; exact a5, by rw [hl.had _ _ (.inl hv)]; exact a6, fun k hk => ?_⟩
    have h1 := a7 k hk
    have h2 := hl.h.had k p.term
    omega
  · obtain ⟨a1, a2, a3, a4, a5, a6⟩ := h.cand hr
    refine ⟨a1, by rw [hvt]; exact a2, by rw [hl.clog v _ (.inl hv)]; exact a3, by rw [hs]; exact a4, fun ⟨b1, b2⟩ => ?_, fun k hk hkv => (hl.vto k _ v (a6 k hk hkv)).1⟩
    rcases hl.led _ b1 with b | b
    · exact a5 ⟨b, (hl.ldr _ b).symm.trans b2⟩
    · exact hv (b2.symm.trans b)
  · obtain ⟨a1, a2, a3⟩ := h.after u hu
    refine ⟨by rw [hvt]; exact a1, by rw [hl.had _ _ (.inl hv)]; exact a2, fun ⟨b1, b2⟩ => ?_⟩
    rcases hl.led _ b1 with b | b
    · exact a3 ⟨b, (hl.ldr _ b).symm.trans b2⟩
    · exact hv (b2.symm.trans b)
  · rw [hl.had _ _ (.inl hv)] at ht ⊢
    rw [hs]
    exact h.had t ht
theorem RecOK.le {γ γ' : Gh} {j v c : Nat} {T u : Int} (hl : Gh.Le γ γ' j T) (hr : γ.vt v u = some c) (hu : v = j → u ≤ T) (hc : c = j → u ≤ T) (h : RecOK γ v u c) : RecOK γ' v u c := by
  obtain ⟨_, e1, e2⟩ := hl.vto v u c hr
  refine ⟨h.u0, by rw [e2]; exact h.s0, by rw [e2]; exact h.s1, by rw [e1, e2]; exact h.log.le hl.h, fun t ht h0 => ?_, by rw [e1, hl.clog c u (by by_cases e : c = j; exact .inr (hc e); exact .inl e)]; exact h.fresh⟩
  have hh := hl.had v t (by by_cases e : v = j; exact .inr (by have := hu e; omega); exact .inl e)
  rw [hh] at h0 ⊢
  rw [e1, e2]
  exact h.kept t ht h0
theorem MsgOK.le {γ γ' : Gh} {n i j d : Nat} {T T1 T2 : Int} (hl : Gh.Le γ γ' d T) (ht : T1 ≤ T2) (hd : i = d → T1 ≤ T) {m : Msg} (h : MsgOK γ n T1 i j m) : MsgOK γ' n T2 i j m := by
  cases m with
  | ask t l k =>
    obtain ⟨a1, a2, a3, a4⟩ := h
    have e := hl.clog i t (by by_cases e : i = d; exact .inr (by have := hd e; omega); exact .inl e)
    exact ⟨a1, by omega, by rw [e]; exact a3, by rw [e]; exact a4⟩
  | vote t b => exact fun hb => (hl.vto i t j (h hb)).1
  | share t l k =>
    obtain ⟨a1, a2, a3, a4⟩ := h
    exact ⟨a1, (hl.ldr _ a3.led).trans a2, a3.le hl.h, a4.le hl.h⟩
  | ack t k =>
    have h : k ≤ (γ.h.had i t : Int) := h
    have h2 := hl.h.had i t
    show k ≤ (γ'.h.had i t : Int)
    omega
/-- records and lengths alone have changed -/
theorem Hist.OK.same {h h' : Hist} {n : Nat} (H : h.OK n) (h1 : h'.led = h.led) (h2 : h'.base = h.base) (h3 : h'.llog = h.llog) (h4 : h'.vot = h.vot) (h5 : ∀ u v, h.led u → 0 < u → h.vot u v → h'.vlog v u = h.vlog v u ∧ h'.vsrc v u = h.vsrc v u ∧ ∀ t, t < u → h'.had v t = h.had v t) : h'.OK n := by
  obtain ⟨led, base, llog, vot, vlog, vsrc, had⟩ := h
  obtain ⟨led', base', llog', vot', vlog', vsrc', had'⟩ := h'
  dsimp only at h1 h2 h3 h4
  subst h1; subst h2; subst h3; subst h4
  refine ⟨H.pre, H.maj, fun u v hu h0 hv => ?_, fun u v t hu h0 hv htu hh => ?_, fun u v hu h0 hv => ?_, H.mat, H.mono⟩
  · obtain ⟨e1, e2, _⟩ := h5 u v hu h0 hv
    dsimp only at e1 e2 ⊢
    rw [e1, e2]; exact H.src u v hu h0 hv
  · obtain ⟨e1, e2, e3⟩ := h5 u v hu h0 hv
    have e3 := e3 t htu
    dsimp only at e1 e2 e3 hh ⊢
    rw [e3] at hh ⊢
    rw [e1, e2]; exact H.kept u v t hu h0 hv htu hh
  · obtain ⟨e1, e2, _⟩ := h5 u v hu h0 hv
    dsimp only at e1 e2 ⊢
    rw [e1]; exact H.fresh u v hu h0 hv
end Go.Proofs.Ytbjknckddoegfaa
