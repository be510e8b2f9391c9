/- Layer 48: logs taken over, records appended, counts, stops. No program in sight. No condition. -/
import Derived.Test.YtbjknckddoegfaaPlainU
namespace Go.Proofs.Ytbjknckddoegfaa
open Go Go.Gw
set_option linter.unusedSimpArgs false
set_option linter.unusedVariables false
def Gh.took (γ : Gh) (j : Nat) (T : Int) (l : List Ent) : Gh := { γ with src := fun v => if v = j then T else γ.src v, h := { γ.h with had := fun v x => if v = j ∧ x = T then l.length else γ.h.had v x } }
def Peer.take (p : Peer) (l : List Ent) (d : Nat) : Peer := { p with role := 0, log := l, done := max p.done d }
/-- a log of the own term is taken over -/
theorem RI.take {g : Grp} {γ : Gh} (R : RI g γ) {j : Nat} (hj : j < g.n) {l : List Ent} {d : Nat} (h0 : 0 < (g.at_ j).term) (hlo : LogOK γ.h (g.at_ j).term l) (hcp : CP γ.h g.n (g.at_ j).term l d) (hlen : γ.src j = (g.at_ j).term → (g.at_ j).log.length ≤ l.length)
    (hq : ∀ a t l' d', .share t l' d' ∈ g.q a j → t = (g.at_ j).term → l.length ≤ l'.length) :
    ∃ γ', RI (g.put j ((g.at_ j).take l d)) γ' ∧ Gh.Le γ γ' j (g.at_ j).term ∧ γ'.h.led = γ.h.led ∧ γ'.h.llog = γ.h.llog ∧ γ'.h.had j (g.at_ j).term = l.length := by
  have Pj := R.peers j hj
  have s1 := Pj.s1
  generalize hγ : γ.took j (g.at_ j).term l = γ'
  have d5 : ∀ v x, γ'.h.had v x = if v = j ∧ x = (g.at_ j).term then l.length else γ.h.had v x := fun u v => by rw [← hγ]; rfl
  have d7 : ∀ v, γ'.src v = if v = j then (g.at_ j).term else γ.src v := fun x => by rw [← hγ]; rfl
  have e1 : γ'.h.led = γ.h.led := by rw [← hγ]; rfl
  have e2 : γ'.h.base = γ.h.base := by rw [← hγ]; rfl
  have e3 : γ'.h.llog = γ.h.llog := by rw [← hγ]; rfl
  have e4 : γ'.h.vot = γ.h.vot := by rw [← hγ]; rfl
  have e5 : γ'.ldr = γ.ldr := by rw [← hγ]; rfl
  have e6 : γ'.vt = γ.vt := by rw [← hγ]; rfl
  have e7 : γ'.clog = γ.clog := by rw [← hγ]; rfl
  have e8 : γ'.h.vlog = γ.h.vlog := by rw [← hγ]; rfl
  have e9 : γ'.h.vsrc = γ.h.vsrc := by rw [← hγ]; rfl
  have hhad : γ.h.had j (g.at_ j).term ≤ l.length := by
    by_cases h : 0 < γ.h.had j (g.at_ j).term
    · obtain ⟨b1, b2⟩ := Pj.had _ h
      have e : γ.src j = (g.at_ j).term := by omega
      have := b2 e
      have := hlen e
      omega
    · omega
  have hl : Gh.Le γ γ' j (g.at_ j).term := by
    refine ⟨⟨fun u hu => ⟨e1 ▸ hu, by rw [e2], by rw [e3]; exact List.prefix_rfl⟩, fun v t => ?_⟩, fun u hu => .inl (e1 ▸ hu), fun u hu => by rw [e5], fun u hu _ => by rw [e3], fun v hv => by rw [d7, if_neg hv], fun v t h => ?_, fun v _ => by rw [e6], fun v u c h => ⟨by rw [e6]; exact h, by rw [e8], by rw [e9]⟩, fun c u _ => by rw [e7]⟩
    · rw [d5]; split
      · rename_i e; rw [e.1, e.2]; exact hhad
      · exact Nat.le_refl _
    · rw [d5, if_neg (fun e => by rcases h with h | h; exact h e.1; omega)]
  have hok : γ'.h.OK g.n := R.ok.same e1 e2 e3 e4 (fun u v hu hu0 hv => ⟨by rw [e8], by rw [e9], fun t ht => by
    rw [d5, if_neg (fun e => ?_)]
    obtain ⟨f1, f2⟩ := e
    subst f1
    have h1 := ((R.led u hu).2 hu0).2.2 v hv
    rw [(Pj.after u (by omega)).1] at h1; cases h1.2⟩)
  refine ⟨γ', ?_, hl, e1, e3, by rw [d5, if_pos ⟨rfl, rfl⟩]⟩
  refine R.step hj hl (Int.le_refl _) (Int.le_refl _) hok (fun u hu => by rw [e4]) (fun u h1 h2 => absurd (e1 ▸ h1) h2) (by rw [e3]; exact R.z.2.2) ?_ (fun u c h1 h2 => by rw [e6, h2] at h1; cases h1) (fun a t l' d' hm hs => ?_)
  · have ht : ((g.at_ j).take l d).term = (g.at_ j).term := rfl
    have hL : ((g.at_ j).take l d).log = l := rfl
    have hd : ((g.at_ j).take l d).done = max (g.at_ j).done d := rfl
    refine ⟨by rw [d7, if_pos rfl]; omega, by rw [d7, if_pos rfl]; exact Int.le_refl _, by rw [d7, if_pos rfl]; exact hlo.le hl.h, fun h => (by cases h), fun h => (by cases h), fun c hc => Pj.vote c (by rw [e6] at hc; exact hc), fun u hu => ?_, fun t h => ?_, ?_⟩
    · rw [ht] at hu
      rw [e6, d5, if_neg (by omega), e1, e5]
      exact Pj.after u hu
    · rw [d5] at h
      rw [d7, if_pos rfl, d5, hL]
      split at h
      · rename_i e; rw [if_pos e, e.2]; exact ⟨Int.le_refl _, fun _ => Nat.le_refl _⟩
      · rename_i e
        have := (Pj.had t h).1
        rw [if_neg e]
        exact ⟨by omega, fun e2 => absurd ⟨rfl, e2.symm⟩ e⟩
    · rw [d7, if_pos rfl, hL, hd]
      have h1 := (Pj.done.move R.ok Pj.log hlo s1 hlen).1
      rcases Nat.le_total (g.at_ j).done d with h | h
      · rw [Nat.max_eq_right h]; exact hcp.le hl.h
      · rw [Nat.max_eq_left h]; exact h1.le hl.h
  · rw [d7, if_pos rfl] at hs
    exact hq a t l' d' hm hs.symm
def Gh.grew (γ : Gh) (j : Nat) (T : Int) (l : List Ent) : Gh := { γ with h := { γ.h with llog := fun x => if x = T then l else γ.h.llog x, had := fun v x => if v = j ∧ x = T then l.length else γ.h.had v x } }
def Peer.snoc (p : Peer) (r : ByteArray) : Peer := { p with log := p.log ++ [⟨p.term, r⟩] }
/-- a leader appends a record -/
theorem RI.append {g : Grp} {γ : Gh} (R : RI g γ) {j : Nat} (hj : j < g.n) (hr : (g.at_ j).role = 2) (r : ByteArray) :
    ∃ γ', RI (g.put j ((g.at_ j).snoc r)) γ' ∧ Gh.Le γ γ' j (g.at_ j).term ∧ γ'.h.led = γ.h.led ∧ (∀ u, u ≠ (g.at_ j).term → γ'.h.llog u = γ.h.llog u) ∧ γ'.h.llog (g.at_ j).term = γ.h.llog (g.at_ j).term ++ [⟨(g.at_ j).term, r⟩] := by
  have Pj := R.peers j hj
  obtain ⟨a1, a2, a3, a4, a5, a6, a7⟩ := Pj.lead hr
  generalize hγ : γ.grew j (g.at_ j).term ((g.at_ j).log ++ [⟨(g.at_ j).term, r⟩]) = γ'
  have d3 : ∀ u, γ'.h.llog u = if u = (g.at_ j).term then (g.at_ j).log ++ [⟨(g.at_ j).term, r⟩] else γ.h.llog u := fun u => by rw [← hγ]; rfl
  have d5 : ∀ v x, γ'.h.had v x = if v = j ∧ x = (g.at_ j).term then ((g.at_ j).log ++ [(⟨(g.at_ j).term, r⟩ : Ent)]).length else γ.h.had v x := fun u v => by rw [← hγ]; rfl
  have e1 : γ'.h.led = γ.h.led := by rw [← hγ]; rfl
  have e2 : γ'.h.base = γ.h.base := by rw [← hγ]; rfl
  have e4 : γ'.h.vot = γ.h.vot := by rw [← hγ]; rfl
  have e5 : γ'.ldr = γ.ldr := by rw [← hγ]; rfl
  have e6 : γ'.vt = γ.vt := by rw [← hγ]; rfl
  have e7 : γ'.clog = γ.clog := by rw [← hγ]; rfl
  have e8 : γ'.h.vlog = γ.h.vlog := by rw [← hγ]; rfl
  have e9 : γ'.h.vsrc = γ.h.vsrc := by rw [← hγ]; rfl
  have e10 : γ'.src = γ.src := by rw [← hγ]; rfl
  have hgr : ∀ u, γ.h.llog u <+: γ'.h.llog u := fun u => by
    rw [d3]; split
    · rename_i e; rw [e, ← a5]; exact List.prefix_append _ _
    · exact List.prefix_rfl
  have nT : γ'.h.llog (g.at_ j).term = γ.h.llog (g.at_ j).term ++ [⟨(g.at_ j).term, r⟩] := by rw [d3, if_pos rfl, a5]
  have hl : Gh.Le γ γ' j (g.at_ j).term := by
    refine ⟨⟨fun u hu => ⟨e1 ▸ hu, by rw [e2], hgr u⟩, fun v t => ?_⟩, fun u hu => .inl (e1 ▸ hu), fun u hu => by rw [e5], fun u hu hne => ?_, fun v hv => by rw [e10], fun v t h => ?_, fun v _ => by rw [e6], fun v u c h => ⟨by rw [e6]; exact h, by rw [e8], by rw [e9]⟩, fun c u _ => by rw [e7]⟩
    · rw [d5]; split
      · rename_i e; rw [e.1, e.2, a6, List.length_append]; omega
      · exact Nat.le_refl _
    · rw [d3, if_neg (fun e => hne (by rw [e]; exact a3))]
    · rw [d5, if_neg (fun e => by rcases h with h | h; exact h e.1; omega)]
  have hok : γ'.h.OK g.n := by
    refine ⟨fun u hu => ?_, fun u hu h0 => ?_, fun u v hu h0 hv => ?_, fun u v t hu h0 hv htu hpo => ?_, fun u v hu h0 hv => ?_, fun s hs i hi => ?_, fun s hs i i' hi hi' hii => ?_⟩
    · rw [e2]; exact (R.ok.pre u (e1 ▸ hu)).trans (hgr u)
    · rw [e4]; exact R.ok.maj u (e1 ▸ hu) h0
    · rw [e4] at hv
      obtain ⟨r1, r2, r3, r4, r5⟩ := R.ok.src u v (e1 ▸ hu) h0 hv
      rw [e9, e8, e2, e1]
      exact ⟨r1, r2, r3, r4, r5.trans (hgr _)⟩
    · rw [e4] at hv
      have hu' : γ.h.led u := e1 ▸ hu
      have hvt := ((R.led u hu').2 h0).2.2 v hv
      have hne2 : ¬ (v = j ∧ t = (g.at_ j).term) := fun e => by
        obtain ⟨f1, f2⟩ := e
        subst f1
        have := (Pj.after u (by omega)).1
        rw [hvt.2] at this; cases this
      rw [d5, if_neg hne2] at hpo ⊢
      rw [e8, e9]
      exact R.ok.kept u v t hu' h0 hv htu hpo
    · rw [e4] at hv
      rw [e8, e2]
      exact R.ok.fresh u v (e1 ▸ hu) h0 hv
    · have hs' : γ.h.led s := e1 ▸ hs
      rw [e1, e2]
      by_cases hi2 : i < (γ.h.llog s).length
      · obtain ⟨hb, eg⟩ := pre_get (hgr s) hi2
        obtain ⟨m1, m2, m3, m4⟩ := R.ok.mat s hs' i hi2
        rw [← eg]
        refine ⟨m1, m2, ?_, m4⟩
        have : (γ'.h.llog s).take (i + 1) = (γ.h.llog s).take (i + 1) := by
          rw [pre_take (hgr s), List.take_take, Nat.min_eq_left (by omega)]
        rw [this]; exact m3.trans (hgr _)
      · have es : s = (g.at_ j).term := by
          rw [d3] at hi
          split at hi
          · assumption
          · exact absurd hi hi2
        subst es
        have hle : (γ'.h.llog (g.at_ j).term).length = (γ.h.llog (g.at_ j).term).length + 1 := by rw [nT]; simp
        have hi3 : i = (γ.h.llog (g.at_ j).term).length := by omega
        have eL : (γ'.h.llog (g.at_ j).term)[i] = ⟨(g.at_ j).term, r⟩ := by
          simp only [nT, hi3]; simp
        rw [eL]
        dsimp only
        have hbl := (R.ok.pre _ a1).length_le
        refine ⟨a1, a2, List.take_prefix _ _, by omega, Int.le_refl _, fun h => by omega⟩
    · have hs' : γ.h.led s := e1 ▸ hs
      by_cases hi2 : i' < (γ.h.llog s).length
      · obtain ⟨hb, eg⟩ := pre_get (hgr s) hi2
        obtain ⟨hb', eg'⟩ := pre_get (hgr s) (i := i) (by omega)
        have := R.ok.mono s hs' i i' (by omega) hi2 hii
        rw [← eg, ← eg']; exact this
      · have es : s = (g.at_ j).term := by
          rw [d3] at hi'
          split at hi'
          · assumption
          · exact absurd hi' hi2
        subst es
        have hle : (γ'.h.llog (g.at_ j).term).length = (γ.h.llog (g.at_ j).term).length + 1 := by rw [nT]; simp
        have hi3 : i' = (γ.h.llog (g.at_ j).term).length := by omega
        have eL : (γ'.h.llog (g.at_ j).term)[i'] = ⟨(g.at_ j).term, r⟩ := by
          simp only [nT, hi3]; simp
        rw [eL]
        by_cases hi4 : i < (γ.h.llog (g.at_ j).term).length
        · obtain ⟨hb, eg⟩ := pre_get (hgr (g.at_ j).term) hi4
          rw [← eg]
          exact (R.ok.mat _ a1 i hi4).2.2.2.2.1
        · have hi5 : i = i' := by omega
          subst hi5
          rw [eL]; exact Int.le_refl _
  refine ⟨γ', ?_, hl, e1, fun u hu => by rw [d3, if_neg hu], nT⟩
  refine R.step hj hl (Int.le_refl _) (Int.le_refl _) hok (fun u hu => by rw [e4]) (fun u h1 h2 => absurd (e1 ▸ h1) h2) (by rw [d3, if_neg (by omega)]; exact R.z.2.2) ?_ (fun u c h1 h2 => by rw [e6, h2] at h1; cases h1) (fun a t l' d' hm hs => ?_)
  · have ht : ((g.at_ j).snoc r).term = (g.at_ j).term := rfl
    have hL : ((g.at_ j).snoc r).log = (g.at_ j).log ++ [⟨(g.at_ j).term, r⟩] := rfl
    have hpl : (g.at_ j).log <+: (g.at_ j).log ++ [⟨(g.at_ j).term, r⟩] := List.prefix_append _ _
    have hlo := Pj.log
    rw [a4] at hlo
    refine ⟨by rw [e10]; exact Pj.s0, by rw [e10]; exact Pj.s1, ?_, fun _ => ?_, fun h => ?_, fun c hc => Pj.vote c (by rw [e6] at hc; exact hc), fun u hu => ?_, fun t h => ?_, ?_⟩
    · rw [e10, a4, hL]
      exact ⟨e1 ▸ a1, by rw [e2]; exact hlo.lo.trans hpl, by rw [d3, if_pos rfl]; exact List.prefix_rfl⟩
    · rw [ht, hL, e1, e5, e10]
      refine ⟨a1, a2, a3, a4, by rw [d3, if_pos rfl], by rw [d5, if_pos ⟨rfl, rfl⟩], fun k hk => ?_⟩
      have h1 := a7 k hk
      have h2 := hl.h.had k (g.at_ j).term
      show (g.at_ j).acks k ≤ _
      omega
    · have h : (g.at_ j).role = 1 := h
      rw [hr] at h; cases h
    · rw [ht] at hu
      rw [e6, d5, if_neg (by omega), e1, e5]
      exact Pj.after u hu
    · rw [d5] at h
      rw [e10, d5, hL]
      split at h
      · rename_i e; rw [if_pos e, e.2, a4]; exact ⟨Int.le_refl _, fun _ => Nat.le_refl _⟩
      · rename_i e
        rw [if_neg e]
        have := (Pj.had t h)
        rw [a4] at this
        exact ⟨by omega, fun e2 => absurd ⟨rfl, by omega⟩ e⟩
    · rw [e10, hL, a4]
      have hd := Pj.done
      rw [a4] at hd
      have hd := hd.le hl.h
      refine ⟨by have := hd.len; rw [List.length_append]; show (g.at_ j).done ≤ _; omega, hd.com.imp id fun ⟨t, k, h1, h2, h3, h4⟩ => ⟨t, k, h1, h2, h3, ?_⟩⟩
      show ((g.at_ j).log ++ _).take (g.at_ j).done <+: _
      rw [List.take_append_of_le_length hd.len]; exact h4
  · rw [e10, a4] at hs
    have := (R.msgs a j _ hm).2.2
    have h1 := this.2.2.1
    rw [← hs, a3] at h1
    exact absurd h1.symm this.1
/-- a vote is counted -/
theorem RI.votes {g : Grp} {γ : Gh} (R : RI g γ) {j i : Nat} (hj : j < g.n) (hr : (g.at_ j).role = 1) (hv : γ.vt i (g.at_ j).term = some j) : RI (g.put j { g.at_ j with votes := fun k => if k = i then true else (g.at_ j).votes k }) γ := by
  have Pj := R.peers j hj
  obtain ⟨a1, a2, a3, a4, a5, a6⟩ := Pj.cand hr
  refine R.put hj ⟨Pj.s0, Pj.s1, Pj.log, fun h => ?_, fun _ => ⟨a1, a2, a3, a4, a5, fun k hk hkv => ?_⟩, Pj.vote, Pj.after, Pj.had, Pj.done⟩ (Int.le_refl _) rfl
  · have h : (g.at_ j).role = 2 := h
    rw [hr] at h; cases h
  · have hkv : (if k = i then true else (g.at_ j).votes k) = true := hkv
    split at hkv
    · rename_i e; rw [e]; exact hv
    · exact a6 k hk hkv
/-- an acknowledged length is noted -/
theorem RI.acks {g : Grp} {γ : Gh} (R : RI g γ) {j i : Nat} {m : Int} (hj : j < g.n) (hr : (g.at_ j).role = 2) (hv : m ≤ (γ.h.had i (g.at_ j).term : Int)) : RI (g.put j { g.at_ j with acks := fun k => if k = i then max ((g.at_ j).acks i) m else (g.at_ j).acks k }) γ := by
  have Pj := R.peers j hj
  obtain ⟨a1, a2, a3, a4, a5, a6, a7⟩ := Pj.lead hr
  refine R.put hj ⟨Pj.s0, Pj.s1, Pj.log, fun _ => ⟨a1, a2, a3, a4, a5, a6, fun k hk => ?_⟩, fun h => ?_, Pj.vote, Pj.after, Pj.had, Pj.done⟩ (Int.le_refl _) rfl
  · show (if k = i then max ((g.at_ j).acks i) m else (g.at_ j).acks k) ≤ _
    split
    · rename_i e; subst e; have := a7 k hk; show max _ _ ≤ ((γ.h.had k (g.at_ j).term : Nat) : Int); omega
    · exact a7 k hk
  · have h : (g.at_ j).role = 1 := h
    rw [hr] at h; cases h
/-- a leader commits -/
theorem RI.commit {g : Grp} {γ : Gh} (R : RI g γ) {j k : Nat} (hj : j < g.n) (hr : (g.at_ j).role = 2) (hk0 : 0 < k) (hk : k ≤ (g.at_ j).log.length) (hok : comOk g j k = true) : RI (g.put j { g.at_ j with done := k }) γ := by
  have Pj := R.peers j hj
  obtain ⟨a1, a2, a3, a4, a5, a6, a7⟩ := Pj.lead hr
  unfold comOk at hok
  rw [Bool.and_eq_true, decide_eq_true_eq] at hok
  refine R.put hj ⟨Pj.s0, Pj.s1, Pj.log, Pj.lead, Pj.cand, Pj.vote, Pj.after, Pj.had, ⟨hk, .inr ⟨(g.at_ j).term, k, ⟨a1, hk0, by rw [← a5]; exact hk, fun hk2 => ?_, (maj_Maj hok.1).mono fun v hv h => ?_⟩, by rw [a4]; exact Int.le_refl _, Nat.le_refl _, by rw [← a5]; exact List.take_prefix _ _⟩⟩⟩ (Int.le_refl _) rfl
  · have := hok.2
    rw [a5] at this
    rw [List.getD_eq_getElem?_getD, List.getElem?_eq_getElem hk2] at this
    exact this
  · simp only [Bool.or_eq_true, decide_eq_true_eq] at h
    rcases h with h | h
    · rw [h, a6]; exact hk
    · have := a7 v hv
      omega
/-- a replica stops, or starts again -/
theorem RI.crash {g : Grp} {γ : Gh} (R : RI g γ) {j : Nat} (hj : j < g.n) (b : Bool) : RI (g.put j { g.at_ j with down := b, role := 0, done := 0 }) γ := by
  have Pj := R.peers j hj
  exact R.put hj ⟨Pj.s0, Pj.s1, Pj.log, fun h => (by cases h), fun h => (by cases h), Pj.vote, Pj.after, Pj.had, CP.zero _ _ _ _⟩ (Int.le_refl _) rfl
end Go.Proofs.Ytbjknckddoegfaa
