/- Layer 48: elections, leaders, logs taken over, records appended. No program in sight. No condition. -/
import Derived.Test.YtbjknckddoegfaaPlainT
namespace Go.Proofs.Ytbjknckddoegfaa
open Go Go.Gw
set_option linter.unusedSimpArgs false
set_option linter.unusedVariables false
theorem maj_Maj {n : Nat} {f : Nat → Bool} (h : maj n f = true) : Maj n (fun v => f v = true) := by
  unfold maj count at h
  refine ⟨(List.range n).filter f, (List.nodup_range).filter _, fun v hv => ?_, by simpa using h⟩
  obtain ⟨h1, h2⟩ := List.mem_filter.1 hv
  exact ⟨List.mem_range.1 h1, h2⟩
theorem RI.term0 {g : Grp} {γ : Gh} (R : RI g γ) {j : Nat} (hj : j < g.n) : 0 ≤ (g.at_ j).term := Int.le_trans (R.peers j hj).s0 (R.peers j hj).s1
/-- a greater term -/
theorem RI.newer {g : Grp} {γ : Gh} (R : RI g γ) {j : Nat} (hj : j < g.n) (t : Int) : RI (g.put j ((g.at_ j).step t)) γ := by
  have Pj := R.peers j hj
  unfold Peer.step
  split
  · rename_i ht
    refine R.put hj ⟨Pj.s0, by have := Pj.s1; show γ.src j ≤ t; omega, Pj.log, fun h => (by cases h), fun h => (by cases h), fun c hc => ?_, fun u hu => ?_, Pj.had, Pj.done⟩ (Int.le_of_lt ht) rfl
    · have := (Pj.after t ht).1
      rw [show γ.vt j t = some c from hc] at this; cases this
    · have hu : t < u := hu
      exact Pj.after u (by omega)
  · exact R.put hj Pj (Int.le_refl _) rfl
/-- a replica asks to lead -/
def Peer.ask (p : Peer) (j : Nat) : Peer := { p with term := p.term + 1, vote := (j : Int), role := 1, votes := fun k => decide (k = j) }
theorem RI.elect {g : Grp} {γ : Gh} (R : RI g γ) {j : Nat} (hj : j < g.n) :
    ∃ γ', RI (g.put j ((g.at_ j).ask j)) γ' ∧ Gh.Le γ γ' j (g.at_ j).term ∧ γ'.h.had = γ.h.had ∧ γ'.h.led = γ.h.led ∧ γ'.h.llog = γ.h.llog ∧ γ'.clog j ((g.at_ j).term + 1) = (g.at_ j).log := by
  have Pj := R.peers j hj
  have hT := R.term0 hj
  obtain ⟨f1, f2, f3⟩ := Pj.after ((g.at_ j).term + 1) (by omega)
  have s1 := Pj.s1
  generalize hγ : γ.grant j ((g.at_ j).term + 1) j (g.at_ j).log (fun c x => if c = j ∧ x = (g.at_ j).term + 1 then (g.at_ j).log else γ.clog c x) = γ'
  have hl : Gh.Le γ γ' j (g.at_ j).term := hγ ▸ Gh.grant_le f1 (fun c x hc => if_neg (fun e => by rcases hc with h | h; exact h e.1; omega))
  have hok : γ'.h.OK g.n := hγ ▸ Gh.grant_ok R f1
  have e1 : γ'.h.vlog j ((g.at_ j).term + 1) = (g.at_ j).log := by rw [← hγ]; simp [Gh.grant]
  have e2 : γ'.h.vsrc j ((g.at_ j).term + 1) = γ.src j := by rw [← hγ]; simp [Gh.grant]
  have e3 : γ'.clog j ((g.at_ j).term + 1) = (g.at_ j).log := by rw [← hγ]; simp [Gh.grant]
  have e4 : ∀ x, γ'.vt j x = if x = (g.at_ j).term + 1 then some j else γ.vt j x := fun x => by rw [← hγ]; simp [Gh.grant]
  have e5 : γ'.src = γ.src := by rw [← hγ]; rfl
  have e6 : γ'.h.had = γ.h.had := by rw [← hγ]; rfl
  have e7 : γ'.h.led = γ.h.led := by rw [← hγ]; rfl
  have e8 : γ'.ldr = γ.ldr := by rw [← hγ]; rfl
  have e9 : γ'.h.llog = γ.h.llog := by rw [← hγ]; rfl
  have e10 : γ'.h.vot = γ.h.vot := by rw [← hγ]; rfl
  refine ⟨γ', ?_, hl, e6, e7, e9, e3⟩
  refine R.step hj hl (Int.le_refl _) (show _ ≤ (g.at_ j).term + 1 by omega) hok (fun _ _ => by rw [e10]) (fun u h1 h2 => absurd (e7 ▸ h1) h2) (by rw [e9]; exact R.z.2.2) ?_ (fun u c' h1 h2 => ?_) (fun a t l d hm hs => R.first a j t l d hm (e5 ▸ hs))
  · refine ⟨by rw [e5]; exact Pj.s0, by rw [e5]; show _ ≤ (g.at_ j).term + 1; omega, by rw [e5]; exact Pj.log.le hl.h, fun hr => (by cases hr), fun _ => ⟨show 0 < (g.at_ j).term + 1 by omega, by rw [e4]; exact if_pos rfl, e3, by rw [e5]; show _ < (g.at_ j).term + 1; omega, by rw [e7, e8]; exact f3, fun k hk hv => ?_⟩, fun c hc => ?_, fun u hu => ?_, by rw [e5, e6]; exact Pj.had, by rw [e5]; exact Pj.done.le hl.h⟩
    · obtain rfl : k = j := by simpa [Peer.ask] using hv
      rw [e4]; exact if_pos rfl
    · rw [e4, if_pos (show ((g.at_ j).ask j).term = (g.at_ j).term + 1 from rfl)] at hc; cases hc; rfl
    · have hu : (g.at_ j).term + 1 < u := hu
      rw [e4, if_neg (by omega), e6, e7, e8]
      exact Pj.after u (by omega)
  · rw [e4] at h1
    split at h1
    · rename_i e
      subst e; cases h1
      refine ⟨⟨by omega, by rw [e2]; exact Pj.s0, by rw [e2]; omega, by rw [e1, e2]; exact Pj.log.le hl.h, fun t ht h0 => ?_, by rw [e1, e3]; exact .inr ⟨rfl, Nat.le_refl _⟩⟩, hj, by rw [Grp.put_same _ hj]; exact Int.le_refl _⟩
      rw [e6] at h0 ⊢
      rw [e1, e2]; exact Pj.had t h0
    · rw [h1] at h2; cases h2
/-- the leader of a new term -/
def Gh.crown (γ : Gh) (j : Nat) (T : Int) (l : List Ent) (V : Nat → Prop) : Gh :=
  { γ with ldr := fun x => if x = T then j else γ.ldr x, src := fun v => if v = j then T else γ.src v, h := { γ.h with led := fun x => x = T ∨ γ.h.led x, base := fun x => if x = T then l else γ.h.base x, llog := fun x => if x = T then l else γ.h.llog x, vot := fun x v => if x = T then V v else γ.h.vot x v, had := fun v x => if v = j ∧ x = T then l.length else γ.h.had v x } }
theorem RI.unled {g : Grp} {γ : Gh} (R : RI g γ) {j : Nat} (hj : j < g.n) (hr : (g.at_ j).role = 1) (hm : maj g.n (g.at_ j).votes = true) : ¬ γ.h.led (g.at_ j).term := fun hled => by
  obtain ⟨a1, a2, a3, a4, a5, a6⟩ := (R.peers j hj).cand hr
  obtain ⟨v, hv, v1, v2⟩ := (R.ok.maj _ hled a1).meet (maj_Maj hm)
  obtain ⟨b1, b2, b3⟩ := (R.led _ hled).2 a1
  have h1 := (b3 v v1).2
  rw [a6 v hv v2] at h1
  exact a5 ⟨hled, (Option.some.inj h1).symm⟩
theorem RI.crown_ok {g : Grp} {γ : Gh} (R : RI g γ) {j : Nat} (hj : j < g.n) (hr : (g.at_ j).role = 1) (hm : maj g.n (g.at_ j).votes = true) :
    (γ.crown j (g.at_ j).term (g.at_ j).log (fun v => v < g.n ∧ (g.at_ j).votes v = true)).h.OK g.n := by
  have hnl := R.unled hj hr hm
  have Pj := R.peers j hj
  obtain ⟨a1, a2, a3, a4, a5, a6⟩ := Pj.cand hr
  generalize hT : (g.at_ j).term = T at *
  generalize hL : (g.at_ j).log = L at *
  have hne : ∀ {u}, γ.h.led u → u ≠ T := fun hu e => hnl (e ▸ hu)
  generalize hh : (γ.crown j T L (fun v => v < g.n ∧ (g.at_ j).votes v = true)).h = h'
  have d1 : ∀ u, h'.led u ↔ (u = T ∨ γ.h.led u) := fun u => by rw [← hh]; exact Iff.rfl
  have d2 : ∀ u, h'.base u = if u = T then L else γ.h.base u := fun u => by rw [← hh]; rfl
  have d3 : ∀ u, h'.llog u = if u = T then L else γ.h.llog u := fun u => by rw [← hh]; rfl
  have d4 : ∀ u v, h'.vot u v = if u = T then (v < g.n ∧ (g.at_ j).votes v = true) else γ.h.vot u v := fun u v => by rw [← hh]; rfl
  have d5 : ∀ v x, h'.had v x = if v = j ∧ x = T then L.length else γ.h.had v x := fun u v => by rw [← hh]; rfl
  have d6 : h'.vlog = γ.h.vlog := by rw [← hh]; rfl
  have d7 : h'.vsrc = γ.h.vsrc := by rw [← hh]; rfl
  have o2 : ∀ {u}, γ.h.led u → h'.base u = γ.h.base u := fun hu => by rw [d2, if_neg (hne hu)]
  have o3 : ∀ {u}, γ.h.led u → h'.llog u = γ.h.llog u := fun hu => by rw [d3, if_neg (hne hu)]
  have o4 : ∀ {u v}, γ.h.led u → h'.vot u v = γ.h.vot u v := fun hu => by rw [d4, if_neg (hne hu)]
  have n2 : h'.base T = L := by rw [d2, if_pos rfl]
  have n3 : h'.llog T = L := by rw [d3, if_pos rfl]
  have hrec : ∀ v, v < g.n ∧ (g.at_ j).votes v = true → RecOK γ v T j ∧ γ.h.vsrc v T < T := fun v hv => by
    have hr := (R.recs v T j hv.1 (a6 v hv.1 hv.2)).1
    have h1 := hr.s1
    have h2 := hne hr.log.led
    exact ⟨hr, by omega⟩
  have hlog := Pj.log
  rw [hL] at hlog
  refine ⟨fun u hu => ?_, fun u hu h0 => ?_, fun u v hu h0 hv => ?_, fun u v t hu h0 hv htu hpo => ?_, fun u v hu h0 hv => ?_, fun s hs i hi => ?_, fun s hs i i' hi hi' hii => ?_⟩
  · rcases (d1 u).1 hu with e | ho
    · rw [e, n2, n3]; exact List.prefix_rfl
    · rw [o2 ho, o3 ho]; exact R.ok.pre u ho
  · rcases (d1 u).1 hu with e | ho
    · have := maj_Maj hm
      exact this.mono (fun v hv h => by rw [d4, if_pos e]; exact ⟨hv, h⟩)
    · exact (R.ok.maj u ho h0).mono (fun v _ h => by rw [o4 ho]; exact h)
  · rcases (d1 u).1 hu with e | ho
    · subst e
      rw [d4, if_pos rfl] at hv
      obtain ⟨r1, r2⟩ := hrec v hv
      rw [d6, d7, o2 r1.log.led, o3 r1.log.led]
      exact ⟨r1.s0, r2, (d1 _).2 (.inr r1.log.led), r1.log.lo, r1.log.hi⟩
    · rw [o4 ho] at hv
      obtain ⟨r1, r2, r3, r4, r5⟩ := R.ok.src u v ho h0 hv
      rw [d6, d7, o2 r3, o3 r3]
      exact ⟨r1, r2, (d1 _).2 (.inr r3), r4, r5⟩
  · rcases (d1 u).1 hu with e | ho
    · subst e
      rw [d4, if_pos rfl] at hv
      rw [d5, if_neg (by omega)] at hpo ⊢
      rw [d6, d7]
      exact (hrec v hv).1.kept t htu hpo
    · rw [o4 ho] at hv
      have hvt := ((R.led u ho).2 h0).2.2 v hv
      have hne2 : ¬ (v = j ∧ t = T) := fun e => by
        obtain ⟨e1, e2⟩ := e
        subst e1; subst e2
        have := (Pj.after u (by omega)).1
        rw [hvt.2] at this; cases this
      rw [d5, if_neg hne2] at hpo ⊢
      rw [d6, d7]
      exact R.ok.kept u v t ho h0 hv htu hpo
  · rcases (d1 u).1 hu with e | ho
    · subst e
      rw [d4, if_pos rfl] at hv
      rw [d6, n2]
      have := (hrec v hv).1.fresh
      rw [a3] at this; exact this
    · rw [o4 ho] at hv
      rw [d6, o2 ho]
      exact R.ok.fresh u v ho h0 hv
  · rcases (d1 s).1 hs with e | ho
    · subst e
      have hi' : i < L.length := by rw [n3] at hi; exact hi
      obtain ⟨hb, eg⟩ := pre_get hlog.hi hi'
      have hm' := R.ok.mat _ hlog.led i hb
      rw [← eg] at hm'
      have eL : (h'.llog s)[i] = L[i] := by simp only [n3]
      rw [eL, n2, n3, o2 hm'.1, o3 hm'.1]
      refine ⟨(d1 _).2 (.inr hm'.1), hm'.2.1, ?_, hm'.2.2.2.1, by omega, fun _ => by omega⟩
      have : L.take (i + 1) = (γ.h.llog (γ.src j)).take (i + 1) := by
        rw [pre_take hlog.hi, List.take_take, Nat.min_eq_left (by omega)]
      rw [this]; exact hm'.2.2.1
    · have hi' : i < (γ.h.llog s).length := by rw [o3 ho] at hi; exact hi
      have hm' := R.ok.mat s ho i hi'
      have eL : (h'.llog s)[i] = (γ.h.llog s)[i] := by simp only [o3 ho]
      rw [eL, o2 ho, o3 ho, o2 hm'.1, o3 hm'.1]
      exact ⟨(d1 _).2 (.inr hm'.1), hm'.2⟩
  · rcases (d1 s).1 hs with e | ho
    · subst e
      have k1 : i < L.length := by rw [n3] at hi; exact hi
      have k2 : i' < L.length := by rw [n3] at hi'; exact hi'
      obtain ⟨b1, g1⟩ := pre_get hlog.hi k1
      obtain ⟨b2, g2⟩ := pre_get hlog.hi k2
      have := R.ok.mono _ hlog.led i i' b1 b2 hii
      rw [← g1, ← g2] at this
      simpa only [n3] using this
    · have k1 : i < (γ.h.llog s).length := by rw [o3 ho] at hi; exact hi
      have k2 : i' < (γ.h.llog s).length := by rw [o3 ho] at hi'; exact hi'
      have := R.ok.mono s ho i i' k1 k2 hii
      simpa only [o3 ho] using this
def Peer.lead (p : Peer) : Peer := { p with role := 2, acks := fun _ => 0 }
theorem RI.crown {g : Grp} {γ : Gh} (R : RI g γ) {j : Nat} (hj : j < g.n) (hr : (g.at_ j).role = 1) (hm : maj g.n (g.at_ j).votes = true) :
    ∃ γ', RI (g.put j (g.at_ j).lead) γ' ∧ Gh.Le γ γ' j (g.at_ j).term ∧ (∀ u, γ'.h.led u ↔ u = (g.at_ j).term ∨ γ.h.led u) ∧ (∀ u, u ≠ (g.at_ j).term → γ'.h.llog u = γ.h.llog u) ∧ γ'.h.llog (g.at_ j).term = (g.at_ j).log := by
  have hnl := R.unled hj hr hm
  have hok := R.crown_ok hj hr hm
  have Pj := R.peers j hj
  obtain ⟨a1, a2, a3, a4, a5, a6⟩ := Pj.cand hr
  have hne : ∀ {u}, γ.h.led u → u ≠ (g.at_ j).term := fun hu e => hnl (e ▸ hu)
  have hz : γ.h.had j (g.at_ j).term = 0 := by
    by_cases h : 0 < γ.h.had j (g.at_ j).term
    · have := (Pj.had _ h).1; omega
    · omega
  generalize hγ : γ.crown j (g.at_ j).term (g.at_ j).log (fun v => v < g.n ∧ (g.at_ j).votes v = true) = γ' at *
  have d1 : ∀ u, γ'.h.led u ↔ (u = (g.at_ j).term ∨ γ.h.led u) := fun u => by rw [← hγ]; exact Iff.rfl
  have d2 : ∀ u, γ'.h.base u = if u = (g.at_ j).term then (g.at_ j).log else γ.h.base u := fun u => by rw [← hγ]; rfl
  have d3 : ∀ u, γ'.h.llog u = if u = (g.at_ j).term then (g.at_ j).log else γ.h.llog u := fun u => by rw [← hγ]; rfl
  have d4 : ∀ u v, γ'.h.vot u v = if u = (g.at_ j).term then (v < g.n ∧ (g.at_ j).votes v = true) else γ.h.vot u v := fun u v => by rw [← hγ]; rfl
  have d5 : ∀ v x, γ'.h.had v x = if v = j ∧ x = (g.at_ j).term then (g.at_ j).log.length else γ.h.had v x := fun u v => by rw [← hγ]; rfl
  have d6 : ∀ x, γ'.ldr x = if x = (g.at_ j).term then j else γ.ldr x := fun x => by rw [← hγ]; rfl
  have d7 : ∀ v, γ'.src v = if v = j then (g.at_ j).term else γ.src v := fun x => by rw [← hγ]; rfl
  have d8 : γ'.vt = γ.vt := by rw [← hγ]; rfl
  have d9 : γ'.clog = γ.clog := by rw [← hγ]; rfl
  have d10 : γ'.h.vlog = γ.h.vlog := by rw [← hγ]; rfl
  have d11 : γ'.h.vsrc = γ.h.vsrc := by rw [← hγ]; rfl
  have hl : Gh.Le γ γ' j (g.at_ j).term := by
    refine ⟨⟨fun u hu => ⟨(d1 u).2 (.inr hu), by rw [d2, if_neg (hne hu)], by rw [d3, if_neg (hne hu)]; exact List.prefix_rfl⟩, fun v t => ?_⟩, fun u hu => ?_, fun u hu => by rw [d6, if_neg (hne hu)], fun u hu _ => by rw [d3, if_neg (hne hu)], fun v hv => by rw [d7, if_neg hv], fun v t h => ?_, fun v _ => by rw [d8], fun v u c h => ⟨by rw [d8]; exact h, by rw [d10], by rw [d11]⟩, fun c u _ => by rw [d9]⟩
    · rw [d5]; split
      · rename_i e; rw [e.1, e.2, hz]; exact Nat.zero_le _
      · exact Nat.le_refl _
    · rcases (d1 u).1 hu with e | h
      · exact .inr (by rw [d6, if_pos e])
      · exact .inl h
    · rw [d5, if_neg (fun e => by rcases h with h | h; exact h e.1; omega)]
  refine ⟨γ', ?_, hl, d1, fun u hu => by rw [d3, if_neg hu], by rw [d3, if_pos rfl]⟩
  refine R.step hj hl (Int.le_refl _) (Int.le_refl _) hok (fun u hu => by funext v; rw [d4, if_neg (hne hu)]) (fun u h1 h2 => ?_) (by rw [d3, if_neg (by omega)]; exact R.z.2.2) ?_ (fun u c h1 h2 => ?_) (fun a t l d hm hs => ?_)
  · have e := ((d1 u).1 h1).resolve_right h2
    subst e
    refine ⟨a1, by rw [d2, if_pos rfl, d9, a3], fun v hv => ?_⟩
    rw [d4, if_pos rfl] at hv
    exact ⟨hv.1, by rw [d8]; exact a6 v hv.1 hv.2⟩
  · have ht : (g.at_ j).lead.term = (g.at_ j).term := rfl
    have hL : (g.at_ j).lead.log = (g.at_ j).log := rfl
    refine ⟨by rw [d7, if_pos rfl]; omega, by rw [d7, if_pos rfl]; exact Int.le_refl _, ?_, fun _ => ?_, fun h => (by cases h), fun c hc => Pj.vote c (by rw [d8] at hc; exact hc), fun u hu => ?_, fun t h => ?_, ?_⟩
    · rw [d7, if_pos rfl, hL]
      exact ⟨(d1 _).2 (.inl rfl), by rw [d2, if_pos rfl]; exact List.prefix_rfl, by rw [d3, if_pos rfl]; exact List.prefix_rfl⟩
    · rw [ht, hL]
      exact ⟨(d1 _).2 (.inl rfl), a1, by rw [d6, if_pos rfl], by rw [d7, if_pos rfl], by rw [d3, if_pos rfl], by rw [d5, if_pos ⟨rfl, rfl⟩], fun k _ => Int.natCast_nonneg _⟩
    · rw [ht] at hu
      obtain ⟨b1, b2, b3⟩ := Pj.after u hu
      rw [d8, d5, if_neg (by omega), d6, if_neg (by omega)]
      exact ⟨b1, b2, fun h => b3 ⟨((d1 u).1 h.1).resolve_left (by omega), h.2⟩⟩
    · rw [d5] at h
      rw [d7, if_pos rfl, d5, hL]
      split at h
      · rename_i e; rw [if_pos e, e.2]; exact ⟨Int.le_refl _, fun _ => Nat.le_refl _⟩
      · rename_i e
        have := (Pj.had t h).1
        exact ⟨by omega, fun e2 => by omega⟩
    · rw [d7, if_pos rfl, hL]
      have hd := Pj.done.le hl.h
      exact ⟨hd.len, hd.com.imp id fun ⟨t, k, h1, h2, h3⟩ => ⟨t, k, h1, by omega, h3⟩⟩
  · rw [d8] at h1; rw [h1] at h2; cases h2
  · rw [d7, if_pos rfl] at hs
    have := (R.msgs a j _ hm).2.2.2
    rw [← hs] at this
    exact absurd this.2.2.1.led hnl
end Go.Proofs.Ytbjknckddoegfaa
