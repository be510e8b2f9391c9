/- Layer 48: each thing that a replica does keeps what holds. No program in sight. No condition. -/
import Derived.Test.YtbjknckddoegfaaPlainS
namespace Go.Proofs.Ytbjknckddoegfaa
open Go Go.Gw
set_option linter.unusedSimpArgs false
set_option linter.unusedVariables false
/-- a replica changes, and the history does not -/
theorem RI.put {g : Grp} {γ : Gh} (R : RI g γ) {j : Nat} {p : Peer} (hj : j < g.n) (hp : PeerOK γ g.n j p) (ht : (g.at_ j).term ≤ p.term) (hl : p.log = (g.at_ j).log) : RI (g.put j p) γ := by
  have hat : ∀ v, (g.put j p).at_ v = if v = j then p else g.at_ v := fun v => by
    by_cases e : v = j
    · subst e; rw [Grp.put_same p hj, if_pos rfl]
    · rw [Grp.put_ne p e, if_neg e]
  have hterm : ∀ v, (g.at_ v).term ≤ ((g.put j p).at_ v).term := fun v => by
    rw [hat]; split
    · rename_i e; rw [e]; exact ht
    · exact Int.le_refl _
  have hlog : ∀ v, ((g.put j p).at_ v).log = (g.at_ v).log := fun v => by
    rw [hat]; split
    · rename_i e; rw [e]; exact hl
    · rfl
  have hn := Grp.put_n g j p
  refine ⟨by rw [hn]; exact R.ok, R.z, by rw [hn]; exact R.led, fun v hv => ?_, fun v u c hv hr => ?_, fun a b m hm => ?_, R.fifo, fun a b t l d hm hs => by rw [hlog]; exact R.first a b t l d hm hs⟩
  · rw [hn] at hv ⊢
    rw [hat]; split
    · rename_i e; rw [e]; exact hp
    · exact R.peers v hv
  · rw [hn] at hv ⊢
    obtain ⟨a1, a2, a3⟩ := R.recs v u c hv hr
    have := hterm c
    exact ⟨a1, a2, by omega⟩
  · rw [hn]
    obtain ⟨a1, a2, a3, a4⟩ := R.msgs a b m hm
    refine ⟨a1, a2, a3, ?_⟩
    cases m with
    | ask t l k => exact ⟨a4.1, Int.le_trans a4.2.1 (hterm a), a4.2.2⟩
    | vote t b => exact a4
    | share t l k => exact a4
    | ack t k => exact a4
/-- messages are sent: to each queue at most one, at its end -/
theorem RI.sends {g : Grp} {γ : Gh} (R : RI g γ) {S : Nat → Nat → Prop} [∀ i j, Decidable (S i j)] {m : Msg} (hS : ∀ i j, S i j → i < g.n ∧ j < g.n ∧ i ≠ j ∧ MsgOK γ g.n (g.at_ i).term i j m)
    (hF : ∀ i j, S i j → ∀ t l d, m = .share t l d → (∀ l' d', .share t l' d' ∈ g.q i j → l'.length ≤ l.length) ∧ (γ.src j = t → (g.at_ j).log.length ≤ l.length)) : RI { g with q := fun a b => if S a b then g.q a b ++ [m] else g.q a b } γ := by
  refine ⟨R.ok, R.z, R.led, R.peers, R.recs, fun i j m' hm => ?_, fun i j => ?_, fun i j t l d hm hs => ?_⟩
  · by_cases hs : S i j
    · have hm : m' ∈ g.q i j ++ [m] := by simpa [hs] using hm
      rcases List.mem_append.1 hm with hm | hm
      · exact R.msgs i j m' hm
      · obtain rfl := List.mem_singleton.1 hm
        exact hS i j hs
    · have hm : m' ∈ g.q i j := by simpa [hs] using hm
      exact R.msgs i j m' hm
  · show (if S i j then g.q i j ++ [m] else g.q i j).Pairwise noLonger
    split
    · rename_i hs
      refine List.pairwise_append.2 ⟨R.fifo i j, List.pairwise_singleton _ _, fun a ha b hb => ?_⟩
      obtain rfl := List.mem_singleton.1 hb
      intro t l d l' d' e1 e2
      subst e1
      exact (hF i j hs t l' d' e2).1 l d ha
    · exact R.fifo i j
  · by_cases hss : S i j
    · have hm : Msg.share t l d ∈ g.q i j ++ [m] := by simpa [hss] using hm
      rcases List.mem_append.1 hm with hm | hm
      · exact R.first i j t l d hm hs
      · exact (hF i j hss t l d (List.mem_singleton.1 hm).symm).2 hs
    · have hm : Msg.share t l d ∈ g.q i j := by simpa [hss] using hm
      exact R.first i j t l d hm hs
/-- the oldest message of a queue leaves -/
theorem RI.pop {g : Grp} {γ : Gh} (R : RI g γ) {i j : Nat} {m : Msg} {r : List Msg} (h : g.q i j = m :: r) : RI { g with q := fun a b => if a = i ∧ b = j then r else g.q a b } γ := by
  have hsub : ∀ a b, (if a = i ∧ b = j then r else g.q a b).Sublist (g.q a b) := fun a b => by
    split
    · rename_i e; rw [e.1, e.2, h]; exact List.sublist_cons_self _ _
    · exact List.Sublist.refl _
  exact ⟨R.ok, R.z, R.led, R.peers, R.recs, fun a b m' hm => R.msgs a b m' ((hsub a b).subset hm), fun a b => (R.fifo a b).sublist (hsub a b), fun a b t l d hm hs => R.first a b t l d ((hsub a b).subset hm) hs⟩
/-- replica j acts: its own state and the history change -/
theorem RI.step {g : Grp} {γ γ' : Gh} (R : RI g γ) {j : Nat} {T : Int} {p : Peer} (hj : j < g.n) (hl : Gh.Le γ γ' j T) (h1 : (g.at_ j).term ≤ T) (h2 : T ≤ p.term) (H' : γ'.h.OK g.n) (hvot : ∀ u, γ.h.led u → γ'.h.vot u = γ.h.vot u)
    (hled : ∀ u, γ'.h.led u → ¬ γ.h.led u → 0 < u ∧ γ'.h.base u = γ'.clog j u ∧ ∀ v, γ'.h.vot u v → v < g.n ∧ γ'.vt v u = some j) (hz : γ'.h.llog 0 = []) (hp : PeerOK γ' g.n j p)
    (hrec : ∀ u c, γ'.vt j u = some c → γ.vt j u = none → RecOK γ' j u c ∧ c < g.n ∧ u ≤ ((g.put j p).at_ c).term)
    (hfirst : ∀ a t l d, .share t l d ∈ g.q a j → γ'.src j = t → p.log.length ≤ l.length) : RI (g.put j p) γ' := by
  have hat : ∀ v, (g.put j p).at_ v = if v = j then p else g.at_ v := fun v => by
    by_cases e : v = j
    · subst e; rw [Grp.put_same p hj, if_pos rfl]
    · rw [Grp.put_ne p e, if_neg e]
  have hterm : ∀ v, (g.at_ v).term ≤ ((g.put j p).at_ v).term := fun v => by
    rw [hat]; split
    · rename_i e; rw [e]; omega
    · exact Int.le_refl _
  have hn := Grp.put_n g j p
  have hafter := (R.peers j hj).after
  refine ⟨by rw [hn]; exact H', ⟨(hl.h.led 0 R.z.1).1, (hl.h.led 0 R.z.1).2.1.trans R.z.2.1, hz⟩, fun u hu => ?_, fun v hv => ?_, fun v u c hv hr => ?_, fun a b m hm => ?_, R.fifo, fun a b t l d hm hs => ?_⟩
  · rw [hn]
    by_cases ho : γ.h.led u
    · obtain ⟨a1, a2⟩ := R.led u ho
      refine ⟨a1, fun h0 => ?_⟩
      obtain ⟨b1, b2, b3⟩ := a2 h0
      have hc : γ'.clog (γ.ldr u) u = γ.clog (γ.ldr u) u := hl.clog _ _ (by
        by_cases e : γ.ldr u = j
        · refine .inr ?_
          by_cases hu2 : u ≤ (g.at_ j).term
          · omega
          · exact absurd ⟨ho, e⟩ (hafter u (by omega)).2.2
        · exact .inl e)
      rw [hl.ldr u ho, (hl.h.led u ho).2.1, hvot u ho, hc]
      exact ⟨b1, b2, fun v hv => ⟨(b3 v hv).1, (hl.vto v u _ (b3 v hv).2).1⟩⟩
    · obtain ⟨b1, b2, b3⟩ := hled u hu ho
      have e := (hl.led u hu).resolve_left ho
      exact ⟨Int.le_of_lt b1, fun _ => ⟨by rw [e]; exact hj, by rw [e]; exact b2, by rw [e]; exact b3⟩⟩
  · rw [hn] at hv ⊢
    rw [hat]; split
    · rename_i e; rw [e]; exact hp
    · rename_i e; exact (R.peers v hv).other hl e
  · rw [hn] at hv ⊢
    have old : γ.vt v u = some c → RecOK γ' v u c ∧ c < g.n ∧ u ≤ ((g.put j p).at_ c).term := fun ho => by
      obtain ⟨a1, a2, a3⟩ := R.recs v u c hv ho
      refine ⟨a1.le hl ho (fun e => ?_) (fun e => ?_), a2, Int.le_trans a3 (hterm c)⟩
      · subst e
        by_cases hu2 : u ≤ (g.at_ v).term
        · omega
        · rw [(hafter u (by omega)).1] at ho; cases ho
      · subst e; omega
    by_cases e : v = j
    · subst e
      cases ho : γ.vt v u with
      | none => exact hrec u c hr ho
      | some c' =>
        have := (hl.vto v u c' ho).1
        rw [hr] at this; cases this
        exact old ho
    · rw [hl.vt v e] at hr
      exact old hr
  · rw [hn]
    obtain ⟨a1, a2, a3, a4⟩ := R.msgs a b m hm
    exact ⟨a1, a2, a3, a4.le hl (hterm a) (fun e => by subst e; exact h1)⟩
  · rw [hat]
    split
    · rename_i e; subst e; exact hfirst a t l d hm hs
    · rename_i e; rw [hl.src b e] at hs; exact R.first a b t l d hm hs
theorem Gh.Le.refl (γ : Gh) (j : Nat) (T : Int) : Gh.Le γ γ j T := ⟨Hist.Le.refl _, fun _ h => .inl h, fun _ _ => rfl, fun _ _ _ => rfl, fun _ _ => rfl, fun _ _ _ => rfl, fun _ _ => rfl, fun _ _ _ h => ⟨h, rfl, rfl⟩, fun _ _ _ => rfl⟩
/-- a vote is written down; a candidate's log, too -/
def Gh.grant (γ : Gh) (j : Nat) (u : Int) (c : Nat) (l : List Ent) (cl : Nat → Int → List Ent) : Gh :=
  { γ with vt := fun v x => if v = j ∧ x = u then some c else γ.vt v x, clog := cl, h := { γ.h with vlog := fun v x => if v = j ∧ x = u then l else γ.h.vlog v x, vsrc := fun v x => if v = j ∧ x = u then γ.src j else γ.h.vsrc v x } }
theorem Gh.grant_le {γ : Gh} {j c : Nat} {u T : Int} {l : List Ent} {cl : Nat → Int → List Ent} (hn : γ.vt j u = none) (hc : ∀ c u, c ≠ j ∨ u ≤ T → cl c u = γ.clog c u) : Gh.Le γ (γ.grant j u c l cl) j T := by
  refine ⟨⟨fun u hu => ⟨hu, rfl, List.prefix_rfl⟩, fun _ _ => Nat.le_refl _⟩, fun _ h => .inl h, fun _ _ => rfl, fun _ _ _ => rfl, fun _ _ => rfl, fun _ _ _ => rfl, fun v hv => ?_, fun v x c' hx => ?_, hc⟩
  · funext x
    show (if v = j ∧ x = u then some c else γ.vt v x) = _
    rw [if_neg (fun e => hv e.1)]
  · have hne : ¬ (v = j ∧ x = u) := fun e => by rw [e.1, e.2, hn] at hx; cases hx
    refine ⟨?_, ?_, ?_⟩
    · show (if v = j ∧ x = u then some c else γ.vt v x) = _
      rw [if_neg hne]; exact hx
    · show (if v = j ∧ x = u then l else γ.h.vlog v x) = _
      rw [if_neg hne]
    · show (if v = j ∧ x = u then γ.src j else γ.h.vsrc v x) = _
      rw [if_neg hne]
theorem Gh.grant_ok {γ : Gh} {g : Grp} (R : RI g γ) {j c : Nat} {u : Int} {l : List Ent} {cl : Nat → Int → List Ent} (hn : γ.vt j u = none) : (γ.grant j u c l cl).h.OK g.n := by
  refine R.ok.same rfl rfl rfl rfl (fun x v hx h0 hv => ?_)
  have h1 := ((R.led x hx).2 h0).2.2 v hv
  have hne : ¬ (v = j ∧ x = u) := fun e => by rw [e.1, e.2, hn] at h1; cases h1.2
  refine ⟨?_, ?_, fun _ _ => rfl⟩
  · show (if v = j ∧ x = u then l else γ.h.vlog v x) = _
    rw [if_neg hne]
  · show (if v = j ∧ x = u then γ.src j else γ.h.vsrc v x) = _
    rw [if_neg hne]
/-- replica j votes for c in its term -/
theorem RI.vote {g : Grp} {γ : Gh} (R : RI g γ) {j c : Nat} (hj : j < g.n) (hc : c < g.n) (hcj : c ≠ j) (hv : (g.at_ j).vote = -1 ∨ (g.at_ j).vote = (c : Int)) (h0 : 0 < (g.at_ j).term) (ht : (g.at_ j).term ≤ (g.at_ c).term) (hf : fresher (g.at_ j).log (γ.clog c (g.at_ j).term)) :
    ∃ γ', RI (g.put j { g.at_ j with vote := (c : Int) }) γ' ∧ Gh.Le γ γ' j (g.at_ j).term ∧ γ'.h.had = γ.h.had ∧ γ'.h.led = γ.h.led ∧ γ'.h.llog = γ.h.llog ∧ γ'.vt j (g.at_ j).term = some c := by
  have Pj := R.peers j hj
  cases ho : γ.vt j (g.at_ j).term with
  | some c' =>
    have e := Pj.vote c' ho
    have e2 : c' = c := by rcases hv with h | h <;> omega
    subst e2
    refine ⟨γ, R.put hj ⟨Pj.s0, Pj.s1, Pj.log, Pj.lead, Pj.cand, fun c hc => ?_, Pj.after, Pj.had, Pj.done⟩ (Int.le_refl _) rfl, Gh.Le.refl _ _ _, rfl, rfl, rfl, ho⟩
    rw [ho] at hc; cases hc; rfl
  | none =>
    have hl := Gh.grant_le (γ := γ) (j := j) (c := c) (u := (g.at_ j).term) (T := (g.at_ j).term) (l := (g.at_ j).log) (cl := γ.clog) ho (fun _ _ _ => rfl)
    have hvt : ∀ x, (γ.grant j (g.at_ j).term c (g.at_ j).log γ.clog).vt j x = if x = (g.at_ j).term then some c else γ.vt j x := fun x => by
      show (if j = j ∧ x = _ then some c else γ.vt j x) = _
      simp
    refine ⟨γ.grant j (g.at_ j).term c (g.at_ j).log γ.clog, ?_, hl, rfl, rfl, rfl, by rw [hvt, if_pos rfl]⟩
    refine R.step hj hl (Int.le_refl _) (Int.le_refl _) (Gh.grant_ok R ho) (fun _ _ => rfl) (fun u h1 h2 => absurd h1 h2) R.z.2.2 ?_ (fun u c' h1 h2 => ?_) (fun a t l d hm hs => R.first a j t l d hm hs)
    · refine ⟨Pj.s0, Pj.s1, Pj.log.le hl.h, fun hr => Pj.lead hr, fun hr => ?_, fun c' hc' => ?_, fun u hu => ?_, Pj.had, Pj.done.le hl.h⟩
      · obtain ⟨a1, a2, a3⟩ := Pj.cand hr
        rw [ho] at a2; cases a2
      · rw [hvt, if_pos rfl] at hc'; cases hc'; rfl
      · obtain ⟨a1, a2, a3⟩ := Pj.after u hu
        have hu : (g.at_ j).term < u := hu
        refine ⟨by rw [hvt, if_neg (by omega)]; exact a1, a2, a3⟩
    · rw [hvt] at h1
      split at h1
      · rename_i e
        subst e; cases h1
        have e1 : (γ.grant j (g.at_ j).term c (g.at_ j).log γ.clog).h.vlog j (g.at_ j).term = (g.at_ j).log := by simp [Gh.grant]
        have e2 : (γ.grant j (g.at_ j).term c (g.at_ j).log γ.clog).h.vsrc j (g.at_ j).term = γ.src j := by simp [Gh.grant]
        refine ⟨⟨h0, ?_, ?_, ?_, fun t htu h0' => ?_, ?_⟩, hc, by rw [Grp.put_ne _ hcj]; exact ht⟩
        · rw [e2]; exact Pj.s0
        · rw [e2]; exact Pj.s1
        · rw [e1, e2]; exact Pj.log.le hl.h
        · rw [e1, e2]; exact Pj.had t h0'
        · rw [e1]; exact hf
      · rw [h1] at h2; cases h2
end Go.Proofs.Ytbjknckddoegfaa
