/- Layer 48: bounds that every operation keeps; elections in unequal terms; the phases of progress. No program in sight. No condition. -/
import Derived.Test.YtbjknckddoegfaaPlainZ
namespace Go.Proofs.Ytbjknckddoegfaa
open Go Go.Gw
set_option linter.unusedSimpArgs false
set_option linter.unusedVariables false
theorem Grp.lead_self {g : Grp} {i : Nat} (hi : i < g.n) : (g.lead i).at_ i = g.at_ i ∨ (g.lead i).at_ i = (g.at_ i).lead := by
  unfold Grp.lead; split
  · exact .inr (by rw [Grp.share_at]; exact Grp.put_same _ hi)
  · exact .inl rfl
theorem Grp.commit_self {g : Grp} {i : Nat} (hi : i < g.n) : ∃ d, (g.commit i).at_ i = { g.at_ i with done := d } := by
  unfold Grp.commit; split
  · rename_i k hk
    exact ⟨k, by rw [Grp.share_at, Grp.put_same _ hi]⟩
  · exact ⟨_, rfl⟩
/-- what a replica's step tells of the queues -/
def Adds (g g' : Grp) (T : Int) (L : Nat) : Prop := ∀ a b, ∃ X, g'.q a b = g.q a b ++ X ∧ ∀ x ∈ X, x.term = T ∧ ∀ t l d, x = .share t l d → l.length ≤ L
theorem Adds.refl (g : Grp) (T : Int) (L : Nat) : Adds g g T L := fun a b => ⟨[], by simp, by simp⟩
theorem Adds.share {g : Grp} (i : Nat) {L : Nat} (h : (g.at_ i).log.length ≤ L) : Adds g (g.share i) (g.at_ i).term L := fun a b => by
  by_cases e : a = i ∧ b ≠ i ∧ b < g.n
  · refine ⟨[.share (g.at_ i).term (g.at_ i).log (g.at_ i).done], if_pos e, fun x hx => ?_⟩
    rw [List.mem_singleton.1 hx]
    exact ⟨rfl, fun t l d e => by cases e; exact h⟩
  · exact ⟨[], by rw [List.append_nil]; exact if_neg e, by simp⟩
theorem Adds.put {g g' : Grp} {i : Nat} {p : Peer} {T : Int} {L : Nat} (h : Adds (g.put i p) g' T L) : Adds g g' T L := h
theorem Adds.lead {g : Grp} {i : Nat} (hi : i < g.n) {L : Nat} (h : (g.at_ i).log.length ≤ L) : Adds g (g.lead i) (g.at_ i).term L := by
  unfold Grp.lead; split
  · have hat := Grp.put_same (g := g) (g.at_ i).lead hi
    have := Adds.share (g := g.put i (g.at_ i).lead) i (L := L) (by rw [hat]; exact h)
    rw [hat] at this
    exact this
  · exact Adds.refl _ _ _
theorem Adds.commit {g : Grp} {i : Nat} (hi : i < g.n) {L : Nat} (h : (g.at_ i).log.length ≤ L) : Adds g (g.commit i) (g.at_ i).term L := by
  unfold Grp.commit; split
  · rename_i k hk
    have hat := Grp.put_same (g := g) { g.at_ i with done := k } hi
    have := Adds.share (g := g.put i { g.at_ i with done := k }) i (L := L) (by rw [hat]; exact h)
    rw [hat] at this
    exact this
  · exact Adds.refl _ _ _
theorem Adds.send {g : Grp} (i j : Nat) {m : Msg} {T : Int} {L : Nat} (h : m.term = T) (hs : ∀ t l d, m ≠ .share t l d) : Adds g (g.send i j m) T L := fun a b => by
  by_cases e : a = i ∧ b = j
  · exact ⟨[m], if_pos e, fun x hx => by rw [List.mem_singleton.1 hx]; exact ⟨h, fun t l d e => absurd e (hs t l d)⟩⟩
  · exact ⟨[], by rw [List.append_nil]; exact if_neg e, by simp⟩
theorem Peer.step_term (p : Peer) (t : Int) : (p.step t).term = max p.term t := by unfold Peer.step; split; show t = _; omega; omega
theorem Peer.step_log (p : Peer) (t : Int) : (p.step t).log = p.log := by unfold Peer.step; split <;> rfl
theorem Peer.step_down (p : Peer) (t : Int) : (p.step t).down = p.down := by unfold Peer.step; split <;> rfl
theorem Grp.receive_all {g : Grp} {i j : Nat} (m : Msg) (hj : j < g.n) {L : Nat} (hL : (g.at_ j).log.length ≤ L) (hm : ∀ t l d, m = .share t l d → l.length ≤ L) :
    ((g.receive i j m).at_ j).term = max (g.at_ j).term m.term ∧ ((g.receive i j m).at_ j).down = (g.at_ j).down ∧ ((g.receive i j m).at_ j).log.length ≤ L ∧ Adds g (g.receive i j m) (max (g.at_ j).term m.term) L := by
  rw [← Peer.step_term, ← Peer.step_down (g.at_ j) m.term]
  rw [← Peer.step_log (g.at_ j) m.term] at hL
  unfold Grp.receive
  generalize (g.at_ j).step m.term = p at *
  have sd : ∀ (p' : Peer) (x : Msg), p'.term = p.term → p'.down = p.down → p'.log.length ≤ L → x.term = p.term → (∀ t l d, x ≠ .share t l d) → ((((g.put j p').send j i x).at_ j).term = p.term ∧ (((g.put j p').send j i x).at_ j).down = p.down ∧ (((g.put j p').send j i x).at_ j).log.length ≤ L ∧ Adds g ((g.put j p').send j i x) p.term L) := fun p' x h1 h2 h3 h4 h5 => by
    rw [Grp.send_at, Grp.put_same _ hj]
    exact ⟨h1, h2, h3, (Adds.send (g := g.put j p') j i h4 h5).put⟩
  have pt : ((g.put j p).at_ j).term = p.term ∧ ((g.put j p).at_ j).down = p.down ∧ ((g.put j p).at_ j).log.length ≤ L ∧ Adds g (g.put j p) p.term L := by
    rw [Grp.put_same _ hj]; exact ⟨rfl, rfl, hL, (Adds.refl (g.put j p) _ _).put⟩
  have ld : ∀ (p' : Peer), p'.term = p.term → p'.down = p.down → p'.log.length ≤ L → ((((g.put j p').lead j).at_ j).term = p.term ∧ (((g.put j p').lead j).at_ j).down = p.down ∧ (((g.put j p').lead j).at_ j).log.length ≤ L ∧ Adds g ((g.put j p').lead j) p.term L) := fun p' h1 h2 h3 => by
    have hn := Grp.put_n g j p'
    have hat := Grp.put_same (g := g) p' hj
    have ha := Adds.lead (g := g.put j p') (i := j) (by rw [hn]; exact hj) (L := L) (by rw [hat]; exact h3)
    rw [hat, h1] at ha
    refine ⟨?_, ?_, ?_, ha.put⟩ <;> rcases Grp.lead_self (g := g.put j p') (i := j) (by rw [hn]; exact hj) with e | e <;> rw [e, hat]
    · exact h1
    · exact h1
    · exact h2
    · exact h2
    · exact h3
    · exact h3
  have cm : ∀ (p' : Peer), p'.term = p.term → p'.down = p.down → p'.log.length ≤ L → ((((g.put j p').commit j).at_ j).term = p.term ∧ (((g.put j p').commit j).at_ j).down = p.down ∧ (((g.put j p').commit j).at_ j).log.length ≤ L ∧ Adds g ((g.put j p').commit j) p.term L) := fun p' h1 h2 h3 => by
    have hn := Grp.put_n g j p'
    have hat := Grp.put_same (g := g) p' hj
    have ha := Adds.commit (g := g.put j p') (i := j) (by rw [hn]; exact hj) (L := L) (by rw [hat]; exact h3)
    rw [hat, h1] at ha
    obtain ⟨d, e⟩ := Grp.commit_self (g := g.put j p') (i := j) (by rw [hn]; exact hj)
    rw [e, hat]
    exact ⟨h1, h2, h3, ha.put⟩
  cases m with
  | ask t l n => dsimp only; exact sd _ _ (by split <;> rfl) (by split <;> rfl) (by split <;> exact hL) rfl (fun _ _ _ e => by cases e)
  | vote t b =>
    dsimp only; split
    · exact ld _ rfl rfl hL
    · exact pt
  | share t l d =>
    dsimp only; split
    · exact sd _ _ rfl rfl (hm t l d rfl) rfl (fun _ _ _ e => by cases e)
    · exact sd _ _ rfl rfl hL rfl (fun _ _ _ e => by cases e)
  | ack t n =>
    dsimp only; split
    · exact cm _ rfl rfl hL
    · exact pt
/-- no log is longer than L, no term greater than M -/
structure Lim (g : Grp) (L : Nat) (M : Int) : Prop where
  log : ∀ v, v < g.n → (g.at_ v).log.length ≤ L
  tm : ∀ v, v < g.n → (g.at_ v).term ≤ M
  qs : ∀ a b x, x ∈ g.q a b → x.term ≤ M ∧ ∀ t l d, x = .share t l d → l.length ≤ L
theorem Lim.adds {g g' : Grp} {L : Nat} {M T : Int} {j : Nat} (H : Lim g L M) (hn : g'.n = g.n) (ho : ∀ v, v ≠ j → g'.at_ v = g.at_ v) (hl : (g'.at_ j).log.length ≤ L) (ht : (g'.at_ j).term ≤ M) (hT : T ≤ M) (ha : Adds g g' T L) : Lim g' L M := by
  refine ⟨fun v hv => ?_, fun v hv => ?_, fun a b x hx => ?_⟩
  · rw [hn] at hv
    by_cases e : v = j
    · rw [e]; exact hl
    · rw [ho v e]; exact H.log v hv
  · rw [hn] at hv
    by_cases e : v = j
    · rw [e]; exact ht
    · rw [ho v e]; exact H.tm v hv
  · obtain ⟨X, h1, h2⟩ := ha a b
    rw [h1] at hx
    rcases List.mem_append.1 hx with h | h
    · exact H.qs a b x h
    · exact ⟨by rw [(h2 x h).1]; exact hT, (h2 x h).2⟩
theorem Lim.pop {g : Grp} {L : Nat} {M : Int} (H : Lim g L M) {i j : Nat} {m : Msg} {r : List Msg} (h : g.q i j = m :: r) : Lim (g.pop i j r) L M := by
  refine ⟨H.log, H.tm, fun a b x hx => ?_⟩
  have hx : x ∈ (if a = i ∧ b = j then r else g.q a b) := hx
  split at hx
  · rename_i e; rw [e.1, e.2] at *; exact H.qs i j x (by rw [h]; exact List.mem_cons_of_mem _ hx)
  · exact H.qs a b x hx
theorem Lim.deliver {g : Grp} {L : Nat} {M : Int} (H : Lim g L M) (i j : Nat) (lost : Bool) : Lim (g.deliver i j lost).1 L M := by
  unfold Grp.deliver
  split
  · rename_i hc
    obtain ⟨hi, hj, hij⟩ := hc
    split
    · exact H
    · rename_i m r hq
      dsimp only; split
      · have hm := H.qs i j m (by rw [hq]; exact List.mem_cons_self ..)
        have Hp := H.pop hq
        have ht := H.tm j hj
        obtain ⟨h1, h2, h3, h4⟩ := Grp.receive_all (g := g.pop i j r) (i := i) (j := j) m hj (H.log j hj) hm.2
        refine Hp.adds (j := j) (Grp.receive_n _ _ _ _) (fun v hv => Grp.receive_at _ _ hv) h3 ?_ ?_ h4
        · rw [h1]; show max (g.at_ j).term _ ≤ _; omega
        · show max (g.at_ j).term _ ≤ _; omega
      · exact H.pop hq
  · exact H
theorem Lim.mono {g : Grp} {L L' : Nat} {M M' : Int} (H : Lim g L M) (h1 : L ≤ L') (h2 : M ≤ M') : Lim g L' M' := ⟨fun v hv => Nat.le_trans (H.log v hv) h1, fun v hv => Int.le_trans (H.tm v hv) h2, fun a b x hx => ⟨Int.le_trans (H.qs a b x hx).1 h2, fun t l d e => Nat.le_trans ((H.qs a b x hx).2 t l d e) h1⟩⟩
theorem Lim.crash {g : Grp} {L : Nat} {M : Int} (H : Lim g L M) (i : Nat) (b : Bool) : Lim (g.crash i b) L M := by
  unfold Grp.crash; split
  · rename_i h
    refine H.adds (j := i) (T := M) (Grp.put_n _ _ _) (fun v hv => Grp.put_ne _ hv) ?_ ?_ (Int.le_refl _) (Adds.refl (g.put i _) _ _).put
    · rw [Grp.put_same _ h.1]; exact H.log i h.1
    · rw [Grp.put_same _ h.1]; exact H.tm i h.1
  · exact H
theorem Lim.elect {g : Grp} {L : Nat} {M : Int} (H : Lim g L M) (i : Nat) (hM : (g.at_ i).term + 1 ≤ M) : Lim (g.elect i) L M := by
  unfold Grp.elect; split
  · rename_i h
    obtain ⟨hi, _⟩ := h
    have hn := Grp.put_n g i ((g.at_ i).ask i)
    have hat := Grp.put_same (g := g) ((g.at_ i).ask i) hi
    have H1 : Lim ((g.put i ((g.at_ i).ask i)).all i (.ask ((g.at_ i).term + 1) (lastT (g.at_ i).log) (g.at_ i).log.length)) L M := by
      refine H.adds (j := i) (T := (g.at_ i).term + 1) hn (fun v hv => Grp.put_ne _ hv) ?_ ?_ hM (fun a b => ?_)
      · rw [Grp.all_at, hat]; exact H.log i hi
      · rw [Grp.all_at, hat]; exact hM
      · by_cases e : a = i ∧ b ≠ i ∧ b < (g.put i ((g.at_ i).ask i)).n
        · exact ⟨_, if_pos e, fun x hx => by rw [List.mem_singleton.1 hx]; exact ⟨rfl, fun t l d e => by cases e⟩⟩
        · exact ⟨[], by rw [List.append_nil]; exact if_neg e, by simp⟩
    generalize hg1 : (g.put i ((g.at_ i).ask i)).all i (.ask ((g.at_ i).term + 1) (lastT (g.at_ i).log) (g.at_ i).log.length) = g1 at *
    have hi1 : i < g1.n := by rw [← hg1, Grp.all_n, hn]; exact hi
    refine H1.adds (j := i) (Grp.lead_n _ _) (fun v hv => Grp.lead_at _ hv) ?_ ?_ (H1.tm i hi1) (Adds.lead hi1 (H1.log i hi1))
    · rcases Grp.lead_self hi1 with e | e <;> rw [e] <;> exact H1.log i hi1
    · rcases Grp.lead_self hi1 with e | e <;> rw [e] <;> exact H1.tm i hi1
  · exact H
theorem Lim.propose {g : Grp} {L : Nat} {M : Int} (H : Lim g L M) (r : ByteArray) : Lim (g.propose r) (L + 1) M := by
  unfold Grp.propose; split
  · exact H.mono (Nat.le_succ _) (Int.le_refl _)
  · rename_i i h
    have H' := H.mono (Nat.le_succ L) (Int.le_refl M)
    have hi := (bestTo_some (taker_some h).2.1).1
    have hn := Grp.put_n g i ((g.at_ i).snoc r)
    have hat := Grp.put_same (g := g) ((g.at_ i).snoc r) hi
    have hlog : ((g.at_ i).snoc r).log.length ≤ L + 1 := by
      show ((g.at_ i).log ++ _).length ≤ _
      rw [List.length_append]; have := H.log i hi; simp; omega
    have H1 : Lim ((g.put i ((g.at_ i).snoc r)).share i) (L + 1) M := by
      refine H'.adds (j := i) (T := (g.at_ i).term) hn (fun v hv => Grp.put_ne _ hv) ?_ ?_ (H.tm i hi) ?_
      · rw [Grp.share_at, hat]; exact hlog
      · rw [Grp.share_at, hat]; exact H.tm i hi
      · have := Adds.share (g := g.put i ((g.at_ i).snoc r)) i (L := L + 1) (by rw [hat]; exact hlog)
        rw [hat] at this
        exact this
    generalize hg1 : (g.put i ((g.at_ i).snoc r)).share i = g1 at *
    have hi1 : i < g1.n := by rw [← hg1, Grp.share_n, hn]; exact hi
    obtain ⟨d, e⟩ := Grp.commit_self hi1
    refine H1.adds (j := i) (Grp.commit_n _ _) (fun v hv => Grp.commit_at _ hv) ?_ ?_ (H1.tm i hi1) (Adds.commit hi1 (H1.log i hi1))
    · rw [e]; exact H1.log i hi1
    · rw [e]; exact H1.tm i hi1
theorem Lim.start (n : Nat) : Lim (Grp.z n) 0 0 := ⟨fun v _ => by rw [Grp.z_at]; exact Nat.le_refl 0, fun v _ => by rw [Grp.z_at]; exact Int.le_refl 0, fun a b x hx => by cases hx⟩
theorem Lim.act {g : Grp} {L : Nat} {M : Int} (H : Lim g L M) (k a b : Nat) (r : ByteArray) : Lim (g.act k a b r) (L + 1) (M + 1) := by
  have H' := H.mono (Nat.le_succ L) (show M ≤ M + 1 by omega)
  unfold Grp.act
  split; exact H'.deliver _ _ _
  split; exact H'.deliver _ _ _
  split
  · by_cases ha : a < g.n
    · exact H'.elect a (by have := H.tm a ha; omega)
    · unfold Grp.elect; rw [if_neg (fun h => ha h.1)]; exact H'
  split; exact (H.propose r).mono (Nat.le_refl _) (by omega)
  split <;> exact H'.crash _ _
def Up (g : Grp) : Prop := ∀ v, v < g.n → (g.at_ v).down = false
theorem Up.deliver {g : Grp} (H : Up g) (i j : Nat) (lost : Bool) : Up (g.deliver i j lost).1 := fun v hv => by
  rw [Grp.deliver_n] at hv
  by_cases e : v = j
  · subst e
    unfold Grp.deliver
    split
    · split
      · exact H v hv
      · rename_i m r hq
        dsimp only; split
        · have := (Grp.receive_all (g := g.pop i v r) (i := i) (j := v) m hv (L := max (g.at_ v).log.length (match m with | .share _ l _ => l.length | _ => 0)) (by rw [Grp.pop_at]; omega) (fun t l d e => by subst e; dsimp only; omega)).2.1
          rw [this]; exact H v hv
        · exact H v hv
    · exact H v hv
  · rw [Grp.deliver_at _ _ (.inl e)]; exact H v hv
theorem Up.elect {g : Grp} (H : Up g) (i : Nat) : Up (g.elect i) := fun v hv => by
  rw [Grp.elect_n] at hv
  unfold Grp.elect; split
  · rename_i h
    have hn := Grp.put_n g i ((g.at_ i).ask i)
    by_cases e : v = i
    · subst e
      have hat : ((g.put v ((g.at_ v).ask v)).all v (.ask ((g.at_ v).term + 1) (lastT (g.at_ v).log) (g.at_ v).log.length)).at_ v = (g.at_ v).ask v := Grp.put_same _ h.1
      rcases Grp.lead_self (g := (g.put v ((g.at_ v).ask v)).all v (.ask ((g.at_ v).term + 1) (lastT (g.at_ v).log) (g.at_ v).log.length)) (i := v) (by rw [Grp.all_n, hn]; exact hv) with e | e <;> rw [e, hat] <;> exact H v hv
    · rw [Grp.lead_at _ e, Grp.all_at, Grp.put_ne _ e]; exact H v hv
  · exact H v hv
theorem Up.propose {g : Grp} (H : Up g) (r : ByteArray) : Up (g.propose r) := fun v hv => by
  rw [Grp.propose_n] at hv
  unfold Grp.propose; split
  · exact H v hv
  · rename_i i h
    have hi := (bestTo_some (taker_some h).2.1).1
    have hn := Grp.put_n g i ((g.at_ i).snoc r)
    by_cases e : v = i
    · subst e
      obtain ⟨d, e⟩ := Grp.commit_self (g := (g.put v ((g.at_ v).snoc r)).share v) (i := v) (by rw [Grp.share_n, hn]; exact hi)
      rw [e, Grp.share_at, Grp.put_same _ hi]; exact H v hv
    · rw [Grp.commit_at _ e, Grp.share_at, Grp.put_ne _ e]; exact H v hv
end Go.Proofs.Ytbjknckddoegfaa
