/- Layer 48: what is committed agrees; each record was proposed; majorities. No program in sight. No condition. -/
import Derived.Test.YtbjknckddoegfaaPlainW
namespace Go.Proofs.Ytbjknckddoegfaa
open Go Go.Gw
set_option linter.unusedSimpArgs false
set_option linter.unusedVariables false
def Grp.z (n : Nat) : Grp := ⟨List.replicate n Peer.z, fun _ _ => []⟩
def Gh.z : Gh := { h := { led := fun u => u = 0, base := fun _ => [], llog := fun _ => [], vot := fun _ _ => False, vlog := fun _ _ => [], vsrc := fun _ _ => 0, had := fun _ _ => 0 }, ldr := fun _ => 0, vt := fun _ _ => none, clog := fun _ _ => [], src := fun _ => 0 }
theorem Grp.z_n (n : Nat) : (Grp.z n).n = n := by simp [Grp.z, Grp.n]
theorem Grp.z_at (n i : Nat) : (Grp.z n).at_ i = Peer.z := by
  unfold Grp.z Grp.at_
  rw [List.getD_eq_getElem?_getD, List.getElem?_replicate]
  split <;> rfl
theorem RI.start (n : Nat) : RI (Grp.z n) Gh.z := by
  refine ⟨⟨fun u hu => List.prefix_rfl, fun u hu h0 => ?_, fun u v hu h0 hv => hv.elim, fun u v t hu h0 hv => hv.elim, fun u v hu h0 hv => hv.elim, fun s hs j hj => ?_, fun s hs i j hi => ?_⟩, ⟨rfl, rfl, rfl⟩, fun u hu => ?_, fun v hv => ?_, fun v u c hv h => (by cases h), fun i j m hm => (by cases hm), fun i j => List.Pairwise.nil, fun i j t l d hm => (by cases hm)⟩
  · have : u = 0 := hu
    omega
  · exact absurd hj (Nat.not_lt_zero j)
  · exact absurd hi (Nat.not_lt_zero i)
  · have : u = 0 := hu
    exact ⟨by omega, fun h => by omega⟩
  · rw [Grp.z_at]
    refine ⟨Int.le_refl _, Int.le_refl _, ⟨rfl, List.prefix_rfl, List.prefix_rfl⟩, fun h => (by cases h), fun h => (by cases h), fun c h => (by cases h), fun u hu => ⟨rfl, rfl, fun h => ?_⟩, fun t h => absurd h (Nat.lt_irrefl 0), CP.zero _ _ _ _⟩
    have h1 : u = 0 := h.1
    have hu : (0 : Int) < u := hu
    omega
theorem txtOK.start (P : Nat → ByteArray → Prop) : txtOK P Gh.z := fun s _ i h => absurd h (Nat.not_lt_zero i)
theorem Grp.send_n (g : Grp) (i j : Nat) (m : Msg) : (g.send i j m).n = g.n := rfl
theorem Grp.share_n (g : Grp) (i : Nat) : (g.share i).n = g.n := rfl
theorem Grp.lead_n (g : Grp) (i : Nat) : (g.lead i).n = g.n := by unfold Grp.lead; split; exact (Grp.share_n _ _).trans (Grp.put_n _ _ _); rfl
theorem Grp.commit_n (g : Grp) (i : Nat) : (g.commit i).n = g.n := by unfold Grp.commit; split; exact (Grp.share_n _ _).trans (Grp.put_n _ _ _); rfl
theorem Grp.receive_n (g : Grp) (i j : Nat) (m : Msg) : (g.receive i j m).n = g.n := by
  unfold Grp.receive
  cases m <;> dsimp only <;> (try split) <;> simp only [Grp.send_n, Grp.lead_n, Grp.commit_n, Grp.put_n]
theorem Grp.deliver_n (g : Grp) (i j : Nat) (b : Bool) : (g.deliver i j b).1.n = g.n := by
  unfold Grp.deliver
  split
  · split
    · rfl
    · dsimp only; split
      · rw [Grp.receive_n]; rfl
      · rfl
  · rfl
theorem Grp.crash_n (g : Grp) (i : Nat) (b : Bool) : (g.crash i b).n = g.n := by unfold Grp.crash; split; exact Grp.put_n _ _ _; rfl
theorem Grp.elect_n (g : Grp) (i : Nat) : (g.elect i).n = g.n := by
  unfold Grp.elect; split
  · rw [Grp.lead_n, Grp.all_n, Grp.put_n]
  · rfl
theorem Grp.propose_n (g : Grp) (r : ByteArray) : (g.propose r).n = g.n := by
  unfold Grp.propose; split
  · rfl
  · rw [Grp.commit_n, Grp.share_n, Grp.put_n]
structure OpR where
  kind : Nat
  a : Nat
  b : Nat
  txt : ByteArray
def Grp.act (g : Grp) (k a b : Nat) (r : ByteArray) : Grp := if k = 0 then (g.deliver a b false).1 else if k = 1 then (g.deliver a b true).1 else if k = 2 then g.elect a else if k = 3 then g.propose r else if k = 4 then g.crash a true else g.crash a false
def Grp.do_ (g : Grp) (n : Nat) (x : OpR) : Grp := g.act (x.kind % 6) (x.a % n) (x.b % n) x.txt
def Grp.said (g : Grp) (x : OpR) : Option (Nat × ByteArray) := if x.kind % 6 = 3 then g.got x.txt else none
theorem Grp.act_n (g : Grp) (k a b : Nat) (r : ByteArray) : (g.act k a b r).n = g.n := by
  unfold Grp.act
  split; exact Grp.deliver_n _ _ _ _
  split; exact Grp.deliver_n _ _ _ _
  split; exact Grp.elect_n _ _
  split; exact Grp.propose_n _ _
  split <;> exact Grp.crash_n _ _ _
theorem Grp.do_n (g : Grp) (n : Nat) (x : OpR) : (g.do_ n x).n = g.n := Grp.act_n _ _ _ _ _
theorem RI.act {g : Grp} {γ : Gh} (R : RI g γ) (k a b : Nat) (r : ByteArray) : ∃ γ', RI (g.act k a b r) γ' ∧ Hist.Le γ.h γ'.h ∧ (∀ v t, (g.at_ v).down = true → γ'.h.had v t = γ.h.had v t) ∧ (∀ P : Nat → ByteArray → Prop, (k = 3 → ∀ x, g.got r = some x → P x.1 x.2) → txtOK P γ → txtOK P γ') := by
  have dl : ∀ lost, ∃ γ', RI (g.deliver a b lost).1 γ' ∧ Hist.Le γ.h γ'.h ∧ (∀ v t, (g.at_ v).down = true → γ'.h.had v t = γ.h.had v t) ∧ (∀ P : Nat → ByteArray → Prop, (k = 3 → ∀ x, g.got r = some x → P x.1 x.2) → txtOK P γ → txtOK P γ') := fun lost => by
    obtain ⟨γ', h1, h2, h3⟩ := R.deliver a b lost
    refine ⟨γ', h1, h2.h, fun v t hd => ?_, fun P _ h => h2.txt P (fun _ e => by cases e) h⟩
    by_cases e : v = b
    · subst e; rw [h3 hd]
    · exact h2.had v t e
  unfold Grp.act
  split
  · exact dl false
  split
  · exact dl true
  split
  · obtain ⟨γ', h1, h2, h3⟩ := R.elects a
    refine ⟨γ', h1, h2.h, fun v t hd => ?_, fun P _ h => h2.txt P (fun _ e => by cases e) h⟩
    by_cases e : v = a
    · subst e; rw [h3 hd]
    · exact h2.had v t e
  split
  · rename_i hk
    obtain ⟨γ', h1, j, h2, h3, h4⟩ := R.proposes r
    refine ⟨γ', h1, h3.h, fun v t hd => ?_, fun P hP h => h3.txt P (hP hk) h⟩
    by_cases e : v = j
    · subst e
      by_cases hg : g.got r = none
      · rw [h4 hg]
      · have := (h2 hg).2
        rw [hd] at this; cases this
    · exact h3.had v t e
  split
  · exact ⟨γ, R.crashed a true, Hist.Le.refl _, fun _ _ _ => rfl, fun _ _ h => h⟩
  · exact ⟨γ, R.crashed a false, Hist.Le.refl _, fun _ _ _ => rfl, fun _ _ h => h⟩
def Peer.recs (p : Peer) : List ByteArray := (p.log.take p.done).map (·.txt)
/-- a list that was committed at some time -/
structure Lst (h : Hist) (n : Nat) (xs : List ByteArray) : Prop where
  ex : ∃ s l d, LogOK h s l ∧ CP h n s l d ∧ xs = (l.take d).map (·.txt)
theorem Lst.le {h h' : Hist} (hl : Hist.Le h h') {n : Nat} {xs : List ByteArray} (H : Lst h n xs) : Lst h' n xs := by
  obtain ⟨s, l, d, h1, h2, h3⟩ := H.ex
  exact ⟨s, l, d, h1.le hl, h2.le hl, h3⟩
theorem RI.lst {g : Grp} {γ : Gh} (R : RI g γ) {i : Nat} (hi : i < g.n) : Lst γ.h g.n (g.at_ i).recs := ⟨_, _, _, (R.peers i hi).log, (R.peers i hi).done, rfl⟩
theorem RI.done_le {g : Grp} {γ : Gh} (R : RI g γ) {i : Nat} (hi : i < g.n) : (g.at_ i).done ≤ (g.at_ i).log.length := (R.peers i hi).done.len
theorem Lst.nil (h : Hist) (n : Nat) (hz : h.led 0) (hb : h.base 0 <+: h.llog 0) : Lst h n [] := ⟨0, h.base 0, 0, ⟨hz, List.prefix_rfl, hb⟩, CP.zero _ _ _ _, rfl⟩
theorem RI.txt {g : Grp} {γ : Gh} (R : RI g γ) {P : Nat → ByteArray → Prop} (hP : txtOK P γ) {i : Nat} (hi : i < g.n) : ∀ k (h : k < (g.at_ i).recs.length), P k (g.at_ i).recs[k] := fun k h => by
  have hlo := (R.peers i hi).log
  unfold Peer.recs at h ⊢
  rw [List.getElem_map]
  rw [List.length_map] at h
  obtain ⟨_, e1⟩ := pre_get ((List.take_prefix _ _).trans hlo.hi) h
  rw [e1]
  exact hP _ hlo.led k _
end Go.Proofs.Ytbjknckddoegfaa
