/- Layer 48: why leaders of later terms hold what was committed. Plain; no program, no state. No condition. -/
import Derived.Test.YtbjknckddoegfaaPlain
namespace Go.Proofs.Ytbjknckddoegfaa
open Go Go.Gw
set_option linter.unusedSimpArgs false
set_option linter.unusedVariables false
theorem nodup_le {l : List Nat} {n : Nat} (hd : l.Nodup) (h : ∀ v ∈ l, v < n) : l.length ≤ n := by
  induction n generalizing l with
  | zero =>
    cases l with
    | nil => exact Nat.le_refl 0
    | cons a r => exact absurd (h a (by simp)) (by omega)
  | succ n ih =>
    by_cases hm : n ∈ l
    · have h1 := ih (hd.erase n) (fun v hv => by
        have h2 := h v (List.mem_of_mem_erase hv)
        have h3 : v ≠ n := fun e => by subst e; exact absurd hv (List.Nodup.not_mem_erase hd)
        omega)
      rw [List.length_erase_of_mem hm] at h1
      have := List.length_pos_of_mem hm
      omega
    · exact Nat.le_succ_of_le (ih hd (fun v hv => by
        have h2 := h v hv
        have h3 : v ≠ n := fun e => hm (e ▸ hv)
        omega))
/-- more than half of n hold S -/
def Maj (n : Nat) (S : Nat → Prop) : Prop := ∃ l : List Nat, l.Nodup ∧ (∀ v ∈ l, v < n ∧ S v) ∧ 2 * l.length > n
theorem Maj.meet {n : Nat} {S T : Nat → Prop} (h1 : Maj n S) (h2 : Maj n T) : ∃ v, v < n ∧ S v ∧ T v := by
  obtain ⟨l1, d1, m1, c1⟩ := h1
  obtain ⟨l2, d2, m2, c2⟩ := h2
  by_cases he : ∃ v, v ∈ l1 ∧ v ∈ l2
  · obtain ⟨v, a, b⟩ := he
    exact ⟨v, (m1 v a).1, (m1 v a).2, (m2 v b).2⟩
  · have hd : (l1 ++ l2).Nodup := List.nodup_append.2 ⟨d1, d2, fun a ha b hb e => he ⟨a, ha, e ▸ hb⟩⟩
    have := nodup_le hd (n := n) (fun v hv => (List.mem_append.1 hv).elim (fun h => (m1 v h).1) (fun h => (m2 v h).1))
    rw [List.length_append] at this
    omega
theorem Maj.mono {n : Nat} {S T : Nat → Prop} (h : Maj n S) (hs : ∀ v, v < n → S v → T v) : Maj n T := by
  obtain ⟨l, d, m, c⟩ := h
  exact ⟨l, d, fun v hv => ⟨(m v hv).1, hs v (m v hv).1 (m v hv).2⟩, c⟩
/-- what is remembered of all terms: leaders, their logs when elected and now, their voters' logs then -/
structure Hist where
  led : Int → Prop
  base : Int → List Ent
  llog : Int → List Ent
  vot : Int → Nat → Prop
  vlog : Nat → Int → List Ent
  vsrc : Nat → Int → Int
  had : Nat → Int → Nat
structure Hist.OK (h : Hist) (n : Nat) : Prop where
  pre : ∀ u, h.led u → h.base u <+: h.llog u
  maj : ∀ u, h.led u → 0 < u → Maj n (h.vot u)
  src : ∀ u v, h.led u → 0 < u → h.vot u v → 0 ≤ h.vsrc v u ∧ h.vsrc v u < u ∧ h.led (h.vsrc v u) ∧ h.base (h.vsrc v u) <+: h.vlog v u ∧ h.vlog v u <+: h.llog (h.vsrc v u)
  kept : ∀ u v t, h.led u → 0 < u → h.vot u v → t < u → 0 < h.had v t → t ≤ h.vsrc v u ∧ (h.vsrc v u = t → h.had v t ≤ (h.vlog v u).length)
  fresh : ∀ u v, h.led u → 0 < u → h.vot u v → lastT (h.vlog v u) < lastT (h.base u) ∨ lastT (h.vlog v u) = lastT (h.base u) ∧ (h.vlog v u).length ≤ (h.base u).length
  mat : ∀ s, h.led s → ∀ j (hj : j < (h.llog s).length), h.led (h.llog s)[j].term ∧ 0 < (h.llog s)[j].term ∧ (h.llog s).take (j + 1) <+: h.llog (h.llog s)[j].term ∧ (h.base (h.llog s)[j].term).length ≤ j ∧ (h.llog s)[j].term ≤ s ∧ (j < (h.base s).length → (h.llog s)[j].term < s)
  mono : ∀ s, h.led s → ∀ i j (hi : i < (h.llog s).length) (hj : j < (h.llog s).length), i ≤ j → (h.llog s)[i].term ≤ (h.llog s)[j].term
/-- the first k entries of the log of term t are committed -/
structure Hist.Com (h : Hist) (n : Nat) (t : Int) (k : Nat) : Prop where
  led : h.led t
  pos : 0 < k
  len : k ≤ (h.llog t).length
  own : ∀ hk : k - 1 < (h.llog t).length, (h.llog t)[k - 1].term = t
  maj : Maj n (fun v => k ≤ h.had v t)
theorem lastT_eq {l : List Ent} (h : l ≠ []) : lastT l = (l[l.length - 1]'(by have := List.length_pos_iff.2 h; omega)).term := by
  unfold lastT
  rw [List.getLast?_eq_getElem?, List.getElem?_eq_getElem (by have := List.length_pos_iff.2 h; omega)]
theorem pre_get {a b : List Ent} (h : a <+: b) {i : Nat} (hi : i < a.length) : ∃ hb : i < b.length, a[i] = b[i] := ⟨Nat.lt_of_lt_of_le hi h.length_le, h.getElem hi⟩
theorem pre_of_len {a b c : List Ent} (h1 : a <+: c) (h2 : b <+: c) (h : a.length ≤ b.length) : a <+: b := List.prefix_of_prefix_length_le h1 h2 h
theorem pre_take {a b : List Ent} (h : a <+: b) : a = b.take a.length := List.prefix_iff_eq_take.1 h
/-- the last entry of a part of a leader's log -/
theorem Hist.OK.last {h : Hist} {n : Nat} (H : h.OK n) {s : Int} (hs : h.led s) {l : List Ent} (hl : l <+: h.llog s) (hne : l ≠ []) : h.led (lastT l) ∧ 0 < lastT l ∧ l <+: h.llog (lastT l) ∧ (h.base (lastT l)).length < l.length ∧ lastT l ≤ s ∧ (l.length ≤ (h.base s).length → lastT l < s) := by
  have hp := List.length_pos_iff.2 hne
  obtain ⟨hb, e⟩ := pre_get hl (i := l.length - 1) (by omega)
  have hm := H.mat s hs (l.length - 1) hb
  rw [← e, ← lastT_eq hne, show l.length - 1 + 1 = l.length by omega, ← pre_take hl] at hm
  exact ⟨hm.1, hm.2.1, hm.2.2.1, by omega, hm.2.2.2.2.1, fun h => hm.2.2.2.2.2 (by omega)⟩
/-- leaders of later terms hold what was committed -/
theorem Hist.Com.later {h : Hist} {n : Nat} (H : h.OK n) {t : Int} {k : Nat} (hc : h.Com n t k) : ∀ (m : Nat) (u : Int), u.toNat ≤ m → t < u → h.led u → (h.llog t).take k <+: h.base u := by
  have hk1 : k - 1 < (h.llog t).length := by have := hc.len; have := hc.pos; omega
  have ht0 : 0 < t := by have := (H.mat t hc.led (k - 1) hk1).2.1; rwa [hc.own hk1] at this
  have hPl : ((h.llog t).take k).length = k := by rw [List.length_take]; have := hc.len; omega
  intro m
  induction m with
  | zero => intro u hu htu; omega
  | succ m ih =>
    intro u hu htu hlu
    have hu0 : 0 < u := by omega
    obtain ⟨v, _, hv, hvk⟩ := (H.maj u hlu hu0).meet hc.maj
    obtain ⟨s0, s1, s2, s3, s4⟩ := H.src u v hlu hu0 hv
    have hpos := hc.pos
    obtain ⟨k1, k2⟩ := H.kept u v t hlu hu0 hv htu (by omega)
    have hP : (h.llog t).take k <+: h.vlog v u := by
      by_cases e : h.vsrc v u = t
      · rw [e] at s4
        exact pre_of_len (List.take_prefix _ _) s4 (by rw [hPl]; have := k2 e; omega)
      · exact (ih _ (by omega) (by omega) s2).trans s3
    have hlv := hP.length_le
    rw [hPl] at hlv
    have hne : h.vlog v u ≠ [] := fun e => by rw [e] at hlv; simp at hlv; omega
    have hlast : t ≤ lastT (h.vlog v u) := by
      obtain ⟨b1, e1⟩ := pre_get hP (i := k - 1) (by omega)
      obtain ⟨b2, e2⟩ := pre_get s4 b1
      obtain ⟨b3, e3⟩ := pre_get s4 (i := (h.vlog v u).length - 1) (by omega)
      have := H.mono _ s2 (k - 1) ((h.vlog v u).length - 1) b2 b3 (by omega)
      rw [← e2, ← e3, ← e1, List.getElem_take, hc.own hk1, ← lastT_eq hne] at this
      exact this
    have hbne : h.base u ≠ [] := fun e => by
      rcases H.fresh u v hlu hu0 hv with hf | ⟨_, hf⟩
      · rw [e] at hf; have : lastT [] = 0 := rfl; omega
      · rw [e, List.length_nil] at hf; omega
    obtain ⟨b1, b2, b3, b4, b5, b6⟩ := H.last hlu (H.pre u hlu) hbne
    have hbu := b6 (Nat.le_refl _)
    rcases H.fresh u v hlu hu0 hv with hf | ⟨hf, hfl⟩
    · exact (ih _ (by omega) (by omega) b1).trans (pre_of_len (H.pre _ b1) b3 (by omega))
    · obtain ⟨_, _, c3, _⟩ := H.last s2 s4 hne
      rw [hf] at c3
      exact hP.trans (pre_of_len c3 b3 hfl)
/-- what is committed is one chain -/
theorem Hist.Com.chain {h : Hist} {n : Nat} (H : h.OK n) {t t' : Int} {k k' : Nat} (hc : h.Com n t k) (hc' : h.Com n t' k') (ht : t ≤ t') : (h.llog t).take k <+: h.llog t' := by
  by_cases e : t = t'
  · subst e; exact List.take_prefix _ _
  · exact (hc.later H _ t' (Nat.le_refl _) (by omega) hc'.led).trans (H.pre _ hc'.led)
end Go.Proofs.Ytbjknckddoegfaa
