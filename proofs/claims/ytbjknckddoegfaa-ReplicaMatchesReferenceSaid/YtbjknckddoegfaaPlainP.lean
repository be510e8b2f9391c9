/- Layer 48: what the laws keep from operation to operation. No program in sight. No condition. -/
import Derived.Test.YtbjknckddoegfaaPlainO
namespace Go.Proofs.Ytbjknckddoegfaa
open Go Go.Gw
set_option linter.unusedSimpArgs false
set_option linter.unusedVariables false
theorem Ok.do_ {g : Grp} {k : Nat} (h : Ok g k) (n : Nat) (x : OpR) : Ok (g.do_ n x) (k + 1) := h.act _ _ _ _
theorem Ok.to {g : Grp} {k k' : Nat} (h : Ok g k) (e : k ≤ k') : Ok g k' := ⟨h.n7, h.ri, h.lim.mono (by omega) (by omega), by have := h.q; omega⟩
theorem beginsB_refl (xs : List ByteArray) : beginsB xs xs = true := by unfold beginsB; rw [decide_eq_true_eq]; intros; rfl
def Agr (g : Grp) (xs : List ByteArray) : Prop := ∃ γ, RI g γ ∧ Lst γ.h g.n xs
theorem Agr.start (n : Nat) : Agr (Grp.z n) [] := ⟨Gh.z, RI.start n, Lst.nil _ _ rfl List.prefix_rfl⟩
theorem Agr.do_ {g : Grp} {xs : List ByteArray} (h : Agr g xs) (n : Nat) (x : OpR) : Agr (g.do_ n x) xs := by
  obtain ⟨γ, R, hl⟩ := h
  obtain ⟨γ', R', hle, _⟩ := R.act (x.kind % 6) (x.a % n) (x.b % n) x.txt
  exact ⟨γ', R', by rw [Grp.do_n]; exact hl.le hle⟩
theorem Agr.take {g : Grp} {xs : List ByteArray} (h : Agr g xs) {i : Nat} (hi : i < g.n) : Agr g (comR g i) := by
  obtain ⟨γ, R, hl⟩ := h
  exact ⟨γ, R, by unfold comR; rw [if_pos hi]; exact R.lst hi⟩
def Prp (g : Grp) (ats : List Int) (rs : List ByteArray) : Prop := ats.length = rs.length ∧ ∃ γ, RI g γ ∧ txtOK (fun i t => ∃ j : Nat, ats[j]? = some (i : Int) ∧ rs[j]? = some t) γ
theorem Prp.start (n : Nat) : Prp (Grp.z n) [] [] := ⟨rfl, Gh.z, RI.start n, txtOK.start _⟩
theorem txtOK.mono {P Q : Nat → ByteArray → Prop} {γ : Gh} (h : txtOK P γ) (hpq : ∀ i t, P i t → Q i t) : txtOK Q γ := fun s hs i hi => hpq _ _ (h s hs i hi)
theorem Prp.no {g : Grp} {ats : List Int} {rs : List ByteArray} (h : Prp g ats rs) (n : Nat) (x : OpR) (hs : ¬ 0 ≤ saidZ g x) : Prp (g.do_ n x) ats rs := by
  obtain ⟨hl, γ, R, ht⟩ := h
  obtain ⟨γ', R', _, _, hP⟩ := R.act (x.kind % 6) (x.a % n) (x.b % n) x.txt
  refine ⟨hl, γ', R', hP _ (fun hk y hy => ?_) ht⟩
  exfalso; apply hs
  unfold saidZ Grp.said
  rw [if_pos hk, hy]; exact Int.natCast_nonneg _
theorem Prp.has {g : Grp} {ats : List Int} {rs : List ByteArray} (h : Prp g ats rs) {i : Nat} (hi : i < g.n) {k : Nat} (hk : k < (comR g i).length) : ∃ j, j < ats.length ∧ ats[j]? = some (k : Int) ∧ rs[j]? = some (comR g i)[k] := by
  obtain ⟨hl, γ, R, ht⟩ := h
  have e : comR g i = (g.at_ i).recs := by unfold comR; rw [if_pos hi]
  obtain ⟨j, h1, h2⟩ := R.txt ht hi k (by rw [← e]; exact hk)
  refine ⟨j, (List.getElem?_eq_some_iff.1 h1).1, h1, ?_⟩
  rw [h2]; congr 1; simp only [e]
def Mj0 (t : ByteArray) (m : Nat) (g : Grp) : Prop := ∃ γ, RI g γ ∧ txtOK (fun _ t' => t' ≠ t) γ ∧ ∀ v, v < m → (g.at_ v).down = true
theorem Mj0.start (t : ByteArray) (n : Nat) : Mj0 t 0 (Grp.z n) := ⟨Gh.z, RI.start n, txtOK.start _, fun v h => by omega⟩
theorem Mj0.do_ {t : ByteArray} {g : Grp} (h : Mj0 t 0 g) (n : Nat) (x : OpR) (hx : ¬ (x.kind % 6 = 3 ∧ x.txt = t)) : Mj0 t 0 (g.do_ n x) := by
  obtain ⟨γ, R, ht, _⟩ := h
  obtain ⟨γ', R', _, _, hP⟩ := R.act (x.kind % 6) (x.a % n) (x.b % n) x.txt
  refine ⟨γ', R', hP _ (fun hk y hy e => hx ⟨hk, ?_⟩) ht, fun v h => by omega⟩
  unfold Grp.got at hy
  cases hg : g.taker x.txt with
  | none => rw [hg] at hy; cases hy
  | some i => rw [hg] at hy; simp at hy; rw [← e, ← hy]
theorem Mj0.crash {t : ByteArray} {m : Nat} {g : Grp} (h : Mj0 t m g) (hm : m < g.n) : Mj0 t (m + 1) (g.crash m true) := by
  obtain ⟨γ, R, ht, hd⟩ := h
  refine ⟨γ, R.crashed m true, ht, fun v hv => ?_⟩
  by_cases e : v = m
  · rw [e]; exact Grp.crash_down g hm
  · rw [Grp.crash_ne _ _ e]; exact hd v (by omega)
structure Mj (t : ByteArray) (m : Nat) (g : Grp) : Prop where
  ri : ∃ γ, RI g γ
  dn : ∀ v, v < m → (g.at_ v).down = true
  no : ∀ v, v < m → ∀ e ∈ (g.at_ v).log, e.txt ≠ t
  mn : m ≤ g.n
theorem Mj0.over {t : ByteArray} {m : Nat} {g : Grp} (h : Mj0 t m g) (hm : m ≤ g.n) : Mj t m g := by
  obtain ⟨γ, R, ht, hd⟩ := h
  refine ⟨⟨γ, R⟩, hd, fun v hv e he => ?_, hm⟩
  have hlo := (R.peers v (by omega)).log
  obtain ⟨k, hk, rfl⟩ := List.getElem_of_mem he
  obtain ⟨_, e1⟩ := pre_get hlo.hi hk
  rw [e1]
  exact ht _ hlo.led k _
theorem Mj.do_ {t : ByteArray} {m : Nat} {g : Grp} (h : Mj t m g) (n : Nat) (x : OpR) (hx : x.kind % 6 ≠ 5) : Mj t m (g.do_ n x) := by
  obtain ⟨γ, R⟩ := h.ri
  obtain ⟨γ', R', _⟩ := R.act (x.kind % 6) (x.a % n) (x.b % n) x.txt
  have e : ∀ v, v < m → (g.do_ n x).at_ v = g.at_ v := fun v hv => Grp.act_down g (by have := Nat.mod_lt x.kind (by decide : 0 < 6); omega) (h.dn v hv)
  exact ⟨⟨γ', R'⟩, fun v hv => by rw [e v hv]; exact h.dn v hv, fun v hv => by rw [e v hv]; exact h.no v hv, by rw [Grp.do_n]; exact h.mn⟩
theorem Mj.not {t : ByteArray} {m : Nat} {g : Grp} (h : Mj t m g) (hm : 2 * (g.n - m) ≤ g.n) {i : Nat} (hi : i < g.n) {k : Nat} (hk : k < (comR g i).length) : (comR g i)[k] ≠ t := by
  obtain ⟨γ, R⟩ := h.ri
  have e : comR g i = (g.at_ i).recs := by unfold comR; rw [if_pos hi]
  intro he
  refine R.major hm h.mn h.no hi ?_
  rw [← e, ← he]; exact List.getElem_mem hk
theorem pot_le {g : Grp} {L : Nat} {M : Int} (h : Lim g L M) : g.pot ≤ g.qs + g.n * (12 + 12 * L) := by
  unfold Grp.pot Grp.ps_
  have h1 : sumN g.n (fun v => (g.at_ v).pw) ≤ sumN g.n (fun _ => 12 + 12 * L) := sumN_le fun v hv => by
    have := h.log v hv
    unfold Peer.pw
    split
    · omega
    · split <;> omega
  rw [sumN_const] at h1
  omega
theorem quiet_qs {g : Grp} (h : Quiet g) : g.qs = 0 := by
  have h0 : ∀ m a, sumN m (fun b => qw (g.q a b)) = 0 := fun m a => (sumN_congr (g := fun _ => 0) (fun b _ => by rw [h a b]; rfl)).trans (by rw [sumN_const]; simp)
  exact (sumN_congr (g := fun _ => 0) (fun a _ => h0 _ a)).trans (by rw [sumN_const]; simp)
structure Pre (g : Grp) (n m : Nat) : Prop where
  en : g.n = n
  n7 : g.n ≤ 7
  ri : ∃ γ, RI g γ
  lim : Lim g 80 80
  q : g.qs ≤ 2000
  up : ∀ v, v < m → (g.at_ v).down = false
theorem Ok.pre {g : Grp} {k n : Nat} (h : Ok g k) (hk : k ≤ 80) (hn : g.n = n) : Pre g n 0 := ⟨hn, h.n7, h.ri, h.lim.mono (by omega) (by omega), by have := h.q; omega, fun v h => by omega⟩
theorem Pre.fit {g : Grp} {n m : Nat} (h : Pre g n m) : Fit g := ⟨h.ri, h.lim.mono (by omega) (by omega), by have := h.q; omega⟩
theorem Grp.crash_up (g : Grp) {i : Nat} (hi : i < g.n) : ((g.crash i false).at_ i).down = false := by
  unfold Grp.crash; split
  · rw [Grp.put_same _ hi]
  · rename_i h
    cases hd : (g.at_ i).down with
    | false => rfl
    | true => exact absurd ⟨hi, by simp [hd]⟩ h
theorem Pre.crash {g : Grp} {n m : Nat} (h : Pre g n m) (hm : m < n) : Pre (g.crash m false) n (m + 1) := by
  obtain ⟨γ, R⟩ := h.ri
  refine ⟨by rw [Grp.crash_n]; exact h.en, by rw [Grp.crash_n]; exact h.n7, ⟨γ, R.crashed m false⟩, h.lim.crash m false, by rw [Grp.crash_qs]; exact h.q, fun v hv => ?_⟩
  by_cases e : v = m
  · rw [e]; exact Grp.crash_up g (by rw [h.en]; exact hm)
  · rw [Grp.crash_ne _ _ e]; exact h.up v (by omega)
/-- what the deliveries of a flush keep -/
def Jn (J : Grp → Prop) (n L : Nat) (M : Int) (g : Grp) : Prop := J g ∧ g.n = n ∧ Up g ∧ Lim g L M
theorem Jn.still {J : Grp → Prop} (h : Still J) (n L : Nat) (M : Int) : Still (Jn J n L M) := fun g a b ⟨h1, h2, h3, h4⟩ => ⟨h g a b h1, by rw [Grp.deliver_n]; exact h2, h3.deliver a b false, h4.deliver a b false⟩
theorem Pre.good {g : Grp} {n : Nat} (h : Pre g n n) : Good 19999 g ∧ Jn (fun _ => True) n 80 80 g := by
  refine ⟨⟨h.n7, h.ri, h.lim.mono (by omega) (by omega), ?_⟩, trivial, h.en, fun v hv => h.up v (by rw [← h.en]; exact hv), h.lim⟩
  have h1 := pot_le h.lim
  have h2 := h.q
  have h3 : g.n * (12 + 12 * 80) ≤ 7 * (12 + 12 * 80) := Nat.mul_le_mul_right _ h.n7
  omega
/-- between two elections -/
structure Pg (g : Grp) (n i : Nat) : Prop where
  n7 : n ≤ 7
  n0 : 0 < n
  ri : ∃ γ, RI g γ
  qu : Quiet g
  j : Jn (fun g => Phase g i) n (80 + i) (80 + i) g
theorem Pg.start {g : Grp} {n : Nat} (h0 : 0 < n) (hG : Good 19999 g) (hJ : Jn (fun _ => True) n 80 80 g) (hq : Quiet g) : Pg g n 0 :=
  ⟨by have := hG.n7; rw [hJ.2.1] at this; exact this, h0, hG.ri, hq, Phase.start (by rw [hJ.2.1]; exact h0), hJ.2.1, hJ.2.2.1, hJ.2.2.2⟩
theorem Pg.fit {g : Grp} {n i : Nat} (h : Pg g n i) (hi : i ≤ 100) : Fit g := ⟨h.ri, h.j.2.2.2.mono (by omega) (by omega), by rw [quiet_qs h.qu]; omega⟩
theorem Pg.over {g : Grp} {n : Nat} (h : Pg g n (2 * n)) : False := Phase.over (by rw [h.j.2.1]; exact h.n0) (by rw [h.j.2.1]; exact h.j.1)
/-- one election, and a proposal -/
theorem Pg.step {g : Grp} {n i : Nat} (h : Pg g n i) (hi : i < 14) (r : ByteArray) (hr : r.size ≤ 200) :
    ∃ J : Grp → Prop, Still J ∧ J (g.elect (i % n)) ∧ Good 19999 (g.elect (i % n)) ∧ ∀ g2, J g2 → Good 19999 g2 → Quiet g2 → Fit g2 ∧
      ((propX g2 r = (0, 12) ∧ Pg (g2.propose r) n (i + 1)) ∨
       ∃ (k : Nat) (J2 : Grp → Prop), propX g2 r = ((k : Int), 0) ∧ k < 100 ∧ Still J2 ∧ J2 (g2.propose r) ∧ Good 19999 (g2.propose r) ∧ ∀ g4, J2 g4 → Good 19999 g4 → Quiet g4 → Fit g4 ∧ (Pg g4 n (i + 1) ∨ Won g4 k r)) := by
  obtain ⟨γ, R⟩ := h.ri
  obtain ⟨hP, hn, hU, hL⟩ := h.j
  have hn7 := h.n7
  obtain ⟨J, a1, a2, a3⟩ := Phase.step R h.qu hU hL (by rw [hn]; exact h.n0) hP r
  rw [hn] at a1
  have hL1 : Lim (g.elect (i % n)) (80 + i) (80 + i + 1) := (hL.mono (Nat.le_refl _) (by omega)).elect _ (by
    have := hL.tm (i % n) (by rw [hn]; exact Nat.mod_lt _ h.n0); omega)
  have hb : ∀ L, L ≤ 94 → 7 * (12 + 12 * L) ≤ 9000 := fun L hL => by omega
  refine ⟨Jn J n (80 + i) (80 + i + 1), Jn.still a2 _ _ _, ⟨a1, by rw [Grp.elect_n]; exact hn, hU.elect _, hL1⟩, ⟨by rw [Grp.elect_n, hn]; exact h.n7, ?_, hL1.mono (by omega) (by omega), ?_⟩, fun g2 ⟨b1, b2, b3, b4⟩ hG hq => ⟨⟨hG.ri, hG.lim, by rw [quiet_qs hq]; omega⟩, ?_⟩⟩
  · obtain ⟨γ', h1, _⟩ := R.elects (i % n)
    exact ⟨γ', h1⟩
  · have h1 := pot_le hL1
    have h2 := Grp.elect_qs (by rw [hn]; exact h.n7 : g.n ≤ 7) (i % n)
    rw [quiet_qs h.qu] at h2
    rw [Grp.elect_n, hn] at h1
    have h3 := Nat.mul_le_mul_right (12 + 12 * (80 + i)) h.n7
    have := hb (80 + i) (by omega)
    omega
  · have hLp : Lim (g2.propose r) (80 + (i + 1)) (80 + ((i + 1 : Nat) : Int)) := (b4.propose r).mono (by omega) (by omega)
    rcases a3 g2 b1 hq with ⟨c1, c2⟩ | ⟨q, c1, c2⟩
    · have ht : g2.taker r = none := by unfold Grp.taker; rw [c1]; split <;> rfl
      have hp : g2.propose r = g2 := by unfold Grp.propose; rw [ht]
      refine .inl ⟨by unfold propX; rw [c1, if_neg (by omega)], ⟨h.n7, h.n0, by rw [hp]; exact hG.ri, by rw [hp]; exact hq, by rw [hp]; exact c2, by rw [Grp.propose_n]; exact b2, b3.propose r, hLp⟩⟩
    · have hq3 := bestTo_some c1
      have hlen : (g2.at_ q).log.length < 100 := by have := b4.log q hq3.1; omega
      have ht : g2.taker r = some q := by unfold Grp.taker; rw [c1, if_neg (by omega)]; show (if _ then _ else _) = _; rw [if_neg (by omega)]
      obtain ⟨J2, d1, d2, d3⟩ := c2 ht
      refine .inr ⟨(g2.at_ q).log.length, Jn J2 n (80 + (i + 1)) (80 + ((i + 1 : Nat) : Int)), ?_, hlen, Jn.still d2 _ _ _, ⟨d1, by rw [Grp.propose_n]; exact b2, b3.propose r, hLp⟩, ⟨by rw [Grp.propose_n, b2]; exact h.n7, ?_, hLp.mono (by omega) (by omega), ?_⟩, fun g4 ⟨e1, e2, e3, e4⟩ hG4 hq4 => ⟨⟨hG4.ri, hG4.lim, by rw [quiet_qs hq4]; omega⟩, ?_⟩⟩
      · unfold propX; rw [c1, if_neg (by omega)]; show (if _ then _ else _) = _; rw [if_neg (by omega)]
      · obtain ⟨γ2, R2⟩ := hG.ri
        obtain ⟨γ', h1, _⟩ := R2.proposes r
        exact ⟨γ', h1⟩
      · have h1 := pot_le hLp
        have h2 := Grp.propose_qs hG.n7 r
        rw [quiet_qs hq] at h2
        rw [Grp.propose_n, b2] at h1
        have h3 := Nat.mul_le_mul_right (12 + 12 * (80 + (i + 1))) h.n7
        have := hb (80 + (i + 1)) (by omega)
        omega
      · obtain ⟨γ4, R4⟩ := hG4.ri
        rcases d3 g4 γ4 R4 e1 hq4 with f | f
        · exact .inl ⟨h.n7, h.n0, hG4.ri, hq4, f, e2, e3, e4⟩
        · exact .inr f
theorem Won.at_ {g : Grp} {k : Nat} {r : ByteArray} (h : Won g k r) {v : Nat} (hv : v < g.n) : (comR g v).length = k + 1 ∧ ∀ hk : k < (comR g v).length, (comR g v)[k] = r := by
  have e : comR g v = (g.at_ v).recs := by unfold comR; rw [if_pos hv]
  obtain ⟨h1, h2⟩ := h v hv
  rw [e]
  exact ⟨h1, fun hk => by rw [List.getElem?_eq_getElem hk] at h2; injection h2⟩
end Go.Proofs.Ytbjknckddoegfaa
