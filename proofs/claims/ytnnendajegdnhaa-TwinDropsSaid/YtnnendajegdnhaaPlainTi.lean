/- Plain laws of layer 42: what the statements say. No condition. -/
import Derived.Test.YtnnendajegdnhaaPlainTh
namespace Go.Proofs.Ytnnendajegdnhaa
set_option linter.unusedVariables false
set_option linter.unusedSimpArgs false
open Go.Gw
section
variable {old next : List Pl} {ts : List Ow} {place serial : Int} {n : Nat}
theorem plAt_snoc (old : List Pl) (ps : List Int) (p : Int) : plAt old (ps ++ [p]) = plAt old ps ++ [old.getD p.toNat pl0] := by simp [plAt]
theorem greater (htw : TwOK old next ts n) (hl : (movedL ts).length < 4000) : decide ((rk (plAt old (plcs ts ++ [place])) next : Int) > (rk (plAt old (plcs ts)) next : Int)) = !denyB old next ts place := by
  rw [plAt_snoc, plAt_plcs]
  have hs := rk_snoc (p := old.getD place.toNat pl0) (ps := oldsT old ts) (next := next) (by rw [oldsT_len]; omega) htw.nx
  unfold denyB
  by_cases e : rk (oldsT old ts ++ [old.getD place.toNat pl0]) next = rk (oldsT old ts) next
  · rw [decide_eq_true e, decide_eq_false (by omega)]; rfl
  · rw [decide_eq_false e, decide_eq_true (by omega)]; rfl
theorem loss_sell (htw : TwOK old next ts n) (h : sellE old next ts place serial = 0) : lossP old next (sellT old next ts place serial) = lossP old next ts ∧ (movedL (sellT old next ts place serial)).length = (movedL ts).length + 1 := by
  obtain ⟨h1, h2, h3, h4, h5⟩ := sell_parts h
  have hmo : (movedL (ts ++ [newOw serial place])).length = (movedL ts).length + 1 := by rw [moved_append, moved_new h1.1]; simp
  have hs := rk_snoc (p := old.getD place.toNat pl0) (ps := oldsT old ts) (next := next) (by rw [oldsT_len]; omega) htw.nx
  have hd : rk (oldsT old ts ++ [old.getD place.toNat pl0]) next ≠ rk (oldsT old ts) next := by
    unfold denyB at h5; simpa using h5
  unfold sellT
  rw [if_pos h]
  refine ⟨?_, hmo⟩
  unfold lossP
  rw [hmo, oldsT_new h1.1]
  omega
theorem ser_eq (htw : TwOK old next ts n) {x y : Ow} (hx : x ∈ ts) (hy : y ∈ ts) (e : x.serial = y.serial) : x = y := by
  obtain ⟨i, hi, rfl⟩ := List.getElem_of_mem hx
  obtain ⟨j, hj, rfl⟩ := List.getElem_of_mem hy
  rcases Nat.lt_trichotomy i j with h | h | h
  · exact absurd e (List.pairwise_iff_getElem.1 htw.ser i j hi hj h)
  · subst h; rfl
  · exact absurd e.symm (List.pairwise_iff_getElem.1 htw.ser j i hj hi h)
theorem dropE_at (htw : TwOK old next ts n) {q : Nat} (hq : q < ts.length) : dropE ts ts[q].serial = if movedB ts[q] = true then 0 else 11 := by
  unfold dropE
  by_cases hm : movedB ts[q] = true
  · rw [if_pos hm, if_pos (List.any_eq_true.2 ⟨_, List.getElem_mem hq, by unfold dropP; simp [hm]⟩)]
  · rw [if_neg hm, if_neg]
    rw [List.any_eq_true]
    rintro ⟨x, hx, h⟩
    simp only [dropP, Bool.and_eq_true, decide_eq_true_eq] at h
    have := ser_eq htw hx (List.getElem_mem hq) h.1
    subst this
    exact hm h.2
theorem drop_perm (htw : TwOK old next ts n) {q : Nat} (hq : q < ts.length) (hm : movedB ts[q] = true) : ts.Perm (ts[q] :: dropT ts ts[q].serial) ∧ (movedL ts).Perm (ts[q] :: movedL (dropT ts ts[q].serial)) := by
  have hex : ∃ x ∈ ts, dropP ts[q].serial x = true := ⟨_, List.getElem_mem hq, by unfold dropP; simp [hm]⟩
  obtain ⟨x, hx, hpx⟩ := hex
  obtain ⟨y, l1, l2, h1, h2, h3, h4⟩ := List.exists_of_eraseP hx hpx
  have hy : y = ts[q] := ser_eq htw (by rw [h3]; simp) (List.getElem_mem hq) (by unfold dropP at h2; simp at h2; exact h2.1)
  have e : dropT ts ts[q].serial = l1 ++ l2 := h4
  rw [e]
  have p1 : ts.Perm (ts[q] :: (l1 ++ l2)) := by
    conv => lhs; rw [h3]
    rw [hy]; exact List.perm_middle
  refine ⟨p1, ?_⟩
  have := p1.filter movedB
  rw [List.filter_cons, if_pos hm] at this
  exact this
theorem olds_perm {l : List Ow} {x : Ow} (hp : (movedL ts).Perm (x :: movedL l)) : (oldsT old ts).Perm (old.getD x.place.toNat pl0 :: oldsT old l) := by
  unfold oldsT oldL
  exact hp.map _
theorem drop_loss (htw : TwOK old next ts n) {q : Nat} (hq : q < ts.length) (hm : movedB ts[q] = true) : lossP old next (dropT ts ts[q].serial) ≤ lossP old next ts ∧ (movedL ts).length = (movedL (dropT ts ts[q].serial)).length + 1 := by
  obtain ⟨_, hp⟩ := drop_perm htw hq hm
  have hl := hp.length_eq
  rw [List.length_cons] at hl
  refine ⟨?_, hl⟩
  have ho := olds_perm (old := old) hp
  have hx := htw.m
  have e := rk_perm (next := next) ho (by rw [oldsT_len]; exact hx) htw.nx
  have hc := rk_cons (p := old.getD ts[q].place.toNat pl0) (ps := oldsT old (dropT ts ts[q].serial)) (next := next) (by rw [oldsT_len]; omega) htw.nx
  unfold lossP
  rw [hl, e]
  omega
theorem resell (htw : TwOK old next ts n) {q : Nat} (hq : q < ts.length) (hm : movedB ts[q] = true) (hs : 1 ≤ ts[q].serial ∧ ts[q].serial ≤ 1000000000) :
    (sellE old next (dropT ts ts[q].serial) ts[q].place ts[q].serial = 0 ↔ lossP old next (dropT ts ts[q].serial) = lossP old next ts) ∧
    (sellE old next (dropT ts ts[q].serial) ts[q].place ts[q].serial = 0 → lossP old next (sellT old next (dropT ts ts[q].serial) ts[q].place ts[q].serial) = lossP old next ts) := by
  obtain ⟨hp1, hp⟩ := drop_perm htw hq hm
  have hl := hp.length_eq
  rw [List.length_cons] at hl
  have ho := olds_perm (old := old) hp
  have hx := htw.m
  have e := rk_perm (next := next) ho (by rw [oldsT_len]; exact hx) htw.nx
  have hc := rk_cons (p := old.getD ts[q].place.toNat pl0) (ps := oldsT old (dropT ts ts[q].serial)) (next := next) (by rw [oldsT_len]; omega) htw.nx
  have hc2 := rk_perm (next := next) (List.perm_append_comm (l₁ := oldsT old (dropT ts ts[q].serial)) (l₂ := [old.getD ts[q].place.toNat pl0])) (by rw [List.length_append, oldsT_len, List.length_singleton]; omega) htw.nx
  have hle := rk_le (ps := oldsT old (dropT ts ts[q].serial)) (next := next) (by rw [oldsT_len]; omega) htw.nx
  rw [oldsT_len] at hle
  have htd := htw.drop ts[q].serial
  obtain ⟨hx0, hx1⟩ := htw.place hq hm
  have hA : argB old.length ts[q].place ts[q].serial = false := by
    simp only [argB, Bool.or_eq_false_iff, decide_eq_false_iff_not]; omega
  have hser : (ts[q] :: dropT ts ts[q].serial).Pairwise (fun x y => x.serial ≠ y.serial) := (hp1.pairwise_iff (fun h => Ne.symm h)).1 htw.ser
  have hU : usedB (dropT ts ts[q].serial) ts[q].serial = false := used_no (fun y hy => ((List.pairwise_cons.1 hser).1 y hy).symm)
  have hpl : (ts[q] :: movedL (dropT ts ts[q].serial)).Pairwise (fun x y => x.place ≠ y.place) := (hp.pairwise_iff (fun h => Ne.symm h)).1 (plOK_pw.1 (err_0.1 htw.err).2.2.2).2
  have hT : takenB (dropT ts ts[q].serial) ts[q].place = false := by
    rw [takenB, List.any_eq_false]
    intro y hy
    simpa using ((List.pairwise_cons.1 hpl).1 y hy).symm
  have hL : (movedL (dropT ts ts[q].serial)).length < 4000 := by omega
  have key : sellE old next (dropT ts ts[q].serial) ts[q].place ts[q].serial = 0 ↔ denyB old next (dropT ts ts[q].serial) ts[q].place = false := by
    constructor
    · intro h; exact (sell_parts h).2.2.2.2
    · intro h; exact (sellE_ok hA hU hT hL h).1
  have hd : denyB old next (dropT ts ts[q].serial) ts[q].place = false ↔ lossP old next (dropT ts ts[q].serial) = lossP old next ts := by
    unfold denyB lossP
    rw [decide_eq_false_iff_not, hc2, hl, e]
    show ¬ rk (old.getD ts[q].place.toNat pl0 :: oldsT old (dropT ts ts[q].serial)) next = _ ↔ _
    omega
  refine ⟨key.trans hd, fun h => ?_⟩
  rw [(loss_sell htd h).1]
  exact (key.trans hd).1 h
theorem TwOK.ml (htw : TwOK old next ts n) : (movedL ts).length ≤ n := Nat.le_trans (moved_len ts) htw.len
end
end Go.Proofs.Ytnnendajegdnhaa
