/- Plain laws of layer 41: a further place; titles that stay. No condition. -/
import Derived.Test.YtnnendajegdnhaaPlainX
namespace Go.Proofs.Ytnnendajegdnhaa
set_option linter.unusedVariables false
set_option linter.unusedSimpArgs false
open Go.Gw
theorem match_low {es : Gr} {r : Int} (hv : validG es r = true) : ∀ j, -1 ≤ atI (gotL es r) j := (allInv hv es.length (Nat.le_refl _)).low
/-- a greatest matching has as many members as the plan -/
theorem PlanM.match_eq {old next : List Pl} {ts : List Ow} {ms : List Mv} (h : PlanM old next ts ms) {es : Gr} (he : es = edgesL (oldL old (movedL ts)) next) :
    cntG (gotL es (next.length : Int)) (gotL es (next.length : Int)).length = cntG (tosS (ms.map Mv.say)) ms.length := by
  subst he
  have hv := edges_valid h.small (planP h.err).n2
  rw [h.size, ← sizeN_cntG (fun j _ => match_low hv j)]
  exact best_cover (match_law hv) h.cov
def Diff (old : List Pl) : Prop := ∀ i (hi : i < old.length) k (hk : k < i), sameN old[i] (old[k]'(by omega)) = false
theorem Diff.eq {old : List Pl} (h : Diff old) {i k : Nat} (hi : i < old.length) (hk : k < old.length) (e : sameN old[i] old[k] = true) : i = k := by
  rcases Nat.lt_trichotomy i k with hl | hl | hl
  · have := h k hk i hl
    rw [(sameN_iff _ _).2 ((sameN_iff _ _).1 e).symm] at this
    cases this
  · exact hl
  · rw [h i hi k hl] at e; cases e
theorem firstS_same {next : List Pl} {o : Pl} {m : Int} : ∀ {l : List Int}, (∀ k ∈ l, 0 ≤ k ∧ k.toNat < next.length) → firstS next o l = some m → ∃ h : m.toNat < next.length, 0 ≤ m ∧ sameN o next[m.toNat] = true
  | k :: r, hl, h => by
    unfold firstS at h
    have hk := hl k (List.mem_cons_self ..)
    split at h
    · rename_i hs
      cases h
      rw [List.getD_eq_getElem?_getD, List.getElem?_eq_getElem hk.2] at hs
      exact ⟨hk.2, hk.1, hs⟩
    · exact firstS_same (fun x hx => hl x (List.mem_cons_of_mem _ hx)) h
theorem firstS_some {next : List Pl} {o : Pl} {n : Nat} (hn : n < next.length) (hs : sameN o next[n] = true) : ∀ {l : List Int}, (n : Int) ∈ l → ∃ m, firstS next o l = some m
  | k :: r, h => by
    unfold firstS
    split
    · exact ⟨_, rfl⟩
    · rename_i hk
      rcases List.mem_cons.1 h with e | h
      · subst e
        rw [Int.toNat_natCast, List.getD_eq_getElem?_getD, List.getElem?_eq_getElem hn] at hk
        exact absurd hs hk
      · exact firstS_some hn hs h
theorem row_rng {olds next : List Pl} {i : Nat} : ∀ k ∈ rowG (edgesL olds next) i, 0 ≤ k ∧ k.toNat < next.length := by
  intro k hk
  by_cases hi : i < olds.length
  · rw [edges_rowG hi] at hk
    have := fits_rng _ _ _ k hk
    omega
  · rw [rowG_out (by rw [edges_len]; omega)] at hk; cases hk
section
variable {old next : List Pl} {ts : List Ow}
/-- two titles do not ask for one place -/
theorem ch_one (hd : Diff old) (hp : PlanP old next ts) {i j : Nat} {m : Int} (hi : i < (movedL ts).length) (hj : j < (movedL ts).length) (h1 : chF (oldL old (movedL ts)) next i = some m) (h2 : chF (oldL old (movedL ts)) next j = some m) : j = i := by
  have hl := old_len old (movedL ts)
  have pl : ∀ q, (hq : q < (movedL ts).length) → ∃ x : Nat, ∃ hx : x < old.length, (movedL ts)[q].place = x ∧ (oldL old (movedL ts))[q]'(by omega) = old[x] := fun q hq => by
    have h0 := (moved_place (List.getElem_mem hq)).1
    have h1 := (hp.ok q hq).1
    have hx : (movedL ts)[q].place = ((movedL ts)[q].place.toNat : Nat) := by omega
    exact ⟨_, by omega, hx, oldL_at hq hx (by omega) (by omega)⟩
  obtain ⟨x, hx, e1, e2⟩ := pl i hi
  obtain ⟨y, hy, e3, e4⟩ := pl j hj
  rw [chF_at (by omega)] at h1 h2
  obtain ⟨hm, _, s1⟩ := firstS_same row_rng h1
  obtain ⟨_, _, s2⟩ := firstS_same row_rng h2
  rw [e2] at s1
  rw [e4] at s2
  have := hd.eq hx hy ((sameN_iff _ _).2 (((sameN_iff _ _).1 s1).trans ((sameN_iff _ _).1 s2).symm))
  subst this
  rcases Nat.lt_trichotomy i j with hlt | hlt | hlt
  · exact absurd (by rw [e1, e3]) ((hp.ok j hj).2 i hlt)
  · exact hlt.symm
  · exact absurd (by rw [e1, e3]) ((hp.ok i hi).2 j hlt)
theorem stays_start (hd : Diff old) (hp : PlanP old next ts) {i : Nat} {m : Int} (hi : i < (movedL ts).length) (h : chF (oldL old (movedL ts)) next i = some m) : atI (startP (oldL old (movedL ts)) next).2 i = m := by
  have hl := old_len old (movedL ts)
  have hI := startK_inv (olds := oldL old (movedL ts)) (next := next) (by have := hp.n3; omega) hp.n2 (oldL old (movedL ts)).length (Nat.le_refl _)
  have h0 : 0 ≤ m := by
    rw [chF_at (by omega)] at h
    exact (firstS_same row_rng h).2.1
  refine pre_stays (i := i) (c := chF (oldL old (movedL ts)) next) (es := edgesL (oldL old (movedL ts)) next) (r := next.length) ?_ (by rw [edges_len]; omega) h h0 (fun j hj hc => ?_)
  · rw [edges_len]; exact hI
  · rw [edges_len] at hj
    exact ch_one hd hp hi (by omega) h hc
/-- a title whose place stands has a place -/
theorem PlanM.stands {ms : List Mv} (h : PlanM old next ts ms) (hd : Diff old) {i x n : Nat} (hi : i < ms.length) (h2 : i < (movedL ts).length) (hx : (movedL ts)[i].place = x) (hxn : x < old.length) (hn : n < next.length) (hs : sameN old[x] next[n] = true) (hg : refAtLeast next[n] old[x] = true) : 0 ≤ ms[i].to_ := by
  have hl := old_len old (movedL ts)
  have hp := planP h.err
  have ho := oldL_at h2 hx hxn (by omega)
  obtain ⟨m, hm⟩ := firstS_some hn hs (row_in (olds := oldL old (movedL ts)) (i := i) (by omega) hn (by rw [ho]; exact hg))
  have hc : chF (oldL old (movedL ts)) next i = some m := by rw [chF_at (by omega), ho]; exact hm
  have h1 := stays_start hd hp h2 hc
  have h0 : 0 ≤ m := by
    rw [chF_at (by omega)] at hc
    exact (firstS_same row_rng hc).2.1
  rw [h.to_at hi]
  exact (pairK_inv (olds := oldL old (movedL ts)) (next := next) h.small hp.n2 _ (Nat.le_refl _)).2 i (by rw [h1]; exact h0)
theorem refAtLeast_refl (p : Pl) : refAtLeast p p = true := by
  simp only [refAtLeast, beq_self_eq_true, Bool.true_and, Bool.and_eq_true, Bool.or_eq_true, decide_eq_true_eq]; omega
/-- if the plan does not change all titles stay -/
theorem PlanM.same {ms : List Mv} (h : PlanM old old ts ms) (hd : Diff old) {i x : Nat} (hi : i < ms.length) (h2 : i < (movedL ts).length) (hx : (movedL ts)[i].place = x) : ms[i].to_ = x := by
  have hl := old_len old (movedL ts)
  have hp := planP h.err
  have key : ∀ q (hq : q < (movedL ts).length), atI (startP (oldL old (movedL ts)) old).2 q = (movedL ts)[q].place := fun q hq => by
    have h0 := (moved_place (List.getElem_mem hq)).1
    have h1 := (hp.ok q hq).1
    have hy : (movedL ts)[q].place = ((movedL ts)[q].place.toNat : Nat) := by omega
    have hyn : (movedL ts)[q].place.toNat < old.length := by omega
    have ho := oldL_at hq hy hyn (by omega)
    obtain ⟨m, hm⟩ := firstS_some hyn ((sameN_iff _ _).2 rfl) (row_in (olds := oldL old (movedL ts)) (i := q) (next := old) (by omega) hyn (by rw [ho]; exact refAtLeast_refl _))
    have hc : chF (oldL old (movedL ts)) old q = some m := by rw [chF_at (by omega), ho]; exact hm
    obtain ⟨hmn, hm0, hs⟩ := firstS_same row_rng hm
    have := hd.eq hyn hmn hs
    rw [stays_start hd hp hq hc]; omega
  have hk : ∀ k, k ≤ (movedL ts).length → pairK (oldL old (movedL ts)) old k = startP (oldL old (movedL ts)) old := fun k => by
    induction k with
    | zero => intro _; rfl
    | succ k ih =>
      intro hk
      have e := ih (by omega)
      rw [pairK_no, e]
      rw [e, key k (by omega)]
      have := (moved_place (List.getElem_mem (show k < (movedL ts).length by omega))).1
      omega
  rw [h.to_at hi]
  have e : plL (oldL old (movedL ts)) old = (startP (oldL old (movedL ts)) old).2 := by
    show (pairK (oldL old (movedL ts)) old (oldL old (movedL ts)).length).2 = _
    rw [hk _ (by omega)]
  rw [e, key i h2, hx]
end
end Go.Proofs.Ytnnendajegdnhaa
