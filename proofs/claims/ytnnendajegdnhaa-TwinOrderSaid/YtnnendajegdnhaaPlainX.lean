/- Plain laws of layer 41: what a plan's moves are; greatest matchings. No condition. -/
import Derived.Test.YtnnendajegdnhaaPlainW
namespace Go.Proofs.Ytnnendajegdnhaa
set_option linter.unusedVariables false
set_option linter.unusedSimpArgs false
open Go.Gw
theorem fits_mem (p : Pl) : ∀ (l : List Pl) (k n : Nat), (n : Int) ∈ fits p l k → ∃ h : n - k < l.length, k ≤ n ∧ refAtLeast l[n - k] p = true
  | [], _, n, h => by cases h
  | q :: r, k, n, h => by
    have ih := fits_mem p r (k + 1) n
    unfold fits at h
    have go : (n : Int) ∈ fits p r (k + 1) → ∃ h : n - k < (q :: r).length, k ≤ n ∧ refAtLeast (q :: r)[n - k] p = true := fun h => by
      obtain ⟨h1, h2, h3⟩ := ih h
      have e : n - k = (n - (k + 1)) + 1 := by omega
      refine ⟨by simp; omega, by omega, ?_⟩
      simp only [e, List.getElem_cons_succ]; exact h3
    split at h
    · rename_i hq
      rcases List.mem_cons.1 h with h | h
      · obtain rfl : n = k := by omega
        exact ⟨by simp, Nat.le_refl _, by simpa using hq⟩
      · exact go h
    · exact go h
/-- the facts about the moves of a plan -/
structure PlanM (old next : List Pl) (ts : List Ow) (ms : List Mv) : Prop where
  err : errP old next ts = 0
  say : ms.map Mv.say = sayP old next ts
  len : ms.length = (movedL ts).length
  tos : tosS (ms.map Mv.say) = plL (oldL old (movedL ts)) next
section
variable {old next : List Pl} {ts : List Ow} {ms : List Mv}
theorem PlanM.small (h : PlanM old next ts ms) : (oldL old (movedL ts)).length ≤ 4000 := by rw [old_len]; exact (planP h.err).n3
theorem PlanM.to_at (h : PlanM old next ts ms) {i : Nat} (hi : i < ms.length) : ms[i].to_ = atI (plL (oldL old (movedL ts)) next) i := by rw [← h.tos]; exact (tos_at hi).symm
theorem PlanM.low (h : PlanM old next ts ms) {i : Nat} (hi : i < ms.length) : -1 ≤ ms[i].to_ := by
  rw [h.to_at hi]; exact (pairP_own h.small (planP h.err).n2).low i
theorem PlanM.mem (h : PlanM old next ts ms) {i : Nat} (hi : i < ms.length) (h0 : 0 ≤ ms[i].to_) : ms[i].to_ ∈ rowG (edgesL (oldL old (movedL ts)) next) i := by
  rw [h.to_at hi] at h0 ⊢
  exact ((pairP_own h.small (planP h.err).n2).conv.got i h0).1
theorem PlanM.hi (h : PlanM old next ts ms) {i : Nat} (hi : i < ms.length) : ms[i].to_ < next.length := by
  by_cases h0 : 0 ≤ ms[i].to_
  · exact ((validG_parts (edges_valid h.small (planP h.err).n2)).2.2.2 i _ (h.mem hi h0)).2
  · omega
theorem PlanM.inj (h : PlanM old next ts ms) {i j : Nat} (hi : i < ms.length) (hj : j < ms.length) (h0 : 0 ≤ ms[i].to_) (e : ms[i].to_ = ms[j].to_) : i = j := by
  have h1 := (pairP_own h.small (planP h.err).n2).conv.got i (by rw [h.to_at hi] at h0; exact h0)
  have h2 := (pairP_own h.small (planP h.err).n2).conv.got j (by rw [e, h.to_at hj] at h0; exact h0)
  have e2 : atI (plL (oldL old (movedL ts)) next) i = atI (plL (oldL old (movedL ts)) next) j := by rw [← h.to_at hi, ← h.to_at hj]; exact e
  have h3 : atI (pairP (oldL old (movedL ts)) next).1 (atI (plL (oldL old (movedL ts)) next) i).toNat = i := h1.2
  have h4 : atI (pairP (oldL old (movedL ts)) next).1 (atI (plL (oldL old (movedL ts)) next) j).toNat = j := h2.2
  rw [e2, h4] at h3
  omega
theorem PlanM.serial (h : PlanM old next ts ms) {i : Nat} (hi : i < ms.length) (h2 : i < (movedL ts).length) : ms[i].serial = (movedL ts)[i].serial := by
  have hc := plan_chk h.err
  rw [← h.say] at hc
  have := hc.ser i (by simpa using hi) h2
  rw [say_get hi (by simpa using hi)] at this
  exact this
theorem PlanM.offers (h : PlanM old next ts ms) {i : Nat} (hi : i < ms.length) (h2 : i < (oldL old (movedL ts)).length) : ms[i].row.2 = if ms[i].to_ < 0 then offL (oldL old (movedL ts))[i].kind next (plL (oldL old (movedL ts)) next) else [] := by
  have hc := plan_chk h.err
  rw [← h.say] at hc
  have := hc.off i (by simpa using hi) h2
  rw [say_get hi (by simpa using hi), h.tos] at this
  exact this
/-- the old place of a moved title -/
theorem PlanM.place (h : PlanM old next ts ms) {i : Nat} (hi : i < (movedL ts).length) : 0 ≤ (movedL ts)[i].place ∧ (movedL ts)[i].place < old.length :=
  ⟨(moved_place (List.getElem_mem hi)).1, ((planP h.err).ok i hi).1⟩
theorem PlanM.good (h : PlanM old next ts ms) {i m x : Nat} (hi : i < ms.length) (hm : ms[i].to_ = m) (h2 : i < (movedL ts).length) (hx : (movedL ts)[i].place = x) (hxn : x < old.length) (hmn : m < next.length) : refAtLeast next[m] old[x] = true := by
  have h1 := h.mem hi (by omega)
  have ho : i < (oldL old (movedL ts)).length := by rw [old_len]; exact h2
  rw [hm, edges_rowG ho, oldL_at h2 hx hxn ho] at h1
  obtain ⟨h3, h4, h5⟩ := fits_mem _ _ _ _ h1
  exact h5
end
theorem moved_len (ts : List Ow) : (movedL ts).length ≤ ts.length := by unfold movedL; exact List.length_filter_le _ _
theorem best {es : Gr} {r : Int} {got left cover got2 : List Int} (h : checkL es r got left cover = true) (hm : IsM es got2) : sizeN got2 ≤ sizeN got := by
  have hp := check_parts h
  have := weak hm hp.2.2.2.1
  omega
theorem best_cover {es : Gr} {r : Int} {got left cover got2 left2 cover2 : List Int} (h : checkL es r got left cover = true) (h2 : checkL es r got2 left2 cover2 = true) : sizeN got = sizeN got2 :=
  Nat.le_antisymm (best h2 (check_parts h).2.2.2.2.1) (best h (check_parts h2).2.2.2.2.1)
theorem PlanM.cov {old next : List Pl} {ts : List Ow} {ms : List Mv} (h : PlanM old next ts ms) : checkL (edgesL (oldL old (movedL ts)) next) next.length (plL (oldL old (movedL ts)) next) (clL (oldL old (movedL ts)) next) (crL (oldL old (movedL ts)) next) = true := plan_cov h.small (planP h.err).n2
theorem PlanM.size {old next : List Pl} {ts : List Ow} {ms : List Mv} (h : PlanM old next ts ms) : cntG (tosS (ms.map Mv.say)) ms.length = sizeN (plL (oldL old (movedL ts)) next) := by
  rw [sizeN_cntG (fun j hj => by
    have hl := congrArg List.length h.tos
    rw [tos_len] at hl
    have := h.low (i := j) (by omega)
    rwa [h.to_at (by omega)] at this)]
  have hl := congrArg List.length h.tos
  rw [tos_len] at hl
  rw [h.tos, ← hl]
theorem sizeN_rep (n : Nat) : sizeN (List.replicate n (-1)) = 0 := by
  rw [sizeN_eq]
  simp
theorem part_isM {es : Gr} {g : List Int} (hl : g.length ≤ es.length) (hg : ∀ i, i < g.length → goodAt es g i) : IsM es (g ++ List.replicate (es.length - g.length) (-1)) := by
  refine good_isM (by simp; omega) (fun i hi => ?_)
  by_cases h : i < g.length
  · rcases hg i h with h1 | ⟨h1, h2⟩
    · exact .inl (by rw [atI_append, if_pos h]; exact h1)
    · exact .inr ⟨by rw [atI_append, if_pos h]; exact h1, fun j hj => by rw [atI_append, atI_append, if_pos h, if_pos (by omega)]; exact h2 j hj⟩
  · exact .inl (by rw [atI_append, if_neg h, atI_rep])
theorem part_best {es : Gr} {r : Int} {got left cover g : List Int} (h : checkL es r got left cover = true) (hl : g.length ≤ es.length) (hg : ∀ i, i < g.length → goodAt es g i) : sizeN g ≤ sizeN got := by
  have := best h (part_isM hl hg)
  rw [sizeN_append, sizeN_rep] at this
  omega
/-- places that are taken one after the other -/
structure GotI (es : Gr) (g : List Int) (k : Nat) : Prop where
  len : g.length = k
  good : ∀ i, i < k → goodAt es g i
  low : ∀ i, -1 ≤ atI g i
theorem fits_in {p : Pl} : ∀ {l : List Pl} {k n : Nat} (h : n < l.length), refAtLeast l[n] p = true → ((k + n : Nat) : Int) ∈ fits p l k
  | [], _, _, h, _ => by simp at h
  | q :: r, k, 0, h, hq => by
    unfold fits
    rw [if_pos (by simpa using hq)]; simp
  | q :: r, k, n + 1, h, hq => by
    have ih := fits_in (p := p) (l := r) (k := k + 1) (n := n) (by simpa using h) (by simpa using hq)
    unfold fits
    have e : k + 1 + n = k + (n + 1) := by omega
    rw [e] at ih
    split
    · exact List.mem_cons_of_mem _ ih
    · exact ih
theorem row_in {olds next : List Pl} {i n : Nat} (hi : i < olds.length) (hn : n < next.length) (h : refAtLeast next[n] olds[i] = true) : (n : Int) ∈ rowG (edgesL olds next) i := by
  rw [edges_rowG hi]
  have := fits_in (k := 0) hn h
  simpa using this
theorem PlanM.most {old next : List Pl} {ts : List Ow} {ms : List Mv} (h : PlanM old next ts ms) {g : List Int} {k : Nat} (hg : GotI (edgesL (oldL old (movedL ts)) next) g k) (hk : k ≤ (movedL ts).length) : cntG g k ≤ cntG (tosS (ms.map Mv.say)) ms.length := by
  have hl := hg.len
  subst hl
  rw [h.size, ← sizeN_cntG (fun j _ => hg.low j)]
  exact part_best h.cov (by rw [edges_len, old_len]; exact hk) hg.good
theorem PlanM.other {old next : List Pl} {ts : List Ow} {ms : List Mv} (h : PlanM old next ts ms) {ms2 : List Mv} {left right : List Int} (hc : chkW old next ts (ms2.map Mv.say) left right = true) : cntG (tosS (ms2.map Mv.say)) ms2.length = cntG (tosS (ms.map Mv.say)) ms.length := by
  unfold chkW at hc
  rw [if_pos h.err] at hc
  have hp := chk_iff.1 hc
  have hm := (check_parts hp.cov).2.2.2.2.1
  have hvp := validG_parts (check_parts hp.cov).1
  have hl := tos_len ms2
  rw [h.size, best_cover h.cov hp.cov, sizeN_cntG (fun j hj => ?_), hl]
  rcases hm.mem j hj with e | e
  · omega
  · have := hvp.2.2.2 j _ e; omega
end Go.Proofs.Ytnnendajegdnhaa
