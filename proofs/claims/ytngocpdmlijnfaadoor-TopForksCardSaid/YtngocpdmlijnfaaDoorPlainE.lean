/- Layer 30: forks of titles. No program in sight. No condition. -/
import Derived.Test.YtngocpdmlijnfaaDoorPlainD
namespace Go.Proofs.YtngocpdmlijnfaaDoor
open Go Go.Gw
set_option linter.unusedSimpArgs false
set_option linter.unusedVariables false
theorem titNil {M : Nat → Prop} {w0 w : World} {l : List Atom} (H : HSat M w0 l w) (a b c : Int) (f : ByteArray) : HSat M w0 (TitO ⟨a, b, c, f, .slice none 0 0, []⟩ :: l) w := by
  refine (H.nilO 32 2 encX).conv (fun _ => rfl) (fun k hk => ?_) (fun _ => ⟨IsSl.nil w 2 encX, Nat.le_refl 0, by simp⟩)
  rcases hk with ⟨_, h⟩ | ⟨x, hx, _⟩
  · exact absurd rfl h
  · cases hx
/-- the first difference of two chains lies within both -/
def forkB (p q : TV) : Bool := decide ((p.chain.map xf).take (min p.chain.length q.chain.length) ≠ (q.chain.map xf).take (min p.chain.length q.chain.length))
theorem fork_no {p q : TV} {k : Nat} (hk : k = p.chain.length ∨ k = q.chain.length) (h1 : k ≤ p.chain.length) (h2 : k ≤ q.chain.length) (h : ∀ i (h1 : i < p.chain.length) (h2 : i < q.chain.length), i < k → xf p.chain[i] = xf q.chain[i]) : forkB p q = false := by
  unfold forkB
  rw [decide_eq_false_iff_not, Decidable.not_not]
  have hm : min p.chain.length q.chain.length = k := by omega
  rw [hm]
  apply List.ext_getElem
  · simp; omega
  · intro i h3 h4
    simp only [List.length_take, List.length_map] at h3 h4
    simp only [List.getElem_take, List.getElem_map]
    exact h i (by omega) (by omega) (by omega)
theorem fork_yes {p q : TV} {k : Nat} (h1 : k < p.chain.length) (h2 : k < q.chain.length) (h : xf p.chain[k] ≠ xf q.chain[k]) : forkB p q = true := by
  unfold forkB
  rw [decide_eq_true_eq]
  intro e
  have e2 := congrArg (fun l => l[k]?) e
  have hk : k < min p.chain.length q.chain.length := by omega
  simp only [List.getElem?_take, if_pos hk, List.getElem?_map, List.getElem?_eq_getElem h1, List.getElem?_eq_getElem h2, Option.map_some, Option.some.injEq] at e2
  exact h e2
theorem fork_law {p q : TV} (hs : p.serial = q.serial) (hw : p.show_ = q.show_) (hf : p.first = q.first) : (extB p q || (extB q p || forkB p q)) = true := by
  have hi : identB p q = true := by unfold identB; rw [hs, hw, hf]; simp
  have hi2 : identB q p = true := by unfold identB; rw [hs, hw, hf]; simp
  cases hfk : forkB p q with
  | true => simp
  | false =>
    unfold forkB at hfk
    rw [decide_eq_false_iff_not, Decidable.not_not] at hfk
    by_cases hl : q.chain.length ≤ p.chain.length
    · rw [Nat.min_eq_right hl] at hfk
      have : extB p q = true := by
        unfold extB
        rw [hi, decide_eq_true hl, Bool.true_and, Bool.true_and, decide_eq_true_eq, List.map_take, hfk, List.take_of_length_le (by simp)]
      rw [this]; rfl
    · rw [Nat.min_eq_left (by omega)] at hfk
      have : extB q p = true := by
        unfold extB
        rw [hi2, decide_eq_true (by omega : p.chain.length ≤ q.chain.length), Bool.true_and, Bool.true_and, decide_eq_true_eq, List.map_take, ← hfk, List.take_of_length_le (by simp)]
      rw [this]; simp
theorem valid_step {p : TV} (h : validB p = true) {k : Nat} (hk : k < p.chain.length) : formX p.chain[k] = true ∧ verB (ownerS (cutT p k)) (msgS (cutT p k) p.chain[k].to) p.chain[k].sig = true := by
  unfold validB formedB at h
  rw [Bool.and_eq_true, Bool.and_eq_true] at h
  obtain ⟨⟨_, h1⟩, h2⟩ := h
  refine ⟨List.all_eq_true.1 h1 _ (List.getElem_mem hk), ?_⟩
  have h3 := List.all_eq_true.1 h2 k (List.mem_range.2 hk)
  rw [stepB_at hk, Bool.and_eq_true] at h3
  exact h3.2
theorem cut_same {p q : TV} {k : Nat} (hp : k ≤ p.chain.length) (hq : k ≤ q.chain.length) (h : ∀ i (h1 : i < p.chain.length) (h2 : i < q.chain.length), i < k → xf p.chain[i] = xf q.chain[i]) : (cutT p k).chain.map (·.to) = (cutT q k).chain.map (·.to) := by
  show (p.chain.take k).map (·.to) = (q.chain.take k).map (·.to)
  apply List.ext_getElem
  · simp; omega
  · intro i h3 h4
    simp only [List.length_take, List.length_map] at h3 h4
    simp only [List.getElem_map, List.getElem_take]
    exact congrArg Prod.fst (h i (by omega) (by omega) (by omega))
/-- both signatures at the fork are ones of the same owner -/
theorem fork_ver {p q : TV} (hv : validB q = true) (hs : p.serial = q.serial) (hw : p.show_ = q.show_) (hf : p.first = q.first) {k : Nat} (hp : k ≤ p.chain.length) (hq : k < q.chain.length) (h : ∀ i (h1 : i < p.chain.length) (h2 : i < q.chain.length), i < k → xf p.chain[i] = xf q.chain[i]) :
    verB (ownerS (cutT p k)) (msgS (cutT p k) q.chain[k].to) q.chain[k].sig = true := by
  have h1 := (valid_step hv hq).2
  have e := cut_same hp (by omega) h
  rw [ownerS_congr (t := cutT p k) (t' := cutT q k) hf e, msgS_congr (t := cutT p k) (t' := cutT q k) hs hw hf e]
  exact h1
theorem joinR_snoc (xs : List ByteArray) (a : ByteArray) : joinR (xs ++ [a]) = joinR xs ++ partR a := by unfold joinR; rw [List.flatMap_append]; simp
theorem join_diff {t : TV} {a b : ByteArray} (h : a.size = b.size) (hne : a ≠ b) : joinRS (fieldsL t a) ≠ joinRS (fieldsL t b) := by
  intro e
  have e2 : joinR (fieldsL t a) = joinR (fieldsL t b) := by
    have := congrArg (fun s : ByteArray => s.data.toList) e
    simpa [joinRS] using this
  unfold fieldsL at e2
  rw [joinR_snoc, joinR_snoc] at e2
  have e3 := List.append_cancel_left e2
  unfold partR at e3
  rw [h] at e3
  have e4 := List.append_cancel_left e3
  apply hne
  obtain ⟨⟨x⟩⟩ := a
  obtain ⟨⟨y⟩⟩ := b
  simp only at e4
  rw [e4]
theorem digsI_len (m : ByteArray) : (digsI m).length = 18 := by simp [digsI, digs_len]
theorem digsI_get (m : ByteArray) (j : Nat) (h : j < (digsI m).length) : (digsI m)[j] = ((digs m).getD j 0 : Int) := by
  have hl : j < (digs m).length := by rw [digsI_len] at h; rw [digs_len]; exact h
  simp [digsI, List.getElem?_eq_getElem hl]
/-- two lists of ends: some chain meets, or the lists differ -/
theorem ends_diff {m : ByteArray} {xs ys : List ByteArray} (hx : xs.length = 18) (hy : ys.length = 18) (hne : xs ≠ ys) (h : ∀ i (h1 : i < xs.length) (h2 : i < ys.length), stepC xs[i] ys[i] (15 - (digs m).getD i 0) = false) : endsK m xs 18 ≠ endsK m ys 18 := by
  intro e
  apply hne
  apply List.ext_getElem (by omega)
  intro i h1 h2
  have e2 := congrArg (fun l => l[i]?) e
  have hi : i < 18 := by omega
  unfold endsK at e2
  simp only [List.getElem?_map, List.getElem?_range hi, Option.map_some, Option.some.injEq] at e2
  simp only [List.getD_eq_getElem?_getD, List.getElem?_eq_getElem h1, List.getElem?_eq_getElem h2, Option.getD_some] at e2
  have h3 := h i h1 h2
  simp only [List.getD_eq_getElem?_getD] at h3
  exact stepC_no h3 e2
theorem ver_ends {o m : ByteArray} {xs : List ByteArray} (h : verB o m xs = true) : listS (endsK m xs 18) = o := by
  unfold verB at h
  rw [Bool.and_eq_true, decide_eq_true_eq] at h
  exact h.2
theorem formX_parts {x : XV} (h : formX x = true) : x.sig.length = 18 ∧ isD x.to = true ∧ x.sig.all isD = true := by
  unfold formX at h
  simp only [Bool.and_eq_true, decide_eq_true_eq] at h
  exact ⟨h.1.1, h.1.2, h.2⟩
structure RgT (t : TV) : Prop where
  s0 : -9223372036854775808 ≤ t.serial ∧ t.serial ≤ 9223372036854775807
  s1 : -9223372036854775808 ≤ t.show_ ∧ t.show_ ≤ 9223372036854775807
  s2 : -9223372036854775808 ≤ t.place ∧ t.place ≤ 9223372036854775807
theorem few_sz {t : TV} (hr : RgT t) (h : fewB t 4 = true) : TSz t := by
  unfold fewB at h
  simp only [Bool.and_eq_true, decide_eq_true_eq] at h
  obtain ⟨⟨h1, h2⟩, h3⟩ := h
  refine ⟨hr.s0, hr.s1, hr.s2, by omega, by omega, fun x hx => ?_⟩
  have h4 := List.all_eq_true.1 h3 x hx
  unfold fewX at h4
  simp only [Bool.and_eq_true, decide_eq_true_eq] at h4
  refine ⟨by omega, by omega, fun s hs => ?_⟩
  have := List.all_eq_true.1 h4.2 s hs
  simp only [decide_eq_true_eq] at this
  omega
/-- the secrets of the example, and that their keys differ -/
def sA : ByteArray := ⟨#[97]⟩
def sB : ByteArray := ⟨#[98]⟩
def sC : ByteArray := ⟨#[99]⟩
def sE : ByteArray := ⟨#[100]⟩
structure Dist : Prop where
  ab : pubS sA ≠ pubS sB
  ac : pubS sA ≠ pubS sC
  bc : pubS sB ≠ pubS sC
  ae : pubS sA ≠ pubS sE
  be : pubS sB ≠ pubS sE
theorem Dist.h3 (h : Dist) : ∀ j, j < [sA, sB, sC].length → ∀ i, i < j → pubS ([sA, sB, sC].getD i (⟨#[]⟩ : ByteArray)) ≠ pubS ([sA, sB, sC].getD j (⟨#[]⟩ : ByteArray)) := by
  intro j hj i hi
  have hj : j < 3 := hj
  have : (i = 0 ∧ j = 1) ∨ (i = 0 ∧ j = 2) ∨ (i = 1 ∧ j = 2) := by omega
  rcases this with ⟨rfl, rfl⟩ | ⟨rfl, rfl⟩ | ⟨rfl, rfl⟩
  · exact h.ab
  · exact h.ac
  · exact h.bc
theorem Dist.h2 (x y : ByteArray) (h : pubS x ≠ pubS y) : ∀ j, j < [x, y].length → ∀ i, i < j → pubS ([x, y].getD i (⟨#[]⟩ : ByteArray)) ≠ pubS ([x, y].getD j (⟨#[]⟩ : ByteArray)) := by
  intro j hj i hi
  have hj : j < 2 := hj
  have : i = 0 ∧ j = 1 := by omega
  obtain ⟨rfl, rfl⟩ := this
  exact h
theorem secret_size (xs : List ByteArray) (h : ∀ x ∈ xs, x.size ≤ 1000) (i : Nat) : (xs.getD i (⟨#[]⟩ : ByteArray)).size ≤ 1000 := by
  rw [List.getD_eq_getElem?_getD]
  cases hx : xs[i]? with
  | none => decide
  | some x => exact h x (List.mem_of_getElem? hx)
theorem ps_ident {xs ys : List ByteArray} {k j : Nat} {p q : TV} (hp : PS xs k p) (hq : PS ys j q) (h : xs.getD 0 (⟨#[]⟩ : ByteArray) = ys.getD 0 (⟨#[]⟩ : ByteArray)) : identB p q = true := by
  unfold identB
  rw [hp.serial, hq.serial, hp.show_, hq.show_, hp.first, hq.first, h]; simp
theorem ps_take {p : TV} (hp : PS [sA, sB, sC] 2 p) : (p.chain.take 1).map xf = passedP [sA, sB] 1 := by
  rw [List.map_take, hp.xfs, passedP_s, List.take_append_of_le_length (by rw [passedP_len]; decide), List.take_of_length_le (by rw [passedP_len]; decide)]
  rfl
theorem ps_ext {p q : TV} (hp : PS [sA, sB, sC] 2 p) (hq : PS [sA, sB] 1 q) : extB p q = true := by
  unfold extB
  rw [ps_ident hp hq rfl, hq.len, hp.len, ps_take hp, hq.xfs]; simp
theorem ps_ne (h : Dist) {p q : TV} (hp : PS [sA, sB, sC] 2 p) (hq : PS [sA, sE] 1 q) : (p.chain.take 1).map xf ≠ q.chain.map xf := by
  rw [ps_take hp, hq.xfs]
  intro e
  have e2 := congrArg (fun l : List (ByteArray × List ByteArray) => l.map (fun p => p.1)) e
  simp only [passedP_to] at e2
  have e3 := List.cons.inj e2
  exact h.be e3.1
theorem ps_noext (h : Dist) {p q : TV} (hp : PS [sA, sB, sC] 2 p) (hq : PS [sA, sE] 1 q) : extB p q = false := by
  unfold extB
  rw [hq.len, decide_eq_false (ps_ne h hp hq), Bool.and_false]
theorem ps_fork (h : Dist) {p q : TV} (hp : PS [sA, sB, sC] 2 p) (hq : PS [sA, sE] 1 q) : forkB p q = true := by
  unfold forkB
  rw [decide_eq_true_eq, hp.len, hq.len]
  have := ps_ne h hp hq
  rw [List.map_take] at this
  intro e
  apply this
  rw [show min 2 1 = 1 from rfl] at e
  rw [e, List.take_of_length_le (by rw [List.length_map, hq.len]; decide)]
end Go.Proofs.YtngocpdmlijnfaaDoor
