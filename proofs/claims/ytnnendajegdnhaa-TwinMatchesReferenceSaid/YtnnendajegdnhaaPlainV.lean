/- Plain laws of layer 41: the cover by rounds. No condition. -/
import Derived.Test.YtnnendajegdnhaaPlainU
namespace Go.Proofs.Ytnnendajegdnhaa
set_option linter.unusedVariables false
set_option linter.unusedSimpArgs false
open Go.Gw
structure CovI (es : Gr) (owner got : List Int) (s : RS) : Prop where
  wf : R2WF es s
  snd : Snd es (AltI es owner got) s
  done : ∀ j ∈ s.left, ∀ n ∈ rowG es j.toNat, n ∈ s.reached
theorem covI_start (es : Gr) (owner got : List Int) : CovI es owner got ⟨[], []⟩ := ⟨⟨fun i h => (by cases h), List.nodup_nil⟩, ⟨fun i h => (by cases h), fun i h => (by cases h)⟩, fun i h => (by cases h)⟩
/-- title i is to be marked -/
def Hit (got : List Int) (s : RS) (i : Nat) : Prop := (i : Int) ∉ s.left ∧ (atI got i < 0 ∨ atI got i ∈ s.reached)
theorem covI_add {es : Gr} {owner got : List Int} {s : RS} (h : CovI es owner got s) {i : Nat} (hi : i < es.length) (hh : Hit got s i) (hown : ∀ j : Nat, 0 ≤ atI got j → atI owner (atI got j).toNat = j) : CovI es owner got ⟨(i : Int) :: s.left, (rowG es i).reverse ++ s.reached⟩ := by
  have hA : AltI es owner got i := ⟨by omega, by
    rw [Int.toNat_natCast]
    rcases hh.2 with h1 | h1
    · exact .free hi h1
    · by_cases h0 : atI got i < 0
      · exact .free hi h0
      · obtain ⟨j, hj, hn⟩ := h.snd.right _ h1
        exact .step (i := j.toNat) (k := (atI got i).toNat) hj.2 (by rw [Int.toNat_of_nonneg (by omega)]; exact hn) (hown i (by omega))⟩
  refine ⟨⟨fun j hj => ?_, List.nodup_cons.2 ⟨hh.1, h.wf.lnd⟩⟩, ⟨fun j hj => ?_, fun n hn => ?_⟩, fun j hj n hn => ?_⟩
  · rcases List.mem_cons.1 hj with rfl | hj
    · omega
    · exact h.wf.lft j hj
  · rcases List.mem_cons.1 hj with rfl | hj
    · exact hA
    · exact h.snd.left j hj
  · rcases List.mem_append.1 hn with hn | hn
    · exact ⟨i, hA, by rw [Int.toNat_natCast]; exact List.mem_reverse.1 hn⟩
    · exact h.snd.right n hn
  · rcases List.mem_cons.1 hj with rfl | hj
    · rw [Int.toNat_natCast] at hn
      exact List.mem_append_left _ (List.mem_reverse.2 hn)
    · exact List.mem_append_right _ (h.done j hj n hn)
theorem covI_done {es : Gr} {r : Int} (hv : validG es r = true) {owner got : List Int} {s : RS} (h : CovI es owner got s) (hn : ∀ i, i < es.length → ¬ Hit got s i) (hown : ∀ n : Nat, atI owner n < es.length) (hconv : ∀ n : Nat, 0 ≤ atI owner n → atI got (atI owner n).toNat = n) : RDone es owner got s := by
  refine rdone hv h.snd (fun j hj n hnr => ⟨h.done j hj n hnr, fun h0 => ?_⟩) (fun i hi hg => ?_)
  · have h1 := hconv n.toNat h0
    have hn0 := (validG_parts hv).2.2.2 _ n hnr
    have h2 := hn (atI owner n.toNat).toNat (by have := hown n.toNat; omega)
    have h3 : atI got (atI owner n.toNat).toNat ∈ s.reached := by rw [h1, Int.toNat_of_nonneg hn0.1]; exact h.done j hj n hnr
    have h4 : (((atI owner n.toNat).toNat : Nat) : Int) = atI owner n.toNat := Int.toNat_of_nonneg h0
    by_cases hm : atI owner n.toNat ∈ s.left
    · exact hm
    · exact absurd ⟨by rw [h4]; exact hm, .inr h3⟩ h2
  · by_cases hm : (i : Int) ∈ s.left
    · exact hm
    · exact absurd ⟨hm, .inl hg⟩ (hn i hi)
theorem seenB_getD (r : Nat) (l : List Int) (k : Nat) (h : k < r) : (seenB r l).getD k false = decide ((k : Int) ∈ l) := by
  rw [List.getD_eq_getElem?_getD, List.getElem?_eq_getElem (by rw [seenB_len]; exact h), Option.getD_some, seenB_get]
/-- marks that agree give one cover -/
theorem cover_same {es : Gr} {owner got : List Int} {s t : RS} (h : RDone es owner got s) (h2 : RDone es owner got t) (r : Nat) : coverLeft es s es.length = coverLeft es t es.length ∧ coverRight s r = coverRight t r :=
  ⟨isSet_eq (cover_sets h r).1 (cover_sets h2 r).1, isSet_eq (cover_sets h r).2 (cover_sets h2 r).2⟩
theorem pairP_own {olds next : List Pl} (h1 : olds.length ≤ 4000) (h2 : next.length ≤ 4000) : FromInv (edgesL olds next) next.length olds.length (pairP olds next) := (pairK_inv h1 h2 olds.length (Nat.le_refl _)).1
theorem rsP_done {olds next : List Pl} (h1 : olds.length ≤ 4000) (h2 : next.length ≤ 4000) : RDone (edgesL olds next) (pairP olds next).1 (pairP olds next).2 (rsP olds next) := by
  have h := pairP_own h1 h2
  have := reach2All_done (edges_valid h1 h2) (fun n => (h.wf.own n).2) (got := (pairP olds next).2)
  rw [edges_len] at this
  exact this
theorem cover_cl {olds next : List Pl} (h1 : olds.length ≤ 4000) (h2 : next.length ≤ 4000) {s : RS} (h : RDone (edgesL olds next) (pairP olds next).1 (plL olds next) s) : coverLeft (edgesL olds next) s olds.length = clL olds next ∧ coverRight s next.length = crL olds next := by
  have := cover_same h (rsP_done h1 h2) next.length
  rw [edges_len] at this
  exact this
def cntG (got : List Int) : Nat → Nat
  | 0 => 0
  | k + 1 => if 0 ≤ atI got k then cntG got k + 1 else cntG got k
theorem cntG_cntM {got : List Int} : ∀ {k : Nat}, (∀ j, j < k → -1 ≤ atI got j) → cntG got k = cntM got k
  | 0, _ => rfl
  | k + 1, h => by
    have ih := cntG_cntM (got := got) (k := k) (fun j hj => h j (by omega))
    have hk := h k (by omega)
    rw [cntM_succ, ← ih]
    conv => lhs; unfold cntG
    by_cases e : 0 ≤ atI got k
    · rw [if_pos e, if_neg (by omega)]
    · rw [if_neg e, if_pos (by omega)]; rfl
theorem sizeN_cntG {got : List Int} (h : ∀ j, j < got.length → -1 ≤ atI got j) : sizeN got = cntG got got.length := (cntG_cntM h).symm
end Go.Proofs.Ytnnendajegdnhaa
