/- Plain laws of layer 42: a twin and its reference. No condition. -/
import Derived.Test.YtnnendajegdnhaaPlainTi
namespace Go.Proofs.Ytnnendajegdnhaa
set_option linter.unusedVariables false
set_option linter.unusedSimpArgs false
open Go.Gw
theorem bneSelf (x : Int) : (x != x) = false := by simp
theorem run_all {p : Ow → Prop} {old next : List Pl} {l : List Op} (hn : ∀ s q, p (newOw s q)) : ∀ {ts : List Ow}, (∀ o ∈ ts, p o) → ∀ o ∈ runT old next ts l, p o := by
  induction l with
  | nil => exact fun h => h
  | cons x r ih =>
    intro ts h
    refine ih (ts := stepT old next ts x) (fun o ho => ?_)
    unfold stepT at ho
    split at ho
    · exact h o ((List.eraseP_sublist ..).subset ho)
    · unfold sellT at ho
      split at ho
      · rcases List.mem_append.1 ho with h' | h'
        · exact h o h'
        · obtain rfl := List.mem_singleton.1 h'; exact hn _ _
      · exact h o ho
theorem fnM_say : ∀ {l1 l2 : List Mv}, l1.map Mv.say = l2.map Mv.say → ∀ s, (fnM l1 s).map Mv.say = (fnM l2 s).map Mv.say
  | [], [], _, _ => rfl
  | [], _ :: _, h, _ => by simp at h
  | _ :: _, [], h, _ => by simp at h
  | a :: r, b :: q, h, s => by
    simp only [List.map_cons, List.cons.injEq] at h
    have ih := fnM_say h.2 s
    have e : a.serial = b.serial := congrArg (·.1) h.1
    unfold fnM upd
    rw [e]
    split
    · simp [h.1]
    · exact ih
theorem fnM_rev {l1 l2 : List Mv} (h : l1.map Mv.say = l2.map Mv.say) (s : Int) : (fnM l1.reverse s).map Mv.say = (fnM l2.reverse s).map Mv.say := fnM_say (by rw [List.map_reverse, List.map_reverse, h]) s
/-- an entry's offers after the change -/
def offO (ms : List Mv) (acc : Bool) (g : Ow → List Int) (o : Ow) : List Int := if acc = true then (match fnM ms.reverse o.serial with | some m => m.row.2 | none => g o) else g o
theorem offO_same {l1 l2 : List Mv} (h : l1.map Mv.say = l2.map Mv.say) (acc : Bool) (g : Ow → List Int) (o : Ow) : offO l1 acc g o = offO l2 acc g o := by
  have e := fnM_rev h o.serial
  unfold offO
  split
  · cases h1 : fnM l1.reverse o.serial with
    | none => cases h2 : fnM l2.reverse o.serial with
      | none => rfl
      | some m2 => rw [h1, h2] at e; cases e
    | some m1 => cases h2 : fnM l2.reverse o.serial with
      | none => rw [h1, h2] at e; cases e
      | some m2 =>
        rw [h1, h2] at e
        exact congrArg (·.2.2) (Option.some.inj e)
  · rfl
theorem fin_same {l1 l2 : List Mv} (h : l1.map Mv.say = l2.map Mv.say) (acc : Bool) (o : Ow) : (fin1 l1 acc o).serial = (fin1 l2 acc o).serial ∧ (fin1 l1 acc o).place = (fin1 l2 acc o).place ∧ (fin1 l1 acc o).gone = (fin1 l2 acc o).gone ∧ (fin1 l1 acc o).person = o.person ∧ (fin1 l2 acc o).person = o.person := by
  have e := fnM_rev h o.serial
  unfold fin1
  split
  · cases h1 : fnM l1.reverse o.serial with
    | none => cases h2 : fnM l2.reverse o.serial with
      | none => exact ⟨rfl, rfl, rfl, rfl, rfl⟩
      | some m2 => rw [h1, h2] at e; cases e
    | some m1 => cases h2 : fnM l2.reverse o.serial with
      | none => rw [h1, h2] at e; cases e
      | some m2 =>
        rw [h1, h2] at e
        exact ⟨rfl, congrArg (·.2.1) (Option.some.inj e), rfl, rfl, rfl⟩
  · exact ⟨rfl, rfl, rfl, rfl, rfl⟩
theorem finT_len (ts : List Ow) (ms : List Mv) (acc : Bool) : (finT ts ms acc).length = ts.length := by simp [finT]
theorem finT_get {ts : List Ow} {ms : List Mv} {acc : Bool} {i : Nat} (h : i < (finT ts ms acc).length) : (finT ts ms acc)[i] = fin1 ms acc (ts[i]'(by rw [finT_len] at h; exact h)) := by simp [finT]
/-- what an entry's offers are, read in w -/
theorem off_read {w : Go.World} {ms : List Mv} {acc : Bool} {g : Ow → List Int} {o : Ow} (hr : ∀ p ∈ rowsOf ms, IsSl w p.1 1 encI p.2) (hg : IsSl w o.offers 1 encI (g o)) : IsSl w (fin1 ms acc o).offers 1 encI (offO ms acc g o) := by
  unfold fin1 offO
  split
  · cases h1 : fnM ms.reverse o.serial with
    | none => exact hg
    | some m => exact hr _ (List.mem_map.2 ⟨m, List.mem_reverse.1 (fnM_mem h1), rfl⟩)
  · exact hg
/-- what the offers of an entry read as at the start -/
noncomputable def gOff (w0 : Go.World) (o : Ow) : List Int := by
  classical exact if h : ∃ xs, IsSl w0 o.offers 1 encI xs then Classical.choose h else []
theorem gOff_at {w0 : Go.World} {o : Ow} (h : ∃ xs, IsSl w0 o.offers 1 encI xs) : IsSl w0 o.offers 1 encI (gOff w0 o) := by
  unfold gOff
  rw [dif_pos h]
  exact Classical.choose_spec h
theorem same_hyps {T : List Ow} {l1 l2 : List Mv} {acc : Bool} (hs : l1.map Mv.say = l2.map Mv.say) (hp : ∀ o ∈ T, ∃ s : ByteArray, o.person = .string s) :
    ∀ i (h : i < (finT T l1 acc).length) (h2 : i < (finT T l2 acc).length), (finT T l1 acc)[i].serial = (finT T l2 acc)[i].serial ∧ (finT T l1 acc)[i].place = (finT T l2 acc)[i].place ∧ (finT T l1 acc)[i].gone = (finT T l2 acc)[i].gone ∧ ∃ s : ByteArray, (finT T l1 acc)[i].person = .string s ∧ (finT T l2 acc)[i].person = .string s := fun i h h2 => by
  rw [finT_get h, finT_get h2]
  obtain ⟨e1, e2, e3, e4, e5⟩ := fin_same hs acc (T[i]'(by rw [finT_len] at h; exact h))
  obtain ⟨s, hs⟩ := hp _ (List.getElem_mem (by rw [finT_len] at h; exact h))
  exact ⟨e1, e2, e3, s, e4.trans hs, e5.trans hs⟩
theorem same_offs {w : Go.World} {T : List Ow} {ms : List Mv} {acc : Bool} {g : Ow → List Int} (hr : ∀ p ∈ rowsOf ms, IsSl w p.1 1 encI p.2) (hg : ∀ o ∈ T, IsSl w o.offers 1 encI (g o)) :
    ∀ i (h : i < (finT T ms acc).length), IsSl w (finT T ms acc)[i].offers 1 encI (offO ms acc g (T.getD i (newOw 0 0))) := fun i h => by
  have hi : i < T.length := by rw [finT_len] at h; exact h
  rw [finT_get h, List.getD_eq_getElem?_getD, List.getElem?_eq_getElem hi]
  exact off_read hr (hg _ (List.getElem_mem hi))
theorem plain_offs {w : Go.World} {T : List Ow} {g : Ow → List Int} (hg : ∀ o ∈ T, IsSl w o.offers 1 encI (g o)) : ∀ i (h : i < T.length), IsSl w T[i].offers 1 encI (g (T.getD i (newOw 0 0))) := fun i hi => by
  rw [List.getD_eq_getElem?_getD, List.getElem?_eq_getElem hi]
  exact hg _ (List.getElem_mem hi)
theorem plain_hyps {T : List Ow} (hp : ∀ o ∈ T, ∃ s : ByteArray, o.person = .string s) : ∀ i (h : i < T.length) (h2 : i < T.length), T[i].serial = T[i].serial ∧ T[i].place = T[i].place ∧ T[i].gone = T[i].gone ∧ ∃ s : ByteArray, T[i].person = .string s ∧ T[i].person = .string s := fun i h h2 => by
  obtain ⟨s, hs⟩ := hp _ (List.getElem_mem h)
  exact ⟨rfl, rfl, rfl, s, hs, hs⟩
theorem nilSame : (decide (([] : List Mv).map Mv.say = ([] : List Mv).map Mv.say) && (decide (([] : List Int) = []) && decide (([] : List Int) = []))) = true := by simp
end Go.Proofs.Ytnnendajegdnhaa
