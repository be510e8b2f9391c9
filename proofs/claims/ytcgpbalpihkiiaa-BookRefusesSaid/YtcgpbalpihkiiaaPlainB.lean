/- Layer 33: what holds of a book after operations; a book and the reference's agree. No program in sight. No condition. -/
import Derived.Test.YtcgpbalpihkiiaaPlain
namespace Go.Proofs.Ytcgpbalpihkiiaa
open Go Go.Gw
set_option linter.unusedSimpArgs false
set_option linter.unusedVariables false
structure Inv (s : Bk) (N : Nat) : Prop where
  srt : s.Srt
  len : s.offers.length + s.bids.length ≤ N
  val : ∀ x ∈ s.offers ++ s.bids, validB x = true
  ids : ∀ x ∈ s.offers ++ s.bids, x.id ∈ s.ids
  dist : (s.offers ++ s.bids).Pairwise (fun x y => x.id ≠ y.id)
  ser : s.offers.Pairwise (fun x y => x.serial ≠ y.serial)
  nom : ∀ x ∈ s.offers, ∀ y ∈ s.bids, x.person = y.person ∨ y.price < x.price
theorem inv_z : Inv Bk.z 0 := by
  refine ⟨⟨?_, ?_, ?_, ?_⟩, ?_, ?_, ?_, ?_, ?_, ?_⟩ <;> simp [Bk.z]
theorem Inv.mono {s : Bk} {N N' : Nat} (h : Inv s N) (hN : N ≤ N') : Inv s N' := ⟨h.srt, Nat.le_trans h.len hN, h.val, h.ids, h.dist, h.ser, h.nom⟩
/-- some orders leave -/
theorem Inv.sub {s : Bk} {N : Nat} (h : Inv s N) {lo lb : List Ord} {ids : List Int} (ho : lo.Sublist s.offers) (hb : lb.Sublist s.bids) (hi : ∀ x ∈ s.ids, x ∈ ids) : Inv ⟨lo, lb, ids⟩ N := by
  have hs : (lo ++ lb).Sublist (s.offers ++ s.bids) := ho.append hb
  exact ⟨⟨fun x hx => h.srt.ho x (ho.subset hx), fun x hx => h.srt.hb x (hb.subset hx), h.srt.so.sublist ho, h.srt.sb.sublist hb⟩, by have h1 := ho.length_le; have h2 := hb.length_le; have h3 := h.len; show lo.length + lb.length ≤ N; omega,
    fun x hx => h.val x (hs.subset hx), fun x hx => hi _ (h.ids x (hs.subset hx)), h.dist.sublist hs, h.ser.sublist ho, fun x hx y hy => h.nom x (ho.subset hx) y (hb.subset hy)⟩
theorem inv_cancel {s : Bk} {N : Nat} (h : Inv s N) (i : Int) (p : ByteArray) : Inv (cancelS s i p) N := by
  unfold cancelS
  split
  · split
    · exact h.sub List.eraseP_sublist (List.Sublist.refl _) (fun x hx => hx)
    · exact h
  · split
    · split
      · exact h.sub (List.Sublist.refl _) List.eraseP_sublist (fun x hx => hx)
      · exact h
    · exact h
theorem befB_total {x y : Ord} (h : x.sell = y.sell) (hi : x.id ≠ y.id) (hn : befB x y = false) : befB y x = true := by
  have h1 : ¬ befB x y = true := by rw [hn]; simp
  rw [befB_same h] at h1
  rw [befB_same h.symm]
  rw [← h]
  cases hs : x.sell
  · simp only [hs, Bool.false_eq_true, false_iff] at h1 ⊢
    omega
  · simp only [hs, true_iff] at h1 ⊢
    omega
theorem insO_perm (l : List Ord) (o : Ord) : (insO l o).Perm (o :: l) := by
  unfold insO
  refine List.perm_middle.trans (List.Perm.cons _ ?_)
  rw [List.takeWhile_append_dropWhile]
theorem insO_len (l : List Ord) (o : Ord) : (insO l o).length = l.length + 1 := (insO_perm l o).length_eq
theorem insO_mem {l : List Ord} {o x : Ord} : x ∈ insO l o ↔ x = o ∨ x ∈ l := by rw [(insO_perm l o).mem_iff, List.mem_cons]
theorem drop_not {l : List Ord} {o : Ord} (hs : ∀ x ∈ l, x.sell = o.sell) (hp : l.Pairwise (fun x y => befB x y = true)) : ∀ x ∈ l.dropWhile (fun x => befB x o), befB x o = false := by
  induction l with
  | nil => simp
  | cons a r ih =>
    obtain ⟨h1, h2⟩ := List.pairwise_cons.1 hp
    by_cases ha : befB a o = true
    · rw [List.dropWhile_cons_of_pos (p := fun x => befB x o) ha]
      exact ih (fun x hx => hs x (List.mem_cons_of_mem _ hx)) h2
    · rw [List.dropWhile_cons_of_neg (p := fun x => befB x o) ha]
      intro x hx
      rcases List.mem_cons.1 hx with rfl | hx
      · simpa using ha
      · cases hb : befB x o
        · rfl
        · exact absurd (befB_trans ((hs a (by simp)).trans (hs x (List.mem_cons_of_mem _ hx)).symm) (hs x (List.mem_cons_of_mem _ hx)) (h1 x hx) hb) ha
theorem take_yes {l : List Ord} {o : Ord} : ∀ x ∈ l.takeWhile (fun x => befB x o), befB x o = true := fun x hx => by
  induction l with
  | nil => simp at hx
  | cons a r ih =>
    by_cases ha : befB a o = true
    · rw [List.takeWhile_cons_of_pos (p := fun x => befB x o) ha] at hx
      rcases List.mem_cons.1 hx with rfl | hx
      · exact ha
      · exact ih hx
    · rw [List.takeWhile_cons_of_neg (p := fun x => befB x o) ha] at hx
      simp at hx
theorem insO_sorted {l : List Ord} {o : Ord} (hs : ∀ x ∈ l, x.sell = o.sell) (hi : ∀ x ∈ l, x.id ≠ o.id) (hp : l.Pairwise (fun x y => befB x y = true)) : (insO l o).Pairwise (fun x y => befB x y = true) := by
  unfold insO
  have e := List.takeWhile_append_dropWhile (p := fun x => befB x o) (l := l)
  rw [← e] at hp
  obtain ⟨h1, h2, h3⟩ := List.pairwise_append.1 hp
  have hd := drop_not hs (by rw [← e]; exact hp)
  have hm : ∀ x ∈ l.dropWhile (fun x => befB x o), x ∈ l := fun x hx => (List.dropWhile_sublist _).subset hx
  refine List.pairwise_append.2 ⟨h1, List.pairwise_cons.2 ⟨fun x hx => befB_total (hs x (hm x hx)) (hi x (hm x hx)) (hd x hx), h2⟩, fun x hx y hy => ?_⟩
  rcases List.mem_cons.1 hy with rfl | hy
  · exact take_yes x hx
  · exact h3 x hx y hy
theorem pw_perm {l l' : List Ord} (p : l.Perm l') (h : l.Pairwise (fun x y => x.id ≠ y.id)) : l'.Pairwise (fun x y => x.id ≠ y.id) := (p.pairwise_iff (fun {x y} h => Ne.symm h)).1 h
theorem pw_perm2 {l l' : List Ord} (p : l.Perm l') (h : l.Pairwise (fun x y => x.serial ≠ y.serial)) : l'.Pairwise (fun x y => x.serial ≠ y.serial) := (p.pairwise_iff (fun {x y} h => Ne.symm h)).1 h
theorem agree_no {o x : Ord} (h : agreeB o x = false) : x.person = o.person ∨ (o.sell = true → x.price < o.price) ∧ (o.sell = false → o.price < x.price) := by
  unfold agreeB at h
  cases hs : o.sell <;> simp [hs] at h ⊢ <;> by_cases e : x.person = o.person
  · exact .inl e
  · right
    by_cases hl : x.price ≤ o.price
    · exact absurd (h hl) e
    · omega
  · exact .inl e
  · right
    by_cases hl : o.price ≤ x.price
    · exact absurd (h hl) e
    · omega
theorem inv_place {s : Bk} {N : Nat} (h : Inv s N) (o : Ord) : Inv (placeS s o) (N + 1) := by
  have h' := h.mono (Nat.le_succ N)
  unfold placeS
  split
  · exact h'
  · rename_i hv
    have hv : validB o = true := by simpa using hv
    split
    · exact h'
    · rename_i ht
      have ht : twice s o = false := by simpa using ht
      have hid : o.id ∉ s.ids := notwice ht
      split
      · unfold Bk.setOther Bk.other Bk.use
        split
        · exact h'.sub (List.Sublist.refl _) List.eraseP_sublist (fun x hx => List.mem_cons_of_mem _ hx)
        · exact h'.sub List.eraseP_sublist (List.Sublist.refl _) (fun x hx => List.mem_cons_of_mem _ hx)
      · rename_i hf
        have hf := List.find?_eq_none.1 hf
        split
        · exact h'
        · have hdi : ∀ x ∈ s.offers ++ s.bids, x.id ≠ o.id := fun x hx e => hid (e ▸ h.ids x hx)
          have hlen := h.len
          cases hs : o.sell
          · have hoth : s.other o = s.offers := by simp [Bk.other, hs]
            rw [hoth] at hf
            simp only [Bk.setOwn, Bk.own, hs, Bk.use, Bool.false_eq_true, if_false]
            have hp : (s.offers ++ insO s.bids o).Perm (o :: (s.offers ++ s.bids)) := ((insO_perm s.bids o).append_left s.offers).trans List.perm_middle
            refine ⟨⟨h.srt.ho, fun x hx => ?_, h.srt.so, insO_sorted (fun x hx => (h.srt.hb x hx).trans hs.symm) (fun x hx => hdi x (List.mem_append_right _ hx)) h.srt.sb⟩, ?_, fun x hx => ?_, fun x hx => ?_, pw_perm hp.symm (List.pairwise_cons.2 ⟨fun x hx => (hdi x hx).symm, h.dist⟩), h.ser, fun x hx y hy => ?_⟩
            · rcases insO_mem.1 hx with rfl | hx
              · exact hs
              · exact h.srt.hb x hx
            · show s.offers.length + (insO s.bids o).length ≤ N + 1
              rw [insO_len]; omega
            · rcases List.mem_cons.1 (hp.mem_iff.1 hx) with rfl | hx
              · exact hv
              · exact h.val x hx
            · rcases List.mem_cons.1 (hp.mem_iff.1 hx) with rfl | hx
              · exact List.mem_cons_self ..
              · exact List.mem_cons_of_mem _ (h.ids x hx)
            · rcases insO_mem.1 hy with rfl | hy
              · rcases agree_no (o := y) (x := x) (by simpa using hf x hx) with e | ⟨_, e⟩
                · exact .inl e
                · exact .inr (e hs)
              · exact h.nom x hx y hy
          · have hoth : s.other o = s.bids := by simp [Bk.other, hs]
            rw [hoth] at hf
            simp only [Bk.setOwn, Bk.own, hs, Bk.use, if_true]
            have hp : (insO s.offers o ++ s.bids).Perm (o :: (s.offers ++ s.bids)) := (insO_perm s.offers o).append_right s.bids
            have hse : ∀ x ∈ s.offers, x.serial ≠ o.serial := fun x hx e => by
              simp only [twice, offered, hs, Bool.true_and, Bool.or_eq_false_iff] at ht
              have := List.any_eq_false.1 ht.2 x hx
              simp [serP, e] at this
            refine ⟨⟨fun x hx => ?_, h.srt.hb, insO_sorted (fun x hx => (h.srt.ho x hx).trans hs.symm) (fun x hx => hdi x (List.mem_append_left _ hx)) h.srt.so, h.srt.sb⟩, ?_, fun x hx => ?_, fun x hx => ?_, pw_perm hp.symm (List.pairwise_cons.2 ⟨fun x hx => (hdi x hx).symm, h.dist⟩), pw_perm2 (insO_perm _ _).symm (List.pairwise_cons.2 ⟨fun x hx => (hse x hx).symm, h.ser⟩), fun x hx y hy => ?_⟩
            · rcases insO_mem.1 hx with rfl | hx
              · exact hs
              · exact h.srt.ho x hx
            · show (insO s.offers o).length + s.bids.length ≤ N + 1
              rw [insO_len]; omega
            · rcases List.mem_cons.1 (hp.mem_iff.1 hx) with rfl | hx
              · exact hv
              · exact h.val x hx
            · rcases List.mem_cons.1 (hp.mem_iff.1 hx) with rfl | hx
              · exact List.mem_cons_self ..
              · exact List.mem_cons_of_mem _ (h.ids x hx)
            · rcases insO_mem.1 hx with rfl | hx
              · rcases agree_no (o := x) (x := y) (by simpa using hf y hy) with e | ⟨e, _⟩
                · exact .inl e.symm
                · exact .inr (e hs)
              · exact h.nom x hx y hy
/-- operations one after the other -/
def stepB (s : Bk) (p : Opn) : Bk := if p.cancel = true then cancelS s p.ord.id p.ord.person else placeS s p.ord
def runs (s : Bk) (ps : List Opn) : Bk := ps.foldl stepB s
theorem inv_step {s : Bk} {N : Nat} (h : Inv s N) (p : Opn) : Inv (stepB s p) (N + 1) := by
  unfold stepB; split
  · exact (inv_cancel h _ _).mono (Nat.le_succ N)
  · exact inv_place h _
theorem inv_runs {s : Bk} {N : Nat} (h : Inv s N) (ps : List Opn) : Inv (runs s ps) (N + ps.length) := by
  induction ps generalizing s N with
  | nil => exact h
  | cons p r ih =>
    have := ih (inv_step h p)
    rw [List.length_cons, show N + (r.length + 1) = N + 1 + r.length by omega]
    exact this
theorem runs_take {s : Bk} {ps : List Opn} {k : Nat} (h : k < ps.length) : runs s (ps.take (k + 1)) = stepB (runs s (ps.take k)) ps[k] := by
  unfold runs; rw [List.take_succ_eq_append_getElem h, List.foldl_append]; rfl
def Opn.ok (p : Opn) : Prop := p.ord.ok
end Go.Proofs.Ytcgpbalpihkiiaa
