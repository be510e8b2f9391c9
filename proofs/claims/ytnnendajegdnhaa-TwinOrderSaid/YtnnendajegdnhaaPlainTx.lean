/- Plain laws of layer 42: steps of the walks over a twin. No condition. -/
import Derived.Test.YtnnendajegdnhaaPlainTw
namespace Go.Proofs.Ytnnendajegdnhaa
set_option linter.unusedVariables false
set_option linter.unusedSimpArgs false
open Go.Gw
theorem nat_beq (a b : Nat) : ((a : Int) == (b : Int)) = decide (a = b) := by
  by_cases h : a = b
  · subst h; simp
  · rw [decide_eq_false h]; simp; omega
theorem eraseP_at {α : Type} {p : α → Bool} : ∀ {l : List α} {j : Nat} (hj : j < l.length), p l[j] = true → (∀ q (hq : q < l.length), q < j → p l[q] = false) → l.eraseP p = l.eraseIdx j
  | [], j, hj, _, _ => by simp at hj
  | x :: r, 0, hj, h, _ => by
    rw [List.eraseP_cons]
    have h : p x = true := h
    simp [h]
  | x :: r, j + 1, hj, h, hb => by
    have h0 : p x = false := hb 0 (by simp) (by omega)
    rw [List.eraseP_cons_of_neg (by rw [h0]; simp), List.eraseIdx_cons_succ]
    rw [eraseP_at (l := r) (j := j) (by simpa using hj) h (fun q hq hqj => hb (q + 1) (by simpa using hq) (by omega))]
theorem dropT_at {ts : List Ow} {serial : Int} {j : Nat} (hj : j < ts.length) (h : dropP serial ts[j] = true) (hb : ∀ q (hq : q < ts.length), q < j → dropP serial ts[q] = false) : dropT ts serial = ts.eraseIdx j ∧ dropE ts serial = 0 :=
  ⟨eraseP_at hj h hb, by unfold dropE; rw [if_pos (List.any_eq_true.2 ⟨_, List.getElem_mem hj, h⟩)]⟩
theorem dropT_no {ts : List Ow} {serial : Int} (h : ∀ x ∈ ts, dropP serial x = false) : dropT ts serial = ts ∧ dropE ts serial = 11 :=
  ⟨List.eraseP_of_forall_not (fun x hx => by rw [h x hx]; simp), by unfold dropE; rw [if_neg (by rw [List.any_eq_true]; rintro ⟨x, hx, h2⟩; rw [h x hx] at h2; cases h2)]⟩
theorem olds_yes {old : List Pl} {ts : List Ow} {k x : Nat} (hk : k < ts.length) (hm : movedB ts[k] = true) (hx : ts[k].place = (x : Int)) (hn : x < old.length) : oldsT old (ts.take (k + 1)) = oldsT old (ts.take k) ++ [old[x]] := by
  unfold oldsT
  rw [moved_step hk, if_pos hm]
  unfold oldL
  rw [List.map_append, List.map_cons, List.map_nil, hx, Int.toNat_natCast, List.getD_eq_getElem?_getD, List.getElem?_eq_getElem hn]; rfl
theorem olds_no {old : List Pl} {ts : List Ow} {k : Nat} (hk : k < ts.length) (hm : movedB ts[k] ≠ true) : oldsT old (ts.take (k + 1)) = oldsT old (ts.take k) := by
  unfold oldsT
  rw [moved_step hk, if_neg hm, List.append_nil]
theorem taken_yes {ts : List Ow} {k : Nat} (hk : k < ts.length) (hm : movedB ts[k] = true) (place : Int) : takenB (ts.take (k + 1)) place = (takenB (ts.take k) place || (ts[k].place == place)) := by
  unfold takenB
  rw [moved_step hk, if_pos hm, List.any_append]
  simp only [List.any_cons, List.any_nil, Bool.or_false]
  rfl
theorem taken_no {ts : List Ow} {k : Nat} (hk : k < ts.length) (hm : movedB ts[k] ≠ true) (place : Int) : takenB (ts.take (k + 1)) place = takenB (ts.take k) place := by
  unfold takenB
  rw [moved_step hk, if_neg hm, List.append_nil]
theorem kp_size {g : List Int} (h : ∀ x ∈ g, -1 ≤ x) : (KP (fun y => decide (y < 0)) g).length = sizeN g := by
  rw [sizeN_eq, KP]
  congr 1
  refine List.filter_congr (fun x hx => ?_)
  have := h x hx
  by_cases h0 : x < 0
  · have : x = -1 := by omega
    subst this; rfl
  · have : x ≠ -1 := by omega
    simp [h0, this]
theorem match_low' {es : Gr} {r : Int} (hv : validG es r = true) : ∀ x ∈ gotL es r, -1 ≤ x := fun x hx => by
  obtain ⟨j, hj, rfl⟩ := List.getElem_of_mem hx
  have := match_low hv j
  rwa [atI_eq hj] at this
theorem rk_kp {ps next : List Pl} (h1 : ps.length ≤ 4000) (h2 : next.length ≤ 4000) : (KP (fun y => decide (y < 0)) (gotL (edgesL ps next) (next.length : Int))).length = rk ps next := kp_size (match_low' (edges_valid h1 h2))
theorem TwOK.place {old next : List Pl} {ts : List Ow} {n : Nat} (h : TwOK old next ts n) {k : Nat} (hk : k < ts.length) (hm : movedB ts[k] = true) : 0 ≤ ts[k].place ∧ ts[k].place < old.length := by
  have hmem : ts[k] ∈ movedL ts := List.mem_filter.2 ⟨List.getElem_mem hk, hm⟩
  exact ⟨(moved_place hmem).1, (plOK_pw.1 (err_0.1 h.err).2.2.2).1 _ hmem⟩
theorem moved_take_le (ts : List Ow) (k : Nat) : (movedL (ts.take k)).length ≤ (movedL ts).length := ((List.take_sublist k ts).filter _).length_le
theorem olds_take_le (old : List Pl) (ts : List Ow) (k : Nat) : (oldsT old (ts.take k)).length ≤ (movedL ts).length := by rw [oldsT_len]; exact moved_take_le ts k
theorem newOw_one (s p : Int) : ∀ y ∈ [newOw s p], ∀ u ∈ Ow.enc y, u.oneCell' = true := fun y hy u hu => by
  obtain rfl := List.mem_singleton.1 hy
  exact List.all_eq_true.1 (Ow.all (newOw_ok s p)) u hu
section
variable {old next : List Pl} {ts : List Ow} {place serial : Int}
theorem sellT_err (h : sellE old next ts place serial ≠ 0) : sellT old next ts place serial = ts := by unfold sellT; rw [if_neg h]
theorem sellE_arg (h : argB old.length place serial = true) : sellE old next ts place serial = 1 := by unfold sellE; rw [if_pos h]
theorem sellE_used (ha : argB old.length place serial = false) (h : usedB ts serial = true) : sellE old next ts place serial = 9 := by unfold sellE; rw [if_neg (by rw [ha]; simp), if_pos h]
theorem used_at {k : Nat} (hk : k < ts.length) (h : ts[k].serial = serial) : usedB ts serial = true := List.any_eq_true.2 ⟨_, List.getElem_mem hk, by simpa using h⟩
theorem used_no (h : ∀ y ∈ ts, y.serial ≠ serial) : usedB ts serial = false := by
  rw [usedB, List.any_eq_false]; intro x hx; simpa using h x hx
theorem sellE_taken (ha : argB old.length place serial = false) (hu : usedB ts serial = false) (h : takenB ts place = true) : sellE old next ts place serial = 16 := by
  unfold sellE; rw [if_neg (by rw [ha]; simp), if_neg (by rw [hu]; simp), if_pos h]
theorem sellE_full (ha : argB old.length place serial = false) (hu : usedB ts serial = false) (ht : takenB ts place = false) (h : 4000 ≤ (movedL ts).length) : sellE old next ts place serial = 3 := by
  unfold sellE; rw [if_neg (by rw [ha]; simp), if_neg (by rw [hu]; simp), if_neg (by rw [ht]; simp), if_pos h]
theorem sellE_deny (ha : argB old.length place serial = false) (hu : usedB ts serial = false) (ht : takenB ts place = false) (hl : (movedL ts).length < 4000) (h : denyB old next ts place = true) : sellE old next ts place serial = 15 := by
  unfold sellE; rw [if_neg (by rw [ha]; simp), if_neg (by rw [hu]; simp), if_neg (by rw [ht]; simp), if_neg (by omega), if_pos h]
theorem sellE_ok (ha : argB old.length place serial = false) (hu : usedB ts serial = false) (ht : takenB ts place = false) (hl : (movedL ts).length < 4000) (h : denyB old next ts place = false) : sellE old next ts place serial = 0 ∧ sellT old next ts place serial = ts ++ [newOw serial place] := by
  have e : sellE old next ts place serial = 0 := by
    unfold sellE; rw [if_neg (by rw [ha]; simp), if_neg (by rw [hu]; simp), if_neg (by rw [ht]; simp), if_neg (by omega), if_neg (by rw [h]; simp)]
  exact ⟨e, by unfold sellT; rw [if_pos e]⟩
theorem take_ne {k : Nat} (hk : k < ts.length) (h : ∀ y ∈ ts.take k, y.serial ≠ serial) (hn : ts[k].serial ≠ serial) : ∀ y ∈ ts.take (k + 1), y.serial ≠ serial := fun y hy => by
  rw [List.take_succ_eq_append_getElem hk] at hy
  rcases List.mem_append.1 hy with h' | h'
  · exact h y h'
  · obtain rfl := List.mem_singleton.1 h'; exact hn
end
def dupB (ts : List Ow) : Bool := !decide (ts.Pairwise (fun x y => x.serial ≠ y.serial))
noncomputable def newE (old next : List Pl) (ts : List Ow) : Int := if errP old next ts ≠ 0 then errP old next ts else if dupB ts = true then 9 else 0
theorem newE_err {old next : List Pl} {ts : List Ow} (h : errP old next ts ≠ 0) : newE old next ts = errP old next ts := by unfold newE; rw [if_pos h]
theorem newE_dup {old next : List Pl} {ts : List Ow} (h : errP old next ts = 0) (hd : dupB ts = true) : newE old next ts = 9 := by unfold newE; rw [if_neg (by omega), if_pos hd]
theorem newE_ok {old next : List Pl} {ts : List Ow} (h : errP old next ts = 0) (hd : dupB ts = false) : newE old next ts = 0 := by unfold newE; rw [if_neg (by omega), if_neg (by rw [hd]; simp)]
theorem new_tw {old next : List Pl} {ts : List Ow} {n : Nat} (h : newE old next ts = 0) (hl : ts.length ≤ n) (hok : ∀ o ∈ ts, o.ok) : TwOK old next ts n := by
  unfold newE at h
  split at h
  · rename_i h1; exact absurd h h1
  · rename_i h1
    split at h
    · cases h
    · rename_i h2
      refine ⟨by omega, ?_, hl, hok⟩
      simpa [dupB] using h2
def serR (ts : List Ow) : List Int := (ts.map Ow.serial).reverse
theorem serR_step {ts : List Ow} {k : Nat} (h : k < ts.length) : serR (ts.take (k + 1)) = ts[k].serial :: serR (ts.take k) := by
  unfold serR; rw [List.take_succ_eq_append_getElem h, List.map_append, List.reverse_append]; rfl
theorem serR_mem {ts : List Ow} {x : Int} : x ∈ serR ts ↔ ∃ o ∈ ts, o.serial = x := by simp [serR]
theorem dup_yes {ts : List Ow} {k : Nat} (hk : k < ts.length) (h : ts[k].serial ∈ serR (ts.take k)) : dupB ts = true := by
  obtain ⟨o, ho, e⟩ := serR_mem.1 h
  obtain ⟨j, hj, rfl⟩ := List.getElem_of_mem ho
  rw [List.length_take] at hj
  rw [List.getElem_take] at e
  simp only [dupB, Bool.not_eq_true', decide_eq_false_iff_not]
  exact fun hp => List.pairwise_iff_getElem.1 hp j k (by omega) hk (by omega) e
def DistS (ts : List Ow) : Prop := ts.Pairwise (fun x y => x.serial ≠ y.serial)
theorem dist_nil : DistS [] := List.Pairwise.nil
theorem dist_step {ts : List Ow} {k : Nat} (hk : k < ts.length) (h : DistS (ts.take k)) (hn : ts[k].serial ∉ serR (ts.take k)) : DistS (ts.take (k + 1)) := by
  unfold DistS
  rw [List.take_succ_eq_append_getElem hk]
  refine List.pairwise_append.2 ⟨h, List.pairwise_singleton _ _, fun x hx y hy => ?_⟩
  obtain rfl := List.mem_singleton.1 hy
  exact fun e => hn (serR_mem.2 ⟨x, hx, e⟩)
theorem dup_no {ts : List Ow} (h : DistS ts) : dupB ts = false := by unfold dupB; rw [decide_eq_true (p := ts.Pairwise (fun x y : Ow => x.serial ≠ y.serial)) h]; rfl
/-- the newest move of a serial number -/
def fnM : List Mv → Int → Option Mv
  | [] => fun _ => none
  | m :: r => upd (fnM r) m.serial m
theorem fnM_step {ms : List Mv} {k : Nat} (h : k < ms.length) : fnM (ms.take (k + 1)).reverse = upd (fnM (ms.take k).reverse) ms[k].serial ms[k] := by
  rw [List.take_succ_eq_append_getElem h, List.reverse_append]; rfl
theorem fnM_mem {l : List Mv} {s : Int} {m : Mv} : fnM l s = some m → m ∈ l := by
  induction l with
  | nil => intro h; cases h
  | cons x r ih =>
    intro h
    unfold fnM upd at h
    split at h
    · cases h; exact List.mem_cons_self ..
    · exact List.mem_cons_of_mem _ (ih h)
def mv0 : Mv := ⟨0, 0, (.slice none 0 0, [])⟩
def setM (x : Ow) (o : Option Mv) : Ow := match o with
  | some m => { x with place := m.to_, offers := m.row.1 }
  | none => x
def fin1 (ms : List Mv) (acc : Bool) (x : Ow) : Ow := if acc = true then setM x (fnM ms.reverse x.serial) else x
def finT (ts : List Ow) (ms : List Mv) (acc : Bool) : List Ow := ts.map (fin1 ms acc)
def finK (ts : List Ow) (ms : List Mv) (acc : Bool) (k : Nat) : List Ow := (ts.take k).map (fin1 ms acc) ++ ts.drop k
theorem finK_0 (ts : List Ow) (ms : List Mv) (acc : Bool) : finK ts ms acc 0 = ts := by simp [finK]
theorem finK_all (ts : List Ow) (ms : List Mv) (acc : Bool) : finK ts ms acc ts.length = finT ts ms acc := by simp [finK, finT]
theorem finK_len (ts : List Ow) (ms : List Mv) (acc : Bool) (k : Nat) : (finK ts ms acc k).length = ts.length := by simp [finK]; omega
theorem finK_get {ts : List Ow} {ms : List Mv} {acc : Bool} {k : Nat} (hk : k < ts.length) (h : k < (finK ts ms acc k).length) : (finK ts ms acc k)[k] = ts[k] := by
  have hl : ((ts.take k).map (fin1 ms acc)).length = k := by simp; omega
  have e : (finK ts ms acc k)[k]? = some ts[k] := by
    unfold finK
    rw [List.getElem?_append_right (by omega), hl, Nat.sub_self, List.getElem?_drop]
    simp [List.getElem?_eq_getElem hk]
  rw [List.getElem?_eq_getElem h] at e
  exact Option.some.inj e
theorem finK_step {ts : List Ow} {ms : List Mv} {acc : Bool} {k : Nat} (hk : k < ts.length) : finK ts ms acc (k + 1) = (finK ts ms acc k).set k (fin1 ms acc ts[k]) := by
  unfold finK
  have hl : ((ts.take k).map (fin1 ms acc)).length = k := by simp; omega
  rw [List.set_append_right _ _ (by omega), hl, Nat.sub_self, List.drop_eq_getElem_cons hk, List.set_cons_zero, List.take_succ_eq_append_getElem hk, List.map_append]
  simp
theorem finK_stay {ts : List Ow} {ms : List Mv} {acc : Bool} {k : Nat} (hk : k < ts.length) (h : fin1 ms acc ts[k] = ts[k]) : finK ts ms acc (k + 1) = finK ts ms acc k := by
  rw [finK_step hk, h]
  have h2 := finK_get (ms := ms) (acc := acc) hk (by rw [finK_len]; exact hk)
  conv => lhs; rw [← h2]
  exact List.set_getElem_self _
theorem cells_one {v : Go.Value} (h : v.oneCell' = true) : v.cells.toList = [v] := by cases v <;> first | rfl | cases h
theorem mvAll {m : Mv} (h : m.row.1.oneCell' = true) : m.enc.all (·.oneCell') = true := by
  unfold Mv.enc
  rw [List.all_cons, List.all_cons, List.all_cons, h]; rfl
theorem addr_zero' (p : Go.Addr) : p.add 0 = p := by unfold Go.Addr.add; simp
end Go.Proofs.Ytnnendajegdnhaa
