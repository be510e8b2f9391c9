/- Queues: an own slice of one-cell elements that is cut in front and appended to; scopes. No condition. -/
import Derived.Test.YtbjknckddoegfaaGwCut
import Derived.Scope
namespace Go.Gw
set_option linter.unusedVariables false
set_option linter.unusedSimpArgs false
/-- v is a part of an own array, whose places behind v are the call's, too; the elements are xs, each of one cell -/
structure IsQ (w : World) (e : TypeId) (v : Value) {α : Type} (enc : α → List Value) (xs : List α) : Prop where
  len : xs.length ≤ 9223372036854775807
  sizes : ∀ x ∈ xs, (enc x).length = 1
  row : ∃ g off cap cur, v = .slice (some ⟨g, off, none⟩) xs.length cap ∧ w.heap[g]? = some (.cells cur e (0, 0)) ∧ xs.length ≤ cap ∧ cap ≤ maxLen ∧ off + cap ≤ cur.size ∧ ∀ (j : Nat) (u : Value), (xs.flatMap enc)[j]? = some u → cur[off + j]? = some u
def QSl (e : TypeId) (v : Value) {α : Type} (enc : α → List Value) (xs : List α) : Atom where
  own := true
  fp := fun k => v.ownBlock = some k
  ok := fun w => IsQ w e v enc xs
  loc := fun w w' h hok => ⟨hok.len, hok.sizes, by
    obtain ⟨g, off, cap, cur, hv, hg, r⟩ := hok.row
    exact ⟨g, off, cap, cur, hv, by rw [h g (by rw [hv]; rfl)]; exact hg, r⟩⟩
  lt := fun w b hok hb => by
    obtain ⟨g, off, cap, cur, hv, hg, r⟩ := hok.row
    rw [hv] at hb
    simp only [Value.ownBlock, Option.some.injEq] at hb
    subst hb
    exact (Array.getElem?_eq_some_iff.1 hg).1
theorem IsQ.sl {w : World} {e : TypeId} {v : Value} {α : Type} {enc : α → List Value} {xs : List α} (h : IsQ w e v enc xs) : IsSl w v 1 enc xs := by
  obtain ⟨g, off, cap, cur, hv, hg, hc, _, hs, hx⟩ := h.row
  refine ⟨h.len, ⟨_, _, hv⟩, h.sizes, fun i hi => ⟨g, off, cap, hv, fun j u hu => ?_⟩⟩
  have hj : j < 1 := by
    have h1 := (List.getElem?_eq_some_iff.1 hu).1
    have h2 := h.sizes _ (List.getElem_mem hi)
    omega
  obtain rfl : j = 0 := by omega
  have hf := flatMap_at h.sizes i hi 0 (by omega)
  rw [hu] at hf
  have := hx _ _ hf
  rw [cell_of_row w g _ cur e (0, 0) hg]
  simpa [Nat.add_assoc] using this
theorem IsQ.cap {w : World} {e : TypeId} {v : Value} {α : Type} {enc : α → List Value} {xs : List α} (h : IsQ w e v enc xs) : capOK v := by
  obtain ⟨g, off, cap, cur, rfl, _, hc, _⟩ := h.row
  exact hc
instance (priority := 2000) HasSl.que (l : List Atom) (e : TypeId) (v : Value) (α : Type) (enc : α → List Value) (xs : List α) : HasSl (QSl e v enc xs :: l) v 1 α enc xs := ⟨fun w h => IsQ.sl (h (QSl e v enc xs) (List.mem_cons_self ..))⟩
instance (priority := 2000) HasCap.que (l : List Atom) (e : TypeId) (v : Value) (α : Type) (enc : α → List Value) (xs : List α) : HasCap (QSl e v enc xs :: l) v := ⟨fun w h => IsQ.cap (h (QSl e v enc xs) (List.mem_cons_self ..))⟩
section
variable {P : Program} {o : Oper} {n : Sz} {fl : Slots} {a : Act} {w w0 : World} {v : Value} {M : Nat → Prop} {l : List Atom} {ops : Array Oper} {d : Nat} {K : Act → World → Prop}
/-- the first ones are cut off -/
theorem HSat.cutQ {e : TypeId} {α : Type} {enc : α → List Value} {xs : List α} (H : HSat M w0 (QSl e v enc xs :: l) w) (i : Nat) (hi : i ≤ xs.length) : HSat M w0 (QSl e (subV v i xs.length 1) enc (xs.drop i) :: l) w := by
  refine H.conv (fun _ => rfl) (fun k hk => ?_) (fun hok => ?_)
  · have hq : IsQ w e v enc xs := H.ok (QSl e v enc xs) (List.mem_cons_self ..)
    obtain ⟨g, off, cap, cur, rfl, _⟩ := hq.row
    have hk : (subV (.slice (some ⟨g, off, none⟩) xs.length cap) i xs.length 1).ownBlock = some k := hk
    show (Value.slice (some ⟨g, off, none⟩) xs.length cap).ownBlock = some k
    simp only [subV] at hk
    split at hk
    · exact hk
    · have hk : ((⟨g, off, none⟩ : Addr).add (i * 1)).block = k := by simpa [Value.ownBlock] using hk
      rw [add_plain] at hk
      have hk : g = k := hk
      simp [Value.ownBlock, hk]
  · have hq : IsQ w e v enc xs := hok
    obtain ⟨g, off, cap, cur, rfl, hg, hc, hm, hs, hx⟩ := hq.row
    have hfl := flatMap_len hq.sizes
    have hd : ∀ (j : Nat) (u : Value), ((xs.drop i).flatMap enc)[j]? = some u → (xs.flatMap enc)[i + j]? = some u := fun j u hu => by
      have hs2 : ∀ x ∈ xs.take i, (enc x).length = 1 := fun x hx => hq.sizes x (List.mem_of_mem_take hx)
      have e1 : xs.flatMap enc = (xs.take i).flatMap enc ++ (xs.drop i).flatMap enc := by rw [← List.flatMap_append, List.take_append_drop]
      have e2 := flatMap_len hs2
      rw [List.length_take, Nat.min_eq_left hi, Nat.mul_one] at e2
      rw [e1, List.getElem?_append_right (by omega), e2]
      simpa using hu
    refine ⟨by rw [List.length_drop]; have := hq.len; omega, fun x hx => hq.sizes x (List.mem_of_mem_drop hx), ?_⟩
    by_cases hci : cap = i
    · subst hci
      refine ⟨g, off, 0, cur, by simp [subV], hg, by rw [List.length_drop]; omega, by omega, by omega, fun j u hu => ?_⟩
      have := (List.getElem?_eq_some_iff.1 (hd j u hu)).1
      omega
    · refine ⟨g, off + i, cap - i, cur, by simp [subV, hci, add_plain], hg, by rw [List.length_drop]; omega, by omega, by omega, fun j u hu => ?_⟩
      have := hx _ _ (hd j u hu)
      rwa [show off + (i + j) = off + i + j by omega] at this
/-- where a queue stands -/
class HasQ (l : List Atom) (v : Value) (e : outParam TypeId) (α : outParam Type) (enc : outParam (α → List Value)) (xs : outParam (List α)) (l' : outParam (Atom → List Atom)) : Prop where
  at_ : ∃ l1 l2, l = l1 ++ QSl e v enc xs :: l2 ∧ ∀ y, l' y = l1 ++ y :: l2
instance (priority := 2000) HasQ.here (l : List Atom) (e : TypeId) (v : Value) (α : Type) (enc : α → List Value) (xs : List α) : HasQ (QSl e v enc xs :: l) v e α enc xs (fun y => y :: l) := ⟨[], l, rfl, fun _ => rfl⟩
instance HasQ.there (l : List Atom) (x : Atom) (e : TypeId) (v : Value) (α : Type) (enc : α → List Value) (xs : List α) (l' : Atom → List Atom) [h : HasQ l v e α enc xs l'] : HasQ (x :: l) v e α enc xs (fun y => x :: l' y) := by
  obtain ⟨l1, l2, h1, h2⟩ := h.at_
  exact ⟨x :: l1, l2, by simp [h1], fun y => by simp [h2]⟩
/-- append of one element to a queue -/
theorem op_appendQ {T E : TypeId} {s x : Operand} {z : Value} {by_ b c : Nat} {cs : List Value} {T' : TypeId} {fz : Nat × Nat} {α : Type} {enc : α → List Value} {xs : List α} {l' : Atom → List Atom} (y : α)
    (hw : Region.wanted o (yielded ops a.tmps) = true) (hd : o.dst = some d) (hn : Nat.blt d n.n = true) (ho : o.op = .call { callee := .builtin .append, args := #[s, x], argTypes := #[T, T] }) (hT : P.underlying T = some (.slice E)) (hE : infoB P E = some (z, 1, by_)) (hz : z.cells.size = 1)
    (S : St n fl a) (H : HSat M w0 l w) (hs : ev fl s = some v) (hx : ev fl x = some (.slice (some ⟨b, 0, none⟩) 1 c)) [hB : HasRd l b (.cells cs.toArray T' fz)] [hO : HasQ l v E α enc xs l'] (hcs : cs = enc y)
    (hy : (enc y).length = 1) (h1 : ∀ u ∈ enc y, u.oneCell' = true) (hb : (xs.length + 1) * by_ ≤ 140737488355328) (hlen : xs.length + 1 ≤ 9223372036854775807)
    (k : ∀ v' a' w', St n ((d, v') :: fl) a' → HSat M w0 (l' (QSl E v' enc (xs ++ [y]))) w' → K a' w') : opw P ops o a w K := by
  obtain ⟨l1, l2, e1, e2⟩ := hO.at_
  have hok : IsQ w E v enc xs := H.ok (QSl E v enc xs) (by rw [e1]; simp)
  obtain ⟨g, off, cap, cur, rfl, hg, hc, hcm, hcs2, hxx⟩ := hok.row
  obtain ⟨i, hi, hzi, hsi, hbi⟩ := infoB_parts hE
  have hfl := flatMap_len hok.sizes
  have hcl : cur.toList.length = cur.size := Array.length_toList
  have hnews : ∀ (j : Nat) (u : Value), (enc y)[j]? = some u → w.cell? ((⟨b, 0, none⟩ : Addr).add j) = some u := fun j u hu => by rw [add_plain, H.cell hB, hcs]; simpa using hu
  have hsz : ∀ x ∈ xs ++ [y], (enc x).length = 1 := fun x hx => by
    rcases List.mem_append.1 hx with h | h
    · exact hok.sizes x h
    · simp at h; subst h; exact hy
  have hrunA : ∀ {v' : Value} {w' : World}, (Builtin.append_ #[T, T] o.type #[.slice (some ⟨g, off, none⟩) xs.length cap, .slice (some ⟨b, 0, none⟩) 1 c]).run P w = .ok v' w' → (execOp a.eval o).run P w = .ok (.value v') w' := fun hr => by
    unfold execOp; rw [ho]
    simp only [resolve, invoke, builtin, Sem.run_bind, Sem.run_pure, Result.andThen_ok, List.map_toArray, List.map_cons, List.map_nil, S.ev hs, S.ev hx, hr]
  by_cases hroom : xs.length + 1 ≤ cap
  · have hf := run_firstCells_some (P := P) w 1 1 ⟨b, 0, none⟩ 1 c (enc y) (by simpa using hy) hnews
    have hst := run_storeCells_at P g (off + xs.length) E (enc y) 0 cur w hg (by rw [hy]; omega) h1
    simp only [Nat.add_zero] at hst
    have hr : (Builtin.append_ #[T, T] o.type #[.slice (some ⟨g, off, none⟩) xs.length cap, .slice (some ⟨b, 0, none⟩) 1 c]).run P w =
        .ok (.slice (some ⟨g, off, none⟩) (xs.length + 1) cap) (w.setRow g (cur.toList.take (off + xs.length) ++ enc y ++ cur.toList.drop (off + xs.length + (enc y).length)).toArray) := by
      simp [Builtin.append_, run_underlying hT, sizeOf, typeInfo, hi, hsi, Builtin.lenOf, hroom, hf, Addr.add_lit, hst]
    refine opw_val hw (hrunA hr) ?_
    rw [hd]
    refine k _ _ _ (S.put hn _) ?_
    rw [e2]
    rw [e1] at H
    refine HSat.swap H rfl rfl ⟨rfl, rfl, rfl, by simp [World.setRow], fun q _ hq => setRow_other w g q _ (fun e => hq (by subst e; rfl)), fun q hq => ?_⟩ ⟨by simpa using hlen, hsz, g, off, cap, _, by simp, setRow_heap w g _ _ _ _ hg, by simpa using hroom, hcm, ?_, fun j u hu => ?_⟩ (fun q hq => .inl hq)
    · by_cases hqg : q = g
      · subst hqg; rw [setRow_heap w q _ _ _ _ hg]; exact Nat.le_refl 0
      · rw [setRow_other w g q _ hqg]; exact hq
    · rw [List.size_toArray, List.length_append, List.length_append, List.length_take, List.length_drop, hcl, hy]; omega
    · rw [List.flatMap_append] at hu
      simp only [List.flatMap_cons, List.flatMap_nil, List.append_nil] at hu
      simp only [List.getElem?_toArray]
      have hct : (cur.toList.take (off + xs.length)).length = off + xs.length := by rw [List.length_take, hcl]; omega
      by_cases hj : j < xs.length
      · rw [List.getElem?_append_left (by omega)] at hu
        rw [List.append_assoc, List.getElem?_append_left (by omega), List.getElem?_take, if_pos (by omega), Array.getElem?_toList]
        exact hxx j u hu
      · rw [List.getElem?_append_right (by omega)] at hu
        have hju := (List.getElem?_eq_some_iff.1 hu).1
        rw [List.append_assoc, List.getElem?_append_right (by omega), hct, List.getElem?_append_left (by omega)]
        rw [show off + j - (off + xs.length) = j - (xs.flatMap enc).length by omega]
        exact hu
  · have holds : ∀ (j : Nat) (u : Value), (xs.flatMap enc)[j]? = some u → w.cell? ((⟨g, off, none⟩ : Addr).add j) = some u := fun j u hu => by
      rw [add_plain, cell_of_row w g _ cur E (0, 0) hg]; exact hxx j u hu
    have hr := run_append_grow (P := P) w T o.type E i z hT hi hzi ⟨g, off, none⟩ xs.length cap (xs.flatMap enc) (by rw [hsi]; omega) holds ⟨b, 0, none⟩ 1 c (enc y) (by rw [hsi, hy]) hnews (by omega) (by omega) (by rw [hbi]; exact growslice_fits (by omega) hb)
    refine opw_val hw (hrunA hr) ?_
    rw [hd]
    refine k _ _ _ (S.put hn _) ?_
    rw [e2]
    rw [e1] at H
    have hge := grownCap_ge w (xs.length + 1) cap E
    have hle := grownCap_le_maxLen w (xs.length + 1) cap E (by unfold maxLen; omega)
    have hnewb : ∀ cs2 : Array Value, (w.drew.alloc (.cells cs2 E)).heap[w.heap.size]? = some (.cells cs2 E (0, 0)) := fun cs2 => heap_new w.drew _
    refine HSat.swap H rfl rfl (((Ext.drew w).trans (Ext.alloc_cells w.drew _ E)).fr _) ⟨by simpa using hlen, hsz, w.heap.size, 0, _, _, by simp, hnewb _, by simpa using hge, hle, ?_, fun j u hu => ?_⟩ (fun q hq => ?_)
    · rw [Array.size_append, Array.size_append, size_zeroCells, hz, List.size_toArray, List.size_toArray, hfl, hy]; omega
    · rw [List.flatMap_append] at hu
      simp only [List.flatMap_cons, List.flatMap_nil, List.append_nil] at hu
      have hju := (List.getElem?_eq_some_iff.1 hu).1
      rw [Nat.zero_add, Array.getElem?_append_left (by simpa using hju)]
      simpa using hu
    · have hq : (Value.slice (some ⟨w.heap.size, 0, none⟩) _ _).ownBlock = some q := hq
      simp only [Value.ownBlock, Option.some.injEq] at hq
      exact .inr (by omega)
end
end Go.Gw
