/- Slices of the call's own: made, built, appended to. No condition. -/
import Derived.Test.YtngocpdmlijnfaaDoorGwMore
namespace Go.Gw
set_option linter.unusedVariables false
set_option linter.unusedSimpArgs false
/-- v is a slice of the call's own (or nil) over elements of type e, which hold xs; it may be appended to -/
structure IsOSl (w : World) (e : TypeId) (v : Value) (sz : Nat) {α : Type} (enc : α → List Value) (xs : List α) : Prop where
  row : w.ownsRow 0 e sz v xs.length (xs.flatMap enc)
  len : xs.length ≤ 9223372036854775807
  sizes : ∀ x ∈ xs, (enc x).length = sz
def OSl (e : TypeId) (v : Value) (sz : Nat) {α : Type} (enc : α → List Value) (xs : List α) : Atom where
  own := true
  fp := fun k => v.ownBlock = some k
  ok := fun w => IsOSl w e v sz enc xs
  loc := fun w w' h hok => ⟨by
    refine ⟨hok.row.1, ?_⟩
    rcases hok.row.2 with hn | ⟨g, cap, cur, hv, hb, hg, r⟩
    · exact .inl hn
    · exact .inr ⟨g, cap, cur, hv, hb, by rw [h g (by rw [hv]; rfl)]; exact hg, r⟩, hok.len, hok.sizes⟩
  lt := fun w b hok hb => (hok.row.lt b hb).2
theorem flatMap_at {α : Type} {enc : α → List Value} {sz : Nat} : ∀ {xs : List α} (hs : ∀ x ∈ xs, (enc x).length = sz) (i : Nat) (hi : i < xs.length) (j : Nat), j < sz → (xs.flatMap enc)[i * sz + j]? = (enc xs[i])[j]?
  | [], _, i, hi, _, _ => by simp at hi
  | x :: r, hs, 0, _, j, hj => by
    have := hs x (by simp)
    simp only [List.flatMap_cons, Nat.zero_mul, Nat.zero_add, List.getElem_cons_zero]
    rw [List.getElem?_append_left (by omega)]
  | x :: r, hs, i + 1, hi, j, hj => by
    have h0 := hs x (by simp)
    have ih := flatMap_at (xs := r) (fun y hy => hs y (by simp [hy])) i (by simpa using hi) j hj
    have e : (i + 1) * sz + j = sz + (i * sz + j) := by rw [Nat.add_mul]; omega
    simp only [List.flatMap_cons, List.getElem_cons_succ]
    rw [e, ← h0, List.getElem?_append_right (by omega)]
    rw [h0]
    simpa using ih
theorem flatMap_len {α : Type} {enc : α → List Value} {sz : Nat} : ∀ {xs : List α} (hs : ∀ x ∈ xs, (enc x).length = sz), (xs.flatMap enc).length = xs.length * sz
  | [], _ => by simp
  | x :: r, hs => by
    have ih := flatMap_len (xs := r) (fun y hy => hs y (by simp [hy]))
    simp only [List.flatMap_cons, List.length_append, ih, hs x (by simp), List.length_cons, Nat.add_mul]
    omega
theorem IsOSl.sl {w : World} {e : TypeId} {v : Value} {sz : Nat} {α : Type} {enc : α → List Value} {xs : List α} (h : IsOSl w e v sz enc xs) : IsSl w v sz enc xs := by
  refine ⟨h.len, ?_, h.sizes, fun i hi => ?_⟩
  · rcases h.row.2 with ⟨rfl, hn⟩ | ⟨g, cap, cur, rfl, _⟩
    · exact ⟨none, 0, by rw [hn]⟩
    · exact ⟨_, _, rfl⟩
  · rcases h.row.2 with ⟨rfl, hn⟩ | ⟨g, cap, cur, rfl, _, hg, hnc, _, hcs, ht⟩
    · omega
    · refine ⟨g, 0, cap, rfl, fun j u hu => ?_⟩
      have hj : j < sz := by
        have h1 := (List.getElem?_eq_some_iff.1 hu).1
        have h2 := h.sizes _ (List.getElem_mem hi)
        omega
      rw [cell_of_row w g _ cur e (0, 0) hg]
      have hf := flatMap_at h.sizes i hi j hj
      rw [hu, ← ht, List.getElem?_take] at hf
      split at hf
      · simpa using hf
      · cases hf
instance (priority := 2000) HasSl.own (l : List Atom) (e : TypeId) (v : Value) (sz : Nat) (α : Type) (enc : α → List Value) (xs : List α) : HasSl (OSl e v sz enc xs :: l) v sz α enc xs := ⟨fun w h => IsOSl.sl (h (OSl e v sz enc xs) (List.mem_cons_self ..))⟩
instance (priority := 2000) HasSl.ownRo (l : List Atom) (e : TypeId) (v : Value) (sz : Nat) (α : Type) (enc : α → List Value) (xs : List α) : HasSl (Atom.ro (OSl e v sz enc xs) :: l) v sz α enc xs := ⟨fun w h => IsOSl.sl (h (Atom.ro (OSl e v sz enc xs)) (List.mem_cons_self ..))⟩
/-- where the own slice v stands in the list -/
class HasO (l : List Atom) (v : Value) (e : outParam TypeId) (sz : outParam Nat) (α : outParam Type) (enc : outParam (α → List Value)) (xs : outParam (List α)) (l' : outParam (Atom → List Atom)) : Prop where
  at_ : ∃ l1 l2, l = l1 ++ OSl e v sz enc xs :: l2 ∧ ∀ y, l' y = l1 ++ y :: l2
instance (priority := 2000) HasO.here (l : List Atom) (e : TypeId) (v : Value) (sz : Nat) (α : Type) (enc : α → List Value) (xs : List α) : HasO (OSl e v sz enc xs :: l) v e sz α enc xs (fun y => y :: l) := ⟨[], l, rfl, fun _ => rfl⟩
instance HasO.there (l : List Atom) (x : Atom) (e : TypeId) (v : Value) (sz : Nat) (α : Type) (enc : α → List Value) (xs : List α) (l' : Atom → List Atom) [h : HasO l v e sz α enc xs l'] : HasO (x :: l) v e sz α enc xs (fun y => x :: l' y) := by
  obtain ⟨l1, l2, h1, h2⟩ := h.at_
  exact ⟨x :: l1, l2, by simp [h1], fun y => by simp [h2]⟩
/-- an atom gives way to another: its blocks alone have been written, new blocks made -/
theorem HSat.swap {M : Nat → Prop} {w0 w w' : World} {l1 l2 : List Atom} {x y : Atom} (H : HSat M w0 (l1 ++ x :: l2) w) (hx : x.own = true) (hy : y.own = true) (hf : Fr x.fp w w') (hok : y.ok w') (hn : ∀ b, y.fp b → x.fp b ∨ w.heap.size ≤ b) : HSat M w0 (l1 ++ y :: l2) w' := by
  have p : (l1 ++ x :: l2).Perm ([x] ++ (l1 ++ l2)) := List.perm_middle
  have H1 := H.perm p
  have H2 : HSat x.fp w [y] w' := ⟨hf, by intro z hz; simp at hz; subst hz; exact hok, by intro z hz _ b hb; simp at hz; subst hz; exact hn b hb, List.pairwise_singleton _ _⟩
  have H3 := HSat.callM H1 H2 (fun k hk => ⟨x, by simp, hx, hk⟩) (by intro z hz b hb; simp at hz; subst hz; exact hn b hb)
  exact H3.perm (show (y :: (l1 ++ l2)).Perm (l1 ++ y :: l2) from List.perm_middle.symm)
/-- zero value, cells and bytes of an element type -/
def infoB (P : Program) (E : TypeId) : Option (Value × Nat × Nat) := (P.info? E).bind fun i => i.zero.map fun z => (z, i.size, i.bytes)
section
variable {P : Program} {o : Oper} {n : Sz} {fl : Slots} {a : Act} {w w0 : World} {v : Value} {M : Nat → Prop} {l : List Atom} {ops : Array Oper} {d : Nat} {K : Act → World → Prop}
theorem infoB_parts {E : TypeId} {z : Value} {sz by_ : Nat} (h : infoB P E = some (z, sz, by_)) : ∃ i, P.info? E = some i ∧ i.zero = some z ∧ i.size = sz ∧ i.bytes = by_ := by
  unfold infoB at h
  cases hi : P.info? E with
  | none => rw [hi] at h; cases h
  | some i =>
    rw [hi] at h
    cases hz : i.zero with
    | none => rw [Option.bind_some, hz] at h; cases h
    | some z' =>
      simp only [Option.bind_some, hz, Option.map_some, Option.some.injEq, Prod.mk.injEq] at h
      exact ⟨i, rfl, by rw [hz, h.1], h.2.1, h.2.2⟩
theorem HSat.nilO (H : HSat M w0 l w) (e : TypeId) (sz : Nat) {α : Type} (enc : α → List Value) : HSat M w0 (OSl e (.slice none 0 0) sz enc [] :: l) w := by
  refine ⟨H.fr, fun x hx => ?_, fun x hx ho b hb => ?_, List.pairwise_cons.2 ⟨fun y hy ho b hb => ?_, H.sep⟩⟩
  · rcases List.mem_cons.1 hx with rfl | hx
    · exact ⟨World.ownsRow_nil w 0 e sz, by simp, by simp⟩
    · exact H.ok x hx
  · rcases List.mem_cons.1 hx with rfl | hx
    · simp [OSl, Value.ownBlock] at hb
    · exact H.mine x hx ho b hb
  · simp [OSl, Value.ownBlock] at hb
/-- what append does to a slice of the call's own -/
theorem run_append_at {T ty E : TypeId} {z : Value} {sz by_ : Nat} (hT : P.underlying T = some (.slice E)) (hE : infoB P E = some (z, sz, by_)) (hz : z.cells.size = sz) (hsz : 0 < sz)
    {α : Type} {enc : α → List Value} {xs ys : List α} (ho : IsOSl w E v sz enc xs) (hy : ∀ y ∈ ys, (enc y).length = sz) (h1 : ∀ y ∈ ys, ∀ u ∈ enc y, u.oneCell' = true)
    (ad : Addr) (c : Nat) (hnews : ∀ j u, (ys.flatMap enc)[j]? = some u → w.cell? (ad.add j) = some u) (hb : (xs.length + ys.length) * by_ ≤ 140737488355328) (hlen : xs.length + ys.length ≤ 9223372036854775807) (hne : ys ≠ []) :
    ∃ v' w', (Builtin.append_ #[T, T] ty #[v, .slice (some ad) ys.length c]).run P w = .ok v' w' ∧ IsOSl w' E v' sz enc (xs ++ ys) ∧ Fr (fun k => v.ownBlock = some k) w w' ∧ (∀ b, v'.ownBlock = some b → v.ownBlock = some b ∨ w.heap.size ≤ b) ∧ v' ≠ .slice none 0 0 := by
  obtain ⟨i, hi, hzi, hsi, hbi⟩ := infoB_parts hE
  have hl : (ys.flatMap enc).length = ys.length * sz := flatMap_len hy
  have hpos : 0 < ys.length := List.length_pos_iff.2 hne
  obtain ⟨v', w', hr, hown, hgr, hnil⟩ := run_append_own (P := P) w 0 T ty E i z sz by_ hT hi hzi hsi hbi hz hsz v xs.length (xs.flatMap enc) ho.row ad ys.length c (ys.flatMap enc) hl hnews
    (fun u hu => by obtain ⟨y, hy1, hy2⟩ := List.mem_flatMap.1 hu; exact h1 y hy1 u hy2) (by unfold maxLen; omega) hb (Nat.zero_le _)
  refine ⟨v', w', hr, ⟨by simpa using hown, by simpa using hlen, fun x hx => (List.mem_append.1 hx).elim (ho.sizes x) (hy x)⟩, ⟨hgr.os, hgr.tape, hgr.output, hgr.size, fun k hk hM => hgr.block k hk (fun e => hM e.symm), ?_⟩, ?_, fun e => ?_⟩
  · rcases ho.row.2 with ⟨rfl, hn⟩ | ⟨g, cap, cur, rfl, _, hg, hnc, hcm, hcs, ht⟩
    · have hr2 := run_append_nil (P := P) w T ty E i z hT hi hzi ad ys.length c (ys.flatMap enc) (by rw [hsi]; exact hl) hnews hpos (by omega) (by rw [hbi]; rw [hn] at hb; simp only [Nat.zero_add] at hb; omega)
      rw [hr2] at hr
      cases hr
      exact ((Ext.drew w).trans (Ext.alloc_cells _ _ _)).thaw
    · by_cases hroom : xs.length + ys.length ≤ cap
      · have hfit : xs.length * i.size + (ys.flatMap enc).length ≤ cur.size := by rw [hl, hcs, hsi, ← Nat.add_mul]; exact Nat.mul_le_mul_right _ hroom
        have hr2 := run_append_room (P := P) w T ty E i hT hi g xs.length cap cur hg ad ys.length c (ys.flatMap enc) (by rw [hsi]; exact hl) hnews (fun u hu => by obtain ⟨y, hy1, hy2⟩ := List.mem_flatMap.1 hu; exact h1 y hy1 u hy2) hroom hfit
        rw [hr2] at hr
        cases hr
        intro k _ hk
        by_cases hkg : k = g
        · subst hkg; rw [setRow_heap w k _ _ _ _ hg]; exact Nat.le_refl 0
        · rw [setRow_other w g k _ hkg]; exact hk
      · have holds : ∀ j u, (xs.flatMap enc)[j]? = some u → w.cell? ((⟨g, 0, none⟩ : Addr).add j) = some u := ho.row.cells (g := g) rfl
        have hr2 := run_append_grow (P := P) w T ty E i z hT hi hzi ⟨g, 0, none⟩ xs.length cap (xs.flatMap enc) (by rw [hsi]; exact flatMap_len ho.sizes) holds ad ys.length c (ys.flatMap enc) (by rw [hsi]; exact hl) hnews (by omega) (by omega) (by rw [hbi]; exact growslice_fits (by omega) hb)
        rw [hr2] at hr
        cases hr
        exact ((Ext.drew w).trans (Ext.alloc_cells _ _ _)).thaw
  · intro b hb'
    rcases ho.row.2 with ⟨rfl, hn⟩ | ⟨g, cap, cur, rfl, _, hg, hnc, hcm, hcs, ht⟩
    · have hx : xs.flatMap enc = [] := by have := ho.row.1; rw [hn] at this; exact List.eq_nil_of_length_eq_zero (by simpa using this)
      have hr2 := run_append_nil (P := P) w T ty E i z hT hi hzi ad ys.length c (ys.flatMap enc) (by rw [hsi]; exact hl) hnews hpos (by omega) (by rw [hbi]; rw [hn] at hb; simp only [Nat.zero_add] at hb; omega)
      rw [hr2] at hr
      cases hr
      simp only [Value.ownBlock, Option.some.injEq] at hb'
      exact .inr (by omega)
    · by_cases hroom : xs.length + ys.length ≤ cap
      · have hfit : xs.length * i.size + (ys.flatMap enc).length ≤ cur.size := by rw [hl, hcs, hsi, ← Nat.add_mul]; exact Nat.mul_le_mul_right _ hroom
        have hr2 := run_append_room (P := P) w T ty E i hT hi g xs.length cap cur hg ad ys.length c (ys.flatMap enc) (by rw [hsi]; exact hl) hnews (fun u hu => by obtain ⟨y, hy1, hy2⟩ := List.mem_flatMap.1 hu; exact h1 y hy1 u hy2) hroom hfit
        rw [hr2] at hr
        cases hr
        exact .inl hb'
      · have holds : ∀ j u, (xs.flatMap enc)[j]? = some u → w.cell? ((⟨g, 0, none⟩ : Addr).add j) = some u := ho.row.cells (g := g) rfl
        have hr2 := run_append_grow (P := P) w T ty E i z hT hi hzi ⟨g, 0, none⟩ xs.length cap (xs.flatMap enc) (by rw [hsi]; exact flatMap_len ho.sizes) holds ad ys.length c (ys.flatMap enc) (by rw [hsi]; exact hl) hnews (by omega) (by omega) (by rw [hbi]; exact growslice_fits (by omega) hb)
        rw [hr2] at hr
        cases hr
        simp only [Value.ownBlock, Option.some.injEq] at hb'
        exact .inr (by omega)
  · have := (hnil.1 e).2
    omega
/-- append of the elements that a literal slice holds -/
theorem op_append {T E : TypeId} {s x : Operand} {z : Value} {sz by_ b c : Nat} {cs : List Value} {T' : TypeId} {fz : Nat × Nat} {α : Type} {enc : α → List Value} {xs : List α} {l' : Atom → List Atom} {m : Nat} (ys : List α)
    (hw : Region.wanted o (yielded ops a.tmps) = true) (hd : o.dst = some d) (hn : Nat.blt d n.n = true) (ho : o.op = .call { callee := .builtin .append, args := #[s, x], argTypes := #[T, T] }) (hT : P.underlying T = some (.slice E)) (hE : infoB P E = some (z, sz, by_)) (hz : z.cells.size = sz) (hsz : Nat.blt 0 sz = true)
    (S : St n fl a) (H : HSat M w0 l w) (hs : ev fl s = some v) (hx : ev fl x = some (.slice (some ⟨b, 0, none⟩) m c)) [hB : HasRd l b (.cells cs.toArray T' fz)] [hO : HasO l v E sz α enc xs l'] (hm : ys.length = m) (hcs : cs = ys.flatMap enc) (hne : ys ≠ [])
    (hy : ∀ y ∈ ys, (enc y).length = sz) (h1 : ∀ y ∈ ys, ∀ u ∈ enc y, u.oneCell' = true) (hb : (xs.length + ys.length) * by_ ≤ 140737488355328) (hlen : xs.length + ys.length ≤ 9223372036854775807)
    (k : ∀ v' a' w', v' ≠ .slice none 0 0 → St n ((d, v') :: fl) a' → HSat M w0 (l' (OSl E v' sz enc (xs ++ ys))) w' → K a' w') : opw P ops o a w K := by
  obtain ⟨l1, l2, e1, e2⟩ := hO.at_
  have hok : IsOSl w E v sz enc xs := H.ok (OSl E v sz enc xs) (by rw [e1]; simp)
  obtain ⟨v', w', hr, hown, hfr, hnew, hnn⟩ := run_append_at (P := P) (ty := o.type) hT hE hz (by simpa using hsz) hok hy h1 ⟨b, 0, none⟩ c (fun j u hu => by rw [add_plain, H.cell hB, hcs]; simpa using hu) hb hlen hne
  have hrun : (execOp a.eval o).run P w = .ok (.value v') w' := by
    unfold execOp; rw [ho]
    subst hm
    simp only [resolve, invoke, builtin, Sem.run_bind, Sem.run_pure, Result.andThen_ok, List.map_toArray, List.map_cons, List.map_nil, S.ev hs, S.ev hx, hr]
  refine opw_val hw hrun ?_
  rw [hd]
  refine k v' _ w' hnn (S.put hn v') ?_
  rw [e2]
  rw [e1] at H
  exact HSat.swap H rfl rfl hfr hown hnew
/-- a literal slice -/
theorem op_buildSlice {T E : TypeId} {parts : Array (Nat × Operand)} {vs cs z : List Value} {zv : Value} {m sz by_ : Nat} {idx : List Nat} (hw : Region.wanted o (yielded ops a.tmps) = true) (hd : o.dst = some d) (hn : Nat.blt d n.n = true) (ho : o.op = .buildSlice T m parts) (hT : P.underlying T = some (.slice E)) (hE : infoB P E = some (zv, sz, by_))
    (S : St n fl a) (H : HSat M w0 l w) (hi : parts.toList.map (·.1) = idx) (hv : evs fl (parts.toList.map (·.2)) = some vs) (hsmall : Nat.ble (m * sz) 16777216 = true) (hz : ((Array.range (m * sz)).map (zv.cells[· % zv.cells.size]!)).toList = z)
    (hf : Instr.fill (fun i => some (i * sz, sz)) z.toArray (idx.zip vs) = some cs.toArray)
    (k : ∀ b a' w', St n ((d, .slice (some ⟨b, 0, none⟩) m m) :: fl) a' → HSat M w0 (Cel b E cs :: l) w' → K a' w') : opw P ops o a w K := by
  obtain ⟨i, hinf, hzi, hsi, hbi⟩ := infoB_parts hE
  have hp := parts_of S hi hv
  have hsm : m * sz ≤ 16777216 := by simpa using hsmall
  have hrun : (execOp a.eval o).run P w = .ok (.value (.slice (some ⟨w.heap.size, 0, none⟩) m m)) (w.alloc (.cells cs.toArray E)) := by
    unfold execOp; rw [ho]
    have hp' : (parts.map fun (i, x) => (i, a.eval x)).toList = idx.zip vs := by rw [← hp]; simp
    subst hz
    have hzv : (zeroValue E).run P w = .ok zv w := by simp [zeroValue, typeInfo, hinf, hzi]
    have hsz' : (sizeOf E).run P w = .ok sz w := by simp [sizeOf, typeInfo, hinf, hsi]
    have hno : ¬ (m * sz > 2 ^ 24) := by omega
    simp only [Array.toArray_toList] at hf
    by_cases h0 : m * sz = 0
    · have hf' : Instr.fill (fun i => some (i * sz, sz)) ((Array.range (m * sz)).map ((#[] : Array Value)[· % (#[] : Array Value).size]!)) (idx.zip vs) = some cs.toArray := by
        have e1 : ∀ f : Nat → Value, (Array.range (m * sz)).map f = #[] := fun f => by rw [h0]; simp
        rw [e1] at hf ⊢; exact hf
      simp only [Instr.buildSlice, Sem.run_bind, run_underlying hT, Result.andThen_ok, hsz', if_neg hno, if_pos h0, Sem.run_pure, hp', hf']
      simp [newRow, newObj, Sem.run]
    · simp only [Instr.buildSlice, Sem.run_bind, run_underlying hT, Result.andThen_ok, hsz', if_neg hno, if_neg h0, Sem.run_pure, hzv, hp', hf]
      simp [newRow, newObj, Sem.run]
  refine opw_val hw hrun ?_
  rw [hd]; exact k _ _ _ (S.put hn _) (H.alloc _ (Nat.le_refl 0))
end
end Go.Gw
