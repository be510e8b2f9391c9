/- One element put into an own slice, in place or in a new one; structs compared; a function of the model's own. No condition. -/
import Derived.Test.YtcgpbalpihkiiaaGwDel
import Derived.Lib.Overlaps
import Derived.Lib.AppendZerosOnto
import Derived.Laws.NewBlocks
namespace Go.Gw
set_option linter.unusedVariables false
set_option linter.unusedSimpArgs false
section
variable {P : Program} {o : Oper} {n : Sz} {fl : Slots} {a : Act} {w w0 : World} {v : Value} {M : Nat → Prop} {l : List Atom} {ops : Array Oper} {d : Nat} {K : Act → World → Prop}
/-- two structs: h says whether they are equal -/
theorem y_eqa {T U : TypeId} {x y : Operand} {xs ys : List Value} {b : Bool} (h : ∀ w, (Op.equalIn 10000 T (.agg xs.toArray) (.agg ys.toArray)).run P w = .ok b w) (ho : o.op = .binOp .eql T x y U) (hg : P.eqGuardType P.depth T = false) (S : St n fl a) (hx : ev fl x = some (.agg xs.toArray)) (hy : ev fl y = some (.agg ys.toArray)) : Yld P o a w (.bool b) := by
  unfold Yld execOp; rw [ho]
  simp only [S.ev hx, S.ev hy, Sem.run_bind, run_eqGuard_agg w _ T _ _ _ _ hg, Result.andThen_ok, run_eql_struct, h, Sem.run_pure]
theorem y_nea {T U : TypeId} {x y : Operand} {xs ys : List Value} {b : Bool} (h : ∀ w, (Op.equalIn 10000 T (.agg xs.toArray) (.agg ys.toArray)).run P w = .ok b w) (ho : o.op = .binOp .neq T x y U) (hg : P.eqGuardType P.depth T = false) (S : St n fl a) (hx : ev fl x = some (.agg xs.toArray)) (hy : ev fl y = some (.agg ys.toArray)) : Yld P o a w (.bool (!b)) := by
  unfold Yld execOp; rw [ho]
  simp only [S.ev hx, S.ev hy, Sem.run_bind, run_eqGuard_agg w _ T _ _ _ _ hg, Result.andThen_ok, run_neq_struct, h, Sem.run_pure]
theorem y_extern {f : FuncId} {xs : Array Operand} {at_ : Array TypeId} {vs : List Value} (ho : o.op = .call { callee := .value (.func f), args := xs, argTypes := at_ }) (S : St n fl a) (hx : evs fl xs.toList = some vs) (he : (callFunc f vs.toArray).run P w = .ok (.value v) w) : Yld P o a w v := by
  have h := S.evs hx
  have h2 : xs.map a.eval = vs.toArray := by rw [← h, ← Array.toList_map]
  unfold Yld execOp; rw [ho]
  simp only [resolve, Act.eval, Deferred.ofValue, h2]
  simpa [invoke] using he
theorem y_cap {x : Operand} {T E : TypeId} {p : Option Addr} {m c : Nat} (ho : o.op = .call { callee := .builtin .cap, args := #[x], argTypes := #[T] }) (hT : P.underlying T = some (.slice E)) (S : St n fl a) (hx : ev fl x = some (.slice p m c)) : Yld P o a w (.int .i64 (c : Int)) := by
  unfold Yld execOp; rw [ho]; simp [resolve, invoke, builtin, S.ev hx, Builtin.cap_, goInt, run_underlying hT]
/-- v[i:] of a slice whose place is known -/
theorem y_sliceX {T E : TypeId} {x lo : Operand} {k : IntKind} {g off m c i sz : Nat} (ho : o.op = .slice T x (some lo) none none) (hT : P.underlying T = some (.slice E)) (hE : sizeB P E sz = true) (S : St n fl a)
    (hx : ev fl x = some (.slice (some ⟨g, off, none⟩) m c)) (hl : ev fl lo = some (.int k (i : Int))) (h1 : i ≤ m) (h2 : m ≤ c) (h3 : i < c) : Yld P o a w (.slice (some ⟨g, off + i * sz, none⟩) (m - i) (c - i)) := by
  unfold Yld execOp; rw [ho]
  simp only [Option.map_some, Option.map_none, S.ev hx, S.ev hl]
  have hT' : P.underlying T = some (.slice (P.elem T)) := by rw [elem_of hT]; exact hT
  have hsz : (sizeOf (P.elem T)).run P w = .ok sz w := by rw [elem_of hT]; exact run_sizeOf_agg (sizeB_size hE)
  have hne : c ≠ i := by omega
  simp only [Sem.run_bind, run_sliceAt_slice (P := P) w T _ _ _ _ hT', run_slice_l (P := P) w T _ m c hT' k i (by omega) (by omega), hsz, Result.andThen_ok, Sem.run_pure]
  simp [sliced, hne, add_plain]
/-- v[:j] of a slice whose place is known; beyond its length, too -/
theorem y_sliceY {T E : TypeId} {x hi : Operand} {k : IntKind} {p : Option Addr} {m c j sz : Nat} (ho : o.op = .slice T x none (some hi) none) (hT : P.underlying T = some (.slice E)) (hE : sizeB P E sz = true) (S : St n fl a)
    (hx : ev fl x = some (.slice p m c)) (hh : ev fl hi = some (.int k (j : Int))) (h1 : j ≤ c) : Yld P o a w (.slice p j c) := by
  unfold Yld execOp; rw [ho]
  simp only [Option.map_some, Option.map_none, S.ev hx, S.ev hh]
  have hT' : P.underlying T = some (.slice (P.elem T)) := by rw [elem_of hT]; exact hT
  have hsz : (sizeOf (P.elem T)).run P w = .ok sz w := by rw [elem_of hT]; exact run_sizeOf_agg (sizeB_size hE)
  simp only [Sem.run_bind, run_sliceAt_slice (P := P) w T _ _ _ _ hT', run_slice_h (P := P) w T _ m c hT' k j (by omega) (by omega), hsz, Result.andThen_ok, Sem.run_pure]
  cases p <;> simp [sliced, add_plain, Addr.add]
/-- an own slice's cells -/
theorem IsOSl.cells {E : TypeId} {sz g m c : Nat} {α : Type} {enc : α → List Value} {xs : List α} (h : IsOSl w E (.slice (some ⟨g, 0, none⟩) m c) sz enc xs) (i j : Nat) (u : Value) (hi : i ≤ xs.length) (hu : ((xs.drop i).flatMap enc)[j]? = some u) : w.cell? ⟨g, i * sz + j, none⟩ = some u := by
  rcases h.row.2 with ⟨e, _⟩ | ⟨g', cap, cur, e, _, hg, hnc, hmax, hcs, ht⟩
  · cases e
  · simp only [Value.slice.injEq, Option.some.injEq, Addr.mk.injEq, and_true, true_and] at e
    obtain ⟨rfl, rfl, rfl⟩ := e
    rw [cell_of_row w g _ cur E (0, 0) hg]
    rw [← flat_drop h.sizes i hi, List.getElem?_drop, ← ht, List.getElem?_take] at hu
    split at hu
    · simpa using hu
    · cases hu
theorem IsOSl.cellsT {E : TypeId} {sz g m c : Nat} {α : Type} {enc : α → List Value} {xs : List α} (h : IsOSl w E (.slice (some ⟨g, 0, none⟩) m c) sz enc xs) (k j : Nat) (u : Value) (hk : k ≤ xs.length) (hu : ((xs.take k).flatMap enc)[j]? = some u) : w.cell? ⟨g, j, none⟩ = some u := by
  have := h.cells 0 j u (Nat.zero_le _) (by
    rw [List.drop_zero]
    rw [← flat_take h.sizes k hk, List.getElem?_take] at hu
    split at hu
    · exact hu
    · cases hu)
  simpa using this
theorem HSat.hd {x : Atom} (H : HSat M w0 (x :: l) w) : x.ok w := H.ok x (List.mem_cons_self ..)
theorem HSat.ownG {E : TypeId} {sz : Nat} {α : Type} {enc : α → List Value} {xs : List α} (H : HSat M w0 (OSl E v sz enc xs :: l) w) (hne : 0 < xs.length) : ∃ g c, v = .slice (some ⟨g, 0, none⟩) xs.length c ∧ xs.length ≤ c := by
  have h : IsOSl w E v sz enc xs := H.hd
  rcases h.row.2 with ⟨_, e⟩ | ⟨g, c, cur, e, _, _, hnc, _⟩
  · omega
  · exact ⟨g, c, e, hnc⟩
/-- elements written from place i on -/
theorem IsOSl.write {E : TypeId} {sz g m c : Nat} {α : Type} {enc : α → List Value} {xs : List α} (h : IsOSl w E (.slice (some ⟨g, 0, none⟩) m c) sz enc xs) (i : Nat) (ys : List α) (hy : ∀ y ∈ ys, (enc y).length = sz) (hi : i ≤ xs.length) (hf : i + ys.length ≤ c) :
    ∃ cur : Array Value, w.heap[g]? = some (.cells cur E (0, 0)) ∧ cur.size = c * sz ∧ m = xs.length ∧ IsOSl (w.setRow g (cur.toList.take (i * sz) ++ ys.flatMap enc ++ cur.toList.drop (i * sz + (ys.flatMap enc).length)).toArray) E (.slice (some ⟨g, 0, none⟩) (max xs.length (i + ys.length)) c) sz enc (xs.take i ++ ys ++ xs.drop (i + ys.length)) := by
  rcases h.row.2 with ⟨e, _⟩ | ⟨g', cap, cur, e, _, hg, hnc, hmax, hcs, ht⟩
  · cases e
  · simp only [Value.slice.injEq, Option.some.injEq, Addr.mk.injEq, and_true, true_and] at e
    obtain ⟨rfl, rfl, rfl⟩ := e
    refine ⟨cur, hg, hcs, rfl, ?_⟩
    have hL : (xs.take i ++ ys ++ xs.drop (i + ys.length)).length = max xs.length (i + ys.length) := by
      simp only [List.length_append, List.length_take, List.length_drop]; omega
    have hyl := flatMap_len (enc := enc) (sz := sz) (xs := ys) hy
    have hxl := flatMap_len (enc := enc) (sz := sz) (xs := xs) h.sizes
    have hsz : ∀ z ∈ xs.take i ++ ys ++ xs.drop (i + ys.length), (enc z).length = sz := fun z hz => by
      rcases List.mem_append.1 hz with hz | hz
      · rcases List.mem_append.1 hz with hz | hz
        · exact h.sizes z (List.mem_of_mem_take hz)
        · exact hy z hz
      · exact h.sizes z (List.mem_of_mem_drop hz)
    have hcl : cur.toList.length = c * sz := by rw [Array.length_toList, hcs]
    have m1 : i * sz + ys.length * sz ≤ c * sz := by rw [← Nat.add_mul]; exact Nat.mul_le_mul_right _ hf
    have m2 : i * sz ≤ xs.length * sz := Nat.mul_le_mul_right _ hi
    have m3 : xs.length * sz ≤ c * sz := Nat.mul_le_mul_right _ hnc
    refine ⟨⟨?_, .inr ⟨g, c, _, by rw [hL], Nat.zero_le _, setRow_heap w g _ _ _ _ hg, by rw [hL]; omega, hmax, ?_, ?_⟩⟩, by rw [hL]; have := h.len; unfold maxLen at hmax; omega, hsz⟩
    · exact flatMap_len hsz
    · simp only [List.size_toArray, List.length_append, List.length_take, List.length_drop, hcl, hyl]; omega
    · rw [hL]
      simp only [List.flatMap_append]
      have et : (xs.take i).flatMap enc = cur.toList.take (i * sz) := by
        rw [← flat_take h.sizes i hi, ← ht, List.take_take, Nat.min_eq_left m2]
      rw [et, hyl]
      rcases Nat.lt_or_ge (i + ys.length) xs.length with hlt | hge
      · have ed : (xs.drop (i + ys.length)).flatMap enc = (cur.toList.take (xs.length * sz)).drop ((i + ys.length) * sz) := by
          rw [ht, flat_drop h.sizes _ (by omega)]
        rw [ed, Nat.max_eq_left (by omega)]
        have m4 : (i + ys.length) * sz ≤ xs.length * sz := Nat.mul_le_mul_right _ (by omega)
        rw [Nat.add_mul] at m4 ⊢
        rw [List.take_append, List.take_of_length_le (by simp only [List.length_append, List.length_take, hcl, hyl]; omega), List.drop_take]
        congr 2
        simp only [List.length_append, List.length_take, hcl, hyl]; omega
      · rw [List.drop_of_length_le hge, Nat.max_eq_right hge, List.flatMap_nil, List.append_nil, Nat.add_mul]
        rw [List.take_append_of_le_length (by simp only [List.length_append, List.length_take, hcl, hyl]; omega), List.take_of_length_le (by simp only [List.length_append, List.length_take, hcl, hyl]; omega)]
/-- copy of the elements ys into an own slice, from place i on; they may stand in the same block -/
theorem op_copyE {T T2 E : TypeId} {x y : Operand} {g m c dl dc sl sc sz i j : Nat} {ad : Addr} {α : Type} {enc : α → List Value} {xs : List α} {l' : Atom → List Atom} (ys : List α) (hw : Region.wanted o (yielded ops a.tmps) = true) (hd : o.dst = some d) (hn : Nat.blt d n.n = true) (ho : o.op = .call { callee := .builtin .copy, args := #[x, y], argTypes := #[T, T2] }) (hT : P.underlying T = some (.slice E)) (hE : sizeB P E sz = true)
    (S : St n fl a) (H : HSat M w0 l w) (hx : ev fl x = some (.slice (some ⟨g, j, none⟩) dl dc)) (hy : ev fl y = some (.slice (some ad) sl sc)) [hO : HasO l (.slice (some ⟨g, 0, none⟩) m c) E sz α enc xs l'] (hj : j = i * sz)
    (hsrc : ∀ q u, (ys.flatMap enc)[q]? = some u → w.cell? (ad.add q) = some u) (hs : ∀ y ∈ ys, (enc y).length = sz) (h1 : ∀ y ∈ ys, ∀ u ∈ enc y, u.oneCell' = true) (hm : min sl dl = ys.length) (hi : i ≤ xs.length) (hf : i + ys.length ≤ c)
    (k : ∀ a' w', St n ((d, .int .i64 (ys.length : Int)) :: fl) a' → HSat M w0 (l' (OSl E (.slice (some ⟨g, 0, none⟩) (max xs.length (i + ys.length)) c) sz enc (xs.take i ++ ys ++ xs.drop (i + ys.length)))) w' → K a' w') : opw P ops o a w K := by
  obtain ⟨l1, l2, e1, e2⟩ := hO.at_
  subst hj
  have hok : IsOSl w E (.slice (some ⟨g, 0, none⟩) m c) sz enc xs := H.ok (OSl E _ sz enc xs) (by rw [e1]; simp)
  obtain ⟨cur, hg, hcs, hml, hnew⟩ := hok.write i ys hs hi hf
  have hyl := flatMap_len (enc := enc) (sz := sz) (xs := ys) hs
  have m1 : i * sz + ys.length * sz ≤ c * sz := by rw [← Nat.add_mul]; exact Nat.mul_le_mul_right _ hf
  have hst := run_storeCells_at P g (i * sz) E (ys.flatMap enc) 0 cur w hg (by rw [hyl, hcs]; omega) (fun u hu => by
    obtain ⟨y, hy, hu⟩ := List.mem_flatMap.1 hu
    exact h1 y hy u hu)
  simp only [Nat.add_zero] at hst
  have hfc := run_firstCells_some (P := P) w sz ys.length ad sl sc (ys.flatMap enc) hyl hsrc
  have hmin : Nat.min sl dl = ys.length := hm
  have hsz : (sizeOf E).run P w = .ok sz w := run_sizeOf_agg (sizeB_size hE)
  have hrun : (execOp a.eval o).run P w = .ok (.value (.int .i64 (ys.length : Int))) (w.setRow g (cur.toList.take (i * sz) ++ ys.flatMap enc ++ cur.toList.drop (i * sz + (ys.flatMap enc).length)).toArray) := by
    unfold execOp; rw [ho]
    simp only [resolve, invoke, builtin, Sem.run_bind, Sem.run_pure, Result.andThen_ok, List.map_toArray, List.map_cons, List.map_nil, S.ev hx, S.ev hy]
    simp [Builtin.copy_, run_underlying hT, Builtin.lenOf, hmin, hsz, hfc, hst, goInt]
  refine opw_val hw hrun ?_
  rw [hd]
  refine k _ _ (S.put hn _) ?_
  rw [e2]
  rw [e1] at H
  refine HSat.swap H rfl rfl ⟨rfl, rfl, rfl, by simp [World.setRow], fun q _ hq => setRow_other w g q _ (fun e => hq (by subst e; rfl)), fun q hq => ?_⟩ hnew (fun q hq => .inl hq)
  by_cases hqg : q = g
  · subst hqg; rw [setRow_heap w q _ _ _ _ hg]; exact Nat.le_refl 0
  · rw [setRow_other w g q _ hqg]; exact hq
/-- append(s[:i], make(m)...) where there is no room: a new slice -/
theorem op_appendZ {T TN E : TypeId} {s x : Operand} {z : Value} {sz by_ i m c : Nat} {kn : IntKind} {p : Option Addr} {α : Type} {enc : α → List Value} (ys : List α) (z0 : α)
    (hw : Region.wanted o (yielded ops a.tmps) = true) (hd : o.dst = some d) (hn : Nat.blt d n.n = true) (ho : o.op = .call { callee := .builtin .append, args := #[s, x], argTypes := #[T, TN] }) (hT : P.underlying T = some (.slice E)) (hTN : P.underlying TN = some (.int kn)) (hE : infoB P E = some (z, sz, by_)) (hz : z.cells.size = sz) (hsz : Nat.blt 0 sz = true) (hz0 : enc z0 = z.cells.toList)
    (S : St n fl a) (H : HSat M w0 l w) (hs : ev fl s = some (.slice p i c)) {kq : IntKind} (hx : ev fl x = some (.int kq (m : Int))) (hold : ∀ j u, (ys.flatMap enc)[j]? = some u → ∃ ad, p = some ad ∧ w.cell? (ad.add j) = some u) (hl : ys.length = i) (hp : p = none → i = 0) (hy : ∀ y ∈ ys, (enc y).length = sz) (hm : 0 < m) (hr : c < i + m) (hb : (i + m) * by_ ≤ 140737488355328) (hbig : i + m ≤ 4611686018427387904)
    (k : ∀ g c2 a' w', i + m ≤ c2 → St n ((d, .slice (some ⟨g, 0, none⟩) (i + m) c2) :: fl) a' → HSat M w0 (OSl E (.slice (some ⟨g, 0, none⟩) (i + m) c2) sz enc (ys ++ List.replicate m z0) :: l) w' → K a' w') : opw P ops o a w K := by
  obtain ⟨inf, hinf, hzi, hsi, hbi⟩ := infoB_parts hE
  have hyl := flatMap_len (enc := enc) (sz := sz) (xs := ys) hy
  have hsz' : 0 < sz := by simpa using hsz
  have hfc : (Builtin.firstCells inf.size i (.slice p i c)).run P w.drew = .ok (ys.flatMap enc).toArray w.drew := by
    rw [hsi]
    cases p with
    | none =>
      have h0 := hp rfl
      have : ys = [] := List.eq_nil_of_length_eq_zero (by omega)
      subst this
      exact run_firstCells_none w.drew sz i i c
    | some ad => exact run_firstCells_some w.drew sz i ad i c _ (by rw [hyl, hl]) (fun j u hu => by obtain ⟨ad', e, hc⟩ := hold j u hu; cases e; exact hc)
  have hgr := Lib.run_append_grow_zeros w T TN o.type E inf z kq kn hT hTN hinf hzi p i c _ hfc m hm (by rw [hsi]; exact hsz') hr (by omega) (by
    rw [hbi]
    have : m * by_ ≤ (i + m) * by_ := Nat.mul_le_mul_right _ (by omega)
    omega) (by rw [hbi]; exact growslice_fits hr hb)
  obtain ⟨G, hG⟩ : ∃ G, G = grownCap w (i + m) c E := ⟨_, rfl⟩
  have hGn : i + m ≤ G := by rw [hG]; exact grownCap_ge w _ _ _
  have hGm : G ≤ maxLen := by rw [hG]; exact grownCap_le_maxLen w (i + m) c E (by unfold maxLen; omega)
  rw [← hG] at hgr
  have hzf : (Builtin.zeroCells z.cells m).toList = (List.replicate m z0).flatMap enc := by
    have h := madeCells_flat z.cells m (by rw [hz]; exact hsz')
    have e : Builtin.zeroCells z.cells m = madeCells z.cells (m * z.cells.size) := rfl
    rw [e, h, ← hz0, List.flatMap_def, List.map_replicate]
  have hrun : (execOp a.eval o).run P w = .ok (.value (.slice (some ⟨w.heap.size, 0, none⟩) (i + m) G)) (w.drew.alloc (.cells ((ys.flatMap enc).toArray ++ Builtin.zeroCells z.cells m ++ Builtin.zeroCells z.cells (G - (i + m))) E)) := by
    unfold execOp; rw [ho]
    simp only [resolve, invoke, builtin, Sem.run_bind, Sem.run_pure, Result.andThen_ok, List.map_toArray, List.map_cons, List.map_nil, S.ev hs, S.ev hx, hgr]
  refine opw_val hw hrun ?_
  rw [hd]
  refine k _ _ _ _ hGn (S.put hn _) ?_
  have hsz2 : ∀ x ∈ ys ++ List.replicate m z0, (enc x).length = sz := fun x hx => by
    rcases List.mem_append.1 hx with h | h
    · exact hy x h
    · obtain rfl := List.eq_of_mem_replicate h; rw [hz0, Array.length_toList, hz]
  have hfl := flatMap_len hsz2
  have hrl : (List.replicate m z0).length = m := List.length_replicate
  refine HSat.call1 (H.ext (Ext.drew w)) (x := OSl E _ sz enc (ys ++ List.replicate m z0)) ⟨Ext.alloc_cells _ _ _, ?_, ?_, List.pairwise_singleton _ _⟩ rfl
  · intro q hq
    simp only [List.mem_singleton] at hq
    subst hq
    refine ⟨⟨hfl, .inr ⟨w.heap.size, G, _, by rw [List.length_append, hrl, hl], Nat.zero_le _, heap_new w.drew _, by rw [List.length_append, hrl, hl]; exact hGn, hGm, ?_, ?_⟩⟩, by rw [List.length_append, hrl, hl]; omega, hsz2⟩
    · simp only [Array.size_append, List.size_toArray, size_zeroCells, hz, hyl, hl, ← Nat.add_mul]
      congr 1; omega
    · rw [List.length_append, hrl, hl]
      simp only [Array.toList_append, List.toList_toArray]
      rw [hzf, ← List.flatMap_append, List.take_append_of_le_length (by rw [hfl, List.length_append, hrl, hl]; exact Nat.le_refl _), List.take_of_length_le (by rw [hfl, List.length_append, hrl, hl]; exact Nat.le_refl _)]
  · intro q hq _ b hb
    simp only [List.mem_singleton] at hq
    subst hq
    simp only [OSl, Value.ownBlock, Option.some.injEq] at hb
    subst hb
    exact .inr (Nat.le_refl _)
/-- an own slice cut at its end -/
theorem HSat.cutO {E : TypeId} {p : Option Addr} {m c sz : Nat} {α : Type} {enc : α → List Value} {xs : List α} (H : HSat M w0 (OSl E (.slice p m c) sz enc xs :: l) w) (hp : p ≠ none) (j : Nat) (hj : j ≤ xs.length) : HSat M w0 (OSl E (.slice p j c) sz enc (xs.take j) :: l) w := by
  refine H.conv (fun h => h) (fun b hb => ?_) (fun hok => ?_)
  · have hb : (Value.slice p j c).ownBlock = some b := hb
    cases p <;> exact hb
  · have hok : IsOSl w E (.slice p m c) sz enc xs := hok
    rcases hok.row.2 with ⟨e, _⟩ | ⟨g', cap, cur, e, _, hg, hnc, hmax, hcs, ht⟩
    · cases e; exact absurd rfl hp
    · cases e
      refine ⟨⟨flatMap_len (fun x hx => hok.sizes x (List.mem_of_mem_take hx)), .inr ⟨g', c, cur, by rw [List.length_take, Nat.min_eq_left hj], Nat.zero_le _, hg, by rw [List.length_take]; omega, hmax, hcs, ?_⟩⟩, by rw [List.length_take]; have := hok.len; omega, fun x hx => hok.sizes x (List.mem_of_mem_take hx)⟩
      rw [List.length_take, Nat.min_eq_left hj, ← flat_take hok.sizes j hj, ← ht, List.take_take, Nat.min_eq_left (Nat.mul_le_mul_right _ hj)]
/-- what the model's slices.overlaps says of a literal and an own slice -/
theorem overlaps_no {tS tR E : TypeId} {sz g m c la ca lb cb off bl : Nat} {α : Type} {enc : α → List Value} {xs : List α} {cs : List Value} {T' : TypeId} (H : HSat M w0 (OSl E (.slice (some ⟨g, 0, none⟩) m c) sz enc xs :: Cel bl T' cs :: l) w) (ht : P.underlying tS = some (.slice E)) (hE : sizeB P E sz = true) (hpos : Nat.blt 0 sz = true) (hm : 0 < c) :
    (Extern.SlicesOverlaps.overlaps #[tS, tS] #[tR] #[.slice (some ⟨bl, 0, none⟩) la ca, .slice (some ⟨g, off, none⟩) lb cb]).run P w = .ok (.bool false) w := by
  have hb := H.rd bl
  have hok : IsOSl w E (.slice (some ⟨g, 0, none⟩) m c) sz enc xs := H.ok (OSl E _ sz enc xs) (by simp)
  rcases hok.row.2 with ⟨e, _⟩ | ⟨g', cap, cur, e, _, hg, hnc, hmax, hcs, ht'⟩
  · cases e
  · simp only [Value.slice.injEq, Option.some.injEq, Addr.mk.injEq, and_true, true_and] at e
    obtain ⟨rfl, _, rfl⟩ := e
    have hne : bl ≠ g := fun e => by
      have := (List.pairwise_cons.1 H.sep).1 (Cel bl T' cs) (by simp) (.inl rfl) g rfl
      exact this e.symm
    have hsz' : 0 < sz := by simpa using hpos
    have hk : cur.size ≠ 0 := by rw [hcs]; exact Nat.ne_of_gt (Nat.mul_pos hm hsz')
    exact Lib.run_overlaps_apart w tS tR E ht sz (fun w => run_sizeOf_agg (sizeB_size hE)) ⟨bl, 0, none⟩ ⟨g, off, none⟩ la ca lb cb hne T' E cs.toArray.size cur.size (by simp [World.shape?, hb]) (by simp [World.shape?, hg]) hk (by simp [World.frozen?, hb]) (by simp [World.frozen?, hb])
/-- a struct that is a part of an element -/
theorem y_loadsfa {T : TypeId} {x : Operand} {i sz k : Nat} {vs : List Value} {α : Type} {enc : α → List Value} {xs : List α} (v : Value) (ho : o.op = .load T x) (S : St n fl a) (H : HSat M w0 l w)
    (hx : ev fl x = some (.pointer (some ((elemAddr v i sz).add k)))) [h : HasSl l v sz α enc xs] (hT : aggB P T vs.length = true) (hi : i < xs.length) (hu : ((enc xs[i]).drop k).take vs.length = vs) : Yld P o a w (.agg vs.toArray) := by
  obtain ⟨b, off, c, hv, hc⟩ := (H.sl v (h := h)).cells i hi
  refine y_load_at ho S hx (run_loadVar_agg hT (fun j u hj => ?_))
  have hl : j < vs.length := (List.getElem?_eq_some_iff.1 hj).1
  have := hc (k + j) u (by rw [← hu, List.getElem?_take, if_pos hl, List.getElem?_drop] at hj; exact hj)
  rw [hv]; simpa [elemAddr, add_plain, Nat.add_assoc] using this
/-- three results, of which the first lies in a block -/
theorem ret3ctt {fn : Func} {R : Value → World → Prop} {u s s' T b : Nat} {v1 v2 : Value} {cs : List Value} {T' : TypeId} {fz : Nat × Nat} (hr : fn.results = #[.cell u T, .tmp s, .tmp s']) (S : St n fl a) (H : HSat M w0 l w) (hu : fl.lookup u = some (.pointer (some ⟨b, 0, none⟩))) (hv1 : fl.lookup s = some v1) (hv2 : fl.lookup s' = some v2)
    [h : HasRd l b (.cells cs.toArray T' fz)] (hT : aggB P T cs.length = true) (hR : R (.tuple #[.agg cs.toArray, v1, v2]) w) (hds : n.ds = [] := by rfl) : endP P fn R .ret a w := by
  refine end_ret S hds (v := .tuple #[.agg cs.toArray, v1, v2]) ?_ hR
  have hl := run_loadVar_agg (P := P) (w := w) (p := ⟨b, 0, none⟩) hT (fun j u hu => by rw [add_plain, H.cell h]; simpa using hu)
  have hu' : a.tmps[u]?.getD undef = .pointer (some ⟨b, 0, none⟩) := by rw [← Array.getD_eq_getD_getElem?]; exact S.get u _ hu
  have h1 : a.tmps[s]?.getD undef = v1 := by rw [← Array.getD_eq_getD_getElem?]; exact S.get s _ hv1
  have h2 : a.tmps[s']?.getD undef = v2 := by rw [← Array.getD_eq_getD_getElem?]; exact S.get s' _ hv2
  simp [results, hr, hu', h1, h2, asAddr, hl]
end
end Go.Gw
