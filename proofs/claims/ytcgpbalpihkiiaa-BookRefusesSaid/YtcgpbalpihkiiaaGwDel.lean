/- One element, or some, taken out of an own slice in place: append(s[:i], s[j:]...), and the places behind the end cleared. No condition. -/
import Derived.Test.YtcgpbalpihkiiaaGwStr
namespace Go.Gw
set_option linter.unusedVariables false
set_option linter.unusedSimpArgs false
/-- k elements less -/
def shrV (v : Value) (k : Nat) : Value := match v with
  | .slice p n c => .slice p (n - k) c
  | v => v
def subM (v : Value) (i j m sz : Nat) : Value := match v with
  | .slice p _ _ => sliced p i j m sz
  | v => v
/-- the places behind the end, up to number h -/
def tailV (v : Value) (h sz : Nat) : Value := match v with
  | .slice p n c => sliced p n h c sz
  | v => v
def capAt (v : Value) (h : Nat) : Prop := match v with
  | .slice _ _ c => h ≤ c
  | _ => False
theorem flat_take {α : Type} {enc : α → List Value} {sz : Nat} {xs : List α} (hs : ∀ x ∈ xs, (enc x).length = sz) (i : Nat) (hi : i ≤ xs.length) : (xs.flatMap enc).take (i * sz) = (xs.take i).flatMap enc := by
  have e : xs.flatMap enc = (xs.take i).flatMap enc ++ (xs.drop i).flatMap enc := by rw [← List.flatMap_append, List.take_append_drop]
  have h2 := flatMap_len (enc := enc) (sz := sz) (xs := xs.take i) (fun x hx => hs x (List.mem_of_mem_take hx))
  rw [List.length_take, Nat.min_eq_left hi] at h2
  rw [e, List.take_append_of_le_length (by omega), List.take_of_length_le (by omega)]
theorem flat_drop {α : Type} {enc : α → List Value} {sz : Nat} {xs : List α} (hs : ∀ x ∈ xs, (enc x).length = sz) (i : Nat) (hi : i ≤ xs.length) : (xs.flatMap enc).drop (i * sz) = (xs.drop i).flatMap enc := by
  have e : xs.flatMap enc = (xs.take i).flatMap enc ++ (xs.drop i).flatMap enc := by rw [← List.flatMap_append, List.take_append_drop]
  have h2 := flatMap_len (enc := enc) (sz := sz) (xs := xs.take i) (fun x hx => hs x (List.mem_of_mem_take hx))
  rw [List.length_take, Nat.min_eq_left hi] at h2
  rw [e, List.drop_append_of_le_length (by omega), List.drop_of_length_le (by omega), List.nil_append]
section
variable {P : Program} {o : Oper} {n : Sz} {fl : Slots} {a : Act} {w w0 : World} {v : Value} {M : Nat → Prop} {l : List Atom} {ops : Array Oper} {d : Nat} {K : Act → World → Prop}
theorem y_slice3 {T E : TypeId} {x lo hi mx : Operand} {k k2 k3 : IntKind} {i j m : Nat} {sz : Nat} {α : Type} {enc : α → List Value} {xs : List α} (ho : o.op = .slice T x (some lo) (some hi) (some mx)) (hT : P.underlying T = some (.slice E)) (hE : sizeB P E sz = true) (S : St n fl a) (H : HSat M w0 l w)
    (hx : ev fl x = some v) (hl : ev fl lo = some (.int k (i : Int))) (hh : ev fl hi = some (.int k2 (j : Int))) (hm : ev fl mx = some (.int k3 (m : Int))) [h : HasSl l v sz α enc xs] [hc : HasCap l v] (h1 : i ≤ j) (h2 : j ≤ m) (h3 : m ≤ xs.length) : Yld P o a w (subM v i j m sz) := by
  unfold Yld execOp; rw [ho]
  simp only [Option.map_some, Option.map_none, S.ev hx, S.ev hl, S.ev hh, S.ev hm]
  obtain ⟨p, c, rfl⟩ := (H.sl v (h := h)).shape
  have hcap : xs.length ≤ c := hc.at_ w H.ok
  have hT' : P.underlying T = some (.slice (P.elem T)) := by rw [elem_of hT]; exact hT
  have hsz : (sizeOf (P.elem T)).run P w = .ok sz w := by rw [elem_of hT]; exact run_sizeOf_agg (sizeB_size hE)
  simp only [Sem.run_bind, run_sliceAt_slice (P := P) w T _ _ _ _ hT', run_slice_lhm (P := P) w T p xs.length c hT' k k2 k3 i j m (by omega) (by omega) (by omega) (by omega), hsz, Result.andThen_ok, Sem.run_pure]
  simp [subM]
theorem y_sliceT {T E : TypeId} {x lo hi : Operand} {k k2 : IntKind} {i j : Nat} {sz : Nat} {α : Type} {enc : α → List Value} {xs : List α} (ho : o.op = .slice T x (some lo) (some hi) none) (hT : P.underlying T = some (.slice E)) (hE : sizeB P E sz = true) (S : St n fl a) (H : HSat M w0 l w)
    (hx : ev fl x = some v) (hl : ev fl lo = some (.int k (i : Int))) (hh : ev fl hi = some (.int k2 (j : Int))) [h : HasSl l v sz α enc xs] (h1 : i = xs.length) (h2 : i ≤ j) (h3 : capAt v j) : Yld P o a w (tailV v j sz) := by
  unfold Yld execOp; rw [ho]
  simp only [Option.map_some, Option.map_none, S.ev hx, S.ev hl, S.ev hh]
  obtain ⟨p, c, rfl⟩ := (H.sl v (h := h)).shape
  have hcap : j ≤ c := h3
  have hT' : P.underlying T = some (.slice (P.elem T)) := by rw [elem_of hT]; exact hT
  have hsz : (sizeOf (P.elem T)).run P w = .ok sz w := by rw [elem_of hT]; exact run_sizeOf_agg (sizeB_size hE)
  simp only [Sem.run_bind, run_sliceAt_slice (P := P) w T _ _ _ _ hT', run_slice_lh (P := P) w T p xs.length c hT' k k2 i j (by omega) (by omega) (by omega), hsz, Result.andThen_ok, Sem.run_pure]
  subst h1
  simp [tailV]
/-- s[j:] moved to place i, in place -/
theorem op_appendD {T E : TypeId} {s x : Operand} {sz : Nat} {α : Type} {enc : α → List Value} {xs : List α} {l' : Atom → List Atom} (v : Value) (i j : Nat)
    (hw : Region.wanted o (yielded ops a.tmps) = true) (hd : o.dst = some d) (hn : Nat.blt d n.n = true) (ho : o.op = .call { callee := .builtin .append, args := #[s, x], argTypes := #[T, T] }) (hT : P.underlying T = some (.slice E)) (hE : sizeB P E sz = true)
    (S : St n fl a) (H : HSat M w0 l w) (hs : ev fl s = some (subV v 0 i sz)) (hx : ev fl x = some (subV v j xs.length sz)) [hO : HasO l v E sz α enc xs l'] (hij : i < j) (hj : j ≤ xs.length) (h1 : ∀ x ∈ xs, ∀ u ∈ enc x, u.oneCell' = true)
    (k : ∀ a' w', St n ((d, shrV v (j - i)) :: fl) a' → capAt (shrV v (j - i)) xs.length → HSat M w0 (l' (OSl E (shrV v (j - i)) sz enc (xs.take i ++ xs.drop j))) w' → K a' w') : opw P ops o a w K := by
  obtain ⟨l1, l2, e1, e2⟩ := hO.at_
  have hok : IsOSl w E v sz enc xs := H.ok (OSl E v sz enc xs) (by rw [e1]; simp)
  obtain ⟨hrl, hrow⟩ := hok.row
  rcases hrow with ⟨_, hn0⟩ | ⟨g, cap, cur, rfl, _, hg, hnc, hmax, hcs, ht⟩
  · omega
  have hcap0 : cap ≠ 0 := by omega
  have ev1 : subV (.slice (some ⟨g, 0, none⟩) xs.length cap) 0 i sz = .slice (some ⟨g, 0, none⟩) i cap := by
    simp [subV, hcap0, add_plain]; omega
  rw [ev1] at hs
  have hdl : ((xs.drop j).flatMap enc).length = (xs.length - j) * sz := by
    have := flatMap_len (enc := enc) (sz := sz) (xs := xs.drop j) (fun x hx => hok.sizes x (List.mem_of_mem_drop hx)); rwa [List.length_drop] at this
  have htl : ((xs.take i).flatMap enc).length = i * sz := by
    have := flatMap_len (enc := enc) (sz := sz) (xs := xs.take i) (fun x hx => hok.sizes x (List.mem_of_mem_take hx)); rwa [List.length_take, Nat.min_eq_left (by omega)] at this
  obtain ⟨q, hq, hnews⟩ : ∃ q, subV (.slice (some ⟨g, 0, none⟩) xs.length cap) j xs.length sz = .slice (some q) (xs.length - j) (cap - j) ∧ ∀ jj u, ((xs.drop j).flatMap enc)[jj]? = some u → w.cell? (q.add jj) = some u := by
    by_cases hcj : cap = j
    · refine ⟨⟨g, 0, none⟩, by simp [subV, hcj], fun jj u hu => ?_⟩
      have := (List.getElem?_eq_some_iff.1 hu).1
      rw [hdl, show xs.length - j = 0 by omega] at this
      omega
    · refine ⟨⟨g, j * sz, none⟩, by simp [subV, hcj, add_plain], fun jj u hu => ?_⟩
      rw [add_plain, cell_of_row w g _ cur E (0, 0) hg]
      rw [← flat_drop hok.sizes j hj, List.getElem?_drop] at hu
      rw [← ht, List.getElem?_take] at hu
      split at hu
      · simpa using hu
      · cases hu
  rw [hq] at hx
  obtain ⟨inf, hinf, hsi⟩ : ∃ inf, P.info? E = some inf ∧ inf.size = sz := by
    have h := sizeB_size hE
    cases hi : P.info? E with
    | none => simp [hi] at h
    | some y => simp [hi] at h; exact ⟨y, rfl, h⟩
  have hf := run_firstCells_some (P := P) w sz (xs.length - j) q (xs.length - j) (cap - j) ((xs.drop j).flatMap enc) hdl hnews
  have hmul : i * sz + (xs.length - j) * sz ≤ cap * sz := by rw [← Nat.add_mul]; exact Nat.mul_le_mul_right _ (by omega)
  have hst := run_storeCells_at P g (i * sz) E ((xs.drop j).flatMap enc) 0 cur w hg (by rw [hdl, hcs]; omega) (fun u hu => by
    obtain ⟨x, hx, hu⟩ := List.mem_flatMap.1 hu
    exact h1 x (List.mem_of_mem_drop hx) u hu)
  simp only [Nat.add_zero] at hst
  have hroom : i + (xs.length - j) ≤ cap := by omega
  have hr : (Builtin.append_ #[T, T] o.type #[.slice (some ⟨g, 0, none⟩) i cap, .slice (some q) (xs.length - j) (cap - j)]).run P w =
      .ok (.slice (some ⟨g, 0, none⟩) (i + (xs.length - j)) cap) (w.setRow g (cur.toList.take (i * sz) ++ (xs.drop j).flatMap enc ++ cur.toList.drop (i * sz + ((xs.drop j).flatMap enc).length)).toArray) := by
    simp [Builtin.append_, run_underlying hT, sizeOf, typeInfo, hinf, hsi, Builtin.lenOf, hroom, hf, Addr.add_lit, hst]
  have hrunA : (execOp a.eval o).run P w = .ok (.value (.slice (some ⟨g, 0, none⟩) (i + (xs.length - j)) cap)) (w.setRow g (cur.toList.take (i * sz) ++ (xs.drop j).flatMap enc ++ cur.toList.drop (i * sz + ((xs.drop j).flatMap enc).length)).toArray) := by
    unfold execOp; rw [ho]
    simp only [resolve, invoke, builtin, Sem.run_bind, Sem.run_pure, Result.andThen_ok, List.map_toArray, List.map_cons, List.map_nil, S.ev hs, S.ev hx, hr]
  have esh : Value.slice (some ⟨g, 0, none⟩) (i + (xs.length - j)) cap = shrV (.slice (some ⟨g, 0, none⟩) xs.length cap) (j - i) := by
    simp only [shrV]; congr 1; omega
  refine opw_val hw hrunA ?_
  rw [hd]
  have hcl : cur.toList.length = cap * sz := by rw [Array.length_toList, hcs]
  have htk : cur.toList.take (i * sz) = (xs.take i).flatMap enc := by
    rw [← flat_take hok.sizes i (by omega), ← ht, List.take_take, Nat.min_eq_left (Nat.mul_le_mul_right _ (by omega))]
  rw [esh]
  refine k _ _ (S.put hn _) (by simp only [shrV, capAt]; omega) ?_
  rw [e2]
  rw [e1] at H
  refine HSat.swap H rfl rfl ⟨rfl, rfl, rfl, by simp [World.setRow], fun q _ hq => setRow_other w g q _ (fun e => hq (by subst e; rfl)), fun q hq => ?_⟩ ⟨⟨?_, .inr ⟨g, cap, _, ?_, Nat.zero_le _, setRow_heap w g _ _ _ _ hg, ?_, hmax, ?_, ?_⟩⟩, ?_, fun x hx => ?_⟩ (fun q hq => .inl (by
    have hq : (shrV (.slice (some ⟨g, 0, none⟩) xs.length cap) (j - i)).ownBlock = some q := hq
    simpa [shrV, Value.ownBlock, OSl] using hq))
  · by_cases hqg : q = g
    · subst hqg; rw [setRow_heap w q _ _ _ _ hg]; exact Nat.le_refl 0
    · rw [setRow_other w g q _ hqg]; exact hq
  · refine flatMap_len (fun x hx => ?_)
    rcases List.mem_append.1 hx with h | h
    · exact hok.sizes x (List.mem_of_mem_take h)
    · exact hok.sizes x (List.mem_of_mem_drop h)
  · simp only [shrV, List.length_append, List.length_take, List.length_drop]; congr 1; omega
  · simp only [List.length_append, List.length_take, List.length_drop]; omega
  · rw [List.size_toArray, List.length_append, List.length_append, List.length_take, List.length_drop, hcl, hdl, Nat.min_eq_left (by omega)]; omega
  · have e3 : (xs.take i ++ xs.drop j).length * sz = ((xs.take i).flatMap enc ++ (xs.drop j).flatMap enc).length := by
      rw [← List.flatMap_append]
      symm
      refine flatMap_len (fun x hx => ?_)
      rcases List.mem_append.1 hx with h | h
      · exact hok.sizes x (List.mem_of_mem_take h)
      · exact hok.sizes x (List.mem_of_mem_drop h)
    rw [e3, htk]
    simp only [List.toList_toArray]
    rw [List.take_append_of_le_length (Nat.le_refl _), List.take_length, List.flatMap_append]
  · have := hok.len
    simp only [List.length_append, List.length_take, List.length_drop]; omega
  · rcases List.mem_append.1 hx with h | h
    · exact hok.sizes x (List.mem_of_mem_take h)
    · exact hok.sizes x (List.mem_of_mem_drop h)
/-- the places behind the end are cleared -/
theorem op_clearT {T E : TypeId} {x : Operand} {z : Value} {sz by_ h : Nat} {α : Type} {enc : α → List Value} {xs : List α} {l' : Atom → List Atom} (v : Value) (hw : Region.wanted o (yielded ops a.tmps) = true) (hd : o.dst = none) (ho : o.op = .call { callee := .builtin .clear, args := #[x], argTypes := #[T] }) (hT : P.underlying T = some (.slice E))
    (hE : infoB P E = some (z, sz, by_)) (hz : z.cells.size = sz) (hz1 : z.cells.toList.all (·.oneCell') = true) (S : St n fl a) (H : HSat M w0 l w) (hx : ev fl x = some (tailV v h sz)) [hO : HasO l v E sz α enc xs l'] (hc : capAt v h)
    (k : ∀ a' w', St n fl a' → HSat M w0 (l' (OSl E v sz enc xs)) w' → K a' w') : opw P ops o a w K := by
  obtain ⟨l1, l2, e1, e2⟩ := hO.at_
  have hok : IsOSl w E v sz enc xs := H.ok (OSl E v sz enc xs) (by rw [e1]; simp)
  obtain ⟨i, hi, hzi, hsi, hbi⟩ := infoB_parts hE
  have hstay : HSat M w0 (l' (OSl E v sz enc xs)) w := by rw [e2, ← e1]; exact H
  have fin : (execOp a.eval o).run P w = .ok (.value (.tuple #[])) w → opw P ops o a w K := fun hr => by
    refine opw_val hw hr ?_
    rw [hd]; exact k _ _ S hstay
  obtain ⟨hrl, hrow⟩ := hok.row
  rcases hrow with ⟨rfl, hn0⟩ | ⟨g, cap, cur, rfl, _, hg, hnc, hmax, hcs, ht⟩
  · refine fin ?_
    unfold execOp; rw [ho]
    simp [resolve, invoke, builtin, S.ev hx, tailV, sliced, Builtin.clear_, run_underlying hT]
  · have hcap : h ≤ cap := hc
    by_cases h0 : h - xs.length = 0
    · refine fin ?_
      unfold execOp; rw [ho]
      simp only [resolve, invoke, builtin, Sem.run_bind, Sem.run_pure, Result.andThen_ok, List.map_toArray, List.map_cons, List.map_nil, S.ev hx, tailV, sliced, h0]
      by_cases hcx : cap = xs.length <;> simp [hcx, Builtin.clear_, run_underlying hT]
    · have hcx : cap ≠ xs.length := by omega
      have hv : tailV (.slice (some ⟨g, 0, none⟩) xs.length cap) h sz = .slice (some ⟨g, xs.length * sz, none⟩) (h - xs.length) (cap - xs.length) := by
        simp [tailV, sliced, hcx, add_plain]
      rw [hv] at hx
      obtain ⟨zs, hzs⟩ : ∃ zs, zs = Builtin.zeroCells z.cells (h - xs.length) := ⟨_, rfl⟩
      have hzl : zs.toList.length = (h - xs.length) * sz := by rw [hzs, Array.length_toList, size_zeroCells, hz]
      have hz1' : ∀ u ∈ zs.toList, u.oneCell' = true := fun u hu => by
        have hall := List.all_eq_true.1 hz1
        rw [hzs] at hu
        simp only [Builtin.zeroCells, Array.toList_map, Array.toList_range, List.mem_map, List.mem_range] at hu
        obtain ⟨q, hq, rfl⟩ := hu
        have hpos : 0 < z.cells.size := by
          rcases Nat.eq_zero_or_pos z.cells.size with h | h
          · rw [h] at hq; omega
          · exact h
        have hlt := Nat.mod_lt q hpos
        rw [getElem!_pos z.cells (q % z.cells.size) hlt]
        exact hall _ (by simp)
      have hmul : xs.length * sz + (h - xs.length) * sz ≤ cap * sz := by rw [← Nat.add_mul]; exact Nat.mul_le_mul_right _ (by omega)
      have hst := run_storeCells_at P g (xs.length * sz) E zs.toList 0 cur w hg (by rw [hzl, hcs]; omega) hz1'
      simp only [Nat.add_zero] at hst
      have hzv : (zeroValue E).run P w = .ok z w := by simp [zeroValue, typeInfo, hi, hzi]
      have hr : (execOp a.eval o).run P w = .ok (.value (.tuple #[])) (w.setRow g (cur.toList.take (xs.length * sz) ++ zs.toList ++ cur.toList.drop (xs.length * sz + zs.toList.length)).toArray) := by
        unfold execOp; rw [ho]
        simp only [resolve, invoke, builtin, Sem.run_bind, Sem.run_pure, Result.andThen_ok, List.map_toArray, List.map_cons, List.map_nil, S.ev hx]
        obtain ⟨m, hm⟩ : ∃ m, h - xs.length = m + 1 := ⟨h - xs.length - 1, by omega⟩
        rw [hm] at hzs ⊢
        simp only [Builtin.clear_, List.getElem?_toArray, List.getElem?_cons_zero, Sem.run_bind, run_underlying hT, Result.andThen_ok, hzv, ← hzs, hst, Sem.run_pure]
      refine opw_val hw hr ?_
      rw [hd]
      refine k _ _ S ?_
      have hcl : cur.toList.length = cap * sz := by rw [Array.length_toList, hcs]
      rw [e2]
      rw [e1] at H
      refine HSat.swap H rfl rfl ⟨rfl, rfl, rfl, by simp [World.setRow], fun q _ hq => setRow_other w g q _ (fun e => hq (by subst e; rfl)), fun q hq => ?_⟩ ⟨⟨hrl, .inr ⟨g, cap, _, rfl, Nat.zero_le _, setRow_heap w g _ _ _ _ hg, hnc, hmax, ?_, ?_⟩⟩, hok.len, hok.sizes⟩ (fun q hq => .inl hq)
      · by_cases hqg : q = g
        · subst hqg; rw [setRow_heap w q _ _ _ _ hg]; exact Nat.le_refl 0
        · rw [setRow_other w g q _ hqg]; exact hq
      · rw [List.size_toArray, List.length_append, List.length_append, List.length_take, List.length_drop, hcl, hzl, Nat.min_eq_left (by omega)]; omega
      · simp only [List.toList_toArray]
        rw [List.append_assoc, List.take_append_of_le_length (by rw [List.length_take, hcl]; omega), List.take_take, Nat.min_self, ht]
theorem HSat.takeT {rest : List Atom} (H : HSat M w0 l w) (tgt : List Atom) (t : List Atom) [h : HasPick l tgt rest] [hs : SubL t rest] : HSat M w0 (tgt ++ t) w := (H.perm h.perm).sub (hs.sub.append_left tgt)
end
end Go.Gw
