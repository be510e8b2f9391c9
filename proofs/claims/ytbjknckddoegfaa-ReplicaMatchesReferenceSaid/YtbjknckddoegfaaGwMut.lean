/- Own slices that are made, written, cleared; whole slices appended; pointers and slices compared with nil; bundles of atoms. No condition. -/
import Derived.Test.YtbjknckddoegfaaGwJoin
namespace Go.Gw
set_option linter.unusedVariables false
set_option linter.unusedSimpArgs false
section
variable {r : Option Nat} {P : Program} {o : Oper} {n : Sz} {fl flU : Slots} {a : Act} {w w0 : World} {v : Value} {M : Nat → Prop} {l : List Atom} {ops : Array Oper} {d : Nat} {K : Act → World → Prop} {Q : Exit → Act → World → Prop}
/-- the first atom read otherwise -/
theorem HSat.conv {x y : Atom} (H : HSat M w0 (x :: l) w) (hown : y.own = true → x.own = true) (hfp : ∀ b, y.fp b → x.fp b) (hok : x.ok w → y.ok w) : HSat M w0 (y :: l) w := by
  have hs := List.pairwise_cons.1 H.sep
  refine ⟨H.fr, fun z hz => ?_, fun z hz ho b hb => ?_, List.pairwise_cons.2 ⟨fun z hz ho b hb => ?_, hs.2⟩⟩
  · rcases List.mem_cons.1 hz with rfl | hz
    · exact hok (H.ok x (by simp))
    · exact H.ok z (List.mem_cons_of_mem _ hz)
  · rcases List.mem_cons.1 hz with rfl | hz
    · exact H.mine x (by simp) (hown ho) b (hfp b hb)
    · exact H.mine z (List.mem_cons_of_mem _ hz) ho b hb
  · exact hs.1 z hz (ho.imp hown id) b (hfp b hb)
theorem HSat.freeze {x : Atom} (H : HSat M w0 (x :: l) w) : HSat M w0 (Atom.ro x :: l) w := H.conv (fun h => by cases h) (fun _ h => h) (fun h => h)
theorem HSat.celO {α : Type} {b : Nat} {E : TypeId} {cs : List Value} (H : HSat M w0 (Cel b E cs :: l) w) (xs : List α) (enc : α → List Value) (sz : Nat) {m : Nat} (hcs : cs = xs.flatMap enc) (hs : ∀ x ∈ xs, (enc x).length = sz) (hm : xs.length = m) (hl : m ≤ 9223372036854775807) :
    HSat M w0 (OSl E (.slice (some ⟨b, 0, none⟩) m m) sz enc xs :: l) w := by
  subst hm
  refine H.conv (fun _ => rfl) (fun k hk => ?_) (fun hok => ⟨⟨flatMap_len hs, .inr ⟨b, xs.length, cs.toArray, rfl, Nat.zero_le _, hok, Nat.le_refl _, by simpa [maxLen] using hl, ?_, ?_⟩⟩, hl, hs⟩)
  · simp only [OSl, Value.ownBlock, Option.some.injEq] at hk; exact hk.symm
  · rw [hcs]; simpa using flatMap_len hs
  · rw [hcs, List.take_of_length_le]
    rw [flatMap_len hs]; exact Nat.le_refl _
theorem madeCells_flat (z : Array Value) (m : Nat) (hz : 0 < z.size) : (madeCells z (m * z.size)).toList = (List.replicate m z.toList).flatten := by
  have h := flatMap_at (xs := List.replicate m ()) (enc := fun _ => z.toList) (sz := z.size) (by simp)
  have hlen : ((List.replicate m ()).flatMap fun _ => z.toList).length = m * z.size := by
    have := flatMap_len (xs := List.replicate m ()) (enc := fun _ => z.toList) (sz := z.size) (by simp)
    simpa only [List.length_replicate] using this
  have he : (List.replicate m z.toList).flatten = (List.replicate m ()).flatMap fun _ => z.toList := by simp [List.flatMap]
  rw [he]
  apply List.ext_getElem?
  intro j
  by_cases hj : j < m * z.size
  · have hi : j / z.size < m := (Nat.div_lt_iff_lt_mul hz).2 hj
    have hr : j % z.size < z.size := Nat.mod_lt _ hz
    have := h (j / z.size) (by simpa using hi) (j % z.size) hr
    rw [Nat.mul_comm, Nat.div_add_mod] at this
    rw [this]
    simp [madeCells, hj, hr]
  · rw [List.getElem?_eq_none (by simp [madeCells]; omega), List.getElem?_eq_none (by omega)]
/-- make([]T, m) -/
theorem op_make {T E : TypeId} {x y : Operand} {z : Value} {sz by_ m : Nat} {k1 k2 : IntKind} {α : Type} (enc : α → List Value) (z0 : α) (hw : Region.wanted o (yielded ops a.tmps) = true) (hd : o.dst = some d) (hn : Nat.blt d n.n = true) (ho : o.op = .makeSlice T x y) (hT : P.underlying T = some (.slice E)) (hE : infoB P E = some (z, sz, by_)) (hz : z.cells.size = sz) (hsz : Nat.blt 0 sz = true)
    (S : St n fl a) (H : HSat M w0 l w) (hx : ev fl x = some (.int k1 (m : Int))) (hy : ev fl y = some (.int k2 (m : Int))) (henc : enc z0 = z.cells.toList) (hb : by_ * m ≤ 281474976710656) (hm : m ≤ 9223372036854775807)
    (k : ∀ b a' w', St n ((d, .slice (some ⟨b, 0, none⟩) m m) :: fl) a' → HSat M w0 (OSl E (.slice (some ⟨b, 0, none⟩) m m) sz enc (List.replicate m z0) :: l) w' → K a' w') : opw P ops o a w K := by
  obtain ⟨i, hinf, hzi, hsi, hbi⟩ := infoB_parts hE
  have hr := run_make (P := P) w T E i z hT hinf hzi k1 k2 (m : Int) (m : Int) (by omega) (by omega) (by rw [hbi, ← Int.natCast_mul]; omega) (by omega)
  simp only [Int.toNat_natCast] at hr
  have hrun : (execOp a.eval o).run P w = .ok (.value (.slice (some ⟨w.heap.size, 0, none⟩) m m)) (w.alloc (.cells (madeCells z.cells (m * i.size)) E)) := by
    unfold execOp; rw [ho]; simp only [S.ev hx, S.ev hy]; simp [hr]
  refine opw_val hw hrun ?_
  rw [hd]
  refine k _ _ _ (S.put hn _) ?_
  have h1 : HSat M w0 (Cel w.heap.size E (madeCells z.cells (m * i.size)).toList :: l) (w.alloc (.cells (madeCells z.cells (m * i.size)) E)) := by
    have := H.alloc (.cells (madeCells z.cells (m * i.size)) E) (Nat.le_refl 0)
    simpa using this
  refine h1.celO (List.replicate m z0) enc sz ?_ (fun x hx => ?_) (by simp) hm
  · rw [hsi, ← hz, madeCells_flat _ _ (by rw [hz]; simpa using hsz), ← henc]; simp [List.flatMap]
  · rw [List.eq_of_mem_replicate hx, henc]; simpa using hz
theorem flat_parts {α : Type} {enc : α → List Value} {sz : Nat} {xs : List α} (hs : ∀ x ∈ xs, (enc x).length = sz) (i : Nat) (hi : i < xs.length) (j : Nat) (vs : List Value) (y : α) (hj : j + vs.length ≤ sz) (hy : enc y = (enc xs[i]).take j ++ vs ++ (enc xs[i]).drop (j + vs.length)) :
    (xs.flatMap enc).take (i * sz + j) ++ vs ++ (xs.flatMap enc).drop (i * sz + j + vs.length) = (xs.set i y).flatMap enc := by
  have e1 : xs = xs.take i ++ xs[i] :: xs.drop (i + 1) := by rw [List.getElem_cons_drop, List.take_append_drop]
  have hA : ((xs.take i).flatMap enc).length = i * sz := by
    rw [flatMap_len (fun x hx => hs x (List.mem_of_mem_take hx))]; simp [Nat.min_eq_left (Nat.le_of_lt hi)]
  have hx := hs _ (List.getElem_mem hi)
  have e2 : xs.set i y = xs.take i ++ y :: xs.drop (i + 1) := by rw [List.set_eq_take_append_cons_drop, if_pos hi]
  have e3 : xs.flatMap enc = (xs.take i).flatMap enc ++ (enc xs[i] ++ (xs.drop (i + 1)).flatMap enc) := by
    have h3 : xs.flatMap enc = (xs.take i ++ xs[i] :: xs.drop (i + 1)).flatMap enc := congrArg (List.flatMap enc) e1
    exact h3.trans (by rw [List.flatMap_append, List.flatMap_cons])
  rw [e2, e3, List.flatMap_append, List.flatMap_cons]
  generalize (xs.take i).flatMap enc = A at hA ⊢
  generalize (xs.drop (i + 1)).flatMap enc = B
  rw [List.take_append, List.drop_append]
  have t1 : A.take (i * sz + j) = A := List.take_of_length_le (by omega)
  have t2 : A.drop (i * sz + j + vs.length) = [] := List.drop_eq_nil_of_le (by omega)
  rw [t1, t2, hA]
  have s1 : i * sz + j - i * sz = j := by omega
  have s2 : i * sz + j + vs.length - i * sz = j + vs.length := by omega
  rw [s1, s2, List.take_append, List.drop_append]
  have t3 : j - (enc xs[i]).length = 0 := by omega
  have t4 : j + vs.length - (enc xs[i]).length = 0 := by omega
  rw [t3, t4, hy]
  simp
theorem op_storeS {T E : TypeId} {ad x : Operand} {u : Value} {i j sz : Nat} {vs : List Value} {α : Type} {enc : α → List Value} {xs : List α} {p : Addr} {l' : Atom → List Atom} (v : Value) (y : α) (hw : Region.wanted o (yielded ops a.tmps) = true) (hd : o.dst = none) (ho : o.op = .store T ad x) (S : St n fl a) (H : HSat M w0 l w)
    (had : ev fl ad = some (.pointer (some p))) (hp : p = (elemAddr v i sz).add j) (hx : ev fl x = some u) [hO : HasO l v E sz α enc xs l'] (hvs : u.cells.toList = vs) (h1 : ∀ c ∈ vs, c.oneCell' = true) (hT : sizeB P T vs.length = true) (hi : i < xs.length) (hj : j + vs.length ≤ sz) (hy : enc y = (enc xs[i]).take j ++ vs ++ (enc xs[i]).drop (j + vs.length))
    (k : ∀ a' w', St n fl a' → HSat M w0 (l' (OSl E v sz enc (xs.set i y))) w' → K a' w') : opw P ops o a w K := by
  obtain ⟨l1, l2, e1, e2⟩ := hO.at_
  have hok : IsOSl w E v sz enc xs := H.ok (OSl E v sz enc xs) (by rw [e1]; simp)
  rcases hok.row.2 with ⟨_, hn⟩ | ⟨g, cap, cur, rfl, hbase, hg, hnc, hcm, hcs, ht⟩
  · omega
  have hpos : p = ⟨g, i * sz + j, none⟩ := by rw [hp]; simp [elemAddr, add_plain]
  have hle : i * sz + sz ≤ xs.length * sz := by
    have : (i + 1) * sz ≤ xs.length * sz := Nat.mul_le_mul_right _ hi
    rwa [Nat.add_mul, Nat.one_mul] at this
  have hle2 : xs.length * sz ≤ cap * sz := Nat.mul_le_mul_right _ hnc
  have hfit : i * sz + j + vs.length ≤ cur.size := by omega
  have hrun : (execOp a.eval o).run P w = .ok .skip (w.setRow g (cur.toList.take (i * sz + j) ++ vs ++ cur.toList.drop (i * sz + j + vs.length)).toArray) := by
    unfold execOp; rw [ho]; simp only [S.ev had, S.ev hx, hpos]
    have hst := run_storeCells_at P g (i * sz + j) E vs 0 cur w hg (by simpa using hfit) h1
    simp only [Nat.add_zero] at hst
    have hu : u.cells = vs.toArray := by rw [← hvs]
    simp [Instr.storeAt, Instr.sureAddr, storeVar, run_sizeOf_agg (sizeB_size hT), hu, hst]
  refine opw_skip hw hrun ?_
  rw [hd]
  refine k _ _ (S.putNone _) ?_
  rw [e2]
  rw [e1] at H
  have hlen := hok.row.1
  refine HSat.swap H rfl rfl (⟨rfl, rfl, rfl, by simp [World.setRow], fun q _ hq => setRow_other w g q _ (fun e => hq (by subst e; rfl)), fun q hq => ?_⟩) ⟨⟨?_, .inr ⟨g, cap, _, by rw [List.length_set], hbase, setRow_heap w g _ _ _ _ hg, by simpa using hnc, hcm, ?_, ?_⟩⟩, by simpa using hok.len, fun z hz => ?_⟩ (fun b hb => .inl hb)
  · by_cases hqg : q = g
    · subst hqg; rw [setRow_heap w q _ _ _ _ hg]; exact Nat.le_refl 0
    · rw [setRow_other w g q _ hqg]; exact hq
  · rw [← flat_parts hok.sizes i hi j vs y hj hy]
    simp only [List.length_append, List.length_take, List.length_drop, List.length_set, hlen]; omega
  · simp only [List.size_toArray, List.length_append, List.length_take, List.length_drop, Array.length_toList]; omega
  · rw [← flat_parts hok.sizes i hi j vs y hj hy, ← ht]
    simp only [List.length_set]
    rw [List.take_append, List.take_append, List.length_append, List.length_take, List.take_take, List.take_take, List.drop_take]
    have hcl : cur.toList.length = cur.size := by simp
    have m1 : min (i * sz + j) cur.toList.length = i * sz + j := by omega
    have m2 : min (xs.length * sz) (i * sz + j) = i * sz + j := by omega
    have m3 : min (i * sz + j) (xs.length * sz) = i * sz + j := by omega
    rw [m1, m2, m3, List.take_of_length_le (l := vs) (by omega)]
  · rcases List.mem_or_eq_of_mem_set hz with hz | rfl
    · exact hok.sizes z hz
    · rw [hy]
      have := hok.sizes _ (List.getElem_mem hi)
      simp only [List.length_append, List.length_take, List.length_drop]; omega
/-- one cell of an element of one cell -/
theorem op_store1 {T E : TypeId} {ad x : Operand} {u : Value} {i : Nat} {α : Type} {enc : α → List Value} {xs : List α} {l' : Atom → List Atom} (v : Value) (y : α) (hw : Region.wanted o (yielded ops a.tmps) = true) (hd : o.dst = none) (ho : o.op = .store T ad x) (S : St n fl a) (H : HSat M w0 l w)
    (had : ev fl ad = some (.pointer (some (elemAddr v i 1)))) (hx : ev fl x = some u) [hO : HasO l v E 1 α enc xs l'] (hvs : u.cells.toList = [u]) (h1 : u.oneCell' = true) (hT : sizeB P T 1 = true) (hi : i < xs.length) (hy : enc y = [u])
    (k : ∀ a' w', St n fl a' → HSat M w0 (l' (OSl E v 1 enc (xs.set i y))) w' → K a' w') : opw P ops o a w K := by
  have hsz : (enc xs[i]).length = 1 := by
    obtain ⟨l1, l2, e1, e2⟩ := hO.at_
    exact (H.ok (OSl E v 1 enc xs) (by rw [e1]; simp)).sizes _ (List.getElem_mem hi)
  refine op_storeS (j := 0) v y hw hd ho S H had ?_ hx hvs (by simpa using h1) hT hi (by simp) ?_ k
  · unfold Addr.add; simp
  · rw [hy]
    generalize enc xs[i] = q at hsz
    match q, hsz with
    | [c], _ => simp
theorem IsSl.flat {w : World} {v : Value} {sz : Nat} {α : Type} {enc : α → List Value} {xs : List α} (h : IsSl w v sz enc xs) (hsz : 0 < sz) (hne : xs ≠ []) : ∃ b off c, v = .slice (some ⟨b, off, none⟩) xs.length c ∧ ∀ j u, (xs.flatMap enc)[j]? = some u → w.cell? ⟨b, off + j, none⟩ = some u := by
  obtain ⟨b, off, c, hv, _⟩ := h.cells 0 (List.length_pos_iff.2 hne)
  refine ⟨b, off, c, hv, fun j u hu => ?_⟩
  have hj : j < xs.length * sz := by rw [← flatMap_len h.sizes]; exact (List.getElem?_eq_some_iff.1 hu).1
  have hi : j / sz < xs.length := (Nat.div_lt_iff_lt_mul hsz).2 hj
  have hr := Nat.mod_lt j hsz
  have hf := flatMap_at h.sizes (j / sz) hi (j % sz) hr
  have ej : j / sz * sz + j % sz = j := by rw [Nat.mul_comm]; exact Nat.div_add_mod j sz
  rw [ej, hu] at hf
  obtain ⟨b', off', c', hv', hc⟩ := h.cells (j / sz) hi
  rw [hv] at hv'
  simp only [Value.slice.injEq, Option.some.injEq, Addr.mk.injEq, and_true, true_and] at hv'
  obtain ⟨⟨rfl, rfl⟩, _⟩ := hv'
  have := hc (j % sz) u hf.symm
  rwa [Nat.add_assoc, ej] at this
theorem op_appendS {T E : TypeId} {s x : Operand} {z v2 : Value} {sz by_ : Nat} {α : Type} {enc : α → List Value} {xs ys : List α} {l' : Atom → List Atom}
    (hw : Region.wanted o (yielded ops a.tmps) = true) (hd : o.dst = some d) (hn : Nat.blt d n.n = true) (ho : o.op = .call { callee := .builtin .append, args := #[s, x], argTypes := #[T, T] }) (hT : P.underlying T = some (.slice E)) (hE : infoB P E = some (z, sz, by_)) (hz : z.cells.size = sz) (hsz : Nat.blt 0 sz = true)
    (S : St n fl a) (H : HSat M w0 l w) (hs : ev fl s = some v) (hx : ev fl x = some v2) [hO : HasO l v E sz α enc xs l'] [hY : HasSl l v2 sz α enc ys] (hne : ys ≠ []) (h1 : ∀ y ∈ ys, ∀ u ∈ enc y, u.oneCell' = true) (hb : (xs.length + ys.length) * by_ ≤ 140737488355328) (hlen : xs.length + ys.length ≤ 9223372036854775807)
    (k : ∀ v' a' w', v' ≠ .slice none 0 0 → St n ((d, v') :: fl) a' → HSat M w0 (l' (OSl E v' sz enc (xs ++ ys))) w' → K a' w') : opw P ops o a w K := by
  obtain ⟨l1, l2, e1, e2⟩ := hO.at_
  have hok : IsOSl w E v sz enc xs := H.ok (OSl E v sz enc xs) (by rw [e1]; simp)
  have hsl := H.sl v2 (h := hY)
  obtain ⟨b, off, c, rfl, hf⟩ := hsl.flat (by simpa using hsz) hne
  obtain ⟨v', w', hr, hown, hfr, hnew, hnn⟩ := run_append_at (P := P) (ty := o.type) hT hE hz (by simpa using hsz) hok hsl.sizes h1 ⟨b, off, none⟩ c (fun j u hu => by rw [add_plain]; exact hf j u hu) hb hlen hne
  have hrun : (execOp a.eval o).run P w = .ok (.value v') w' := by
    unfold execOp; rw [ho]
    simp only [resolve, invoke, builtin, Sem.run_bind, Sem.run_pure, Result.andThen_ok, List.map_toArray, List.map_cons, List.map_nil, S.ev hs, S.ev hx, hr]
  refine opw_val hw hrun ?_
  rw [hd]
  refine k v' _ w' hnn (S.put hn v') ?_
  rw [e2]
  rw [e1] at H
  exact HSat.swap H rfl rfl hfr hown hnew
/-- the same, whether anything is appended or not -/
theorem op_appendT {T E : TypeId} {s x : Operand} {z v2 : Value} {sz by_ : Nat} {α : Type} {enc : α → List Value} {xs ys : List α} {l' : Atom → List Atom}
    (hw : Region.wanted o (yielded ops a.tmps) = true) (hd : o.dst = some d) (hn : Nat.blt d n.n = true) (ho : o.op = .call { callee := .builtin .append, args := #[s, x], argTypes := #[T, T] }) (hT : P.underlying T = some (.slice E)) (hE : infoB P E = some (z, sz, by_)) (hz : z.cells.size = sz) (hsz : Nat.blt 0 sz = true)
    (S : St n fl a) (H : HSat M w0 l w) (hs : ev fl s = some v) (hx : ev fl x = some v2) [hO : HasO l v E sz α enc xs l'] [hY : HasSl l v2 sz α enc ys] (h1 : ∀ y ∈ ys, ∀ u ∈ enc y, u.oneCell' = true) (hb : (xs.length + ys.length) * by_ ≤ 140737488355328) (hlen : xs.length + ys.length ≤ 9223372036854775807)
    (k : ∀ v' a' w', St n ((d, v') :: fl) a' → HSat M w0 (l' (OSl E v' sz enc (xs ++ ys))) w' → K a' w') : opw P ops o a w K := by
  by_cases hne : ys = []
  · subst hne
    obtain ⟨l1, l2, e1, e2⟩ := hO.at_
    have hok : IsOSl w E v sz enc xs := H.ok (OSl E v sz enc xs) (by rw [e1]; simp)
    obtain ⟨i, hinf, hzi, hsi, hbi⟩ := infoB_parts hE
    obtain ⟨p2, c2, rfl⟩ := (H.sl v2 (h := hY)).shape
    have hrun : (execOp a.eval o).run P w = .ok (.value v) w := by
      unfold execOp; rw [ho]
      have hl0 : ∀ q : Addr, (loadCells q 0).run P w = .ok #[] w := fun q => by simpa using run_loadCells_list (P := P) w q [] (by simp)
      rcases hok.row.2 with ⟨rfl, hn⟩ | ⟨g, cap, cur, rfl, hbase, hg, hnc, hcm, hcs, ht⟩
      · cases p2 <;> simp [hl0, resolve, invoke, builtin, S.ev hs, S.ev hx, Builtin.append_, run_underlying hT, sizeOf, typeInfo, hinf, Builtin.lenOf, Builtin.firstCells]
      · cases p2 <;> simp [hl0, resolve, invoke, builtin, S.ev hs, S.ev hx, Builtin.append_, run_underlying hT, sizeOf, typeInfo, hinf, Builtin.lenOf, Builtin.firstCells, hnc, storeCells]
    refine opw_val hw hrun ?_
    rw [hd]
    refine k v _ w (S.put hn v) ?_
    rw [e2, List.append_nil]
    rw [e1] at H
    exact H
  · exact op_appendS hw hd hn ho hT hE hz hsz S H hs hx hne h1 hb hlen (fun v' a' w' _ => k v' a' w')
theorem run_equalIn_ptr (d : Nat) {T E : TypeId} (hT : P.underlying T = some (.pointer E)) (p : Option Addr) : (Op.equalIn (d + 1) T (.pointer p) (.pointer none)).run P w = .ok p.isNone w := by
  cases p <;> simp [Op.equalIn, run_underlying hT]
theorem run_equalIn_sl (d : Nat) {T E : TypeId} (hT : P.underlying T = some (.slice E)) (p : Option Addr) (i c : Nat) : (Op.equalIn (d + 1) T (.slice p i c) (.slice none 0 0)).run P w = .ok p.isNone w := by
  cases p <;> simp [Op.equalIn, run_underlying hT]
theorem run_equal_ptr {T E : TypeId} (hT : P.underlying T = some (.pointer E)) (p : Option Addr) : (Op.equal T (.pointer p) (.pointer none)).run P w = .ok p.isNone w := by
  unfold Op.equal Op.maxDepth; exact run_equalIn_ptr 9999 hT p
theorem y_eqp {T U E : TypeId} {x y : Operand} {p : Option Addr} (ho : o.op = .binOp .eql T x y U) (hT : P.underlying T = some (.pointer E)) (S : St n fl a) (hx : ev fl x = some (.pointer p)) (hy : ev fl y = some (.pointer none)) : Yld P o a w (.bool p.isNone) := by
  unfold Yld execOp; rw [ho]; simp only [S.ev hx, S.ev hy, eqGuard, binOp]
  simp [run_equal_ptr hT]
theorem y_nep {T U E : TypeId} {x y : Operand} {p : Option Addr} (ho : o.op = .binOp .neq T x y U) (hT : P.underlying T = some (.pointer E)) (S : St n fl a) (hx : ev fl x = some (.pointer p)) (hy : ev fl y = some (.pointer none)) : Yld P o a w (.bool p.isSome) := by
  unfold Yld execOp; rw [ho]; simp only [S.ev hx, S.ev hy, eqGuard, binOp]
  cases p <;> simp [run_equal_ptr hT]
theorem run_equal_sl {T E : TypeId} (hT : P.underlying T = some (.slice E)) (p : Option Addr) (i c : Nat) : (Op.equal T (.slice p i c) (.slice none 0 0)).run P w = .ok p.isNone w := by
  unfold Op.equal Op.maxDepth; exact run_equalIn_sl 9999 hT p i c
theorem y_eqsl {T U E : TypeId} {x y : Operand} {p : Option Addr} {i c : Nat} (ho : o.op = .binOp .eql T x y U) (hT : P.underlying T = some (.slice E)) (S : St n fl a) (hx : ev fl x = some (.slice p i c)) (hy : ev fl y = some (.slice none 0 0)) : Yld P o a w (.bool p.isNone) := by
  unfold Yld execOp; rw [ho]; simp only [S.ev hx, S.ev hy, eqGuard, binOp]
  simp [run_equal_sl hT]
/-- several atoms as one -/
def Bun (ls : List Atom) : Atom where
  own := true
  fp := fun k => ∃ x ∈ ls, x.own = true ∧ x.fp k
  ok := fun w => (∀ x ∈ ls, x.own = true ∧ x.ok w) ∧ ls.Pairwise apart
  loc := fun w w' h hok => ⟨fun x hx => ⟨(hok.1 x hx).1, x.loc w w' (fun b hb => h b ⟨x, hx, (hok.1 x hx).1, hb⟩) (hok.1 x hx).2⟩, hok.2⟩
  lt := fun w b hok ⟨x, hx, _, hb⟩ => x.lt w b (hok.1 x hx).2 hb
theorem HSat.fold {ls : List Atom} (H : HSat M w0 (ls ++ l) w) (ho : ∀ x ∈ ls, x.own = true) : HSat M w0 (Bun ls :: l) w := by
  have hs := List.pairwise_append.1 H.sep
  refine ⟨H.fr, fun z hz => ?_, fun z hz ho' b hb => ?_, List.pairwise_cons.2 ⟨fun z hz _ b hb => ?_, hs.2.1⟩⟩
  · rcases List.mem_cons.1 hz with rfl | hz
    · exact ⟨fun x hx => ⟨ho x hx, H.ok x (List.mem_append_left _ hx)⟩, hs.1⟩
    · exact H.ok z (List.mem_append_right _ hz)
  · rcases List.mem_cons.1 hz with rfl | hz
    · obtain ⟨x, hx, hxo, hxb⟩ := hb
      exact H.mine x (List.mem_append_left _ hx) hxo b hxb
    · exact H.mine z (List.mem_append_right _ hz) ho' b hb
  · obtain ⟨x, hx, hxo, hxb⟩ := hb
    exact hs.2.2 x hx z hz (.inl hxo) b hxb
theorem HSat.unfold {ls : List Atom} (H : HSat M w0 (Bun ls :: l) w) : HSat M w0 (ls ++ l) w := by
  have hs := List.pairwise_cons.1 H.sep
  have hok := H.ok (Bun ls) (by simp)
  refine ⟨H.fr, fun z hz => ?_, fun z hz ho' b hb => ?_, List.pairwise_append.2 ⟨hok.2, hs.2, fun x hx z hz _ b hb => ?_⟩⟩
  · rcases List.mem_append.1 hz with hz | hz
    · exact (hok.1 z hz).2
    · exact H.ok z (List.mem_cons_of_mem _ hz)
  · rcases List.mem_append.1 hz with hz | hz
    · exact H.mine (Bun ls) (by simp) rfl b ⟨z, hz, ho', hb⟩
    · exact H.mine z (List.mem_cons_of_mem _ hz) ho' b hb
  · exact hs.1 z hz (.inl rfl) b ⟨x, hx, (hok.1 x hx).1, hb⟩
theorem HSat.call1 {w' : World} {x : Atom} (H : HSat M w0 l w) (H' : HSat No w [x] w') (hx : x.own = true) : HSat M w0 (x :: l) w' := H.call H' (by simpa using hx)
theorem HSat.swap2 {x y : Atom} (H : HSat M w0 (x :: y :: l) w) : HSat M w0 (y :: x :: l) w := H.perm (List.Perm.swap _ _ _)
end
theorem HSat.front {M : Nat → Prop} {w0 w : World} {l r : List Atom} {l' : Atom → List Atom} (H : HSat M w0 l w) (x : Atom) [h : HasA l x r l'] : HSat M w0 (x :: r) w := H.perm h.to_
section
variable {P : Program} {ops : Array Oper} {loud tails free rest : List Nat} {ro : List Atom} {K : Act → World → Prop} {n : Sz} {d g : Nat} {fl : Slots} {a : Act} {w0 : World} {M : Nat → Prop} {l : List Atom} {pk : Oper}
/-- the operations of numbers L are passed over when slot g is not b -/
def skipN (ops : Array Oper) (n : Nat) (keys : List Nat) (g : Nat) (b : Bool) (L : List Nat) : Bool :=
  match L.mapM (fun i => ops[i]?) with
  | some os => skipOK ops n keys g b os []
  | none => false
theorem mix_skip {C : World → Prop} (hst : Stable C) (hCD : ∀ w, C w → RO ro w) {b : Bool} {u : Value} (hu : u ≠ .bool b) (hgl : fl.lookup g = some u) :
    ∀ (L : List Nat) (os : List Oper) (ds : List Nat) (a : Act), L.mapM (fun i => ops[i]?) = some os → skipOK ops n.n (fl.map (·.1)) g b os ds = true → St n fl a → (∀ x ∈ ds, x < n.n ∧ a.tmps.getD x undef = undef) →
      (∀ a', St n fl a' → Mix P ops loud tails free (RO ro) K rest a' C) → Mix P ops loud tails free (RO ro) K (L ++ rest) a C := by
  intro L
  induction L with
  | nil => intro os ds a _ _ S _ k; exact k a S
  | cons i r ih =>
    intro os ds a hos hs S hds k
    rw [List.mapM_cons] at hos
    cases ho : ops[i]? with
    | none => rw [ho] at hos; cases hos
    | some o =>
      rw [ho] at hos
      cases hr : r.mapM (fun i => ops[i]?) with
      | none => rw [hr] at hos; cases hos
      | some rs =>
        rw [hr] at hos
        cases hos
        simp only [skipOK] at hs
        split at hs
        · rename_i j b' d hg hd
          simp only [Bool.and_eq_true] at hs
          obtain ⟨⟨⟨⟨h1, h2⟩, h3⟩, h4⟩, h5⟩ := hs
          have hw : Region.wanted o (yielded ops a.tmps) = false := by
            split at h1
            · rename_i gd hgd
              simp only [Bool.and_eq_true, Bool.or_eq_true, beq_iff_eq] at h1
              rcases h1.2 with ⟨e1, e2⟩ | h1'
              · subst e1; subst e2
                exact ug gd hg hgd S hgl hu h1.1
              · have := hds gd (by simpa using h1')
                have Su : St n [(gd, undef)] a := ⟨S.size, S.defers, fun i v hi => by
                  simp only [List.lookup] at hi
                  split at hi
                  · rename_i he; have e : i = gd := by simpa using he
                    subst e; cases hi; exact this.2
                  · cases hi⟩
                exact ug (fl := [(gd, undef)]) (v := undef) gd hg hgd Su (by simp [List.lookup]) (by simp [undef]) h1.1
            · cases h1
          have hrest : Mix P ops loud tails free (RO ro) K (r ++ rest) (a.put o.dst undef) C := by
            rw [hd]
            refine ih rs (d :: ds) _ hr h5 ((S.put h4 undef).keep (by simpa using h2)) ?_ k
            intro x hx
            have hd4 : d < n.n := by simpa using h4
            rcases List.mem_cons.1 hx with rfl | hx
            · exact ⟨hd4, (S.put h4 undef).get _ undef (by simp [List.lookup])⟩
            · have hne : d ≠ x := by rintro rfl; simp [hx] at h3
              refine ⟨(hds x hx).1, ?_⟩
              have := (hds x hx).2
              simp only [Act.put, Array.getD_eq_getD_getElem?] at this ⊢
              rw [Array.getElem?_setIfInBounds_ne hne]; exact this
          refine ⟨o, ho, ?_⟩
          split
          · intro w hC
            exact opw_un hw ⟨C, hst, hC, hCD, .inl (fun _ h => h), hrest⟩
          · exact ⟨undef, .inr ⟨hw, rfl⟩, hrest⟩
        · cases hs
theorem m_orq [ROs ro] [HasRO l ro] {B B2 : Bool} {c x y : Operand} {p : Nat} (L : List Nat) (g : Nat) (S : St n fl a) (hB : fl.lookup g = some (.bool B)) (hsk : skipN ops n.n (fl.map (·.1)) g false L = true) (hp : ops[p]? = some pk) (hlp : (loud.contains p || free.contains p) = false) (hpk : pk.op = .pick c x y) (hc : ev fl c = some (.bool B)) (hx : ev fl x = some (.bool true)) (hd : pk.dst = some d) (hn : Nat.blt d n.n = true)
    (hw : ∀ a', St n fl a' → Region.wanted pk (yielded ops a'.tmps) = true)
    (hyes : B = false → (∀ a', St n ((d, .bool (B || B2)) :: fl) a' → Mix P ops loud tails free (RO ro) K rest a' (HSat M w0 l)) → Mix P ops loud tails free (RO ro) K (L ++ p :: rest) a (HSat M w0 l))
    (k : ∀ a', St n ((d, .bool (B || B2)) :: fl) a' → Mix P ops loud tails free (RO ro) K rest a' (HSat M w0 l)) : Mix P ops loud tails free (RO ro) K (L ++ p :: rest) a (HSat M w0 l) := by
  cases B with
  | false => exact hyes rfl k
  | true =>
    unfold skipN at hsk
    split at hsk
    · rename_i os hos
      refine mix_skip stable_hsat (RO.of ROs.all) (by simp) hB L os [] a hos hsk S (by simp) fun a' S' => ?_
      exact m_w hp hlp (hw a' S') hd hn S' (v := .bool (true || B2)) (fun w _ => by unfold Yld execOp; rw [hpk]; simp only [S'.ev hc, S'.ev hx]; simp [asBool]) (fun a'' S'' => k a'' S'')
    · cases hsk
theorem m_andq [ROs ro] [HasRO l ro] {B B2 : Bool} {c x y : Operand} {p : Nat} (L : List Nat) (g : Nat) (S : St n fl a) (hB : fl.lookup g = some (.bool B)) (hsk : skipN ops n.n (fl.map (·.1)) g true L = true) (hp : ops[p]? = some pk) (hlp : (loud.contains p || free.contains p) = false) (hpk : pk.op = .pick c x y) (hc : ev fl c = some (.bool B)) (hy : ev fl y = some (.bool false)) (hd : pk.dst = some d) (hn : Nat.blt d n.n = true)
    (hw : ∀ a', St n fl a' → Region.wanted pk (yielded ops a'.tmps) = true)
    (hyes : B = true → (∀ a', St n ((d, .bool (B && B2)) :: fl) a' → Mix P ops loud tails free (RO ro) K rest a' (HSat M w0 l)) → Mix P ops loud tails free (RO ro) K (L ++ p :: rest) a (HSat M w0 l))
    (k : ∀ a', St n ((d, .bool (B && B2)) :: fl) a' → Mix P ops loud tails free (RO ro) K rest a' (HSat M w0 l)) : Mix P ops loud tails free (RO ro) K (L ++ p :: rest) a (HSat M w0 l) := by
  cases B with
  | true => exact hyes rfl k
  | false =>
    unfold skipN at hsk
    split at hsk
    · rename_i os hos
      refine mix_skip stable_hsat (RO.of ROs.all) (by simp) hB L os [] a hos hsk S (by simp) fun a' S' => ?_
      exact m_w hp hlp (hw a' S') hd hn S' (v := .bool (false && B2)) (fun w _ => by unfold Yld execOp; rw [hpk]; simp only [S'.ev hc, S'.ev hy]; simp [asBool]) (fun a'' S'' => k a'' S'')
    · cases hsk
instance HasBlk.app (l1 l : List Atom) (b : Nat) (o : Obj) (l' : Obj → List Atom) [h : HasBlk l b o l'] : HasBlk (l1 ++ l) b o (fun o' => l1 ++ l' o') := by
  obtain ⟨k1, k2, h1, h2⟩ := h.at_
  exact ⟨l1 ++ k1, k2, by simp [h1], fun o' => by simp [h2]⟩
instance HasSl.app (l1 l : List Atom) (v : Value) (sz : Nat) (α : Type) (enc : α → List Value) (xs : List α) [h : HasSl l v sz α enc xs] : HasSl (l1 ++ l) v sz α enc xs := ⟨fun w hw => h.at_ w (fun y hy => hw y (List.mem_append_right _ hy))⟩
instance HasO.app (l1 l : List Atom) (e : TypeId) (v : Value) (sz : Nat) (α : Type) (enc : α → List Value) (xs : List α) (l' : Atom → List Atom) [h : HasO l v e sz α enc xs l'] : HasO (l1 ++ l) v e sz α enc xs (fun y => l1 ++ l' y) := by
  obtain ⟨k1, k2, h1, h2⟩ := h.at_
  exact ⟨l1 ++ k1, k2, by simp [h1], fun y => by simp [h2]⟩
end
end Go.Gw
