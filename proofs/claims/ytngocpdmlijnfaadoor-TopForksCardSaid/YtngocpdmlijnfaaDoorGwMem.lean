/- What the operations on memory yield: cells, rows, slices. No condition. -/
import Derived.Test.YtngocpdmlijnfaaDoorGwOps
namespace Go.Gw
set_option linter.unusedVariables false
set_option linter.unusedSimpArgs false
/-- a block of cells of the call's own -/
abbrev Cel (b : Nat) (T : TypeId) (cs : List Value) : Atom := Blk b (.cells cs.toArray T (0, 0))
def scalarB (P : Program) (T : TypeId) : Bool := match P.underlying T with
  | some (.struct _) | some (.array _ _) | none => false
  | some _ => true
def aggB (P : Program) (T : TypeId) (sz : Nat) : Bool := (match P.underlying T with
  | some (.struct _) | some (.array _ _) => true
  | _ => false) && (P.info? T).map (·.size) == some sz
def sizeB (P : Program) (T : TypeId) (sz : Nat) : Bool := (P.info? T).map (·.size) == some sz
def fieldOff (P : Program) (T : TypeId) (f : Nat) : Option Nat := match P.underlying T with
  | some (.struct fs) => match fs[f]? with
    | some fd => match P.info? fd.type with
      | some i => if i.size = 0 then none else some fd.offset
      | none => none
    | none => none
  | _ => none
theorem add_plain (b o k : Nat) : (⟨b, o, none⟩ : Addr).add k = ⟨b, o + k, none⟩ := by unfold Addr.add; split <;> simp_all
section
variable {P : Program} {o : Oper} {n : Sz} {fl : Slots} {a : Act} {w w0 : World} {v : Value} {M : Nat → Prop} {l : List Atom}
theorem run_isAgg_scalar {T : TypeId} (h : scalarB P T = true) : (isAgg T).run P w = .ok false w := by
  unfold scalarB at h
  cases hu : P.underlying T with
  | none => simp [hu] at h
  | some d => cases d <;> simp [hu] at h <;> simp [isAgg, run_underlying hu]
theorem run_isAgg_agg {T : TypeId} {sz : Nat} (h : aggB P T sz = true) : (isAgg T).run P w = .ok true w := by
  unfold aggB at h
  cases hu : P.underlying T with
  | none => simp [hu] at h
  | some d => cases d <;> simp [hu] at h <;> simp [isAgg, run_underlying hu]
theorem run_sizeOf_agg {T : TypeId} {sz : Nat} (h : (P.info? T).map (·.size) = some sz) : (sizeOf T).run P w = .ok sz w := by
  cases hi : P.info? T with
  | none => simp [hi] at h
  | some i => simp [hi] at h; simp [sizeOf, typeInfo, hi, h]
theorem aggB_size {T : TypeId} {sz : Nat} (h : aggB P T sz = true) : (P.info? T).map (·.size) = some sz := by
  unfold aggB at h; simp only [Bool.and_eq_true, beq_iff_eq] at h; exact h.2
theorem sizeB_size {T : TypeId} {sz : Nat} (h : sizeB P T sz = true) : (P.info? T).map (·.size) = some sz := by
  unfold sizeB at h; simpa using h
theorem run_loadVar_scalar {T : TypeId} {p : Addr} (h : scalarB P T = true) (hc : w.cell? p = some v) : (loadVar T p).run P w = .ok v w := by
  simp [loadVar, run_isAgg_scalar h, load, Sem.run, hc]
theorem run_loadVar_agg {T : TypeId} {p : Addr} {vs : List Value} (h : aggB P T vs.length = true) (hc : ∀ j u, vs[j]? = some u → w.cell? (p.add j) = some u) : (loadVar T p).run P w = .ok (.agg vs.toArray) w := by
  simp [loadVar, run_isAgg_agg h, run_sizeOf_agg (aggB_size h), run_loadCells_list (P := P) w p vs hc]
theorem y_load_at {T : TypeId} {x : Operand} {p : Addr} (ho : o.op = .load T x) (S : St n fl a) (hx : ev fl x = some (.pointer (some p))) (hr : (loadVar T p).run P w = .ok v w) : Yld P o a w v := by
  unfold Yld execOp; rw [ho]; simp only [S.ev hx]; simp [Instr.loadAt, Instr.sureAddr, hr]
theorem HSat.cell {H : HSat M w0 l w} {b : Nat} {cs : List Value} {T : TypeId} {fz : Nat × Nat} (h : HasRd l b (.cells cs.toArray T fz)) (off : Nat) : w.cell? ⟨b, off, none⟩ = cs[off]? := by
  have := H.rd b (h := h)
  simp [World.cell?, this]
/-- one cell of a block -/
theorem y_load {T : TypeId} {x : Operand} {b off : Nat} {cs : List Value} {T' : TypeId} {fz : Nat × Nat} (ho : o.op = .load T x) (hT : scalarB P T = true) (S : St n fl a) (H : HSat M w0 l w)
    (hx : ev fl x = some (.pointer (some ⟨b, off, none⟩))) [h : HasRd l b (.cells cs.toArray T' fz)] (hv : cs[off]? = some v) : Yld P o a w v :=
  y_load_at ho S hx (run_loadVar_scalar hT (by rw [H.cell h, hv]))
/-- a whole block -/
theorem y_load0 {T : TypeId} {x : Operand} {b : Nat} {cs : List Value} {T' : TypeId} {fz : Nat × Nat} (ho : o.op = .load T x) (S : St n fl a) (H : HSat M w0 l w)
    (hx : ev fl x = some (.pointer (some ⟨b, 0, none⟩))) [h : HasRd l b (.cells cs.toArray T' fz)] (hT : aggB P T cs.length = true) : Yld P o a w (.agg cs.toArray) :=
  y_load_at ho S hx (run_loadVar_agg hT (fun j u hu => by rw [add_plain, H.cell h]; simpa using hu))
theorem y_faddr {T : TypeId} {x : Operand} {f k : Nat} {p : Addr} (ho : o.op = .fieldAddr T x f) (hF : fieldOff P T f = some k) (S : St n fl a) (hx : ev fl x = some (.pointer (some p))) : Yld P o a w (.pointer (some (p.add k))) := by
  unfold Yld execOp; rw [ho]; simp only [S.ev hx]
  unfold fieldOff at hF
  split at hF
  · rename_i fs hu
    split at hF
    · rename_i fd hfd
      split at hF
      · rename_i i hi
        split at hF
        · cases hF
        · rename_i hz
          cases hF
          simp [Instr.fieldAt, run_underlying hu, hfd, Instr.sureAddr, fieldPlace, sizeOf, typeInfo, hi, hz]
      · cases hF
    · cases hF
  · cases hF
theorem y_faddrb {T : TypeId} {x : Operand} {f k b off : Nat} (ho : o.op = .fieldAddr T x f) (hF : fieldOff P T f = some k) (S : St n fl a) (hx : ev fl x = some (.pointer (some ⟨b, off, none⟩))) : Yld P o a w (.pointer (some ⟨b, off + k, none⟩)) := by
  rw [← add_plain]; exact y_faddr ho hF S hx
theorem y_iaddr {T E : TypeId} {x ix : Operand} {i : Int} {k : IntKind} {b off sz len cap : Nat} (ho : o.op = .indexAddr T x ix) (hT : P.underlying T = some (.slice E)) (hE : sizeB P E sz = true) (S : St n fl a)
    (hx : ev fl x = some (.slice (some ⟨b, off, none⟩) len cap)) (hi : ev fl ix = some (.int k i)) (hb : 0 ≤ i ∧ i < len) : Yld P o a w (.pointer (some ⟨b, off + i.toNat * sz, none⟩)) := by
  unfold Yld execOp; rw [ho]; simp only [S.ev hx, S.ev hi]
  simp [Instr.indexAt, asIntOf, run_underlying hT, hb, run_sizeOf_agg (sizeB_size hE), add_plain]
theorem y_iaddra {T E : TypeId} {x ix : Operand} {i : Int} {k : IntKind} {b off sz N : Nat} (ho : o.op = .indexAddr T x ix) (hT : P.underlying T = some (.array N E)) (hE : sizeB P E sz = true) (S : St n fl a)
    (hx : ev fl x = some (.pointer (some ⟨b, off, none⟩))) (hi : ev fl ix = some (.int k i)) (hb : 0 ≤ i ∧ i < N) : Yld P o a w (.pointer (some ⟨b, off + i.toNat * sz, none⟩)) := by
  unfold Yld execOp; rw [ho]; simp only [S.ev hx, S.ev hi]
  simp [Instr.indexAt, asIntOf, run_underlying hT, Instr.sureAddr, hb, run_sizeOf_agg (sizeB_size hE), add_plain]
variable {ops : Array Oper} {K : Act → World → Prop} {d : Nat}
theorem op_new (hw : Region.wanted o (yielded ops a.tmps) = true) (hd : o.dst = some d) (hn : Nat.blt d n.n = true) (S : St n fl a) (H : HSat M w0 l w) {T : TypeId} {cs : List Value}
    (hr : (execOp a.eval o).run P w = .ok (.value (.pointer (some ⟨w.heap.size, 0, none⟩))) (w.alloc (.cells cs.toArray T)))
    (k : ∀ b a' w', St n ((d, .pointer (some ⟨b, 0, none⟩)) :: fl) a' → HSat M w0 (Cel b T cs :: l) w' → K a' w') : opw P ops o a w K := by
  refine opw_val hw hr ?_
  rw [hd]; exact k _ _ _ (S.put hn _) (H.alloc _ (Nat.le_refl 0))
theorem op_box (hw : Region.wanted o (yielded ops a.tmps) = true) (hd : o.dst = some d) (hn : Nat.blt d n.n = true) {T : TypeId} {x : Operand} (ho : o.op = .box T x) (S : St n fl a) (H : HSat M w0 l w) {cs : List Value} (hx : ev fl x = some v) (hcs : v.cells.toList = cs)
    (k : ∀ b a' w', St n ((d, .pointer (some ⟨b, 0, none⟩)) :: fl) a' → HSat M w0 (Cel b T cs :: l) w' → K a' w') : opw P ops o a w K :=
  op_new hw hd hn S H (by unfold execOp; rw [ho]; subst hcs; simp [S.ev hx, Instr.box, newVar, newRow, newObj, Sem.run]) k
def zeroB (P : Program) (T : TypeId) : Option (List Value) := (P.info? T).bind fun i => i.zero.map fun z => z.cells.toList
theorem run_zeroValue {T : TypeId} {z : Value} (h : (P.info? T).bind (·.zero) = some z) : (zeroValue T).run P w = .ok z w := by
  cases hi : P.info? T with
  | none => simp [hi] at h
  | some i => simp [hi] at h; simp [zeroValue, typeInfo, hi, h]
theorem op_alloc (hw : Region.wanted o (yielded ops a.tmps) = true) (hd : o.dst = some d) (hn : Nat.blt d n.n = true) {T : TypeId} (ho : o.op = .alloc T) (S : St n fl a) (H : HSat M w0 l w) {cs : List Value} (hz : zeroB P T = some cs)
    (k : ∀ b a' w', St n ((d, .pointer (some ⟨b, 0, none⟩)) :: fl) a' → HSat M w0 (Cel b T cs :: l) w' → K a' w') : opw P ops o a w K := by
  refine op_new hw hd hn S H ?_ k
  unfold zeroB at hz
  cases hi : P.info? T with
  | none => simp [hi] at hz
  | some i =>
    simp [hi] at hz
    obtain ⟨z, hz1, hz2⟩ := hz
    unfold execOp; rw [ho]; subst hz2
    simp [Instr.alloc, run_zeroValue (P := P) (w := w) (T := T) (z := z) (by simp [hi, hz1]), newVar, newRow, newObj, Sem.run]
theorem op_store {T : TypeId} {ad x : Operand} {b off : Nat} {cs : List Value} {T' : TypeId} {l' : Obj → List Atom} (hw : Region.wanted o (yielded ops a.tmps) = true) (hd : o.dst = none) (ho : o.op = .store T ad x) (S : St n fl a) (H : HSat M w0 l w)
    (had : ev fl ad = some (.pointer (some ⟨b, off, none⟩))) (hx : ev fl x = some v) [h : HasBlk l b (.cells cs.toArray T' (0, 0)) l'] (h1 : v.oneCell' = true) (hT : sizeB P T 1 = true) (ho' : Nat.blt off cs.length = true)
    (k : ∀ a' w', St n fl a' → HSat M w0 (l' (.cells (cs.set off v).toArray T' (0, 0))) w' → K a' w') : opw P ops o a w K := by
  have hoff : off < cs.length := by simpa using ho'
  have hb := H.blk b (h := h)
  have hcell : w.cell? ⟨b, off, none⟩ = some cs[off] := by simp [World.cell?, hb, hoff]
  have hfz : w.frozen? ⟨b, off, none⟩ = false := by simp [World.frozen?, hb]
  have hrun : (execOp a.eval o).run P w = .ok .skip (w.setCell ⟨b, off, none⟩ v) := by
    unfold execOp; rw [ho]; simp only [S.ev had, S.ev hx]
    have hcells : v.cells = #[v] := by cases v <;> simp_all [Value.cells, Value.oneCell']
    have hst : (storeCells ⟨b, off, none⟩ [v] 0).run P w = .ok () (w.setCell ⟨b, off, none⟩ v) := by
      have := run_storeCells_cells (P := P) b off [v] 0 w (by intro j hj; simp at hj; subst hj; simp [hcell]) (by intro j hj; simp at hj; subst hj; simpa using hfz) (by simpa using h1)
      simpa [World.setCells] using this
    simp [Instr.storeAt, Instr.sureAddr, storeVar, run_sizeOf_agg (sizeB_size hT), hcells, hst]
  refine opw_skip hw hrun ?_
  rw [hd]
  refine k _ _ (S.putNone _) ?_
  have := H.setCell b off v (h := h)
  simpa using this
/-- a struct or an array into (a part of) a block -/
theorem op_storea {T : TypeId} {ad x : Operand} {b off : Nat} {vs cs cs' : List Value} {T' : TypeId} {l' : Obj → List Atom} (hw : Region.wanted o (yielded ops a.tmps) = true) (hd : o.dst = none) (ho : o.op = .store T ad x) (S : St n fl a) (H : HSat M w0 l w)
    (had : ev fl ad = some (.pointer (some ⟨b, off, none⟩))) (hx : ev fl x = some (.agg vs.toArray)) [h : HasBlk l b (.cells cs.toArray T' (0, 0)) l'] (h1 : vs.all (·.oneCell') = true) (hT : sizeB P T vs.length = true) (ho' : Nat.ble (off + vs.length) cs.length = true)
    (hcs : cs.take off ++ vs ++ cs.drop (off + vs.length) = cs')
    (k : ∀ a' w', St n fl a' → HSat M w0 (l' (.cells cs'.toArray T' (0, 0))) w' → K a' w') : opw P ops o a w K := by
  have hoff : off + vs.length ≤ cs.length := by simpa using ho'
  have hb := H.blk b (h := h)
  have hrun : (execOp a.eval o).run P w = .ok .skip (w.setRow b cs'.toArray) := by
    unfold execOp; rw [ho]; simp only [S.ev had, S.ev hx]
    have hst := run_storeCells_at P b off T' vs 0 cs.toArray w hb (by simpa using hoff) (by simpa using h1)
    simp only [Nat.add_zero] at hst
    rw [hcs] at hst
    simp [Instr.storeAt, Instr.sureAddr, storeVar, run_sizeOf_agg (sizeB_size hT), Value.cells, hst]
  refine opw_skip hw hrun ?_
  rw [hd]
  exact k _ _ (S.putNone _) (H.set b (h := h) _ (fun h => h) rfl rfl rfl (by simp [World.setRow]) (setRow_heap w b _ _ _ _ hb) (fun k hk => setRow_other w b k _ hk))
end
end Go.Gw
