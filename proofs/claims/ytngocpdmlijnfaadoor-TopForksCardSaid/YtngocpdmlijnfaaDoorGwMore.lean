/- More operations: structs that are built, indexes that are natural numbers, conversions. No condition. -/
import Derived.Test.YtngocpdmlijnfaaDoorGwMulti
import Derived.Test.YtngocpdmlijnfaaDoorGwSl
namespace Go.Gw
set_option linter.unusedVariables false
set_option linter.unusedSimpArgs false
section
variable {P : Program} {o : Oper} {n : Sz} {fl : Slots} {a : Act} {w w0 : World} {v : Value} {M : Nat → Prop} {l : List Atom}
/-- a type's zero cells, and where its parts lie -/
def buildB (P : Program) (T : TypeId) : Option (List Value × List (Nat × Nat)) :=
  match P.info? T, P.underlying T with
  | some it, some (.array k e) => match it.zero, P.info? e with
    | some z, some ie => some (z.cells.toList, (List.range k).map fun i => (i * ie.size, ie.size))
    | _, _ => none
  | some it, some (.struct fields) =>
    match it.zero, fields.toList.mapM (fun f => (P.info? f.type).map fun i => (f.offset, i.size)) with
    | some z, some places => some (z.cells.toList, places)
    | _, _ => none
  | _, _ => none
theorem fill_mono {p q : Nat → Option (Nat × Nat)} (h : ∀ i x, p i = some x → q i = some x) : ∀ (parts : List (Nat × Value)) (cs cs' : Array Value), Instr.fill p cs parts = some cs' → Instr.fill q cs parts = some cs'
  | [], _, _, hf => hf
  | (i, v) :: r, cs, cs', hf => by
    simp only [Instr.fill] at hf ⊢
    cases hp : p i with
    | none => rw [hp] at hf; cases hf
    | some x =>
      rw [hp] at hf
      rw [h i x hp]
      obtain ⟨off, size⟩ := x
      simp only at hf ⊢
      split at hf
      · cases hf
      · rename_i hc
        rw [if_neg hc]
        exact fill_mono h r _ _ hf
theorem built_of {T : TypeId} {z : List Value} {places : List (Nat × Nat)} {parts : List (Nat × Value)} {cs : List Value} (hB : buildB P T = some (z, places)) (hf : Instr.fill (fun i => places[i]?) z.toArray parts = some cs.toArray) : P.built T parts = some cs.toArray := by
  unfold buildB at hB
  unfold Program.built
  split at hB
  · rename_i it k e h1 h2
    rw [h1, h2]
    split at hB
    · rename_i z' ie hz hi
      cases hB
      dsimp only
      rw [hz, hi]
      dsimp only
      refine fill_mono (p := fun i => ((List.range k).map fun i => (i * ie.size, ie.size))[i]?) (fun i x hx => ?_) parts _ _ (by simpa using hf)
      simp only [List.getElem?_map] at hx
      cases hr : (List.range k)[i]? with
      | none => rw [hr] at hx; cases hx
      | some j =>
        rw [hr] at hx
        have : j = i := by
          have := List.getElem?_eq_some_iff.1 hr
          obtain ⟨_, h⟩ := this
          simpa using h.symm
        subst this
        simpa using hx
    · cases hB
  · rename_i it fields h1 h2
    rw [h1, h2]
    split at hB
    · rename_i z' places' hz hp
      cases hB
      dsimp only
      rw [hz, hp]
      dsimp only
      simpa using hf
    · cases hB
  · cases hB
theorem parts_of (S : St n fl a) {parts : List (Nat × Operand)} {idx : List Nat} {vs : List Value} (hi : parts.map (·.1) = idx) (hv : Gw.evs fl (parts.map (·.2)) = some vs) : parts.map (fun p => (p.1, a.eval p.2)) = idx.zip vs := by
  have h := S.evs hv
  subst hi
  rw [← h]
  clear h hv
  induction parts with
  | nil => rfl
  | cons p r ih => simp [ih]
theorem y_buildf {T : TypeId} {parts : Array (Nat × Operand)} {z vs cs : List Value} {places : List (Nat × Nat)} {idx : List Nat} (ho : o.op = .build T parts) (hB : buildB P T = some (z, places)) (S : St n fl a) (hi : parts.toList.map (·.1) = idx) (hv : evs fl (parts.toList.map (·.2)) = some vs)
    (hf : Instr.fill (fun i => places[i]?) z.toArray (idx.zip vs) = some cs.toArray) : Yld P o a w (.agg cs.toArray) := by
  unfold Yld execOp; rw [ho]
  have h := parts_of S hi hv
  have hb := built_of (P := P) (T := T) hB hf
  have hb' : P.built T (parts.map fun (i, x) => (i, a.eval x)).toList = some cs.toArray := by
    rw [← hb, ← h]; simp
  simp [run_build (P := P) w T _ _ hb']
theorem y_iaddrn {T E : TypeId} {x ix : Operand} {i : Nat} {k : IntKind} {sz : Nat} {α : Type} {enc : α → List Value} {xs : List α} (ho : o.op = .indexAddr T x ix) (hT : P.underlying T = some (.slice E)) (hE : sizeB P E sz = true) (S : St n fl a) (H : HSat M w0 l w)
    (hx : ev fl x = some v) (hi : ev fl ix = some (.int k (i : Int))) [h : HasSl l v sz α enc xs] (hb : i < xs.length) : Yld P o a w (.pointer (some (elemAddr v i sz))) := by
  have := y_iaddrs (P := P) (w := w) ho hT hE S H hx hi (h := h) (by omega)
  simpa using this
theorem y_conv {T D : TypeId} {x : Operand} {k k' : IntKind} {m : Int} (ho : o.op = .convert T D x) (hT : P.underlying T = some (.int k)) (hD : P.underlying D = some (.int .i64)) (S : St n fl a) (hx : ev fl x = some (.int k' m)) (hb : -9223372036854775808 ≤ m ∧ m ≤ 9223372036854775807) : Yld P o a w (.int .i64 m) := by
  unfold Yld execOp; rw [ho]; simp [S.ev hx, convert, run_underlying hT, run_underlying hD, Conv.intToInt, wrap_in hb.1 hb.2]
theorem y_neg {T : TypeId} {x : Operand} {m : Int} (ho : o.op = .unOp .neg T x) (S : St n fl a) (hx : ev fl x = some (.int .i64 m)) (hb : -9223372036854775808 ≤ -m ∧ -m ≤ 9223372036854775807) : Yld P o a w (.int .i64 (-m)) := by
  unfold Yld execOp; rw [ho]; simp [S.ev hx, Op.unary, Op.intArith, wrap_in hb.1 hb.2]
theorem y_nilCheck {x : Operand} {p : Addr} (ho : o.op = .nilCheck x) (S : St n fl a) (hx : ev fl x = some (.pointer (some p))) : Yld P o a w (.pointer (some p)) := by
  unfold Yld execOp; rw [ho]; simp [S.ev hx]
variable {r : Option Nat} {ops : Array Oper} {Q : Exit → Act → World → Prop} {d : Nat} {K : Act → World → Prop}
theorem op_box1 (hw : Region.wanted o (yielded ops a.tmps) = true) (hd : o.dst = some d) (hn : Nat.blt d n.n = true) {T : TypeId} {x : Operand} (ho : o.op = .box T x) (S : St n fl a) (H : HSat M w0 l w) (hx : ev fl x = some v) (hcs : v.cells.toList = [v])
    (k : ∀ b a' w', St n ((d, .pointer (some ⟨b, 0, none⟩)) :: fl) a' → HSat M w0 (Cel b T [v] :: l) w' → K a' w') : opw P ops o a w K := op_box hw hd hn ho S H hx hcs k
theorem op_boxa (hw : Region.wanted o (yielded ops a.tmps) = true) (hd : o.dst = some d) (hn : Nat.blt d n.n = true) {T : TypeId} {x : Operand} {cs : List Value} (ho : o.op = .box T x) (S : St n fl a) (H : HSat M w0 l w) (hx : ev fl x = some (.agg cs.toArray))
    (k : ∀ b a' w', St n ((d, .pointer (some ⟨b, 0, none⟩)) :: fl) a' → HSat M w0 (Cel b T cs :: l) w' → K a' w') : opw P ops o a w K := op_box hw hd hn ho S H hx (by simp [Value.cells]) k
theorem loop_k {X : Type} {c : Code} {flU : Slots} (SU : St n flU a) (mods : X → Slots) (inv : X → Prop) (μ : X → Nat) (x0 : X) (S0 : St n (mods x0) a) (H0 : HSat M w0 l w) (h0 : inv x0)
    (body : ∀ x a w, St n (mods x ++ flU) a → HSat M w0 l w → inv x →
      gp r P c (Exit.then (fun a' w' => ∃ y, St n (mods y) a' ∧ St n flU a' ∧ HSat M w0 l w' ∧ inv y ∧ μ y < μ x) Q) a w) : gp r P (Code.loop c) Q a w :=
  loop SU mods (fun _ => l) inv μ x0 S0 H0 h0 body
end
section
variable {P : Program} {o : Oper} {n : Sz} {fl : Slots} {a : Act} {w0 : World} {M : Nat → Prop} {l : List Atom} {ops : Array Oper} {loud tails free rest rem rem' : List Nat} {ro : List Atom} {K : Act → World → Prop} {j d f : Nat}
theorem m_loads {T : TypeId} {x : Operand} {i sz : Nat} {α : Type} {enc : α → List Value} {xs : List α} {u : Value} (v : Value) (h1 : ops[j]? = some o) (h2 : (loud.contains j || free.contains j) = false) (h3 : Region.wanted o (yielded ops a.tmps) = true) (hd : o.dst = some d) (hn : Nat.blt d n.n = true) (S : St n fl a) (ho : o.op = .load T x) (hT : scalarB P T = true)
    (hx : ev fl x = some (.pointer (some (elemAddr v i sz)))) [h : HasSl l v sz α enc xs] (hi : i < xs.length) (hu : (enc xs[i])[0]? = some u) (k : ∀ a', St n ((d, u) :: fl) a' → Mix P ops loud tails free (RO ro) K rest a' (HSat M w0 l)) : Mix P ops loud tails free (RO ro) K (j :: rest) a (HSat M w0 l) :=
  m_w h1 h2 h3 hd hn S (fun w H => y_loads v ho hT S H hx hi hu) k
end
end Go.Gw
