/- Copies into own slices; & and >> of numbers that are not negative. No condition. -/
import Derived.Test.YtnnendajegdnhaaGwQue
import Derived.Laws.CopyRow
import Derived.Laws.Bits64b
import Derived.ArgAppend
namespace Go.Gw
set_option linter.unusedVariables false
set_option linter.unusedSimpArgs false
section
variable {P : Program} {o : Oper} {n : Sz} {fl : Slots} {a : Act} {w w0 : World} {v : Value} {M : Nat → Prop} {l : List Atom} {ops : Array Oper} {d : Nat} {K : Act → World → Prop}
theorem flat_len1 {α : Type} {enc : α → List Value} {xs : List α} (hs : ∀ x ∈ xs, (enc x).length = 1) : (xs.flatMap enc).length = xs.length := by
  have := flatMap_len hs; omega
theorem flat_take1 {α : Type} {enc : α → List Value} : ∀ {xs : List α} (hs : ∀ x ∈ xs, (enc x).length = 1) (i : Nat), (xs.flatMap enc).take i = (xs.take i).flatMap enc
  | [], _, i => by simp
  | x :: r, hs, 0 => by simp
  | x :: r, hs, i + 1 => by
    have h1 := hs x (by simp)
    have ih := flat_take1 (xs := r) (fun y hy => hs y (by simp [hy])) i
    simp only [List.flatMap_cons, List.take_succ_cons]
    rw [List.take_append, List.take_of_length_le (by omega), h1, ← ih]
    simp
theorem flat_drop1 {α : Type} {enc : α → List Value} : ∀ {xs : List α} (hs : ∀ x ∈ xs, (enc x).length = 1) (i : Nat), (xs.flatMap enc).drop i = (xs.drop i).flatMap enc
  | [], _, i => by simp
  | x :: r, hs, 0 => by simp
  | x :: r, hs, i + 1 => by
    have h1 := hs x (by simp)
    have ih := flat_drop1 (xs := r) (fun y hy => hs y (by simp [hy])) i
    simp only [List.flatMap_cons, List.drop_succ_cons]
    rw [List.drop_append, List.drop_of_length_le (by omega), h1, ← ih]
    simp
theorem IsSl.one {sz : Nat} {α : Type} {enc : α → List Value} {xs : List α} (h : IsSl w v sz enc xs) : v.oneCell' = true := by
  obtain ⟨p, c, rfl⟩ := h.shape; rfl
/-- copy(v[i:], ys) -/
theorem op_copy {T T2 E : TypeId} {x y : Operand} {vd vs : Value} {i m : Nat} {α : Type} {enc : α → List Value} {xs ys : List α} {l' : Atom → List Atom} (v : Value) (hw : Region.wanted o (yielded ops a.tmps) = true) (hd : o.dst = some d) (hn : Nat.blt d n.n = true) (ho : o.op = .call { callee := .builtin .copy, args := #[x, y], argTypes := #[T, T2] }) (hT : P.underlying T = some (.slice E)) (hE : sizeB P E 1 = true)
    (S : St n fl a) (H : HSat M w0 l w) (hx : ev fl x = some vd) (hy : ev fl y = some vs) [hO : HasO l v E 1 α enc xs l'] [hY : HasSl l vs 1 α enc ys] (hvd : (vd = v ∧ i = 0) ∨ vd = subV v i xs.length 1) (h1 : ∀ y ∈ ys, ∀ u ∈ enc y, u.oneCell' = true) (hi : i ≤ xs.length) (hm : m = min ys.length (xs.length - i))
    (k : ∀ a' w', St n ((d, .int .i64 (m : Int)) :: fl) a' → HSat M w0 (l' (OSl E v 1 enc (xs.take i ++ ys.take m ++ xs.drop (i + m)))) w' → K a' w') : opw P ops o a w K := by
  obtain ⟨l1, l2, e1, e2⟩ := hO.at_
  have hok : IsOSl w E v 1 enc xs := H.ok (OSl E v 1 enc xs) (by rw [e1]; simp)
  have hsl := H.sl vs (h := hY)
  obtain ⟨q, c, hvsh⟩ := hsl.shape
  have hs1 : (P.info? E).map (·.size) = some 1 := sizeB_size hE
  have hcap := hok.cap
  -- the destination
  have hdst : ∃ p cd, vd = .slice p (xs.length - i) cd ∧ ∀ g off cp, v = .slice (some ⟨g, off, none⟩) xs.length cp → i < xs.length → p = some ⟨g, off + i, none⟩ := by
    obtain ⟨pv, cv, hv⟩ := hok.sl.shape
    have hcv : xs.length ≤ cv := by rw [hv] at hcap; exact hcap
    rcases hvd with ⟨rfl, rfl⟩ | rfl
    · exact ⟨pv, cv, by rw [hv]; simp, fun g off cp e _ => by rw [e] at hv; cases hv; rfl⟩
    · subst hv
      refine ⟨if cv = i then pv else pv.map (·.add (i * 1)), cv - i, by simp [subV], fun g off cp e hlt => ?_⟩
      rw [if_neg (by omega)]
      cases e
      simp [add_plain]
  obtain ⟨p, cd, hvd', hp⟩ := hdst
  by_cases hm0 : m = 0
  · have hrun : (execOp a.eval o).run P w = .ok (.value (.int .i64 ((0 : Nat) : Int))) w := by
      unfold execOp; rw [ho]
      simp only [resolve, invoke, builtin, Sem.run_bind, Sem.run_pure, Result.andThen_ok, List.map_toArray, List.map_cons, List.map_nil, S.ev hx, S.ev hy]
      rw [hvd', hvsh]
      have hz : Nat.min ys.length (xs.length - i) = 0 := by show min _ _ = 0; omega
      have hsz : (sizeOf E).run P w = .ok 1 w := run_sizeOf_agg hs1
      have hf : (Builtin.firstCells 1 0 (.slice q ys.length c)).run P w = .ok #[] w := by
        cases q with
        | none => rfl
        | some ad => simp [Builtin.firstCells, loadCells, loadCellsFrom]
      simp only [Builtin.copy_, Sem.run_bind, run_underlying hT, Result.andThen_ok, Builtin.lenOf, Sem.run_pure, hz, hsz, hf, goInt]
      cases p <;> simp [storeCells, hf, hsz, run_underlying hT, Builtin.lenOf, hz, goInt]
    refine opw_val hw hrun ?_
    rw [hd]
    subst hm0
    refine k _ _ (S.put hn _) ?_
    rw [e2, List.take_zero, List.append_nil, Nat.add_zero, List.take_append_drop, ← e1]; exact H
  · have hmp : 0 < m := by omega
    have hne : xs ≠ [] := fun e => by subst e; simp at hm; omega
    have hney : ys ≠ [] := fun e => by subst e; simp at hm; omega
    rcases hok.row.2 with ⟨_, hnn⟩ | ⟨g, cap, cur, hv, hbase, hg, hnc, hcm, hcs, ht⟩
    · exact absurd (List.eq_nil_of_length_eq_zero hnn) hne
    · obtain ⟨b, off, c', hvs', hcell⟩ := hsl.flat (by omega) hney
      have hp' : p = some ⟨g, i, none⟩ := by rw [hp g 0 cap hv (by omega)]; simp
      have hlm : ((ys.take m).flatMap enc).length = m := by
        rw [flat_len1 (fun y hy => hsl.sizes y (List.mem_of_mem_take hy)), List.length_take]; omega
      have hcur : cap ≤ cur.size := by omega
      have hrun : (execOp a.eval o).run P w = .ok (.value (.int .i64 (m : Int))) (w.setRow g (cur.toList.take i ++ (ys.take m).flatMap enc ++ cur.toList.drop (i + ((ys.take m).flatMap enc).length)).toArray) := by
        unfold execOp; rw [ho]
        simp only [resolve, invoke, builtin, Sem.run_bind, Sem.run_pure, Result.andThen_ok, List.map_toArray, List.map_cons, List.map_nil, S.ev hx, S.ev hy]
        have hr := run_copy_row (P := P) w T T2 o.type E g i (xs.length - i) cd ⟨b, off, none⟩ ys.length c' cur E ((ys.take m).flatMap enc) hT hs1 hg (by rw [hlm]; exact hm) (fun j u hu => by
          rw [add_plain]; refine hcell j u ?_
          rw [← flat_take1 hsl.sizes, List.getElem?_take] at hu
          split at hu
          · exact hu
          · cases hu) (by rw [hlm]; omega) (fun u hu => by
          obtain ⟨y, hy, hu⟩ := List.mem_flatMap.1 hu
          exact h1 y (List.mem_of_mem_take hy) u hu)
        rw [hvd', hp', hvs', hr]
        simp [hlm, goInt]
      refine opw_val hw hrun ?_
      rw [hd]
      refine k _ _ (S.put hn _) ?_
      rw [e2]
      rw [e1] at H
      have hL : (xs.take i ++ ys.take m ++ xs.drop (i + m)).length = xs.length := by
        simp only [List.length_append, List.length_take, List.length_drop]; omega
      have hflat : (xs.take i ++ ys.take m ++ xs.drop (i + m)).flatMap enc = (xs.flatMap enc).take i ++ (ys.take m).flatMap enc ++ (xs.flatMap enc).drop (i + m) := by
        rw [List.flatMap_append, List.flatMap_append, flat_take1 hok.sizes, flat_drop1 hok.sizes]
      have hxl := flat_len1 hok.sizes
      refine HSat.swap H rfl rfl (⟨rfl, rfl, rfl, by simp [World.setRow], fun r _ hr => setRow_other w g r _ (fun e => hr (by subst e; rw [hv]; rfl)), fun r hr => ?_⟩) ⟨⟨?_, .inr ⟨g, cap, _, by rw [hL]; exact hv, hbase, setRow_heap w g _ _ _ _ hg, by rw [hL]; exact hnc, hcm, ?_, ?_⟩⟩, by rw [hL]; exact hok.len, fun z hz => ?_⟩ (fun b hb => .inl hb)
      · by_cases hqg : r = g
        · subst hqg; rw [setRow_heap w r _ _ _ _ hg]; exact Nat.le_refl 0
        · rw [setRow_other w g r _ hqg]; exact hr
      · rw [hflat, hL]
        simp only [List.length_append, List.length_take, List.length_drop, hlm, hxl]; omega
      · simp only [List.size_toArray, List.length_append, List.length_take, List.length_drop, Array.length_toList, hlm]; omega
      · rw [hflat, hL, hlm]
        have ht' : xs.flatMap enc = cur.toList.take xs.length := by rw [← ht]; simp
        rw [ht']
        have hcl : cur.toList.length = cur.size := by simp
        have m1 : min i cur.toList.length = i := by omega
        have m2 : min xs.length i = i := by omega
        have m3 : min i xs.length = i := by omega
        simp only [Nat.mul_one]
        rw [List.take_append, List.take_append, List.length_append, List.length_take, List.take_take, List.take_take, List.drop_take, m1, m2, m3, List.take_of_length_le (l := (ys.take m).flatMap enc) (by omega), hlm]
      · rcases List.mem_append.1 hz with hz | hz
        · rcases List.mem_append.1 hz with hz | hz
          · exact hok.sizes z (List.mem_of_mem_take hz)
          · exact hsl.sizes z (List.mem_of_mem_take hz)
        · exact hok.sizes z (List.mem_of_mem_drop hz)
/-- two words and-ed -/
theorem y_andu {T U : TypeId} {x y : Operand} {m q r : Nat} (ho : o.op = .binOp .and T x y U) (S : St n fl a) (hx : ev fl x = some (.int .u64 (m : Int))) (hy : ev fl y = some (.int .u64 (q : Int))) (hm : m < 18446744073709551616) (hq : q < 18446744073709551616) (hr : m &&& q = r) : Yld P o a w (.int .u64 (r : Int)) := by
  unfold Yld execOp; rw [ho]; simp only [S.ev hx, S.ev hy]
  have h := bits_and_u64_nat m q hm hq
  rw [hr] at h
  simp only [bits] at h
  simp only [eqGuard, binOp, Op.intBits, h]
  simp [h]
theorem y_shr {T U : TypeId} {x y : Operand} {k k2 : IntKind} {m q r : Int} (ho : o.op = .binOp .shr T x y U) (S : St n fl a) (hx : ev fl x = some (.int k m)) (hy : ev fl y = some (.int k2 q)) (hq : 0 ≤ q) (hr : m.fdiv (2 ^ (min q.toNat k.bits)) = r) : Yld P o a w (.int k r) := by
  unfold Yld execOp; rw [ho]; simp only [S.ev hx, S.ev hy]
  simp [eqGuard, binOp, Op.shift, show ¬ q < 0 by omega, hr]
theorem y_lookupE {κ β : Type} {inst : DecidableEq κ} {T kt et : TypeId} {x ix : Operand} {b : Nat} {kenc : κ → Value} {enc : β → Value} {m : κ → Option β} {c : Nat} (k : κ) (z0 : β) {z : Value} {sz by_ : Nat} (ho : o.op = .lookup T x ix false) (hT : P.underlying T = some (.map kt et)) (hE : infoB P et = some (z, sz, by_)) (S : St n fl a) (H : HSat M w0 l w)
    (hx : ev fl x = some (.map (some b))) [h : RdMap l b κ β inst kenc enc m c] (KO : KeyOK P kt kenc) (hi : ev fl ix = some (kenc k)) (hz : enc z0 = z) (hv : enc ((m k).getD z0) = v) : Yld P o a w v := by
  rw [← hv]; exact y_lookup k z0 ho hT hE S H hx KO hi hz
theorem y_lookupokE {κ β : Type} {inst : DecidableEq κ} {T kt et : TypeId} {x ix : Operand} {b : Nat} {kenc : κ → Value} {enc : β → Value} {m : κ → Option β} {c : Nat} (k : κ) (z0 : β) {z : Value} {sz by_ : Nat} (ho : o.op = .lookup T x ix true) (hT : P.underlying T = some (.map kt et)) (hE : infoB P et = some (z, sz, by_)) (S : St n fl a) (H : HSat M w0 l w)
    (hx : ev fl x = some (.map (some b))) [h : RdMap l b κ β inst kenc enc m c] (KO : KeyOK P kt kenc) (hi : ev fl ix = some (kenc k)) (hz : enc z0 = z) (hv : Value.tuple #[enc ((m k).getD z0), .bool (m k).isSome] = v) : Yld P o a w v := by
  rw [← hv]; exact y_lookupok k z0 ho hT hE S H hx KO hi hz
theorem HSat.call4 {w' : World} {x y z u : Atom} (H : HSat M w0 l w) (H' : HSat No w [x, y, z, u] w') (hx : x.own = true) (hy : y.own = true) (hz : z.own = true) (hu : u.own = true) : HSat M w0 (x :: y :: z :: u :: l) w' :=
  H.call H' (by intro q hq; simp only [List.mem_cons, List.not_mem_nil, or_false] at hq; rcases hq with rfl | rfl | rfl | rfl <;> assumption)
/-- two results, of which the first one lies in a block -/
theorem ret2ct {fn : Func} {R : Value → World → Prop} {u s T b : Nat} {v' : Value} {cs : List Value} {T' : TypeId} {fz : Nat × Nat} (hr : fn.results = #[.cell u T, .tmp s]) (S : St n fl a) (H : HSat M w0 l w) (hu : fl.lookup u = some (.pointer (some ⟨b, 0, none⟩))) (hv' : fl.lookup s = some v')
    [h : HasRd l b (.cells cs.toArray T' fz)] (hT : aggB P T cs.length = true) (hR : R (.tuple #[.agg cs.toArray, v']) w) (hds : n.ds = [] := by rfl) : endP P fn R .ret a w := by
  refine end_ret S hds (v := .tuple #[.agg cs.toArray, v']) ?_ hR
  have hl := run_loadVar_agg (P := P) (w := w) (p := ⟨b, 0, none⟩) hT (fun j u hu => by rw [add_plain, H.cell h]; simpa using hu)
  have hu' : a.tmps[u]?.getD undef = .pointer (some ⟨b, 0, none⟩) := by rw [← Array.getD_eq_getD_getElem?]; exact S.get u _ hu
  have h2 : a.tmps[s]?.getD undef = v' := by rw [← Array.getD_eq_getD_getElem?]; exact S.get s _ hv'
  simp [results, hr, hu', h2, asAddr, hl]
/-- the second one lies in a block; the function holds loops over functions -/
theorem ret2tcM {fn : Func} {R : Value → World → Prop} {t u T b : Nat} {cs : List Value} {T' : TypeId} {fz : Nat × Nat} {m : Nat} {ds : List Nat} (hr : fn.results = #[.tmp t, .cell u T]) (S : St ⟨m, ds⟩ fl a) (H : HSat M w0 (DefsA ds :: l) w) (hv : fl.lookup t = some v) (hu : fl.lookup u = some (.pointer (some ⟨b, 0, none⟩)))
    [h : HasRd l b (.cells cs.toArray T' fz)] (hT : aggB P T cs.length = true) (hR : ∀ w, HSat M w0 l w → R (.tuple #[v, .agg cs.toArray]) w) : endP P fn R .ret a w := by
  show LeavesInM Fence.wide 0 P fn a.tmps _ a.defers .returning w
  rw [S.defers]
  refine leavesM (fun w H => ?_) hR ds w H
  have hl := run_loadVar_agg (P := P) (w := w) (p := ⟨b, 0, none⟩) hT (fun j u hu => by rw [add_plain, H.cell h]; simpa using hu)
  have hu' : a.tmps[u]?.getD undef = .pointer (some ⟨b, 0, none⟩) := by rw [← Array.getD_eq_getD_getElem?]; exact S.get u _ hu
  have h1 : a.tmps[t]?.getD undef = v := by rw [← Array.getD_eq_getD_getElem?]; exact S.get t _ hv
  simp [results, hr, hu', h1, asAddr, hl]
/-- one kind of integers turned into another -/
theorem y_convg {T D : TypeId} {x : Operand} {k k' k2 : IntKind} {m r : Int} (ho : o.op = .convert T D x) (hT : P.underlying T = some (.int k)) (hD : P.underlying D = some (.int k2)) (S : St n fl a) (hx : ev fl x = some (.int k' m)) (hr : k2.wrap m = r) : Yld P o a w (.int k2 r) := by
  unfold Yld execOp; rw [ho]; simp [S.ev hx, convert, run_underlying hT, run_underlying hD, Conv.intToInt, hr]
end
/-- how a condition reads -/
theorem DL : (∀ (α : Type) (x : α), (some x).isNone = false) ∧ (∀ (α : Type), (none : Option α).isNone = true) ∧ (∀ (α : Type) (x : α), (some x).isSome = true) ∧ (∀ (α : Type), (none : Option α).isSome = false) ∧
    (∀ p : Prop, (False ∨ p) = p) ∧ (∀ p : Prop, (p ∨ False) = p) ∧ (∀ p : Prop, (True ∧ p) = p) ∧ (∀ p : Prop, (p ∧ True) = p) ∧ (∀ (p : Prop) [Decidable p], (decide p = true) = p) ∧ (∀ (p : Prop) [Decidable p], decide p = false ↔ ¬p) ∧
    (∀ x y : Bool, ((x || y) = true) = (x = true ∨ y = true)) ∧ (∀ x y : Bool, ((x && y) = true) = (x = true ∧ y = true)) ∧ (∀ x y : Bool, ((x || y) = false) = (x = false ∧ y = false)) ∧ (∀ x y : Bool, ((x && y) = false) = (x = false ∨ y = false)) ∧
    (∀ x : Bool, ((!x) = true) = (x = false)) ∧ (∀ x : Bool, ((!x) = false) = (x = true)) ∧ (∀ (α : Type) [BEq α] [LawfulBEq α] (x y : α), (x != y) = true ↔ x ≠ y) ∧ (∀ (α : Type) [BEq α] [LawfulBEq α] (x y : α), (x == y) = true ↔ x = y) ∧
    (∀ (α : Type) [BEq α] [LawfulBEq α] (x y : α), (x == y) = false ↔ x ≠ y) ∧ (∀ (α : Type) [BEq α] [LawfulBEq α] (x y : α), (x != y) = false ↔ x = y) ∧ (∀ (α : Type) (x y : α), (x ≠ y) = ¬(x = y)) ∧ (∀ (p : Prop) [Decidable p], ¬¬p ↔ p) ∧
    (∀ x y : Int, ¬x < y ↔ y ≤ x) ∧ (∀ x y : Int, ¬x ≤ y ↔ y < x) ∧ (∀ x y : Int, x > y ↔ y < x) ∧ (∀ x y : Int, x ≥ y ↔ y ≤ x) ∧ (∀ x y : Nat, x > y ↔ y < x) ∧ (∀ x y : Nat, x ≥ y ↔ y ≤ x) ∧ ((true = false) = False) ∧ ((false = true) = False) ∧ ((¬True) = False) ∧ ((¬False) = True) :=
  ⟨fun _ _ => rfl, fun _ => rfl, fun _ _ => rfl, fun _ => rfl, false_or, or_false, true_and, and_true, @decide_eq_true_eq, @decide_eq_false_iff_not, Bool.or_eq_true, Bool.and_eq_true, fun x y => by cases x <;> cases y <;> simp, fun x y => by cases x <;> cases y <;> simp, fun x => by cases x <;> simp, fun x => by cases x <;> simp,
    fun _ _ _ _ _ => bne_iff_ne, fun _ _ _ _ _ => beq_iff_eq, fun _ _ _ _ _ => beq_eq_false_iff_ne, fun _ _ _ _ _ => bne_eq_false_iff_eq, fun _ _ _ => rfl, @Decidable.not_not, fun _ _ => Int.not_lt, fun _ _ => Int.not_le, fun _ _ => Iff.rfl, fun _ _ => Iff.rfl, fun _ _ => Iff.rfl, fun _ _ => Iff.rfl, by simp, by simp, by simp, by simp⟩
/-- how lengths read -/
theorem LL : (∀ (α : Type) (a b : List α), (a ++ b).length = a.length + b.length) ∧ (∀ (α : Type) (i : Nat) (a : List α), (a.take i).length = min i a.length) ∧ (∀ (α : Type) (i : Nat) (a : List α), (a.drop i).length = a.length - i) ∧ (∀ (α : Type) (i : Nat) (x : α), (List.replicate i x).length = i) ∧
    (∀ (α : Type) (i : Nat) (x : α) (a : List α), (a.set i x).length = a.length) ∧ (∀ (α β : Type) (f : α → β) (a : List α), (a.map f).length = a.length) ∧ (∀ (α : Type) (x : α) (a : List α), (x :: a).length = a.length + 1) ∧ (∀ α : Type, ([] : List α).length = 0) :=
  ⟨fun _ _ _ => List.length_append, fun _ _ _ => List.length_take, fun _ _ _ => List.length_drop, fun _ _ _ => List.length_replicate, fun _ _ _ _ => List.length_set, fun _ _ _ _ => List.length_map _, fun _ _ _ => rfl, fun _ => rfl⟩
section
variable {P : Program} {o : Oper} {n : Sz} {fl : Slots} {a : Act} {w w0 : World} {v : Value} {M : Nat → Prop} {l : List Atom} {ops : Array Oper} {d : Nat} {K : Act → World → Prop} {Q : Exit → Act → World → Prop} {rest : List Oper} {tails rem : List Nat} {ro : List Atom} {f i : Nat}
/-- a quiet step that stands under no guard -/
theorem gy (hg : o.guard = none) (hd : o.dst = some d) (hn : Nat.blt d n.n = true) (S : St n fl a) (hy : Yld P o a w v) (k : ∀ a', St n ((d, v) :: fl) a' → gl P ops Q rest a' w) : gl P ops Q (o :: rest) a w := wl_of (op_y (wn hg) hd hn S hy k)
/-- a move, a variable set -/
theorem gm {x : Operand} (S : St n fl a) (k : ∀ a', St n ((d, v) :: fl) a' → gl P ops Q rest a' w) (hg : o.guard = none := by rfl) (hd : o.dst = some d := by rfl) (hn : Nat.blt d n.n = true := by rfl) (ho : o.op = .move x := by rfl) (hx : ev fl x = some v := by rfl) : gl P ops Q (o :: rest) a w := gy hg hd hn S (y_move ho S hx) k
theorem ga {x : Operand} (S : St n fl a) (k : ∀ a', St n ((d, v) :: fl) a' → gl P ops Q rest a' w) (hg : o.guard = none := by rfl) (hd : o.dst = some d := by rfl) (hn : Nat.blt d n.n = true := by rfl) (ho : o.op = .assign x := by rfl) (hx : ev fl x = some v := by rfl) : gl P ops Q (o :: rest) a w := gy hg hd hn S (y_assign ho S hx) k
theorem gsr {r : Option Nat} {id : Nat} {L : List Oper} {y : Code} (h : gl P L.toArray (Exit.then (gp r P y Q) Q) L a w) : gp r P (.seq (.region id L.toArray false) y) Q a w := g_seq (g_region h)
theorem gnt {K : Act → World → Prop} (h : K a w) : gl P ops (Exit.then K Q) [] a w := gl_nil (n_then h)
/-- a quiet step that stands under a guard -/
theorem gz (g : Nat) {j : Nat} {b B : Bool} (h : B = b) (S : St n fl a) (hg : o.guard = some (j, b)) (hj : (ops[j]?).bind (·.dst) = some g) (hb : fl.lookup g = some (.bool B)) (hl : Nat.blt g n.n = true) (hd : o.dst = some d) (hn : Nat.blt d n.n = true) (hy : Yld P o a w v) (k : ∀ a', St n ((d, v) :: fl) a' → gl P ops Q rest a' w) : gl P ops Q (o :: rest) a w :=
  wl_of (op_y (wg' g hg hj S hb h hl) hd hn S hy k)
theorem t_b1 (i : Nat) (hrs : rem.filter (readyB .any ops rem) = [i]) (hi : ops[i]? = some o)
    (h : ∀ w, HSat M w0 l w → opw P ops o a w (fun a' w' => ∃ C', Stable C' ∧ C' w' ∧ ((∀ w, C' w → HSat M w0 l w) ∨ tails.contains i = true) ∧ (∀ w, C' w → RO ro w) ∧ MixT P .any ops tails (RO ro) K f (rem.erase i) a' C')) : MixT P .any ops tails (RO ro) K (f + 1) rem a (HSat M w0 l) :=
  t_b [i] hrs rfl (fun j hj => by obtain rfl := List.mem_singleton.1 hj; exact ⟨o, hi, h⟩)
theorem fa2 {p : Nat → Prop} {x y : Nat} (h1 : p x) (h2 : p y) : ∀ i ∈ [x, y], p i := fun i hi => by simp only [List.mem_cons, List.not_mem_nil, or_false] at hi; rcases hi with rfl | rfl <;> assumption
theorem fa3 {p : Nat → Prop} {x y z : Nat} (h1 : p x) (h2 : p y) (h3 : p z) : ∀ i ∈ [x, y, z], p i := fun i hi => by simp only [List.mem_cons, List.not_mem_nil, or_false] at hi; rcases hi with rfl | rfl | rfl <;> assumption
theorem fa4 {p : Nat → Prop} {x y z u : Nat} (h1 : p x) (h2 : p y) (h3 : p z) (h4 : p u) : ∀ i ∈ [x, y, z, u], p i := fun i hi => by simp only [List.mem_cons, List.not_mem_nil, or_false] at hi; rcases hi with rfl | rfl | rfl | rfl <;> assumption
/-- atoms put in front -/
class SubL (l l' : List Atom) : Prop where
  sub : l.Sublist l'
instance (priority := 2000) SubL.refl (l : List Atom) : SubL l l := ⟨List.Sublist.refl _⟩
instance SubL.cons (l : List Atom) (x : Atom) (l' : List Atom) [h : SubL l l'] : SubL l (x :: l') := ⟨h.sub.cons x⟩
theorem t_n [ROs ro] {a' : Act} {w' : World} {l' : List Atom} {rem' : List Nat} [HasRO l' ro] (H : HSat M w0 l' w') [hs : SubL l l'] (hr : rem.erase i = rem') (h : MixT P .any ops tails (RO ro) K f rem' a' (HSat M w0 l')) :
    ∃ C', Stable C' ∧ C' w' ∧ ((∀ w, C' w → HSat M w0 l w) ∨ tails.contains i = true) ∧ (∀ w, C' w → RO ro w) ∧ MixT P .any ops tails (RO ro) K f (rem.erase i) a' C' := t_next H hs.sub hr h
end
end Go.Gw
