/- One element put into an own slice, in place or in a new one; structs compared; a function of the model's own. No condition. -/
import Derived.Test.YtngocpdmlijnfaaDoorGwDel
import Derived.Lib.Overlaps
import Derived.Lib.AppendZerosOnto
import Derived.Laws.NewBlocks
namespace Go.Gw
set_option linter.unusedVariables false
set_option linter.unusedSimpArgs false
section
variable {P : Program} {o : Oper} {n : Sz} {fl : Slots} {a : Act} {w w0 : World} {v : Value} {M : Nat → Prop} {l : List Atom} {ops : Array Oper} {d : Nat} {K : Act → World → Prop}
theorem y_nea {T U : TypeId} {x y : Operand} {xs ys : List Value} {b : Bool} (h : ∀ w, (Op.equalIn 10000 T (.agg xs.toArray) (.agg ys.toArray)).run P w = .ok b w) (ho : o.op = .binOp .neq T x y U) (hg : P.eqGuardType P.depth T = false) (S : St n fl a) (hx : ev fl x = some (.agg xs.toArray)) (hy : ev fl y = some (.agg ys.toArray)) : Yld P o a w (.bool (!b)) := by
  unfold Yld execOp; rw [ho]
  simp only [S.ev hx, S.ev hy, Sem.run_bind, run_eqGuard_agg w _ T _ _ _ _ hg, Result.andThen_ok, run_neq_struct, h, Sem.run_pure]
theorem y_extern {f : FuncId} {xs : Array Operand} {at_ : Array TypeId} {vs : List Value} (ho : o.op = .call { callee := .value (.func f), args := xs, argTypes := at_ }) (S : St n fl a) (hx : evs fl xs.toList = some vs) (he : (callFunc f vs.toArray).run P w = .ok (.value v) w) : Yld P o a w v := by
  have h := S.evs hx
  have h2 : xs.map a.eval = vs.toArray := by rw [← h, ← Array.toList_map]
  unfold Yld execOp; rw [ho]
  simp only [resolve, Act.eval, Deferred.ofValue, h2]
  simpa [invoke] using he
/-- an own slice's cells -/
theorem IsOSl.cells {E : TypeId} {sz g m c : Nat} {α : Type} {enc : α → List Value} {xs : List α} (h : IsOSl w E (.slice (some ⟨g, 0, none⟩) m c) sz enc xs) (i j : Nat) (u : Value) (hi : i ≤ xs.length) (hu : ((xs.drop i).flatMap enc)[j]? = some u) : w.cell? ⟨g, i * sz + j, none⟩ = some u := by
  rcases h.row.2 with ⟨e, _⟩ | ⟨g', cap, cur, e, _, hg, hnc, hmax, hcs, ht⟩
  · cases e
  · simp only [Value.slice.injEq, Option.some.injEq, Addr.mk.injEq, and_true, true_and] at e
    obtain ⟨rfl, rfl, rfl⟩ := e
    rw [cell_of_row w g _ cur E (0, 0) hg]
    rw [← flat_drop h.sizes i hi, List.getElem?_drop, ← ht, List.getElem?_take] at hu
    split at hu
    · simpa using hu
    · cases hu
theorem HSat.hd {x : Atom} (H : HSat M w0 (x :: l) w) : x.ok w := H.ok x (List.mem_cons_self ..)
theorem y_subn {T U : TypeId} {x y : Operand} {p q : Int} {m : Nat} (ho : o.op = .binOp .sub T x y U) (S : St n fl a) (hx : ev fl x = some (.int .i64 p)) (hy : ev fl y = some (.int .i64 q)) (h : p - q = (m : Int)) (hb : m ≤ 9223372036854775807) : Yld P o a w (.int .i64 (m : Int)) := by
  rw [← h]; exact y_sub ho S hx hy (by omega)
theorem y_remN {T U : TypeId} {x y : Operand} {k : IntKind} {m q : Nat} (ho : o.op = .binOp .rem T x y U) (S : St n fl a) (hx : ev fl x = some (.int k (m : Int))) (hy : ev fl y = some (.int k (q : Int))) (hq : 0 < q) : Yld P o a w (.int k ((m % q : Nat) : Int)) := by
  rw [Int.natCast_emod]; exact y_remn ho S hx hy (by omega) (by omega)
end
end Go.Gw
