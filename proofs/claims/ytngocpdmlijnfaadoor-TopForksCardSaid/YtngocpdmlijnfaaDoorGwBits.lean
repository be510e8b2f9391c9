/- Copies into own slices; & and >> of numbers that are not negative. No condition. -/
import Derived.Test.YtngocpdmlijnfaaDoorGwQue
import Derived.Laws.CopyRow
import Derived.Laws.Bits64b
import Derived.ArgAppend
namespace Go.Gw
set_option linter.unusedVariables false
set_option linter.unusedSimpArgs false
section
variable {P : Program} {o : Oper} {n : Sz} {fl : Slots} {a : Act} {w w0 : World} {v : Value} {M : Nat → Prop} {l : List Atom} {ops : Array Oper} {d : Nat} {K : Act → World → Prop}
theorem IsSl.one {sz : Nat} {α : Type} {enc : α → List Value} {xs : List α} (h : IsSl w v sz enc xs) : v.oneCell' = true := by
  obtain ⟨p, c, rfl⟩ := h.shape; rfl
/-- two words and-ed -/
theorem y_andu {T U : TypeId} {x y : Operand} {m q r : Nat} (ho : o.op = .binOp .and T x y U) (S : St n fl a) (hx : ev fl x = some (.int .u64 (m : Int))) (hy : ev fl y = some (.int .u64 (q : Int))) (hm : m < 18446744073709551616) (hq : q < 18446744073709551616) (hr : m &&& q = r) : Yld P o a w (.int .u64 (r : Int)) := by
  unfold Yld execOp; rw [ho]; simp only [S.ev hx, S.ev hy]
  have h := bits_and_u64_nat m q hm hq
  rw [hr] at h
  simp only [bits] at h
  simp only [eqGuard, binOp, Op.intBits, h]
  simp [h]
theorem y_shr {T U : TypeId} {x y : Operand} {k k2 : IntKind} {m q r : Int} (ho : o.op = .binOp .shr T x y U) (S : St n fl a) (hx : ev fl x = some (.int k m)) (hy : ev fl y = some (.int k2 q)) (hq : 0 ≤ q) (hr : m.fdiv (2 ^ (min q.toNat k.bits)) = r) : Yld P o a w (.int k r) := by
  unfold Yld execOp; rw [ho]; simp only [S.ev hx, S.ev hy]
  simp [eqGuard, binOp, Op.shift, show ¬ q < 0 by omega, hr]
theorem HSat.call4 {w' : World} {x y z u : Atom} (H : HSat M w0 l w) (H' : HSat No w [x, y, z, u] w') (hx : x.own = true) (hy : y.own = true) (hz : z.own = true) (hu : u.own = true) : HSat M w0 (x :: y :: z :: u :: l) w' :=
  H.call H' (by intro q hq; simp only [List.mem_cons, List.not_mem_nil, or_false] at hq; rcases hq with rfl | rfl | rfl | rfl <;> assumption)
/-- two results, of which the first one lies in a block -/
theorem ret2ct {fn : Func} {R : Value → World → Prop} {u s T b : Nat} {v' : Value} {cs : List Value} {T' : TypeId} {fz : Nat × Nat} (hr : fn.results = #[.cell u T, .tmp s]) (S : St n fl a) (H : HSat M w0 l w) (hu : fl.lookup u = some (.pointer (some ⟨b, 0, none⟩))) (hv' : fl.lookup s = some v')
    [h : HasRd l b (.cells cs.toArray T' fz)] (hT : aggB P T cs.length = true) (hR : R (.tuple #[.agg cs.toArray, v']) w) (hds : n.ds = [] := by rfl) : endP P fn R .ret a w := by
  refine end_ret S hds (v := .tuple #[.agg cs.toArray, v']) ?_ hR
  have hl := run_loadVar_agg (P := P) (w := w) (p := ⟨b, 0, none⟩) hT (fun j u hu => by rw [add_plain, H.cell h]; simpa using hu)
  have hu' : a.tmps[u]?.getD undef = .pointer (some ⟨b, 0, none⟩) := by rw [← Array.getD_eq_getD_getElem?]; exact S.get u _ hu
  have h2 : a.tmps[s]?.getD undef = v' := by rw [← Array.getD_eq_getD_getElem?]; exact S.get s _ hv'
  simp [results, hr, hu', h2, asAddr, hl]
/-- one kind of integers turned into another -/
theorem y_convg {T D : TypeId} {x : Operand} {k k' k2 : IntKind} {m r : Int} (ho : o.op = .convert T D x) (hT : P.underlying T = some (.int k)) (hD : P.underlying D = some (.int k2)) (S : St n fl a) (hx : ev fl x = some (.int k' m)) (hr : k2.wrap m = r) : Yld P o a w (.int k2 r) := by
  unfold Yld execOp; rw [ho]; simp [S.ev hx, convert, run_underlying hT, run_underlying hD, Conv.intToInt, hr]
end
/-- how a condition reads -/
theorem DL : (∀ (α : Type) (x : α), (some x).isNone = false) ∧ (∀ (α : Type), (none : Option α).isNone = true) ∧ (∀ (α : Type) (x : α), (some x).isSome = true) ∧ (∀ (α : Type), (none : Option α).isSome = false) ∧
    (∀ p : Prop, (False ∨ p) = p) ∧ (∀ p : Prop, (p ∨ False) = p) ∧ (∀ p : Prop, (True ∧ p) = p) ∧ (∀ p : Prop, (p ∧ True) = p) ∧ (∀ (p : Prop) [Decidable p], (decide p = true) = p) ∧ (∀ (p : Prop) [Decidable p], decide p = false ↔ ¬p) ∧
    (∀ x y : Bool, ((x || y) = true) = (x = true ∨ y = true)) ∧ (∀ x y : Bool, ((x && y) = true) = (x = true ∧ y = true)) ∧ (∀ x y : Bool, ((x || y) = false) = (x = false ∧ y = false)) ∧ (∀ x y : Bool, ((x && y) = false) = (x = false ∨ y = false)) ∧
    (∀ x : Bool, ((!x) = true) = (x = false)) ∧ (∀ x : Bool, ((!x) = false) = (x = true)) ∧ (∀ (α : Type) [BEq α] [LawfulBEq α] (x y : α), (x != y) = true ↔ x ≠ y) ∧ (∀ (α : Type) [BEq α] [LawfulBEq α] (x y : α), (x == y) = true ↔ x = y) ∧
    (∀ (α : Type) [BEq α] [LawfulBEq α] (x y : α), (x == y) = false ↔ x ≠ y) ∧ (∀ (α : Type) [BEq α] [LawfulBEq α] (x y : α), (x != y) = false ↔ x = y) ∧ (∀ (α : Type) (x y : α), (x ≠ y) = ¬(x = y)) ∧ (∀ (p : Prop) [Decidable p], ¬¬p ↔ p) ∧
    (∀ x y : Int, ¬x < y ↔ y ≤ x) ∧ (∀ x y : Int, ¬x ≤ y ↔ y < x) ∧ (∀ x y : Int, x > y ↔ y < x) ∧ (∀ x y : Int, x ≥ y ↔ y ≤ x) ∧ (∀ x y : Nat, x > y ↔ y < x) ∧ (∀ x y : Nat, x ≥ y ↔ y ≤ x) ∧ ((true = false) = False) ∧ ((false = true) = False) ∧ ((¬True) = False) ∧ ((¬False) = True) :=
  ⟨fun _ _ => rfl, fun _ => rfl, fun _ _ => rfl, fun _ => rfl, false_or, or_false, true_and, and_true, @decide_eq_true_eq, @decide_eq_false_iff_not, Bool.or_eq_true, Bool.and_eq_true, fun x y => by cases x <;> cases y <;> simp, fun x y => by cases x <;> cases y <;> simp, fun x => by cases x <;> simp, fun x => by cases x <;> simp,
    fun _ _ _ _ _ => bne_iff_ne, fun _ _ _ _ _ => beq_iff_eq, fun _ _ _ _ _ => beq_eq_false_iff_ne, fun _ _ _ _ _ => bne_eq_false_iff_eq, fun _ _ _ => rfl, @Decidable.not_not, fun _ _ => Int.not_lt, fun _ _ => Int.not_le, fun _ _ => Iff.rfl, fun _ _ => Iff.rfl, fun _ _ => Iff.rfl, fun _ _ => Iff.rfl, by simp, by simp, by simp, by simp⟩
/-- how lengths read -/
theorem LL : (∀ (α : Type) (a b : List α), (a ++ b).length = a.length + b.length) ∧ (∀ (α : Type) (i : Nat) (a : List α), (a.take i).length = min i a.length) ∧ (∀ (α : Type) (i : Nat) (a : List α), (a.drop i).length = a.length - i) ∧ (∀ (α : Type) (i : Nat) (x : α), (List.replicate i x).length = i) ∧
    (∀ (α : Type) (i : Nat) (x : α) (a : List α), (a.set i x).length = a.length) ∧ (∀ (α β : Type) (f : α → β) (a : List α), (a.map f).length = a.length) ∧ (∀ (α : Type) (x : α) (a : List α), (x :: a).length = a.length + 1) ∧ (∀ α : Type, ([] : List α).length = 0) :=
  ⟨fun _ _ _ => List.length_append, fun _ _ _ => List.length_take, fun _ _ _ => List.length_drop, fun _ _ _ => List.length_replicate, fun _ _ _ _ => List.length_set, fun _ _ _ _ => List.length_map _, fun _ _ _ => rfl, fun _ => rfl⟩
section
variable {P : Program} {o : Oper} {n : Sz} {fl : Slots} {a : Act} {w w0 : World} {v : Value} {M : Nat → Prop} {l : List Atom} {ops : Array Oper} {d : Nat} {K : Act → World → Prop} {Q : Exit → Act → World → Prop} {rest : List Oper} {tails rem : List Nat} {ro : List Atom} {f i : Nat}
/-- a quiet step that stands under no guard -/
theorem gy (hg : o.guard = none) (hd : o.dst = some d) (hn : Nat.blt d n.n = true) (S : St n fl a) (hy : Yld P o a w v) (k : ∀ a', St n ((d, v) :: fl) a' → gl P ops Q rest a' w) : gl P ops Q (o :: rest) a w := wl_of (op_y (wn hg) hd hn S hy k)
/-- a move, a variable set -/
theorem gm {x : Operand} (S : St n fl a) (k : ∀ a', St n ((d, v) :: fl) a' → gl P ops Q rest a' w) (hg : o.guard = none := by rfl) (hd : o.dst = some d := by rfl) (hn : Nat.blt d n.n = true := by rfl) (ho : o.op = .move x := by rfl) (hx : ev fl x = some v := by rfl) : gl P ops Q (o :: rest) a w := gy hg hd hn S (y_move ho S hx) k
theorem ga {x : Operand} (S : St n fl a) (k : ∀ a', St n ((d, v) :: fl) a' → gl P ops Q rest a' w) (hg : o.guard = none := by rfl) (hd : o.dst = some d := by rfl) (hn : Nat.blt d n.n = true := by rfl) (ho : o.op = .assign x := by rfl) (hx : ev fl x = some v := by rfl) : gl P ops Q (o :: rest) a w := gy hg hd hn S (y_assign ho S hx) k
theorem gsr {r : Option Nat} {id : Nat} {L : List Oper} {y : Code} (h : gl P L.toArray (Exit.then (gp r P y Q) Q) L a w) : gp r P (.seq (.region id L.toArray false) y) Q a w := g_seq (g_region h)
theorem gnt {K : Act → World → Prop} (h : K a w) : gl P ops (Exit.then K Q) [] a w := gl_nil (n_then h)
/-- a quiet step that stands under a guard -/
theorem gz (g : Nat) {j : Nat} {b B : Bool} (h : B = b) (S : St n fl a) (hg : o.guard = some (j, b)) (hj : (ops[j]?).bind (·.dst) = some g) (hb : fl.lookup g = some (.bool B)) (hl : Nat.blt g n.n = true) (hd : o.dst = some d) (hn : Nat.blt d n.n = true) (hy : Yld P o a w v) (k : ∀ a', St n ((d, v) :: fl) a' → gl P ops Q rest a' w) : gl P ops Q (o :: rest) a w :=
  wl_of (op_y (wg' g hg hj S hb h hl) hd hn S hy k)
/-- atoms put in front -/
class SubL (l l' : List Atom) : Prop where
  sub : l.Sublist l'
instance (priority := 2000) SubL.refl (l : List Atom) : SubL l l := ⟨List.Sublist.refl _⟩
instance SubL.cons (l : List Atom) (x : Atom) (l' : List Atom) [h : SubL l l'] : SubL l (x :: l') := ⟨h.sub.cons x⟩
end
end Go.Gw
