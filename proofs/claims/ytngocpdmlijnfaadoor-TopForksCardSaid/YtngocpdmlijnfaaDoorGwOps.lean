/- What each operation of the model yields, as laws over a program that is a variable. No condition. -/
import Derived.Test.YtngocpdmlijnfaaDoorGwCore
namespace Go.Gw
set_option linter.unusedVariables false
set_option linter.unusedSimpArgs false
section
variable {P : Program} {o : Oper} {n : Sz} {fl : Slots} {a : Act} {w : World} {v : Value}
theorem y_move {x : Operand} (ho : o.op = .move x) (S : St n fl a) (hx : ev fl x = some v) : Yld P o a w v := by
  unfold Yld execOp; rw [ho]; simp [S.ev hx]
theorem y_assign {x : Operand} (ho : o.op = .assign x) (S : St n fl a) (hx : ev fl x = some v) : Yld P o a w v := by
  unfold Yld execOp; rw [ho]; simp [S.ev hx]
theorem y_not {x : Operand} {T : TypeId} {B : Bool} (ho : o.op = .unOp .not T x) (S : St n fl a) (hx : ev fl x = some (.bool B)) : Yld P o a w (.bool (!B)) := by
  unfold Yld execOp; rw [ho]; simp only [S.ev hx]; simp [Op.unary]
/-- what two integers of one kind give, but for shifts and divisions -/
def intOp (op : BinOp) (k : IntKind) (m n : Int) : Option Value :=
  match op with
  | .add => some (.int k (k.wrap (m + n)))
  | .sub => some (.int k (k.wrap (m - n)))
  | .mul => some (.int k (k.wrap (m * n)))
  | .eql => some (.bool (m == n))
  | .neq => some (.bool (m != n))
  | .lss => some (.bool (decide (m < n)))
  | .leq => some (.bool (decide (m ≤ n)))
  | .gtr => some (.bool (decide (m > n)))
  | .geq => some (.bool (decide (m ≥ n)))
  | _ => none
theorem y_bin {op : BinOp} {T U : TypeId} {x y : Operand} {k : IntKind} {m q : Int} (ho : o.op = .binOp op T x y U) (S : St n fl a) (hx : ev fl x = some (.int k m)) (hy : ev fl y = some (.int k q)) (hv : intOp op k m q = some v) : Yld P o a w v := by
  unfold Yld execOp; rw [ho]; simp only [S.ev hx, S.ev hy]
  cases op <;> simp [intOp] at hv <;> subst hv <;> simp [eqGuard, binOp, Op.intArith, Op.intCmp]
theorem wrap_in {m : Int} (h1 : -9223372036854775808 ≤ m) (h2 : m ≤ 9223372036854775807) : IntKind.i64.wrap m = m := IntWalk.i64_in m ⟨h1, h2⟩
theorem y_add {T U : TypeId} {x y : Operand} {m q : Int} (ho : o.op = .binOp .add T x y U) (S : St n fl a) (hx : ev fl x = some (.int .i64 m)) (hy : ev fl y = some (.int .i64 q)) (h : -9223372036854775808 ≤ m + q ∧ m + q ≤ 9223372036854775807) : Yld P o a w (.int .i64 (m + q)) :=
  y_bin ho S hx hy (by simp [intOp, wrap_in h.1 h.2])
theorem y_sub {T U : TypeId} {x y : Operand} {m q : Int} (ho : o.op = .binOp .sub T x y U) (S : St n fl a) (hx : ev fl x = some (.int .i64 m)) (hy : ev fl y = some (.int .i64 q)) (h : -9223372036854775808 ≤ m - q ∧ m - q ≤ 9223372036854775807) : Yld P o a w (.int .i64 (m - q)) :=
  y_bin ho S hx hy (by simp [intOp, wrap_in h.1 h.2])
theorem y_mul {T U : TypeId} {x y : Operand} {m q : Int} (ho : o.op = .binOp .mul T x y U) (S : St n fl a) (hx : ev fl x = some (.int .i64 m)) (hy : ev fl y = some (.int .i64 q)) (h : -9223372036854775808 ≤ m * q ∧ m * q ≤ 9223372036854775807) : Yld P o a w (.int .i64 (m * q)) :=
  y_bin ho S hx hy (by simp [intOp, wrap_in h.1 h.2])
theorem y_quo {T U : TypeId} {x y : Operand} {m q : Int} (ho : o.op = .binOp .quo T x y U) (S : St n fl a) (hx : ev fl x = some (.int .i64 m)) (hy : ev fl y = some (.int .i64 q)) (hq : q ≠ 0) (h : -9223372036854775808 ≤ m.tdiv q ∧ m.tdiv q ≤ 9223372036854775807) : Yld P o a w (.int .i64 (m.tdiv q)) := by
  unfold Yld execOp; rw [ho]; simp only [S.ev hx, S.ev hy]
  simp [eqGuard, binOp, Op.intDiv, hq, wrap_in h.1 h.2]
theorem y_rem {T U : TypeId} {x y : Operand} {k : IntKind} {m q : Int} (ho : o.op = .binOp .rem T x y U) (S : St n fl a) (hx : ev fl x = some (.int k m)) (hy : ev fl y = some (.int k q)) (hq : q ≠ 0) : Yld P o a w (.int k (m.tmod q)) := by
  unfold Yld execOp; rw [ho]; simp only [S.ev hx, S.ev hy]
  simp [eqGuard, binOp, Op.intDiv, hq]
theorem y_len {x : Operand} {T E : TypeId} {p : Option Addr} {l c : Nat} (ho : o.op = .call { callee := .builtin .len, args := #[x], argTypes := #[T] }) (hT : P.underlying T = some (.slice E)) (S : St n fl a) (hx : ev fl x = some (.slice p l c)) : Yld P o a w (.int .i64 l) := by
  unfold Yld execOp; rw [ho]; simp [resolve, invoke, builtin, S.ev hx, Builtin.len_, goInt, run_underlying hT]
end
end Go.Gw
