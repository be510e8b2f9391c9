/- Strings: length, bytes, whether two are equal. No condition. -/
import Derived.Test.YtngocpdmlijnfaaDoorGwBits
import Derived.Laws.Strings
import Derived.Laws.StructEq
import Derived.Laws.Concat
namespace Go.Gw
set_option linter.unusedVariables false
set_option linter.unusedSimpArgs false
section
variable {P : Program} {o : Oper} {n : Sz} {fl : Slots} {a : Act} {w : World} {v : Value}
theorem y_lenstr {x : Operand} {T : TypeId} {s : ByteArray} (ho : o.op = .call { callee := .builtin .len, args := #[x], argTypes := #[T] }) (hT : P.underlying T = some .string) (S : St n fl a) (hx : ev fl x = some (.string s)) : Yld P o a w (.int .i64 (s.size : Int)) := by
  unfold Yld execOp; rw [ho]; simp [resolve, invoke, builtin, S.ev hx, run_len_string w T o.type s hT, goInt]
theorem y_idxstr {x ix : Operand} {T : TypeId} {s : ByteArray} {k : IntKind} {i : Nat} (ho : o.op = .index T x ix) (hT : P.underlying T = some .string) (S : St n fl a) (hx : ev fl x = some (.string s)) (hi : ev fl ix = some (.int k (i : Int))) (hl : i < s.size) : Yld P o a w (.int .u8 (s[i].toNat : Int)) := by
  unfold Yld execOp; rw [ho]; simp [S.ev hx, S.ev hi, run_index_string w T s k (i : Int) hT, hl]
theorem bytes_beq (s t : ByteArray) : (s.toList == t.toList) = decide (s = t) := by
  rw [Bool.eq_iff_iff, decide_eq_true_eq, beq_iff_eq, ByteArray.toList_eq, ByteArray.toList_eq]
  exact ⟨fun h => by
    obtain ⟨⟨x⟩⟩ := s
    obtain ⟨⟨y⟩⟩ := t
    simp only at h
    rw [h], fun h => by rw [h]⟩
theorem y_eqs {T U : TypeId} {x y : Operand} {s t : ByteArray} (ho : o.op = .binOp .eql T x y U) (hT : P.underlying T = some .string) (S : St n fl a) (hx : ev fl x = some (.string s)) (hy : ev fl y = some (.string t)) : Yld P o a w (.bool (decide (s = t))) := by
  unfold Yld execOp; rw [ho]; simp only [S.ev hx, S.ev hy, eqGuard, binOp]
  simp only [Op.stringOp]
  simp
  exact bytes_beq s t
theorem y_nes {T U : TypeId} {x y : Operand} {s t : ByteArray} (ho : o.op = .binOp .neq T x y U) (hT : P.underlying T = some .string) (S : St n fl a) (hx : ev fl x = some (.string s)) (hy : ev fl y = some (.string t)) : Yld P o a w (.bool (!decide (s = t))) := by
  unfold Yld execOp; rw [ho]; simp only [S.ev hx, S.ev hy, eqGuard, binOp]
  simp only [Op.stringOp]
  simp
  exact bytes_beq s t
theorem y_adds {T U : TypeId} {x y : Operand} {s t : ByteArray} (ho : o.op = .binOp .add T x y U) (S : St n fl a) (hx : ev fl x = some (.string s)) (hy : ev fl y = some (.string t)) (h : s.size + t.size ≤ 9223372036854775807) : Yld P o a w (.string (s ++ t)) := by
  unfold Yld execOp; rw [ho]; simp only [S.ev hx, S.ev hy, eqGuard, binOp]
  simp [run_string_add_sum w s t h]
end
end Go.Gw
