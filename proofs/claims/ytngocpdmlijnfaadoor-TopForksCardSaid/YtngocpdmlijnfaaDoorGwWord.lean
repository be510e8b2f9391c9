/- Words of 64 bits: xor, or, shifts; global tables; laid contracts of the library. No condition. -/
import Derived.Test.YtngocpdmlijnfaaDoorGwFam
import Derived.Laws.Bits64
import Derived.Laws.Bits64b
import Derived.Lib.LaidTab
import Derived.Laws.IdiomStrings
import Derived.Lib.Builder
namespace Go.Gw
set_option linter.unusedVariables false
set_option linter.unusedSimpArgs false
section
variable {P : Program} {o : Oper} {n : Sz} {fl : Slots} {a : Act} {w w0 : World} {v : Value} {M : Nat → Prop} {l : List Atom} {ops : Array Oper} {d : Nat} {K : Act → World → Prop}
theorem y_xoru {T U : TypeId} {x y : Operand} {m q r : Nat} (ho : o.op = .binOp .xor T x y U) (S : St n fl a) (hx : ev fl x = some (.int .u64 (m : Int))) (hy : ev fl y = some (.int .u64 (q : Int))) (hm : m < 18446744073709551616) (hq : q < 18446744073709551616) (hr : m ^^^ q = r) : Yld P o a w (.int .u64 (r : Int)) := by
  unfold Yld execOp; rw [ho]; simp only [S.ev hx, S.ev hy]
  have h := bits_xor_u64_nat m q hm hq
  rw [hr] at h
  simp only [bits] at h
  simp only [eqGuard, binOp, Op.intBits, h]
  simp [h]
theorem y_oru {T U : TypeId} {x y : Operand} {m q r : Nat} (ho : o.op = .binOp .or T x y U) (S : St n fl a) (hx : ev fl x = some (.int .u64 (m : Int))) (hy : ev fl y = some (.int .u64 (q : Int))) (hm : m < 18446744073709551616) (hq : q < 18446744073709551616) (hr : m ||| q = r) : Yld P o a w (.int .u64 (r : Int)) := by
  unfold Yld execOp; rw [ho]; simp only [S.ev hx, S.ev hy]
  have h := bits_or_u64_nat m q hm hq
  rw [hr] at h
  simp only [bits] at h
  simp only [eqGuard, binOp, Op.intBits, h]
  simp [h]
/-- a word shifted to the right by q -/
theorem y_shru {T U : TypeId} {x y : Operand} {k2 : IntKind} {m q r : Nat} (ho : o.op = .binOp .shr T x y U) (S : St n fl a) (hx : ev fl x = some (.int .u64 (m : Int))) (hy : ev fl y = some (.int k2 (q : Int))) (hq : q ≤ 64) (hr : m >>> q = r) : Yld P o a w (.int .u64 (r : Int)) := by
  refine y_shr ho S hx hy (by omega) ?_
  have e : min (q : Int).toNat IntKind.u64.bits = q := by
    show min (q : Int).toNat 64 = q
    omega
  rw [e, ← hr, Nat.shiftRight_eq_div_pow, Int.fdiv_eq_ediv_of_nonneg _ (Int.le_of_lt (Int.pow_pos (by decide)))]
  rw [Int.natCast_ediv, Int.natCast_pow]
  rfl
/-- a word shifted to the left by q, of which nothing is lost -/
theorem y_shlu {T U : TypeId} {x y : Operand} {k2 : IntKind} {m q r : Nat} (ho : o.op = .binOp .shl T x y U) (S : St n fl a) (hx : ev fl x = some (.int .u64 (m : Int))) (hy : ev fl y = some (.int k2 (q : Int))) (hq : q ≤ 64) (hr : m <<< q = r) (hb : r < 18446744073709551616) : Yld P o a w (.int .u64 (r : Int)) := by
  unfold Yld execOp; rw [ho]; simp only [S.ev hx, S.ev hy]
  have e : min (q : Int).toNat IntKind.u64.bits = q := by
    show min (q : Int).toNat 64 = q
    omega
  have e2 : IntKind.u64.wrap ((m : Int) * 2 ^ q) = (r : Int) := by
    rw [IntKind.wrap_u64, ← hr, Nat.shiftLeft_eq]
    have : ((m : Int) * 2 ^ q) = ((m * 2 ^ q : Nat) : Int) := by rw [Int.natCast_mul, Int.natCast_pow]; rfl
    rw [this]
    rw [← hr, Nat.shiftLeft_eq] at hb
    omega
  simp [eqGuard, binOp, Op.shift, e, e2]
theorem y_muln {T U : TypeId} {x y : Operand} {m q r : Nat} (ho : o.op = .binOp .mul T x y U) (S : St n fl a) (hx : ev fl x = some (.int .i64 (m : Int))) (hy : ev fl y = some (.int .i64 (q : Int))) (hr : m * q = r) (h : r ≤ 9223372036854775807) : Yld P o a w (.int .i64 (r : Int)) := by
  have e : (m : Int) * (q : Int) = (r : Int) := by rw [← hr, Int.natCast_mul]
  rw [← e]; exact y_mul ho S hx hy (by omega)
/-- an element of an array value, as the machine computes it -/
theorem y_index {T : TypeId} {x ix : Operand} {u i r : Value} (ho : o.op = .index T x ix) (S : St n fl a) (hx : ev fl x = some u) (hi : ev fl ix = some i) (h : (Instr.index T u i).run P w = .ok r w) : Yld P o a w r := by
  unfold Yld execOp; rw [ho]; simp [S.ev hx, S.ev hi, h]
/-- a slice of a whole array, as the machine computes it -/
theorem y_sliceA {T : TypeId} {x : Operand} {u r : Value} (ho : o.op = .slice T x none none none) (S : St n fl a) (hx : ev fl x = some u) (h : (Instr.sliceAt T u none none none).run P w = .ok r w) : Yld P o a w r := by
  unfold Yld execOp; rw [ho]; simp [S.ev hx, h]
/-- a conversion, as the machine computes it -/
theorem y_convX {T D : TypeId} {x : Operand} {u r : Value} (ho : o.op = .convert T D x) (S : St n fl a) (hx : ev fl x = some u) (h : (convert T D u).run P w = .ok r w) : Yld P o a w r := by
  unfold Yld execOp; rw [ho]; simp only [S.ev hx]
  simp only [Sem.run_bind, h, Result.andThen_ok, Sem.run_pure]
/-- a pointer is compared with itself -/
theorem y_neself {T U E : TypeId} {x y : Operand} {p : Addr} {j : TypeInfo} (ho : o.op = .binOp .neq T x y U) (hT : P.underlying T = some (.pointer E)) (hj : P.info? E = some j) (S : St n fl a) (hx : ev fl x = some (.pointer (some p))) (hy : ev fl y = some (.pointer (some p))) : Yld P o a w (.bool false) := by
  have h := Go.Lib.run_neq_ptr_same (P := P) w p hT hj
  unfold Yld execOp; rw [ho]; simp only [S.ev hx, S.ev hy]
  simp [eqGuard, h]
/-- bytes that lie in one block as a string -/
theorem y_bytestr {T D E : TypeId} {x : Operand} {b c m : Nat} {cs : List Value} {T' : TypeId} {fz : Nat × Nat} (t : List UInt8) (ho : o.op = .convert T D x) (hs : P.underlying T = some (.slice E)) (he : P.underlying E = some (.int .u8)) (hd : P.underlying D = some .string) (S : St n fl a) (H : HSat M w0 l w)
    (hx : ev fl x = some (.slice (some ⟨b, 0, none⟩) m c)) [h : HasRd l b (.cells cs.toArray T' fz)] (ht : t.length = m) (hc : ∀ j (hj : j < t.length), cs[j]? = some (.int .u8 (t[j].toNat : Int))) : Yld P o a w (.string ⟨t.toArray⟩) := by
  subst ht
  unfold Yld execOp; rw [ho]; simp only [S.ev hx]
  have hh := run_convert_bytes_back (P := P) w T D E ⟨b, 0, none⟩ c t hs he hd (fun j hj => by rw [add_plain, H.cell h]; simpa using hc j hj)
  simp only [Sem.run_bind, hh, Result.andThen_ok, Sem.run_pure]
end
end Go.Gw
