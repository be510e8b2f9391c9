/- Layer 30 (and 2, 3): digests as the program computes them. No program in sight. No condition. -/
import Derived.Test.YtngocpdmlijnfaaDoorGwWord
import Derived.Lib.LaidTab
import Derived.Lib.ItoaNum
namespace Go.Proofs.YtngocpdmlijnfaaDoor
open Go Go.Gw
set_option linter.unusedSimpArgs false
set_option linter.unusedVariables false
theorem mixA_ex : ∃ f : Nat → Nat, ∀ x, (x ^^^ (x >>> 32)) * 11400714819323198485 % 18446744073709551616 = f x := ⟨fun x => (x ^^^ (x >>> 32)) * 11400714819323198485 % 18446744073709551616, fun _ => rfl⟩
theorem mixB_ex : ∃ f : Nat → Nat, ∀ x, (x ^^^ (x >>> 29)) * 13787848793156543929 % 18446744073709551616 = f x := ⟨fun x => (x ^^^ (x >>> 29)) * 13787848793156543929 % 18446744073709551616, fun _ => rfl⟩
/-- chosen, so that nothing unfolds them -/
noncomputable def mixA : Nat → Nat := Classical.choose mixA_ex
noncomputable def mixB : Nat → Nat := Classical.choose mixB_ex
theorem mixA_def (x : Nat) : (x ^^^ (x >>> 32)) * 11400714819323198485 % 18446744073709551616 = mixA x := Classical.choose_spec mixA_ex x
theorem mixB_def (x : Nat) : (x ^^^ (x >>> 29)) * 13787848793156543929 % 18446744073709551616 = mixB x := Classical.choose_spec mixB_ex x
noncomputable def take64 (s b : Nat) : Nat := mixB (mixA (s ^^^ b)) ^^^ (mixB (mixA (s ^^^ b)) >>> 32)
theorem mixA_lt (x : Nat) : mixA x < 18446744073709551616 := by rw [← mixA_def]; exact Nat.mod_lt _ (by decide)
theorem mixB_lt (x : Nat) : mixB x < 18446744073709551616 := by rw [← mixB_def]; exact Nat.mod_lt _ (by decide)
theorem shr_lt {x q : Nat} (h : x < 18446744073709551616) : x >>> q < 18446744073709551616 := Nat.lt_of_le_of_lt (by rw [Nat.shiftRight_eq_div_pow]; exact Nat.div_le_self _ _) h
theorem xor_lt {x y : Nat} (h : x < 18446744073709551616) (h2 : y < 18446744073709551616) : x ^^^ y < 18446744073709551616 := Nat.xor_lt_two_pow (n := 64) h h2
theorem or_lt {x y : Nat} (h : x < 18446744073709551616) (h2 : y < 18446744073709551616) : x ||| y < 18446744073709551616 := Nat.or_lt_two_pow (n := 64) h h2
theorem take64_lt (s b : Nat) : take64 s b < 18446744073709551616 := xor_lt (mixB_lt _) (shr_lt (mixB_lt _))
noncomputable def stp : Nat → Nat → Nat
  | 0, x => x
  | 1, x => mixA x
  | _, x => mixB (mixA x)
theorem stp0 (x : Nat) : stp 0 x = x := rfl
theorem stp1 (x : Nat) : stp 1 x = mixA x := rfl
theorem stp2 (x : Nat) : stp 2 x = mixB (mixA x) := rfl
theorem take64_def (s b : Nat) : mixB (mixA (s ^^^ b)) ^^^ (mixB (mixA (s ^^^ b)) >>> 32) = take64 s b := rfl
/-- the state of a digest: state, block, bytes in the block -/
structure DS where
  s : Nat
  b : Nat
  n : Nat
structure DS.ok (d : DS) : Prop where
  s : d.s < 18446744073709551616
  n : d.n < 8
  b : d.b < 2 ^ (8 * d.n)
def DS.z : DS := ⟨7046029254386353131, 0, 0⟩
noncomputable def DS.add (d : DS) (c : Nat) : DS := if d.n + 1 = 8 then ⟨take64 d.s (d.b ||| (c <<< (8 * d.n))), 0, 0⟩ else ⟨d.s, d.b ||| (c <<< (8 * d.n)), d.n + 1⟩
theorem DS.z_ok : DS.z.ok := ⟨by decide, by decide, by decide⟩
theorem DS.or_lt {d : DS} (h : d.ok) {c : Nat} (hc : c < 256) : d.b ||| (c <<< (8 * d.n)) < 2 ^ (8 * (d.n + 1)) := by
  have h1 : c <<< (8 * d.n) < 2 ^ (8 * (d.n + 1)) := by
    rw [Nat.shiftLeft_eq, show 8 * (d.n + 1) = 8 + 8 * d.n by omega, Nat.pow_add]
    exact Nat.mul_lt_mul_of_pos_right (by omega) (Nat.pow_pos (by decide))
  exact Nat.or_lt_two_pow (Nat.lt_of_lt_of_le h.b (Nat.pow_le_pow_right (by decide) (by omega))) h1
theorem DS.pow_le {k : Nat} (h : k ≤ 8) : 2 ^ (8 * k) ≤ 18446744073709551616 := Nat.le_trans (Nat.pow_le_pow_right (by decide) (show 8 * k ≤ 64 by omega)) (by decide)
theorem DS.add_ok {d : DS} (h : d.ok) {c : Nat} (hc : c < 256) : (d.add c).ok := by
  have h0 := DS.or_lt h hc
  unfold DS.add
  split
  · exact ⟨take64_lt _ _, by dsimp only; omega, by dsimp only; omega⟩
  · have := h.n
    exact ⟨h.s, by dsimp only; omega, h0⟩
noncomputable def DS.adds (d : DS) (l : List UInt8) : DS := l.foldl (fun d c => d.add c.toNat) d
theorem DS.adds_ok {d : DS} (h : d.ok) (l : List UInt8) : (d.adds l).ok := by
  induction l generalizing d with
  | nil => exact h
  | cons c l ih => exact ih (DS.add_ok h c.toNat_lt)
/-- zeros until the block is full -/
noncomputable def DS.fill : Nat → DS → DS
  | 0, d => d
  | k + 1, d => if d.n = 0 then d else DS.fill k (d.add 0)
theorem DS.add_full {d : DS} (h : d.n + 1 = 8) (c : Nat) : d.add c = ⟨take64 d.s (d.b ||| (c <<< (8 * d.n))), 0, 0⟩ := if_pos h
theorem DS.add_part {d : DS} (h : ¬ d.n + 1 = 8) (c : Nat) : d.add c = ⟨d.s, d.b ||| (c <<< (8 * d.n)), d.n + 1⟩ := if_neg h
theorem DS.shl_lt {d : DS} (h : d.ok) {c : Nat} (hc : c < 256) : c <<< (8 * d.n) < 18446744073709551616 := by
  have := h.n
  refine Nat.lt_of_lt_of_le ?_ (DS.pow_le (k := d.n + 1) (by omega))
  rw [Nat.shiftLeft_eq, show 8 * (d.n + 1) = 8 + 8 * d.n by omega, Nat.pow_add]
  exact Nat.mul_lt_mul_of_pos_right (by omega) (Nat.pow_pos (by decide))
theorem DS.b_lt {d : DS} (h : d.ok) : d.b < 18446744073709551616 := Nat.lt_of_lt_of_le h.b (DS.pow_le (by have := h.n; omega))
theorem DS.or64 {d : DS} (h : d.ok) {c : Nat} (hc : c < 256) : d.b ||| (c <<< (8 * d.n)) < 18446744073709551616 := Nat.lt_of_lt_of_le (DS.or_lt h hc) (DS.pow_le (by have := h.n; omega))
def hexD (n : Nat) : UInt8 := if n < 10 then (48 + n).toUInt8 else (87 + n).toUInt8
def hexS (s : Nat) : ByteArray := ⟨((List.range 16).map fun i => hexD ((s >>> (60 - 4 * i)) % 16)).toArray⟩
def hexL (s : Nat) : List UInt8 := (List.range 16).map fun i => hexD ((s >>> (60 - 4 * i)) % 16)
/-- the first i letters are written -/
def hexC (s i : Nat) : List Value := (List.range 16).map fun j => .int .u8 (if j < i then ((hexD ((s >>> (60 - 4 * j)) % 16)).toNat : Int) else 0)
theorem hexC_len (s i : Nat) : (hexC s i).length = 16 := by simp [hexC]
theorem hexC_set (s i : Nat) (h : i < 16) : (hexC s i).set i (.int .u8 ((hexD ((s >>> (60 - 4 * i)) % 16)).toNat : Int)) = hexC s (i + 1) := by
  apply List.ext_getElem
  · simp [hexC]
  · intro j h1 h2
    rw [List.getElem_set]
    simp only [hexC, List.getElem_map, List.getElem_range]
    split
    · rename_i e; subst e; rw [if_pos (by omega)]
    · rename_i e
      by_cases hj : j < i
      · rw [if_pos hj, if_pos (by omega)]
      · rw [if_neg hj, if_neg (by omega)]
theorem hexC_get (s : Nat) (j : Nat) (hj : j < (hexL s).length) : (hexC s 16)[j]? = some (.int .u8 ((hexL s)[j].toNat : Int)) := by
  have h : j < 16 := by simpa [hexL] using hj
  rw [List.getElem?_eq_getElem (by rw [hexC_len]; exact h)]
  simp only [hexC, hexL, List.getElem_map, List.getElem_range]
  rw [if_pos h]
def hexTab : List Value := [.int .u8 48, .int .u8 49, .int .u8 50, .int .u8 51, .int .u8 52, .int .u8 53, .int .u8 54, .int .u8 55, .int .u8 56, .int .u8 57, .int .u8 97, .int .u8 98, .int .u8 99, .int .u8 100, .int .u8 101, .int .u8 102]
theorem hexTab_get : ∀ i, i < 16 → hexTab[i]? = some (.int .u8 ((hexD i).toNat : Int))
  | 0, _ => rfl | 1, _ => rfl | 2, _ => rfl | 3, _ => rfl | 4, _ => rfl | 5, _ => rfl | 6, _ => rfl | 7, _ => rfl | 8, _ => rfl | 9, _ => rfl | 10, _ => rfl | 11, _ => rfl | 12, _ => rfl | 13, _ => rfl | 14, _ => rfl | 15, _ => rfl
  | n + 16, h => by omega
theorem DS.adds_take (d : DS) (l : List UInt8) (k : Nat) (h : k < l.length) : d.adds (l.take (k + 1)) = (d.adds (l.take k)).add l[k].toNat := by
  unfold DS.adds
  rw [List.take_succ_eq_append_getElem h, List.foldl_append]; rfl
theorem DS.fill_z {d : DS} (h : d.n = 0) (j : Nat) : DS.fill j d = d := by cases j with
  | zero => rfl
  | succ j => exact if_pos h
theorem DS.fill_s {d : DS} (h : d.n ≠ 0) (j : Nat) : DS.fill (j + 1) d = DS.fill j (d.add 0) := if_neg h
theorem DS.add_n (d : DS) (c : Nat) : (d.add c).n = if d.n + 1 = 8 then 0 else d.n + 1 := by unfold DS.add; split <;> rfl
noncomputable def sumN (t : List UInt8) : Nat := (DS.fill 8 ((DS.z.adds t).add 1)).s
noncomputable def sumS (t : ByteArray) : ByteArray := hexS (sumN t.data.toList)
theorem hexS_size (s : Nat) : (hexS s).size = 16 := by simp [hexS, ByteArray.size]
theorem sumS_size (t : ByteArray) : (sumS t).size = 16 := hexS_size _
noncomputable def chainS (t : ByteArray) : Nat → ByteArray
  | 0 => t
  | n + 1 => sumS (chainS t n)
theorem chainS_size {t : ByteArray} (h : t.size ≤ 9223372036854775807) : ∀ n, (chainS t n).size ≤ 9223372036854775807
  | 0 => h
  | n + 1 => by show (sumS _).size ≤ _; rw [sumS_size]; decide
theorem chainS_add (t : ByteArray) (m : Nat) : ∀ n, chainS (chainS t m) n = chainS t (m + n)
  | 0 => rfl
  | n + 1 => by show sumS (chainS (chainS t m) n) = sumS (chainS t (m + n)); rw [chainS_add t m n]
/-- the joined text of a list -/
def partL (s : ByteArray) : List UInt8 := Go.Lib.itoa (s.size : Int) ++ [58] ++ s.data.toList
def joinL (xs : List ByteArray) : List UInt8 := xs.flatMap partL
noncomputable def listS (xs : List ByteArray) : ByteArray := sumS ⟨(joinL xs).toArray⟩
theorem joinL_take {xs : List ByteArray} {k : Nat} (h : k < xs.length) : joinL (xs.take (k + 1)) = joinL (xs.take k) ++ partL xs[k] := by
  unfold joinL; rw [List.take_succ_eq_append_getElem h, List.flatMap_append]; simp
theorem joinL_le {xs : List ByteArray} {k : Nat} (h : k < xs.length) : (joinL (xs.take k)).length + (partL xs[k]).length ≤ (joinL xs).length := by
  rw [← List.length_append, ← joinL_take h]
  conv => rhs; rw [← List.take_append_drop (k + 1) xs]
  unfold joinL; rw [List.flatMap_append, List.length_append]; omega
theorem partL_text (s : ByteArray) : ((⟨(Go.Lib.itoa (s.size : Int)).toArray⟩ : ByteArray) ++ (⟨#[58]⟩ : ByteArray) ++ s).data.toList = partL s := by
  unfold partL; simp [ByteArray.data_append]
theorem partL_size (s : ByteArray) : ((⟨(Go.Lib.itoa (s.size : Int)).toArray⟩ : ByteArray) ++ (⟨#[58]⟩ : ByteArray) ++ s).size = (partL s).length := by
  rw [← partL_text]; exact Array.length_toList.symm
theorem partL_len (s : ByteArray) : (partL s).length = (Go.Lib.itoa (s.size : Int)).length + 1 + s.size := by
  unfold partL; rw [List.length_append, List.length_append, show s.data.toList.length = s.size from Array.length_toList]; rfl
def encS (s : ByteArray) : List Value := [.string s]
end Go.Proofs.YtngocpdmlijnfaaDoor
