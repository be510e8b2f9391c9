/- Parts of the proof, joined: the program logic, the plain theory, the walks, as they are named inside. No condition. -/
import Derived.Test.YtjdbggnhdeaflaaGreatDoorM1
import Derived.Laws.CopyRow
import Derived.Laws.Bits64b
import Derived.ArgAppend
import Derived.Laws.Strings
import Derived.Laws.StructEq
import Derived.Laws.Concat
import Derived.Lib.Overlaps
import Derived.Lib.AppendZerosOnto
import Derived.Laws.NewBlocks
import Derived.ChangeKeysEq
import Derived.Laws.Bits64
import Derived.Lib.LaidTab
import Derived.Laws.IdiomStrings
import Derived.Lib.Builder
import Derived.Lib.AppendStr
import Derived.Laws.MakeOwn
import Derived.Shelf.Strings.Builder1
import Derived.Shelf.Strings.Builder2
import Derived.Shelf.Strings.OnBuilder
import Derived.Shelf.Strings.Trim
import Derived.Shelf.Small.Utf8
import Derived.Shelf.Small.Strs
import Derived.Shelf.Strings.BuilderF
import Derived.Shelf.Strings.BuilderK
import Derived.Shelf.Strings.Builder2Cap
import Derived.Shelf.Strconv.Itoa0
import Derived.Shelf.Strconv.Itoa1
import Derived.Shelf.LaysM
import Derived.Shelf.Strconv.Itoa2
import Derived.Shelf.Strconv.Itoa3
import Derived.Shelf.Strconv.ParseIntEmpty
import Derived.Shelf.Strconv.Clone
import Derived.Shelf.Strconv.SyntaxError
import Derived.Shelf.Strconv.Lower
import Derived.Shelf.Strconv.ParseUint10
import Derived.Shelf.Strconv.ParseUint10Empty
import Derived.Shelf.Strconv.RangeError
import Derived.Shelf.Strconv.ParseUintEmpty
import Derived.Shelf.Strconv.ParseUint10b64
import Derived.Shelf.Strconv.ParseUint10b32
import Derived.Shelf.Strconv.ParseUint10b16
import Derived.Shelf.Strconv.ParseUint10b8
import Derived.Shelf.Strings.Search1
import Derived.Shelf.Strings.Prefix
import Derived.Shelf.Unicode.Decode
import Derived.Shelf.Strings.Runes
import Derived.Shelf.Strings.AsciiSet
import Derived.Shelf.Bits.Mul64
import Derived.Shelf.Strings.Repeat
import Derived.Shelf.Unicode.DecodeSlow
import Derived.Shelf.Unicode.DecodeAny
import Derived.Shelf.Unicode.DecodeLast
import Derived.Shelf.Strings.BuilderCap
import Derived.Ground.Names2Prog
import Derived.Shelf.Slices.Clone
import Derived.Ground.SlgnProg
import Derived.Shelf.SlicesE.Clone
import Derived.Test.YtjdbggnhdeaflaaGreatDoorProg
import Derived.Test.YtjdbggnhdeaflaaGreatDoorChecked
import Derived.Lib.ItoaNum
import Derived.Lib.SlTrimSet
import Derived.Lib.ItoaLen
import Derived.Lib.Bytealg
section
namespace Go.Gw
set_option linter.unusedVariables false
set_option linter.unusedSimpArgs false
section
variable {P : Program} {o : Oper} {n : Sz} {fl : Slots} {a : Act} {w w0 : World} {v : Value} {M : Nat → Prop} {l : List Atom} {ops : Array Oper} {d : Nat} {K : Act → World → Prop}
theorem IsSl.one {sz : Nat} {α : Type} {enc : α → List Value} {xs : List α} (h : IsSl w v sz enc xs) : v.oneCell' = true := by
  obtain ⟨p, c, rfl⟩ := h.shape; rfl
/-- two words and-ed -/
theorem y_andu {T U : TypeId} {x y : Operand} {m q r : Nat} (ho : o.op = .binOp .and T x y U) (S : St n fl a) (hx : ev fl x = some (.int .u64 (m : Int))) (hy : ev fl y = some (.int .u64 (q : Int))) (hm : m < 18446744073709551616) (hq : q < 18446744073709551616) (hr : m &&& q = r) : Yld P o a w (.int .u64 (r : Int)) := by
  unfold Yld execOp; rw [ho]; simp only [S.ev hx, S.ev hy]
  have h := bits_and_u64_nat m q hm hq
  rw [hr] at h
  simp only [bits] at h
  simp only [eqGuard, binOp, Op.intBits, h]
  simp [h]
theorem y_shr {T U : TypeId} {x y : Operand} {k k2 : IntKind} {m q r : Int} (ho : o.op = .binOp .shr T x y U) (S : St n fl a) (hx : ev fl x = some (.int k m)) (hy : ev fl y = some (.int k2 q)) (hq : 0 ≤ q) (hr : m.fdiv (2 ^ (min q.toNat k.bits)) = r) : Yld P o a w (.int k r) := by
  unfold Yld execOp; rw [ho]; simp only [S.ev hx, S.ev hy]
  simp [eqGuard, binOp, Op.shift, show ¬ q < 0 by omega, hr]
theorem HSat.call4 {w' : World} {x y z u : Atom} (H : HSat M w0 l w) (H' : HSat No w [x, y, z, u] w') (hx : x.own = true) (hy : y.own = true) (hz : z.own = true) (hu : u.own = true) : HSat M w0 (x :: y :: z :: u :: l) w' :=
  H.call H' (by intro q hq; simp only [List.mem_cons, List.not_mem_nil, or_false] at hq; rcases hq with rfl | rfl | rfl | rfl <;> assumption)
/-- two results, of which the first one lies in a block -/
theorem ret2ct {fn : Func} {R : Value → World → Prop} {u s T b : Nat} {v' : Value} {cs : List Value} {T' : TypeId} {fz : Nat × Nat} (hr : fn.results = #[.cell u T, .tmp s]) (S : St n fl a) (H : HSat M w0 l w) (hu : fl.lookup u = some (.pointer (some ⟨b, 0, none⟩))) (hv' : fl.lookup s = some v')
    [h : HasRd l b (.cells cs.toArray T' fz)] (hT : aggB P T cs.length = true) (hR : R (.tuple #[.agg cs.toArray, v']) w) (hds : n.ds = [] := by rfl) : endP P fn R .ret a w := by
  refine end_ret S hds (v := .tuple #[.agg cs.toArray, v']) ?_ hR
  have hl := run_loadVar_agg (P := P) (w := w) (p := ⟨b, 0, none⟩) hT (fun j u hu => by rw [add_plain, H.cell h]; simpa using hu)
  have hu' : a.tmps[u]?.getD undef = .pointer (some ⟨b, 0, none⟩) := by rw [← Array.getD_eq_getD_getElem?]; exact S.get u _ hu
  have h2 : a.tmps[s]?.getD undef = v' := by rw [← Array.getD_eq_getD_getElem?]; exact S.get s _ hv'
  simp [results, hr, hu', h2, asAddr, hl]
/-- one kind of integers turned into another -/
theorem y_convg {T D : TypeId} {x : Operand} {k k' k2 : IntKind} {m r : Int} (ho : o.op = .convert T D x) (hT : P.underlying T = some (.int k)) (hD : P.underlying D = some (.int k2)) (S : St n fl a) (hx : ev fl x = some (.int k' m)) (hr : k2.wrap m = r) : Yld P o a w (.int k2 r) := by
  unfold Yld execOp; rw [ho]; simp [S.ev hx, convert, run_underlying hT, run_underlying hD, Conv.intToInt, hr]
end
/-- how a condition reads -/
theorem DL : (∀ (α : Type) (x : α), (some x).isNone = false) ∧ (∀ (α : Type), (none : Option α).isNone = true) ∧ (∀ (α : Type) (x : α), (some x).isSome = true) ∧ (∀ (α : Type), (none : Option α).isSome = false) ∧
    (∀ p : Prop, (False ∨ p) = p) ∧ (∀ p : Prop, (p ∨ False) = p) ∧ (∀ p : Prop, (True ∧ p) = p) ∧ (∀ p : Prop, (p ∧ True) = p) ∧ (∀ (p : Prop) [Decidable p], (decide p = true) = p) ∧ (∀ (p : Prop) [Decidable p], decide p = false ↔ ¬p) ∧
    (∀ x y : Bool, ((x || y) = true) = (x = true ∨ y = true)) ∧ (∀ x y : Bool, ((x && y) = true) = (x = true ∧ y = true)) ∧ (∀ x y : Bool, ((x || y) = false) = (x = false ∧ y = false)) ∧ (∀ x y : Bool, ((x && y) = false) = (x = false ∨ y = false)) ∧
    (∀ x : Bool, ((!x) = true) = (x = false)) ∧ (∀ x : Bool, ((!x) = false) = (x = true)) ∧ (∀ (α : Type) [BEq α] [LawfulBEq α] (x y : α), (x != y) = true ↔ x ≠ y) ∧ (∀ (α : Type) [BEq α] [LawfulBEq α] (x y : α), (x == y) = true ↔ x = y) ∧
    (∀ (α : Type) [BEq α] [LawfulBEq α] (x y : α), (x == y) = false ↔ x ≠ y) ∧ (∀ (α : Type) [BEq α] [LawfulBEq α] (x y : α), (x != y) = false ↔ x = y) ∧ (∀ (α : Type) (x y : α), (x ≠ y) = ¬(x = y)) ∧ (∀ (p : Prop) [Decidable p], ¬¬p ↔ p) ∧
    (∀ x y : Int, ¬x < y ↔ y ≤ x) ∧ (∀ x y : Int, ¬x ≤ y ↔ y < x) ∧ (∀ x y : Int, x > y ↔ y < x) ∧ (∀ x y : Int, x ≥ y ↔ y ≤ x) ∧ (∀ x y : Nat, x > y ↔ y < x) ∧ (∀ x y : Nat, x ≥ y ↔ y ≤ x) ∧ ((true = false) = False) ∧ ((false = true) = False) ∧ ((¬True) = False) ∧ ((¬False) = True) :=
  ⟨fun _ _ => rfl, fun _ => rfl, fun _ _ => rfl, fun _ => rfl, false_or, or_false, true_and, and_true, @decide_eq_true_eq, @decide_eq_false_iff_not, Bool.or_eq_true, Bool.and_eq_true, fun x y => by cases x <;> cases y <;> simp, fun x y => by cases x <;> cases y <;> simp, fun x => by cases x <;> simp, fun x => by cases x <;> simp,
    fun _ _ _ _ _ => bne_iff_ne, fun _ _ _ _ _ => beq_iff_eq, fun _ _ _ _ _ => beq_eq_false_iff_ne, fun _ _ _ _ _ => bne_eq_false_iff_eq, fun _ _ _ => rfl, @Decidable.not_not, fun _ _ => Int.not_lt, fun _ _ => Int.not_le, fun _ _ => Iff.rfl, fun _ _ => Iff.rfl, fun _ _ => Iff.rfl, fun _ _ => Iff.rfl, by simp, by simp, by simp, by simp⟩
/-- how lengths read -/
theorem LL : (∀ (α : Type) (a b : List α), (a ++ b).length = a.length + b.length) ∧ (∀ (α : Type) (i : Nat) (a : List α), (a.take i).length = min i a.length) ∧ (∀ (α : Type) (i : Nat) (a : List α), (a.drop i).length = a.length - i) ∧ (∀ (α : Type) (i : Nat) (x : α), (List.replicate i x).length = i) ∧
    (∀ (α : Type) (i : Nat) (x : α) (a : List α), (a.set i x).length = a.length) ∧ (∀ (α β : Type) (f : α → β) (a : List α), (a.map f).length = a.length) ∧ (∀ (α : Type) (x : α) (a : List α), (x :: a).length = a.length + 1) ∧ (∀ α : Type, ([] : List α).length = 0) :=
  ⟨fun _ _ _ => List.length_append, fun _ _ _ => List.length_take, fun _ _ _ => List.length_drop, fun _ _ _ => List.length_replicate, fun _ _ _ _ => List.length_set, fun _ _ _ _ => List.length_map _, fun _ _ _ => rfl, fun _ => rfl⟩
section
variable {P : Program} {o : Oper} {n : Sz} {fl : Slots} {a : Act} {w w0 : World} {v : Value} {M : Nat → Prop} {l : List Atom} {ops : Array Oper} {d : Nat} {K : Act → World → Prop} {Q : Exit → Act → World → Prop} {rest : List Oper} {tails rem : List Nat} {ro : List Atom} {f i : Nat}
/-- a quiet step that stands under no guard -/
theorem gy (hg : o.guard = none) (hd : o.dst = some d) (hn : Nat.blt d n.n = true) (S : St n fl a) (hy : Yld P o a w v) (k : ∀ a', St n ((d, v) :: fl) a' → gl P ops Q rest a' w) : gl P ops Q (o :: rest) a w := wl_of (op_y (wn hg) hd hn S hy k)
/-- a move, a variable set -/
theorem gm {x : Operand} (S : St n fl a) (k : ∀ a', St n ((d, v) :: fl) a' → gl P ops Q rest a' w) (hg : o.guard = none := by rfl) (hd : o.dst = some d := by rfl) (hn : Nat.blt d n.n = true := by rfl) (ho : o.op = .move x := by rfl) (hx : ev fl x = some v := by rfl) : gl P ops Q (o :: rest) a w := gy hg hd hn S (y_move ho S hx) k
theorem ga {x : Operand} (S : St n fl a) (k : ∀ a', St n ((d, v) :: fl) a' → gl P ops Q rest a' w) (hg : o.guard = none := by rfl) (hd : o.dst = some d := by rfl) (hn : Nat.blt d n.n = true := by rfl) (ho : o.op = .assign x := by rfl) (hx : ev fl x = some v := by rfl) : gl P ops Q (o :: rest) a w := gy hg hd hn S (y_assign ho S hx) k
theorem gsr {r : Option Nat} {id : Nat} {L : List Oper} {y : Code} (h : gl P L.toArray (Exit.then (gp r P y Q) Q) L a w) : gp r P (.seq (.region id L.toArray false) y) Q a w := g_seq (g_region h)
theorem gnt {K : Act → World → Prop} (h : K a w) : gl P ops (Exit.then K Q) [] a w := gl_nil (n_then h)
/-- a quiet step that stands under a guard -/
theorem gz (g : Nat) {j : Nat} {b B : Bool} (h : B = b) (S : St n fl a) (hg : o.guard = some (j, b)) (hj : (ops[j]?).bind (·.dst) = some g) (hb : fl.lookup g = some (.bool B)) (hl : Nat.blt g n.n = true) (hd : o.dst = some d) (hn : Nat.blt d n.n = true) (hy : Yld P o a w v) (k : ∀ a', St n ((d, v) :: fl) a' → gl P ops Q rest a' w) : gl P ops Q (o :: rest) a w :=
  wl_of (op_y (wg' g hg hj S hb h hl) hd hn S hy k)
theorem t_b1 (i : Nat) (hrs : rem.filter (readyB .any ops rem) = [i]) (hi : ops[i]? = some o)
    (h : ∀ w, HSat M w0 l w → opw P ops o a w (fun a' w' => ∃ C', Stable C' ∧ C' w' ∧ ((∀ w, C' w → HSat M w0 l w) ∨ tails.contains i = true) ∧ (∀ w, C' w → RO ro w) ∧ MixT P .any ops tails (RO ro) K f (rem.erase i) a' C')) : MixT P .any ops tails (RO ro) K (f + 1) rem a (HSat M w0 l) :=
  t_b [i] hrs rfl (fun j hj => by obtain rfl := List.mem_singleton.1 hj; exact ⟨o, hi, h⟩)
theorem fa2 {p : Nat → Prop} {x y : Nat} (h1 : p x) (h2 : p y) : ∀ i ∈ [x, y], p i := fun i hi => by simp only [List.mem_cons, List.not_mem_nil, or_false] at hi; rcases hi with rfl | rfl <;> assumption
theorem fa3 {p : Nat → Prop} {x y z : Nat} (h1 : p x) (h2 : p y) (h3 : p z) : ∀ i ∈ [x, y, z], p i := fun i hi => by simp only [List.mem_cons, List.not_mem_nil, or_false] at hi; rcases hi with rfl | rfl | rfl <;> assumption
/-- atoms put in front -/
class SubL (l l' : List Atom) : Prop where
  sub : l.Sublist l'
instance (priority := 2000) SubL.refl (l : List Atom) : SubL l l := ⟨List.Sublist.refl _⟩
instance SubL.cons (l : List Atom) (x : Atom) (l' : List Atom) [h : SubL l l'] : SubL l (x :: l') := ⟨h.sub.cons x⟩
theorem t_n [ROs ro] {a' : Act} {w' : World} {l' : List Atom} {rem' : List Nat} [HasRO l' ro] (H : HSat M w0 l' w') [hs : SubL l l'] (hr : rem.erase i = rem') (h : MixT P .any ops tails (RO ro) K f rem' a' (HSat M w0 l')) :
    ∃ C', Stable C' ∧ C' w' ∧ ((∀ w, C' w → HSat M w0 l w) ∨ tails.contains i = true) ∧ (∀ w, C' w → RO ro w) ∧ MixT P .any ops tails (RO ro) K f (rem.erase i) a' C' := t_next H hs.sub hr h
end
end Go.Gw
end
section
namespace Go.Gw
set_option linter.unusedVariables false
set_option linter.unusedSimpArgs false
section
variable {P : Program} {o : Oper} {n : Sz} {fl : Slots} {a : Act} {w : World} {v : Value}
theorem y_lenstr {x : Operand} {T : TypeId} {s : ByteArray} (ho : o.op = .call { callee := .builtin .len, args := #[x], argTypes := #[T] }) (hT : P.underlying T = some .string) (S : St n fl a) (hx : ev fl x = some (.string s)) : Yld P o a w (.int .i64 (s.size : Int)) := by
  unfold Yld execOp; rw [ho]; simp [resolve, invoke, builtin, S.ev hx, run_len_string w T o.type s hT, goInt]
theorem y_idxstr {x ix : Operand} {T : TypeId} {s : ByteArray} {k : IntKind} {i : Nat} (ho : o.op = .index T x ix) (hT : P.underlying T = some .string) (S : St n fl a) (hx : ev fl x = some (.string s)) (hi : ev fl ix = some (.int k (i : Int))) (hl : i < s.size) : Yld P o a w (.int .u8 (s[i].toNat : Int)) := by
  unfold Yld execOp; rw [ho]; simp [S.ev hx, S.ev hi, run_index_string w T s k (i : Int) hT, hl]
theorem bytes_beq (s t : ByteArray) : (s.toList == t.toList) = decide (s = t) := by
  rw [Bool.eq_iff_iff, decide_eq_true_eq, beq_iff_eq, ByteArray.toList_eq, ByteArray.toList_eq]
  exact ⟨fun h => by
    obtain ⟨⟨x⟩⟩ := s
    obtain ⟨⟨y⟩⟩ := t
    simp only at h
    rw [h], fun h => by rw [h]⟩
theorem y_eqs {T U : TypeId} {x y : Operand} {s t : ByteArray} (ho : o.op = .binOp .eql T x y U) (hT : P.underlying T = some .string) (S : St n fl a) (hx : ev fl x = some (.string s)) (hy : ev fl y = some (.string t)) : Yld P o a w (.bool (decide (s = t))) := by
  unfold Yld execOp; rw [ho]; simp only [S.ev hx, S.ev hy, eqGuard, binOp]
  simp only [Op.stringOp]
  simp
  exact bytes_beq s t
theorem y_nes {T U : TypeId} {x y : Operand} {s t : ByteArray} (ho : o.op = .binOp .neq T x y U) (hT : P.underlying T = some .string) (S : St n fl a) (hx : ev fl x = some (.string s)) (hy : ev fl y = some (.string t)) : Yld P o a w (.bool (!decide (s = t))) := by
  unfold Yld execOp; rw [ho]; simp only [S.ev hx, S.ev hy, eqGuard, binOp]
  simp only [Op.stringOp]
  simp
  exact bytes_beq s t
theorem y_adds {T U : TypeId} {x y : Operand} {s t : ByteArray} (ho : o.op = .binOp .add T x y U) (S : St n fl a) (hx : ev fl x = some (.string s)) (hy : ev fl y = some (.string t)) (h : s.size + t.size ≤ 9223372036854775807) : Yld P o a w (.string (s ++ t)) := by
  unfold Yld execOp; rw [ho]; simp only [S.ev hx, S.ev hy, eqGuard, binOp]
  simp [run_string_add_sum w s t h]
end
end Go.Gw
end
section
namespace Go.Gw
set_option linter.unusedVariables false
set_option linter.unusedSimpArgs false
def subM (v : Value) (i j m sz : Nat) : Value := match v with
  | .slice p _ _ => sliced p i j m sz
  | v => v
theorem flat_take {α : Type} {enc : α → List Value} {sz : Nat} {xs : List α} (hs : ∀ x ∈ xs, (enc x).length = sz) (i : Nat) (hi : i ≤ xs.length) : (xs.flatMap enc).take (i * sz) = (xs.take i).flatMap enc := by
  have e : xs.flatMap enc = (xs.take i).flatMap enc ++ (xs.drop i).flatMap enc := by rw [← List.flatMap_append, List.take_append_drop]
  have h2 := flatMap_len (enc := enc) (sz := sz) (xs := xs.take i) (fun x hx => hs x (List.mem_of_mem_take hx))
  rw [List.length_take, Nat.min_eq_left hi] at h2
  rw [e, List.take_append_of_le_length (by omega), List.take_of_length_le (by omega)]
theorem flat_drop {α : Type} {enc : α → List Value} {sz : Nat} {xs : List α} (hs : ∀ x ∈ xs, (enc x).length = sz) (i : Nat) (hi : i ≤ xs.length) : (xs.flatMap enc).drop (i * sz) = (xs.drop i).flatMap enc := by
  have e : xs.flatMap enc = (xs.take i).flatMap enc ++ (xs.drop i).flatMap enc := by rw [← List.flatMap_append, List.take_append_drop]
  have h2 := flatMap_len (enc := enc) (sz := sz) (xs := xs.take i) (fun x hx => hs x (List.mem_of_mem_take hx))
  rw [List.length_take, Nat.min_eq_left hi] at h2
  rw [e, List.drop_append_of_le_length (by omega), List.drop_of_length_le (by omega), List.nil_append]
section
variable {P : Program} {o : Oper} {n : Sz} {fl : Slots} {a : Act} {w w0 : World} {v : Value} {M : Nat → Prop} {l : List Atom} {ops : Array Oper} {d : Nat} {K : Act → World → Prop}
theorem y_slice3 {T E : TypeId} {x lo hi mx : Operand} {k k2 k3 : IntKind} {i j m : Nat} {sz : Nat} {α : Type} {enc : α → List Value} {xs : List α} (ho : o.op = .slice T x (some lo) (some hi) (some mx)) (hT : P.underlying T = some (.slice E)) (hE : sizeB P E sz = true) (S : St n fl a) (H : HSat M w0 l w)
    (hx : ev fl x = some v) (hl : ev fl lo = some (.int k (i : Int))) (hh : ev fl hi = some (.int k2 (j : Int))) (hm : ev fl mx = some (.int k3 (m : Int))) [h : HasSl l v sz α enc xs] [hc : HasCap l v] (h1 : i ≤ j) (h2 : j ≤ m) (h3 : m ≤ xs.length) : Yld P o a w (subM v i j m sz) := by
  unfold Yld execOp; rw [ho]
  simp only [Option.map_some, Option.map_none, S.ev hx, S.ev hl, S.ev hh, S.ev hm]
  obtain ⟨p, c, rfl⟩ := (H.sl v (h := h)).shape
  have hcap : xs.length ≤ c := hc.at_ w H.ok
  have hT' : P.underlying T = some (.slice (P.elem T)) := by rw [elem_of hT]; exact hT
  have hsz : (sizeOf (P.elem T)).run P w = .ok sz w := by rw [elem_of hT]; exact run_sizeOf_agg (sizeB_size hE)
  simp only [Sem.run_bind, run_sliceAt_slice (P := P) w T _ _ _ _ hT', run_slice_lhm (P := P) w T p xs.length c hT' k k2 k3 i j m (by omega) (by omega) (by omega) (by omega), hsz, Result.andThen_ok, Sem.run_pure]
  simp [subM]
theorem HSat.takeT {rest : List Atom} (H : HSat M w0 l w) (tgt : List Atom) (t : List Atom) [h : HasPick l tgt rest] [hs : SubL t rest] : HSat M w0 (tgt ++ t) w := (H.perm h.perm).sub (hs.sub.append_left tgt)
end
end Go.Gw
end
section
namespace Go.Gw
set_option linter.unusedVariables false
set_option linter.unusedSimpArgs false
section
variable {P : Program} {o : Oper} {n : Sz} {fl : Slots} {a : Act} {w w0 : World} {v : Value} {M : Nat → Prop} {l : List Atom} {ops : Array Oper} {d : Nat} {K : Act → World → Prop}
theorem y_nea {T U : TypeId} {x y : Operand} {xs ys : List Value} {b : Bool} (h : ∀ w, (Op.equalIn 10000 T (.agg xs.toArray) (.agg ys.toArray)).run P w = .ok b w) (ho : o.op = .binOp .neq T x y U) (hg : P.eqGuardType P.depth T = false) (S : St n fl a) (hx : ev fl x = some (.agg xs.toArray)) (hy : ev fl y = some (.agg ys.toArray)) : Yld P o a w (.bool (!b)) := by
  unfold Yld execOp; rw [ho]
  simp only [S.ev hx, S.ev hy, Sem.run_bind, run_eqGuard_agg w _ T _ _ _ _ hg, Result.andThen_ok, run_neq_struct, h, Sem.run_pure]
theorem y_extern {f : FuncId} {xs : Array Operand} {at_ : Array TypeId} {vs : List Value} (ho : o.op = .call { callee := .value (.func f), args := xs, argTypes := at_ }) (S : St n fl a) (hx : evs fl xs.toList = some vs) (he : (callFunc f vs.toArray).run P w = .ok (.value v) w) : Yld P o a w v := by
  have h := S.evs hx
  have h2 : xs.map a.eval = vs.toArray := by rw [← h, ← Array.toList_map]
  unfold Yld execOp; rw [ho]
  simp only [resolve, Act.eval, Deferred.ofValue, h2]
  simpa [invoke] using he
/-- an own slice's cells -/
theorem IsOSl.cells {E : TypeId} {sz g m c : Nat} {α : Type} {enc : α → List Value} {xs : List α} (h : IsOSl w E (.slice (some ⟨g, 0, none⟩) m c) sz enc xs) (i j : Nat) (u : Value) (hi : i ≤ xs.length) (hu : ((xs.drop i).flatMap enc)[j]? = some u) : w.cell? ⟨g, i * sz + j, none⟩ = some u := by
  rcases h.row.2 with ⟨e, _⟩ | ⟨g', cap, cur, e, _, hg, hnc, hmax, hcs, ht⟩
  · cases e
  · simp only [Value.slice.injEq, Option.some.injEq, Addr.mk.injEq, and_true, true_and] at e
    obtain ⟨rfl, rfl, rfl⟩ := e
    rw [cell_of_row w g _ cur E (0, 0) hg]
    rw [← flat_drop h.sizes i hi, List.getElem?_drop, ← ht, List.getElem?_take] at hu
    split at hu
    · simpa using hu
    · cases hu
theorem HSat.hd {x : Atom} (H : HSat M w0 (x :: l) w) : x.ok w := H.ok x (List.mem_cons_self ..)
theorem HSat.ownG {E : TypeId} {sz : Nat} {α : Type} {enc : α → List Value} {xs : List α} (H : HSat M w0 (OSl E v sz enc xs :: l) w) (hne : 0 < xs.length) : ∃ g c, v = .slice (some ⟨g, 0, none⟩) xs.length c ∧ xs.length ≤ c := by
  have h : IsOSl w E v sz enc xs := H.hd
  rcases h.row.2 with ⟨_, e⟩ | ⟨g, c, cur, e, _, _, hnc, _⟩
  · omega
  · exact ⟨g, c, e, hnc⟩
/-- elements written from place i on -/
theorem IsOSl.write {E : TypeId} {sz g m c : Nat} {α : Type} {enc : α → List Value} {xs : List α} (h : IsOSl w E (.slice (some ⟨g, 0, none⟩) m c) sz enc xs) (i : Nat) (ys : List α) (hy : ∀ y ∈ ys, (enc y).length = sz) (hi : i ≤ xs.length) (hf : i + ys.length ≤ c) :
    ∃ cur : Array Value, w.heap[g]? = some (.cells cur E (0, 0)) ∧ cur.size = c * sz ∧ m = xs.length ∧ IsOSl (w.setRow g (cur.toList.take (i * sz) ++ ys.flatMap enc ++ cur.toList.drop (i * sz + (ys.flatMap enc).length)).toArray) E (.slice (some ⟨g, 0, none⟩) (max xs.length (i + ys.length)) c) sz enc (xs.take i ++ ys ++ xs.drop (i + ys.length)) := by
  rcases h.row.2 with ⟨e, _⟩ | ⟨g', cap, cur, e, _, hg, hnc, hmax, hcs, ht⟩
  · cases e
  · simp only [Value.slice.injEq, Option.some.injEq, Addr.mk.injEq, and_true, true_and] at e
    obtain ⟨rfl, rfl, rfl⟩ := e
    refine ⟨cur, hg, hcs, rfl, ?_⟩
    have hL : (xs.take i ++ ys ++ xs.drop (i + ys.length)).length = max xs.length (i + ys.length) := by
      simp only [List.length_append, List.length_take, List.length_drop]; omega
    have hyl := flatMap_len (enc := enc) (sz := sz) (xs := ys) hy
    have hxl := flatMap_len (enc := enc) (sz := sz) (xs := xs) h.sizes
    have hsz : ∀ z ∈ xs.take i ++ ys ++ xs.drop (i + ys.length), (enc z).length = sz := fun z hz => by
      rcases List.mem_append.1 hz with hz | hz
      · rcases List.mem_append.1 hz with hz | hz
        · exact h.sizes z (List.mem_of_mem_take hz)
        · exact hy z hz
      · exact h.sizes z (List.mem_of_mem_drop hz)
    have hcl : cur.toList.length = c * sz := by rw [Array.length_toList, hcs]
    have m1 : i * sz + ys.length * sz ≤ c * sz := by rw [← Nat.add_mul]; exact Nat.mul_le_mul_right _ hf
    have m2 : i * sz ≤ xs.length * sz := Nat.mul_le_mul_right _ hi
    have m3 : xs.length * sz ≤ c * sz := Nat.mul_le_mul_right _ hnc
    refine ⟨⟨?_, .inr ⟨g, c, _, by rw [hL], Nat.zero_le _, setRow_heap w g _ _ _ _ hg, by rw [hL]; omega, hmax, ?_, ?_⟩⟩, by rw [hL]; have := h.len; unfold maxLen at hmax; omega, hsz⟩
    · exact flatMap_len hsz
    · simp only [List.size_toArray, List.length_append, List.length_take, List.length_drop, hcl, hyl]; omega
    · rw [hL]
      simp only [List.flatMap_append]
      have et : (xs.take i).flatMap enc = cur.toList.take (i * sz) := by
        rw [← flat_take h.sizes i hi, ← ht, List.take_take, Nat.min_eq_left m2]
      rw [et, hyl]
      rcases Nat.lt_or_ge (i + ys.length) xs.length with hlt | hge
      · have ed : (xs.drop (i + ys.length)).flatMap enc = (cur.toList.take (xs.length * sz)).drop ((i + ys.length) * sz) := by
          rw [ht, flat_drop h.sizes _ (by omega)]
        rw [ed, Nat.max_eq_left (by omega)]
        have m4 : (i + ys.length) * sz ≤ xs.length * sz := Nat.mul_le_mul_right _ (by omega)
        rw [Nat.add_mul] at m4 ⊢
        rw [List.take_append, List.take_of_length_le (by simp only [List.length_append, List.length_take, hcl, hyl]; omega), List.drop_take]
        congr 2
        simp only [List.length_append, List.length_take, hcl, hyl]; omega
      · rw [List.drop_of_length_le hge, Nat.max_eq_right hge, List.flatMap_nil, List.append_nil, Nat.add_mul]
        rw [List.take_append_of_le_length (by simp only [List.length_append, List.length_take, hcl, hyl]; omega), List.take_of_length_le (by simp only [List.length_append, List.length_take, hcl, hyl]; omega)]
theorem y_subn {T U : TypeId} {x y : Operand} {p q : Int} {m : Nat} (ho : o.op = .binOp .sub T x y U) (S : St n fl a) (hx : ev fl x = some (.int .i64 p)) (hy : ev fl y = some (.int .i64 q)) (h : p - q = (m : Int)) (hb : m ≤ 9223372036854775807) : Yld P o a w (.int .i64 (m : Int)) := by
  rw [← h]; exact y_sub ho S hx hy (by omega)
theorem y_remN {T U : TypeId} {x y : Operand} {k : IntKind} {m q : Nat} (ho : o.op = .binOp .rem T x y U) (S : St n fl a) (hx : ev fl x = some (.int k (m : Int))) (hy : ev fl y = some (.int k (q : Int))) (hq : 0 < q) : Yld P o a w (.int k ((m % q : Nat) : Int)) := by
  rw [Int.natCast_emod]; exact y_remn ho S hx hy (by omega) (by omega)
end
end Go.Gw
end
section
namespace Go.Gw
set_option linter.unusedVariables false
set_option linter.unusedSimpArgs false
set_option linter.unusedSectionVars false
/-- a fact as an atom -/
def PureA (p : Prop) : Atom := ⟨true, fun _ => False, fun _ => p, fun _ _ _ h => h, fun _ _ _ h => h.elim⟩
section
variable {w w0 : World} {M : Nat → Prop} {l : List Atom}
theorem HSat.fact {p : Prop} (H : HSat M w0 (PureA p :: l) w) : p := H.ok (PureA p) (List.mem_cons_self ..)
theorem HSat.laid {p : Prop} (H : HSat M w0 l w) (h : p) : HSat M w0 (PureA p :: l) w :=
  ⟨H.fr, fun x hx => (List.mem_cons.1 hx).elim (fun e => e ▸ h) (H.ok x), fun x hx ho b hb => (List.mem_cons.1 hx).elim (fun e => by subst e; exact (hb : False).elim) (fun hx => H.mine x hx ho b hb), List.pairwise_cons.2 ⟨fun y hy ho b hb => (hb : False).elim, H.sep⟩⟩
end
end Go.Gw
end
section
namespace Go.Gw
set_option linter.unusedVariables false
set_option linter.unusedSimpArgs false
section
variable {P : Program} {o : Oper} {n : Sz} {fl : Slots} {a : Act} {w w0 : World} {v : Value} {M : Nat → Prop} {l : List Atom} {ops : Array Oper} {d : Nat} {K : Act → World → Prop}
theorem y_xoru {T U : TypeId} {x y : Operand} {m q r : Nat} (ho : o.op = .binOp .xor T x y U) (S : St n fl a) (hx : ev fl x = some (.int .u64 (m : Int))) (hy : ev fl y = some (.int .u64 (q : Int))) (hm : m < 18446744073709551616) (hq : q < 18446744073709551616) (hr : m ^^^ q = r) : Yld P o a w (.int .u64 (r : Int)) := by
  unfold Yld execOp; rw [ho]; simp only [S.ev hx, S.ev hy]
  have h := bits_xor_u64_nat m q hm hq
  rw [hr] at h
  simp only [bits] at h
  simp only [eqGuard, binOp, Op.intBits, h]
  simp [h]
theorem y_oru {T U : TypeId} {x y : Operand} {m q r : Nat} (ho : o.op = .binOp .or T x y U) (S : St n fl a) (hx : ev fl x = some (.int .u64 (m : Int))) (hy : ev fl y = some (.int .u64 (q : Int))) (hm : m < 18446744073709551616) (hq : q < 18446744073709551616) (hr : m ||| q = r) : Yld P o a w (.int .u64 (r : Int)) := by
  unfold Yld execOp; rw [ho]; simp only [S.ev hx, S.ev hy]
  have h := bits_or_u64_nat m q hm hq
  rw [hr] at h
  simp only [bits] at h
  simp only [eqGuard, binOp, Op.intBits, h]
  simp [h]
/-- a word shifted to the right by q -/
theorem y_shru {T U : TypeId} {x y : Operand} {k2 : IntKind} {m q r : Nat} (ho : o.op = .binOp .shr T x y U) (S : St n fl a) (hx : ev fl x = some (.int .u64 (m : Int))) (hy : ev fl y = some (.int k2 (q : Int))) (hq : q ≤ 64) (hr : m >>> q = r) : Yld P o a w (.int .u64 (r : Int)) := by
  refine y_shr ho S hx hy (by omega) ?_
  have e : min (q : Int).toNat IntKind.u64.bits = q := by
    show min (q : Int).toNat 64 = q
    omega
  rw [e, ← hr, Nat.shiftRight_eq_div_pow, Int.fdiv_eq_ediv_of_nonneg _ (Int.le_of_lt (Int.pow_pos (by decide)))]
  rw [Int.natCast_ediv, Int.natCast_pow]
  rfl
/-- a word shifted to the left by q, of which nothing is lost -/
theorem y_shlu {T U : TypeId} {x y : Operand} {k2 : IntKind} {m q r : Nat} (ho : o.op = .binOp .shl T x y U) (S : St n fl a) (hx : ev fl x = some (.int .u64 (m : Int))) (hy : ev fl y = some (.int k2 (q : Int))) (hq : q ≤ 64) (hr : m <<< q = r) (hb : r < 18446744073709551616) : Yld P o a w (.int .u64 (r : Int)) := by
  unfold Yld execOp; rw [ho]; simp only [S.ev hx, S.ev hy]
  have e : min (q : Int).toNat IntKind.u64.bits = q := by
    show min (q : Int).toNat 64 = q
    omega
  have e2 : IntKind.u64.wrap ((m : Int) * 2 ^ q) = (r : Int) := by
    rw [IntKind.wrap_u64, ← hr, Nat.shiftLeft_eq]
    have : ((m : Int) * 2 ^ q) = ((m * 2 ^ q : Nat) : Int) := by rw [Int.natCast_mul, Int.natCast_pow]; rfl
    rw [this]
    rw [← hr, Nat.shiftLeft_eq] at hb
    omega
  simp [eqGuard, binOp, Op.shift, e, e2]
theorem y_muln {T U : TypeId} {x y : Operand} {m q r : Nat} (ho : o.op = .binOp .mul T x y U) (S : St n fl a) (hx : ev fl x = some (.int .i64 (m : Int))) (hy : ev fl y = some (.int .i64 (q : Int))) (hr : m * q = r) (h : r ≤ 9223372036854775807) : Yld P o a w (.int .i64 (r : Int)) := by
  have e : (m : Int) * (q : Int) = (r : Int) := by rw [← hr, Int.natCast_mul]
  rw [← e]; exact y_mul ho S hx hy (by omega)
/-- an element of an array value, as the machine computes it -/
theorem y_index {T : TypeId} {x ix : Operand} {u i r : Value} (ho : o.op = .index T x ix) (S : St n fl a) (hx : ev fl x = some u) (hi : ev fl ix = some i) (h : (Instr.index T u i).run P w = .ok r w) : Yld P o a w r := by
  unfold Yld execOp; rw [ho]; simp [S.ev hx, S.ev hi, h]
/-- a slice of a whole array, as the machine computes it -/
theorem y_sliceA {T : TypeId} {x : Operand} {u r : Value} (ho : o.op = .slice T x none none none) (S : St n fl a) (hx : ev fl x = some u) (h : (Instr.sliceAt T u none none none).run P w = .ok r w) : Yld P o a w r := by
  unfold Yld execOp; rw [ho]; simp [S.ev hx, h]
/-- a conversion, as the machine computes it -/
theorem y_convX {T D : TypeId} {x : Operand} {u r : Value} (ho : o.op = .convert T D x) (S : St n fl a) (hx : ev fl x = some u) (h : (convert T D u).run P w = .ok r w) : Yld P o a w r := by
  unfold Yld execOp; rw [ho]; simp only [S.ev hx]
  simp only [Sem.run_bind, h, Result.andThen_ok, Sem.run_pure]
/-- a pointer is compared with itself -/
theorem y_neself {T U E : TypeId} {x y : Operand} {p : Addr} {j : TypeInfo} (ho : o.op = .binOp .neq T x y U) (hT : P.underlying T = some (.pointer E)) (hj : P.info? E = some j) (S : St n fl a) (hx : ev fl x = some (.pointer (some p))) (hy : ev fl y = some (.pointer (some p))) : Yld P o a w (.bool false) := by
  have h := Go.Lib.run_neq_ptr_same (P := P) w p hT hj
  unfold Yld execOp; rw [ho]; simp only [S.ev hx, S.ev hy]
  simp [eqGuard, h]
/-- bytes that lie in one block as a string -/
theorem y_bytestr {T D E : TypeId} {x : Operand} {b c m : Nat} {cs : List Value} {T' : TypeId} {fz : Nat × Nat} (t : List UInt8) (ho : o.op = .convert T D x) (hs : P.underlying T = some (.slice E)) (he : P.underlying E = some (.int .u8)) (hd : P.underlying D = some .string) (S : St n fl a) (H : HSat M w0 l w)
    (hx : ev fl x = some (.slice (some ⟨b, 0, none⟩) m c)) [h : HasRd l b (.cells cs.toArray T' fz)] (ht : t.length = m) (hc : ∀ j (hj : j < t.length), cs[j]? = some (.int .u8 (t[j].toNat : Int))) : Yld P o a w (.string ⟨t.toArray⟩) := by
  subst ht
  unfold Yld execOp; rw [ho]; simp only [S.ev hx]
  have hh := run_convert_bytes_back (P := P) w T D E ⟨b, 0, none⟩ c t hs he hd (fun j hj => by rw [add_plain, H.cell h]; simpa using hc j hj)
  simp only [Sem.run_bind, hh, Result.andThen_ok, Sem.run_pure]
end
end Go.Gw
end
section
namespace Go.Gw
open Go.Lib Go.RowKit
set_option linter.unusedVariables false
set_option linter.unusedSimpArgs false
section
variable {P : Program} {o : Oper} {n : Sz} {fl : Slots} {a : Act} {w w0 : World} {v : Value} {M : Nat → Prop} {l : List Atom} {ops : Array Oper} {d : Nat} {K : Act → World → Prop}
def encB (c : UInt8) : List Value := [.int .u8 (c.toNat : Int)]
theorem strCells_flat (s : ByteArray) : strCells s = s.data.toList.flatMap encB := by
  unfold strCells
  rw [List.map_eq_flatMap]
  rfl
theorem run_append_str_at {T U ty E : TypeId} {z : Value} (hT : P.underlying T = some (.slice E)) (hU : P.underlying U = some .string) (hE : infoB P E = some (z, 1, 1)) (hz : z = .int .u8 0)
    {xs : List UInt8} (ho : IsOSl w E v 1 encB xs) (s : ByteArray) (hb : xs.length + s.size ≤ 140737488355328) (hne : s.size ≠ 0 ∨ v ≠ .slice none 0 0) :
    ∃ v' w', (Builtin.append_ #[T, U] ty #[v, .string s]).run P w = .ok v' w' ∧ IsOSl w' E v' 1 encB (xs ++ s.data.toList) ∧ Fr (fun k => v.ownBlock = some k) w w' ∧ (∀ b, v'.ownBlock = some b → v.ownBlock = some b ∨ w.heap.size ≤ b) ∧ v' ≠ .slice none 0 0 := by
  subst hz
  obtain ⟨i, hi, hzi, hsi, hbi⟩ := infoB_parts hE
  have hsl : s.data.toList.length = s.size := Array.length_toList
  obtain ⟨v', w', hr, hown, hgr, hnil⟩ := run_append_own_string (P := P) w 0 T U ty E i hT hU hi hzi hsi hbi v xs.length (xs.flatMap encB) ho.row s (by unfold maxLen; omega) hb (Nat.zero_le _)
  have hrow : IsOSl w' E v' 1 encB (xs ++ s.data.toList) := ⟨by rw [List.length_append, hsl, List.flatMap_append, ← strCells_flat]; exact hown, by rw [List.length_append, hsl]; omega, fun x hx => rfl⟩
  have hcase : (∀ k, k < w.heap.size → ThawO w.heap[k]? → ThawO w'.heap[k]?) ∧ (∀ b, v'.ownBlock = some b → v.ownBlock = some b ∨ w.heap.size ≤ b) := by
    rcases ho.row.2 with ⟨rfl, hn⟩ | ⟨g, cap, cur, rfl, _, hg, hnc, hcm, hcs, ht⟩
    · have h0 : 0 < s.size := by rcases hne with h | h; omega; exact absurd rfl h
      have hr2 := run_append_nil_string (P := P) w T U ty E i _ hT hU hi hzi s h0 (by omega) (by rw [hbi]; omega)
      rw [hr2] at hr
      cases hr
      refine ⟨((Ext.drew w).trans (Ext.alloc_cells _ _ _)).thaw, fun b hb' => ?_⟩
      simp only [Value.ownBlock, Option.some.injEq] at hb'
      exact .inr (by omega)
    · by_cases hroom : xs.length + s.size ≤ cap
      · have hr2 := run_append_room_string (P := P) w T U ty E i hT hU hi hsi g xs.length cap cur hg s hroom (by rw [hcs]; omega)
        rw [hr2] at hr
        cases hr
        refine ⟨fun k _ hk => ?_, fun b hb' => .inl hb'⟩
        by_cases hkg : k = g
        · subst hkg; rw [setRow_heap w k _ _ _ _ hg]; exact Nat.le_refl 0
        · rw [setRow_other w g k _ hkg]; exact hk
      · have holds : ∀ j u, (xs.flatMap encB)[j]? = some u → w.cell? ((⟨g, 0, none⟩ : Addr).add j) = some u := ho.row.cells (g := g) rfl
        have hr2 := run_append_grow_string (P := P) w T U ty E i _ hT hU hi hzi ⟨g, 0, none⟩ xs.length cap (xs.flatMap encB) (by rw [hsi]; exact flatMap_len ho.sizes) holds s (by omega) (by omega) (by rw [hbi]; exact growslice_fits (by omega) (by omega))
        rw [hr2] at hr
        cases hr
        refine ⟨((Ext.drew w).trans (Ext.alloc_cells _ _ _)).thaw, fun b hb' => ?_⟩
        simp only [Value.ownBlock, Option.some.injEq] at hb'
        exact .inr (by omega)
  refine ⟨v', w', hr, hrow, ⟨hgr.os, hgr.tape, hgr.output, hgr.size, fun k hk hM => hgr.block k hk (fun e => hM e.symm), hcase.1⟩, hcase.2, fun e => ?_⟩
  obtain ⟨e1, e2⟩ := hnil.1 e
  rcases hne with h | h
  · exact h e2
  · exact h e1
theorem op_appendStr {T U E : TypeId} {s x : Operand} {z : Value} {xs : List UInt8} {l' : Atom → List Atom} (t : ByteArray)
    (hw : Region.wanted o (yielded ops a.tmps) = true) (hd : o.dst = some d) (hn : Nat.blt d n.n = true) (ho : o.op = .call { callee := .builtin .append, args := #[s, x], argTypes := #[T, U] }) (hT : P.underlying T = some (.slice E)) (hU : P.underlying U = some .string) (hE : infoB P E = some (z, 1, 1)) (hz : z = .int .u8 0)
    (S : St n fl a) (H : HSat M w0 l w) (hs : ev fl s = some v) (hx : ev fl x = some (.string t)) [hO : HasO l v E 1 UInt8 encB xs l'] (hb : xs.length + t.size ≤ 140737488355328) (hne : t.size ≠ 0 ∨ v ≠ .slice none 0 0)
    (k : ∀ v' a' w', v' ≠ .slice none 0 0 → St n ((d, v') :: fl) a' → HSat M w0 (l' (OSl E v' 1 encB (xs ++ t.data.toList))) w' → K a' w') : opw P ops o a w K := by
  obtain ⟨l1, l2, e1, e2⟩ := hO.at_
  have hok : IsOSl w E v 1 encB xs := H.ok (OSl E v 1 encB xs) (by rw [e1]; simp)
  obtain ⟨v', w', hr, hown, hfr, hnew, hnn⟩ := run_append_str_at (P := P) (ty := o.type) hT hU hE hz hok t hb hne
  have hrun : (execOp a.eval o).run P w = .ok (.value v') w' := by
    unfold execOp; rw [ho]
    simp only [resolve, invoke, builtin, Sem.run_bind, Sem.run_pure, Result.andThen_ok, List.map_toArray, List.map_cons, List.map_nil, S.ev hs, S.ev hx, hr]
  refine opw_val hw hrun ?_
  rw [hd]
  refine k v' _ w' hnn (S.put hn v') ?_
  rw [e2]
  rw [e1] at H
  exact HSat.swap H rfl rfl hfr hown hnew
end
end Go.Gw
end
section
namespace Go.Gw
set_option linter.unusedVariables false
set_option linter.unusedSimpArgs false
section
variable {P : Program} {o : Oper} {n : Sz} {fl : Slots} {a : Act} {w w0 : World} {v : Value} {M : Nat → Prop} {l : List Atom} {ops : Array Oper} {d : Nat} {K : Act → World → Prop}
theorem HSat.allocF (H : HSat M w0 l w) (ob : Obj) : HSat M w0 (Blk w.heap.size ob :: l) (w.alloc ob) := by
  have H' : HSat No w [Blk w.heap.size ob] (w.alloc ob) := ⟨⟨rfl, rfl, rfl, by simp, fun k hk _ => RowKit.Below.heap_alloc w ob k hk, fun k hk ht => by rw [RowKit.Below.heap_alloc w ob k hk]; exact ht⟩, by intro x hx; simp at hx; subst hx; exact heap_new w ob, by intro x hx ho b hb; simp at hx; subst hx; simp [Blk] at hb; exact .inr (by omega), List.pairwise_singleton _ _⟩
  exact H.call H' (by simp [Blk])
theorem size_toList (s : ByteArray) : s.data.toList.length = s.size := Array.length_toList
/-- the bytes of a string, to be read -/
theorem op_strBytes {T D E : TypeId} {x : Operand} {s : ByteArray} (hw : Region.wanted o (yielded ops a.tmps) = true) (hd : o.dst = some d) (hn : Nat.blt d n.n = true) (ho : o.op = .convert T D x) (hT : P.underlying T = some .string) (hD : P.underlying D = some (.slice E)) (hE : P.underlying E = some (.int .u8))
    (S : St n fl a) (H : HSat M w0 l w) (hx : ev fl x = some (.string s)) (hs : s.size ≤ 9223372036854775807)
    (k : ∀ v' a' w', St n ((d, v') :: fl) a' → HSat M w0 (Sl v' 1 encB s.data.toList :: l) w' → K a' w') : opw P ops o a w K := by
  have hr := run_bytes_of_string (P := P) w T D E s hT hD hE
  have hrun : (execOp a.eval o).run P w = .ok (.value (.slice (some ⟨w.heap.size, 0, none⟩) s.size (grownCap w s.size 0 E))) (w.drew.alloc (.cells (bytesRow s (grownCap w s.size 0 E)) E ((bytesRow s (grownCap w s.size 0 E)).size, (bytesRow s (grownCap w s.size 0 E)).size + 1))) := by
    unfold execOp; rw [ho]; simp only [S.ev hx]
    simp only [Sem.run_bind, hr, Result.andThen_ok, Sem.run_pure]
  refine opw_val hw hrun ?_
  rw [hd]
  refine k _ _ _ (S.put hn _) ?_
  have h1 := (H.ext (Ext.drew w)).allocF (.cells (bytesRow s (grownCap w s.size 0 E)) E ((bytesRow s (grownCap w s.size 0 E)).size, (bytesRow s (grownCap w s.size 0 E)).size + 1))
  have e0 : (w.drew).heap.size = w.heap.size := rfl
  rw [e0] at h1
  refine h1.conv (fun h => by cases h) (fun b hb => ?_) (fun hok => ?_)
  · have hb := hb.1
    simp only [Value.ownBlock, Option.some.injEq] at hb
    exact hb.symm
  · have hl := size_toList s
    refine ⟨by omega, ⟨_, _, by rw [hl]⟩, fun x _ => rfl, fun i hi => ⟨w.heap.size, 0, grownCap w s.size 0 E, by rw [hl], fun j u hu => ?_⟩⟩
    have hj : j = 0 := by have := (List.getElem?_eq_some_iff.1 hu).1; simp [encB] at this; omega
    subst hj
    rw [cell_of_row _ _ _ _ _ _ hok]
    simp only [encB, List.getElem?_cons_zero, Option.some.injEq] at hu
    subst hu
    have hi' : i < s.data.size := by rw [hl] at hi; exact hi
    have hi2 : i < s.size := by rw [hl] at hi; exact hi
    simp [bytesRow, Array.getElem?_append, hi', hi2]
/-- a result that lies in a block; the function holds loops over functions -/
theorem retcsM {fn : Func} {R : Value → World → Prop} {t T b : Nat} {cs : List Value} {T' : TypeId} {fz : Nat × Nat} {m : Nat} {ds : List Nat} (hr : fn.results = #[.cell t T]) (S : St ⟨m, ds⟩ fl a) (H : HSat M w0 (DefsA ds :: l) w) (hv : fl.lookup t = some (.pointer (some ⟨b, 0, none⟩)))
    [h : HasRd l b (.cells cs.toArray T' fz)] (hT : scalarB P T = true) (hc : cs[0]? = some v) (hR : ∀ w, HSat M w0 l w → R v w) : endP P fn R .ret a w := by
  show LeavesInM Fence.wide 0 P fn a.tmps _ a.defers .returning w
  rw [S.defers]
  refine leavesM (fun w H => ?_) hR ds w H
  have hl := run_loadVar_scalar (P := P) (w := w) (p := ⟨b, 0, none⟩) hT (by rw [H.cell h]; exact hc)
  have hv' : a.tmps[t]?.getD undef = .pointer (some ⟨b, 0, none⟩) := by rw [← Array.getD_eq_getD_getElem?]; exact S.get t _ hv
  simp [results, hr, hv', asAddr, hl]
end
end Go.Gw
end
section
namespace Go.Gw
set_option linter.unusedVariables false
set_option linter.unusedSimpArgs false
section
variable {P : Program} {o : Oper} {n : Sz} {fl : Slots} {a : Act} {w w0 : World} {v : Value} {M : Nat → Prop} {l : List Atom} {ops : Array Oper} {d : Nat} {K : Act → World → Prop}
theorem y_arrL {T E : TypeId} {x lo : Operand} {k : IntKind} {b m i sz : Nat} (ho : o.op = .slice T x (some lo) none none) (hT : P.underlying T = some (.array m E)) (hE : sizeB P E sz = true) (S : St n fl a)
    (hx : ev fl x = some (.pointer (some ⟨b, 0, none⟩))) (hl : ev fl lo = some (.int k (i : Int))) (h1 : i < m) : Yld P o a w (.slice (some ⟨b, i * sz, none⟩) (m - i) (m - i)) := by
  unfold Yld execOp; rw [ho]
  simp only [Option.map_some, Option.map_none, S.ev hx, S.ev hl]
  have e1 : P.arrayLen T = m := by simp [Program.arrayLen, hT]
  have e2 : P.elem T = E := by simp [Program.elem, hT]
  have hT' : P.underlying T = some (.array (P.arrayLen T) (P.elem T)) := by rw [e1, e2]; exact hT
  have hsz : (sizeOf (P.elem T)).run P w = .ok sz w := by rw [e2]; exact run_sizeOf_agg (sizeB_size hE)
  have hne : ¬ m = i := by omega
  simp only [Sem.run_bind, run_sliceAt_array_l (P := P) w T _ hT' k (i : Int) (by omega) (by rw [e1]; omega), hsz, Result.andThen_ok, Sem.run_pure]
  simp [slicedAt, e1, hne, add_plain]
theorem y_bytestrO {T D E : TypeId} {x : Operand} {b off c m : Nat} {cs : List Value} {T' : TypeId} {fz : Nat × Nat} (t : List UInt8) (ho : o.op = .convert T D x) (hs : P.underlying T = some (.slice E)) (he : P.underlying E = some (.int .u8)) (hd : P.underlying D = some .string) (S : St n fl a) (H : HSat M w0 l w)
    (hx : ev fl x = some (.slice (some ⟨b, off, none⟩) m c)) [h : HasRd l b (.cells cs.toArray T' fz)] (ht : t.length = m) (hc : ∀ j (hj : j < t.length), cs[off + j]? = some (.int .u8 (t[j].toNat : Int))) : Yld P o a w (.string ⟨t.toArray⟩) := by
  subst ht
  unfold Yld execOp; rw [ho]; simp only [S.ev hx]
  have hh := run_convert_bytes_back (P := P) w T D E ⟨b, off, none⟩ c t hs he hd (fun j hj => by rw [add_plain, H.cell h]; simpa using hc j hj)
  simp only [Sem.run_bind, hh, Result.andThen_ok, Sem.run_pure]
def u8V (c : UInt8) : Value := .int .u8 (c.toNat : Int)
theorem u8set {b i : Nat} {T : TypeId} {xs : List UInt8} {c : UInt8} (H : HSat M w0 (Cel b T ((xs.map u8V).set i (.int .u8 (c.toNat : Int))) :: l) w) : HSat M w0 (Cel b T ((xs.set i c).map u8V) :: l) w := by
  rw [show (xs.set i c).map u8V = (xs.map u8V).set i (.int .u8 (c.toNat : Int)) from List.map_set]; exact H
end
end Go.Gw
end
section
namespace Go.Proofs
open Go.Shelf
def Tryz.lays170_ren : Go.Shelf.Ren := ⟨fun | 170 => 86 | n => n, fun | 70 => 115 | 3 => 3 | 0 => 0 | 72 => 117 | 37 => 24 | 5 => 5 | n => n, fun | n => n⟩
theorem Tryz.lays170 : Go.Proofs.Lays.n170 Tryz.prog Tryz.lays170_ren := {
  mixed := by kernel_rfl
  f170 := Tryz.func86.trans (congrArg some (by kernel_rfl))
  t0 := Tryz.underlying0
  a0 := Tryz.isAgg0
  z0 := Tryz.sizeOf0
  v0 := Tryz.zeroValue0
  t3 := Tryz.underlying3
  a3 := Tryz.isAgg3
  z3 := Tryz.sizeOf3
  v3 := Tryz.zeroValue3
  t37 := Tryz.underlying24
  a37 := Tryz.isAgg24
  z37 := Tryz.sizeOf24
  v37 := Tryz.zeroValue24
  t70 := Tryz.underlying115
  a70 := Tryz.isAgg115
  z70 := Tryz.sizeOf115
  v70 := Tryz.zeroValue115
  t72 := Tryz.underlying117
  a72 := Tryz.isAgg117
  z72 := Tryz.sizeOf117
  v72 := Tryz.zeroValue117 }
open Go.RowKit in
/-- (*strings.Builder).Len: "Len returns the number of accumulated bytes; b.Len() == len(b.String()).": the world is as it was. (LAID: no walk: one application.) -/
theorem Tryz.Builder_Len (B b : Nat) (bs : List Value) (w : World) (h : Lib.IsBuilder 117 5 B b bs w) :
    Calls Tryz.prog 86 #[.pointer (some ⟨b, 0, none⟩)] w fun e w' => e = .returned (.int .i64 bs.length) ∧ w' = w := Any.Builder_Len Tryz.lays170 B b bs w h
def Tryz.lays169_ren : Go.Shelf.Ren := ⟨fun | 169 => 66 | n => n, fun | 70 => 115 | 9 => 9 | 0 => 0 | 72 => 117 | 37 => 24 | 127 => 151 | 3 => 3 | 5 => 5 | n => n, fun | n => n⟩
theorem Tryz.lays169 : Go.Proofs.Lays.n169 Tryz.prog Tryz.lays169_ren := {
  mixed := by kernel_rfl
  f169 := Tryz.func66.trans (congrArg some (by kernel_rfl))
  t0 := Tryz.underlying0
  a0 := Tryz.isAgg0
  z0 := Tryz.sizeOf0
  v0 := Tryz.zeroValue0
  t3 := Tryz.underlying3
  a3 := Tryz.isAgg3
  z3 := Tryz.sizeOf3
  v3 := Tryz.zeroValue3
  t9 := Tryz.underlying9
  a9 := Tryz.isAgg9
  z9 := Tryz.sizeOf9
  v9 := Tryz.zeroValue9
  t37 := Tryz.underlying24
  a37 := Tryz.isAgg24
  z37 := Tryz.sizeOf24
  v37 := Tryz.zeroValue24
  t70 := Tryz.underlying115
  a70 := Tryz.isAgg115
  z70 := Tryz.sizeOf115
  v70 := Tryz.zeroValue115
  t72 := Tryz.underlying117
  a72 := Tryz.isAgg117
  z72 := Tryz.sizeOf117
  v72 := Tryz.zeroValue117
  t127 := Tryz.underlying151
  a127 := Tryz.isAgg151
  z127 := Tryz.sizeOf151
  v127 := Tryz.zeroValue151 }
theorem Tryz.Builder_Extra_169 : Builder.Extra Tryz.prog Tryz.lays169_ren := {
  sizeBuilder := by kernel_rfl
  liesBuilder := by kernel_rfl
  t5 := Tryz.underlying5
  a5 := Tryz.isAgg5
  z5 := Tryz.sizeOf5
  v5 := Tryz.zeroValue5
  infoByte := by kernel_rfl
  cellsByte := by kernel_rfl
  sizeByte := by kernel_rfl
  neB5 := by decide }
open Go.RowKit in
/-- (*strings.Builder).String: "String returns the accumulated string.": OF A BUILDER THAT HOLDS AT LEAST ONE BYTE. ✋ THE MODEL FREEZES THOSE BYTES IN THE BUFFER (unsafe.String): a later write INTO them ends the model's run without an answer; a later append BEHIND them goes on. The statement's order of evaluation is drawn: one draw. (LAID: no walk: one application.) -/
theorem Tryz.Builder_String (B b : Nat) (l : List UInt8) (w : World) (h : Lib.IsBuilder 117 5 B b (Lib.byteCells l) w) (h0 : l ≠ []) :
    Calls Tryz.prog 66 #[.pointer (some ⟨b, 0, none⟩)] w fun e w' => e = .returned (.string ⟨l.toArray⟩) ∧ Below B w w' := Any.Builder_String Tryz.lays169 Tryz.Builder_Extra_169 B b l w h h0
open Go.RowKit in
/-- (*strings.Builder).String OF A BUILDER THAT HOLDS NO BYTE: the empty string. (Its buffer is nil, or a row of which it has taken nothing yet; where that row has NO capacity the model lays one new block for unsafe.SliceData's 'some address'.) One draw. (LAID: no walk: one application.) -/
theorem Tryz.Builder_String_empty (B b : Nat) (w : World) (h : Lib.IsBuilder 117 5 B b [] w) (hBw : B ≤ w.heap.size) :
    Calls Tryz.prog 66 #[.pointer (some ⟨b, 0, none⟩)] w fun e w' => e = .returned (.string ⟨#[]⟩) ∧ Below B w w' := Any.Builder_String_empty Tryz.lays169 Tryz.Builder_Extra_169 B b w h hBw
open Go.RowKit in
/-- (*strings.Builder).String: "String returns the accumulated string.": WHATEVER THE BUILDER HOLDS. (LAID: no walk: one application.) -/
theorem Tryz.Builder_String_any (B b : Nat) (l : List UInt8) (w : World) (h : Lib.IsBuilder 117 5 B b (Lib.byteCells l) w) (hBw : B ≤ w.heap.size) :
    Calls Tryz.prog 66 #[.pointer (some ⟨b, 0, none⟩)] w fun e w' => e = .returned (.string ⟨l.toArray⟩) ∧ Below B w w' := Any.Builder_String_any Tryz.lays169 Tryz.Builder_Extra_169 B b l w h hBw
def Tryz.lays241_ren : Go.Shelf.Ren := ⟨fun | 241 => 113 | 277 => 131 | n => n, fun | 70 => 115 | 3 => 3 | 0 => 0 | 72 => 117 | 37 => 24 | 5 => 5 | n => n, fun | n => n⟩
theorem Tryz.lays241 : Go.Proofs.Lays.n241 Tryz.prog Tryz.lays241_ren := {
  mixed := by kernel_rfl
  f241 := Tryz.func113.trans (congrArg some (by kernel_rfl))
  f277 := Tryz.func131.trans (congrArg some (by kernel_rfl))
  t0 := Tryz.underlying0
  a0 := Tryz.isAgg0
  z0 := Tryz.sizeOf0
  v0 := Tryz.zeroValue0
  t3 := Tryz.underlying3
  a3 := Tryz.isAgg3
  z3 := Tryz.sizeOf3
  v3 := Tryz.zeroValue3
  t37 := Tryz.underlying24
  a37 := Tryz.isAgg24
  z37 := Tryz.sizeOf24
  v37 := Tryz.zeroValue24
  t70 := Tryz.underlying115
  a70 := Tryz.isAgg115
  z70 := Tryz.sizeOf115
  v70 := Tryz.zeroValue115
  t72 := Tryz.underlying117
  a72 := Tryz.isAgg117
  z72 := Tryz.sizeOf117
  v72 := Tryz.zeroValue117 }
theorem Tryz.Builder_Extra_241 : Builder.Extra Tryz.prog Tryz.lays241_ren := {
  sizeBuilder := by kernel_rfl
  liesBuilder := by kernel_rfl
  t5 := Tryz.underlying5
  a5 := Tryz.isAgg5
  z5 := Tryz.sizeOf5
  v5 := Tryz.zeroValue5
  infoByte := by kernel_rfl
  cellsByte := by kernel_rfl
  sizeByte := by kernel_rfl
  neB5 := by decide }
open Go.RowKit in
/-- (*strings.Builder).grow (no doc but "grow copies the buffer to a new, larger buffer so that there are at least n bytes of capacity beyond len(b.buf)."): AT A BUILDER WITHOUT A BUFFER: a new row of whatever bytes for its buffer, none of them its own yet. Three draws. (LAID: no walk: one application.) -/
theorem Tryz.Builder_grow_fresh (B b n : Nat) (w : World) (hB : B ≤ b) (hbk : w.heap[b]? = some (.cells #[.pointer (some ⟨b, 0, none⟩), .slice none 0 0] 117 (0, 0))) (hBw : B ≤ w.heap.size) (hn : n ≤ 281474976710656) :
    Calls Tryz.prog 113 #[.pointer (some ⟨b, 0, none⟩), .int .i64 n] w fun e w' => e = .returned (.tuple #[]) ∧ (Lib.BuilderAt 117 5 B b (.pointer (some ⟨b, 0, none⟩)) [] w' ∧ Below B w w') := Any.Builder_grow_fresh Tryz.lays241 Tryz.Builder_Extra_241 B b n w hB hbk hBw hn
def Tryz.lays165_ren : Go.Shelf.Ren := ⟨fun | 165 => 85 | 240 => 93 | 241 => 113 | 276 => 117 | 277 => 131 | n => n, fun | 70 => 115 | 3 => 3 | 0 => 0 | 4 => 4 | 9 => 9 | 20 => 20 | 72 => 117 | 37 => 24 | 164 => 172 | 5 => 5 | n => n, fun | n => n⟩
theorem Tryz.lays165 : Go.Proofs.Lays.n165 Tryz.prog Tryz.lays165_ren := {
  mixed := by kernel_rfl
  f165 := Tryz.func85.trans (congrArg some (by kernel_rfl))
  f240 := Tryz.func93.trans (congrArg some (by kernel_rfl))
  f241 := Tryz.func113.trans (congrArg some (by kernel_rfl))
  f276 := Tryz.func117.trans (congrArg some (by kernel_rfl))
  f277 := Tryz.func131.trans (congrArg some (by kernel_rfl))
  t0 := Tryz.underlying0
  a0 := Tryz.isAgg0
  z0 := Tryz.sizeOf0
  v0 := Tryz.zeroValue0
  t3 := Tryz.underlying3
  a3 := Tryz.isAgg3
  z3 := Tryz.sizeOf3
  v3 := Tryz.zeroValue3
  t4 := Tryz.underlying4
  a4 := Tryz.isAgg4
  z4 := Tryz.sizeOf4
  v4 := Tryz.zeroValue4
  t9 := Tryz.underlying9
  a9 := Tryz.isAgg9
  z9 := Tryz.sizeOf9
  v9 := Tryz.zeroValue9
  t20 := Tryz.underlying20
  a20 := Tryz.isAgg20
  z20 := Tryz.sizeOf20
  v20 := Tryz.zeroValue20
  t37 := Tryz.underlying24
  a37 := Tryz.isAgg24
  z37 := Tryz.sizeOf24
  v37 := Tryz.zeroValue24
  t70 := Tryz.underlying115
  a70 := Tryz.isAgg115
  z70 := Tryz.sizeOf115
  v70 := Tryz.zeroValue115
  t72 := Tryz.underlying117
  a72 := Tryz.isAgg117
  z72 := Tryz.sizeOf117
  v72 := Tryz.zeroValue117
  t164 := Tryz.underlying172
  a164 := Tryz.isAgg172
  z164 := Tryz.sizeOf172
  v164 := Tryz.zeroValue172 }
theorem Tryz.Builder_Extra_165 : Builder.Extra Tryz.prog Tryz.lays165_ren := {
  sizeBuilder := by kernel_rfl
  liesBuilder := by kernel_rfl
  t5 := Tryz.underlying5
  a5 := Tryz.isAgg5
  z5 := Tryz.sizeOf5
  v5 := Tryz.zeroValue5
  infoByte := by kernel_rfl
  cellsByte := by kernel_rfl
  sizeByte := by kernel_rfl
  neB5 := by decide }
open Go.RowKit in
/-- (*strings.Builder).Grow AT A BUILDER THAT HAS NOT BEEN WRITTEN ('var b strings.Builder; b.Grow(n)'): "Grow grows b's capacity, if necessary, to guarantee space for another n bytes.": it holds no byte behind it as before it. (LAID: no walk: one application.) -/
theorem Tryz.Builder_Grow_fresh (B b n : Nat) (w : World) (hB : B ≤ b) (hbk : w.heap[b]? = some (.cells #[.pointer none, .slice none 0 0] 117 (0, 0))) (hBw : B ≤ w.heap.size) (hn : n ≤ 281474976710656) :
    Calls Tryz.prog 85 #[.pointer (some ⟨b, 0, none⟩), .int .i64 n] w fun e w' => e = .returned (.tuple #[]) ∧ (Lib.BuilderAt 117 5 B b (.pointer (some ⟨b, 0, none⟩)) [] w' ∧ Below B w w') := Any.Builder_Grow_fresh Tryz.lays165 Tryz.Builder_Extra_165 B b n w hB hbk hBw hn
def Tryz.lays156_ren : Go.Shelf.Ren := ⟨fun | 156 => 57 | 165 => 85 | 166 => 64 | 169 => 66 | 240 => 93 | 241 => 113 | 276 => 117 | 277 => 131 | n => n, fun | 31 => 22 | 9 => 9 | 3 => 3 | 4 => 4 | 0 => 0 | 20 => 20 | 72 => 117 | 76 => 120 | 70 => 115 | 37 => 24 | 75 => 119 | 127 => 151 | 164 => 172 | 5 => 5 | 80 => 122 | n => n, fun | n => n⟩
theorem Tryz.lays156 : Go.Proofs.Lays.n156 Tryz.prog Tryz.lays156_ren := {
  mixed := by kernel_rfl
  f156 := Tryz.func57.trans (congrArg some (by kernel_rfl))
  f165 := Tryz.func85.trans (congrArg some (by kernel_rfl))
  f166 := Tryz.func64.trans (congrArg some (by kernel_rfl))
  f169 := Tryz.func66.trans (congrArg some (by kernel_rfl))
  f240 := Tryz.func93.trans (congrArg some (by kernel_rfl))
  f241 := Tryz.func113.trans (congrArg some (by kernel_rfl))
  f276 := Tryz.func117.trans (congrArg some (by kernel_rfl))
  f277 := Tryz.func131.trans (congrArg some (by kernel_rfl))
  t0 := Tryz.underlying0
  a0 := Tryz.isAgg0
  z0 := Tryz.sizeOf0
  v0 := Tryz.zeroValue0
  t3 := Tryz.underlying3
  a3 := Tryz.isAgg3
  z3 := Tryz.sizeOf3
  v3 := Tryz.zeroValue3
  t4 := Tryz.underlying4
  a4 := Tryz.isAgg4
  z4 := Tryz.sizeOf4
  v4 := Tryz.zeroValue4
  t9 := Tryz.underlying9
  a9 := Tryz.isAgg9
  z9 := Tryz.sizeOf9
  v9 := Tryz.zeroValue9
  t20 := Tryz.underlying20
  a20 := Tryz.isAgg20
  z20 := Tryz.sizeOf20
  v20 := Tryz.zeroValue20
  t31 := Tryz.underlying22
  a31 := Tryz.isAgg22
  z31 := Tryz.sizeOf22
  v31 := Tryz.zeroValue22
  t37 := Tryz.underlying24
  a37 := Tryz.isAgg24
  z37 := Tryz.sizeOf24
  v37 := Tryz.zeroValue24
  t70 := Tryz.underlying115
  a70 := Tryz.isAgg115
  z70 := Tryz.sizeOf115
  v70 := Tryz.zeroValue115
  t72 := Tryz.underlying117
  a72 := Tryz.isAgg117
  z72 := Tryz.sizeOf117
  v72 := Tryz.zeroValue117
  t75 := Tryz.underlying119
  a75 := Tryz.isAgg119
  z75 := Tryz.sizeOf119
  v75 := Tryz.zeroValue119
  t76 := Tryz.underlying120
  a76 := Tryz.isAgg120
  z76 := Tryz.sizeOf120
  v76 := Tryz.zeroValue120
  t127 := Tryz.underlying151
  a127 := Tryz.isAgg151
  z127 := Tryz.sizeOf151
  v127 := Tryz.zeroValue151
  t164 := Tryz.underlying172
  a164 := Tryz.isAgg172
  z164 := Tryz.sizeOf172
  v164 := Tryz.zeroValue172 }
theorem Tryz.Builder_Extra_156 : Builder.Extra Tryz.prog Tryz.lays156_ren := {
  sizeBuilder := by kernel_rfl
  liesBuilder := by kernel_rfl
  t5 := Tryz.underlying5
  a5 := Tryz.isAgg5
  z5 := Tryz.sizeOf5
  v5 := Tryz.zeroValue5
  infoByte := by kernel_rfl
  cellsByte := by kernel_rfl
  sizeByte := by kernel_rfl
  neB5 := by decide }
open Go.RowKit in
/-- No element: the empty string; the world is as it was. (Whatever the slice's address and capacity: a nil slice too.) (LAID: no walk: one application.) -/
theorem Tryz.strings_Join_none (a : Option Addr) (c : Nat) (sep : ByteArray) (w : World) :
    Calls Tryz.prog 57 #[.slice a 0 c, .string sep] w fun e w' => e = .returned (.string ⟨#[]⟩) ∧ w' = w := Any.strings_Join_none Tryz.lays156 Tryz.Builder_Extra_156 a c sep w
open Go.RowKit in
/-- strings.Join: "Join concatenates the elements of its first argument to create a single string. The separator string sep is placed between elements in the resulting string.": HOWEVER MANY ELEMENTS. Below the heap's end the world is as it was. (LAID: no walk: one application.) -/
theorem Tryz.strings_Join (bk o c : Nat) (xs : List ByteArray) (sep : ByteArray) (w : World) (hcells : ∀ (j : Nat) x, xs[j]? = some x → w.cell? ⟨bk, o + j, none⟩ = some (.string x)) (hbk : bk < w.heap.size) (hN : xs.length ≤ 140737488355328) (hcap : xs.length ≤ c) (hlen : (Lib.join (xs.map (·.data.toList)) sep.data.toList).length ≤ 140737488355328) :
    Calls Tryz.prog 57 #[.slice (some ⟨bk, o, none⟩) xs.length c, .string sep] w fun e w' => e = .returned (.string ⟨(Lib.join (xs.map (·.data.toList)) sep.data.toList).toArray⟩) ∧ Below w.heap.size w w' := Any.strings_Join Tryz.lays156 Tryz.Builder_Extra_156 bk o c xs sep w hcells hbk hN hcap hlen
def Tryz.lays231_ren : Go.Shelf.Ren := ⟨fun | 231 => 69 | n => n, fun | 9 => 9 | 5 => 5 | 3 => 3 | 4 => 4 | n => n, fun | n => n⟩
theorem Tryz.lays231 : Go.Proofs.Lays.n231 Tryz.prog Tryz.lays231_ren := {
  mixed := by kernel_rfl
  f231 := Tryz.func69.trans (congrArg some (by kernel_rfl))
  t3 := Tryz.underlying3
  a3 := Tryz.isAgg3
  z3 := Tryz.sizeOf3
  v3 := Tryz.zeroValue3
  t4 := Tryz.underlying4
  a4 := Tryz.isAgg4
  z4 := Tryz.sizeOf4
  v4 := Tryz.zeroValue4
  t5 := Tryz.underlying5
  a5 := Tryz.isAgg5
  z5 := Tryz.sizeOf5
  v5 := Tryz.zeroValue5
  t9 := Tryz.underlying9
  a9 := Tryz.isAgg9
  z9 := Tryz.sizeOf9
  v9 := Tryz.zeroValue9 }
open Go.RowKit in
/-- strings.trimLeftByte (no doc; what TrimLeft and Trim call at a cutset of one ASCII byte): the leading bytes that are c are cut off. The world is as it was. (LAID: no walk: one application.) -/
theorem Tryz.strings_trimLeftByte (s : ByteArray) (c : UInt8) (w : World) :
    Calls Tryz.prog 69 #[.string s, .int .u8 c.toNat] w fun e w' => e = .returned (.string ⟨(Lib.trimLeftB s.data.toList c).toArray⟩) ∧ w' = w := Any.strings_trimLeftByte Tryz.lays231 s c w
def Tryz.lays232_ren : Go.Shelf.Ren := ⟨fun | 232 => 70 | n => n, fun | 9 => 9 | 5 => 5 | 3 => 3 | 4 => 4 | n => n, fun | n => n⟩
theorem Tryz.lays232 : Go.Proofs.Lays.n232 Tryz.prog Tryz.lays232_ren := {
  mixed := by kernel_rfl
  f232 := Tryz.func70.trans (congrArg some (by kernel_rfl))
  t3 := Tryz.underlying3
  a3 := Tryz.isAgg3
  z3 := Tryz.sizeOf3
  v3 := Tryz.zeroValue3
  t4 := Tryz.underlying4
  a4 := Tryz.isAgg4
  z4 := Tryz.sizeOf4
  v4 := Tryz.zeroValue4
  t5 := Tryz.underlying5
  a5 := Tryz.isAgg5
  z5 := Tryz.sizeOf5
  v5 := Tryz.zeroValue5
  t9 := Tryz.underlying9
  a9 := Tryz.isAgg9
  z9 := Tryz.sizeOf9
  v9 := Tryz.zeroValue9 }
open Go.RowKit in
/-- strings.trimRightByte (no doc; what TrimRight and Trim call at a cutset of one ASCII byte): the trailing bytes that are c are cut off. The world is as it was. ('hs': a string's length is a number that an int holds.) (LAID: no walk: one application.) -/
theorem Tryz.strings_trimRightByte (s : ByteArray) (c : UInt8) (w : World) (hs : s.size ≤ 9223372036854775807) :
    Calls Tryz.prog 70 #[.string s, .int .u8 c.toNat] w fun e w' => e = .returned (.string ⟨(Lib.trimRightB s.data.toList c).toArray⟩) ∧ w' = w := Any.strings_trimRightByte Tryz.lays232 s c w hs
def Tryz.lays160_ren : Go.Shelf.Ren := ⟨fun | 160 => 47 | 232 => 70 | 231 => 69 | 227 => 71 | 234 => 73 | 233 => 72 | 236 => 75 | 235 => 74 | 228 => 98 | 271 => 101 | 151 => 100 | 197 => 99 | 120 => 120 | 152 => 119 | 260 => 118 | 137 => 116 | 119 => 133 | 224 => 134 | 225 => 135 | 217 => 132 | 266 => 142 | n => n, fun | 9 => 9 | 4 => 4 | 3 => 3 | 5 => 5 | 117 => 129 | 116 => 128 | 0 => 0 | 124 => 132 | 21 => 21 | 105 => 154 | 46 => 138 | 119 => 190 | 139 => 193 | 138 => 192 | n => n, fun | 3 => 2 | 4 => 3 | n => n⟩
theorem Tryz.lays160 : Go.Proofs.Lays.n160 Tryz.prog Tryz.lays160_ren := {
  mixed := by kernel_rfl
  f119 := Tryz.func133.trans (congrArg some (by kernel_rfl))
  f120 := Tryz.func120.trans (congrArg some (by kernel_rfl))
  f137 := Tryz.func116.trans (congrArg some (by kernel_rfl))
  f151 := Tryz.func100.trans (congrArg some (by kernel_rfl))
  f152 := Tryz.func119.trans (congrArg some (by kernel_rfl))
  f160 := Tryz.func47.trans (congrArg some (by kernel_rfl))
  f197 := Tryz.func99.trans (congrArg some (by kernel_rfl))
  f217 := Tryz.func132.trans (congrArg some (by kernel_rfl))
  f224 := Tryz.func134.trans (congrArg some (by kernel_rfl))
  f225 := Tryz.func135.trans (congrArg some (by kernel_rfl))
  f227 := Tryz.func71.trans (congrArg some (by kernel_rfl))
  f228 := Tryz.func98.trans (congrArg some (by kernel_rfl))
  f231 := Tryz.func69.trans (congrArg some (by kernel_rfl))
  f232 := Tryz.func70.trans (congrArg some (by kernel_rfl))
  f233 := Tryz.func72.trans (congrArg some (by kernel_rfl))
  f234 := Tryz.func73.trans (congrArg some (by kernel_rfl))
  f235 := Tryz.func74.trans (congrArg some (by kernel_rfl))
  f236 := Tryz.func75.trans (congrArg some (by kernel_rfl))
  f260 := Tryz.func118.trans (congrArg some (by kernel_rfl))
  f266 := Tryz.func142.trans (congrArg some (by kernel_rfl))
  f271 := Tryz.func101.trans (congrArg some (by kernel_rfl))
  t0 := Tryz.underlying0
  a0 := Tryz.isAgg0
  z0 := Tryz.sizeOf0
  v0 := Tryz.zeroValue0
  t3 := Tryz.underlying3
  a3 := Tryz.isAgg3
  z3 := Tryz.sizeOf3
  v3 := Tryz.zeroValue3
  t4 := Tryz.underlying4
  a4 := Tryz.isAgg4
  z4 := Tryz.sizeOf4
  v4 := Tryz.zeroValue4
  t5 := Tryz.underlying5
  a5 := Tryz.isAgg5
  z5 := Tryz.sizeOf5
  v5 := Tryz.zeroValue5
  t9 := Tryz.underlying9
  a9 := Tryz.isAgg9
  z9 := Tryz.sizeOf9
  v9 := Tryz.zeroValue9
  t21 := Tryz.underlying21
  a21 := Tryz.isAgg21
  z21 := Tryz.sizeOf21
  v21 := Tryz.zeroValue21
  t46 := Tryz.underlying138
  a46 := Tryz.isAgg138
  z46 := Tryz.sizeOf138
  v46 := Tryz.zeroValue138
  t105 := Tryz.underlying154
  a105 := Tryz.isAgg154
  z105 := Tryz.sizeOf154
  v105 := Tryz.zeroValue154
  t116 := Tryz.underlying128
  a116 := Tryz.isAgg128
  z116 := Tryz.sizeOf128
  t117 := Tryz.underlying129
  a117 := Tryz.isAgg129
  z117 := Tryz.sizeOf129
  v117 := Tryz.zeroValue129
  t119 := Tryz.underlying190
  a119 := Tryz.isAgg190
  z119 := Tryz.sizeOf190
  t124 := Tryz.underlying132
  a124 := Tryz.isAgg132
  z124 := Tryz.sizeOf132
  v124 := Tryz.zeroValue132
  t138 := Tryz.underlying192
  a138 := Tryz.isAgg192
  z138 := Tryz.sizeOf192
  v138 := Tryz.zeroValue192
  t139 := Tryz.underlying193
  a139 := Tryz.isAgg193
  z139 := Tryz.sizeOf193
  v139 := Tryz.zeroValue193
  g3 := by kernel_rfl
  g4 := by kernel_rfl }
open Go.RowKit in
/-- strings.Trim: "Trim returns a slice of the string s with all leading and trailing Unicode code points contained in cutset removed.": AT A cutset OF ONE ASCII BYTE. THE WORLD BEHIND IT: as it was, or (where s is not empty) with ONE DRAW MORE off the tape: the statement 'return trimLeftByte(trimRightByte(s, c), c)' draws its order of evaluation. (LAID: no walk: one application.) -/
theorem Tryz.strings_Trim_one (s : ByteArray) (c : UInt8) (hc : c.toNat < 128) (w : World) (hs : s.size ≤ 9223372036854775807) :
    Calls Tryz.prog 47 #[.string s, .string ⟨#[c]⟩] w fun e w' => e = .returned (.string ⟨(Lib.trimB s.data.toList c).toArray⟩) ∧ (w' = w ∨ w' = w.drew) := Any.strings_Trim_one Tryz.lays160 s c hc w hs
def Tryz.lays119_ren : Go.Shelf.Ren := ⟨fun | 119 => 133 | n => n, fun | 21 => 21 | 4 => 4 | n => n, fun | n => n⟩
theorem Tryz.lays119 : Go.Proofs.Lays.n119 Tryz.prog Tryz.lays119_ren := {
  mixed := by kernel_rfl
  f119 := Tryz.func133.trans (congrArg some (by kernel_rfl))
  t4 := Tryz.underlying4
  a4 := Tryz.isAgg4
  z4 := Tryz.sizeOf4
  v4 := Tryz.zeroValue4
  t21 := Tryz.underlying21
  a21 := Tryz.isAgg21
  z21 := Tryz.sizeOf21
  v21 := Tryz.zeroValue21 }
/-- utf8.ValidRune: "ValidRune reports whether r can be legally encoded as UTF-8. Code points that are out of range or a surrogate half are illegal.": IT RETURNS 'Lib.validRune r'; the world is as it was. (LAID: no walk: one application.) -/
theorem Tryz.utf8_ValidRune (r : Int) (w : World) :
    Calls Tryz.prog 133 #[.int .i32 r] w fun e w' => e = .returned (.bool (Lib.validRune r)) ∧ w' = w := Any.utf8_ValidRune Tryz.lays119 r w
def Tryz.lays120_ren : Go.Shelf.Ren := ⟨fun | 120 => 120 | n => n, fun | 5 => 5 | 4 => 4 | n => n, fun | n => n⟩
theorem Tryz.lays120 : Go.Proofs.Lays.n120 Tryz.prog Tryz.lays120_ren := {
  mixed := by kernel_rfl
  f120 := Tryz.func120.trans (congrArg some (by kernel_rfl))
  t4 := Tryz.underlying4
  a4 := Tryz.isAgg4
  z4 := Tryz.sizeOf4
  v4 := Tryz.zeroValue4
  t5 := Tryz.underlying5
  a5 := Tryz.isAgg5
  z5 := Tryz.sizeOf5
  v5 := Tryz.zeroValue5 }
/-- utf8.RuneStart: "RuneStart reports whether the byte could be the first byte of an encoded, possibly invalid rune. Second and subsequent bytes always have the top two bits set to 10.": IT RETURNS 'Lib.runeStart b'; the world is as it was. ('h0', 'h1': b is a byte: a caller has it of every byte that it was handed.) (LAID: no walk: one application.) -/
theorem Tryz.utf8_RuneStart (b : Int) (w : World) (h0 : 0 ≤ b) (h1 : b < 256) :
    Calls Tryz.prog 120 #[.int .u8 b] w fun e w' => e = .returned (.bool (Lib.runeStart b)) ∧ w' = w := Any.utf8_RuneStart Tryz.lays120 b w h0 h1
def Tryz.lays137_ren : Go.Shelf.Ren := ⟨fun | 137 => 116 | 217 => 132 | 266 => 142 | n => n, fun | 9 => 9 | 5 => 5 | 3 => 3 | n => n, fun | n => n⟩
theorem Tryz.lays137 : Go.Proofs.Lays.n137 Tryz.prog Tryz.lays137_ren := {
  mixed := by kernel_rfl
  f137 := Tryz.func116.trans (congrArg some (by kernel_rfl))
  f217 := Tryz.func132.trans (congrArg some (by kernel_rfl))
  f266 := Tryz.func142.trans (congrArg some (by kernel_rfl))
  t3 := Tryz.underlying3
  a3 := Tryz.isAgg3
  z3 := Tryz.sizeOf3
  v3 := Tryz.zeroValue3
  t5 := Tryz.underlying5
  a5 := Tryz.isAgg5
  z5 := Tryz.sizeOf5
  v5 := Tryz.zeroValue5
  t9 := Tryz.underlying9
  a9 := Tryz.isAgg9
  z9 := Tryz.sizeOf9
  v9 := Tryz.zeroValue9 }
open Go.RowKit in
/-- strings.IndexByte: "IndexByte returns the index of the first instance of c in s, or -1 if c is not present in s.": IT RETURNS 'Lib.indexByte s c'; the world is as it was. (LAID: no walk: one application.) -/
theorem Tryz.strings_IndexByte (s : ByteArray) (c : Int) (w : World) :
    Calls Tryz.prog 116 #[.string s, .int .u8 c] w fun e w' => e = .returned (.int .i64 (Lib.indexByte s.data.toList c.toNat.toUInt8)) ∧ w' = w := Any.strings_IndexByte Tryz.lays137 s c w
open Go.RowKit in
/-- (*strings.Builder).Len: "Len returns the number of accumulated bytes; b.Len() == len(b.String()).": the world is as it was. (THE FORM '_f': 'Lib.IsBuilderF'.) (LAID: no walk: one application.) -/
theorem Tryz.Builder_Len_f (B b : Nat) (bs : List Value) (w : World) (h : Lib.IsBuilderF 117 5 B b bs w) :
    Calls Tryz.prog 86 #[.pointer (some ⟨b, 0, none⟩)] w fun e w' => e = .returned (.int .i64 bs.length) ∧ w' = w := Any.Builder_Len_f Tryz.lays170 B b bs w h
open Go.RowKit in
/-- (*strings.Builder).String: "String returns the accumulated string.": OF A BUILDER THAT HOLDS AT LEAST ONE BYTE. ✋ THE MODEL FREEZES THOSE BYTES IN THE BUFFER (unsafe.String): a later write INTO them ends the model's run without an answer; a later append BEHIND them goes on. The statement's order of evaluation is drawn: one draw. THE FORM '_f': IT SAYS BESIDES THAT THE BUILDER IS A BUILDER STILL ('Lib.IsBuilderF', the same bytes): SO IT CAN BE WRITTEN ON: 'b.WriteString(b.String()[:k])'. (LAID: no walk: one application.) -/
theorem Tryz.Builder_String_f (B b : Nat) (l : List UInt8) (w : World) (h : Lib.IsBuilderF 117 5 B b (Lib.byteCells l) w) (h0 : l ≠ []) :
    Calls Tryz.prog 66 #[.pointer (some ⟨b, 0, none⟩)] w fun e w' => e = .returned (.string ⟨l.toArray⟩) ∧ (Lib.IsBuilderF 117 5 B b (Lib.byteCells l) w' ∧ Below B w w') := Any.Builder_String_f Tryz.lays169 Tryz.Builder_Extra_169 B b l w h h0
open Go.RowKit in
/-- (*strings.Builder).String OF A BUILDER THAT HOLDS NO BYTE: the empty string; THE FORM '_f': a builder still. (LAID: no walk: one application.) -/
theorem Tryz.Builder_String_empty_f (B b : Nat) (w : World) (h : Lib.IsBuilderF 117 5 B b [] w) (hBw : B ≤ w.heap.size) :
    Calls Tryz.prog 66 #[.pointer (some ⟨b, 0, none⟩)] w fun e w' => e = .returned (.string ⟨#[]⟩) ∧ (Lib.IsBuilderF 117 5 B b [] w' ∧ Below B w w') := Any.Builder_String_empty_f Tryz.lays169 Tryz.Builder_Extra_169 B b w h hBw
open Go.RowKit in
/-- (*strings.Builder).String: "String returns the accumulated string.": WHATEVER THE BUILDER HOLDS; THE FORM '_f': OF A BUILDER THAT MAY HAVE BEEN READ BEFORE; AND IT IS A BUILDER STILL, holding the same bytes: it can be written on. (LAID: no walk: one application.) -/
theorem Tryz.Builder_String_any_f (B b : Nat) (l : List UInt8) (w : World) (h : Lib.IsBuilderF 117 5 B b (Lib.byteCells l) w) (hBw : B ≤ w.heap.size) :
    Calls Tryz.prog 66 #[.pointer (some ⟨b, 0, none⟩)] w fun e w' => e = .returned (.string ⟨l.toArray⟩) ∧ (Lib.IsBuilderF 117 5 B b (Lib.byteCells l) w' ∧ Below B w w') := Any.Builder_String_any_f Tryz.lays169 Tryz.Builder_Extra_169 B b l w h hBw
open Go.RowKit in
/-- (*strings.Builder).String: "String returns the accumulated string.": OF A BUILDER THAT HOLDS AT LEAST ONE BYTE. ✋ THE MODEL FREEZES THOSE BYTES IN THE BUFFER (unsafe.String): a later write INTO them ends the model's run without an answer; a later append BEHIND them goes on. The statement's order of evaluation is drawn: one draw. THE FORM '_k': OVER 'Lib.IsBuilderF' (a builder that 'String()' may have read), AND WITH THE FRAME THAT REACHES ABOVE THE BUILDER: 'Lib.OthersKept': every block that is not b and is no row of uint8's stands as it stood: the iterator of a range among them. (LAID: no walk: one application.) -/
theorem Tryz.Builder_String_k (B b : Nat) (l : List UInt8) (w : World) (h : Lib.IsBuilderF 117 5 B b (Lib.byteCells l) w) (h0 : l ≠ []) :
    Calls Tryz.prog 66 #[.pointer (some ⟨b, 0, none⟩)] w fun e w' => e = .returned (.string ⟨l.toArray⟩) ∧ (Lib.IsBuilderF 117 5 B b (Lib.byteCells l) w' ∧ Below B w w' ∧ Lib.OthersKept 5 (some b) w w') := Any.Builder_String_k Tryz.lays169 Tryz.Builder_Extra_169 B b l w h h0
open Go.RowKit in
/-- (*strings.Builder).String OF A BUILDER THAT HOLDS NO BYTE: the empty string; THE FORM '_k': OVER 'Lib.IsBuilderF' (a builder that 'String()' may have read), AND WITH THE FRAME THAT REACHES ABOVE THE BUILDER: 'Lib.OthersKept': every block that is not b and is no row of uint8's stands as it stood: the iterator of a range among them. (LAID: no walk: one application.) -/
theorem Tryz.Builder_String_empty_k (B b : Nat) (w : World) (h : Lib.IsBuilderF 117 5 B b [] w) (hBw : B ≤ w.heap.size) :
    Calls Tryz.prog 66 #[.pointer (some ⟨b, 0, none⟩)] w fun e w' => e = .returned (.string ⟨#[]⟩) ∧ (Lib.IsBuilderF 117 5 B b [] w' ∧ Below B w w' ∧ Lib.OthersKept 5 (some b) w w') := Any.Builder_String_empty_k Tryz.lays169 Tryz.Builder_Extra_169 B b w h hBw
open Go.RowKit in
/-- (*strings.Builder).String: "String returns the accumulated string.": WHATEVER THE BUILDER HOLDS; THE FORM '_k': OVER 'Lib.IsBuilderF' (a builder that 'String()' may have read), AND WITH THE FRAME THAT REACHES ABOVE THE BUILDER: 'Lib.OthersKept': every block that is not b and is no row of uint8's stands as it stood: the iterator of a range among them. (LAID: no walk: one application.) -/
theorem Tryz.Builder_String_any_k (B b : Nat) (l : List UInt8) (w : World) (h : Lib.IsBuilderF 117 5 B b (Lib.byteCells l) w) (hBw : B ≤ w.heap.size) :
    Calls Tryz.prog 66 #[.pointer (some ⟨b, 0, none⟩)] w fun e w' => e = .returned (.string ⟨l.toArray⟩) ∧ (Lib.IsBuilderF 117 5 B b (Lib.byteCells l) w' ∧ Below B w w' ∧ Lib.OthersKept 5 (some b) w w') := Any.Builder_String_any_k Tryz.lays169 Tryz.Builder_Extra_169 B b l w h hBw
open Go.RowKit in
/-- (*strings.Builder).grow (no doc but "grow copies the buffer to a new, larger buffer so that there are at least n bytes of capacity beyond len(b.buf)."): AT A BUILDER WITHOUT A BUFFER: a new row of whatever bytes for its buffer, none of them its own yet. Three draws. (LAID: no walk: one application.) -/
theorem Tryz.Builder_grow_fresh_cap (B b n : Nat) (w : World) (hB : B ≤ b) (hbk : w.heap[b]? = some (.cells #[.pointer (some ⟨b, 0, none⟩), .slice none 0 0] 117 (0, 0))) (hBw : B ≤ w.heap.size) (hn : n ≤ 281474976710656) :
    Calls Tryz.prog 113 #[.pointer (some ⟨b, 0, none⟩), .int .i64 n] w fun e w' => e = .returned (.tuple #[]) ∧ (Lib.BuilderAt 117 5 B b (.pointer (some ⟨b, 0, none⟩)) [] w' ∧ Below B w w') ∧ ∃ p cap, w'.cell? ⟨b, 1, none⟩ = some (.slice p 0 cap) ∧ n ≤ cap := Any.Builder_grow_fresh_cap Tryz.lays241 Tryz.Builder_Extra_241 B b n w hB hbk hBw hn
open Go.RowKit in
/-- (*strings.Builder).Grow AT A BUILDER THAT HAS NOT BEEN WRITTEN ('var b strings.Builder; b.Grow(n)'): "Grow grows b's capacity, if necessary, to guarantee space for another n bytes.": it holds no byte behind it as before it. (LAID: no walk: one application.) -/
theorem Tryz.Builder_Grow_fresh_cap (B b n : Nat) (w : World) (hB : B ≤ b) (hbk : w.heap[b]? = some (.cells #[.pointer none, .slice none 0 0] 117 (0, 0))) (hBw : B ≤ w.heap.size) (hn : n ≤ 281474976710656) :
    Calls Tryz.prog 85 #[.pointer (some ⟨b, 0, none⟩), .int .i64 n] w fun e w' => e = .returned (.tuple #[]) ∧ (Lib.BuilderAt 117 5 B b (.pointer (some ⟨b, 0, none⟩)) [] w' ∧ Below B w w') ∧ ∃ p cap, w'.cell? ⟨b, 1, none⟩ = some (.slice p 0 cap) ∧ n ≤ cap := Any.Builder_Grow_fresh_cap Tryz.lays165 Tryz.Builder_Extra_165 B b n w hB hbk hBw hn
def Tryz.lays129_ren : Go.Shelf.Ren := ⟨fun | 129 => 127 | n => n, fun | 53 => 70 | 3 => 3 | 4 => 4 | 46 => 138 | 5 => 5 | 9 => 9 | n => n, fun | n => n⟩
theorem Tryz.lays129 : Go.Proofs.Lays.n129 Tryz.prog Tryz.lays129_ren := {
  mixed := by kernel_rfl
  f129 := Tryz.func127.trans (congrArg some (by kernel_rfl))
  t3 := Tryz.underlying3
  a3 := Tryz.isAgg3
  z3 := Tryz.sizeOf3
  v3 := Tryz.zeroValue3
  t4 := Tryz.underlying4
  a4 := Tryz.isAgg4
  z4 := Tryz.sizeOf4
  v4 := Tryz.zeroValue4
  t5 := Tryz.underlying5
  a5 := Tryz.isAgg5
  z5 := Tryz.sizeOf5
  v5 := Tryz.zeroValue5
  t9 := Tryz.underlying9
  a9 := Tryz.isAgg9
  z9 := Tryz.sizeOf9
  v9 := Tryz.zeroValue9
  t46 := Tryz.underlying138
  a46 := Tryz.isAgg138
  z46 := Tryz.sizeOf138
  v46 := Tryz.zeroValue138
  t53 := Tryz.underlying70
  a53 := Tryz.isAgg70
  z53 := Tryz.sizeOf70
  v53 := Tryz.zeroValue70 }
/-- bits.Len64: "Len64 returns the minimum number of bits required to represent x; the result is 0 for x == 0.": IT RETURNS 'Lib.bitLen x'; the world is as it was. ('h0', 'h1': x is a uint64.) (LAID: no walk: one application.) -/
theorem Tryz.bits_Len64 (x : Int) (w : World) (h0 : 0 ≤ x) (h1 : x ≤ 18446744073709551615) :
    Calls Tryz.prog 127 #[.int .u64 x] w fun e w' => e = .returned (.int .i64 (Lib.bitLen x.toNat)) ∧ w' = w := Any.bits_Len64 Tryz.lays129 x w h0 h1
def Tryz.lays317_ren : Go.Shelf.Ren := ⟨fun | 317 => 126 | n => n, fun | 3 => 3 | 46 => 138 | n => n, fun | n => n⟩
theorem Tryz.lays317 : Go.Proofs.Lays.n317 Tryz.prog Tryz.lays317_ren := {
  mixed := by kernel_rfl
  f317 := Tryz.func126.trans (congrArg some (by kernel_rfl))
  t3 := Tryz.underlying3
  a3 := Tryz.isAgg3
  z3 := Tryz.sizeOf3
  v3 := Tryz.zeroValue3
  t46 := Tryz.underlying138
  a46 := Tryz.isAgg138
  z46 := Tryz.sizeOf138
  v46 := Tryz.zeroValue138 }
open Go.Lib in
/-- internal/strconv.log10Pow2: "log10Pow2(x) returns ⌊log₁₀ 2**x⌋ = ⌊x * log₁₀ 2⌋.": '(x * 78913) >> 18', at an x up to 64 (a length in bits). The world is as it was. (LAID: no walk: one application.) -/
theorem Tryz.internal_strconv_log10Pow2 (x : Nat) (h : x ≤ 64) (w : World) :
    Calls Tryz.prog 126 #[.int .i64 x] w fun e w' => e = .returned (.int .i64 (Lib.l10 x)) ∧ w' = w := Any.internal_strconv_log10Pow2 Tryz.lays317 x h w
def Tryz.lays318_ren : Go.Shelf.Ren := ⟨fun | 318 => 128 | n => n, fun | 3 => 3 | 4 => 4 | n => n, fun | n => n⟩
theorem Tryz.lays318 : Go.Proofs.Lays.n318 Tryz.prog Tryz.lays318_ren := {
  mixed := by kernel_rfl
  f318 := Tryz.func128.trans (congrArg some (by kernel_rfl))
  t3 := Tryz.underlying3
  a3 := Tryz.isAgg3
  z3 := Tryz.sizeOf3
  v3 := Tryz.zeroValue3
  t4 := Tryz.underlying4
  a4 := Tryz.isAgg4
  z4 := Tryz.sizeOf4
  v4 := Tryz.zeroValue4 }
open Go.Lib in
/-- internal/strconv.bool2: "bool2 converts b to an integer: 1 for true, 0 for false." The world is as it was. (LAID: no walk: one application.) -/
theorem Tryz.internal_strconv_bool2_int (b : Bool) (w : World) :
    Calls Tryz.prog 128 #[.bool b] w fun e w' => e = .returned (.int .i64 (if b then 1 else 0)) ∧ w' = w := Any.internal_strconv_bool2_int Tryz.lays318 b w
def Tryz.lays283_ren : Go.Shelf.Ren := ⟨fun | 283 => 106 | n => n, fun | 3 => 3 | 9 => 9 | 4 => 4 | n => n, fun | n => n⟩
theorem Tryz.lays283 : Go.Proofs.Lays.n283 Tryz.prog Tryz.lays283_ren := {
  mixed := by kernel_rfl
  f283 := Tryz.func106.trans (congrArg some (by kernel_rfl))
  t3 := Tryz.underlying3
  a3 := Tryz.isAgg3
  z3 := Tryz.sizeOf3
  v3 := Tryz.zeroValue3
  t4 := Tryz.underlying4
  a4 := Tryz.isAgg4
  z4 := Tryz.sizeOf4
  v4 := Tryz.zeroValue4
  t9 := Tryz.underlying9
  a9 := Tryz.isAgg9
  z9 := Tryz.sizeOf9
  v9 := Tryz.zeroValue9 }
open Go.Lib in
/-- internal/strconv.small: "small returns the string for an i with 0 <= i < nSmalls.": i's decimal numeral. The world is as it was. (LAID: no walk: one application.) -/
theorem Tryz.internal_strconv_small (i : Nat) (h : i < 100) (w : World) :
    Calls Tryz.prog 106 #[.int .i64 i] w fun e w' => e = .returned (.string ⟨(Lib.decDigits i).toArray⟩) ∧ w' = w := Any.internal_strconv_small Tryz.lays283 i h w
def Tryz.laysM284_ren : Go.Shelf.Ren := ⟨fun | 284 => 107 | 129 => 127 | 317 => 126 | 318 => 128 | n => n, fun | 53 => 70 | 3 => 3 | 212 => 186 | 0 => 0 | 4 => 4 | 46 => 138 | 5 => 5 | 9 => 9 | n => n, fun | 17 => 1 | n => n⟩
theorem Tryz.laysM284 : Go.Proofs.LaysM.n284 Tryz.prog Tryz.laysM284_ren := {
  mixed := by kernel_rfl
  f129 := Tryz.func127.trans (congrArg some (by kernel_rfl))
  f284 := Tryz.func107.trans (congrArg some (by kernel_rfl))
  f317 := Tryz.func126.trans (congrArg some (by kernel_rfl))
  f318 := Tryz.func128.trans (congrArg some (by kernel_rfl))
  t0 := Tryz.underlying0
  a0 := Tryz.isAgg0
  z0 := Tryz.sizeOf0
  v0 := Tryz.zeroValue0
  t3 := Tryz.underlying3
  a3 := Tryz.isAgg3
  z3 := Tryz.sizeOf3
  v3 := Tryz.zeroValue3
  t4 := Tryz.underlying4
  a4 := Tryz.isAgg4
  z4 := Tryz.sizeOf4
  v4 := Tryz.zeroValue4
  t5 := Tryz.underlying5
  a5 := Tryz.isAgg5
  z5 := Tryz.sizeOf5
  v5 := Tryz.zeroValue5
  t9 := Tryz.underlying9
  a9 := Tryz.isAgg9
  z9 := Tryz.sizeOf9
  v9 := Tryz.zeroValue9
  t46 := Tryz.underlying138
  a46 := Tryz.isAgg138
  z46 := Tryz.sizeOf138
  v46 := Tryz.zeroValue138
  t53 := Tryz.underlying70
  a53 := Tryz.isAgg70
  z53 := Tryz.sizeOf70
  v53 := Tryz.zeroValue70
  t212 := Tryz.underlying186
  a212 := Tryz.isAgg186
  z212 := Tryz.sizeOf186
  v212 := Tryz.zeroValue186
  g17 := by kernel_rfl
  i0 := by kernel_rfl
  i3 := by kernel_rfl
  i4 := by kernel_rfl
  i5 := by kernel_rfl
  i9 := by kernel_rfl
  i46 := by kernel_rfl
  i53 := by kernel_rfl
  i212 := by kernel_rfl
  m17 := by kernel_rfl }
open Go.Lib in
/-- internal/strconv.numDigits, at a d that is not 0: THE NUMBER OF d's DECIMAL DIGITS. The world is as it was. (LAID: no walk: one application.) -/
theorem Tryz.internal_strconv_numDigits (u : Nat) (h1 : 1 ≤ u) (h2 : u < 18446744073709551616) (w : World) (htab : Lib.TabIs Tryz.prog w "internal/strconv.uint64pow10" .u64 Lib.pow10Tab) :
    Calls Tryz.prog 107 #[.int .u64 u] w fun e w' => e = .returned (.int .i64 (Lib.nDigits u)) ∧ w' = w := Any.internal_strconv_numDigits Tryz.laysM284 u h1 h2 w htab
def Tryz.lays285_ren : Go.Shelf.Ren := ⟨fun | 285 => 108 | n => n, fun | 37 => 24 | 53 => 70 | 3 => 3 | 4 => 4 | 51 => 164 | 9 => 9 | 5 => 5 | 0 => 0 | n => n, fun | n => n⟩
theorem Tryz.lays285 : Go.Proofs.Lays.n285 Tryz.prog Tryz.lays285_ren := {
  mixed := by kernel_rfl
  f285 := Tryz.func108.trans (congrArg some (by kernel_rfl))
  t0 := Tryz.underlying0
  a0 := Tryz.isAgg0
  z0 := Tryz.sizeOf0
  v0 := Tryz.zeroValue0
  t3 := Tryz.underlying3
  a3 := Tryz.isAgg3
  z3 := Tryz.sizeOf3
  v3 := Tryz.zeroValue3
  t4 := Tryz.underlying4
  a4 := Tryz.isAgg4
  z4 := Tryz.sizeOf4
  v4 := Tryz.zeroValue4
  t5 := Tryz.underlying5
  a5 := Tryz.isAgg5
  z5 := Tryz.sizeOf5
  v5 := Tryz.zeroValue5
  t9 := Tryz.underlying9
  a9 := Tryz.isAgg9
  z9 := Tryz.sizeOf9
  v9 := Tryz.zeroValue9
  t37 := Tryz.underlying24
  a37 := Tryz.isAgg24
  z37 := Tryz.sizeOf24
  v37 := Tryz.zeroValue24
  t51 := Tryz.underlying164
  a51 := Tryz.isAgg164
  z51 := Tryz.sizeOf164
  v51 := Tryz.zeroValue164
  t53 := Tryz.underlying70
  a53 := Tryz.isAgg70
  z53 := Tryz.sizeOf70
  v53 := Tryz.zeroValue70 }
open Go.RowKit Go.Sort Go.Lib in
/-- internal/strconv.formatBase10: "formatBase10 formats the decimal representation of u into a. The caller is responsible for ensuring that a is big enough to hold u. If a is too big, leading zeros will be filled in as needed.": THE ROW HOLDS u's DIGITS ('FmtInv .. 0 ..': every place t holds 'dg u (len - 1 - t)'); all else is as it was but for the count of draws. (LAID: no walk: one application.) -/
theorem Tryz.internal_strconv_formatBase10 (blk off cap : Nat) (u : Nat) (d : Array UInt8) (w : World) (hH : Holds (fun (b : UInt8) => Value.int .u8 (b.toNat : Int)) w blk off d) (hu : u < 10 ^ d.size) (hu64 : u < 18446744073709551616) (hsz : d.size < 4611686018427387904) :
    Calls Tryz.prog 108 #[.slice (some ⟨blk, off, none⟩) d.size cap, .int .u64 u] w fun e w' =>
      e = .returned (.tuple #[]) ∧ ∃ (n v' : Nat) (dk : Array UInt8), w' = (putRow (fun (b : UInt8) => Value.int .u8 (b.toNat : Int)) w blk off dk).drewN n ∧ FmtInv d.size u 0 v' dk := Any.internal_strconv_formatBase10 Tryz.lays285 blk off cap u d w hH hu hu64 hsz
def Tryz.laysM246_ren : Go.Shelf.Ren := ⟨fun | 246 => 105 | 283 => 106 | 284 => 107 | 285 => 108 | 286 => 109 | 129 => 127 | 317 => 126 | 318 => 128 | 319 => 129 | 320 => 130 | 337 => 140 | 338 => 141 | n => n, fun | 2 => 2 | 3 => 3 | 9 => 9 | 4 => 4 | 171 => 159 | 0 => 0 | 53 => 70 | 37 => 24 | 5 => 5 | 173 => 162 | 212 => 186 | 51 => 164 | 20 => 20 | 213 => 187 | 46 => 138 | 232 => 204 | 233 => 205 | n => n, fun | 17 => 1 | 18 => 7 | 19 => 8 | n => n⟩
theorem Tryz.laysM246 : Go.Proofs.LaysM.n246 Tryz.prog Tryz.laysM246_ren := {
  mixed := by kernel_rfl
  f129 := Tryz.func127.trans (congrArg some (by kernel_rfl))
  f246 := Tryz.func105.trans (congrArg some (by kernel_rfl))
  f283 := Tryz.func106.trans (congrArg some (by kernel_rfl))
  f284 := Tryz.func107.trans (congrArg some (by kernel_rfl))
  f285 := Tryz.func108.trans (congrArg some (by kernel_rfl))
  f286 := Tryz.func109.trans (congrArg some (by kernel_rfl))
  f317 := Tryz.func126.trans (congrArg some (by kernel_rfl))
  f318 := Tryz.func128.trans (congrArg some (by kernel_rfl))
  f319 := Tryz.func129.trans (congrArg some (by kernel_rfl))
  f320 := Tryz.func130.trans (congrArg some (by kernel_rfl))
  f337 := Tryz.func140.trans (congrArg some (by kernel_rfl))
  f338 := Tryz.func141.trans (congrArg some (by kernel_rfl))
  t0 := Tryz.underlying0
  a0 := Tryz.isAgg0
  z0 := Tryz.sizeOf0
  v0 := Tryz.zeroValue0
  t2 := Tryz.underlying2
  a2 := Tryz.isAgg2
  z2 := Tryz.sizeOf2
  v2 := Tryz.zeroValue2
  t3 := Tryz.underlying3
  a3 := Tryz.isAgg3
  z3 := Tryz.sizeOf3
  v3 := Tryz.zeroValue3
  t4 := Tryz.underlying4
  a4 := Tryz.isAgg4
  z4 := Tryz.sizeOf4
  v4 := Tryz.zeroValue4
  t5 := Tryz.underlying5
  a5 := Tryz.isAgg5
  z5 := Tryz.sizeOf5
  v5 := Tryz.zeroValue5
  t9 := Tryz.underlying9
  a9 := Tryz.isAgg9
  z9 := Tryz.sizeOf9
  v9 := Tryz.zeroValue9
  t20 := Tryz.underlying20
  a20 := Tryz.isAgg20
  z20 := Tryz.sizeOf20
  v20 := Tryz.zeroValue20
  t37 := Tryz.underlying24
  a37 := Tryz.isAgg24
  z37 := Tryz.sizeOf24
  v37 := Tryz.zeroValue24
  t46 := Tryz.underlying138
  a46 := Tryz.isAgg138
  z46 := Tryz.sizeOf138
  v46 := Tryz.zeroValue138
  t51 := Tryz.underlying164
  a51 := Tryz.isAgg164
  z51 := Tryz.sizeOf164
  v51 := Tryz.zeroValue164
  t53 := Tryz.underlying70
  a53 := Tryz.isAgg70
  z53 := Tryz.sizeOf70
  v53 := Tryz.zeroValue70
  t171 := Tryz.underlying159
  a171 := Tryz.isAgg159
  z171 := Tryz.sizeOf159
  v171 := Tryz.zeroValue159
  t173 := Tryz.underlying162
  a173 := Tryz.isAgg162
  z173 := Tryz.sizeOf162
  v173 := Tryz.zeroValue162
  t212 := Tryz.underlying186
  a212 := Tryz.isAgg186
  z212 := Tryz.sizeOf186
  v212 := Tryz.zeroValue186
  t213 := Tryz.underlying187
  a213 := Tryz.isAgg187
  z213 := Tryz.sizeOf187
  t232 := Tryz.underlying204
  a232 := Tryz.isAgg204
  z232 := Tryz.sizeOf204
  v232 := Tryz.zeroValue204
  t233 := Tryz.underlying205
  a233 := Tryz.isAgg205
  z233 := Tryz.sizeOf205
  v233 := Tryz.zeroValue205
  g17 := by kernel_rfl
  g18 := by kernel_rfl
  g19 := by kernel_rfl
  i0 := by kernel_rfl
  i2 := by kernel_rfl
  i3 := by kernel_rfl
  i4 := by kernel_rfl
  i5 := by kernel_rfl
  i9 := by kernel_rfl
  i20 := by kernel_rfl
  i37 := by kernel_rfl
  i46 := by kernel_rfl
  i51 := by kernel_rfl
  i53 := by kernel_rfl
  i171 := by kernel_rfl
  i173 := by kernel_rfl
  i212 := by kernel_rfl
  i232 := by kernel_rfl
  i233 := by kernel_rfl
  m17 := by kernel_rfl
  m18 := by kernel_rfl
  m19 := by kernel_rfl }
open Go.RowKit Go.Sort Go.Lib in
/-- internal/strconv.FormatInt: "FormatInt returns the string representation of i in the given base": AT BASE 10: i's decimal numeral, for every int64. The world behind the call: the world before it, new blocks behind the heap, draws. (LAID: no walk: one application.) -/
theorem Tryz.internal_strconv_FormatInt_10 (n : Int) (h0 : -9223372036854775808 ≤ n) (h1 : n ≤ 9223372036854775807) (w : World) (htab : Lib.TabIs Tryz.prog w "internal/strconv.uint64pow10" .u64 Lib.pow10Tab) :
    Calls Tryz.prog 105 #[.int .i64 n, .int .i64 10] w fun e w' => e = .returned (.string ⟨(Lib.itoa n).toArray⟩) ∧ ∃ k os, w' = grow (w.drewN k) os := Any.internal_strconv_FormatInt_10 Tryz.laysM246 n h0 h1 w htab
def Tryz.lays246_ren : Go.Shelf.Ren := ⟨fun | 246 => 105 | 283 => 106 | 284 => 107 | 285 => 108 | 286 => 109 | 129 => 127 | 317 => 126 | 318 => 128 | 319 => 129 | 320 => 130 | 337 => 140 | 338 => 141 | n => n, fun | 2 => 2 | 3 => 3 | 9 => 9 | 4 => 4 | 171 => 159 | 0 => 0 | 53 => 70 | 37 => 24 | 5 => 5 | 173 => 162 | 212 => 186 | 51 => 164 | 20 => 20 | 213 => 187 | 46 => 138 | 232 => 204 | 233 => 205 | n => n, fun | 17 => 1 | 18 => 7 | 19 => 8 | n => n⟩
theorem Tryz.lays246 : Go.Proofs.Lays.n246 Tryz.prog Tryz.lays246_ren := {
  mixed := by kernel_rfl
  f129 := Tryz.func127.trans (congrArg some (by kernel_rfl))
  f246 := Tryz.func105.trans (congrArg some (by kernel_rfl))
  f283 := Tryz.func106.trans (congrArg some (by kernel_rfl))
  f284 := Tryz.func107.trans (congrArg some (by kernel_rfl))
  f285 := Tryz.func108.trans (congrArg some (by kernel_rfl))
  f286 := Tryz.func109.trans (congrArg some (by kernel_rfl))
  f317 := Tryz.func126.trans (congrArg some (by kernel_rfl))
  f318 := Tryz.func128.trans (congrArg some (by kernel_rfl))
  f319 := Tryz.func129.trans (congrArg some (by kernel_rfl))
  f320 := Tryz.func130.trans (congrArg some (by kernel_rfl))
  f337 := Tryz.func140.trans (congrArg some (by kernel_rfl))
  f338 := Tryz.func141.trans (congrArg some (by kernel_rfl))
  t0 := Tryz.underlying0
  a0 := Tryz.isAgg0
  z0 := Tryz.sizeOf0
  v0 := Tryz.zeroValue0
  t2 := Tryz.underlying2
  a2 := Tryz.isAgg2
  z2 := Tryz.sizeOf2
  v2 := Tryz.zeroValue2
  t3 := Tryz.underlying3
  a3 := Tryz.isAgg3
  z3 := Tryz.sizeOf3
  v3 := Tryz.zeroValue3
  t4 := Tryz.underlying4
  a4 := Tryz.isAgg4
  z4 := Tryz.sizeOf4
  v4 := Tryz.zeroValue4
  t5 := Tryz.underlying5
  a5 := Tryz.isAgg5
  z5 := Tryz.sizeOf5
  v5 := Tryz.zeroValue5
  t9 := Tryz.underlying9
  a9 := Tryz.isAgg9
  z9 := Tryz.sizeOf9
  v9 := Tryz.zeroValue9
  t20 := Tryz.underlying20
  a20 := Tryz.isAgg20
  z20 := Tryz.sizeOf20
  v20 := Tryz.zeroValue20
  t37 := Tryz.underlying24
  a37 := Tryz.isAgg24
  z37 := Tryz.sizeOf24
  v37 := Tryz.zeroValue24
  t46 := Tryz.underlying138
  a46 := Tryz.isAgg138
  z46 := Tryz.sizeOf138
  v46 := Tryz.zeroValue138
  t51 := Tryz.underlying164
  a51 := Tryz.isAgg164
  z51 := Tryz.sizeOf164
  v51 := Tryz.zeroValue164
  t53 := Tryz.underlying70
  a53 := Tryz.isAgg70
  z53 := Tryz.sizeOf70
  v53 := Tryz.zeroValue70
  t171 := Tryz.underlying159
  a171 := Tryz.isAgg159
  z171 := Tryz.sizeOf159
  v171 := Tryz.zeroValue159
  t173 := Tryz.underlying162
  a173 := Tryz.isAgg162
  z173 := Tryz.sizeOf162
  v173 := Tryz.zeroValue162
  t212 := Tryz.underlying186
  a212 := Tryz.isAgg186
  z212 := Tryz.sizeOf186
  v212 := Tryz.zeroValue186
  t213 := Tryz.underlying187
  a213 := Tryz.isAgg187
  z213 := Tryz.sizeOf187
  t232 := Tryz.underlying204
  a232 := Tryz.isAgg204
  z232 := Tryz.sizeOf204
  v232 := Tryz.zeroValue204
  t233 := Tryz.underlying205
  a233 := Tryz.isAgg205
  z233 := Tryz.sizeOf205
  v233 := Tryz.zeroValue205
  g17 := by kernel_rfl
  g18 := by kernel_rfl
  g19 := by kernel_rfl }
open Go.RowKit Go.Sort Go.Lib in
/-- THE ROAD WITHOUT THE TABLE: 0 <= i < 100: two constants are read, nothing is laid: no premise on the world, and the world is as it was. (LAID: no walk: one application.) -/
theorem Tryz.internal_strconv_FormatInt_10_small (i : Nat) (hi : i < 100) (w : World) :
    Calls Tryz.prog 105 #[.int .i64 i, .int .i64 10] w fun e w' => e = .returned (.string ⟨(Lib.decDigits i).toArray⟩) ∧ w' = w := Any.internal_strconv_FormatInt_10_small Tryz.lays246 i hi w
def Tryz.laysM243_ren : Go.Shelf.Ren := ⟨fun | 243 => 81 | 246 => 105 | 283 => 106 | 284 => 107 | 285 => 108 | 286 => 109 | 129 => 127 | 317 => 126 | 318 => 128 | 319 => 129 | 320 => 130 | 337 => 140 | 338 => 141 | n => n, fun | 3 => 3 | 9 => 9 | 2 => 2 | 4 => 4 | 171 => 159 | 0 => 0 | 53 => 70 | 37 => 24 | 5 => 5 | 173 => 162 | 212 => 186 | 51 => 164 | 20 => 20 | 213 => 187 | 46 => 138 | 232 => 204 | 233 => 205 | n => n, fun | 17 => 1 | 18 => 7 | 19 => 8 | n => n⟩
theorem Tryz.laysM243 : Go.Proofs.LaysM.n243 Tryz.prog Tryz.laysM243_ren := {
  mixed := by kernel_rfl
  f129 := Tryz.func127.trans (congrArg some (by kernel_rfl))
  f243 := Tryz.func81.trans (congrArg some (by kernel_rfl))
  f246 := Tryz.func105.trans (congrArg some (by kernel_rfl))
  f283 := Tryz.func106.trans (congrArg some (by kernel_rfl))
  f284 := Tryz.func107.trans (congrArg some (by kernel_rfl))
  f285 := Tryz.func108.trans (congrArg some (by kernel_rfl))
  f286 := Tryz.func109.trans (congrArg some (by kernel_rfl))
  f317 := Tryz.func126.trans (congrArg some (by kernel_rfl))
  f318 := Tryz.func128.trans (congrArg some (by kernel_rfl))
  f319 := Tryz.func129.trans (congrArg some (by kernel_rfl))
  f320 := Tryz.func130.trans (congrArg some (by kernel_rfl))
  f337 := Tryz.func140.trans (congrArg some (by kernel_rfl))
  f338 := Tryz.func141.trans (congrArg some (by kernel_rfl))
  t0 := Tryz.underlying0
  a0 := Tryz.isAgg0
  z0 := Tryz.sizeOf0
  v0 := Tryz.zeroValue0
  t2 := Tryz.underlying2
  a2 := Tryz.isAgg2
  z2 := Tryz.sizeOf2
  v2 := Tryz.zeroValue2
  t3 := Tryz.underlying3
  a3 := Tryz.isAgg3
  z3 := Tryz.sizeOf3
  v3 := Tryz.zeroValue3
  t4 := Tryz.underlying4
  a4 := Tryz.isAgg4
  z4 := Tryz.sizeOf4
  v4 := Tryz.zeroValue4
  t5 := Tryz.underlying5
  a5 := Tryz.isAgg5
  z5 := Tryz.sizeOf5
  v5 := Tryz.zeroValue5
  t9 := Tryz.underlying9
  a9 := Tryz.isAgg9
  z9 := Tryz.sizeOf9
  v9 := Tryz.zeroValue9
  t20 := Tryz.underlying20
  a20 := Tryz.isAgg20
  z20 := Tryz.sizeOf20
  v20 := Tryz.zeroValue20
  t37 := Tryz.underlying24
  a37 := Tryz.isAgg24
  z37 := Tryz.sizeOf24
  v37 := Tryz.zeroValue24
  t46 := Tryz.underlying138
  a46 := Tryz.isAgg138
  z46 := Tryz.sizeOf138
  v46 := Tryz.zeroValue138
  t51 := Tryz.underlying164
  a51 := Tryz.isAgg164
  z51 := Tryz.sizeOf164
  v51 := Tryz.zeroValue164
  t53 := Tryz.underlying70
  a53 := Tryz.isAgg70
  z53 := Tryz.sizeOf70
  v53 := Tryz.zeroValue70
  t171 := Tryz.underlying159
  a171 := Tryz.isAgg159
  z171 := Tryz.sizeOf159
  v171 := Tryz.zeroValue159
  t173 := Tryz.underlying162
  a173 := Tryz.isAgg162
  z173 := Tryz.sizeOf162
  v173 := Tryz.zeroValue162
  t212 := Tryz.underlying186
  a212 := Tryz.isAgg186
  z212 := Tryz.sizeOf186
  v212 := Tryz.zeroValue186
  t213 := Tryz.underlying187
  a213 := Tryz.isAgg187
  z213 := Tryz.sizeOf187
  t232 := Tryz.underlying204
  a232 := Tryz.isAgg204
  z232 := Tryz.sizeOf204
  v232 := Tryz.zeroValue204
  t233 := Tryz.underlying205
  a233 := Tryz.isAgg205
  z233 := Tryz.sizeOf205
  v233 := Tryz.zeroValue205
  g17 := by kernel_rfl
  g18 := by kernel_rfl
  g19 := by kernel_rfl
  i0 := by kernel_rfl
  i2 := by kernel_rfl
  i3 := by kernel_rfl
  i4 := by kernel_rfl
  i5 := by kernel_rfl
  i9 := by kernel_rfl
  i20 := by kernel_rfl
  i37 := by kernel_rfl
  i46 := by kernel_rfl
  i51 := by kernel_rfl
  i53 := by kernel_rfl
  i171 := by kernel_rfl
  i173 := by kernel_rfl
  i212 := by kernel_rfl
  i232 := by kernel_rfl
  i233 := by kernel_rfl
  m17 := by kernel_rfl
  m18 := by kernel_rfl
  m19 := by kernel_rfl }
open Go.RowKit Go.Sort Go.Lib in
/-- internal/strconv.Itoa: "Itoa is equivalent to FormatInt(int64(i), 10).": i's decimal numeral, for every int. (LAID: no walk: one application.) -/
theorem Tryz.internal_strconv_Itoa (n : Int) (h0 : -9223372036854775808 ≤ n) (h1 : n ≤ 9223372036854775807) (w : World) (htab : Lib.TabIs Tryz.prog w "internal/strconv.uint64pow10" .u64 Lib.pow10Tab) :
    Calls Tryz.prog 81 #[.int .i64 n] w fun e w' => e = .returned (.string ⟨(Lib.itoa n).toArray⟩) ∧ ∃ k os, w' = grow (w.drewN k) os := Any.internal_strconv_Itoa Tryz.laysM243 n h0 h1 w htab
def Tryz.lays243_ren : Go.Shelf.Ren := ⟨fun | 243 => 81 | 246 => 105 | 283 => 106 | 284 => 107 | 285 => 108 | 286 => 109 | 129 => 127 | 317 => 126 | 318 => 128 | 319 => 129 | 320 => 130 | 337 => 140 | 338 => 141 | n => n, fun | 3 => 3 | 9 => 9 | 2 => 2 | 4 => 4 | 171 => 159 | 0 => 0 | 53 => 70 | 37 => 24 | 5 => 5 | 173 => 162 | 212 => 186 | 51 => 164 | 20 => 20 | 213 => 187 | 46 => 138 | 232 => 204 | 233 => 205 | n => n, fun | 17 => 1 | 18 => 7 | 19 => 8 | n => n⟩
theorem Tryz.lays243 : Go.Proofs.Lays.n243 Tryz.prog Tryz.lays243_ren := {
  mixed := by kernel_rfl
  f129 := Tryz.func127.trans (congrArg some (by kernel_rfl))
  f243 := Tryz.func81.trans (congrArg some (by kernel_rfl))
  f246 := Tryz.func105.trans (congrArg some (by kernel_rfl))
  f283 := Tryz.func106.trans (congrArg some (by kernel_rfl))
  f284 := Tryz.func107.trans (congrArg some (by kernel_rfl))
  f285 := Tryz.func108.trans (congrArg some (by kernel_rfl))
  f286 := Tryz.func109.trans (congrArg some (by kernel_rfl))
  f317 := Tryz.func126.trans (congrArg some (by kernel_rfl))
  f318 := Tryz.func128.trans (congrArg some (by kernel_rfl))
  f319 := Tryz.func129.trans (congrArg some (by kernel_rfl))
  f320 := Tryz.func130.trans (congrArg some (by kernel_rfl))
  f337 := Tryz.func140.trans (congrArg some (by kernel_rfl))
  f338 := Tryz.func141.trans (congrArg some (by kernel_rfl))
  t0 := Tryz.underlying0
  a0 := Tryz.isAgg0
  z0 := Tryz.sizeOf0
  v0 := Tryz.zeroValue0
  t2 := Tryz.underlying2
  a2 := Tryz.isAgg2
  z2 := Tryz.sizeOf2
  v2 := Tryz.zeroValue2
  t3 := Tryz.underlying3
  a3 := Tryz.isAgg3
  z3 := Tryz.sizeOf3
  v3 := Tryz.zeroValue3
  t4 := Tryz.underlying4
  a4 := Tryz.isAgg4
  z4 := Tryz.sizeOf4
  v4 := Tryz.zeroValue4
  t5 := Tryz.underlying5
  a5 := Tryz.isAgg5
  z5 := Tryz.sizeOf5
  v5 := Tryz.zeroValue5
  t9 := Tryz.underlying9
  a9 := Tryz.isAgg9
  z9 := Tryz.sizeOf9
  v9 := Tryz.zeroValue9
  t20 := Tryz.underlying20
  a20 := Tryz.isAgg20
  z20 := Tryz.sizeOf20
  v20 := Tryz.zeroValue20
  t37 := Tryz.underlying24
  a37 := Tryz.isAgg24
  z37 := Tryz.sizeOf24
  v37 := Tryz.zeroValue24
  t46 := Tryz.underlying138
  a46 := Tryz.isAgg138
  z46 := Tryz.sizeOf138
  v46 := Tryz.zeroValue138
  t51 := Tryz.underlying164
  a51 := Tryz.isAgg164
  z51 := Tryz.sizeOf164
  v51 := Tryz.zeroValue164
  t53 := Tryz.underlying70
  a53 := Tryz.isAgg70
  z53 := Tryz.sizeOf70
  v53 := Tryz.zeroValue70
  t171 := Tryz.underlying159
  a171 := Tryz.isAgg159
  z171 := Tryz.sizeOf159
  v171 := Tryz.zeroValue159
  t173 := Tryz.underlying162
  a173 := Tryz.isAgg162
  z173 := Tryz.sizeOf162
  v173 := Tryz.zeroValue162
  t212 := Tryz.underlying186
  a212 := Tryz.isAgg186
  z212 := Tryz.sizeOf186
  v212 := Tryz.zeroValue186
  t213 := Tryz.underlying187
  a213 := Tryz.isAgg187
  z213 := Tryz.sizeOf187
  t232 := Tryz.underlying204
  a232 := Tryz.isAgg204
  z232 := Tryz.sizeOf204
  v232 := Tryz.zeroValue204
  t233 := Tryz.underlying205
  a233 := Tryz.isAgg205
  z233 := Tryz.sizeOf205
  v233 := Tryz.zeroValue205
  g17 := by kernel_rfl
  g18 := by kernel_rfl
  g19 := by kernel_rfl }
open Go.RowKit Go.Sort Go.Lib in
/-- THE ROAD WITHOUT THE TABLE: 0 <= i < 100. (LAID: no walk: one application.) -/
theorem Tryz.internal_strconv_Itoa_small (i : Nat) (hi : i < 100) (w : World) :
    Calls Tryz.prog 81 #[.int .i64 i] w fun e w' => e = .returned (.string ⟨(Lib.decDigits i).toArray⟩) ∧ w' = w := Any.internal_strconv_Itoa_small Tryz.lays243 i hi w
def Tryz.laysM171_ren : Go.Shelf.Ren := ⟨fun | 171 => 53 | 243 => 81 | 246 => 105 | 283 => 106 | 284 => 107 | 285 => 108 | 286 => 109 | 129 => 127 | 317 => 126 | 318 => 128 | 319 => 129 | 320 => 130 | 337 => 140 | 338 => 141 | n => n, fun | 3 => 3 | 9 => 9 | 2 => 2 | 4 => 4 | 171 => 159 | 0 => 0 | 53 => 70 | 37 => 24 | 5 => 5 | 173 => 162 | 212 => 186 | 51 => 164 | 20 => 20 | 213 => 187 | 46 => 138 | 232 => 204 | 233 => 205 | n => n, fun | 17 => 1 | 18 => 7 | 19 => 8 | n => n⟩
theorem Tryz.laysM171 : Go.Proofs.LaysM.n171 Tryz.prog Tryz.laysM171_ren := {
  mixed := by kernel_rfl
  f129 := Tryz.func127.trans (congrArg some (by kernel_rfl))
  f171 := Tryz.func53.trans (congrArg some (by kernel_rfl))
  f243 := Tryz.func81.trans (congrArg some (by kernel_rfl))
  f246 := Tryz.func105.trans (congrArg some (by kernel_rfl))
  f283 := Tryz.func106.trans (congrArg some (by kernel_rfl))
  f284 := Tryz.func107.trans (congrArg some (by kernel_rfl))
  f285 := Tryz.func108.trans (congrArg some (by kernel_rfl))
  f286 := Tryz.func109.trans (congrArg some (by kernel_rfl))
  f317 := Tryz.func126.trans (congrArg some (by kernel_rfl))
  f318 := Tryz.func128.trans (congrArg some (by kernel_rfl))
  f319 := Tryz.func129.trans (congrArg some (by kernel_rfl))
  f320 := Tryz.func130.trans (congrArg some (by kernel_rfl))
  f337 := Tryz.func140.trans (congrArg some (by kernel_rfl))
  f338 := Tryz.func141.trans (congrArg some (by kernel_rfl))
  t0 := Tryz.underlying0
  a0 := Tryz.isAgg0
  z0 := Tryz.sizeOf0
  v0 := Tryz.zeroValue0
  t2 := Tryz.underlying2
  a2 := Tryz.isAgg2
  z2 := Tryz.sizeOf2
  v2 := Tryz.zeroValue2
  t3 := Tryz.underlying3
  a3 := Tryz.isAgg3
  z3 := Tryz.sizeOf3
  v3 := Tryz.zeroValue3
  t4 := Tryz.underlying4
  a4 := Tryz.isAgg4
  z4 := Tryz.sizeOf4
  v4 := Tryz.zeroValue4
  t5 := Tryz.underlying5
  a5 := Tryz.isAgg5
  z5 := Tryz.sizeOf5
  v5 := Tryz.zeroValue5
  t9 := Tryz.underlying9
  a9 := Tryz.isAgg9
  z9 := Tryz.sizeOf9
  v9 := Tryz.zeroValue9
  t20 := Tryz.underlying20
  a20 := Tryz.isAgg20
  z20 := Tryz.sizeOf20
  v20 := Tryz.zeroValue20
  t37 := Tryz.underlying24
  a37 := Tryz.isAgg24
  z37 := Tryz.sizeOf24
  v37 := Tryz.zeroValue24
  t46 := Tryz.underlying138
  a46 := Tryz.isAgg138
  z46 := Tryz.sizeOf138
  v46 := Tryz.zeroValue138
  t51 := Tryz.underlying164
  a51 := Tryz.isAgg164
  z51 := Tryz.sizeOf164
  v51 := Tryz.zeroValue164
  t53 := Tryz.underlying70
  a53 := Tryz.isAgg70
  z53 := Tryz.sizeOf70
  v53 := Tryz.zeroValue70
  t171 := Tryz.underlying159
  a171 := Tryz.isAgg159
  z171 := Tryz.sizeOf159
  v171 := Tryz.zeroValue159
  t173 := Tryz.underlying162
  a173 := Tryz.isAgg162
  z173 := Tryz.sizeOf162
  v173 := Tryz.zeroValue162
  t212 := Tryz.underlying186
  a212 := Tryz.isAgg186
  z212 := Tryz.sizeOf186
  v212 := Tryz.zeroValue186
  t213 := Tryz.underlying187
  a213 := Tryz.isAgg187
  z213 := Tryz.sizeOf187
  t232 := Tryz.underlying204
  a232 := Tryz.isAgg204
  z232 := Tryz.sizeOf204
  v232 := Tryz.zeroValue204
  t233 := Tryz.underlying205
  a233 := Tryz.isAgg205
  z233 := Tryz.sizeOf205
  v233 := Tryz.zeroValue205
  g17 := by kernel_rfl
  g18 := by kernel_rfl
  g19 := by kernel_rfl
  i0 := by kernel_rfl
  i2 := by kernel_rfl
  i3 := by kernel_rfl
  i4 := by kernel_rfl
  i5 := by kernel_rfl
  i9 := by kernel_rfl
  i20 := by kernel_rfl
  i37 := by kernel_rfl
  i46 := by kernel_rfl
  i51 := by kernel_rfl
  i53 := by kernel_rfl
  i171 := by kernel_rfl
  i173 := by kernel_rfl
  i212 := by kernel_rfl
  i232 := by kernel_rfl
  i233 := by kernel_rfl
  m17 := by kernel_rfl
  m18 := by kernel_rfl
  m19 := by kernel_rfl }
open Go.RowKit Go.Sort Go.Lib in
/-- strconv.Itoa: "Itoa is equivalent to FormatInt(int64(i), 10).": i's DECIMAL NUMERAL ('Lib.itoa': a '-' where i is negative, then the digits), FOR EVERY int. The world behind the call: the world before it, new blocks behind the heap (the library's 'var a [24]byte'), draws. (LAID: no walk: one application.) -/
theorem Tryz.strconv_Itoa (n : Int) (h0 : -9223372036854775808 ≤ n) (h1 : n ≤ 9223372036854775807) (w : World) (htab : Lib.TabIs Tryz.prog w "internal/strconv.uint64pow10" .u64 Lib.pow10Tab) :
    Calls Tryz.prog 53 #[.int .i64 n] w fun e w' => e = .returned (.string ⟨(Lib.itoa n).toArray⟩) ∧ ∃ k os, w' = grow (w.drewN k) os := Any.strconv_Itoa Tryz.laysM171 n h0 h1 w htab
def Tryz.lays171_ren : Go.Shelf.Ren := ⟨fun | 171 => 53 | 243 => 81 | 246 => 105 | 283 => 106 | 284 => 107 | 285 => 108 | 286 => 109 | 129 => 127 | 317 => 126 | 318 => 128 | 319 => 129 | 320 => 130 | 337 => 140 | 338 => 141 | n => n, fun | 3 => 3 | 9 => 9 | 2 => 2 | 4 => 4 | 171 => 159 | 0 => 0 | 53 => 70 | 37 => 24 | 5 => 5 | 173 => 162 | 212 => 186 | 51 => 164 | 20 => 20 | 213 => 187 | 46 => 138 | 232 => 204 | 233 => 205 | n => n, fun | 17 => 1 | 18 => 7 | 19 => 8 | n => n⟩
theorem Tryz.lays171 : Go.Proofs.Lays.n171 Tryz.prog Tryz.lays171_ren := {
  mixed := by kernel_rfl
  f129 := Tryz.func127.trans (congrArg some (by kernel_rfl))
  f171 := Tryz.func53.trans (congrArg some (by kernel_rfl))
  f243 := Tryz.func81.trans (congrArg some (by kernel_rfl))
  f246 := Tryz.func105.trans (congrArg some (by kernel_rfl))
  f283 := Tryz.func106.trans (congrArg some (by kernel_rfl))
  f284 := Tryz.func107.trans (congrArg some (by kernel_rfl))
  f285 := Tryz.func108.trans (congrArg some (by kernel_rfl))
  f286 := Tryz.func109.trans (congrArg some (by kernel_rfl))
  f317 := Tryz.func126.trans (congrArg some (by kernel_rfl))
  f318 := Tryz.func128.trans (congrArg some (by kernel_rfl))
  f319 := Tryz.func129.trans (congrArg some (by kernel_rfl))
  f320 := Tryz.func130.trans (congrArg some (by kernel_rfl))
  f337 := Tryz.func140.trans (congrArg some (by kernel_rfl))
  f338 := Tryz.func141.trans (congrArg some (by kernel_rfl))
  t0 := Tryz.underlying0
  a0 := Tryz.isAgg0
  z0 := Tryz.sizeOf0
  v0 := Tryz.zeroValue0
  t2 := Tryz.underlying2
  a2 := Tryz.isAgg2
  z2 := Tryz.sizeOf2
  v2 := Tryz.zeroValue2
  t3 := Tryz.underlying3
  a3 := Tryz.isAgg3
  z3 := Tryz.sizeOf3
  v3 := Tryz.zeroValue3
  t4 := Tryz.underlying4
  a4 := Tryz.isAgg4
  z4 := Tryz.sizeOf4
  v4 := Tryz.zeroValue4
  t5 := Tryz.underlying5
  a5 := Tryz.isAgg5
  z5 := Tryz.sizeOf5
  v5 := Tryz.zeroValue5
  t9 := Tryz.underlying9
  a9 := Tryz.isAgg9
  z9 := Tryz.sizeOf9
  v9 := Tryz.zeroValue9
  t20 := Tryz.underlying20
  a20 := Tryz.isAgg20
  z20 := Tryz.sizeOf20
  v20 := Tryz.zeroValue20
  t37 := Tryz.underlying24
  a37 := Tryz.isAgg24
  z37 := Tryz.sizeOf24
  v37 := Tryz.zeroValue24
  t46 := Tryz.underlying138
  a46 := Tryz.isAgg138
  z46 := Tryz.sizeOf138
  v46 := Tryz.zeroValue138
  t51 := Tryz.underlying164
  a51 := Tryz.isAgg164
  z51 := Tryz.sizeOf164
  v51 := Tryz.zeroValue164
  t53 := Tryz.underlying70
  a53 := Tryz.isAgg70
  z53 := Tryz.sizeOf70
  v53 := Tryz.zeroValue70
  t171 := Tryz.underlying159
  a171 := Tryz.isAgg159
  z171 := Tryz.sizeOf159
  v171 := Tryz.zeroValue159
  t173 := Tryz.underlying162
  a173 := Tryz.isAgg162
  z173 := Tryz.sizeOf162
  v173 := Tryz.zeroValue162
  t212 := Tryz.underlying186
  a212 := Tryz.isAgg186
  z212 := Tryz.sizeOf186
  v212 := Tryz.zeroValue186
  t213 := Tryz.underlying187
  a213 := Tryz.isAgg187
  z213 := Tryz.sizeOf187
  t232 := Tryz.underlying204
  a232 := Tryz.isAgg204
  z232 := Tryz.sizeOf204
  v232 := Tryz.zeroValue204
  t233 := Tryz.underlying205
  a233 := Tryz.isAgg205
  z233 := Tryz.sizeOf205
  v233 := Tryz.zeroValue205
  g17 := by kernel_rfl
  g18 := by kernel_rfl
  g19 := by kernel_rfl }
open Go.RowKit Go.Sort Go.Lib in
/-- THE ROAD WITHOUT THE TABLE: 0 <= i < 100: NO PREMISE ON THE WORLD, AND THE WORLD IS AS IT WAS: a row that keeps its argument in that range need list no table ('laid = []'). (LAID: no walk: one application.) -/
theorem Tryz.strconv_Itoa_small (i : Nat) (hi : i < 100) (w : World) :
    Calls Tryz.prog 53 #[.int .i64 i] w fun e w' => e = .returned (.string ⟨(Lib.decDigits i).toArray⟩) ∧ w' = w := Any.strconv_Itoa_small Tryz.lays171 i hi w
def Tryz.lays247_ren : Go.Shelf.Ren := ⟨fun | 247 => 103 | 287 => 121 | 321 => 136 | 322 => 137 | n => n, fun | 9 => 9 | 3 => 3 | 2 => 2 | 75 => 119 | 4 => 4 | 167 => 179 | 5 => 5 | 53 => 70 | 175 => 180 | 46 => 138 | 37 => 24 | 0 => 0 | 21 => 21 | 80 => 122 | n => n, fun | n => n⟩
theorem Tryz.lays247 : Go.Proofs.Lays.n247 Tryz.prog Tryz.lays247_ren := {
  mixed := by kernel_rfl
  f247 := Tryz.func103.trans (congrArg some (by kernel_rfl))
  f287 := Tryz.func121.trans (congrArg some (by kernel_rfl))
  f321 := Tryz.func136.trans (congrArg some (by kernel_rfl))
  f322 := Tryz.func137.trans (congrArg some (by kernel_rfl))
  t0 := Tryz.underlying0
  a0 := Tryz.isAgg0
  z0 := Tryz.sizeOf0
  v0 := Tryz.zeroValue0
  t2 := Tryz.underlying2
  a2 := Tryz.isAgg2
  z2 := Tryz.sizeOf2
  v2 := Tryz.zeroValue2
  t3 := Tryz.underlying3
  a3 := Tryz.isAgg3
  z3 := Tryz.sizeOf3
  v3 := Tryz.zeroValue3
  t4 := Tryz.underlying4
  a4 := Tryz.isAgg4
  z4 := Tryz.sizeOf4
  v4 := Tryz.zeroValue4
  t5 := Tryz.underlying5
  a5 := Tryz.isAgg5
  z5 := Tryz.sizeOf5
  v5 := Tryz.zeroValue5
  t9 := Tryz.underlying9
  a9 := Tryz.isAgg9
  z9 := Tryz.sizeOf9
  v9 := Tryz.zeroValue9
  t21 := Tryz.underlying21
  a21 := Tryz.isAgg21
  z21 := Tryz.sizeOf21
  v21 := Tryz.zeroValue21
  t37 := Tryz.underlying24
  a37 := Tryz.isAgg24
  z37 := Tryz.sizeOf24
  v37 := Tryz.zeroValue24
  t46 := Tryz.underlying138
  a46 := Tryz.isAgg138
  z46 := Tryz.sizeOf138
  v46 := Tryz.zeroValue138
  t53 := Tryz.underlying70
  a53 := Tryz.isAgg70
  z53 := Tryz.sizeOf70
  v53 := Tryz.zeroValue70
  t75 := Tryz.underlying119
  a75 := Tryz.isAgg119
  z75 := Tryz.sizeOf119
  v75 := Tryz.zeroValue119
  t167 := Tryz.underlying179
  a167 := Tryz.isAgg179
  z167 := Tryz.sizeOf179
  v167 := Tryz.zeroValue179
  t175 := Tryz.underlying180
  a175 := Tryz.isAgg180
  z175 := Tryz.sizeOf180
  v175 := Tryz.zeroValue180 }
open Go.RowKit in
/-- internal/strconv.ParseInt at "": 'if s == "" { return 0, ErrSyntax }'. The world is as it was. (LAID: no walk: one application.) -/
theorem Tryz.internal_strconv_ParseInt_empty (base bits : Int) (w : World) :
    Calls Tryz.prog 103 #[.string ⟨#[]⟩, .int .i64 base, .int .i64 bits] w fun e w' => e = .returned (.tuple #[.int .i64 0, (.iface 179 (.int .i64 2))]) ∧ w' = w := Any.internal_strconv_ParseInt_empty Tryz.lays247 base bits w
def Tryz.laysM316_ren : Go.Shelf.Ren := ⟨fun | 316 => 138 | n => n, fun | 9 => 9 | 3 => 3 | 4 => 4 | 37 => 24 | 0 => 0 | 127 => 151 | 5 => 5 | n => n, fun | n => n⟩
theorem Tryz.laysM316 : Go.Proofs.LaysM.n316 Tryz.prog Tryz.laysM316_ren := {
  mixed := by kernel_rfl
  f316 := Tryz.func138.trans (congrArg some (by kernel_rfl))
  t0 := Tryz.underlying0
  a0 := Tryz.isAgg0
  z0 := Tryz.sizeOf0
  v0 := Tryz.zeroValue0
  t3 := Tryz.underlying3
  a3 := Tryz.isAgg3
  z3 := Tryz.sizeOf3
  v3 := Tryz.zeroValue3
  t4 := Tryz.underlying4
  a4 := Tryz.isAgg4
  z4 := Tryz.sizeOf4
  v4 := Tryz.zeroValue4
  t9 := Tryz.underlying9
  a9 := Tryz.isAgg9
  z9 := Tryz.sizeOf9
  v9 := Tryz.zeroValue9
  t37 := Tryz.underlying24
  a37 := Tryz.isAgg24
  z37 := Tryz.sizeOf24
  v37 := Tryz.zeroValue24
  t127 := Tryz.underlying151
  a127 := Tryz.isAgg151
  z127 := Tryz.sizeOf151
  v127 := Tryz.zeroValue151
  t5 := Tryz.underlying5
  a5 := Tryz.isAgg5
  z5 := Tryz.sizeOf5
  v5 := Tryz.zeroValue5
  i0 := by kernel_rfl
  i3 := by kernel_rfl
  i4 := by kernel_rfl
  i5 := by kernel_rfl
  i9 := by kernel_rfl
  i37 := by kernel_rfl
  i127 := by kernel_rfl }
open Go.RowKit in
/-- internal/stringslite.Clone (what strings.Clone calls): "Clone returns a fresh copy of s.": THE SAME BYTES. Of what was there nothing has turned (a new row is laid, and frozen, where s is not empty). (LAID: no walk: one application.) -/
theorem Tryz.stringslite_Clone (s : ByteArray) (w : World) (hlim : s.size ≤ 281474976710656) :
    Calls Tryz.prog 138 #[.string s] w fun e w' => e = .returned (.string s) ∧ Below w.heap.size w w' := Any.stringslite_Clone Tryz.laysM316 s w hlim
def Tryz.laysM279_ren : Go.Shelf.Ren := ⟨fun | 279 => 122 | 316 => 138 | n => n, fun | 9 => 9 | 168 => 182 | 75 => 119 | 210 => 198 | 3 => 3 | 4 => 4 | 37 => 24 | 0 => 0 | 127 => 151 | 80 => 122 | 5 => 5 | n => n, fun | 15 => 4 | n => n⟩
theorem Tryz.laysM279 : Go.Proofs.LaysM.n279 Tryz.prog Tryz.laysM279_ren := {
  mixed := by kernel_rfl
  f279 := Tryz.func122.trans (congrArg some (by kernel_rfl))
  f316 := Tryz.func138.trans (congrArg some (by kernel_rfl))
  t0 := Tryz.underlying0
  a0 := Tryz.isAgg0
  z0 := Tryz.sizeOf0
  v0 := Tryz.zeroValue0
  t3 := Tryz.underlying3
  a3 := Tryz.isAgg3
  z3 := Tryz.sizeOf3
  v3 := Tryz.zeroValue3
  t4 := Tryz.underlying4
  a4 := Tryz.isAgg4
  z4 := Tryz.sizeOf4
  v4 := Tryz.zeroValue4
  t9 := Tryz.underlying9
  a9 := Tryz.isAgg9
  z9 := Tryz.sizeOf9
  v9 := Tryz.zeroValue9
  t37 := Tryz.underlying24
  a37 := Tryz.isAgg24
  z37 := Tryz.sizeOf24
  v37 := Tryz.zeroValue24
  t75 := Tryz.underlying119
  a75 := Tryz.isAgg119
  z75 := Tryz.sizeOf119
  v75 := Tryz.zeroValue119
  t127 := Tryz.underlying151
  a127 := Tryz.isAgg151
  z127 := Tryz.sizeOf151
  v127 := Tryz.zeroValue151
  t168 := Tryz.underlying182
  a168 := Tryz.isAgg182
  z168 := Tryz.sizeOf182
  v168 := Tryz.zeroValue182
  t210 := Tryz.underlying198
  a210 := Tryz.isAgg198
  z210 := Tryz.sizeOf198
  v210 := Tryz.zeroValue198
  g15 := by kernel_rfl
  t5 := Tryz.underlying5
  a5 := Tryz.isAgg5
  z5 := Tryz.sizeOf5
  v5 := Tryz.zeroValue5
  t80 := Tryz.underlying122
  a80 := Tryz.isAgg122
  z80 := Tryz.sizeOf122
  v80 := Tryz.zeroValue122
  i0 := by kernel_rfl
  i3 := by kernel_rfl
  i4 := by kernel_rfl
  i5 := by kernel_rfl
  i9 := by kernel_rfl
  i37 := by kernel_rfl
  i75 := by kernel_rfl
  i80 := by kernel_rfl
  i127 := by kernel_rfl
  i168 := by kernel_rfl
  i210 := by kernel_rfl
  m15 := by kernel_rfl }
open Go.RowKit in
/-- strconv.syntaxError: '&NumError{fn, stringslite.Clone(str), ErrSyntax}': A POINTER TO A NEW BLOCK that holds fn, str's bytes, and what the variable ErrSyntax holds. Of what was there nothing has turned. (LAID: no walk: one application.) -/
theorem Tryz.strconv_syntaxError (fn s : ByteArray) (ev : Value) (w : World) (hlim : s.size ≤ 281474976710656) (hv : w.cell? ⟨4, 0, none⟩ = some ev) (hev : ev = .nilIface ∨ ∃ te pe, ev = .iface te pe) :
    Calls Tryz.prog 122 #[.string fn, .string s] w fun e w' => ∃ N, e = .returned (.pointer (some ⟨N, 0, none⟩)) ∧ w.heap.size ≤ N ∧ w'.heap[N]? = some (.cells #[.string fn, .string s, ev] 198 (0, 0)) ∧ Below w.heap.size w w' := Any.strconv_syntaxError Tryz.laysM279 fn s ev w hlim hv hev
def Tryz.lays321_ren : Go.Shelf.Ren := ⟨fun | 321 => 136 | n => n, fun | 5 => 5 | n => n, fun | n => n⟩
theorem Tryz.lays321 : Go.Proofs.Lays.n321 Tryz.prog Tryz.lays321_ren := {
  mixed := by kernel_rfl
  f321 := Tryz.func136.trans (congrArg some (by kernel_rfl))
  t5 := Tryz.underlying5
  a5 := Tryz.isAgg5
  z5 := Tryz.sizeOf5
  v5 := Tryz.zeroValue5 }
open Go.RowKit in
/-- internal/strconv.lower: 'c | ('x' - 'X')': the bit 32 set. The world is as it was. (LAID: no walk: one application.) -/
theorem Tryz.internal_strconv_lower (c : Int) (w : World) :
    Calls Tryz.prog 136 #[.int .u8 c] w fun e w' => e = .returned (.int .u8 (bits .or .u8 c 32)) ∧ w' = w := Any.internal_strconv_lower Tryz.lays321 c w
def Tryz.lays287_ren : Go.Shelf.Ren := ⟨fun | 287 => 121 | 321 => 136 | 322 => 137 | n => n, fun | 9 => 9 | 3 => 3 | 53 => 70 | 75 => 119 | 4 => 4 | 167 => 179 | 5 => 5 | 46 => 138 | 37 => 24 | 0 => 0 | 21 => 21 | 80 => 122 | n => n, fun | n => n⟩
theorem Tryz.lays287 : Go.Proofs.Lays.n287 Tryz.prog Tryz.lays287_ren := {
  mixed := by kernel_rfl
  f287 := Tryz.func121.trans (congrArg some (by kernel_rfl))
  f321 := Tryz.func136.trans (congrArg some (by kernel_rfl))
  f322 := Tryz.func137.trans (congrArg some (by kernel_rfl))
  t0 := Tryz.underlying0
  a0 := Tryz.isAgg0
  z0 := Tryz.sizeOf0
  v0 := Tryz.zeroValue0
  t3 := Tryz.underlying3
  a3 := Tryz.isAgg3
  z3 := Tryz.sizeOf3
  v3 := Tryz.zeroValue3
  t4 := Tryz.underlying4
  a4 := Tryz.isAgg4
  z4 := Tryz.sizeOf4
  v4 := Tryz.zeroValue4
  t5 := Tryz.underlying5
  a5 := Tryz.isAgg5
  z5 := Tryz.sizeOf5
  v5 := Tryz.zeroValue5
  t9 := Tryz.underlying9
  a9 := Tryz.isAgg9
  z9 := Tryz.sizeOf9
  v9 := Tryz.zeroValue9
  t21 := Tryz.underlying21
  a21 := Tryz.isAgg21
  z21 := Tryz.sizeOf21
  v21 := Tryz.zeroValue21
  t37 := Tryz.underlying24
  a37 := Tryz.isAgg24
  z37 := Tryz.sizeOf24
  v37 := Tryz.zeroValue24
  t46 := Tryz.underlying138
  a46 := Tryz.isAgg138
  z46 := Tryz.sizeOf138
  v46 := Tryz.zeroValue138
  t53 := Tryz.underlying70
  a53 := Tryz.isAgg70
  z53 := Tryz.sizeOf70
  v53 := Tryz.zeroValue70
  t75 := Tryz.underlying119
  a75 := Tryz.isAgg119
  z75 := Tryz.sizeOf119
  v75 := Tryz.zeroValue119
  t167 := Tryz.underlying179
  a167 := Tryz.isAgg179
  z167 := Tryz.sizeOf179
  v167 := Tryz.zeroValue179 }
open Go.RowKit in
/-- internal/strconv.ParseUint(s, 10, 0), s NOT EMPTY: 'Lib.parseUint10 0' OF ITS BYTES: the number; or (0, ErrSyntax); or (the greatest uint64, ErrRange). The world behind the call: the one new row that '[]byte(s)' lays. (LAID: no walk: one application.) -/
theorem Tryz.internal_strconv_ParseUint_10 (t : ByteArray) (hne : t.size ≠ 0) (hmax : t.size ≤ 9223372036854775806) (w : World) :
    Calls Tryz.prog 121 #[.string t, .int .i64 10, .int .i64 0] w fun e w' => e = .returned (Lib.uintTuple 179 (Lib.parseUint10 0 t.data.toList)) ∧ w' = Lib.bytesWorld w 5 t := Any.internal_strconv_ParseUint_10 Tryz.lays287 t hne hmax w
open Go.RowKit in
/-- internal/strconv.ParseUint("", 10, 0): (0, ErrSyntax). The world is as it was. (LAID: no walk: one application.) -/
theorem Tryz.internal_strconv_ParseUint_10_empty (w : World) :
    Calls Tryz.prog 121 #[.string ⟨#[]⟩, .int .i64 10, .int .i64 0] w fun e w' => e = .returned (Lib.uintTuple 179 .syntax) ∧ w' = w := Any.internal_strconv_ParseUint_10_empty Tryz.lays287 w
def Tryz.laysM280_ren : Go.Shelf.Ren := ⟨fun | 280 => 123 | 316 => 138 | n => n, fun | 9 => 9 | 168 => 182 | 75 => 119 | 210 => 198 | 3 => 3 | 4 => 4 | 37 => 24 | 0 => 0 | 127 => 151 | 80 => 122 | 5 => 5 | n => n, fun | 16 => 5 | n => n⟩
theorem Tryz.laysM280 : Go.Proofs.LaysM.n280 Tryz.prog Tryz.laysM280_ren := {
  mixed := by kernel_rfl
  f280 := Tryz.func123.trans (congrArg some (by kernel_rfl))
  f316 := Tryz.func138.trans (congrArg some (by kernel_rfl))
  t0 := Tryz.underlying0
  a0 := Tryz.isAgg0
  z0 := Tryz.sizeOf0
  v0 := Tryz.zeroValue0
  t3 := Tryz.underlying3
  a3 := Tryz.isAgg3
  z3 := Tryz.sizeOf3
  v3 := Tryz.zeroValue3
  t4 := Tryz.underlying4
  a4 := Tryz.isAgg4
  z4 := Tryz.sizeOf4
  v4 := Tryz.zeroValue4
  t9 := Tryz.underlying9
  a9 := Tryz.isAgg9
  z9 := Tryz.sizeOf9
  v9 := Tryz.zeroValue9
  t37 := Tryz.underlying24
  a37 := Tryz.isAgg24
  z37 := Tryz.sizeOf24
  v37 := Tryz.zeroValue24
  t75 := Tryz.underlying119
  a75 := Tryz.isAgg119
  z75 := Tryz.sizeOf119
  v75 := Tryz.zeroValue119
  t127 := Tryz.underlying151
  a127 := Tryz.isAgg151
  z127 := Tryz.sizeOf151
  v127 := Tryz.zeroValue151
  t168 := Tryz.underlying182
  a168 := Tryz.isAgg182
  z168 := Tryz.sizeOf182
  v168 := Tryz.zeroValue182
  t210 := Tryz.underlying198
  a210 := Tryz.isAgg198
  z210 := Tryz.sizeOf198
  v210 := Tryz.zeroValue198
  g16 := by kernel_rfl
  t5 := Tryz.underlying5
  a5 := Tryz.isAgg5
  z5 := Tryz.sizeOf5
  v5 := Tryz.zeroValue5
  t80 := Tryz.underlying122
  a80 := Tryz.isAgg122
  z80 := Tryz.sizeOf122
  v80 := Tryz.zeroValue122
  i0 := by kernel_rfl
  i3 := by kernel_rfl
  i4 := by kernel_rfl
  i5 := by kernel_rfl
  i9 := by kernel_rfl
  i37 := by kernel_rfl
  i75 := by kernel_rfl
  i80 := by kernel_rfl
  i127 := by kernel_rfl
  i168 := by kernel_rfl
  i210 := by kernel_rfl
  m16 := by kernel_rfl }
open Go.RowKit in
/-- strconv.rangeError: '&NumError{fn, stringslite.Clone(str), ErrRange}': A POINTER TO A NEW BLOCK that holds fn, str's bytes, and what the variable ErrRange holds. Of what was there nothing has turned. (LAID: no walk: one application.) -/
theorem Tryz.strconv_rangeError (fn s : ByteArray) (ev : Value) (w : World) (hlim : s.size ≤ 281474976710656) (hv : w.cell? ⟨5, 0, none⟩ = some ev) (hev : ev = .nilIface ∨ ∃ te pe, ev = .iface te pe) :
    Calls Tryz.prog 123 #[.string fn, .string s] w fun e w' => ∃ N, e = .returned (.pointer (some ⟨N, 0, none⟩)) ∧ w.heap.size ≤ N ∧ w'.heap[N]? = some (.cells #[.string fn, .string s, ev] 198 (0, 0)) ∧ Below w.heap.size w w' := Any.strconv_rangeError Tryz.laysM280 fn s ev w hlim hv hev
open Go.RowKit in
/-- internal/strconv.ParseUint("", base, bitSize): (0, ErrSyntax): the first test of the text. The world is as it was. (LAID: no walk: one application.) -/
theorem Tryz.internal_strconv_ParseUint_empty (base bits : Int) (w : World) :
    Calls Tryz.prog 121 #[.string ⟨#[]⟩, .int .i64 base, .int .i64 bits] w fun e w' => e = .returned (.tuple #[.int .u64 0, .iface 179 (.int .i64 2)]) ∧ w' = w := Any.internal_strconv_ParseUint_empty Tryz.lays287 base bits w
open Go.RowKit in
/-- internal/strconv.ParseUint(s, 10, 64), s NOT EMPTY: 'Lib.parseUint10 0' OF ITS BYTES: the number; or (0, ErrSyntax); or (the greatest uint64, ErrRange). The world behind the call: the one new row that '[]byte(s)' lays. (LAID: no walk: one application.) -/
theorem Tryz.internal_strconv_ParseUint_10_b64 (t : ByteArray) (hne : t.size ≠ 0) (hmax : t.size ≤ 9223372036854775806) (w : World) :
    Calls Tryz.prog 121 #[.string t, .int .i64 10, .int .i64 64] w fun e w' => e = .returned (Lib.uintTuple 179 (Lib.parseUint10 0 t.data.toList)) ∧ w' = Lib.bytesWorld w 5 t := Any.internal_strconv_ParseUint_10_b64 Tryz.lays287 t hne hmax w
open Go.RowKit in
/-- internal/strconv.ParseUint(s, 10, 32), s NOT EMPTY: 'Lib.parseUintM 4294967295 0' OF ITS BYTES: the number; or (0, ErrSyntax); or (the greatest uint32, ErrRange). The world behind the call: the one new row that '[]byte(s)' lays. (LAID: no walk: one application.) -/
theorem Tryz.internal_strconv_ParseUint_10_b32 (t : ByteArray) (hne : t.size ≠ 0) (hmax : t.size ≤ 9223372036854775806) (w : World) :
    Calls Tryz.prog 121 #[.string t, .int .i64 10, .int .i64 32] w fun e w' => e = .returned (Lib.uintTupleM 179 4294967295 (Lib.parseUintM 4294967295 0 t.data.toList)) ∧ w' = Lib.bytesWorld w 5 t := Any.internal_strconv_ParseUint_10_b32 Tryz.lays287 t hne hmax w
open Go.RowKit in
/-- internal/strconv.ParseUint(s, 10, 16), s NOT EMPTY: 'Lib.parseUintM 65535 0' OF ITS BYTES: the number; or (0, ErrSyntax); or (the greatest uint16, ErrRange). The world behind the call: the one new row that '[]byte(s)' lays. (LAID: no walk: one application.) -/
theorem Tryz.internal_strconv_ParseUint_10_b16 (t : ByteArray) (hne : t.size ≠ 0) (hmax : t.size ≤ 9223372036854775806) (w : World) :
    Calls Tryz.prog 121 #[.string t, .int .i64 10, .int .i64 16] w fun e w' => e = .returned (Lib.uintTupleM 179 65535 (Lib.parseUintM 65535 0 t.data.toList)) ∧ w' = Lib.bytesWorld w 5 t := Any.internal_strconv_ParseUint_10_b16 Tryz.lays287 t hne hmax w
open Go.RowKit in
/-- internal/strconv.ParseUint(s, 10, 8), s NOT EMPTY: 'Lib.parseUintM 255 0' OF ITS BYTES: the number; or (0, ErrSyntax); or (the greatest uint8, ErrRange). The world behind the call: the one new row that '[]byte(s)' lays. (LAID: no walk: one application.) -/
theorem Tryz.internal_strconv_ParseUint_10_b8 (t : ByteArray) (hne : t.size ≠ 0) (hmax : t.size ≤ 9223372036854775806) (w : World) :
    Calls Tryz.prog 121 #[.string t, .int .i64 10, .int .i64 8] w fun e w' => e = .returned (Lib.uintTupleM 179 255 (Lib.parseUintM 255 0 t.data.toList)) ∧ w' = Lib.bytesWorld w 5 t := Any.internal_strconv_ParseUint_10_b8 Tryz.lays287 t hne hmax w
def Tryz.lays217_ren : Go.Shelf.Ren := ⟨fun | 217 => 132 | 266 => 142 | n => n, fun | 9 => 9 | 5 => 5 | 3 => 3 | n => n, fun | n => n⟩
theorem Tryz.lays217 : Go.Proofs.Lays.n217 Tryz.prog Tryz.lays217_ren := {
  mixed := by kernel_rfl
  f217 := Tryz.func132.trans (congrArg some (by kernel_rfl))
  f266 := Tryz.func142.trans (congrArg some (by kernel_rfl))
  t3 := Tryz.underlying3
  a3 := Tryz.isAgg3
  z3 := Tryz.sizeOf3
  v3 := Tryz.zeroValue3
  t5 := Tryz.underlying5
  a5 := Tryz.isAgg5
  z5 := Tryz.sizeOf5
  v5 := Tryz.zeroValue5
  t9 := Tryz.underlying9
  a9 := Tryz.isAgg9
  z9 := Tryz.sizeOf9
  v9 := Tryz.zeroValue9 }
open Go.RowKit Go.Lib in
/-- internal/stringslite.IndexByte (what strings.IndexByte calls): IT RETURNS 'Lib.indexByte s c'; the world is as it was. (LAID: no walk: one application.) -/
theorem Tryz.stringslite_IndexByte (s : ByteArray) (c : Int) (w : World) :
    Calls Tryz.prog 132 #[.string s, .int .u8 c] w fun e w' => e = .returned (.int .i64 (Lib.indexByte s.data.toList c.toNat.toUInt8)) ∧ w' = w := Any.stringslite_IndexByte Tryz.lays217 s c w
def Tryz.lays224_ren : Go.Shelf.Ren := ⟨fun | 224 => 134 | n => n, fun | 3 => 3 | n => n, fun | n => n⟩
theorem Tryz.lays224 : Go.Proofs.Lays.n224 Tryz.prog Tryz.lays224_ren := {
  mixed := by kernel_rfl
  f224 := Tryz.func134.trans (congrArg some (by kernel_rfl))
  t3 := Tryz.underlying3
  a3 := Tryz.isAgg3
  z3 := Tryz.sizeOf3
  v3 := Tryz.zeroValue3 }
open Go.RowKit Go.Lib in
/-- internal/bytealg.Cutover: "Cutover reports the number of failures of IndexByte we should tolerate before switching over to Index. n is the number of bytes processed so far.": on amd64: (n + 16) / 8. (LAID: no walk: one application.) -/
theorem Tryz.bytealg_Cutover (n : Int) (h0 : 0 ≤ n) (h1 : n < 4611686018427387904) (w : World) :
    Calls Tryz.prog 134 #[.int .i64 n] w fun e w' => e = .returned (.int .i64 ((n + 16) / 8)) ∧ w' = w := Any.bytealg_Cutover Tryz.lays224 n h0 h1 w
def Tryz.lays206_ren : Go.Shelf.Ren := ⟨fun | 206 => 112 | n => n, fun | 9 => 9 | 4 => 4 | 3 => 3 | n => n, fun | n => n⟩
theorem Tryz.lays206 : Go.Proofs.Lays.n206 Tryz.prog Tryz.lays206_ren := {
  mixed := by kernel_rfl
  f206 := Tryz.func112.trans (congrArg some (by kernel_rfl))
  t3 := Tryz.underlying3
  a3 := Tryz.isAgg3
  z3 := Tryz.sizeOf3
  v3 := Tryz.zeroValue3
  t4 := Tryz.underlying4
  a4 := Tryz.isAgg4
  z4 := Tryz.sizeOf4
  v4 := Tryz.zeroValue4
  t9 := Tryz.underlying9
  a9 := Tryz.isAgg9
  z9 := Tryz.sizeOf9
  v9 := Tryz.zeroValue9 }
open Go.RowKit Go.Lib in
/-- internal/stringslite.HasPrefix (what strings.HasPrefix calls). (LAID: no walk: one application.) -/
theorem Tryz.stringslite_HasPrefix (s p : ByteArray) (w : World) :
    Calls Tryz.prog 112 #[.string s, .string p] w fun e w' => e = .returned (.bool (Lib.hasPrefix s.data.toList p.data.toList)) ∧ w' = w := Any.stringslite_HasPrefix Tryz.lays206 s p w
def Tryz.lays99_ren : Go.Shelf.Ren := ⟨fun | 99 => 84 | 206 => 112 | n => n, fun | 9 => 9 | 4 => 4 | 3 => 3 | n => n, fun | n => n⟩
theorem Tryz.lays99 : Go.Proofs.Lays.n99 Tryz.prog Tryz.lays99_ren := {
  mixed := by kernel_rfl
  f99 := Tryz.func84.trans (congrArg some (by kernel_rfl))
  f206 := Tryz.func112.trans (congrArg some (by kernel_rfl))
  t3 := Tryz.underlying3
  a3 := Tryz.isAgg3
  z3 := Tryz.sizeOf3
  v3 := Tryz.zeroValue3
  t4 := Tryz.underlying4
  a4 := Tryz.isAgg4
  z4 := Tryz.sizeOf4
  v4 := Tryz.zeroValue4
  t9 := Tryz.underlying9
  a9 := Tryz.isAgg9
  z9 := Tryz.sizeOf9
  v9 := Tryz.zeroValue9 }
open Go.RowKit Go.Lib in
/-- strings.HasPrefix: "HasPrefix reports whether the string s begins with prefix.": IT RETURNS 'Lib.hasPrefix s prefix'; the world is as it was. (LAID: no walk: one application.) -/
theorem Tryz.strings_HasPrefix (s p : ByteArray) (w : World) :
    Calls Tryz.prog 84 #[.string s, .string p] w fun e w' => e = .returned (.bool (Lib.hasPrefix s.data.toList p.data.toList)) ∧ w' = w := Any.strings_HasPrefix Tryz.lays99 s p w
def Tryz.lays197_ren : Go.Shelf.Ren := ⟨fun | 197 => 99 | 260 => 118 | n => n, fun | 9 => 9 | 21 => 21 | 3 => 3 | 4 => 4 | 5 => 5 | 105 => 154 | 119 => 190 | 0 => 0 | 46 => 138 | 139 => 193 | 138 => 192 | n => n, fun | 3 => 2 | 4 => 3 | n => n⟩
theorem Tryz.lays197 : Go.Proofs.Lays.n197 Tryz.prog Tryz.lays197_ren := {
  mixed := by kernel_rfl
  f197 := Tryz.func99.trans (congrArg some (by kernel_rfl))
  f260 := Tryz.func118.trans (congrArg some (by kernel_rfl))
  t0 := Tryz.underlying0
  a0 := Tryz.isAgg0
  z0 := Tryz.sizeOf0
  v0 := Tryz.zeroValue0
  t3 := Tryz.underlying3
  a3 := Tryz.isAgg3
  z3 := Tryz.sizeOf3
  v3 := Tryz.zeroValue3
  t4 := Tryz.underlying4
  a4 := Tryz.isAgg4
  z4 := Tryz.sizeOf4
  v4 := Tryz.zeroValue4
  t5 := Tryz.underlying5
  a5 := Tryz.isAgg5
  z5 := Tryz.sizeOf5
  v5 := Tryz.zeroValue5
  t9 := Tryz.underlying9
  a9 := Tryz.isAgg9
  z9 := Tryz.sizeOf9
  v9 := Tryz.zeroValue9
  t21 := Tryz.underlying21
  a21 := Tryz.isAgg21
  z21 := Tryz.sizeOf21
  v21 := Tryz.zeroValue21
  t46 := Tryz.underlying138
  a46 := Tryz.isAgg138
  z46 := Tryz.sizeOf138
  v46 := Tryz.zeroValue138
  t105 := Tryz.underlying154
  a105 := Tryz.isAgg154
  z105 := Tryz.sizeOf154
  v105 := Tryz.zeroValue154
  t119 := Tryz.underlying190
  a119 := Tryz.isAgg190
  z119 := Tryz.sizeOf190
  t138 := Tryz.underlying192
  a138 := Tryz.isAgg192
  z138 := Tryz.sizeOf192
  v138 := Tryz.zeroValue192
  t139 := Tryz.underlying193
  a139 := Tryz.isAgg193
  z139 := Tryz.sizeOf193
  v139 := Tryz.zeroValue193
  g3 := by kernel_rfl
  g4 := by kernel_rfl }
open Go.RowKit Go.Lib in
/-- unicode/utf8.DecodeRuneInString: "DecodeRuneInString is like DecodeRune but its input is a string.": ("DecodeRune unpacks the first UTF-8 encoding in p and returns the rune and its width in bytes."): WHERE s BEGINS WITH AN ASCII BYTE x: (x, 1). (LAID: no walk: one application.) -/
theorem Tryz.utf8_DecodeRuneInString_ascii (s : ByteArray) (x : UInt8) (w : World) (h0 : s.data.toList[0]? = some x) (hx : x.toNat < 128) :
    Calls Tryz.prog 99 #[.string s] w fun e w' => e = .returned (.tuple #[.int .i32 x.toNat, .int .i64 1]) ∧ w' = w := Any.utf8_DecodeRuneInString_ascii Tryz.lays197 s x w h0 hx
def Tryz.lays152_ren : Go.Shelf.Ren := ⟨fun | 152 => 119 | 137 => 116 | 119 => 133 | 224 => 134 | 225 => 135 | 217 => 132 | 266 => 142 | n => n, fun | 9 => 9 | 21 => 21 | 3 => 3 | 4 => 4 | 5 => 5 | 0 => 0 | 46 => 138 | n => n, fun | n => n⟩
theorem Tryz.lays152 : Go.Proofs.Lays.n152 Tryz.prog Tryz.lays152_ren := {
  mixed := by kernel_rfl
  f119 := Tryz.func133.trans (congrArg some (by kernel_rfl))
  f137 := Tryz.func116.trans (congrArg some (by kernel_rfl))
  f152 := Tryz.func119.trans (congrArg some (by kernel_rfl))
  f217 := Tryz.func132.trans (congrArg some (by kernel_rfl))
  f224 := Tryz.func134.trans (congrArg some (by kernel_rfl))
  f225 := Tryz.func135.trans (congrArg some (by kernel_rfl))
  f266 := Tryz.func142.trans (congrArg some (by kernel_rfl))
  t0 := Tryz.underlying0
  a0 := Tryz.isAgg0
  z0 := Tryz.sizeOf0
  v0 := Tryz.zeroValue0
  t3 := Tryz.underlying3
  a3 := Tryz.isAgg3
  z3 := Tryz.sizeOf3
  v3 := Tryz.zeroValue3
  t4 := Tryz.underlying4
  a4 := Tryz.isAgg4
  z4 := Tryz.sizeOf4
  v4 := Tryz.zeroValue4
  t5 := Tryz.underlying5
  a5 := Tryz.isAgg5
  z5 := Tryz.sizeOf5
  v5 := Tryz.zeroValue5
  t9 := Tryz.underlying9
  a9 := Tryz.isAgg9
  z9 := Tryz.sizeOf9
  v9 := Tryz.zeroValue9
  t21 := Tryz.underlying21
  a21 := Tryz.isAgg21
  z21 := Tryz.sizeOf21
  v21 := Tryz.zeroValue21
  t46 := Tryz.underlying138
  a46 := Tryz.isAgg138
  z46 := Tryz.sizeOf138
  v46 := Tryz.zeroValue138 }
open Go.RowKit Go.Lib in
theorem Tryz.strings_IndexRune_ascii (s : ByteArray) (r : Int) (w : World) (h0 : 0 ≤ r) (h1 : r < 128) :
    Calls Tryz.prog 119 #[.string s, .int .i32 r] w fun e w' => e = .returned (.int .i64 (Lib.indexByte s.data.toList r.toNat.toUInt8)) ∧ w' = w := Any.strings_IndexRune_ascii Tryz.lays152 s r w h0 h1
def Tryz.lays151_ren : Go.Shelf.Ren := ⟨fun | 151 => 100 | 152 => 119 | 137 => 116 | 119 => 133 | 224 => 134 | 225 => 135 | 217 => 132 | 266 => 142 | n => n, fun | 9 => 9 | 21 => 21 | 4 => 4 | 3 => 3 | 5 => 5 | 0 => 0 | 46 => 138 | n => n, fun | n => n⟩
theorem Tryz.lays151 : Go.Proofs.Lays.n151 Tryz.prog Tryz.lays151_ren := {
  mixed := by kernel_rfl
  f119 := Tryz.func133.trans (congrArg some (by kernel_rfl))
  f137 := Tryz.func116.trans (congrArg some (by kernel_rfl))
  f151 := Tryz.func100.trans (congrArg some (by kernel_rfl))
  f152 := Tryz.func119.trans (congrArg some (by kernel_rfl))
  f217 := Tryz.func132.trans (congrArg some (by kernel_rfl))
  f224 := Tryz.func134.trans (congrArg some (by kernel_rfl))
  f225 := Tryz.func135.trans (congrArg some (by kernel_rfl))
  f266 := Tryz.func142.trans (congrArg some (by kernel_rfl))
  t0 := Tryz.underlying0
  a0 := Tryz.isAgg0
  z0 := Tryz.sizeOf0
  v0 := Tryz.zeroValue0
  t3 := Tryz.underlying3
  a3 := Tryz.isAgg3
  z3 := Tryz.sizeOf3
  v3 := Tryz.zeroValue3
  t4 := Tryz.underlying4
  a4 := Tryz.isAgg4
  z4 := Tryz.sizeOf4
  v4 := Tryz.zeroValue4
  t5 := Tryz.underlying5
  a5 := Tryz.isAgg5
  z5 := Tryz.sizeOf5
  v5 := Tryz.zeroValue5
  t9 := Tryz.underlying9
  a9 := Tryz.isAgg9
  z9 := Tryz.sizeOf9
  v9 := Tryz.zeroValue9
  t21 := Tryz.underlying21
  a21 := Tryz.isAgg21
  z21 := Tryz.sizeOf21
  v21 := Tryz.zeroValue21
  t46 := Tryz.underlying138
  a46 := Tryz.isAgg138
  z46 := Tryz.sizeOf138
  v46 := Tryz.zeroValue138 }
open Go.RowKit Go.Lib in
theorem Tryz.strings_ContainsRune_ascii (s : ByteArray) (r : Int) (w : World) (h0 : 0 ≤ r) (h1 : r < 128) :
    Calls Tryz.prog 100 #[.string s, .int .i32 r] w fun e w' => e = .returned (.bool (decide (0 ≤ Lib.indexByte s.data.toList r.toNat.toUInt8))) ∧ w' = w := Any.strings_ContainsRune_ascii Tryz.lays151 s r w h0 h1
def Tryz.lays227_ren : Go.Shelf.Ren := ⟨fun | 227 => 71 | n => n, fun | 9 => 9 | 116 => 128 | 4 => 4 | 0 => 0 | 3 => 3 | 5 => 5 | n => n, fun | n => n⟩
theorem Tryz.lays227 : Go.Proofs.Lays.n227 Tryz.prog Tryz.lays227_ren := {
  mixed := by kernel_rfl
  f227 := Tryz.func71.trans (congrArg some (by kernel_rfl))
  t0 := Tryz.underlying0
  a0 := Tryz.isAgg0
  z0 := Tryz.sizeOf0
  v0 := Tryz.zeroValue0
  t3 := Tryz.underlying3
  a3 := Tryz.isAgg3
  z3 := Tryz.sizeOf3
  v3 := Tryz.zeroValue3
  t4 := Tryz.underlying4
  a4 := Tryz.isAgg4
  z4 := Tryz.sizeOf4
  v4 := Tryz.zeroValue4
  t5 := Tryz.underlying5
  a5 := Tryz.isAgg5
  z5 := Tryz.sizeOf5
  v5 := Tryz.zeroValue5
  t9 := Tryz.underlying9
  a9 := Tryz.isAgg9
  z9 := Tryz.sizeOf9
  v9 := Tryz.zeroValue9
  t116 := Tryz.underlying128
  a116 := Tryz.isAgg128
  z116 := Tryz.sizeOf128 }
open Go.RowKit Go.Lib in
theorem Tryz.strings_makeASCIISet (hv116 : ∀ w, (zeroValue 128).run Tryz.prog w = .ok (.agg (Array.replicate 256 (.bool false))) w) (chars : ByteArray) (w : World) (hs : chars.size < 4294967281) (hascii : ∀ (j : Nat) b, chars.data.toList[j]? = some b → b.toNat < 128) :
    Calls Tryz.prog 71 #[.string chars] w fun e w' => e = .returned (.tuple #[.agg (Lib.setCells chars.data.toList), .bool true]) ∧ w' = w.alloc (.cells (Lib.setCells chars.data.toList) 128) := Any.strings_makeASCIISet Tryz.lays227 hv116 (by kernel_rfl) chars w hs hascii
def Tryz.lays228_ren : Go.Shelf.Ren := ⟨fun | 228 => 98 | n => n, fun | 124 => 132 | 5 => 5 | 4 => 4 | 0 => 0 | 116 => 128 | n => n, fun | n => n⟩
theorem Tryz.lays228 : Go.Proofs.Lays.n228 Tryz.prog Tryz.lays228_ren := {
  mixed := by kernel_rfl
  f228 := Tryz.func98.trans (congrArg some (by kernel_rfl))
  t0 := Tryz.underlying0
  a0 := Tryz.isAgg0
  z0 := Tryz.sizeOf0
  v0 := Tryz.zeroValue0
  t4 := Tryz.underlying4
  a4 := Tryz.isAgg4
  z4 := Tryz.sizeOf4
  v4 := Tryz.zeroValue4
  t5 := Tryz.underlying5
  a5 := Tryz.isAgg5
  z5 := Tryz.sizeOf5
  v5 := Tryz.zeroValue5
  t116 := Tryz.underlying128
  a116 := Tryz.isAgg128
  z116 := Tryz.sizeOf128
  t124 := Tryz.underlying132
  a124 := Tryz.isAgg132
  z124 := Tryz.sizeOf132
  v124 := Tryz.zeroValue132 }
open Go.RowKit Go.Lib in
/-- '(as *asciiSet) contains(c)': 'as[c]': the set lies at block b, whole. (LAID: no walk: one application.) -/
theorem Tryz.asciiSet_contains (b : Nat) (x : UInt8) (v : Bool) (w : World) (hc : w.cell? ⟨b, x.toNat, none⟩ = some (.bool v)) :
    Calls Tryz.prog 98 #[.pointer (some ⟨b, 0, none⟩), .int .u8 x.toNat] w fun e w' => e = .returned (.bool v) ∧ w' = w := Any.asciiSet_contains Tryz.lays228 b x v w hc
def Tryz.lays264_ren : Go.Shelf.Ren := ⟨fun | 264 => 111 | n => n, fun | 53 => 70 | 46 => 138 | n => n, fun | n => n⟩
theorem Tryz.lays264 : Go.Proofs.Lays.n264 Tryz.prog Tryz.lays264_ren := {
  mixed := by kernel_rfl
  f264 := Tryz.func111.trans (congrArg some (by kernel_rfl))
  t46 := Tryz.underlying138
  a46 := Tryz.isAgg138
  z46 := Tryz.sizeOf138
  v46 := Tryz.zeroValue138
  t53 := Tryz.underlying70
  a53 := Tryz.isAgg70
  z53 := Tryz.sizeOf70
  v53 := Tryz.zeroValue70 }
open Go.RowKit Go.Lib in
theorem Tryz.bits_Mul64 (x y : Nat) (hx : x < 18446744073709551616) (hy : y < 18446744073709551616) (w : World) :
    Calls Tryz.prog 111 #[.int .u64 x, .int .u64 y] w fun e w' => e = .returned (.tuple #[.int .u64 ((x * y / 18446744073709551616 : Nat) : Int), .int .u64 ((x * y % 18446744073709551616 : Nat) : Int)]) ∧ w' = w := Any.bits_Mul64 Tryz.lays264 x y hx hy w
def Tryz.lays212_ren : Go.Shelf.Ren := ⟨fun | 212 => 83 | 263 => 110 | 264 => 111 | n => n, fun | 46 => 138 | 51 => 164 | 146 => 165 | 53 => 70 | 148 => 167 | n => n, fun | n => n⟩
theorem Tryz.lays212 : Go.Proofs.Lays.n212 Tryz.prog Tryz.lays212_ren := {
  mixed := by kernel_rfl
  f212 := Tryz.func83.trans (congrArg some (by kernel_rfl))
  f263 := Tryz.func110.trans (congrArg some (by kernel_rfl))
  f264 := Tryz.func111.trans (congrArg some (by kernel_rfl))
  t46 := Tryz.underlying138
  a46 := Tryz.isAgg138
  z46 := Tryz.sizeOf138
  v46 := Tryz.zeroValue138
  t51 := Tryz.underlying164
  a51 := Tryz.isAgg164
  z51 := Tryz.sizeOf164
  v51 := Tryz.zeroValue164
  t53 := Tryz.underlying70
  a53 := Tryz.isAgg70
  z53 := Tryz.sizeOf70
  v53 := Tryz.zeroValue70
  t146 := Tryz.underlying165
  a146 := Tryz.isAgg165
  z146 := Tryz.sizeOf165
  v146 := Tryz.zeroValue165
  t148 := Tryz.underlying167
  a148 := Tryz.isAgg167
  z148 := Tryz.sizeOf167
  v148 := Tryz.zeroValue167 }
open Go.RowKit Go.Lib in
/-- math/bits.Mul: "Mul returns the full-width product of x and y": on a machine of 64 bits: Mul64's. (LAID: no walk: one application.) -/
theorem Tryz.bits_Mul (x y : Nat) (hx : x < 18446744073709551616) (hy : y < 18446744073709551616) (w : World) :
    Calls Tryz.prog 83 #[.int .u64 x, .int .u64 y] w fun e w' => e = .returned (.tuple #[.int .u64 ((x * y / 18446744073709551616 : Nat) : Int), .int .u64 ((x * y % 18446744073709551616 : Nat) : Int)]) ∧ w' = w := Any.bits_Mul Tryz.lays212 x y hx hy w
def Tryz.lays105_ren : Go.Shelf.Ren := ⟨fun | 105 => 56 | 212 => 83 | 99 => 84 | 165 => 85 | 166 => 64 | 170 => 86 | 169 => 66 | 263 => 110 | 264 => 111 | 206 => 112 | 240 => 93 | 241 => 113 | 276 => 117 | 277 => 131 | n => n, fun | 9 => 9 | 3 => 3 | 4 => 4 | 20 => 20 | 0 => 0 | 46 => 138 | 109 => 139 | 5 => 5 | 72 => 117 | 76 => 120 | 51 => 164 | 146 => 165 | 53 => 70 | 148 => 167 | 70 => 115 | 37 => 24 | 75 => 119 | 127 => 151 | 164 => 172 | 80 => 122 | n => n, fun | n => n⟩
theorem Tryz.lays105 : Go.Proofs.Lays.n105 Tryz.prog Tryz.lays105_ren := {
  mixed := by kernel_rfl
  f99 := Tryz.func84.trans (congrArg some (by kernel_rfl))
  f105 := Tryz.func56.trans (congrArg some (by kernel_rfl))
  f165 := Tryz.func85.trans (congrArg some (by kernel_rfl))
  f166 := Tryz.func64.trans (congrArg some (by kernel_rfl))
  f169 := Tryz.func66.trans (congrArg some (by kernel_rfl))
  f170 := Tryz.func86.trans (congrArg some (by kernel_rfl))
  f206 := Tryz.func112.trans (congrArg some (by kernel_rfl))
  f212 := Tryz.func83.trans (congrArg some (by kernel_rfl))
  f240 := Tryz.func93.trans (congrArg some (by kernel_rfl))
  f241 := Tryz.func113.trans (congrArg some (by kernel_rfl))
  f263 := Tryz.func110.trans (congrArg some (by kernel_rfl))
  f264 := Tryz.func111.trans (congrArg some (by kernel_rfl))
  f276 := Tryz.func117.trans (congrArg some (by kernel_rfl))
  f277 := Tryz.func131.trans (congrArg some (by kernel_rfl))
  t0 := Tryz.underlying0
  a0 := Tryz.isAgg0
  z0 := Tryz.sizeOf0
  v0 := Tryz.zeroValue0
  t3 := Tryz.underlying3
  a3 := Tryz.isAgg3
  z3 := Tryz.sizeOf3
  v3 := Tryz.zeroValue3
  t4 := Tryz.underlying4
  a4 := Tryz.isAgg4
  z4 := Tryz.sizeOf4
  v4 := Tryz.zeroValue4
  t5 := Tryz.underlying5
  a5 := Tryz.isAgg5
  z5 := Tryz.sizeOf5
  v5 := Tryz.zeroValue5
  t9 := Tryz.underlying9
  a9 := Tryz.isAgg9
  z9 := Tryz.sizeOf9
  v9 := Tryz.zeroValue9
  t20 := Tryz.underlying20
  a20 := Tryz.isAgg20
  z20 := Tryz.sizeOf20
  v20 := Tryz.zeroValue20
  t37 := Tryz.underlying24
  a37 := Tryz.isAgg24
  z37 := Tryz.sizeOf24
  v37 := Tryz.zeroValue24
  t46 := Tryz.underlying138
  a46 := Tryz.isAgg138
  z46 := Tryz.sizeOf138
  v46 := Tryz.zeroValue138
  t51 := Tryz.underlying164
  a51 := Tryz.isAgg164
  z51 := Tryz.sizeOf164
  v51 := Tryz.zeroValue164
  t53 := Tryz.underlying70
  a53 := Tryz.isAgg70
  z53 := Tryz.sizeOf70
  v53 := Tryz.zeroValue70
  t70 := Tryz.underlying115
  a70 := Tryz.isAgg115
  z70 := Tryz.sizeOf115
  v70 := Tryz.zeroValue115
  t72 := Tryz.underlying117
  a72 := Tryz.isAgg117
  z72 := Tryz.sizeOf117
  v72 := Tryz.zeroValue117
  t75 := Tryz.underlying119
  a75 := Tryz.isAgg119
  z75 := Tryz.sizeOf119
  v75 := Tryz.zeroValue119
  t76 := Tryz.underlying120
  a76 := Tryz.isAgg120
  z76 := Tryz.sizeOf120
  v76 := Tryz.zeroValue120
  t109 := Tryz.underlying139
  a109 := Tryz.isAgg139
  z109 := Tryz.sizeOf139
  v109 := Tryz.zeroValue139
  t127 := Tryz.underlying151
  a127 := Tryz.isAgg151
  z127 := Tryz.sizeOf151
  v127 := Tryz.zeroValue151
  t146 := Tryz.underlying165
  a146 := Tryz.isAgg165
  z146 := Tryz.sizeOf165
  v146 := Tryz.zeroValue165
  t148 := Tryz.underlying167
  a148 := Tryz.isAgg167
  z148 := Tryz.sizeOf167
  v148 := Tryz.zeroValue167
  t164 := Tryz.underlying172
  a164 := Tryz.isAgg172
  z164 := Tryz.sizeOf172
  v164 := Tryz.zeroValue172 }
theorem Tryz.Builder_Extra_105 : Builder.Extra Tryz.prog Tryz.lays105_ren := {
  sizeBuilder := by kernel_rfl
  liesBuilder := by kernel_rfl
  t5 := Tryz.underlying5
  a5 := Tryz.isAgg5
  z5 := Tryz.sizeOf5
  v5 := Tryz.zeroValue5
  infoByte := by kernel_rfl
  cellsByte := by kernel_rfl
  sizeByte := by kernel_rfl
  neB5 := by decide }
open Go.RowKit Go.Lib in
/-- THE MAIN CASE: at least two copies of a string that is not empty. (LAID: no walk: one application.) -/
theorem Tryz.strings_Repeat_main (s : ByteArray) (c : Nat) (w : World) (hc2 : 2 ≤ c) (hc : c ≤ 9223372036854775807) (hlen : s.size * c ≤ 140737488355328) (h0 : 0 < s.size) :
    Calls Tryz.prog 56 #[.string s, .int .i64 c] w fun e w' => e = .returned (.string ⟨(Lib.repeatL s.data.toList c).toArray⟩) ∧ Below w.heap.size w w' := Any.strings_Repeat_main Tryz.lays105 Tryz.Builder_Extra_105 s c w hc2 hc hlen h0
open Go.RowKit Go.Lib in
theorem Tryz.strings_Repeat_zero (s : ByteArray) (w : World) :
    Calls Tryz.prog 56 #[.string s, .int .i64 0] w fun e w' => e = .returned (.string ⟨#[]⟩) ∧ w' = w := Any.strings_Repeat_zero Tryz.lays105 s w
open Go.RowKit Go.Lib in
theorem Tryz.strings_Repeat_one (s : ByteArray) (w : World) :
    Calls Tryz.prog 56 #[.string s, .int .i64 1] w fun e w' => e = .returned (.string s) ∧ w' = w := Any.strings_Repeat_one Tryz.lays105 s w
open Go.RowKit Go.Lib in
/-- Copies of the empty string. (LAID: no walk: one application.) -/
theorem Tryz.strings_Repeat_empty (s : ByteArray) (c : Nat) (w : World) (hc2 : 2 ≤ c) (hc : c ≤ 9223372036854775807) (h0 : s.size = 0) :
    Calls Tryz.prog 56 #[.string s, .int .i64 c] w fun e w' => e = .returned (.string ⟨#[]⟩) ∧ w' = w := Any.strings_Repeat_empty Tryz.lays105 s c w hc2 hc h0
open Go.RowKit Go.Lib in
/-- count < 0: "It panics if count is negative". (LAID: no walk: one application.) -/
theorem Tryz.strings_Repeat_negative (s : ByteArray) (c : Int) (w : World) (hc : c < 0) :
    Calls Tryz.prog 56 #[.string s, .int .i64 c] w fun e w' => e = .panicked [{ v := repeatPanic Tryz.lays105_ren "strings: negative Repeat count", recovered := false }] ∧ w' = w := Any.strings_Repeat_negative Tryz.lays105 s c w hc
open Go.RowKit Go.Lib in
/-- len(s) * count is no int: ".. or if the result of (len(s) * count) overflows". (LAID: no walk: one application.) -/
theorem Tryz.strings_Repeat_overflow (s : ByteArray) (c : Nat) (w : World) (hc : c ≤ 9223372036854775807) (hs : s.size ≤ 9223372036854775807) (hbig : 9223372036854775807 < s.size * c) :
    Calls Tryz.prog 56 #[.string s, .int .i64 c] w fun e w' => e = .panicked [{ v := repeatPanic Tryz.lays105_ren "strings: Repeat output length overflow", recovered := false }] ∧ w' = w := Any.strings_Repeat_overflow Tryz.lays105 s c w hc hs hbig
open Go.RowKit Go.Lib in
/-- **strings.Repeat: count ≥ 0, the result within one allocation: count copies of s.** (LAID: no walk: one application.) -/
theorem Tryz.strings_Repeat (s : ByteArray) (c : Nat) (w : World) (hc : c ≤ 9223372036854775807) (hlen : s.size * c ≤ 140737488355328) :
    Calls Tryz.prog 56 #[.string s, .int .i64 c] w fun e w' => e = .returned (.string ⟨(Lib.repeatL s.data.toList c).toArray⟩) ∧ Below w.heap.size w w' := Any.strings_Repeat Tryz.lays105 Tryz.Builder_Extra_105 s c w hc hlen
def Tryz.lays260_ren : Go.Shelf.Ren := ⟨fun | 260 => 118 | n => n, fun | 9 => 9 | 21 => 21 | 3 => 3 | 4 => 4 | 5 => 5 | 119 => 190 | 0 => 0 | 46 => 138 | 139 => 193 | 138 => 192 | n => n, fun | 3 => 2 | 4 => 3 | n => n⟩
theorem Tryz.lays260 : Go.Proofs.Lays.n260 Tryz.prog Tryz.lays260_ren := {
  mixed := by kernel_rfl
  f260 := Tryz.func118.trans (congrArg some (by kernel_rfl))
  t0 := Tryz.underlying0
  a0 := Tryz.isAgg0
  z0 := Tryz.sizeOf0
  v0 := Tryz.zeroValue0
  t3 := Tryz.underlying3
  a3 := Tryz.isAgg3
  z3 := Tryz.sizeOf3
  v3 := Tryz.zeroValue3
  t4 := Tryz.underlying4
  a4 := Tryz.isAgg4
  z4 := Tryz.sizeOf4
  v4 := Tryz.zeroValue4
  t5 := Tryz.underlying5
  a5 := Tryz.isAgg5
  z5 := Tryz.sizeOf5
  v5 := Tryz.zeroValue5
  t9 := Tryz.underlying9
  a9 := Tryz.isAgg9
  z9 := Tryz.sizeOf9
  v9 := Tryz.zeroValue9
  t21 := Tryz.underlying21
  a21 := Tryz.isAgg21
  z21 := Tryz.sizeOf21
  v21 := Tryz.zeroValue21
  t46 := Tryz.underlying138
  a46 := Tryz.isAgg138
  z46 := Tryz.sizeOf138
  v46 := Tryz.zeroValue138
  t119 := Tryz.underlying190
  a119 := Tryz.isAgg190
  z119 := Tryz.sizeOf190
  t138 := Tryz.underlying192
  a138 := Tryz.isAgg192
  z138 := Tryz.sizeOf192
  v138 := Tryz.zeroValue192
  t139 := Tryz.underlying193
  a139 := Tryz.isAgg193
  z139 := Tryz.sizeOf193
  v139 := Tryz.zeroValue193
  g3 := by kernel_rfl
  g4 := by kernel_rfl }
open Go.RowKit Go.Lib in
theorem Tryz.utf8_decodeRuneInStringSlow (s : ByteArray) (w : World) (hT : Lib.Utf8Tabs 2 3 w) :
    Calls Tryz.prog 118 #[.string s] w fun e w' => e = .returned (.tuple #[.int .i32 (Lib.decodeGo s).1, .int .i64 (Lib.decodeGo s).2]) ∧ Below w.heap.size w w' := Any.utf8_decodeRuneInStringSlow Tryz.lays260 s w hT
open Go.RowKit Go.Lib in
/-- **unicode/utf8.DecodeRuneInString AT EVERY STRING.** (LAID: no walk: one application.) -/
theorem Tryz.utf8_DecodeRuneInString (s : ByteArray) (w : World) (hT : Lib.Utf8Tabs 2 3 w) :
    Calls Tryz.prog 99 #[.string s] w fun e w' => e = .returned (.tuple #[.int .i32 (Lib.decodeGo s).1, .int .i64 (Lib.decodeGo s).2]) ∧ Below w.heap.size w w' := Any.utf8_DecodeRuneInString Tryz.lays197 s w hT
def Tryz.lays271_ren : Go.Shelf.Ren := ⟨fun | 271 => 101 | 120 => 120 | 197 => 99 | 260 => 118 | n => n, fun | 9 => 9 | 21 => 21 | 3 => 3 | 4 => 4 | 5 => 5 | 105 => 154 | 119 => 190 | 0 => 0 | 46 => 138 | 139 => 193 | 138 => 192 | n => n, fun | 3 => 2 | 4 => 3 | n => n⟩
theorem Tryz.lays271 : Go.Proofs.Lays.n271 Tryz.prog Tryz.lays271_ren := {
  mixed := by kernel_rfl
  f120 := Tryz.func120.trans (congrArg some (by kernel_rfl))
  f197 := Tryz.func99.trans (congrArg some (by kernel_rfl))
  f260 := Tryz.func118.trans (congrArg some (by kernel_rfl))
  f271 := Tryz.func101.trans (congrArg some (by kernel_rfl))
  t0 := Tryz.underlying0
  a0 := Tryz.isAgg0
  z0 := Tryz.sizeOf0
  v0 := Tryz.zeroValue0
  t3 := Tryz.underlying3
  a3 := Tryz.isAgg3
  z3 := Tryz.sizeOf3
  v3 := Tryz.zeroValue3
  t4 := Tryz.underlying4
  a4 := Tryz.isAgg4
  z4 := Tryz.sizeOf4
  v4 := Tryz.zeroValue4
  t5 := Tryz.underlying5
  a5 := Tryz.isAgg5
  z5 := Tryz.sizeOf5
  v5 := Tryz.zeroValue5
  t9 := Tryz.underlying9
  a9 := Tryz.isAgg9
  z9 := Tryz.sizeOf9
  v9 := Tryz.zeroValue9
  t21 := Tryz.underlying21
  a21 := Tryz.isAgg21
  z21 := Tryz.sizeOf21
  v21 := Tryz.zeroValue21
  t46 := Tryz.underlying138
  a46 := Tryz.isAgg138
  z46 := Tryz.sizeOf138
  v46 := Tryz.zeroValue138
  t105 := Tryz.underlying154
  a105 := Tryz.isAgg154
  z105 := Tryz.sizeOf154
  v105 := Tryz.zeroValue154
  t119 := Tryz.underlying190
  a119 := Tryz.isAgg190
  z119 := Tryz.sizeOf190
  t138 := Tryz.underlying192
  a138 := Tryz.isAgg192
  z138 := Tryz.sizeOf192
  v138 := Tryz.zeroValue192
  t139 := Tryz.underlying193
  a139 := Tryz.isAgg193
  z139 := Tryz.sizeOf193
  v139 := Tryz.zeroValue193
  g3 := by kernel_rfl
  g4 := by kernel_rfl }
open Go.RowKit Go.Lib in
/-- **unicode/utf8.DecodeLastRuneInString AT EVERY STRING.** (LAID: no walk: one application.) -/
theorem Tryz.utf8_DecodeLastRuneInString (s : ByteArray) (w : World) (hs : s.size ≤ 9223372036854775807) (hT : Lib.Utf8Tabs 2 3 w) :
    Calls Tryz.prog 101 #[.string s] w fun e w' => e = .returned (.tuple #[.int .i32 (Lib.decodeLastL s.data.toList).1, .int .i64 (Lib.decodeLastL s.data.toList).2]) ∧ Below w.heap.size w w' := Any.utf8_DecodeLastRuneInString Tryz.lays271 s w hs hT
def Tryz.laysNm215_ren : Go.Shelf.Ren := ⟨fun | 15 => 21 | n => n, fun | 22 => 27 | 3 => 3 | 4 => 4 | n => n, fun | n => n⟩
theorem Tryz.laysNm215 : Go.Proofs.Lays2.n15 Tryz.prog Tryz.laysNm215_ren := {
  mixed := by kernel_rfl
  f15 := Tryz.func21.trans (congrArg some (by kernel_rfl))
  t3 := Tryz.underlying3
  a3 := Tryz.isAgg3
  z3 := Tryz.sizeOf3
  v3 := Tryz.zeroValue3
  t4 := Tryz.underlying4
  a4 := Tryz.isAgg4
  z4 := Tryz.sizeOf4
  v4 := Tryz.zeroValue4
  t22 := Tryz.underlying27
  a22 := Tryz.isAgg27
  z22 := Tryz.sizeOf27
  v22 := Tryz.zeroValue27
  i3 := by kernel_rfl }
open Go.RowKit Go.Lib in
/-- slices.Clone at []int: "Clone returns a copy of the slice. The elements are copied using assignment, so this is a shallow clone. The result may have additional unused capacity. The result preserves the nilness of s.": OF A SLICE THAT IS NOT nil IT RETURNS A SLICE THAT IS NOT nil, OF THE SAME ELEMENTS, IN MEMORY OF THE CALL's OWN: in the how-to's words (6f): 'w'.ownsRow B e 1 v' n cells': v' begins at the head of a row among the blocks from B on (B: the heap's size at the call), not frozen, whose first cells are the elements · 'Below B w w'': below B all is as it was. The capacity is whatever the run-time gives. 'zs': what the cells behind the slice's address hold; 'zs.take n': its elements. (LAID: no walk: one application.) -/
theorem Tryz.slices_Clone_int (b off n c : Nat) (zs : List Int) (w : World) (hz : n ≤ zs.length) (hbig : n * 8 ≤ 140737488355328) (hc : ∀ j, j < zs.length → w.cell? ⟨b, off + j, none⟩ = some (.int .i64 (zs.getD j 0))) :
    Calls Tryz.prog 21 #[.slice (some ⟨b, off, none⟩) n c] w fun e w' => ∃ v', e = .returned v' ∧ w'.ownsRow w.heap.size 3 1 v' n ((zs.take n).map (Value.int .i64)) ∧ v' ≠ .slice none 0 0 ∧ Below w.heap.size w w' := Any.slices_Clone_int Tryz.laysNm215 b off n c zs w hz hbig hc
open Go.RowKit Go.Lib in
/-- The same at nil: nil comes back; the world is as it was. (LAID: no walk: one application.) -/
theorem Tryz.slices_Clone_int_nil (n c : Nat) (w : World) :
    Calls Tryz.prog 21 #[.slice none n c] w fun e w' => e = .returned (.slice none 0 0) ∧ w' = w := Any.slices_Clone_int_nil Tryz.laysNm215 n c w
open Go.RowKit Go.Lib in
/-- The same at a slice of length 0 that is not nil, WHATEVER ITS ADDRESS (no cell is asked for): a slice that is not nil and owns nothing comes back. (LAID: no walk: one application.) -/
theorem Tryz.slices_Clone_int_zero (a : Addr) (c : Nat) (w : World) :
    Calls Tryz.prog 21 #[.slice (some a) 0 c] w fun e w' => ∃ v', e = .returned v' ∧ w'.ownsRow w.heap.size 3 1 v' 0 [] ∧ v' ≠ .slice none 0 0 ∧ Below w.heap.size w w' := Any.slices_Clone_int_zero Tryz.laysNm215 a c w
def Tryz.laysSlE041_f21_ren : Go.Shelf.Ren := ⟨fun | 41 => 21 | n => n, fun | 22 => 27 | 23 => 3 | 4 => 4 | n => n, fun | n => n⟩
theorem Tryz.laysSlE041_f21 : Go.Proofs.SlLaysE0.n41 Tryz.prog Tryz.laysSlE041_f21_ren := {
  mixed := by kernel_rfl
  f41 := ⟨Tryz.f21.name, by decide, Tryz.func21.trans (congrArg some (by kernel_rfl))⟩
  t4 := Tryz.underlying4
  a4 := Tryz.isAgg4
  z4 := Tryz.sizeOf4
  v4 := Tryz.zeroValue4
  t22 := Tryz.underlying27
  a22 := Tryz.isAgg27
  z22 := Tryz.sizeOf27
  v22 := Tryz.zeroValue27 }
open Go.RowKit Go.Lib in
/-- slices.Clone: "Clone returns a copy of the slice. The elements are copied using assignment, so this is a shallow clone. The result may have additional unused capacity. The result preserves the nilness of s.": OF A SLICE THAT IS NOT nil IT RETURNS A SLICE THAT IS NOT nil, OF THE SAME CELLS, IN MEMORY OF THE CALL's OWN ('ownsRow': the how-to's 6f); below the heap's size at the call all is as it was. (LAID AT THE INSTANCE 'slices.Clone[[]int,int]': no walk: one application.) -/
theorem Tryz.slices_Clone_f21 (i0 : TypeInfo) (z : Value) (size bytes : Nat) (hi : Tryz.prog.info? 3 = some i0) (hz0 : i0.zero = some z) (hz1 : i0.size = size) (hz2 : i0.bytes = bytes) (hzs : z.cells.size = size) (hsz : 0 < size) (z23 : ∀ w, (Go.sizeOf 3).run Tryz.prog w = .ok size w) (b off n c : Nat) (news : List Value) (w : World) (hl : news.length = n * size) (hn : n ≤ maxLen) (hbig : n * bytes ≤ 140737488355328) (hc : ∀ j u, news[j]? = some u → w.cell? ⟨b, off + j, none⟩ = some u) (h1 : ∀ u ∈ news, u.oneCell' = true) :
    Calls Tryz.prog 21 #[.slice (some ⟨b, off, none⟩) n c] w fun e w' => ∃ v', e = .returned v' ∧ w'.ownsRow w.heap.size 3 size v' n news ∧ v' ≠ .slice none 0 0 ∧ Below w.heap.size w w' := AnyE.slices_Clone Tryz.laysSlE041_f21 i0 z size bytes hi hz0 hz1 hz2 hzs hsz z23 b off n c news w hl hn hbig hc h1
def Tryz.laysSlE041_f32_ren : Go.Shelf.Ren := ⟨fun | 41 => 32 | n => n, fun | 22 => 38 | 23 => 70 | 4 => 4 | n => n, fun | n => n⟩
theorem Tryz.laysSlE041_f32 : Go.Proofs.SlLaysE0.n41 Tryz.prog Tryz.laysSlE041_f32_ren := {
  mixed := by kernel_rfl
  f41 := ⟨Tryz.f32.name, by decide, Tryz.func32.trans (congrArg some (by kernel_rfl))⟩
  t4 := Tryz.underlying4
  a4 := Tryz.isAgg4
  z4 := Tryz.sizeOf4
  v4 := Tryz.zeroValue4
  t22 := Tryz.underlying38
  a22 := Tryz.isAgg38
  z22 := Tryz.sizeOf38
  v22 := Tryz.zeroValue38 }
open Go.RowKit Go.Lib in
/-- slices.Clone: "Clone returns a copy of the slice. The elements are copied using assignment, so this is a shallow clone. The result may have additional unused capacity. The result preserves the nilness of s.": OF A SLICE THAT IS NOT nil IT RETURNS A SLICE THAT IS NOT nil, OF THE SAME CELLS, IN MEMORY OF THE CALL's OWN ('ownsRow': the how-to's 6f); below the heap's size at the call all is as it was. (LAID AT THE INSTANCE 'slices.Clone[[]uint64,uint64]': no walk: one application.) -/
theorem Tryz.slices_Clone_f32 (i0 : TypeInfo) (z : Value) (size bytes : Nat) (hi : Tryz.prog.info? 70 = some i0) (hz0 : i0.zero = some z) (hz1 : i0.size = size) (hz2 : i0.bytes = bytes) (hzs : z.cells.size = size) (hsz : 0 < size) (z23 : ∀ w, (Go.sizeOf 70).run Tryz.prog w = .ok size w) (b off n c : Nat) (news : List Value) (w : World) (hl : news.length = n * size) (hn : n ≤ maxLen) (hbig : n * bytes ≤ 140737488355328) (hc : ∀ j u, news[j]? = some u → w.cell? ⟨b, off + j, none⟩ = some u) (h1 : ∀ u ∈ news, u.oneCell' = true) :
    Calls Tryz.prog 32 #[.slice (some ⟨b, off, none⟩) n c] w fun e w' => ∃ v', e = .returned v' ∧ w'.ownsRow w.heap.size 70 size v' n news ∧ v' ≠ .slice none 0 0 ∧ Below w.heap.size w w' := AnyE.slices_Clone Tryz.laysSlE041_f32 i0 z size bytes hi hz0 hz1 hz2 hzs hsz z23 b off n c news w hl hn hbig hc h1
open Go.RowKit Go.Lib in
/-- The same at nil: nil comes back; the world is as it was; nothing is asked of the element's type. (LAID AT THE INSTANCE 'slices.Clone[[]int,int]': no walk: one application.) -/
theorem Tryz.slices_Clone_nil_f21 (n c : Nat) (w : World) :
    Calls Tryz.prog 21 #[.slice none n c] w fun e w' => e = .returned (.slice none 0 0) ∧ w' = w := AnyE.slices_Clone_nil Tryz.laysSlE041_f21 n c w
open Go.RowKit Go.Lib in
/-- The same at nil: nil comes back; the world is as it was; nothing is asked of the element's type. (LAID AT THE INSTANCE 'slices.Clone[[]uint64,uint64]': no walk: one application.) -/
theorem Tryz.slices_Clone_nil_f32 (n c : Nat) (w : World) :
    Calls Tryz.prog 32 #[.slice none n c] w fun e w' => e = .returned (.slice none 0 0) ∧ w' = w := AnyE.slices_Clone_nil Tryz.laysSlE041_f32 n c w
end Go.Proofs
end
section
namespace Go.Proofs.YtjdbggnhdeaflaaGreatDoor
open Go Go.Gw
set_option linter.unusedVariables false
set_option linter.unusedSimpArgs false
theorem Fagg110 : aggB Tryz.prog 110 2 = true := by kernel_rfl
theorem Fagg146 : aggB Tryz.prog 146 18 = true := by kernel_rfl
theorem Fagg31 : aggB Tryz.prog 31 4 = true := by kernel_rfl
theorem Fagg40 : aggB Tryz.prog 40 3 = true := by kernel_rfl
theorem Fagg53 : aggB Tryz.prog 53 5 = true := by kernel_rfl
theorem Fagg58 : aggB Tryz.prog 58 6 = true := by kernel_rfl
theorem Fbld175 : buildB Tryz.prog 175 = some ([.int .u64 0, .int .u64 0], [(0, 1), (1, 1)]) := by kernel_rfl
theorem Fbld176 : buildB Tryz.prog 176 = some ([.int .u64 0, .int .u64 0, .int .u64 0, .int .u64 0], [(0, 2), (2, 2)]) := by kernel_rfl
theorem Fbld31 : buildB Tryz.prog 31 = some ([.int .i64 0, .slice none 0 0, .slice none 0 0, .slice none 0 0], [(0, 1), (1, 1), (2, 1), (3, 1)]) := by kernel_rfl
theorem Fbld40 : buildB Tryz.prog 40 = some ([.int .i64 0, .int .i64 0, .slice none 0 0], [(0, 1), (1, 1), (2, 1)]) := by kernel_rfl
theorem Fbld53 : buildB Tryz.prog 53 = some ([.int .i64 0, .int .i64 0, .int .i64 0, .string ⟨#[]⟩, .slice none 0 0], [(0, 1), (1, 1), (2, 1), (3, 1), (4, 1)]) := by kernel_rfl
theorem Fbld58 : buildB Tryz.prog 58 = some ([.int .i64 0, .int .i64 0, .int .i64 0, .int .i64 0, .int .i64 0, .string ⟨#[]⟩], [(0, 1), (1, 1), (2, 1), (3, 1), (4, 1), (5, 1)]) := by kernel_rfl
theorem Fbld78 : buildB Tryz.prog 78 = some ([.int .i64 0, .int .i64 0, .int .i64 0, .int .i64 0, .bool false, .int .i64 0, .int .i64 0, .int .i64 0, .slice none 0 0, .map none, .slice none 0 0], [(0, 1), (1, 1), (2, 1), (3, 1), (4, 1), (5, 1), (6, 3), (9, 1), (10, 1)]) := by kernel_rfl
theorem Feqg58 : Tryz.prog.eqGuardType Tryz.prog.depth 58 = false := by kernel_rfl
theorem Ffo110_0 : fieldOff Tryz.prog 110 0 = some 0 := by kernel_rfl
theorem Ffo110_1 : fieldOff Tryz.prog 110 1 = some 1 := by kernel_rfl
theorem Ffo117_0 : fieldOff Tryz.prog 117 0 = some 0 := by kernel_rfl
theorem Ffo117_1 : fieldOff Tryz.prog 117 1 = some 1 := by kernel_rfl
theorem Ffo31_0 : fieldOff Tryz.prog 31 0 = some 0 := by kernel_rfl
theorem Ffo31_1 : fieldOff Tryz.prog 31 1 = some 1 := by kernel_rfl
theorem Ffo31_2 : fieldOff Tryz.prog 31 2 = some 2 := by kernel_rfl
theorem Ffo31_3 : fieldOff Tryz.prog 31 3 = some 3 := by kernel_rfl
theorem Ffo40_0 : fieldOff Tryz.prog 40 0 = some 0 := by kernel_rfl
theorem Ffo40_1 : fieldOff Tryz.prog 40 1 = some 1 := by kernel_rfl
theorem Ffo40_2 : fieldOff Tryz.prog 40 2 = some 2 := by kernel_rfl
theorem Ffo53_0 : fieldOff Tryz.prog 53 0 = some 0 := by kernel_rfl
theorem Ffo53_1 : fieldOff Tryz.prog 53 1 = some 1 := by kernel_rfl
theorem Ffo53_2 : fieldOff Tryz.prog 53 2 = some 2 := by kernel_rfl
theorem Ffo53_3 : fieldOff Tryz.prog 53 3 = some 3 := by kernel_rfl
theorem Ffo53_4 : fieldOff Tryz.prog 53 4 = some 4 := by kernel_rfl
theorem Ffo58_5 : fieldOff Tryz.prog 58 5 = some 5 := by kernel_rfl
theorem Ffo78_0 : fieldOff Tryz.prog 78 0 = some 0 := by kernel_rfl
theorem Ffo78_1 : fieldOff Tryz.prog 78 1 = some 1 := by kernel_rfl
theorem Ffo78_2 : fieldOff Tryz.prog 78 2 = some 2 := by kernel_rfl
theorem Ffo78_3 : fieldOff Tryz.prog 78 3 = some 3 := by kernel_rfl
theorem Ffo78_4 : fieldOff Tryz.prog 78 4 = some 4 := by kernel_rfl
theorem Ffo78_5 : fieldOff Tryz.prog 78 5 = some 5 := by kernel_rfl
theorem Ffo78_6 : fieldOff Tryz.prog 78 6 = some 6 := by kernel_rfl
theorem Ffo78_7 : fieldOff Tryz.prog 78 7 = some 9 := by kernel_rfl
theorem Ffo78_8 : fieldOff Tryz.prog 78 8 = some 10 := by kernel_rfl
theorem Finf22 : infoB Tryz.prog 22 = some (.slice none 0 0, 1, 24) := by kernel_rfl
theorem Finf25 : infoB Tryz.prog 25 = some (.nilFunc, 1, 8) := by kernel_rfl
theorem Finf3 : infoB Tryz.prog 3 = some (.int .i64 0, 1, 8) := by kernel_rfl
theorem Finf5 : infoB Tryz.prog 5 = some (.int .u8 0, 1, 1) := by kernel_rfl
theorem Finf58 : infoB Tryz.prog 58 = some (.agg #[.int .i64 0, .int .i64 0, .int .i64 0, .int .i64 0, .int .i64 0, .string ⟨#[]⟩], 6, 56) := by kernel_rfl
theorem Finf70 : infoB Tryz.prog 70 = some (.int .u64 0, 1, 8) := by kernel_rfl
theorem Finf9 : infoB Tryz.prog 9 = some (.string ⟨#[]⟩, 1, 16) := by kernel_rfl
theorem Fmo : Tryz.prog.follows .mixedOrders = true := by kernel_rfl
theorem Fsca115 : scalarB Tryz.prog 115 = true := by kernel_rfl
theorem Fsca148 : scalarB Tryz.prog 148 = true := by kernel_rfl
theorem Fsca22 : scalarB Tryz.prog 22 = true := by kernel_rfl
theorem Fsca24 : scalarB Tryz.prog 24 = true := by kernel_rfl
theorem Fsca25 : scalarB Tryz.prog 25 = true := by kernel_rfl
theorem Fsca27 : scalarB Tryz.prog 27 = true := by kernel_rfl
theorem Fsca29 : scalarB Tryz.prog 29 = true := by kernel_rfl
theorem Fsca3 : scalarB Tryz.prog 3 = true := by kernel_rfl
theorem Fsca38 : scalarB Tryz.prog 38 = true := by kernel_rfl
theorem Fsca4 : scalarB Tryz.prog 4 = true := by kernel_rfl
theorem Fsca43 : scalarB Tryz.prog 43 = true := by kernel_rfl
theorem Fsca5 : scalarB Tryz.prog 5 = true := by kernel_rfl
theorem Fsca51 : scalarB Tryz.prog 51 = true := by kernel_rfl
theorem Fsca54 : scalarB Tryz.prog 54 = true := by kernel_rfl
theorem Fsca70 : scalarB Tryz.prog 70 = true := by kernel_rfl
theorem Fsca71 : scalarB Tryz.prog 71 = true := by kernel_rfl
theorem Fsca76 : scalarB Tryz.prog 76 = true := by kernel_rfl
theorem Fsca9 : scalarB Tryz.prog 9 = true := by kernel_rfl
theorem Fsca91 : scalarB Tryz.prog 91 = true := by kernel_rfl
theorem Fsiz110 : sizeB Tryz.prog 110 2 = true := by kernel_rfl
theorem Fsiz115 : sizeB Tryz.prog 115 1 = true := by kernel_rfl
theorem Fsiz146 : sizeB Tryz.prog 146 18 = true := by kernel_rfl
theorem Fsiz148 : sizeB Tryz.prog 148 1 = true := by kernel_rfl
theorem Fsiz175 : sizeB Tryz.prog 175 2 = true := by kernel_rfl
theorem Fsiz22 : sizeB Tryz.prog 22 1 = true := by kernel_rfl
theorem Fsiz24 : sizeB Tryz.prog 24 1 = true := by kernel_rfl
theorem Fsiz25 : sizeB Tryz.prog 25 1 = true := by kernel_rfl
theorem Fsiz29 : sizeB Tryz.prog 29 1 = true := by kernel_rfl
theorem Fsiz3 : sizeB Tryz.prog 3 1 = true := by kernel_rfl
theorem Fsiz31 : sizeB Tryz.prog 31 4 = true := by kernel_rfl
theorem Fsiz38 : sizeB Tryz.prog 38 1 = true := by kernel_rfl
theorem Fsiz4 : sizeB Tryz.prog 4 1 = true := by kernel_rfl
theorem Fsiz40 : sizeB Tryz.prog 40 3 = true := by kernel_rfl
theorem Fsiz5 : sizeB Tryz.prog 5 1 = true := by kernel_rfl
theorem Fsiz51 : sizeB Tryz.prog 51 1 = true := by kernel_rfl
theorem Fsiz53 : sizeB Tryz.prog 53 5 = true := by kernel_rfl
theorem Fsiz54 : sizeB Tryz.prog 54 1 = true := by kernel_rfl
theorem Fsiz58 : sizeB Tryz.prog 58 6 = true := by kernel_rfl
theorem Fsiz70 : sizeB Tryz.prog 70 1 = true := by kernel_rfl
theorem Fsiz71 : sizeB Tryz.prog 71 1 = true := by kernel_rfl
theorem Fsiz9 : sizeB Tryz.prog 9 1 = true := by kernel_rfl
theorem Fzer110 : zeroB Tryz.prog 110 = some [.string ⟨#[]⟩, .slice none 0 0] := by kernel_rfl
theorem Fzer117 : zeroB Tryz.prog 117 = some [.pointer none, .slice none 0 0] := by kernel_rfl
theorem Fzer146 : zeroB Tryz.prog 146 = some [.int .i64 0, .int .i64 0, .int .i64 0, .int .i64 0, .int .i64 0, .int .i64 0, .int .i64 0, .int .i64 0, .int .i64 0, .int .i64 0, .int .i64 0, .int .i64 0, .int .i64 0, .int .i64 0, .int .i64 0, .int .i64 0, .int .i64 0, .int .i64 0] := by kernel_rfl
theorem Fzer148 : zeroB Tryz.prog 148 = some [.int .u64 0] := by kernel_rfl
theorem Fzer175 : zeroB Tryz.prog 175 = some [.int .u64 0, .int .u64 0] := by kernel_rfl
theorem Fzer177 : zeroB Tryz.prog 177 = some [.int .u8 0, .int .u8 0, .int .u8 0, .int .u8 0, .int .u8 0, .int .u8 0, .int .u8 0, .int .u8 0, .int .u8 0, .int .u8 0, .int .u8 0, .int .u8 0, .int .u8 0, .int .u8 0, .int .u8 0, .int .u8 0] := by kernel_rfl
theorem Fzer187 : zeroB Tryz.prog 187 = some [.int .u8 0, .int .u8 0, .int .u8 0, .int .u8 0, .int .u8 0, .int .u8 0, .int .u8 0, .int .u8 0, .int .u8 0, .int .u8 0, .int .u8 0, .int .u8 0, .int .u8 0, .int .u8 0, .int .u8 0, .int .u8 0, .int .u8 0, .int .u8 0, .int .u8 0, .int .u8 0, .int .u8 0, .int .u8 0, .int .u8 0, .int .u8 0, .int .u8 0, .int .u8 0, .int .u8 0, .int .u8 0, .int .u8 0, .int .u8 0, .int .u8 0, .int .u8 0, .int .u8 0, .int .u8 0, .int .u8 0, .int .u8 0, .int .u8 0, .int .u8 0, .int .u8 0, .int .u8 0, .int .u8 0, .int .u8 0, .int .u8 0, .int .u8 0, .int .u8 0, .int .u8 0, .int .u8 0, .int .u8 0, .int .u8 0, .int .u8 0, .int .u8 0, .int .u8 0, .int .u8 0, .int .u8 0, .int .u8 0, .int .u8 0, .int .u8 0, .int .u8 0, .int .u8 0, .int .u8 0, .int .u8 0, .int .u8 0, .int .u8 0, .int .u8 0, .int .u8 0] := by kernel_rfl
theorem Fzer22 : zeroB Tryz.prog 22 = some [.slice none 0 0] := by kernel_rfl
theorem Fzer3 : zeroB Tryz.prog 3 = some [.int .i64 0] := by kernel_rfl
theorem Fzer31 : zeroB Tryz.prog 31 = some [.int .i64 0, .slice none 0 0, .slice none 0 0, .slice none 0 0] := by kernel_rfl
theorem Fzer4 : zeroB Tryz.prog 4 = some [.bool false] := by kernel_rfl
theorem Fzer40 : zeroB Tryz.prog 40 = some [.int .i64 0, .int .i64 0, .slice none 0 0] := by kernel_rfl
theorem Fzer53 : zeroB Tryz.prog 53 = some [.int .i64 0, .int .i64 0, .int .i64 0, .string ⟨#[]⟩, .slice none 0 0] := by kernel_rfl
theorem Fzer58 : zeroB Tryz.prog 58 = some [.int .i64 0, .int .i64 0, .int .i64 0, .int .i64 0, .int .i64 0, .string ⟨#[]⟩] := by kernel_rfl
theorem Fzer70 : zeroB Tryz.prog 70 = some [.int .u64 0] := by kernel_rfl
theorem Fzer71 : zeroB Tryz.prog 71 = some [.nilFunc] := by kernel_rfl
theorem Fzer9 : zeroB Tryz.prog 9 = some [.string ⟨#[]⟩] := by kernel_rfl
end Go.Proofs.YtjdbggnhdeaflaaGreatDoor
end
section
namespace Go.Proofs.YtjdbggnhdeaflaaGreatDoor
open Go Go.Gw
set_option linter.unusedSimpArgs false
set_option linter.unusedVariables false
theorem mixA_ex : ∃ f : Nat → Nat, ∀ x, (x ^^^ (x >>> 32)) * 11400714819323198485 % 18446744073709551616 = f x := ⟨fun x => (x ^^^ (x >>> 32)) * 11400714819323198485 % 18446744073709551616, fun _ => rfl⟩
theorem mixB_ex : ∃ f : Nat → Nat, ∀ x, (x ^^^ (x >>> 29)) * 13787848793156543929 % 18446744073709551616 = f x := ⟨fun x => (x ^^^ (x >>> 29)) * 13787848793156543929 % 18446744073709551616, fun _ => rfl⟩
/-- chosen, so that nothing unfolds them -/
noncomputable def mixA : Nat → Nat := Classical.choose mixA_ex
noncomputable def mixB : Nat → Nat := Classical.choose mixB_ex
theorem mixA_def (x : Nat) : (x ^^^ (x >>> 32)) * 11400714819323198485 % 18446744073709551616 = mixA x := Classical.choose_spec mixA_ex x
theorem mixB_def (x : Nat) : (x ^^^ (x >>> 29)) * 13787848793156543929 % 18446744073709551616 = mixB x := Classical.choose_spec mixB_ex x
noncomputable def take64 (s b : Nat) : Nat := mixB (mixA (s ^^^ b)) ^^^ (mixB (mixA (s ^^^ b)) >>> 32)
theorem mixA_lt (x : Nat) : mixA x < 18446744073709551616 := by rw [← mixA_def]; exact Nat.mod_lt _ (by decide)
theorem mixB_lt (x : Nat) : mixB x < 18446744073709551616 := by rw [← mixB_def]; exact Nat.mod_lt _ (by decide)
theorem shr_lt {x q : Nat} (h : x < 18446744073709551616) : x >>> q < 18446744073709551616 := Nat.lt_of_le_of_lt (by rw [Nat.shiftRight_eq_div_pow]; exact Nat.div_le_self _ _) h
theorem xor_lt {x y : Nat} (h : x < 18446744073709551616) (h2 : y < 18446744073709551616) : x ^^^ y < 18446744073709551616 := Nat.xor_lt_two_pow (n := 64) h h2
theorem or_lt {x y : Nat} (h : x < 18446744073709551616) (h2 : y < 18446744073709551616) : x ||| y < 18446744073709551616 := Nat.or_lt_two_pow (n := 64) h h2
theorem take64_lt (s b : Nat) : take64 s b < 18446744073709551616 := xor_lt (mixB_lt _) (shr_lt (mixB_lt _))
noncomputable def stp : Nat → Nat → Nat
  | 0, x => x
  | 1, x => mixA x
  | _, x => mixB (mixA x)
theorem stp0 (x : Nat) : stp 0 x = x := rfl
theorem stp1 (x : Nat) : stp 1 x = mixA x := rfl
theorem stp2 (x : Nat) : stp 2 x = mixB (mixA x) := rfl
theorem take64_def (s b : Nat) : mixB (mixA (s ^^^ b)) ^^^ (mixB (mixA (s ^^^ b)) >>> 32) = take64 s b := rfl
/-- the state of a digest: state, block, bytes in the block -/
structure DS where
  s : Nat
  b : Nat
  n : Nat
structure DS.ok (d : DS) : Prop where
  s : d.s < 18446744073709551616
  n : d.n < 8
  b : d.b < 2 ^ (8 * d.n)
def DS.z : DS := ⟨7046029254386353131, 0, 0⟩
noncomputable def DS.add (d : DS) (c : Nat) : DS := if d.n + 1 = 8 then ⟨take64 d.s (d.b ||| (c <<< (8 * d.n))), 0, 0⟩ else ⟨d.s, d.b ||| (c <<< (8 * d.n)), d.n + 1⟩
theorem DS.z_ok : DS.z.ok := ⟨by decide, by decide, by decide⟩
theorem DS.or_lt {d : DS} (h : d.ok) {c : Nat} (hc : c < 256) : d.b ||| (c <<< (8 * d.n)) < 2 ^ (8 * (d.n + 1)) := by
  have h1 : c <<< (8 * d.n) < 2 ^ (8 * (d.n + 1)) := by
    rw [Nat.shiftLeft_eq, show 8 * (d.n + 1) = 8 + 8 * d.n by omega, Nat.pow_add]
    exact Nat.mul_lt_mul_of_pos_right (by omega) (Nat.pow_pos (by decide))
  exact Nat.or_lt_two_pow (Nat.lt_of_lt_of_le h.b (Nat.pow_le_pow_right (by decide) (by omega))) h1
theorem DS.pow_le {k : Nat} (h : k ≤ 8) : 2 ^ (8 * k) ≤ 18446744073709551616 := Nat.le_trans (Nat.pow_le_pow_right (by decide) (show 8 * k ≤ 64 by omega)) (by decide)
theorem DS.add_ok {d : DS} (h : d.ok) {c : Nat} (hc : c < 256) : (d.add c).ok := by
  have h0 := DS.or_lt h hc
  unfold DS.add
  split
  · exact ⟨take64_lt _ _, by dsimp only; omega, by dsimp only; omega⟩
  · have := h.n
    exact ⟨h.s, by dsimp only; omega, h0⟩
noncomputable def DS.adds (d : DS) (l : List UInt8) : DS := l.foldl (fun d c => d.add c.toNat) d
theorem DS.adds_ok {d : DS} (h : d.ok) (l : List UInt8) : (d.adds l).ok := by
  induction l generalizing d with
  | nil => exact h
  | cons c l ih => exact ih (DS.add_ok h c.toNat_lt)
/-- zeros until the block is full -/
noncomputable def DS.fill : Nat → DS → DS
  | 0, d => d
  | k + 1, d => if d.n = 0 then d else DS.fill k (d.add 0)
theorem DS.add_full {d : DS} (h : d.n + 1 = 8) (c : Nat) : d.add c = ⟨take64 d.s (d.b ||| (c <<< (8 * d.n))), 0, 0⟩ := if_pos h
theorem DS.add_part {d : DS} (h : ¬ d.n + 1 = 8) (c : Nat) : d.add c = ⟨d.s, d.b ||| (c <<< (8 * d.n)), d.n + 1⟩ := if_neg h
theorem DS.shl_lt {d : DS} (h : d.ok) {c : Nat} (hc : c < 256) : c <<< (8 * d.n) < 18446744073709551616 := by
  have := h.n
  refine Nat.lt_of_lt_of_le ?_ (DS.pow_le (k := d.n + 1) (by omega))
  rw [Nat.shiftLeft_eq, show 8 * (d.n + 1) = 8 + 8 * d.n by omega, Nat.pow_add]
  exact Nat.mul_lt_mul_of_pos_right (by omega) (Nat.pow_pos (by decide))
theorem DS.b_lt {d : DS} (h : d.ok) : d.b < 18446744073709551616 := Nat.lt_of_lt_of_le h.b (DS.pow_le (by have := h.n; omega))
theorem DS.or64 {d : DS} (h : d.ok) {c : Nat} (hc : c < 256) : d.b ||| (c <<< (8 * d.n)) < 18446744073709551616 := Nat.lt_of_lt_of_le (DS.or_lt h hc) (DS.pow_le (by have := h.n; omega))
def hexD (n : Nat) : UInt8 := if n < 10 then (48 + n).toUInt8 else (87 + n).toUInt8
def hexS (s : Nat) : ByteArray := ⟨((List.range 16).map fun i => hexD ((s >>> (60 - 4 * i)) % 16)).toArray⟩
def hexL (s : Nat) : List UInt8 := (List.range 16).map fun i => hexD ((s >>> (60 - 4 * i)) % 16)
/-- the first i letters are written -/
def hexC (s i : Nat) : List Value := (List.range 16).map fun j => .int .u8 (if j < i then ((hexD ((s >>> (60 - 4 * j)) % 16)).toNat : Int) else 0)
theorem hexC_len (s i : Nat) : (hexC s i).length = 16 := by simp [hexC]
theorem hexC_set (s i : Nat) (h : i < 16) : (hexC s i).set i (.int .u8 ((hexD ((s >>> (60 - 4 * i)) % 16)).toNat : Int)) = hexC s (i + 1) := by
  apply List.ext_getElem
  · simp [hexC]
  · intro j h1 h2
    rw [List.getElem_set]
    simp only [hexC, List.getElem_map, List.getElem_range]
    split
    · rename_i e; subst e; rw [if_pos (by omega)]
    · rename_i e
      by_cases hj : j < i
      · rw [if_pos hj, if_pos (by omega)]
      · rw [if_neg hj, if_neg (by omega)]
theorem hexC_get (s : Nat) (j : Nat) (hj : j < (hexL s).length) : (hexC s 16)[j]? = some (.int .u8 ((hexL s)[j].toNat : Int)) := by
  have h : j < 16 := by simpa [hexL] using hj
  rw [List.getElem?_eq_getElem (by rw [hexC_len]; exact h)]
  simp only [hexC, hexL, List.getElem_map, List.getElem_range]
  rw [if_pos h]
def hexTab : List Value := [.int .u8 48, .int .u8 49, .int .u8 50, .int .u8 51, .int .u8 52, .int .u8 53, .int .u8 54, .int .u8 55, .int .u8 56, .int .u8 57, .int .u8 97, .int .u8 98, .int .u8 99, .int .u8 100, .int .u8 101, .int .u8 102]
theorem hexTab_get : ∀ i, i < 16 → hexTab[i]? = some (.int .u8 ((hexD i).toNat : Int))
  | 0, _ => rfl | 1, _ => rfl | 2, _ => rfl | 3, _ => rfl | 4, _ => rfl | 5, _ => rfl | 6, _ => rfl | 7, _ => rfl | 8, _ => rfl | 9, _ => rfl | 10, _ => rfl | 11, _ => rfl | 12, _ => rfl | 13, _ => rfl | 14, _ => rfl | 15, _ => rfl
  | n + 16, h => by omega
theorem DS.adds_take (d : DS) (l : List UInt8) (k : Nat) (h : k < l.length) : d.adds (l.take (k + 1)) = (d.adds (l.take k)).add l[k].toNat := by
  unfold DS.adds
  rw [List.take_succ_eq_append_getElem h, List.foldl_append]; rfl
theorem DS.fill_z {d : DS} (h : d.n = 0) (j : Nat) : DS.fill j d = d := by cases j with
  | zero => rfl
  | succ j => exact if_pos h
theorem DS.fill_s {d : DS} (h : d.n ≠ 0) (j : Nat) : DS.fill (j + 1) d = DS.fill j (d.add 0) := if_neg h
theorem DS.add_n (d : DS) (c : Nat) : (d.add c).n = if d.n + 1 = 8 then 0 else d.n + 1 := by unfold DS.add; split <;> rfl
noncomputable def sumN (t : List UInt8) : Nat := (DS.fill 8 ((DS.z.adds t).add 1)).s
noncomputable def sumS (t : ByteArray) : ByteArray := hexS (sumN t.data.toList)
theorem hexS_size (s : Nat) : (hexS s).size = 16 := by simp [hexS, ByteArray.size]
theorem sumS_size (t : ByteArray) : (sumS t).size = 16 := hexS_size _
noncomputable def chainS (t : ByteArray) : Nat → ByteArray
  | 0 => t
  | n + 1 => sumS (chainS t n)
theorem chainS_size {t : ByteArray} (h : t.size ≤ 9223372036854775807) : ∀ n, (chainS t n).size ≤ 9223372036854775807
  | 0 => h
  | n + 1 => by show (sumS _).size ≤ _; rw [sumS_size]; decide
/-- the joined text of a list -/
def partL (s : ByteArray) : List UInt8 := Go.Lib.itoa (s.size : Int) ++ [58] ++ s.data.toList
def joinL (xs : List ByteArray) : List UInt8 := xs.flatMap partL
noncomputable def listS (xs : List ByteArray) : ByteArray := sumS ⟨(joinL xs).toArray⟩
theorem joinL_take {xs : List ByteArray} {k : Nat} (h : k < xs.length) : joinL (xs.take (k + 1)) = joinL (xs.take k) ++ partL xs[k] := by
  unfold joinL; rw [List.take_succ_eq_append_getElem h, List.flatMap_append]; simp
theorem joinL_le {xs : List ByteArray} {k : Nat} (h : k < xs.length) : (joinL (xs.take k)).length + (partL xs[k]).length ≤ (joinL xs).length := by
  rw [← List.length_append, ← joinL_take h]
  conv => rhs; rw [← List.take_append_drop (k + 1) xs]
  unfold joinL; rw [List.flatMap_append, List.length_append]; omega
theorem partL_text (s : ByteArray) : ((⟨(Go.Lib.itoa (s.size : Int)).toArray⟩ : ByteArray) ++ (⟨#[58]⟩ : ByteArray) ++ s).data.toList = partL s := by
  unfold partL; simp [ByteArray.data_append]
theorem partL_size (s : ByteArray) : ((⟨(Go.Lib.itoa (s.size : Int)).toArray⟩ : ByteArray) ++ (⟨#[58]⟩ : ByteArray) ++ s).size = (partL s).length := by
  rw [← partL_text]; exact Array.length_toList.symm
theorem partL_len (s : ByteArray) : (partL s).length = (Go.Lib.itoa (s.size : Int)).length + 1 + s.size := by
  unfold partL; rw [List.length_append, List.length_append, show s.data.toList.length = s.size from Array.length_toList]; rfl
def encS (s : ByteArray) : List Value := [.string s]
end Go.Proofs.YtjdbggnhdeaflaaGreatDoor
end
section
namespace Go.Proofs.YtjdbggnhdeaflaaGreatDoor
open Go Go.Gw
set_option linter.unusedSimpArgs false
set_option linter.unusedVariables false
/-- the letters of digests -/
def hexCut : List UInt8 := [48, 49, 50, 51, 52, 53, 54, 55, 56, 57, 97, 98, 99, 100, 101, 102]
def isD (t : ByteArray) : Bool := decide (t.size = 16) && t.data.toList.all (hexCut.contains ·)
theorem dropWhile_nil {α : Type} (p : α → Bool) : ∀ l : List α, (l.dropWhile p = []) ↔ l.all p = true
  | [] => by simp
  | x :: r => by
    cases h : p x with
    | true => simp [List.dropWhile_cons, h, dropWhile_nil p r]
    | false => simp [List.dropWhile_cons, h]
theorem all_sub {α : Type} {p : α → Bool} {l m : List α} (h : ∀ x ∈ l, x ∈ m) (hm : m.all p = true) : l.all p = true := List.all_eq_true.2 fun x hx => List.all_eq_true.1 hm x (h x hx)
theorem trim_nil (l cs : List UInt8) : decide ((⟨(Go.Lib.trimS l cs).toArray⟩ : ByteArray) = ⟨#[]⟩) = l.all (cs.contains ·) := by
  have e : ((⟨(Go.Lib.trimS l cs).toArray⟩ : ByteArray) = ⟨#[]⟩) ↔ Go.Lib.trimS l cs = [] := by
    constructor
    · intro h; have := congrArg (fun b : ByteArray => b.data.toList) h; simpa using this
    · intro h; rw [h]
  rw [Bool.eq_iff_iff, decide_eq_true_eq, e]
  unfold Go.Lib.trimS Go.Lib.trimLeftS Go.Lib.trimRightS
  rw [dropWhile_nil]
  constructor
  · intro h
    have h2 : (l.reverse.dropWhile (cs.contains ·)).all (cs.contains ·) = true := by
      refine all_sub (fun x hx => List.mem_reverse.2 hx) h
    have h3 : l.reverse.dropWhile (cs.contains ·) = [] := by
      cases h4 : l.reverse.dropWhile (cs.contains ·) with
      | nil => rfl
      | cons x r =>
        have h5 := List.head?_dropWhile_not (cs.contains ·) l.reverse
        rw [h4] at h5 h2
        simp only [List.head?_cons] at h5
        have h6 := List.all_eq_true.1 h2 x (by simp)
        rw [h6] at h5; simp at h5
    rw [dropWhile_nil] at h3
    exact all_sub (fun x hx => List.mem_reverse.2 hx) h3
  · intro h
    have h3 : l.reverse.dropWhile (cs.contains ·) = [] := by
      rw [dropWhile_nil]; exact all_sub (fun x hx => List.mem_reverse.1 hx) h
    rw [h3]; rfl
theorem isD_size {t : ByteArray} (h : isD t = true) : t.size = 16 := by
  unfold isD at h
  simp only [Bool.and_eq_true, decide_eq_true_eq] at h
  exact h.1
/-- the digits of a message -/
def digL (s : Nat) : List Nat := (List.range 16).map fun i => (s >>> (60 - 4 * i)) % 16
def restL (s k : Nat) : Nat := (((digL s).take k).map (15 - ·)).sum
noncomputable def digs (m : ByteArray) : List Nat := digL (sumN m.data.toList) ++ [restL (sumN m.data.toList) 16 / 16, restL (sumN m.data.toList) 16 % 16]
theorem digL_len (s : Nat) : (digL s).length = 16 := by simp [digL]
theorem digL_lt (s k : Nat) : (digL s).getD k 0 < 16 := by
  rw [List.getD_eq_getElem?_getD]
  cases h : (digL s)[k]? with
  | none => simp
  | some x =>
    have := List.mem_of_getElem? h
    unfold digL at this
    obtain ⟨i, _, rfl⟩ := List.mem_map.1 this
    exact Nat.mod_lt _ (by decide)
theorem restL_s (s k : Nat) (h : k < 16) : restL s (k + 1) = restL s k + (15 - (digL s).getD k 0) := by
  unfold restL
  have hk : k < (digL s).length := by rw [digL_len]; exact h
  rw [List.take_succ_eq_append_getElem hk, List.map_append, List.sum_append]
  simp [List.getD_eq_getElem?_getD, List.getElem?_eq_getElem hk]
theorem restL_le (s : Nat) : ∀ k, k ≤ 16 → restL s k ≤ 15 * k
  | 0, _ => by simp [restL]
  | k + 1, h => by rw [restL_s s k (by omega)]; have := restL_le s k (by omega); omega
theorem digs_le (m : ByteArray) (k : Nat) : (digs m).getD k 0 ≤ 15 := by
  have hr := restL_le (sumN m.data.toList) 16 (Nat.le_refl _)
  have hd := digL_lt (sumN m.data.toList) k
  unfold digs
  rw [List.getD_eq_getElem?_getD, List.getElem?_append]
  rw [List.getD_eq_getElem?_getD] at hd
  split
  · omega
  · rename_i h
    rw [digL_len] at h
    obtain ⟨j, rfl⟩ : ∃ j, k = 16 + j := ⟨k - 16, by omega⟩
    rw [digL_len, Nat.add_sub_cancel_left]
    match j with
    | 0 => simp only [List.getElem?_cons_zero, Option.getD_some]; omega
    | 1 => simp only [List.getElem?_cons_succ, List.getElem?_cons_zero, Option.getD_some]; omega
    | j + 2 => simp
def digC (s k : Nat) : List Value := (List.range 18).map fun j => .int .i64 (if j < k then ((digL s).getD j 0 : Int) else 0)
noncomputable def digV (m : ByteArray) : List Value := (List.range 18).map fun j => .int .i64 ((digs m).getD j 0 : Int)
theorem digC_len (s k : Nat) : (digC s k).length = 18 := by simp [digC]
theorem digV_len (m : ByteArray) : (digV m).length = 18 := by simp [digV]
theorem digC_set (s i : Nat) (h : i < 16) : (digC s i).set i (.int .i64 ((digL s).getD i 0 : Int)) = digC s (i + 1) := by
  apply List.ext_getElem
  · simp [digC]
  · intro j h1 h2
    rw [List.getElem_set]
    simp only [digC, List.getElem_map, List.getElem_range]
    split
    · rename_i e; subst e; rw [if_pos (by omega)]
    · rename_i e
      by_cases hj : j < i
      · rw [if_pos hj, if_pos (by omega)]
      · rw [if_neg hj, if_neg (by omega)]
theorem digC_get (s i : Nat) (h : i < 16) : (digC s (i + 1))[i]? = some (.int .i64 ((digL s).getD i 0 : Int)) := by
  rw [List.getElem?_eq_getElem (by rw [digC_len]; omega)]
  simp only [digC, List.getElem_map, List.getElem_range]
  rw [if_pos (by omega)]
theorem digV_get (m : ByteArray) (i : Nat) (h : i < 18) : (digV m)[i]? = some (.int .i64 ((digs m).getD i 0 : Int)) := by
  rw [List.getElem?_eq_getElem (by rw [digV_len]; omega)]
  simp only [digV, List.getElem_map, List.getElem_range]
theorem digs_lo (m : ByteArray) (j : Nat) (h : j < 16) : (digs m).getD j 0 = (digL (sumN m.data.toList)).getD j 0 := by
  unfold digs
  rw [List.getD_eq_getElem?_getD, List.getD_eq_getElem?_getD, List.getElem?_append_left (by rw [digL_len]; exact h)]
theorem digs_16 (m : ByteArray) : (digs m).getD 16 0 = restL (sumN m.data.toList) 16 / 16 := by
  unfold digs
  rw [List.getD_eq_getElem?_getD, List.getElem?_append_right (by rw [digL_len]; exact Nat.le_refl _), digL_len]
  rfl
theorem digs_17 (m : ByteArray) : (digs m).getD 17 0 = restL (sumN m.data.toList) 16 % 16 := by
  unfold digs
  rw [List.getD_eq_getElem?_getD, List.getElem?_append_right (by rw [digL_len]; decide), digL_len]
  rfl
theorem digV_fin (m : ByteArray) (s r q : Nat) (hs : s = sumN m.data.toList) (hr : r = restL s 16 / 16) (hq : q = restL s 16 % 16) : ((digC s 16).set 16 (.int .i64 (r : Int))).set 17 (.int .i64 (q : Int)) = digV m := by
  rw [hs] at hr hq
  have hl : (((digC s 16).set 16 (.int .i64 (r : Int))).set 17 (.int .i64 (q : Int))).length = 18 := by rw [List.length_set, List.length_set, digC_len]
  apply List.ext_getElem?
  intro j
  by_cases hj : j < 18
  · rw [List.getElem?_set, List.getElem?_set, digV_get m j hj, List.length_set, digC_len]
    by_cases h16 : j < 16
    · rw [if_neg (by omega), if_neg (by omega), digs_lo m j h16, ← hs]
      have := List.getElem?_eq_getElem (l := digC s 16) (i := j) (by rw [digC_len]; omega)
      rw [this]
      simp only [digC, List.getElem_map, List.getElem_range]
      rw [if_pos h16]
    · have : j = 16 ∨ j = 17 := by omega
      rcases this with rfl | rfl
      · rw [digs_16, hr]; rfl
      · rw [digs_17, hq]; rfl
  · rw [List.getElem?_eq_none (by omega), List.getElem?_eq_none (by rw [digV_len]; omega)]
theorem digV_one (m : ByteArray) : (digV m).all (·.oneCell') = true := by
  unfold digV; rw [List.all_map]; exact List.all_eq_true.2 fun x _ => rfl
theorem idx_hexD : ∀ d, d < 16 → Go.Lib.indexByte hexCut (((hexD d).toNat : Int)).toNat.toUInt8 = (d : Int)
  | 0, _ => by decide | 1, _ => by decide | 2, _ => by decide | 3, _ => by decide | 4, _ => by decide | 5, _ => by decide | 6, _ => by decide | 7, _ => by decide
  | 8, _ => by decide | 9, _ => by decide | 10, _ => by decide | 11, _ => by decide | 12, _ => by decide | 13, _ => by decide | 14, _ => by decide | 15, _ => by decide
  | n + 16, h => by omega
theorem sumS_list (t : ByteArray) : (sumS t).data.toList = (digL (sumN t.data.toList)).map hexD := by
  unfold sumS hexS digL; simp
theorem sumS_at (t : ByteArray) (k : Nat) (hk : k < (sumS t).data.toList.length) : (sumS t).data.toList[k] = hexD ((digL (sumN t.data.toList)).getD k 0) := by
  have h := sumS_list t
  have hl : k < (digL (sumN t.data.toList)).length := by have := congrArg List.length h; simp only [List.length_map] at this; omega
  simp only [h, List.getElem_map, List.getD_eq_getElem?_getD, List.getElem?_eq_getElem hl, Option.getD_some]
theorem sumS_len (t : ByteArray) : (sumS t).data.toList.length = 16 := by rw [sumS_list]; simp [digL_len]
/-- ends of the chains of a signature -/
noncomputable def endsK (m : ByteArray) (xs : List ByteArray) (k : Nat) : List ByteArray := (List.range k).map fun i => chainS (xs.getD i ⟨#[]⟩) (15 - (digs m).getD i 0)
noncomputable def verB (pub m : ByteArray) (xs : List ByteArray) : Bool := decide (xs.length = 18) && xs.all isD && decide (listS (endsK m xs 18) = pub)
theorem endsK_s (m : ByteArray) (xs : List ByteArray) (k : Nat) (h : k < xs.length) : endsK m xs k ++ [chainS xs[k] (15 - (digs m).getD k 0)] = endsK m xs (k + 1) := by
  unfold endsK
  rw [List.range_succ, List.map_append]
  simp [List.getElem?_eq_getElem h]
theorem endsK_len (m : ByteArray) (xs : List ByteArray) (k : Nat) : (endsK m xs k).length = k := by simp [endsK]
theorem chainS_size16 {t : ByteArray} (h : t.size = 16) : ∀ n, (chainS t n).size = 16
  | 0 => h
  | n + 1 => sumS_size _
theorem endsK_size {m : ByteArray} {xs : List ByteArray} {k : Nat} (hk : k ≤ xs.length) (h : ∀ i (h : i < xs.length), i < k → isD xs[i] = true) : ∀ x ∈ endsK m xs k, x.size = 16 := fun x hx => by
  unfold endsK at hx
  obtain ⟨i, hi, rfl⟩ := List.mem_map.1 hx
  have hi := List.mem_range.1 hi
  have hl : i < xs.length := by omega
  have := h i hl hi
  refine chainS_size16 ?_ _
  simpa [List.getElem?_eq_getElem hl] using isD_size this
theorem itoaL_len (n : Int) (h0 : -9223372036854775808 ≤ n) (h1 : n ≤ 9223372036854775807) : (Go.Lib.itoa n).length ≤ 21 := Go.Lib.itoa_length_le n h0 h1
theorem joinL_bound {xs : List ByteArray} {b : Nat} (hb : b ≤ 1000000000) (h : ∀ x ∈ xs, x.size ≤ b) : (joinL xs).length ≤ xs.length * (b + 22) := by
  induction xs with
  | nil => simp [joinL]
  | cons x r ih =>
    have h1 := ih (fun y hy => h y (by simp [hy]))
    have h2 := h x (by simp)
    have h3 := itoaL_len (x.size : Int) (by omega) (by omega)
    have h4 := partL_len x
    unfold joinL at h1 ⊢
    rw [List.flatMap_cons, List.length_append, List.length_cons, Nat.add_mul]
    omega
theorem list_ok {xs : List ByteArray} (h : ∀ x ∈ xs, x.size ≤ 1000) (hl : xs.length ≤ 1000000) : (joinL xs).length ≤ 140737488355328 := by
  have h1 := joinL_bound (b := 1000) (by decide) h
  have h2 : xs.length * (1000 + 22) ≤ 1000000 * (1000 + 22) := Nat.mul_le_mul_right _ hl
  omega
/-- starts and links of the chains of a secret -/
def itoaS (n : Int) : ByteArray := ⟨(Go.Lib.itoa n).toArray⟩
theorem itoaS_size (n : Int) (h0 : -9223372036854775808 ≤ n) (h1 : n ≤ 9223372036854775807) : (itoaS n).size ≤ 21 := by
  have := itoaL_len n h0 h1
  have e : (itoaS n).size = (Go.Lib.itoa n).length := by show (Go.Lib.itoa n).toArray.size = _; simp
  omega
noncomputable def startS (s : ByteArray) (i : Nat) : ByteArray := listS [s, itoaS (i : Int)]
noncomputable def walkK (s : ByteArray) (d : Nat → Nat) (k : Nat) : List ByteArray := (List.range k).map fun i => chainS (startS s i) (d i)
noncomputable def pubS (s : ByteArray) : ByteArray := listS (walkK s (fun _ => 15) 18)
theorem walkK_s (s : ByteArray) (d : Nat → Nat) (k : Nat) : walkK s d k ++ [chainS (startS s k) (d k)] = walkK s d (k + 1) := by
  unfold walkK; rw [List.range_succ, List.map_append]; simp
theorem listS_size (xs : List ByteArray) : (listS xs).size = 16 := sumS_size _
theorem walkK_len (s : ByteArray) (d : Nat → Nat) (k : Nat) : (walkK s d k).length = k := by simp [walkK]
theorem walkK_size (s : ByteArray) (d : Nat → Nat) (k : Nat) : ∀ x ∈ walkK s d k, x.size = 16 := fun x hx => by
  unfold walkK at hx
  obtain ⟨i, _, rfl⟩ := List.mem_map.1 hx
  exact chainS_size16 (listS_size _) _
/-- a transfer as it lies in memory: sv is the signature's slice -/
structure XV where
  tw : ByteArray
  sv : Value
  sig : List ByteArray
instance : Inhabited XV := ⟨⟨⟨#[]⟩, .slice none 0 0, []⟩⟩
def encX (x : XV) : List Value := [.string x.tw, x.sv]
structure TV where
  serial : Int
  show_ : Int
  place : Int
  first : ByteArray
  cv : Value
  chain : List XV
def encT (t : TV) : List Value := [.int .i64 t.serial, .int .i64 t.show_, .int .i64 t.place, .string t.first, t.cv]
/-- inner slices of a chain, to be read -/
def XRows (xs : List XV) : Atom where
  own := false
  fp := fun k => ∃ x ∈ xs, x.sv.ownBlock = some k ∧ 0 < 1 ∧ x.sig ≠ []
  ok := fun w => ∀ x ∈ xs, IsSl w x.sv 1 encS x.sig
  loc := fun w w' h hok x hx => (Sl x.sv 1 encS x.sig).loc w w' (fun b hb => h b ⟨x, hx, hb⟩) (hok x hx)
  lt := fun w b hok ⟨x, hx, hb⟩ => (Sl x.sv 1 encS x.sig).lt w b (hok x hx) hb
instance (priority := 2000) HasSl.xrow (l : List Atom) (xs : List XV) (i : Nat) (h : i < xs.length) : HasSl (XRows xs :: l) (xs[i]'h).sv 1 ByteArray encS (xs[i]'h).sig := ⟨fun w hw => hw (XRows xs) (List.mem_cons_self ..) _ (List.getElem_mem h)⟩
instance ROs.xrows (xs : List XV) (r : List Atom) [h : ROs r] : ROs (XRows xs :: r) := ⟨by simpa [XRows] using h.all⟩
structure TOk (w : World) (t : TV) : Prop where
  sl : IsSl w t.cv 2 encX t.chain
  cap : capOK t.cv
  rows : ∀ x ∈ t.chain, IsSl w x.sv 1 encS x.sig
structure TSz (t : TV) : Prop where
  s0 : -9223372036854775808 ≤ t.serial ∧ t.serial ≤ 9223372036854775807
  s1 : -9223372036854775808 ≤ t.show_ ∧ t.show_ ≤ 9223372036854775807
  s2 : -9223372036854775808 ≤ t.place ∧ t.place ≤ 9223372036854775807
  first : t.first.size ≤ 1000
  len : t.chain.length ≤ 1000
  x : ∀ x ∈ t.chain, x.tw.size ≤ 1000 ∧ x.sig.length ≤ 1000 ∧ ∀ s ∈ x.sig, s.size ≤ 1000
theorem IsSl.ext {w w' : World} (e : Ext w w') {v : Value} {sz : Nat} {α : Type} {enc : α → List Value} {xs : List α} (h : IsSl w v sz enc xs) : IsSl w' v sz enc xs := (Sl v sz enc xs).loc w w' (fun b hb => e.block ((Sl v sz enc xs).lt w b h hb)) h
theorem TOk.ext {w w' : World} {t : TV} (e : Ext w w') (h : TOk w t) : TOk w' t := ⟨IsSl.ext e h.sl, h.cap, fun x hx => IsSl.ext e (h.rows x hx)⟩
def cutT (t : TV) (i : Nat) : TV := { t with cv := subV t.cv 0 i 2, chain := t.chain.take i }
theorem TOk.cut {w : World} {t : TV} (h : TOk w t) (i : Nat) : TOk w (cutT t i) :=
  ⟨by have := h.sl.sub h.cap 0 i; rwa [List.drop_zero] at this, capOK_sub h.cap 0 i 2, fun x hx => h.rows x (List.mem_of_mem_take hx)⟩
theorem TSz.cut {t : TV} (h : TSz t) (i : Nat) : TSz (cutT t i) :=
  ⟨h.s0, h.s1, h.s2, h.first, by show (t.chain.take i).length ≤ 1000; rw [List.length_take]; have := h.len; omega, fun x hx => h.x x (List.mem_of_mem_take hx)⟩
def numT (t : TV) : Int := IntKind.i64.wrap (t.serial - IntKind.i64.wrap (IntKind.i64.wrap (t.show_ + 1) * 10000))
def formX (x : XV) : Bool := decide (x.sig.length = 18) && isD x.tw && x.sig.all isD
def headB (t : TV) : Bool := !(decide (t.show_ < 0) || decide (t.show_ ≥ 20) || decide (numT t < 1) || decide (numT t > 9999) || decide (t.place < -1) || decide (t.place ≥ 4000) || !isD t.first || decide ((t.chain.length : Int) > 50))
def formedB (t : TV) : Bool := headB t && t.chain.all formX
def msgL (t : TV) (tw : ByteArray) : List ByteArray := [itoaS t.serial, itoaS t.show_, t.first] ++ t.chain.map (·.tw) ++ [tw]
noncomputable def msgS (t : TV) (tw : ByteArray) : ByteArray := listS (msgL t tw)
def ownerS (t : TV) : ByteArray := match t.chain.getLast? with | some x => x.tw | none => t.first
def usedB (t : TV) (key : ByteArray) : Bool := decide (t.first = key) || t.chain.any (fun x => decide (x.tw = key))
noncomputable def stepB (t : TV) (i : Nat) : Bool := match t.chain[i]? with
  | some x => !usedB (cutT t i) x.tw && verB (ownerS (cutT t i)) (msgS (cutT t i) x.tw) x.sig
  | none => true
noncomputable def validB (t : TV) : Bool := formedB t && (List.range t.chain.length).all (stepB t)
theorem encX_one {w : World} {x : XV} (h : x.sv.oneCell' = true) : (encX x).all (·.oneCell') = true := by
  simp only [encX, List.all_cons, List.all_nil, h]; rfl
theorem encT_one {t : TV} (h : t.cv.oneCell' = true) : (encT t).all (·.oneCell') = true := by
  simp only [encT, List.all_cons, List.all_nil, h]; rfl
theorem _root_.Go.Gw.HSat.tok {M : Nat → Prop} {w0 w : World} {l : List Atom} (H : HSat M w0 l w) (t : TV) [h1 : HasSl l t.cv 2 XV encX t.chain] [h2 : HasCap l t.cv] [h3 : HasAt l (XRows t.chain)] : TOk w t := ⟨H.sl t.cv, H.cap t.cv, H.ok _ h3.mem⟩
theorem ownerS_some {t : TV} (h : 0 < t.chain.length) : ownerS t = (t.chain[t.chain.length - 1]'(by omega)).tw := by
  unfold ownerS
  rw [List.getLast?_eq_getElem?, List.getElem?_eq_getElem (by omega)]
theorem ownerS_none {t : TV} (h : ¬ 0 < t.chain.length) : ownerS t = t.first := by
  unfold ownerS
  have : t.chain = [] := List.eq_nil_of_length_eq_zero (by omega)
  rw [this]; rfl
theorem stepB_at {t : TV} {k : Nat} (h : k < t.chain.length) : stepB t k = (!usedB (cutT t k) t.chain[k].tw && verB (ownerS (cutT t k)) (msgS (cutT t k) t.chain[k].tw) t.chain[k].sig) := by
  unfold stepB
  rw [List.getElem?_eq_getElem h]
theorem msgL_size {t : TV} {tw : ByteArray} (h : TSz t) (ht : tw.size ≤ 1000) : (∀ x ∈ msgL t tw, x.size ≤ 1000) ∧ (msgL t tw).length ≤ 1004 := by
  refine ⟨fun x hx => ?_, ?_⟩
  · unfold msgL at hx
    simp only [List.mem_append, List.mem_cons, List.not_mem_nil, or_false, List.mem_map] at hx
    have h1 := itoaS_size t.serial h.s0.1 h.s0.2
    have h2 := itoaS_size t.show_ h.s1.1 h.s1.2
    have h3 := h.first
    rcases hx with ((rfl | rfl | rfl) | ⟨y, hy, rfl⟩) | rfl
    · omega
    · omega
    · omega
    · exact (h.x y hy).1
    · exact ht
  · unfold msgL
    have := h.len
    simp only [List.length_append, List.length_cons, List.length_nil, List.length_map]; omega
end Go.Proofs.YtjdbggnhdeaflaaGreatDoor
end
section
namespace Go.Proofs.YtjdbggnhdeaflaaGreatDoor
open Go Go.Gw
set_option linter.unusedSimpArgs false
set_option linter.unusedVariables false
theorem hexD_in : ∀ d, d < 16 → hexCut.contains (hexD d) = true
  | 0, _ => by decide | 1, _ => by decide | 2, _ => by decide | 3, _ => by decide | 4, _ => by decide | 5, _ => by decide | 6, _ => by decide | 7, _ => by decide
  | 8, _ => by decide | 9, _ => by decide | 10, _ => by decide | 11, _ => by decide | 12, _ => by decide | 13, _ => by decide | 14, _ => by decide | 15, _ => by decide
  | n + 16, h => by omega
theorem isD_sumS (t : ByteArray) : isD (sumS t) = true := by
  unfold isD
  rw [decide_eq_true (sumS_size t), Bool.true_and, sumS_list, List.all_map]
  refine List.all_eq_true.2 fun x hx => ?_
  unfold digL at hx
  obtain ⟨i, _, rfl⟩ := List.mem_map.1 hx
  exact hexD_in _ (Nat.mod_lt _ (by decide))
theorem isD_listS (xs : List ByteArray) : isD (listS xs) = true := isD_sumS _
def encI (n : Int) : List Value := [.int .i64 n]
end Go.Proofs.YtjdbggnhdeaflaaGreatDoor
end
section
namespace Go.Proofs.YtjdbggnhdeaflaaGreatDoor
open Go Go.Gw
set_option linter.unusedSimpArgs false
set_option linter.unusedVariables false
def noB : ByteArray := ⟨#[]⟩
def leafW : ByteArray := ⟨#[108, 101, 97, 102]⟩
def nodeW : ByteArray := ⟨#[110, 111, 100, 101]⟩
noncomputable def leafD (s : ByteArray) : ByteArray := listS [leafW, s]
noncomputable def nodeD (x y : ByteArray) : ByteArray := listS [nodeW, x, y]
/-- the level above -/
noncomputable def nextL : List ByteArray → List ByteArray
  | x :: y :: r => nodeD x y :: nextL r
  | [x] => [x]
  | [] => []
theorem nextL_len : ∀ l : List ByteArray, (nextL l).length = (l.length + 1) / 2
  | [] => by simp [nextL]
  | [x] => by simp [nextL]
  | x :: y :: r => by
    have := nextL_len r
    simp only [nextL, List.length_cons, this]; omega
theorem nextL_at : ∀ (l : List ByteArray) (i : Nat), (nextL l).getD i noB = if 2 * i + 1 < l.length then nodeD (l.getD (2 * i) noB) (l.getD (2 * i + 1) noB) else l.getD (2 * i) noB
  | [], i => by simp [nextL]
  | [x], 0 => by simp [nextL]
  | [x], i + 1 => by
    have h : ¬ 2 * (i + 1) + 1 < [x].length := by simp
    rw [if_neg h]
    simp [nextL, show 2 * (i + 1) = (2 * i + 1) + 1 by omega]
  | x :: y :: r, 0 => by simp [nextL]
  | x :: y :: r, i + 1 => by
    have := nextL_at r i
    have e1 : 2 * (i + 1) = (2 * i) + 1 + 1 := by omega
    have e2 : 2 * (i + 1) + 1 = (2 * i + 1) + 1 + 1 := by omega
    simp only [nextL, List.getD_cons_succ, this, e1, e2, List.length_cons]
    simp only [show (2 * i + 1 + 1 + 1 < r.length + 1 + 1) = (2 * i + 1 < r.length) by simp]
/-- the levels, from the lowest one on -/
noncomputable def lvN (l : List ByteArray) : Nat → List ByteArray
  | 0 => l
  | k + 1 => nextL (lvN l k)
theorem lvN_len (l : List ByteArray) (k : Nat) : (lvN l (k + 1)).length = ((lvN l k).length + 1) / 2 := nextL_len _
theorem lvN_pos {l : List ByteArray} (h : 0 < l.length) : ∀ k, 0 < (lvN l k).length
  | 0 => h
  | k + 1 => by rw [lvN_len]; have := lvN_pos h k; omega
/-- how many levels there are above the lowest one -/
def depF : Nat → Nat → Nat
  | 0, _ => 0
  | f + 1, n => if n ≤ 1 then 0 else depF f ((n + 1) / 2) + 1
def dep (n : Nat) : Nat := depF n n
theorem depF_top : ∀ (f n : Nat) (l : List ByteArray), l.length = n → n ≤ f → (lvN l (depF f n)).length ≤ 1 ∧ ∀ k, k < depF f n → 1 < (lvN l k).length
  | 0, n, l, hl, h => ⟨by unfold depF lvN; omega, fun k hk => by unfold depF at hk; omega⟩
  | f + 1, n, l, hl, h => by
    unfold depF
    by_cases h1 : n ≤ 1
    · rw [if_pos h1]; exact ⟨by show l.length ≤ 1; omega, fun k hk => by omega⟩
    · rw [if_neg h1]
      obtain ⟨a, b⟩ := depF_top f ((n + 1) / 2) (nextL l) (by rw [nextL_len, hl]) (by omega)
      have e : ∀ k, lvN l (k + 1) = lvN (nextL l) k := fun k => by
        induction k with
        | zero => rfl
        | succ k ih => rw [lvN, ih]; rfl
      refine ⟨by rw [e]; exact a, fun k hk => ?_⟩
      cases k with
      | zero => show 1 < l.length; omega
      | succ k => rw [e]; exact b k (by omega)
theorem dep_top (l : List ByteArray) : (lvN l (dep l.length)).length ≤ 1 := (depF_top _ _ l rfl (Nat.le_refl _)).1
theorem dep_more {l : List ByteArray} {k : Nat} (h : k < dep l.length) : 1 < (lvN l k).length := (depF_top _ _ l rfl (Nat.le_refl _)).2 k h
theorem lvN_same {l m : List ByteArray} (h : l.length = m.length) : ∀ k, (lvN l k).length = (lvN m k).length
  | 0 => h
  | k + 1 => by rw [lvN_len, lvN_len, lvN_same h k]
noncomputable def rootT (l : List ByteArray) : ByteArray := (lvN l (dep l.length)).getD 0 noB
/-- the index of a leaf's ancestor -/
def anc (i k : Nat) : Nat := i / 2 ^ k
theorem anc_0 (i : Nat) : anc i 0 = i := by simp [anc]
theorem anc_s (i k : Nat) : anc i (k + 1) = anc i k / 2 := by unfold anc; rw [Nat.pow_succ, Nat.div_div_eq_div_mul]
theorem anc_lt {l : List ByteArray} {i : Nat} (h : i < l.length) : ∀ k, anc i k < (lvN l k).length
  | 0 => by rw [anc_0]; exact h
  | k + 1 => by rw [anc_s, lvN_len]; have := anc_lt h k; omega
theorem xor1 (q : Nat) : q ^^^ 1 = if q % 2 = 0 then q + 1 else q - 1 := by
  have h1 : (q ^^^ 1) % 2 = (q % 2 + 1) % 2 := by
    have := @Nat.xor_mod_two_eq_one q 1
    omega
  have h2 : (q ^^^ 1) / 2 = q / 2 := by rw [Nat.xor_div_two]; simp
  split <;> omega
/-- what stands beside the way at level k -/
noncomputable def besK (l : List ByteArray) (i k : Nat) : List ByteArray := if anc i k ^^^ 1 < (lvN l k).length then [(lvN l k).getD (anc i k ^^^ 1) noB] else []
noncomputable def pthK (l : List ByteArray) (i : Nat) : Nat → List ByteArray
  | 0 => []
  | k + 1 => pthK l i k ++ besK l i k
noncomputable def pathT (l : List ByteArray) (i : Nat) : List ByteArray := pthK l i (dep l.length + 1)
theorem lvN_up {l : List ByteArray} {i : Nat} (h : i < l.length) (k : Nat) : (lvN l (k + 1)).getD (anc i (k + 1)) noB =
    if anc i k ^^^ 1 < (lvN l k).length then (if anc i k % 2 = 0 then nodeD ((lvN l k).getD (anc i k) noB) ((lvN l k).getD (anc i k ^^^ 1) noB) else nodeD ((lvN l k).getD (anc i k ^^^ 1) noB) ((lvN l k).getD (anc i k) noB)) else (lvN l k).getD (anc i k) noB := by
  have h1 := anc_lt h k
  show (nextL (lvN l k)).getD _ noB = _
  rw [nextL_at, anc_s, xor1]
  generalize anc i k = q at *
  by_cases hq : q % 2 = 0
  · have e : 2 * (q / 2) = q := by omega
    simp only [hq, if_true, e]
  · have e : 2 * (q / 2) = q - 1 := by omega
    have e2 : 2 * (q / 2) + 1 = q := by omega
    rw [e, show q - 1 + 1 = q by omega]
    simp only [hq, if_false]
    rw [if_pos h1, if_pos (by omega)]
theorem pth_len {l m : List ByteArray} (h : l.length = m.length) (i : Nat) : ∀ k, (pthK l i k).length = (pthK m i k).length
  | 0 => rfl
  | k + 1 => by
    rw [pthK, pthK, List.length_append, List.length_append, pth_len h i k]
    unfold besK
    rw [lvN_same h k]
    split <;> rfl
theorem lvN_D {l : List ByteArray} (h : ∀ x ∈ l, isD x = true) : ∀ k, ∀ x ∈ lvN l k, isD x = true
  | 0 => h
  | k + 1 => by
    have ih := lvN_D h k
    have go : ∀ m : List ByteArray, (∀ x ∈ m, isD x = true) → ∀ x ∈ nextL m, isD x = true := by
      intro m
      induction m using nextL.induct with
      | case1 x y r ih =>
        intro hm z hz
        simp only [nextL, List.mem_cons] at hz
        rcases hz with rfl | hz
        · exact isD_listS _
        · exact ih (fun w hw => hm w (by simp [hw])) z hz
      | case2 x => intro hm z hz; simp [nextL] at hz; subst hz; exact hm _ (by simp)
      | case3 => intro _ z hz; simp [nextL] at hz
    exact go _ ih
theorem pth_D {l : List ByteArray} (h : ∀ x ∈ l, isD x = true) (i : Nat) : ∀ k, ∀ x ∈ pthK l i k, isD x = true
  | 0 => by simp [pthK]
  | k + 1 => by
    intro x hx
    rw [pthK, List.mem_append] at hx
    rcases hx with hx | hx
    · exact pth_D h i k x hx
    · unfold besK at hx
      split at hx
      · rename_i hb
        rw [List.mem_singleton.1 hx, List.getD_eq_getElem?_getD, List.getElem?_eq_getElem hb]
        exact lvN_D h k _ (List.getElem_mem hb)
      · cases hx
theorem pth_le (l : List ByteArray) (i : Nat) : ∀ k, (pthK l i k).length ≤ k
  | 0 => by simp [pthK]
  | k + 1 => by
    have := pth_le l i k
    rw [pthK, List.length_append]
    unfold besK
    split <;> simp <;> omega
theorem depF_le : ∀ f n, depF f n ≤ f
  | 0, _ => Nat.le_refl _
  | f + 1, n => by unfold depF; split; omega; have := depF_le f ((n + 1) / 2); omega
theorem dep_le (n : Nat) : dep n ≤ n := depF_le n n
/-- at the top nothing stands beside -/
theorem bes_top {l : List ByteArray} {i : Nat} (h : i < l.length) : besK l i (dep l.length) = [] := by
  have h1 := dep_top l
  have h2 := anc_lt h (dep l.length)
  unfold besK
  rw [if_neg]
  have : anc i (dep l.length) = 0 := by omega
  rw [this]; simp; omega
theorem path_eq {l : List ByteArray} {i : Nat} (h : i < l.length) : pathT l i = pthK l i (dep l.length) := by
  unfold pathT; rw [pthK, bes_top h, List.append_nil]
end Go.Proofs.YtjdbggnhdeaflaaGreatDoor
end
section
namespace Go.Proofs.YtjdbggnhdeaflaaGreatDoor
open Go Go.Gw
set_option linter.unusedSimpArgs false
set_option linter.unusedVariables false
/-- the salts and the elements of the fields of a record -/
noncomputable def elemK (fs : List ByteArray) (s : ByteArray) (i : Nat) : ByteArray := startS s i ++ fs.getD i noB
noncomputable def saltL (s : ByteArray) (n : Nat) : List ByteArray := (List.range n).map (startS s)
noncomputable def elemL (fs : List ByteArray) (s : ByteArray) (n : Nat) : List ByteArray := (List.range n).map (elemK fs s)
noncomputable def leavesL (fs : List ByteArray) (s : ByteArray) : List ByteArray := (elemL fs s fs.length).map leafD
noncomputable def sealF (fs : List ByteArray) (s : ByteArray) : ByteArray := rootT (leavesL fs s)
noncomputable def showP (fs : List ByteArray) (s : ByteArray) (i : Nat) : List ByteArray := startS s i :: pathT (leavesL fs s) i
theorem leavesL_len (fs : List ByteArray) (s : ByteArray) : (leavesL fs s).length = fs.length := by simp [leavesL, elemL]
theorem leavesL_at {fs : List ByteArray} {s : ByteArray} {i : Nat} (h : i < fs.length) : (leavesL fs s).getD i noB = leafD (elemK fs s i) := by
  rw [List.getD_eq_getElem?_getD, List.getElem?_eq_getElem (by rw [leavesL_len]; exact h)]
  simp [leavesL, elemL]
theorem leavesL_D (fs : List ByteArray) (s : ByteArray) : ∀ x ∈ leavesL fs s, isD x = true := by
  intro x hx
  obtain ⟨y, _, rfl⟩ := List.mem_map.1 hx
  exact isD_listS _
theorem startS_D (s : ByteArray) (i : Nat) : isD (startS s i) = true := isD_listS _
theorem showP_D (fs : List ByteArray) (s : ByteArray) (i : Nat) : ∀ x ∈ showP fs s i, isD x = true := by
  intro x hx
  rcases List.mem_cons.1 hx with rfl | hx
  · exact startS_D s i
  · exact pth_D (leavesL_D fs s) i _ x hx
theorem showP_len {fs gs : List ByteArray} (h : fs.length = gs.length) (s t : ByteArray) (i : Nat) : (showP fs s i).length = (showP gs t i).length := by
  have e : (leavesL fs s).length = (leavesL gs t).length := by rw [leavesL_len, leavesL_len, h]
  unfold showP pathT
  rw [List.length_cons, List.length_cons, e, pth_len e]
/-- indices that increase, from 0 to below n, at least one -/
structure IncW (which : List Nat) (n : Nat) : Prop where
  inc : which.Pairwise (· < ·)
  lt : ∀ i ∈ which, i < n
  pos : 0 < which.length
/-- the indices that are selected -/
def selL (sel : List Bool) (k : Nat) : List Nat := (List.range k).filter fun i => sel.getD i false
def chosen (n : Nat) (sel : List Bool) : List Nat := if (selL sel n).length = 0 then [0] else selL sel n
theorem selL_s (sel : List Bool) (k : Nat) : selL sel (k + 1) = if sel.getD k false = true then selL sel k ++ [k] else selL sel k := by
  unfold selL
  rw [List.range_succ, List.filter_append]
  by_cases h : sel.getD k false = true
  · rw [if_pos h]; congr 1; rw [List.filter_cons, if_pos h, List.filter_nil]
  · rw [if_neg h, List.filter_cons, if_neg h, List.filter_nil, List.append_nil]
theorem chosen_ok {n : Nat} (hn : 0 < n) (sel : List Bool) : IncW (chosen n sel) n := by
  unfold chosen
  split
  · exact ⟨by simp, by simp; omega, by simp⟩
  · rename_i h
    refine ⟨?_, fun i hi => ?_, by omega⟩
    · exact (List.pairwise_lt_range (n := n)).filter _
    · exact List.mem_range.1 (List.mem_filter.1 hi).1
theorem inc_len : ∀ (l : List Nat) (lo n : Nat), l.Pairwise (· < ·) → (∀ i ∈ l, lo ≤ i ∧ i < n) → l.length ≤ n - lo
  | [], _, _, _, _ => Nat.zero_le _
  | x :: r, lo, n, h, hb => by
    have h1 := hb x (by simp)
    have ih := inc_len r (x + 1) n (List.pairwise_cons.1 h).2 (fun i hi => ⟨(List.pairwise_cons.1 h).1 i hi, (hb i (by simp [hi])).2⟩)
    rw [List.length_cons]; omega
theorem IncW.len {which : List Nat} {n : Nat} (h : IncW which n) : which.length ≤ n := inc_len which 0 n h.inc fun i hi => ⟨Nat.zero_le _, h.lt i hi⟩
/-- the first k selected fields taken over -/
def overK (fs gs : List ByteArray) (which : List Nat) : Nat → List ByteArray
  | 0 => gs
  | k + 1 => (overK fs gs which k).set (which.getD k 0) (fs.getD (which.getD k 0) noB)
theorem overK_len (fs gs : List ByteArray) (which : List Nat) : ∀ k, (overK fs gs which k).length = gs.length
  | 0 => rfl
  | k + 1 => by rw [overK, List.length_set, overK_len]
theorem overK_at {fs gs : List ByteArray} {which : List Nat} {n : Nat} (hw : IncW which n) (hg : gs.length = n) : ∀ k, k ≤ which.length → ∀ i, i < k → (overK fs gs which k).getD (which.getD i 0) noB = fs.getD (which.getD i 0) noB
  | 0, _, i, hi => by omega
  | k + 1, hk, i, hi => by
    have hlt : which.getD k 0 < (overK fs gs which k).length := by
      rw [overK_len, hg, List.getD_eq_getElem?_getD, List.getElem?_eq_getElem (by omega)]
      exact hw.lt _ (List.getElem_mem _)
    rw [overK, List.getD_eq_getElem?_getD, List.getElem?_set]
    by_cases h : which.getD k 0 = which.getD i 0
    · rw [if_pos h, if_pos hlt, h]; rfl
    · rw [if_neg h, ← List.getD_eq_getElem?_getD]
      by_cases hik : i < k
      · exact overK_at hw hg k (by omega) i hik
      · obtain rfl : i = k := by omega
        exact absurd rfl h
end Go.Proofs.YtjdbggnhdeaflaaGreatDoor
end
section
namespace Go.Gw
set_option linter.unusedVariables false
set_option linter.unusedSimpArgs false
section
variable {P : Program} {w w0 : World} {v : Value} {M : Nat → Prop} {l : List Atom}
theorem IsSl.subM {sz : Nat} {α : Type} {enc : α → List Value} {xs : List α} (h : IsSl w v sz enc xs) (i j m : Nat) (hij : i < j) (hj : j ≤ xs.length) (hm : j ≤ m) : IsSl w (Go.Gw.subM v i j m sz) sz enc ((xs.take j).drop i) := by
  obtain ⟨p, c, rfl⟩ := h.shape
  have hl : ((xs.take j).drop i).length = j - i := by rw [List.length_drop, List.length_take]; omega
  refine ⟨by rw [hl]; have := h.len; omega, ⟨_, _, by rw [hl]; rfl⟩, fun x hx => h.sizes x (List.mem_of_mem_take (List.mem_of_mem_drop hx)), fun k hk => ?_⟩
  rw [hl] at hk
  obtain ⟨b, off, c1, he, hcell⟩ := h.cells (i + k) (by omega)
  simp only [Value.slice.injEq, true_and] at he
  obtain ⟨rfl, rfl⟩ := he
  refine ⟨b, off + i * sz, m - i, ?_, fun q u hu => ?_⟩
  · rw [hl]
    have : m ≠ i := by omega
    simp [Go.Gw.subM, sliced, this, add_plain]
  · have e : ((xs.take j).drop i)[k]'(by rw [hl]; exact hk) = xs[i + k]'(by omega) := by simp
    rw [e] at hu
    rw [← hcell q u hu]
    have : (i + k) * sz = i * sz + k * sz := Nat.add_mul ..
    rw [show off + i * sz + k * sz + q = off + (i + k) * sz + q by omega]
theorem subM_own {i j m sz b : Nat} (hb : (Go.Gw.subM v i j m sz).ownBlock = some b) : v.ownBlock = some b := by
  cases v with
  | slice p n c =>
    cases p with
    | none => simp [Go.Gw.subM, sliced, Value.ownBlock] at hb
    | some a =>
      simp only [Go.Gw.subM, sliced, Option.map_some] at hb
      split at hb
      · exact hb
      · have hb : (a.add (i * sz)).block = b := by simpa [Value.ownBlock] using hb
        have e : (a.add (i * sz)).block = a.block := by unfold Addr.add; split <;> rfl
        rw [e] at hb
        simp [Value.ownBlock, hb]
  | _ => exact hb
theorem subV_own {i j sz b : Nat} (hb : (subV v i j sz).ownBlock = some b) : v.ownBlock = some b := by
  cases v with
  | slice p n c =>
    cases p with
    | none => simp [subV, Value.ownBlock] at hb
    | some a =>
      simp only [subV] at hb
      split at hb
      · exact hb
      · have hb : (a.add (i * sz)).block = b := by simpa [Value.ownBlock] using hb
        have e : (a.add (i * sz)).block = a.block := by unfold Addr.add; split <;> rfl
        rw [e] at hb
        simp [Value.ownBlock, hb]
  | _ => exact hb
/-- a part beside the whole -/
theorem HSat.partM {e : TypeId} {sz : Nat} {α : Type} {enc : α → List Value} {xs : List α} (H : HSat M w0 (Atom.ro (OSl e v sz enc xs) :: l) w) (i j m : Nat) (hij : i < j) (hj : j ≤ xs.length) (hm : j ≤ m) :
    HSat M w0 (Sl (Go.Gw.subM v i j m sz) sz enc ((xs.take j).drop i) :: Atom.ro (OSl e v sz enc xs) :: l) w := by
  refine H.ro _ rfl (IsSl.subM (IsOSl.sl (H.ok _ (List.mem_cons_self ..))) i j m hij hj hm) (fun y hy ho b hb hyb => ?_)
  have hb2 : v.ownBlock = some b := subM_own hb.1
  rcases List.mem_cons.1 hy with rfl | hy
  · cases ho
  · exact (List.pairwise_cons.1 H.sep).1 y hy (.inr ho) b hb2 hyb
/-- a part instead of the whole -/
theorem HSat.partS {sz : Nat} {α : Type} {enc : α → List Value} {xs : List α} (H : HSat M w0 (Sl v sz enc xs :: l) w) (hc : capOK v) (i j : Nat) : HSat M w0 (Sl (subV v i j sz) sz enc ((xs.take j).drop i) :: l) w :=
  H.conv (fun h => by cases h) (fun b hb => ⟨subV_own hb.1, hb.2.1, fun e => hb.2.2 (by rw [e]; simp)⟩) (fun hok => IsSl.sub hok hc i j)
end
end Go.Gw
end
section
namespace Go.Proofs.YtjdbggnhdeaflaaGreatDoor
open Go Go.Gw
set_option linter.unusedVariables false
set_option linter.unusedSimpArgs false
theorem ix0 (p q r s : Value) (w : World) : (Instr.index 176 (.agg #[p, q, r, s]) (.int .i64 0)).run Tryz.prog w = .ok (.agg #[p, q]) w := by kernel_rfl
theorem ix1 (p q r s : Value) (w : World) : (Instr.index 176 (.agg #[p, q, r, s]) (.int .i64 1)).run Tryz.prog w = .ok (.agg #[r, s]) w := by kernel_rfl
theorem mul64 (x y : Nat) (hx : x < 18446744073709551616) (hy : y < 18446744073709551616) (w : World) : Ret Tryz.prog 111 #[.int .u64 (x : Int), .int .u64 (y : Int)] w (fun u w' => u = .tuple #[.int .u64 ((x * y / 18446744073709551616 : Nat) : Int), .int .u64 ((x * y % 18446744073709551616 : Nat) : Int)] ∧ Ext w w') :=
  Calls.mono (Tryz.bits_Mul64 x y hx hy w) fun e w' ⟨h1, h2⟩ => ⟨_, h1, rfl, h2 ▸ Ext.refl w⟩
/-- (*foyer/digest.state).take -/
theorem take_spec {M : Nat → Prop} {u0 : World} {l : List Atom} (pb s c : Nat) (w0 : World) (h0 : HSat M u0 (Cel pb 148 [.int .u64 (s : Int)] :: l) w0) (hs : s < 18446744073709551616) (hc : c < 18446744073709551616) :
    Ret Tryz.prog 95 #[.pointer (some ⟨pb, 0, none⟩), .int .u64 (c : Int)] w0 (fun u w => u = .tuple #[] ∧ HSat M u0 (Cel pb 148 [.int .u64 (take64 s c : Int)] :: l) w) := by
 refine ret_of_wp (nt := 38) Tryz.func95 rfl rfl rfl (fl := [(0, .pointer (some ⟨pb, 0, none⟩)), (1, .int .u64 (c : Int))]) rfl (fun a S => ?_)
 have H := h0
 refine gsr ?_
 refine gm S fun a S => ?_
 refine gy rfl rfl rfl S (y_nilCheck rfl S rfl) fun a S => ?_
 refine gy rfl rfl rfl S (y_load rfl Fsca148 S H rfl rfl) fun a S => ?_
 refine gm S fun a S => ?_
 refine gy rfl rfl rfl S ((y_xoru (m := s) (q := c) rfl S rfl rfl hs hc rfl)) fun a S => ?_
 refine ga S fun a S => ?_
 refine gnt ?_
 have S := (S.nil.cons S 0 rfl).cons S 4 rfl
 refine g_seq ?_
 refine gsr ?_
 refine gy rfl rfl rfl S (y_buildf rfl Fbld175 S rfl (idx := [0, 1]) rfl (cs := [_, _]) rfl) fun a S => ?_
 refine gy rfl rfl rfl S (y_buildf rfl Fbld175 S rfl (idx := [0, 1]) rfl (cs := [_, _]) rfl) fun a S => ?_
 refine gy rfl rfl rfl S (y_buildf rfl Fbld176 S rfl (idx := [0, 1]) rfl (cs := [_, _, _, _]) rfl) fun a S => ?_
 refine gm S fun a S => ?_
 refine gnt ?_
 refine g_block ?_
 rw [← stp0 (s ^^^ c)] at S
 have SU := (S.nil.cons S 0 rfl).cons S 14 rfl
 refine loop_k (X := Nat) SU (fun k => [(4, .int .u64 ((stp k (s ^^^ c) : Nat) : Int)), (15, .int .i64 (k : Int))]) (fun k => k ≤ 2) (fun k => 2 - k) 0 ((S.nil.cons S 15 rfl).cons S 4 rfl) H (by omega) (fun k a w S H hi => ?_)
 simp only [List.cons_append, List.nil_append] at S hi
 refine gsr ?_
 refine gy rfl rfl rfl S (y_bin rfl S rfl rfl rfl) fun a S => ?_
 refine gnt ?_
 refine g_seq ?_
 refine c_if S rfl (fun h1 => ?_) (fun h1 => ?_)
 ·have h1p := h1; try simp only [DL] at h1p
  refine g_skip ?_
  refine n_then ?_
  refine g_seq ?_
  refine g_block ?_
  refine g_seq ?_
  have hkk : k = 0 ∨ k = 1 := by omega
  rcases hkk with rfl | rfl
  ·rw [stp0] at S
   have hx : (s ^^^ c) < 18446744073709551616 := xor_lt hs hc
   have hy : ((s ^^^ c) ^^^ ((s ^^^ c) >>> 32)) < 18446744073709551616 := xor_lt hx (shr_lt hx)
   refine g_region ?_
   refine gy rfl rfl rfl S ((y_index rfl S rfl rfl (ix0 _ _ _ _ _))) fun a S => ?_
   refine wl_of (op_alloc (wn rfl) rfl rfl rfl S H Fzer175 fun b6 a w S H => ?_)
   refine wl_of (op_storea (wn rfl) rfl rfl S H rfl rfl rfl Fsiz175 rfl (cs' := [_, _]) rfl fun a w S H => ?_)
   refine gnt ?_
   refine gsr ?_
   refine gm S fun a S => ?_
   refine gm S fun a S => ?_
   refine gy rfl rfl rfl S (y_iaddra rfl Tryz.underlying175 Fsiz70 S rfl rfl (by omega)) fun a S => ?_
   refine gy rfl rfl rfl S (y_load rfl Fsca70 S H rfl rfl) fun a S => ?_
   refine gy rfl rfl rfl S ((y_shru (m := (s ^^^ c)) (q := 32) rfl S rfl rfl (by decide) rfl)) fun a S => ?_
   refine gy rfl rfl rfl S ((y_xoru (m := (s ^^^ c)) (q := (s ^^^ c) >>> 32) rfl S rfl rfl hx (shr_lt hx) rfl)) fun a S => ?_
   refine ga S fun a S => ?_
   refine gnt ?_
   have S := ((((S.nil.cons S 0 rfl).cons S 14 rfl).cons S 15 rfl).cons S 6 rfl).cons S 4 rfl
   refine g_region ?_
   refine gm S fun a S => ?_
   refine gy rfl rfl rfl S (y_iaddra rfl Tryz.underlying175 Fsiz70 S rfl rfl (by omega)) fun a S => ?_
   refine gy rfl rfl rfl S (y_load rfl Fsca70 S H rfl rfl) fun a S => ?_
   refine wl_of (op_call (wn rfl) rfl rfl S (co_func rfl Tryz.call111 S rfl) (mul64 ((s ^^^ c) ^^^ ((s ^^^ c) >>> 32)) 11400714819323198485 hy (by decide) _) fun v w hc a S => ?_)
   obtain ⟨rfl, he⟩ := hc
   have H := H.ext he
   rw [mixA_def (s ^^^ c)] at S
   refine gm S fun a S => ?_
   refine gy rfl rfl rfl S (y_extract rfl S rfl rfl) fun a S => ?_
   refine gy rfl rfl rfl S (y_extract rfl S rfl rfl) fun a S => ?_
   refine ga S fun a S => ?_
   refine gl_nil ?_
   refine n_block ?_
   refine n_then ?_
   have S := (((S.nil.cons S 0 rfl).cons S 14 rfl).cons S 15 rfl).cons S 4 rfl
   refine g_region ?_
   refine gy rfl rfl rfl S (y_add rfl S rfl rfl (by omega)) fun a S => ?_
   refine gm S fun a S => ?_
   refine gnt ?_
   rw [← stp1 (s ^^^ c)] at S
   exact ⟨1, (S.nil.cons S 15 rfl).cons S 4 rfl, (S.nil.cons S 0 rfl).cons S 14 rfl, H.tail, by omega, by omega⟩
  ·rw [stp1] at S
   have hx : (mixA (s ^^^ c)) < 18446744073709551616 := mixA_lt _
   have hy : ((mixA (s ^^^ c)) ^^^ ((mixA (s ^^^ c)) >>> 29)) < 18446744073709551616 := xor_lt hx (shr_lt hx)
   refine g_region ?_
   refine gy rfl rfl rfl S ((y_index rfl S rfl rfl (ix1 _ _ _ _ _))) fun a S => ?_
   refine wl_of (op_alloc (wn rfl) rfl rfl rfl S H Fzer175 fun b6 a w S H => ?_)
   refine wl_of (op_storea (wn rfl) rfl rfl S H rfl rfl rfl Fsiz175 rfl (cs' := [_, _]) rfl fun a w S H => ?_)
   refine gnt ?_
   refine gsr ?_
   refine gm S fun a S => ?_
   refine gm S fun a S => ?_
   refine gy rfl rfl rfl S (y_iaddra rfl Tryz.underlying175 Fsiz70 S rfl rfl (by omega)) fun a S => ?_
   refine gy rfl rfl rfl S (y_load rfl Fsca70 S H rfl rfl) fun a S => ?_
   refine gy rfl rfl rfl S ((y_shru (m := (mixA (s ^^^ c))) (q := 29) rfl S rfl rfl (by decide) rfl)) fun a S => ?_
   refine gy rfl rfl rfl S ((y_xoru (m := (mixA (s ^^^ c))) (q := (mixA (s ^^^ c)) >>> 29) rfl S rfl rfl hx (shr_lt hx) rfl)) fun a S => ?_
   refine ga S fun a S => ?_
   refine gnt ?_
   have S := ((((S.nil.cons S 0 rfl).cons S 14 rfl).cons S 15 rfl).cons S 6 rfl).cons S 4 rfl
   refine g_region ?_
   refine gm S fun a S => ?_
   refine gy rfl rfl rfl S (y_iaddra rfl Tryz.underlying175 Fsiz70 S rfl rfl (by omega)) fun a S => ?_
   refine gy rfl rfl rfl S (y_load rfl Fsca70 S H rfl rfl) fun a S => ?_
   refine wl_of (op_call (wn rfl) rfl rfl S (co_func rfl Tryz.call111 S rfl) (mul64 ((mixA (s ^^^ c)) ^^^ ((mixA (s ^^^ c)) >>> 29)) 13787848793156543929 hy (by decide) _) fun v w hc a S => ?_)
   obtain ⟨rfl, he⟩ := hc
   have H := H.ext he
   rw [mixB_def (mixA (s ^^^ c))] at S
   refine gm S fun a S => ?_
   refine gy rfl rfl rfl S (y_extract rfl S rfl rfl) fun a S => ?_
   refine gy rfl rfl rfl S (y_extract rfl S rfl rfl) fun a S => ?_
   refine ga S fun a S => ?_
   refine gl_nil ?_
   refine n_block ?_
   refine n_then ?_
   have S := (((S.nil.cons S 0 rfl).cons S 14 rfl).cons S 15 rfl).cons S 4 rfl
   refine g_region ?_
   refine gy rfl rfl rfl S (y_add rfl S rfl rfl (by omega)) fun a S => ?_
   refine gm S fun a S => ?_
   refine gnt ?_
   rw [← stp2 (s ^^^ c)] at S
   exact ⟨2, (S.nil.cons S 15 rfl).cons S 4 rfl, (S.nil.cons S 0 rfl).cons S 14 rfl, H.tail, by omega, by omega⟩
 ·have h1p := h1; try simp only [DL] at h1p
  refine g_exit ?_
  refine x_then (x_then (x_eq ?_))
  refine n_then ?_
  have hk2 : k = 2 := by have := h1p; omega
  rw [hk2, stp2] at S
  ·skip
   refine g_region ?_
   refine gm S fun a S => ?_
   refine gm S fun a S => ?_
   refine gm S fun a S => ?_
   refine gy rfl rfl rfl S ((y_shru (m := (mixB (mixA (s ^^^ c)))) (q := 32) rfl S rfl rfl (by decide) rfl)) fun a S => ?_
   refine gy rfl rfl rfl S ((y_xoru (m := (mixB (mixA (s ^^^ c)))) (q := (mixB (mixA (s ^^^ c))) >>> 32) rfl S rfl rfl (mixB_lt _) (shr_lt (mixB_lt _)) rfl)) fun a S => ?_
   refine gy rfl rfl rfl S (y_nilCheck rfl S rfl) fun a S => ?_
   refine wl_of (op_store (wn rfl) rfl rfl S H rfl rfl rfl Fsiz148 rfl fun a w S H => ?_)
   dsimp only [List.set, Nat.zero_add, Nat.reduceAdd] at H
   refine gl_nil ?_
   refine ret0n rfl S ?_
   rw [take64_def] at H
   exact ⟨rfl, H⟩
/-- foyer/digest.Sum$1 -/
theorem add_spec {M : Nat → Prop} {u0 : World} {l : List Atom} (bb nb sb : Nat) (d : DS) (c : Nat) (w0 : World) (h0 : HSat M u0 (Cel bb 70 [.int .u64 ((d).b : Int)] :: Cel nb 3 [.int .i64 ((d).n : Int)] :: Cel sb 148 [.int .u64 ((d).s : Int)] :: l) w0) (hd : d.ok) (hc : c < 256) :
    Ret Tryz.prog 94 #[.int .u8 (c : Int), .pointer (some ⟨bb, 0, none⟩), .pointer (some ⟨nb, 0, none⟩), .pointer (some ⟨sb, 0, none⟩)] w0 (fun u w => u = .tuple #[] ∧ HSat M u0 (Cel bb 70 [.int .u64 ((d.add c).b : Int)] :: Cel nb 3 [.int .i64 ((d.add c).n : Int)] :: Cel sb 148 [.int .u64 ((d.add c).s : Int)] :: l) w) := by
 refine ret_of_wp (nt := 18) Tryz.func94 rfl rfl rfl (fl := [(0, .int .u8 (c : Int)), (1, .pointer (some ⟨bb, 0, none⟩)), (2, .pointer (some ⟨nb, 0, none⟩)), (3, .pointer (some ⟨sb, 0, none⟩))]) rfl (fun a S => ?_)
 have H := h0
 have hn8 := hd.n
 refine g_seq ?_
 refine region_st (loud := [7]) (tails := [7]) (free := []) [0, 1, 2, 3, 4, 5, 6, 7] [] Fmo (by kernel_rfl) (by kernel_rfl) rfl H ?_
 refine m_w rfl rfl (wn rfl) rfl rfl S (fun w H => y_load rfl Fsca70 S H rfl rfl) fun a S => ?_
 refine m_w rfl rfl (wn rfl) rfl rfl S (fun w H => y_move rfl S rfl) fun a S => ?_
 refine m_w rfl rfl (wn rfl) rfl rfl S (fun w H => (y_convg (k := .u8) (r := (c : Int)) rfl Tryz.underlying5 Tryz.underlying70 S rfl (by rw [IntKind.wrap_u64]; omega))) fun a S => ?_
 refine m_w rfl rfl (wn rfl) rfl rfl S (fun w H => y_load rfl Fsca3 S H rfl rfl) fun a S => ?_
 refine m_w rfl rfl (wn rfl) rfl rfl S (fun w H => (y_muln (m := 8) (q := d.n) rfl S rfl rfl rfl (by omega))) fun a S => ?_
 refine m_w rfl rfl (wn rfl) rfl rfl S (fun w H => (y_shlu (m := c) (q := 8 * d.n) rfl S rfl rfl (by omega) rfl (DS.shl_lt hd hc))) fun a S => ?_
 refine m_w rfl rfl (wn rfl) rfl rfl S (fun w H => (y_oru (m := d.b) (q := c <<< (8 * d.n)) rfl S rfl rfl (DS.b_lt hd) (DS.shl_lt hd hc) rfl)) fun a S => ?_
 refine m_l rfl rfl (fun w H => op_store (wn rfl) rfl rfl S H rfl rfl rfl Fsiz70 rfl fun a w S H => m_tail H rfl ?_)
 dsimp only [List.set, Nat.zero_add, Nat.reduceAdd] at H
 refine m_nil (fun w H => ?_)
 refine n_then ?_
 have S := ((S.nil.cons S 3 rfl).cons S 2 rfl).cons S 1 rfl
 refine gsr ?_
 refine gy rfl rfl rfl S (y_load rfl Fsca3 S H rfl rfl) fun a S => ?_
 refine gy rfl rfl rfl S (y_add rfl S rfl rfl (by omega)) fun a S => ?_
 refine wl_of (op_store (wn rfl) rfl rfl S H rfl rfl rfl Fsiz3 rfl fun a w S H => ?_)
 dsimp only [List.set, Nat.zero_add, Nat.reduceAdd] at H
 refine gnt ?_
 refine gsr ?_
 refine gy rfl rfl rfl S (y_load rfl Fsca3 S H rfl rfl) fun a S => ?_
 refine gy rfl rfl rfl S (y_bin rfl S rfl rfl rfl) fun a S => ?_
 refine gnt ?_
 refine c_if S rfl (fun h1 => ?_) (fun h1 => ?_)
 ·have h1p := h1; try simp only [DL] at h1p
  refine gsr ?_
  refine gy rfl rfl rfl S (y_load rfl Fsca70 S H rfl rfl) fun a S => ?_
  refine wl_of (op_call (wn rfl) rfl rfl S (co_func rfl Tryz.call95 S rfl) (take_spec sb d.s (d.b ||| (c <<< (8 * d.n))) _ (H.takeT [Cel sb 148 [.int .u64 (d.s : Int)]] (Cel bb 70 [.int .u64 ((d.b ||| (c <<< (8 * d.n))) : Int)] :: Cel nb 3 [.int .i64 ((d.n : Int) + 1)] :: l)) hd.s (DS.or64 hd hc)) fun v w hc a S => ?_)
  obtain ⟨rfl, H⟩ := hc
  simp only [List.append_eq, List.nil_append] at H
  have H := H.takeT [Cel bb 70 [.int .u64 ((d.b ||| (c <<< (8 * d.n))) : Int)], Cel nb 3 [.int .i64 ((d.n : Int) + 1)], Cel sb 148 [.int .u64 (take64 d.s (d.b ||| (c <<< (8 * d.n))) : Int)]] l
  simp only [List.cons_append, List.nil_append] at H
  refine gnt ?_
  have S := (S.nil.cons S 2 rfl).cons S 1 rfl
  refine g_region ?_
  refine wl_of (op_store (wn rfl) rfl rfl S H rfl rfl rfl Fsiz70 rfl fun a w S H => ?_)
  dsimp only [List.set, Nat.zero_add, Nat.reduceAdd] at H
  refine wl_of (op_store (wn rfl) rfl rfl S H rfl rfl rfl Fsiz3 rfl fun a w S H => ?_)
  dsimp only [List.set, Nat.zero_add, Nat.reduceAdd] at H
  refine gl_nil ?_
  refine ret0n rfl S ?_
  rw [DS.add_full (by omega)]
  exact ⟨rfl, H⟩
 ·have h1p := h1; try simp only [DL] at h1p
  refine g_skip ?_
  refine ret0n rfl S ?_
  rw [DS.add_part (by omega)]
  dsimp only
  rw [Int.natCast_add]
  exact ⟨rfl, H⟩
theorem slA (b : Nat) (w : World) : (Instr.sliceAt 177 (.pointer (some ⟨b, 0, none⟩)) none none none).run Tryz.prog w = .ok (.slice (some ⟨b, 0, none⟩) 16 16) w := by kernel_rfl
theorem and15 (x : Nat) : x &&& 15 = x % 16 := Nat.and_two_pow_sub_one_eq_mod x 4
/-- (foyer/digest.state).text -/
theorem text_spec (s : Nat) (w0 : World) (hs : s < 18446744073709551616) (T0 : TypeId) (fz : Nat × Nat) (hG : w0.heap[0]? = some (.cells hexTab.toArray T0 fz)) :
    Ret Tryz.prog 96 #[.int .u64 (s : Int)] w0 (fun u w => u = .string (hexS s) ∧ Ext w0 w) := by
 refine ret_of_wp (nt := 21) Tryz.func96 rfl rfl rfl (fl := [(0, .int .u64 (s : Int))]) rfl (fun a S => ?_)
 have H := HSat.start w0
 have H := H.ro0 (Atom.ro (Blk 0 (.cells hexTab.toArray T0 fz))) rfl (hG)
 refine gsr ?_
 refine ga S fun a S => ?_
 refine gnt ?_
 refine gsr ?_
 refine wl_of (op_alloc (wn rfl) rfl rfl rfl S H Fzer177 fun b3 a w S H => ?_)
 refine gnt ?_
 refine g_seq ?_
 refine gsr ?_
 refine gm S fun a S => ?_
 refine gnt ?_
 refine g_block ?_
 have SU := ((S.nil.cons S 0 rfl).cons S 2 rfl).cons S 3 rfl
 refine loopW (X := Nat) SU (fun k => [(5, .int .i64 (k : Int))]) (fun k w => k ≤ 16 ∧ HSat No w0 [Cel b3 177 (hexC s k), Atom.ro (Blk 0 (.cells hexTab.toArray T0 fz))] w) (fun k => 16 - k) 0 (S.nil.cons S 5 rfl) (⟨Nat.zero_le _, H⟩) (fun k a w S hW => ?_)
 simp only [List.cons_append, List.nil_append] at S
 obtain ⟨hk, H⟩ := hW
 refine gsr ?_
 refine gy rfl rfl rfl S (y_bin rfl S rfl rfl rfl) fun a S => ?_
 refine gnt ?_
 refine g_seq ?_
 refine c_if S rfl (fun h1 => ?_) (fun h1 => ?_)
 ·have h1p := h1; try simp only [DL] at h1p
  refine g_skip ?_
  refine n_then ?_
  refine g_seq ?_
  refine g_block ?_
  refine gsr ?_
  refine gm S fun a S => ?_
  refine ga S fun a S => ?_
  refine gnt ?_
  refine g_region ?_
  refine gm S fun a S => ?_
  refine gm S fun a S => ?_
  refine gm S fun a S => ?_
  refine gy rfl rfl rfl S ((y_muln (m := 4) (q := k) rfl S rfl rfl rfl (by omega))) fun a S => ?_
  refine gy rfl rfl rfl S ((y_subn (m := 60 - 4 * k) rfl S rfl rfl (by omega) (by omega))) fun a S => ?_
  refine gy rfl rfl rfl S ((y_shru (m := s) (q := 60 - 4 * k) rfl S rfl rfl (by omega) rfl)) fun a S => ?_
  refine gy rfl rfl rfl S ((y_andu (m := s >>> (60 - 4 * k)) (q := 15) rfl S rfl rfl (shr_lt hs) (by decide) (and15 _))) fun a S => ?_
  refine gy rfl rfl rfl S (y_iaddra rfl Tryz.underlying177 Fsiz5 S rfl rfl (by omega)) fun a S => ?_
  refine gy rfl rfl rfl S ((y_load rfl Fsca5 S H rfl (hexTab_get _ (by simp; omega)))) fun a S => ?_
  refine gy rfl rfl rfl S (y_iaddra rfl Tryz.underlying177 Fsiz5 S rfl rfl (by omega)) fun a S => ?_
  refine wl_of (op_store (wn rfl) rfl rfl S H rfl rfl rfl Fsiz5 (by simp [hexC_len]; omega) fun a w S H => ?_)
  refine gl_nil ?_
  refine n_block ?_
  refine n_then ?_
  have S := (((S.nil.cons S 0 rfl).cons S 2 rfl).cons S 3 rfl).cons S 5 rfl
  refine g_region ?_
  refine gy rfl rfl rfl S (y_add rfl S rfl rfl (by omega)) fun a S => ?_
  refine gm S fun a S => ?_
  refine gnt ?_
  simp only [Int.toNat_natCast, Nat.zero_add, Nat.mul_one] at H
  rw [hexC_set s k (by omega)] at H
  exact ⟨k + 1, S.nil.cons S 5 rfl, ((S.nil.cons S 0 rfl).cons S 2 rfl).cons S 3 rfl, ⟨by omega, H⟩, by omega⟩
 ·have h1p := h1; try simp only [DL] at h1p
  refine g_exit ?_
  refine x_then (x_then (x_eq ?_))
  refine n_then ?_
  refine g_seq ?_
  have hk2 : k = 16 := by have := h1p; omega
  rw [hk2] at H
  ·skip
   refine g_region ?_
   refine gy rfl rfl rfl S ((y_sliceA rfl S rfl (slA _ _))) fun a S => ?_
   refine gy rfl rfl rfl S ((y_bytestr (hexL s) rfl Tryz.underlying24 Tryz.underlying5 Tryz.underlying9 S H rfl (by simp [hexL]) (hexC_get s))) fun a S => ?_
   refine ga S fun a S => ?_
   refine gnt ?_
   have S := S.nil.cons S 2 rfl
   refine g_ret ?_
   refine ret1 rfl S rfl ?_
   exact ⟨rfl, H.toExt⟩
set_option maxHeartbeats 1000000 in
/-- foyer/digest.Sum -/
theorem sum_spec (t : ByteArray) (w0 : World) (T0 : TypeId) (fz : Nat × Nat) (hG : w0.heap[0]? = some (.cells hexTab.toArray T0 fz)) (hs : t.size ≤ 9223372036854775807) :
    Ret Tryz.prog 65 #[.string t] w0 (fun u w => u = .string (sumS t) ∧ Ext w0 w) := by
 refine ret_of_wp (nt := 28) Tryz.func65 rfl rfl rfl (fl := [(0, .string t)]) rfl (fun a S => ?_)
 have H := HSat.start w0
 refine gsr ?_
 refine ga S fun a S => ?_
 refine gnt ?_
 refine gsr ?_
 refine wl_of (op_alloc (wn rfl) rfl rfl rfl S H Fzer148 fun b3 a w S H => ?_)
 refine wl_of (op_store (wn rfl) rfl rfl S H rfl rfl rfl Fsiz148 rfl fun a w S H => ?_)
 dsimp only [List.set, Nat.zero_add, Nat.reduceAdd] at H
 refine gnt ?_
 refine gsr ?_
 refine wl_of (op_alloc (wn rfl) rfl rfl rfl S H Fzer70 fun b4 a w S H => ?_)
 refine wl_of (op_alloc (wn rfl) rfl rfl rfl S H Fzer3 fun b5 a w S H => ?_)
 refine wl_of (op_store (wn rfl) rfl rfl S H rfl rfl rfl Fsiz70 rfl fun a w S H => ?_)
 dsimp only [List.set, Nat.zero_add, Nat.reduceAdd] at H
 refine wl_of (op_store (wn rfl) rfl rfl S H rfl rfl rfl Fsiz3 rfl fun a w S H => ?_)
 dsimp only [List.set, Nat.zero_add, Nat.reduceAdd] at H
 refine gnt ?_
 refine gsr ?_
 refine gy rfl rfl rfl S (y_makeFunc rfl S rfl rfl) fun a S => ?_
 refine ga S fun a S => ?_
 refine gnt ?_
 refine g_seq ?_
 refine gsr ?_
 refine gm S fun a S => ?_
 refine gy rfl rfl rfl S (y_lenstr rfl Tryz.underlying9 S rfl) fun a S => ?_
 refine gm S fun a S => ?_
 refine gnt ?_
 refine g_block ?_
 have SU := (((((S.nil.cons S 0 rfl).cons S 2 rfl).cons S 3 rfl).cons S 5 rfl).cons S 6 rfl).cons S 10 rfl
 refine loopW (X := Nat) SU (fun k => [(11, .int .i64 (k : Int))]) (fun k w => k ≤ t.size ∧ HSat No w0 [Cel b4 70 [.int .u64 (((DS.z.adds (t.data.toList.take k))).b : Int)], Cel b5 3 [.int .i64 (((DS.z.adds (t.data.toList.take k))).n : Int)], Cel b3 148 [.int .u64 (((DS.z.adds (t.data.toList.take k))).s : Int)]] w) (fun k => t.size - k) 0 (S.nil.cons S 11 rfl) (⟨Nat.zero_le _, by rw [show DS.z.adds (t.data.toList.take 0) = DS.z from rfl]; exact H.take [Cel b4 70 [.int .u64 0], Cel b5 3 [.int .i64 0], Cel b3 148 [.int .u64 7046029254386353131]]⟩) (fun k a w S hW => ?_)
 simp only [List.cons_append, List.nil_append] at S
 obtain ⟨hk, H⟩ := hW
 have hd : ((DS.z.adds (t.data.toList.take k))).ok := DS.adds_ok DS.z_ok _
 refine gsr ?_
 refine gy rfl rfl rfl S (y_bin rfl S rfl rfl rfl) fun a S => ?_
 refine gnt ?_
 refine g_seq ?_
 refine c_if S rfl (fun h1 => ?_) (fun h1 => ?_)
 ·have h1p := h1; try simp only [DL] at h1p
  refine g_skip ?_
  refine n_then ?_
  refine g_seq ?_
  refine g_block ?_
  refine gsr ?_
  refine gm S fun a S => ?_
  refine ga S fun a S => ?_
  refine gnt ?_
  refine g_region ?_
  refine gm S fun a S => ?_
  refine gm S fun a S => ?_
  refine gm S fun a S => ?_
  refine gy rfl rfl rfl S (y_idxstr rfl Tryz.underlying9 S rfl rfl (by first | assumption | omega | (simp only [LL]; omega))) fun a S => ?_
  refine wl_of (op_call (wn rfl) rfl rfl S (co_value rfl Tryz.call94 S rfl rfl) (add_spec b4 b5 b3 (DS.z.adds (t.data.toList.take k)) t[k].toNat _ H hd t[k].toNat_lt) fun v w hc a S => ?_)
  obtain ⟨rfl, H⟩ := hc
  
  refine gl_nil ?_
  refine n_block ?_
  refine n_then ?_
  have S := ((((((S.nil.cons S 0 rfl).cons S 2 rfl).cons S 3 rfl).cons S 5 rfl).cons S 6 rfl).cons S 10 rfl).cons S 11 rfl
  refine g_region ?_
  refine gy rfl rfl rfl S (y_add rfl S rfl rfl (by omega)) fun a S => ?_
  refine gm S fun a S => ?_
  refine gnt ?_
  have e := DS.adds_take DS.z t.data.toList k (by simpa using (by omega : k < t.size))
  rw [show t[k].toNat = (t.data.toList[k]'(by simpa using (by omega : k < t.size))).toNat from by simp [ByteArray.getElem_eq_getElem_data], ← e] at H
  exact ⟨k + 1, S.nil.cons S 11 rfl, (((((S.nil.cons S 0 rfl).cons S 2 rfl).cons S 3 rfl).cons S 5 rfl).cons S 6 rfl).cons S 10 rfl, ⟨by omega, H⟩, by omega⟩
 ·have h1p := h1; try simp only [DL] at h1p
  refine g_exit ?_
  refine x_then (x_then (x_eq ?_))
  refine n_then ?_
  have S := (((S.nil.cons S 2 rfl).cons S 3 rfl).cons S 5 rfl).cons S 6 rfl
  refine g_seq ?_
  refine g_seq ?_
  have hk2 : k = t.size := by have := h1p; omega
  have e9 : t.data.toList.take k = t.data.toList := List.take_of_length_le (by simp [hk2])
  rw [e9] at H
  have hd1 : (DS.z.adds t.data.toList).ok := DS.adds_ok DS.z_ok _
  ·skip
   refine g_region ?_
   refine gm S fun a S => ?_
   refine wl_of (op_call (wn rfl) rfl rfl S (co_value rfl Tryz.call94 S rfl rfl) (add_spec b4 b5 b3 (DS.z.adds t.data.toList) 1 _ H hd1 (by decide)) fun v w hc a S => ?_)
   obtain ⟨rfl, H⟩ := hc
   
   refine gnt ?_
   refine g_block ?_
   have SU := (((S.nil.cons S 2 rfl).cons S 3 rfl).cons S 5 rfl).cons S 6 rfl
   refine loopW (X := DS × Nat) SU (fun x => []) (fun x w => x.1.ok ∧ (DS.fill x.2 x.1) = DS.fill 8 ((DS.z.adds t.data.toList).add 1) ∧ (x.1.n ≠ 0 → 8 ≤ x.1.n + x.2) ∧ HSat No w0 [Cel b4 70 [.int .u64 ((x.1).b : Int)], Cel b5 3 [.int .i64 ((x.1).n : Int)], Cel b3 148 [.int .u64 ((x.1).s : Int)]] w) (fun x => x.2) (((DS.z.adds t.data.toList).add 1), 8) (S.nil) (⟨DS.add_ok hd1 (by decide), rfl, fun _ => by dsimp only; omega, H⟩) (fun x a w S hW => ?_)
   simp only [List.cons_append, List.nil_append] at S
   obtain ⟨d, j⟩ := x
   obtain ⟨hd, hf, hj, H⟩ := hW
   dsimp only at S H hd hf hj
   refine g_seq ?_
   refine gsr ?_
   refine gy rfl rfl rfl S (y_load rfl Fsca3 S H rfl rfl) fun a S => ?_
   refine gy rfl rfl rfl S (y_bin rfl S rfl rfl rfl) fun a S => ?_
   refine gnt ?_
   refine c_if S rfl (fun h2 => ?_) (fun h2 => ?_)
   ·have h2p := h2; try simp only [DL] at h2p
    refine g_skip ?_
    refine n_then ?_
    refine g_block ?_
    refine g_region ?_
    refine gm S fun a S => ?_
    refine wl_of (op_call (wn rfl) rfl rfl S (co_value rfl Tryz.call94 S rfl rfl) (add_spec b4 b5 b3 d 0 _ H hd (by decide)) fun v w hc a S => ?_)
    obtain ⟨rfl, H⟩ := hc
    
    refine gl_nil ?_
    refine n_block ?_
    refine n_then ?_
    have hn0 : d.n ≠ 0 := by have := h2p; omega
    have hn8 := hd.n
    have hj8 := hj hn0
    obtain ⟨i, rfl⟩ : ∃ i, j = i + 1 := ⟨j - 1, by omega⟩
    rw [DS.fill_s hn0] at hf
    exact ⟨(d.add 0, i), S.nil, (((S.nil.cons S 2 rfl).cons S 3 rfl).cons S 5 rfl).cons S 6 rfl, ⟨DS.add_ok hd (by decide), hf, fun h => by dsimp only at h ⊢; rw [DS.add_n] at h ⊢; split at h <;> rename_i hh <;> (try rw [if_neg hh]) <;> omega, H⟩, by dsimp only; omega⟩
   ·have h2p := h2; try simp only [DL] at h2p
    refine g_exit ?_
    refine x_then (x_then (x_eq ?_))
    refine n_then ?_
    have S := (S.nil.cons S 2 rfl).cons S 3 rfl
    refine g_seq ?_
    have hn0 : d.n = 0 := by have := h2p; omega
    rw [DS.fill_z hn0] at hf
    have hG2 : ∀ {w : World}, Ext w0 w → w.heap[0]? = some (.cells hexTab.toArray T0 fz) := fun he => (he.block (Array.getElem?_eq_some_iff.1 hG).1).trans hG
    ·skip
     refine g_region ?_
     refine gy rfl rfl rfl S (y_load rfl Fsca148 S H rfl rfl) fun a S => ?_
     refine wl_of (op_call (wn rfl) rfl rfl S (co_func rfl Tryz.call96 S rfl) (text_spec d.s _ hd.s T0 fz (hG2 (H.toExt))) fun v w hc a S => ?_)
     obtain ⟨rfl, he⟩ := hc
     have H := H.ext he
     refine ga S fun a S => ?_
     refine gnt ?_
     have S := S.nil.cons S 2 rfl
     refine g_ret ?_
     refine ret1 rfl S rfl ?_
     exact ⟨by rw [hf]; rfl, H.toExt⟩
end Go.Proofs.YtjdbggnhdeaflaaGreatDoor
end
section
namespace Go.Proofs.YtjdbggnhdeaflaaGreatDoor
open Go Go.Gw
set_option linter.unusedVariables false
set_option linter.unusedSimpArgs false
/-- foyer/digest.Chain -/
theorem chain_spec (t : ByteArray) (n : Nat) (w0 : World) (T0 : TypeId) (fz : Nat × Nat) (hG : w0.heap[0]? = some (.cells hexTab.toArray T0 fz)) (hs : t.size ≤ 9223372036854775807) (hn : n ≤ 1000) :
    Ret Tryz.prog 68 #[.string t, .int .i64 (n : Int)] w0 (fun u w => u = .string (chainS t n) ∧ Ext w0 w) := by
 refine ret_of_wp (nt := 14) Tryz.func68 rfl rfl rfl (fl := [(0, .string t), (1, .int .i64 (n : Int))]) rfl (fun a S => ?_)
 have H := HSat.start w0
 have hG2 : ∀ {w : World}, Ext w0 w → w.heap[0]? = some (.cells hexTab.toArray T0 fz) := fun he => (he.block (Array.getElem?_eq_some_iff.1 hG).1).trans hG
 refine gsr ?_
 refine ga S fun a S => ?_
 refine gnt ?_
 refine g_seq ?_
 refine gsr ?_
 refine gm S fun a S => ?_
 refine gy rfl rfl rfl S (y_min rfl S rfl rfl) fun a S => ?_
 refine gy rfl rfl rfl S (y_max rfl S rfl rfl) fun a S => ?_
 refine gm S fun a S => ?_
 refine gnt ?_
 refine g_block ?_
 have SU := (S.nil.cons S 4 rfl).cons S 7 rfl
 refine loop_k (X := Nat) SU (fun k => [(0, .string (chainS t k)), (8, .int .i64 (k : Int))]) (fun k => k ≤ n) (fun k => n - k) 0 ((S.nil.cons S 8 rfl).cons S 0 rfl) H (Nat.zero_le _) (fun k a w S H hi => ?_)
 simp only [List.cons_append, List.nil_append] at S hi
 refine gsr ?_
 refine gy rfl rfl rfl S (y_bin rfl S rfl rfl rfl) fun a S => ?_
 refine gnt ?_
 refine g_seq ?_
 refine c_if S rfl (fun h1 => ?_) (fun h1 => ?_)
 ·have h1p := h1; try simp only [DL] at h1p
  refine g_skip ?_
  refine n_then ?_
  refine g_seq ?_
  refine g_block ?_
  refine g_region ?_
  refine gm S fun a S => ?_
  refine wl_of (op_call (wn rfl) rfl rfl S (co_func rfl Tryz.call65 S rfl) (sum_spec (chainS t k) _ T0 fz (hG2 H.toExt) (chainS_size hs k)) fun v w hc a S => ?_)
  obtain ⟨rfl, he⟩ := hc
  have H := H.ext he
  refine ga S fun a S => ?_
  refine gl_nil ?_
  refine n_block ?_
  refine n_then ?_
  have S := (((S.nil.cons S 4 rfl).cons S 7 rfl).cons S 8 rfl).cons S 0 rfl
  refine g_region ?_
  refine gy rfl rfl rfl S (y_add rfl S rfl rfl (by omega)) fun a S => ?_
  refine gm S fun a S => ?_
  refine gnt ?_
  refine ⟨k + 1, (S.nil.cons S 8 rfl).cons S 0 rfl, (S.nil.cons S 4 rfl).cons S 7 rfl, H, ?_, ?_⟩
  · omega
  · omega
 ·have h1p := h1; try simp only [DL] at h1p
  refine g_exit ?_
  refine x_then (x_then (x_eq ?_))
  refine n_then ?_
  refine gsr ?_
  refine gm S fun a S => ?_
  refine ga S fun a S => ?_
  refine gnt ?_
  have S := S.nil.cons S 4 rfl
  refine g_ret ?_
  refine ret1 rfl S rfl ?_
  have hk2 : k = n := by omega
  exact ⟨by rw [hk2], H.toExt⟩
end Go.Proofs.YtjdbggnhdeaflaaGreatDoor
end
