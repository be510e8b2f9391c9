/- Layer 30 (and 2, 3): forms of digests, digits of messages, signatures, titles. No program in sight. No condition. -/
import Derived.Test.YtngocpdmlijnfaaDoorPlain
import Derived.Test.YtngocpdmlijnfaaDoorGwStrB
import Derived.Lib.SlTrimSet
import Derived.Lib.ItoaLen
import Derived.Lib.Bytealg
namespace Go.Proofs.YtngocpdmlijnfaaDoor
open Go Go.Gw
set_option linter.unusedSimpArgs false
set_option linter.unusedVariables false
/-- the letters of digests -/
def hexCut : List UInt8 := [48, 49, 50, 51, 52, 53, 54, 55, 56, 57, 97, 98, 99, 100, 101, 102]
def isD (t : ByteArray) : Bool := decide (t.size = 16) && t.data.toList.all (hexCut.contains ·)
theorem dropWhile_nil {α : Type} (p : α → Bool) : ∀ l : List α, (l.dropWhile p = []) ↔ l.all p = true
  | [] => by simp
  | x :: r => by
    cases h : p x with
    | true => simp [List.dropWhile_cons, h, dropWhile_nil p r]
    | false => simp [List.dropWhile_cons, h]
theorem all_sub {α : Type} {p : α → Bool} {l m : List α} (h : ∀ x ∈ l, x ∈ m) (hm : m.all p = true) : l.all p = true := List.all_eq_true.2 fun x hx => List.all_eq_true.1 hm x (h x hx)
theorem trim_nil (l cs : List UInt8) : decide ((⟨(Go.Lib.trimS l cs).toArray⟩ : ByteArray) = ⟨#[]⟩) = l.all (cs.contains ·) := by
  have e : ((⟨(Go.Lib.trimS l cs).toArray⟩ : ByteArray) = ⟨#[]⟩) ↔ Go.Lib.trimS l cs = [] := by
    constructor
    · intro h; have := congrArg (fun b : ByteArray => b.data.toList) h; simpa using this
    · intro h; rw [h]
  rw [Bool.eq_iff_iff, decide_eq_true_eq, e]
  unfold Go.Lib.trimS Go.Lib.trimLeftS Go.Lib.trimRightS
  rw [dropWhile_nil]
  constructor
  · intro h
    have h2 : (l.reverse.dropWhile (cs.contains ·)).all (cs.contains ·) = true := by
      refine all_sub (fun x hx => List.mem_reverse.2 hx) h
    have h3 : l.reverse.dropWhile (cs.contains ·) = [] := by
      cases h4 : l.reverse.dropWhile (cs.contains ·) with
      | nil => rfl
      | cons x r =>
        have h5 := List.head?_dropWhile_not (cs.contains ·) l.reverse
        rw [h4] at h5 h2
        simp only [List.head?_cons] at h5
        have h6 := List.all_eq_true.1 h2 x (by simp)
        rw [h6] at h5; simp at h5
    rw [dropWhile_nil] at h3
    exact all_sub (fun x hx => List.mem_reverse.2 hx) h3
  · intro h
    have h3 : l.reverse.dropWhile (cs.contains ·) = [] := by
      rw [dropWhile_nil]; exact all_sub (fun x hx => List.mem_reverse.1 hx) h
    rw [h3]; rfl
theorem isD_size {t : ByteArray} (h : isD t = true) : t.size = 16 := by
  unfold isD at h
  simp only [Bool.and_eq_true, decide_eq_true_eq] at h
  exact h.1
/-- the digits of a message -/
def digL (s : Nat) : List Nat := (List.range 16).map fun i => (s >>> (60 - 4 * i)) % 16
def restL (s k : Nat) : Nat := (((digL s).take k).map (15 - ·)).sum
noncomputable def digs (m : ByteArray) : List Nat := digL (sumN m.data.toList) ++ [restL (sumN m.data.toList) 16 / 16, restL (sumN m.data.toList) 16 % 16]
theorem digL_len (s : Nat) : (digL s).length = 16 := by simp [digL]
theorem digL_lt (s k : Nat) : (digL s).getD k 0 < 16 := by
  rw [List.getD_eq_getElem?_getD]
  cases h : (digL s)[k]? with
  | none => simp
  | some x =>
    have := List.mem_of_getElem? h
    unfold digL at this
    obtain ⟨i, _, rfl⟩ := List.mem_map.1 this
    exact Nat.mod_lt _ (by decide)
theorem restL_s (s k : Nat) (h : k < 16) : restL s (k + 1) = restL s k + (15 - (digL s).getD k 0) := by
  unfold restL
  have hk : k < (digL s).length := by rw [digL_len]; exact h
  rw [List.take_succ_eq_append_getElem hk, List.map_append, List.sum_append]
  simp [List.getD_eq_getElem?_getD, List.getElem?_eq_getElem hk]
theorem restL_le (s : Nat) : ∀ k, k ≤ 16 → restL s k ≤ 15 * k
  | 0, _ => by simp [restL]
  | k + 1, h => by rw [restL_s s k (by omega)]; have := restL_le s k (by omega); omega
theorem digs_len (m : ByteArray) : (digs m).length = 18 := by simp [digs, digL_len]
theorem digs_le (m : ByteArray) (k : Nat) : (digs m).getD k 0 ≤ 15 := by
  have hr := restL_le (sumN m.data.toList) 16 (Nat.le_refl _)
  have hd := digL_lt (sumN m.data.toList) k
  unfold digs
  rw [List.getD_eq_getElem?_getD, List.getElem?_append]
  rw [List.getD_eq_getElem?_getD] at hd
  split
  · omega
  · rename_i h
    rw [digL_len] at h
    obtain ⟨j, rfl⟩ : ∃ j, k = 16 + j := ⟨k - 16, by omega⟩
    rw [digL_len, Nat.add_sub_cancel_left]
    match j with
    | 0 => simp only [List.getElem?_cons_zero, Option.getD_some]; omega
    | 1 => simp only [List.getElem?_cons_succ, List.getElem?_cons_zero, Option.getD_some]; omega
    | j + 2 => simp
def digC (s k : Nat) : List Value := (List.range 18).map fun j => .int .i64 (if j < k then ((digL s).getD j 0 : Int) else 0)
noncomputable def digV (m : ByteArray) : List Value := (List.range 18).map fun j => .int .i64 ((digs m).getD j 0 : Int)
theorem digC_len (s k : Nat) : (digC s k).length = 18 := by simp [digC]
theorem digV_len (m : ByteArray) : (digV m).length = 18 := by simp [digV]
theorem digC_set (s i : Nat) (h : i < 16) : (digC s i).set i (.int .i64 ((digL s).getD i 0 : Int)) = digC s (i + 1) := by
  apply List.ext_getElem
  · simp [digC]
  · intro j h1 h2
    rw [List.getElem_set]
    simp only [digC, List.getElem_map, List.getElem_range]
    split
    · rename_i e; subst e; rw [if_pos (by omega)]
    · rename_i e
      by_cases hj : j < i
      · rw [if_pos hj, if_pos (by omega)]
      · rw [if_neg hj, if_neg (by omega)]
theorem digC_get (s i : Nat) (h : i < 16) : (digC s (i + 1))[i]? = some (.int .i64 ((digL s).getD i 0 : Int)) := by
  rw [List.getElem?_eq_getElem (by rw [digC_len]; omega)]
  simp only [digC, List.getElem_map, List.getElem_range]
  rw [if_pos (by omega)]
theorem digV_get (m : ByteArray) (i : Nat) (h : i < 18) : (digV m)[i]? = some (.int .i64 ((digs m).getD i 0 : Int)) := by
  rw [List.getElem?_eq_getElem (by rw [digV_len]; omega)]
  simp only [digV, List.getElem_map, List.getElem_range]
theorem digs_lo (m : ByteArray) (j : Nat) (h : j < 16) : (digs m).getD j 0 = (digL (sumN m.data.toList)).getD j 0 := by
  unfold digs
  rw [List.getD_eq_getElem?_getD, List.getD_eq_getElem?_getD, List.getElem?_append_left (by rw [digL_len]; exact h)]
theorem digs_16 (m : ByteArray) : (digs m).getD 16 0 = restL (sumN m.data.toList) 16 / 16 := by
  unfold digs
  rw [List.getD_eq_getElem?_getD, List.getElem?_append_right (by rw [digL_len]; exact Nat.le_refl _), digL_len]
  rfl
theorem digs_17 (m : ByteArray) : (digs m).getD 17 0 = restL (sumN m.data.toList) 16 % 16 := by
  unfold digs
  rw [List.getD_eq_getElem?_getD, List.getElem?_append_right (by rw [digL_len]; decide), digL_len]
  rfl
theorem digV_fin (m : ByteArray) (s r q : Nat) (hs : s = sumN m.data.toList) (hr : r = restL s 16 / 16) (hq : q = restL s 16 % 16) : ((digC s 16).set 16 (.int .i64 (r : Int))).set 17 (.int .i64 (q : Int)) = digV m := by
  rw [hs] at hr hq
  have hl : (((digC s 16).set 16 (.int .i64 (r : Int))).set 17 (.int .i64 (q : Int))).length = 18 := by rw [List.length_set, List.length_set, digC_len]
  apply List.ext_getElem?
  intro j
  by_cases hj : j < 18
  · rw [List.getElem?_set, List.getElem?_set, digV_get m j hj, List.length_set, digC_len]
    by_cases h16 : j < 16
    · rw [if_neg (by omega), if_neg (by omega), digs_lo m j h16, ← hs]
      have := List.getElem?_eq_getElem (l := digC s 16) (i := j) (by rw [digC_len]; omega)
      rw [this]
      simp only [digC, List.getElem_map, List.getElem_range]
      rw [if_pos h16]
    · have : j = 16 ∨ j = 17 := by omega
      rcases this with rfl | rfl
      · rw [digs_16, hr]; rfl
      · rw [digs_17, hq]; rfl
  · rw [List.getElem?_eq_none (by omega), List.getElem?_eq_none (by rw [digV_len]; omega)]
theorem digV_one (m : ByteArray) : (digV m).all (·.oneCell') = true := by
  unfold digV; rw [List.all_map]; exact List.all_eq_true.2 fun x _ => rfl
theorem idx_hexD : ∀ d, d < 16 → Go.Lib.indexByte hexCut (((hexD d).toNat : Int)).toNat.toUInt8 = (d : Int)
  | 0, _ => by decide | 1, _ => by decide | 2, _ => by decide | 3, _ => by decide | 4, _ => by decide | 5, _ => by decide | 6, _ => by decide | 7, _ => by decide
  | 8, _ => by decide | 9, _ => by decide | 10, _ => by decide | 11, _ => by decide | 12, _ => by decide | 13, _ => by decide | 14, _ => by decide | 15, _ => by decide
  | n + 16, h => by omega
def dgt (c : UInt8) : Int := if 48 ≤ c.toNat ∧ c.toNat ≤ 57 then (c.toNat : Int) - 48 else if 97 ≤ c.toNat ∧ c.toNat ≤ 102 then (c.toNat : Int) - 87 else -1
theorem dgt_hexD : ∀ d, d < 16 → dgt (hexD d) = (d : Int)
  | 0, _ => by decide | 1, _ => by decide | 2, _ => by decide | 3, _ => by decide | 4, _ => by decide | 5, _ => by decide | 6, _ => by decide | 7, _ => by decide
  | 8, _ => by decide | 9, _ => by decide | 10, _ => by decide | 11, _ => by decide | 12, _ => by decide | 13, _ => by decide | 14, _ => by decide | 15, _ => by decide
  | n + 16, h => by omega
theorem sumS_list (t : ByteArray) : (sumS t).data.toList = (digL (sumN t.data.toList)).map hexD := by
  unfold sumS hexS digL; simp
theorem sumS_at (t : ByteArray) (k : Nat) (hk : k < (sumS t).data.toList.length) : (sumS t).data.toList[k] = hexD ((digL (sumN t.data.toList)).getD k 0) := by
  have h := sumS_list t
  have hl : k < (digL (sumN t.data.toList)).length := by have := congrArg List.length h; simp only [List.length_map] at this; omega
  simp only [h, List.getElem_map, List.getD_eq_getElem?_getD, List.getElem?_eq_getElem hl, Option.getD_some]
theorem sumS_len (t : ByteArray) : (sumS t).data.toList.length = 16 := by rw [sumS_list]; simp [digL_len]
/-- ends of the chains of a signature -/
noncomputable def endsK (m : ByteArray) (xs : List ByteArray) (k : Nat) : List ByteArray := (List.range k).map fun i => chainS (xs.getD i ⟨#[]⟩) (15 - (digs m).getD i 0)
noncomputable def verB (pub m : ByteArray) (xs : List ByteArray) : Bool := decide (xs.length = 18) && xs.all isD && decide (listS (endsK m xs 18) = pub)
theorem endsK_s (m : ByteArray) (xs : List ByteArray) (k : Nat) (h : k < xs.length) : endsK m xs k ++ [chainS xs[k] (15 - (digs m).getD k 0)] = endsK m xs (k + 1) := by
  unfold endsK
  rw [List.range_succ, List.map_append]
  simp [List.getElem?_eq_getElem h]
theorem endsK_len (m : ByteArray) (xs : List ByteArray) (k : Nat) : (endsK m xs k).length = k := by simp [endsK]
theorem chainS_size16 {t : ByteArray} (h : t.size = 16) : ∀ n, (chainS t n).size = 16
  | 0 => h
  | n + 1 => sumS_size _
theorem endsK_size {m : ByteArray} {xs : List ByteArray} {k : Nat} (hk : k ≤ xs.length) (h : ∀ i (h : i < xs.length), i < k → isD xs[i] = true) : ∀ x ∈ endsK m xs k, x.size = 16 := fun x hx => by
  unfold endsK at hx
  obtain ⟨i, hi, rfl⟩ := List.mem_map.1 hx
  have hi := List.mem_range.1 hi
  have hl : i < xs.length := by omega
  have := h i hl hi
  refine chainS_size16 ?_ _
  simpa [List.getElem?_eq_getElem hl] using isD_size this
theorem itoaL_len (n : Int) (h0 : -9223372036854775808 ≤ n) (h1 : n ≤ 9223372036854775807) : (Go.Lib.itoa n).length ≤ 21 := Go.Lib.itoa_length_le n h0 h1
theorem joinL_bound {xs : List ByteArray} {b : Nat} (hb : b ≤ 1000000000) (h : ∀ x ∈ xs, x.size ≤ b) : (joinL xs).length ≤ xs.length * (b + 22) := by
  induction xs with
  | nil => simp [joinL]
  | cons x r ih =>
    have h1 := ih (fun y hy => h y (by simp [hy]))
    have h2 := h x (by simp)
    have h3 := itoaL_len (x.size : Int) (by omega) (by omega)
    have h4 := partL_len x
    unfold joinL at h1 ⊢
    rw [List.flatMap_cons, List.length_append, List.length_cons, Nat.add_mul]
    omega
theorem list_ok {xs : List ByteArray} (h : ∀ x ∈ xs, x.size ≤ 1000) (hl : xs.length ≤ 1000000) : (joinL xs).length ≤ 140737488355328 := by
  have h1 := joinL_bound (b := 1000) (by decide) h
  have h2 : xs.length * (1000 + 22) ≤ 1000000 * (1000 + 22) := Nat.mul_le_mul_right _ hl
  omega
/-- starts and links of the chains of a secret -/
def itoaS (n : Int) : ByteArray := ⟨(Go.Lib.itoa n).toArray⟩
theorem itoaS_size (n : Int) (h0 : -9223372036854775808 ≤ n) (h1 : n ≤ 9223372036854775807) : (itoaS n).size ≤ 21 := by
  have := itoaL_len n h0 h1
  have e : (itoaS n).size = (Go.Lib.itoa n).length := by show (Go.Lib.itoa n).toArray.size = _; simp
  omega
noncomputable def startS (s : ByteArray) (i : Nat) : ByteArray := listS [s, itoaS (i : Int)]
noncomputable def walkK (s : ByteArray) (d : Nat → Nat) (k : Nat) : List ByteArray := (List.range k).map fun i => chainS (startS s i) (d i)
noncomputable def pubS (s : ByteArray) : ByteArray := listS (walkK s (fun _ => 15) 18)
noncomputable def signL (s m : ByteArray) : List ByteArray := walkK s (fun i => (digs m).getD i 0) 18
theorem walkK_s (s : ByteArray) (d : Nat → Nat) (k : Nat) : walkK s d k ++ [chainS (startS s k) (d k)] = walkK s d (k + 1) := by
  unfold walkK; rw [List.range_succ, List.map_append]; simp
theorem listS_size (xs : List ByteArray) : (listS xs).size = 16 := sumS_size _
theorem walkK_len (s : ByteArray) (d : Nat → Nat) (k : Nat) : (walkK s d k).length = k := by simp [walkK]
theorem walkK_size (s : ByteArray) (d : Nat → Nat) (k : Nat) : ∀ x ∈ walkK s d k, x.size = 16 := fun x hx => by
  unfold walkK at hx
  obtain ⟨i, _, rfl⟩ := List.mem_map.1 hx
  exact chainS_size16 (listS_size _) _
/-- a transfer as it lies in memory: sv is the signature's slice -/
structure XV where
  to : ByteArray
  sv : Value
  sig : List ByteArray
instance : Inhabited XV := ⟨⟨⟨#[]⟩, .slice none 0 0, []⟩⟩
def encX (x : XV) : List Value := [.string x.to, x.sv]
structure TV where
  serial : Int
  show_ : Int
  place : Int
  first : ByteArray
  cv : Value
  chain : List XV
def encT (t : TV) : List Value := [.int .i64 t.serial, .int .i64 t.show_, .int .i64 t.place, .string t.first, t.cv]
/-- inner slices of a chain, to be read -/
def XRows (xs : List XV) : Atom where
  own := false
  fp := fun k => ∃ x ∈ xs, x.sv.ownBlock = some k ∧ 0 < 1 ∧ x.sig ≠ []
  ok := fun w => ∀ x ∈ xs, IsSl w x.sv 1 encS x.sig
  loc := fun w w' h hok x hx => (Sl x.sv 1 encS x.sig).loc w w' (fun b hb => h b ⟨x, hx, hb⟩) (hok x hx)
  lt := fun w b hok ⟨x, hx, hb⟩ => (Sl x.sv 1 encS x.sig).lt w b (hok x hx) hb
instance (priority := 2000) HasSl.xrow (l : List Atom) (xs : List XV) (i : Nat) (h : i < xs.length) : HasSl (XRows xs :: l) (xs[i]'h).sv 1 ByteArray encS (xs[i]'h).sig := ⟨fun w hw => hw (XRows xs) (List.mem_cons_self ..) _ (List.getElem_mem h)⟩
instance ROs.xrows (xs : List XV) (r : List Atom) [h : ROs r] : ROs (XRows xs :: r) := ⟨by simpa [XRows] using h.all⟩
structure TOk (w : World) (t : TV) : Prop where
  sl : IsSl w t.cv 2 encX t.chain
  cap : capOK t.cv
  rows : ∀ x ∈ t.chain, IsSl w x.sv 1 encS x.sig
structure TSz (t : TV) : Prop where
  s0 : -9223372036854775808 ≤ t.serial ∧ t.serial ≤ 9223372036854775807
  s1 : -9223372036854775808 ≤ t.show_ ∧ t.show_ ≤ 9223372036854775807
  s2 : -9223372036854775808 ≤ t.place ∧ t.place ≤ 9223372036854775807
  first : t.first.size ≤ 1000
  len : t.chain.length ≤ 1000
  x : ∀ x ∈ t.chain, x.to.size ≤ 1000 ∧ x.sig.length ≤ 1000 ∧ ∀ s ∈ x.sig, s.size ≤ 1000
theorem IsSl.ext {w w' : World} (e : Ext w w') {v : Value} {sz : Nat} {α : Type} {enc : α → List Value} {xs : List α} (h : IsSl w v sz enc xs) : IsSl w' v sz enc xs := (Sl v sz enc xs).loc w w' (fun b hb => e.block ((Sl v sz enc xs).lt w b h hb)) h
theorem TOk.ext {w w' : World} {t : TV} (e : Ext w w') (h : TOk w t) : TOk w' t := ⟨IsSl.ext e h.sl, h.cap, fun x hx => IsSl.ext e (h.rows x hx)⟩
def cutT (t : TV) (i : Nat) : TV := { t with cv := subV t.cv 0 i 2, chain := t.chain.take i }
theorem TOk.cut {w : World} {t : TV} (h : TOk w t) (i : Nat) : TOk w (cutT t i) :=
  ⟨by have := h.sl.sub h.cap 0 i; rwa [List.drop_zero] at this, capOK_sub h.cap 0 i 2, fun x hx => h.rows x (List.mem_of_mem_take hx)⟩
theorem TSz.cut {t : TV} (h : TSz t) (i : Nat) : TSz (cutT t i) :=
  ⟨h.s0, h.s1, h.s2, h.first, by show (t.chain.take i).length ≤ 1000; rw [List.length_take]; have := h.len; omega, fun x hx => h.x x (List.mem_of_mem_take hx)⟩
def numT (t : TV) : Int := IntKind.i64.wrap (t.serial - IntKind.i64.wrap (IntKind.i64.wrap (t.show_ + 1) * 10000))
def formX (x : XV) : Bool := decide (x.sig.length = 18) && isD x.to && x.sig.all isD
def headB (t : TV) : Bool := !(decide (t.show_ < 0) || decide (t.show_ ≥ 20) || decide (numT t < 1) || decide (numT t > 9999) || decide (t.place < -1) || decide (t.place ≥ 4000) || !isD t.first || decide ((t.chain.length : Int) > 50))
def formedB (t : TV) : Bool := headB t && t.chain.all formX
def msgL (t : TV) (to : ByteArray) : List ByteArray := [itoaS t.serial, itoaS t.show_, t.first] ++ t.chain.map (·.to) ++ [to]
noncomputable def msgS (t : TV) (to : ByteArray) : ByteArray := listS (msgL t to)
def ownerS (t : TV) : ByteArray := match t.chain.getLast? with | some x => x.to | none => t.first
def usedB (t : TV) (key : ByteArray) : Bool := decide (t.first = key) || t.chain.any (fun x => decide (x.to = key))
noncomputable def stepB (t : TV) (i : Nat) : Bool := match t.chain[i]? with
  | some x => !usedB (cutT t i) x.to && verB (ownerS (cutT t i)) (msgS (cutT t i) x.to) x.sig
  | none => true
noncomputable def validB (t : TV) : Bool := formedB t && (List.range t.chain.length).all (stepB t)
def xf (x : XV) : ByteArray × List ByteArray := (x.to, x.sig)
def identV (t : TV) : List Value := [.string (itoaS t.serial), .string (itoaS t.show_), .string t.first]
def identB (a b : TV) : Bool := decide (itoaS a.serial = itoaS b.serial) && decide (itoaS a.show_ = itoaS b.show_) && decide (a.first = b.first)
def extB (a b : TV) : Bool := identB a b && decide (b.chain.length ≤ a.chain.length) && decide ((a.chain.take b.chain.length).map xf = b.chain.map xf)
theorem encX_one {w : World} {x : XV} (h : x.sv.oneCell' = true) : (encX x).all (·.oneCell') = true := by
  simp only [encX, List.all_cons, List.all_nil, h]; rfl
theorem encT_one {t : TV} (h : t.cv.oneCell' = true) : (encT t).all (·.oneCell') = true := by
  simp only [encT, List.all_cons, List.all_nil, h]; rfl
theorem _root_.Go.Gw.HSat.tok {M : Nat → Prop} {w0 w : World} {l : List Atom} (H : HSat M w0 l w) (t : TV) [h1 : HasSl l t.cv 2 XV encX t.chain] [h2 : HasCap l t.cv] [h3 : HasAt l (XRows t.chain)] : TOk w t := ⟨H.sl t.cv, H.cap t.cv, H.ok _ h3.mem⟩
theorem ownerS_some {t : TV} (h : 0 < t.chain.length) : ownerS t = (t.chain[t.chain.length - 1]'(by omega)).to := by
  unfold ownerS
  rw [List.getLast?_eq_getElem?, List.getElem?_eq_getElem (by omega)]
theorem ownerS_none {t : TV} (h : ¬ 0 < t.chain.length) : ownerS t = t.first := by
  unfold ownerS
  have : t.chain = [] := List.eq_nil_of_length_eq_zero (by omega)
  rw [this]; rfl
theorem stepB_at {t : TV} {k : Nat} (h : k < t.chain.length) : stepB t k = (!usedB (cutT t k) t.chain[k].to && verB (ownerS (cutT t k)) (msgS (cutT t k) t.chain[k].to) t.chain[k].sig) := by
  unfold stepB
  rw [List.getElem?_eq_getElem h]
theorem msgL_size {t : TV} {to : ByteArray} (h : TSz t) (ht : to.size ≤ 1000) : (∀ x ∈ msgL t to, x.size ≤ 1000) ∧ (msgL t to).length ≤ 1004 := by
  refine ⟨fun x hx => ?_, ?_⟩
  · unfold msgL at hx
    simp only [List.mem_append, List.mem_cons, List.not_mem_nil, or_false, List.mem_map] at hx
    have h1 := itoaS_size t.serial h.s0.1 h.s0.2
    have h2 := itoaS_size t.show_ h.s1.1 h.s1.2
    have h3 := h.first
    rcases hx with ((rfl | rfl | rfl) | ⟨y, hy, rfl⟩) | rfl
    · omega
    · omega
    · omega
    · exact (h.x y hy).1
    · exact ht
  · unfold msgL
    have := h.len
    simp only [List.length_append, List.length_cons, List.length_nil, List.length_map]; omega
end Go.Proofs.YtngocpdmlijnfaaDoor
