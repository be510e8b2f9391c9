/- Plain definitions and laws for layer 33: an order book. No program in sight. No condition. -/
import Derived.Test.YtcgpbalpihkiiaaGwIns
namespace Go.Proofs.Ytcgpbalpihkiiaa
open Go Go.Gw
set_option linter.unusedSimpArgs false
set_option linter.unusedVariables false
def encI (n : Int) : List Value := [.int .i64 n]
structure Ord where
  id : Int
  price : Int
  sell : Bool
  person : ByteArray
  serial : Int
  deriving DecidableEq
def Ord.enc (o : Ord) : List Value := [.int .i64 o.id, .int .i64 o.price, .bool o.sell, .string o.person, .int .i64 o.serial]
def Ord.z : Ord := ⟨0, 0, false, ⟨#[]⟩, 0⟩
structure Trd where
  ask : Int
  bid : Int
  price : Int
  deriving DecidableEq
def Trd.enc (t : Trd) : List Value := [.int .i64 t.ask, .int .i64 t.bid, .int .i64 t.price]
def Trd.z : Trd := ⟨0, 0, 0⟩
/-- an operation -/
structure Opn where
  cancel : Bool
  ord : Ord
def Opn.enc (p : Opn) : List Value := .bool p.cancel :: p.ord.enc
/-- a string's byte -/
def chr (s : ByteArray) (i : Nat) : Int := if h : i < s.size then (s[i].toNat : Int) else 0
theorem chr_at {s : ByteArray} {i : Nat} (h : i < s.size) : chr s i = (s[i].toNat : Int) := dif_pos h
def letterC (c : Int) : Bool := decide (c ≥ 97) && decide (c ≤ 122) || decide (c ≥ 65) && decide (c ≤ 90)
def digC (c : Int) : Bool := decide (c ≥ 48) && decide (c ≤ 57)
def badC (i : Nat) (c : Int) : Bool := !letterC c && (decide (i = 0) || !digC c && !decide (c = 95))
def nameB (s : ByteArray) : Bool := (List.range s.size).all (fun i => !badC i (chr s i)) && (decide (1 ≤ s.size) && decide (s.size ≤ 24))
theorem name_bad {s : ByteArray} {k : Nat} (h : k < s.size) (hb : badC k (chr s k) = true) : nameB s = false := by
  unfold nameB
  rw [Bool.and_eq_false_iff]
  left
  rw [List.all_eq_false]
  exact ⟨k, List.mem_range.2 h, by rw [hb]; simp⟩
theorem name_good {s : ByteArray} (h : ∀ j, j < s.size → badC j (chr s j) = false) : nameB s = (decide (1 ≤ s.size) && decide (s.size ≤ 24)) := by
  unfold nameB
  rw [show (List.range s.size).all (fun i => !badC i (chr s i)) = true from List.all_eq_true.2 (fun i hi => by rw [h i (List.mem_range.1 hi)]; rfl), Bool.true_and]
theorem str_empty (s : ByteArray) : (!decide (s = ⟨#[]⟩)) = decide (1 ≤ s.size) := by
  rw [Bool.eq_iff_iff, Bool.not_eq_true', decide_eq_false_iff_not, decide_eq_true_eq]
  constructor
  · intro h
    rcases Nat.eq_zero_or_pos s.size with e | e
    · exact absurd (by obtain ⟨d⟩ := s; congr; exact Array.eq_empty_of_size_eq_zero e) h
    · exact e
  · rintro h rfl; exact absurd h (by decide)
def within (n lo hi : Int) : Bool := decide (n ≥ lo) && decide (n ≤ hi)
def serB (o : Ord) : Bool := if o.sell = true then within o.serial 1 1000000000 else decide (o.serial = 0)
def validB (o : Ord) : Bool := serB o && within o.id 1 1000000000 && within o.price 0 1000000000 && nameB o.person
/-- the prices and persons of an order and of an open one of the other side agree -/
def agreeB (o x : Ord) : Bool := (if o.sell = true then decide (o.price ≤ x.price) else decide (x.price ≤ o.price)) && !decide (x.person = o.person)
def cmpZ (x y : Int) : Int := if x < y then -1 else if x > y then 1 else 0
def priZ (x y : Ord) : Int := if x.sell = true then cmpZ x.price y.price else -cmpZ x.price y.price
def betZ (x y : Ord) : Int := if priZ x y ≠ 0 then priZ x y else cmpZ x.id y.id
def befB (a b : Ord) : Bool := if a.sell ≠ b.sell then a.sell else if a.price ≠ b.price then a.sell == decide (a.price < b.price) else decide (a.id < b.id)
def matchB (a b : Ord) : Bool := if a.sell = b.sell ∨ a.person = b.person then false else if a.sell = true then decide (a.price ≤ b.price) else decide (b.price ≤ a.price)
theorem cmpZ_rng (x y : Int) : -1 ≤ cmpZ x y ∧ cmpZ x y ≤ 1 := by unfold cmpZ; split <;> (try split) <;> omega
theorem betZ_neg {x y : Ord} (h : x.sell = y.sell) : decide (betZ x y < 0) = befB x y := by
  obtain ⟨i, p, s, n, q⟩ := x
  obtain ⟨i', p', s', n', q'⟩ := y
  have h : s = s' := h
  subst h
  simp only [betZ, befB, priZ, cmpZ]
  cases s <;> by_cases h1 : p < p' <;> by_cases h2 : p > p' <;> by_cases h3 : i < i' <;> by_cases h4 : i > i' <;> (first | (exfalso; omega) | skip) <;> (first | (have e : p = p' := by omega) | (have e : p ≠ p' := by omega)) <;> simp [h1, h2, h3, h4, e]
/-- the map of a set of numbers -/
def memS : List Int → Int → Option Bool
  | [] => fun _ => none
  | n :: l => Go.Gw.upd (memS l) n true
theorem memS_some (l : List Int) (x : Int) : memS l x = if x ∈ l then some true else none := by
  induction l with
  | nil => rfl
  | cons n l ih =>
    unfold memS Go.Gw.upd
    by_cases h : x = n
    · subst h; simp
    · rw [if_neg h, ih]; simp [h]
theorem memS_get (l : List Int) (x : Int) : (memS l x).getD false = decide (x ∈ l) := by
  rw [memS_some]; by_cases h : x ∈ l <;> simp [h]
/-- a book -/
structure Bk where
  offers : List Ord
  bids : List Ord
  ids : List Int
def Bk.z : Bk := ⟨[], [], []⟩
def Bk.other (s : Bk) (o : Ord) : List Ord := if o.sell = true then s.bids else s.offers
def Bk.own (s : Bk) (o : Ord) : List Ord := if o.sell = true then s.offers else s.bids
def Bk.setOther (s : Bk) (o : Ord) (l : List Ord) : Bk := if o.sell = true then { s with bids := l } else { s with offers := l }
def Bk.setOwn (s : Bk) (o : Ord) (l : List Ord) : Bk := if o.sell = true then { s with offers := l } else { s with bids := l }
def Bk.use (s : Bk) (i : Int) : Bk := { s with ids := i :: s.ids }
def serP (o x : Ord) : Bool := decide (x.serial = o.serial)
def offered (s : Bk) (o : Ord) : Bool := o.sell && s.offers.any (serP o)
def twice (s : Bk) (o : Ord) : Bool := decide (o.id ∈ s.ids) || offered s o
def tradeOf (o x : Ord) : Trd := if o.sell = true then ⟨o.id, x.id, x.price⟩ else ⟨x.id, o.id, x.price⟩
/-- an order put in its place -/
def insO (l : List Ord) (o : Ord) : List Ord := l.takeWhile (fun x => befB x o) ++ o :: l.dropWhile (fun x => befB x o)
def placeR (s : Bk) (o : Ord) : Trd × Bool × Int :=
  if validB o = false then (Trd.z, false, 1) else if twice s o = true then (Trd.z, false, 9) else
  match (s.other o).find? (agreeB o) with
  | some x => (tradeOf o x, true, 0)
  | none => if s.offers.length + s.bids.length ≥ 1000 then (Trd.z, false, 23) else (Trd.z, false, 0)
def placeS (s : Bk) (o : Ord) : Bk :=
  if validB o = false then s else if twice s o = true then s else
  match (s.other o).find? (agreeB o) with
  | some x => (s.setOther o ((s.other o).eraseP (agreeB o))).use o.id
  | none => if s.offers.length + s.bids.length ≥ 1000 then s else (s.setOwn o (insO (s.own o) o)).use o.id
def idP (i : Int) (x : Ord) : Bool := decide (x.id = i)
def cancelR (s : Bk) (i : Int) (p : ByteArray) : Int := match s.offers.find? (idP i) with
  | some x => if x.person = p then 0 else 15
  | none => match s.bids.find? (idP i) with
    | some x => if x.person = p then 0 else 15
    | none => 11
def cancelS (s : Bk) (i : Int) (p : ByteArray) : Bk := match s.offers.find? (idP i) with
  | some x => if x.person = p then { s with offers := s.offers.eraseP (idP i) } else s
  | none => match s.bids.find? (idP i) with
    | some x => if x.person = p then { s with bids := s.bids.eraseP (idP i) } else s
    | none => s
theorem find_idx {α : Type} {p : α → Bool} : ∀ {l : List α} {j : Nat} (h : j < l.length), p l[j] = true → (∀ q (hq : q < l.length), q < j → p l[q] = false) → l.find? p = some l[j] ∧ l.eraseP p = l.eraseIdx j
  | [], j, h, _, _ => by simp at h
  | x :: r, 0, h, hp, _ => by
    have hp : p x = true := hp
    exact ⟨by simp [List.find?, hp], by simp [List.eraseP_cons, hp]⟩
  | x :: r, j + 1, h, hp, hn => by
    have h0 : p x = false := hn 0 (by simp) (by omega)
    have hl : j < r.length := by simpa using h
    obtain ⟨h1, h2⟩ := find_idx (l := r) (j := j) hl hp (fun q hq hqj => hn (q + 1) (by simpa using hq) (by omega))
    exact ⟨by rw [List.find?_cons_of_neg (by simp [h0]), h1]; rfl, by rw [List.eraseP_cons, h0, h2]; rfl⟩
theorem find_none {α : Type} {p : α → Bool} {l : List α} (h : ∀ x ∈ l, p x = false) : l.find? p = none := List.find?_eq_none.2 (fun x hx => by rw [h x hx]; simp)
theorem twEq {p : Ord → Bool} : ∀ {l : List Ord} {k : Nat}, k ≤ l.length → (∀ j (h : j < l.length), j < k → p l[j] = true) → (∀ h : k < l.length, p l[k] = false) → l.takeWhile p = l.take k ∧ l.dropWhile p = l.drop k
  | [], k, hk, _, _ => by simp
  | x :: r, 0, hk, _, hb => by
    have : p x = false := hb (by simp)
    simp [List.takeWhile, List.dropWhile, this]
  | x :: r, k + 1, hk, ha, hb => by
    have h0 : p x = true := ha 0 (by simp) (by omega)
    obtain ⟨h1, h2⟩ := twEq (p := p) (l := r) (k := k) (by simpa using hk) (fun j h hj => ha (j + 1) (by simpa using h) (by omega)) (fun h => hb (by simpa using h))
    simp [List.takeWhile, List.dropWhile, h0, h1, h2]
def Ord.ok (o : Ord) : Prop := o.person.size ≤ 9223372036854775807
/-- the first of some numbers that is not zero -/
def orZ (l : List Int) : Int := (l.find? (fun x => !decide (x = 0))).getD 0
theorem orZ_at {l : List Int} {k : Nat} (h : k < l.length) (hz : ∀ j (hj : j < l.length), j < k → l[j] = 0) (hk : l[k] ≠ 0) : orZ l = l[k] := by
  unfold orZ
  rw [(find_idx (p := fun x => !decide (x = 0)) h (by simpa using hk) (fun q hq hqk => by simpa using hz q hq hqk)).1]; rfl
theorem orZ_none {l : List Int} (hz : ∀ j (hj : j < l.length), l[j] = 0) : orZ l = 0 := by
  unfold orZ
  rw [find_none (fun x hx => by obtain ⟨j, hj, rfl⟩ := List.getElem_of_mem hx; simpa using hz j hj)]; rfl
theorem orZ_two (a b : Int) : orZ [a, b] = if a ≠ 0 then a else b := by
  unfold orZ
  by_cases h : a = 0
  · by_cases h2 : b = 0 <;> simp [List.find?, h, h2]
  · simp [List.find?, h]
theorem insO_at {l : List Ord} {o : Ord} {k : Nat} (hk : k ≤ l.length) (ha : ∀ j (h : j < l.length), j < k → befB l[j] o = true) (hb : ∀ h : k < l.length, befB l[k] o = false) : insO l o = l.take k ++ o :: l.drop k := by
  obtain ⟨h1, h2⟩ := twEq (p := fun x => befB x o) hk ha hb
  rw [insO, h1, h2]
theorem beqI (a b : Int) : (a == b) = decide (a = b) := rfl
theorem bneI (a b : Int) : (a != b) = !decide (a = b) := rfl
theorem name_ret (s : ByteArray) : (decide ((1 : Int) ≤ (s.size : Int)) && decide ((s.size : Int) ≤ 24)) = (decide (1 ≤ s.size) && decide (s.size ≤ 24)) := by
  rw [Bool.eq_iff_iff]; simp only [Bool.and_eq_true, decide_eq_true_eq]; omega
theorem name_retS (s : ByteArray) : (!decide (s = ⟨#[]⟩) && decide ((s.size : Int) ≤ 24)) = (decide (1 ≤ s.size) && decide (s.size ≤ 24)) := by
  rw [str_empty, Bool.eq_iff_iff]; simp only [Bool.and_eq_true, decide_eq_true_eq]; omega
theorem valid_no (o : Ord) (h : (((o.id < 1 ∨ o.id > 1000000000) ∨ o.price < 0) ∨ o.price > 1000000000) ∨ nameB o.person = false) : validB o = false := by
  unfold validB within
  rcases h with (((h | h) | h) | h) | h
  · rw [show decide (o.id ≥ 1) = false by simp; omega]; simp
  · rw [show decide (o.id ≤ 1000000000) = false by simp; omega]; simp
  · rw [show decide (o.price ≥ 0) = false by simp; omega]; simp
  · rw [show decide (o.price ≤ 1000000000) = false by simp; omega]; simp
  · rw [h]; simp
theorem valid_go (o : Ord) (h : (((1 ≤ o.id ∧ o.id ≤ 1000000000) ∧ 0 ≤ o.price) ∧ o.price ≤ 1000000000) ∧ nameB o.person = true) : validB o = serB o := by
  obtain ⟨⟨⟨⟨h1, h2⟩, h3⟩, h4⟩, h5⟩ := h
  unfold validB within
  simp [h1, h2, h3, h4, h5]
theorem pri_eq (x y : Ord) : (if (!x.sell) = true then -cmpZ x.price y.price else cmpZ x.price y.price) = priZ x y := by
  unfold priZ; cases x.sell <;> simp
section
variable {α : Type} (xs : List α) (k : Nat) (o z : α) (hk : k < xs.length)
include hk
theorem insA : (xs.take k ++ List.replicate (xs.length + 1 - k) z).take k ++ [o] ++ (xs.take k ++ List.replicate (xs.length + 1 - k) z).drop (k + [o].length) = xs.take k ++ [o] ++ List.replicate (xs.length - k) z ∧ max (xs.take k ++ List.replicate (xs.length + 1 - k) z).length (k + [o].length) = xs.length + 1 := by
  have h : (xs.take k).length = k := by rw [List.length_take]; omega
  refine ⟨?_, by simp only [List.length_append, h, List.length_replicate, List.length_singleton]; omega⟩
  rw [List.take_left' h, List.length_singleton, List.drop_append, h, List.drop_of_length_le (by omega), List.nil_append, Nat.add_sub_cancel_left, List.drop_replicate]
  congr 2; omega
theorem insB : (xs.take k ++ [o] ++ List.replicate (xs.length - k) z).take (k + 1) ++ xs.drop k ++ (xs.take k ++ [o] ++ List.replicate (xs.length - k) z).drop (k + 1 + (xs.drop k).length) = xs.take k ++ o :: xs.drop k ∧ max (xs.take k ++ [o] ++ List.replicate (xs.length - k) z).length (k + 1 + (xs.drop k).length) = xs.length + 1 := by
  have h : (xs.take k).length = k := by rw [List.length_take]; omega
  have h2 : (xs.take k ++ [o]).length = k + 1 := by rw [List.length_append, h]; rfl
  refine ⟨?_, by simp only [List.length_append, h, List.length_replicate, List.length_singleton, List.length_drop]; omega⟩
  have h3 : (xs.take k ++ [o] ++ List.replicate (xs.length - k) z).drop (k + 1 + (xs.drop k).length) = [] := List.drop_of_length_le (by simp only [List.length_append, h, List.length_replicate, List.length_singleton, List.length_drop]; omega)
  rw [h3, List.take_left' h2, List.append_nil, List.append_assoc]; rfl
theorem insC : xs.take (k + 1) ++ xs.drop k ++ xs.drop (k + 1 + (xs.drop k).length) = xs.take (k + 1) ++ xs.drop k ∧ max xs.length (k + 1 + (xs.drop k).length) = xs.length + 1 := by
  refine ⟨?_, by simp only [List.length_drop]; omega⟩
  rw [List.drop_of_length_le (l := xs) (i := k + 1 + (xs.drop k).length) (by simp only [List.length_drop]; omega), List.append_nil]
theorem insD : (xs.take (k + 1) ++ xs.drop k).take k ++ [o] ++ (xs.take (k + 1) ++ xs.drop k).drop (k + [o].length) = xs.take k ++ o :: xs.drop k ∧ max (xs.take (k + 1) ++ xs.drop k).length (k + [o].length) = xs.length + 1 := by
  have h : (xs.take (k + 1)).length = k + 1 := by rw [List.length_take]; omega
  refine ⟨?_, by simp only [List.length_append, h, List.length_singleton, List.length_drop]; omega⟩
  rw [List.length_singleton, List.drop_left' h, List.take_append_of_le_length (by omega), List.take_take, Nat.min_eq_left (by omega), List.append_assoc]; rfl
end
def catO {α : Type} (ps : List (Value × List α)) : List α := ps.flatMap (·.2)
theorem catO_take {α : Type} {ps : List (Value × List α)} {k : Nat} (h : k < ps.length) : catO (ps.take (k + 1)) = catO (ps.take k) ++ ps[k].2 := by
  unfold catO; rw [List.take_succ_eq_append_getElem h, List.flatMap_append]; simp
theorem catO_le {α : Type} (ps : List (Value × List α)) (k : Nat) : (catO (ps.take k)).length ≤ (catO ps).length := by
  have e : catO ps = catO (ps.take k) ++ catO (ps.drop k) := by unfold catO; rw [← List.flatMap_append, List.take_append_drop]
  rw [e, List.length_append]; omega
theorem any_idx {xs : List Ord} {pr : Ord → Bool} {z : Int} (h : (z = -1 ∧ ∀ x ∈ xs, pr x = false) ∨ ∃ j : Nat, ∃ h : j < xs.length, z = j ∧ pr xs[j] = true ∧ ∀ q (hq : q < xs.length), q < j → pr xs[q] = false) : xs.any pr = decide (z ≥ 0) := by
  rcases h with ⟨rfl, h⟩ | ⟨j, hj, rfl, h, _⟩
  · rw [List.any_eq_false.2 (fun x hx => by simp [h x hx])]; rfl
  · rw [List.any_eq_true.2 ⟨_, List.getElem_mem hj, h⟩]; simp
/-- each side is in its order -/
structure Bk.Srt (s : Bk) : Prop where
  ho : ∀ x ∈ s.offers, x.sell = true
  hb : ∀ x ∈ s.bids, x.sell = false
  so : s.offers.Pairwise (fun x y => befB x y = true)
  sb : s.bids.Pairwise (fun x y => befB x y = true)
theorem befB_same {x y : Ord} (h : x.sell = y.sell) : befB x y = true ↔ (x.price ≠ y.price ∧ (x.sell = true ↔ x.price < y.price)) ∨ (x.price = y.price ∧ x.id < y.id) := by
  unfold befB
  rw [if_neg (by simp [h])]
  by_cases h1 : x.price = y.price
  · rw [if_neg (by simp [h1])]; simp [h1]
  · rw [if_pos h1]
    cases x.sell <;> simp [h1]
theorem befB_trans {x y z : Ord} (h1 : x.sell = y.sell) (h2 : y.sell = z.sell) (a : befB x y = true) (b : befB y z = true) : befB x z = true := by
  rw [befB_same h1] at a
  rw [befB_same h2] at b
  rw [befB_same (h1.trans h2)]
  rw [← h1] at b
  cases hs : x.sell
  · simp only [hs, Bool.false_eq_true, false_iff] at a b ⊢
    omega
  · simp only [hs, true_iff] at a b ⊢
    omega
/-- where binary search ends -/
theorem bs_at {l : List Ord} {o : Ord} {j : Nat} (hs : ∀ x ∈ l, x.sell = o.sell) (hp : l.Pairwise (fun x y => befB x y = true)) (hj : j ≤ l.length) (hlo : ∀ q (h : q < l.length), q + 1 = j → betZ l[q] o < 0) (hhi : ∀ h : j < l.length, 0 ≤ betZ l[j] o) : insO l o = l.take j ++ o :: l.drop j := by
  refine insO_at hj (fun q hq hqj => ?_) (fun h => ?_)
  · have hj1 : j - 1 < l.length := by omega
    have h1 : befB l[j - 1] o = true := by
      rw [← betZ_neg (hs _ (List.getElem_mem _))]
      exact decide_eq_true (hlo (j - 1) hj1 (by omega))
    by_cases e : q = j - 1
    · subst e; exact h1
    · have h2 := List.pairwise_iff_getElem.1 hp q (j - 1) hq hj1 (by omega)
      exact befB_trans ((hs _ (List.getElem_mem _)).trans (hs _ (List.getElem_mem _)).symm) (hs _ (List.getElem_mem _)) h2 h1
  · rw [← betZ_neg (hs _ (List.getElem_mem _))]
    exact decide_eq_false (by have := hhi h; omega)
section
variable {s : Bk} {i : Int} {p : ByteArray} {j : Nat}
theorem can_o (h : j < s.offers.length) (hp : idP i s.offers[j] = true) (hn : ∀ q (hq : q < s.offers.length), q < j → idP i s.offers[q] = false) :
    (s.offers[j].person = p → cancelR s i p = 0 ∧ cancelS s i p = ⟨s.offers.eraseIdx j, s.bids, s.ids⟩) ∧ (s.offers[j].person ≠ p → cancelR s i p = 15 ∧ cancelS s i p = s) := by
  obtain ⟨h1, h2⟩ := find_idx h hp hn
  constructor <;> intro e <;> simp [cancelR, cancelS, h1, e, h2]
theorem can_b (hno : ∀ x ∈ s.offers, idP i x = false) (h : j < s.bids.length) (hp : idP i s.bids[j] = true) (hn : ∀ q (hq : q < s.bids.length), q < j → idP i s.bids[q] = false) :
    (s.bids[j].person = p → cancelR s i p = 0 ∧ cancelS s i p = ⟨s.offers, s.bids.eraseIdx j, s.ids⟩) ∧ (s.bids[j].person ≠ p → cancelR s i p = 15 ∧ cancelS s i p = s) := by
  obtain ⟨h1, h2⟩ := find_idx h hp hn
  constructor <;> intro e <;> simp [cancelR, cancelS, find_none hno, h1, e, h2]
theorem can_n (hno : ∀ x ∈ s.offers, idP i x = false) (hnb : ∀ x ∈ s.bids, idP i x = false) : cancelR s i p = 11 ∧ cancelS s i p = s := by
  simp [cancelR, cancelS, find_none hno, find_none hnb]
end
section
variable {s : Bk} {o : Ord} {j : Nat}
theorem pl_bad (h : validB o = false) : placeR s o = (Trd.z, false, 1) ∧ placeS s o = s := by simp [placeR, placeS, h]
theorem pl_twice (h : validB o = true) (h2 : twice s o = true) : placeR s o = (Trd.z, false, 9) ∧ placeS s o = s := by simp [placeR, placeS, h, h2]
theorem pl_trade (h : validB o = true) (h2 : twice s o = false) {l : List Ord} (e : s.other o = l) (hj : j < l.length) (hp : agreeB o l[j] = true) (hn : ∀ q (hq : q < l.length), q < j → agreeB o l[q] = false) : placeR s o = (tradeOf o l[j], true, 0) ∧ placeS s o = (s.setOther o (l.eraseIdx j)).use o.id := by
  subst e
  obtain ⟨h3, h4⟩ := find_idx hj hp hn
  simp [placeR, placeS, h, h2, h3, h4]
theorem pl_full (h : validB o = true) (h2 : twice s o = false) (hn : ∀ x ∈ s.other o, agreeB o x = false) (hf : s.offers.length + s.bids.length ≥ 1000) : placeR s o = (Trd.z, false, 23) ∧ placeS s o = s := by
  simp [placeR, placeS, h, h2, find_none hn, hf]
theorem pl_open (h : validB o = true) (h2 : twice s o = false) (hn : ∀ x ∈ s.other o, agreeB o x = false) (hf : s.offers.length + s.bids.length < 1000) : placeR s o = (Trd.z, false, 0) ∧ placeS s o = (s.setOwn o (insO (s.own o) o)).use o.id := by
  simp [placeR, placeS, h, h2, find_none hn, show ¬ 1000 ≤ s.offers.length + s.bids.length by omega]
theorem notwice (h : twice s o = false) : o.id ∉ s.ids := by
  simp only [twice, Bool.or_eq_false_iff, decide_eq_false_iff_not] at h
  exact h.1
end
/-- the reference's book -/
structure RB where
  opn : List Ord
  ids : List Int
def RB.z : RB := ⟨[], []⟩
def serR (o x : Ord) : Bool := o.sell && x.sell && decide (x.serial = o.serial)
end Go.Proofs.Ytcgpbalpihkiiaa
