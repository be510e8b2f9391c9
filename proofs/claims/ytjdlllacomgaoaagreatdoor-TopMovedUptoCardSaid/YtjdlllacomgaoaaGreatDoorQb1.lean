/- Parts of the proof, joined: the program logic, the plain theory, the walks, as they are named inside. No condition. -/
import Derived.WalkKit
import Derived.Deep.LoopGhost
import Derived.RangeFuncLeaves
import Derived.OrdersIn
import Derived.Still
import Derived.RangeFuncIn
import Derived.RangeFuncRecord
import Derived.ProofKit
import Derived.OpenShut
import Derived.JoinedCond
import Derived.Scope
import Derived.Laws.CopyRow
import Derived.Laws.Bits64b
import Derived.ArgAppend
import Derived.Laws.Strings
import Derived.Laws.StructEq
import Derived.Laws.Concat
set_option linter.unusedVariables false
set_option linter.unusedSimpArgs false
namespace Go.Gw
section
section
abbrev Slots := List (Nat × Value)
structure Sz where
  n : Nat
  ds : List Deferred := []
instance (k : Nat) : OfNat Sz k := ⟨⟨k, []⟩⟩
def ZB0 (b : Nat) : Deferred := { target := .collected b, args := #[] }
structure St (n : Sz) (fl : Slots) (a : Act) : Prop where
  size : a.tmps.size = n.n
  defers : a.defers = n.ds
  get : ∀ i v, fl.lookup i = some v → a.tmps.getD i undef = v
def ev (fl : Slots) : Operand → Option Value
  | .tmp t => fl.lookup t
  | .const v => some v
  | .global g => some (.pointer (some ⟨g, 0, none⟩))
  | .func f => some (.func (.func f) #[] #[])
theorem St.ev {n : Sz} {fl : Slots} {a : Act} (S : St n fl a) {x : Operand} {v : Value} (h : ev fl x = some v) : a.eval x = v := by
  cases x with
  | tmp t => exact S.get t v h
  | const u => exact Option.some.inj h
  | global g => exact Option.some.inj h
  | func f => exact Option.some.inj h
theorem St.put {n : Sz} {fl : Slots} {a : Act} (S : St n fl a) {d : Nat} (hd : Nat.blt d n.n = true) (v : Value) : St n ((d, v) :: fl) (a.put (some d) v) := by
  have hd' : d < n.n := by simpa using hd
  refine ⟨by simp [Act.put, S.size], S.defers, ?_⟩
  intro i u h
  simp only [List.lookup] at h
  split at h
  · rename_i hi
    have : i = d := by simpa using hi
    subst this
    cases h
    simp [Act.put, S.size, hd']
  rename_i hi
  have hne : d ≠ i := by intro e; subst e; simp at hi
  have := S.get i u h
  simp only [Act.put, Array.getD_eq_getD_getElem?] at this ⊢
  rw [Array.getElem?_setIfInBounds_ne hne]; exact this
theorem St.putNone {n : Sz} {fl : Slots} {a : Act} (S : St n fl a) (v : Value) : St n fl (a.put none v) := S
theorem St.nil {n : Sz} {fl : Slots} {a : Act} (S : St n fl a) : St n [] a := ⟨S.size, S.defers, fun _ _ h => by cases h⟩
theorem St.cons {n : Sz} {fl fl' : Slots} {a : Act} (S' : St n fl' a) (S : St n fl a) (i : Nat) {v : Value} (h : fl.lookup i = some v) : St n ((i, v) :: fl') a := by
  refine ⟨S.size, S.defers, fun j u hj => ?_⟩
  simp only [List.lookup] at hj
  split at hj
  · rename_i hi
    have : j = i := by simpa using hi
    subst this
    cases hj
    exact S.get _ _ h
  exact S'.get j u hj
def pickS : List Nat → Slots → Option Slots
  | [], _ => some []
  | i :: l, fl => match fl.lookup i, pickS l fl with
    | some v, some r => some ((i, v) :: r)
    | _, _ => none
theorem St.sel {n : Sz} {fl : Slots} {a : Act} (S : St n fl a) : ∀ (l : List Nat) {r : Slots}, pickS l fl = some r → St n r a
  | [], _, h => by
    obtain rfl := Option.some.inj h
    exact S.nil
  | i :: l, r, h => by
    unfold pickS at h
    split at h
    · rename_i v r2 h1 h2
      obtain rfl := Option.some.inj h
      exact (S.sel l h2).cons S i h1
    cases h
theorem lookup_append (fl1 fl2 : Slots) (i : Nat) : (fl1 ++ fl2).lookup i = ((fl1.lookup i).or (fl2.lookup i)) := by
  induction fl1 with
  | nil => simp [List.lookup]
  | cons p r ih =>
    obtain ⟨k, u⟩ := p
    simp only [List.cons_append, List.lookup]
    split <;> simp [ih]
def disjB (m : Nat) (fl : Slots) : Bool := (fl.take m).all fun p => !((fl.drop m).map (·.1)).contains p.1
theorem lookup_mem {fl : Slots} {i : Nat} {v : Value} (h : fl.lookup i = some v) : i ∈ fl.map (·.1) := by
  induction fl with
  | nil => cases h
  | cons p r ih =>
    obtain ⟨k, x⟩ := p
    simp only [List.lookup] at h
    split at h
    · rename_i hk; simp at hk; simp [hk]
    exact List.mem_cons_of_mem _ (ih h)
theorem St.old {n : Sz} {fl : Slots} {a : Act} (S : St n fl a) (m : Nat) (h : disjB m fl = true) : St n (fl.drop m) a := by
  refine ⟨S.size, S.defers, fun i v hi => S.get i v ?_⟩
  have hm := lookup_mem hi
  rw [← List.take_append_drop m fl, lookup_append]
  cases ht : (fl.take m).lookup i with
  | none => simpa using hi
  | some u =>
    exfalso
    have h1 := lookup_mem ht
    obtain ⟨p, hp, rfl⟩ := List.mem_map.1 h1
    have := List.all_eq_true.1 h p hp
    simp only [Bool.not_eq_true', List.contains_eq_mem, decide_eq_false_iff_not] at this
    exact this hm
theorem St.append {n : Sz} {fl1 fl2 : Slots} {a : Act} (S1 : St n fl1 a) (S2 : St n fl2 a) : St n (fl1 ++ fl2) a := by
  refine ⟨S1.size, S1.defers, fun i v h => ?_⟩
  rw [lookup_append] at h
  cases h1 : fl1.lookup i with
  | some u => rw [h1] at h; simp at h; subst h; exact S1.get i _ h1
  | none => rw [h1] at h; simp at h; exact S2.get i v h
def ThawO : Option Obj → Prop
  | some (.cells _ _ (lo, hi)) => hi ≤ lo
  | _ => True
structure Fr (M : Nat → Prop) (w w' : World) : Prop where
  os : w'.os = w.os
  tape : w'.tape = w.tape
  output : w'.output = w.output
  size : w.heap.size ≤ w'.heap.size
  block : ∀ k, k < w.heap.size → ¬ M k → w'.heap[k]? = w.heap[k]?
  thaw : ∀ k : Nat, k < w.heap.size → ThawO w.heap[k]? → ThawO w'.heap[k]?
def No : Nat → Prop := fun _ => False
abbrev Ext (w w' : World) : Prop := Fr No w w'
theorem Fr.refl (M : Nat → Prop) (w : World) : Fr M w w := ⟨rfl, rfl, rfl, Nat.le_refl _, fun _ _ _ => rfl, fun _ _ h => h⟩
theorem Ext.refl (w : World) : Ext w w := Fr.refl _ w
theorem Ext.block {w w' : World} (h : Ext w w') {k : Nat} (hk : k < w.heap.size) : w'.heap[k]? = w.heap[k]? := Fr.block h k hk (fun x => x)
theorem Fr.ext {M : Nat → Prop} {w0 w w' : World} (h : Fr M w0 w) (e : Ext w w') : Fr M w0 w' :=
  ⟨e.os.trans h.os, e.tape.trans h.tape, e.output.trans h.output, Nat.le_trans h.size e.size,
    fun k hk hM => (e.block (Nat.lt_of_lt_of_le hk h.size)).trans (h.block k hk hM), fun k hk ht => e.thaw k (Nat.lt_of_lt_of_le hk h.size) (h.thaw k hk ht)⟩
theorem Ext.trans {w0 w w' : World} (h : Ext w0 w) (e : Ext w w') : Ext w0 w' := Fr.ext h e
theorem Ext.drawn (w : World) (d : Nat) : Ext w { w with drawn := d } := ⟨rfl, rfl, rfl, Nat.le_refl _, fun _ _ _ => rfl, fun _ _ h => h⟩
theorem Ext.drew (w : World) : Ext w w.drew := ⟨rfl, rfl, rfl, Nat.le_refl _, fun _ _ _ => rfl, fun _ _ h => h⟩
theorem heap_new (w : World) (o : Obj) : (w.alloc o).heap[w.heap.size]? = some o := by
  show (w.heap.push o)[w.heap.size]? = _
  simp
theorem Ext.alloc (w : World) (o : Obj) (ho : ThawO (some o)) : Ext w (w.alloc o) := ⟨rfl, rfl, rfl, by simp, fun k hk _ => RowKit.Below.heap_alloc w o k hk, fun k hk ht => by
  rw [RowKit.Below.heap_alloc w o k hk]; exact ht⟩
theorem Ext.alloc_cells (w : World) (cs : Array Value) (T : TypeId) : Ext w (w.alloc (.cells cs T (0, 0))) := Ext.alloc w _ (Nat.le_refl 0)
structure Atom where
  own : Bool
  fp : Nat → Prop
  ok : World → Prop
  loc : ∀ w w' : World, (∀ b, fp b → w'.heap[b]? = w.heap[b]?) → ok w → ok w'
  lt : ∀ (w : World) b, ok w → fp b → b < w.heap.size
def apart (x y : Atom) : Prop := (x.own = true ∨ y.own = true) → ∀ b, x.fp b → ¬ y.fp b
theorem apart.symm {x y : Atom} (h : apart x y) : apart y x := fun ho b hy hx => h ho.symm b hx hy
structure HSat (M : Nat → Prop) (w0 : World) (l : List Atom) (w : World) : Prop where
  fr : Fr M w0 w
  ok : ∀ x ∈ l, x.ok w
  mine : ∀ x ∈ l, x.own = true → ∀ b, x.fp b → M b ∨ w0.heap.size ≤ b
  sep : l.Pairwise apart
theorem HSat.ext {M : Nat → Prop} {w0 w w' : World} {l : List Atom} (H : HSat M w0 l w) (e : Ext w w') : HSat M w0 l w' :=
  ⟨H.fr.ext e, fun x hx => x.loc w w' (fun b hb => e.block (x.lt w b (H.ok x hx) hb)) (H.ok x hx), H.mine, H.sep⟩
theorem HSat.perm {M : Nat → Prop} {w0 w : World} {l l' : List Atom} (H : HSat M w0 l w) (p : l.Perm l') : HSat M w0 l' w :=
  ⟨H.fr, fun x hx => H.ok x (p.mem_iff.2 hx), fun x hx => H.mine x (p.mem_iff.2 hx), (p.pairwise_iff (fun h => apart.symm h)).1 H.sep⟩
theorem HSat.sub {M : Nat → Prop} {w0 w : World} {l l' : List Atom} (H : HSat M w0 l w) (p : l'.Sublist l) : HSat M w0 l' w :=
  ⟨H.fr, fun x hx => H.ok x (p.subset hx), fun x hx => H.mine x (p.subset hx), H.sep.sublist p⟩
theorem HSat.drop {M : Nat → Prop} {w0 w : World} {l : List Atom} (H : HSat M w0 l w) (k : Nat) : HSat M w0 (l.drop k) w := H.sub (List.drop_sublist k l)
theorem HSat.tail {M : Nat → Prop} {w0 w : World} {x : Atom} {l : List Atom} (H : HSat M w0 (x :: l) w) : HSat M w0 l w := H.sub (List.sublist_cons_self x l)
theorem HSat.start (w : World) : HSat No w [] w := ⟨Fr.refl _ _, by simp, by simp, .nil⟩
theorem HSat.toExt {w0 w : World} {l : List Atom} (H : HSat No w0 l w) : Ext w0 w := H.fr
theorem HSat.ro {M : Nat → Prop} {w0 w : World} {l : List Atom} (H : HSat M w0 l w) (x : Atom) (hx : x.own = false) (hok : x.ok w) (ha : ∀ y ∈ l, y.own = true → ∀ b, x.fp b → ¬ y.fp b) : HSat M w0 (x :: l) w :=
  ⟨H.fr, fun y hy => (List.mem_cons.1 hy).elim (fun e => e ▸ hok) (H.ok y), fun y hy ho => (List.mem_cons.1 hy).elim (fun e => by subst e; simp [hx] at ho) (fun h => H.mine y h ho),
    List.pairwise_cons.2 ⟨fun y hy ho b hb => ha y hy (by simpa [hx] using ho) b hb, H.sep⟩⟩
theorem HSat.ro0 {w0 w : World} {l : List Atom} (H : HSat No w0 l w) (x : Atom) (hx : x.own = false) (hok : x.ok w0) : HSat No w0 (x :: l) w :=
  H.ro x hx (x.loc w0 w (fun b hb => Ext.block H.fr (x.lt w0 b hok hb)) hok) (fun y hy ho b hb hyb => by
    rcases H.mine y hy ho b hyb with h | h
    · exact h
    have := x.lt w0 b hok hb; omega)
theorem HSat.callM {M M' : Nat → Prop} {w0 w w' : World} {li l l' : List Atom} (H : HSat M w0 (li ++ l) w) (H' : HSat M' w l' w')
    (hM : ∀ b, M' b → ∃ x ∈ li, x.own = true ∧ x.fp b) (hn : ∀ x ∈ l', ∀ b, x.fp b → M' b ∨ w.heap.size ≤ b) : HSat M w0 (l' ++ l) w' := by
  have hsep := List.pairwise_append.1 H.sep
  have hlM : ∀ y ∈ l, ∀ b, y.fp b → ¬ M' b := fun y hy b hb hm => by
    obtain ⟨x, hx, ho, hxb⟩ := hM b hm
    exact hsep.2.2 x hx y hy (.inl ho) b hxb hb
  have hlt : ∀ y ∈ l, ∀ b, y.fp b → b < w.heap.size := fun y hy b hb => y.lt w b (H.ok y (List.mem_append_right _ hy)) hb
  have hown : ∀ b, M' b → M b ∨ w0.heap.size ≤ b := fun b hm => by
    obtain ⟨x, hx, ho, hxb⟩ := hM b hm
    exact H.mine x (List.mem_append_left _ hx) ho b hxb
  refine ⟨⟨H'.fr.os.trans H.fr.os, H'.fr.tape.trans H.fr.tape, H'.fr.output.trans H.fr.output, Nat.le_trans H.fr.size H'.fr.size, fun k hk hkM => ?_, fun k hk ht => H'.fr.thaw k (Nat.lt_of_lt_of_le hk H.fr.size) (H.fr.thaw k hk ht)⟩, fun x hx => ?_, fun x hx ho b hb => ?_, List.pairwise_append.2 ⟨H'.sep, hsep.2.1, fun x hx y hy ho b hbx hby => ?_⟩⟩
  · refine (H'.fr.block k (Nat.lt_of_lt_of_le hk H.fr.size) (fun hm => ?_)).trans (H.fr.block k hk hkM)
    rcases hown k hm with h | h
    · exact hkM h
    omega
  · rcases List.mem_append.1 hx with h | h
    · exact H'.ok x h
    exact x.loc w w' (fun b hb => H'.fr.block b (hlt x h b hb) (hlM x h b hb)) (H.ok x (List.mem_append_right _ h))
  · rcases List.mem_append.1 hx with h | h
    · rcases hn x h b hb with h' | h'
      · exact hown b h'
      exact .inr (Nat.le_trans H.fr.size h')
    exact H.mine x (List.mem_append_right _ h) ho b hb
  rcases hn x hx b hbx with h' | h'
  · exact hlM y hy b hby h'
  have := hlt y hy b hby; omega
theorem HSat.call {M : Nat → Prop} {w0 w w' : World} {l l' : List Atom} (H : HSat M w0 l w) (H' : HSat No w l' w') (hn : ∀ x ∈ l', x.own = true) : HSat M w0 (l' ++ l) w' :=
  HSat.callM (M' := No) (li := []) (by simpa using H) H' (fun b h => h.elim) (fun x hx b hb => (H'.mine x hx (hn x hx) b hb))
def Blk (b : Nat) (o : Obj) : Atom := ⟨true, (· = b), fun w => w.heap[b]? = some o, fun w w' h h' => (h b rfl).trans h', fun w k h hk => by
  subst hk; exact (Array.getElem?_eq_some_iff.1 h).1⟩
theorem HSat.alloc {M : Nat → Prop} {w0 w : World} {l : List Atom} (H : HSat M w0 l w) (o : Obj) (hth : ThawO (some o)) : HSat M w0 (Blk w.heap.size o :: l) (w.alloc o) := by
  have H' : HSat No w [Blk w.heap.size o] (w.alloc o) := ⟨Ext.alloc w o hth, by intro x hx; simp at hx; subst hx; exact heap_new w o, by intro x hx ho b hb; simp at hx; subst hx; simp [Blk] at hb; exact .inr (by omega), List.pairwise_singleton _ _⟩
  exact H.call H' (by simp [Blk])
class HasBlk (l : List Atom) (b : Nat) (o : outParam Obj) (l' : outParam (Obj → List Atom)) : Prop where
  at_ : ∃ l1 l2, l = l1 ++ Blk b o :: l2 ∧ ∀ o', l' o' = l1 ++ Blk b o' :: l2
instance (priority := 2000) HasBlk.here (l : List Atom) (b : Nat) (o : Obj) : HasBlk (Blk b o :: l) b o (fun o' => Blk b o' :: l) := ⟨[], l, rfl, fun _ => rfl⟩
instance HasBlk.there (l : List Atom) (x : Atom) (b : Nat) (o : Obj) (l' : Obj → List Atom) [h : HasBlk l b o l'] : HasBlk (x :: l) b o (fun o' => x :: l' o') := by
  obtain ⟨l1, l2, h1, h2⟩ := h.at_
  exact ⟨x :: l1, l2, by simp [h1], fun o' => by simp [h2]⟩
def Atom.ro (x : Atom) : Atom := { x with own := false }
class HasRd (l : List Atom) (b : Nat) (o : outParam Obj) : Prop where
  at_ : ∀ w, (∀ x ∈ l, x.ok w) → w.heap[b]? = some o
instance (priority := 2000) HasRd.here (l : List Atom) (b : Nat) (o : Obj) : HasRd (Blk b o :: l) b o := ⟨fun w h => h (Blk b o) (List.mem_cons_self ..)⟩
instance (priority := 2000) HasRd.hereRo (l : List Atom) (b : Nat) (o : Obj) : HasRd (Atom.ro (Blk b o) :: l) b o := ⟨fun w h => h (Atom.ro (Blk b o)) (List.mem_cons_self ..)⟩
instance HasRd.there (l : List Atom) (x : Atom) (b : Nat) (o : Obj) [h : HasRd l b o] : HasRd (x :: l) b o := ⟨fun w hw => h.at_ w (fun y hy => hw y (List.mem_cons_of_mem _ hy))⟩
instance (priority := 500) HasRd.app (l1 l : List Atom) (b : Nat) (o : Obj) [h : HasRd l b o] : HasRd (l1 ++ l) b o := ⟨fun w hw => h.at_ w (fun y hy => hw y (List.mem_append_right _ hy))⟩
theorem HSat.rd {M : Nat → Prop} {w0 w : World} {l : List Atom} (H : HSat M w0 l w) (b : Nat) {o : Obj} [h : HasRd l b o] : w.heap[b]? = some o := h.at_ w H.ok
theorem pair_ro' : ∀ {ro : List Atom}, (∀ x ∈ ro, x.own = false) → ro.Pairwise apart
  | [], _ => .nil
  | x :: r, h => List.pairwise_cons.2 ⟨fun y hy ho => by rw [h x (by simp), h y (List.mem_cons_of_mem _ hy)] at ho; simp at ho, pair_ro' (fun y hy => h y (List.mem_cons_of_mem _ hy))⟩
theorem HSat.reads {M : Nat → Prop} {w0 w : World} {l : List Atom} (H : HSat M w0 l w) : HSat No w (l.map Atom.ro) w :=
  ⟨Fr.refl _ _, fun x hx => by obtain ⟨y, hy, rfl⟩ := List.mem_map.1 hx; exact H.ok y hy, fun x hx ho => by obtain ⟨y, hy, rfl⟩ := List.mem_map.1 hx; simp [Atom.ro] at ho,
    pair_ro' (fun x hx => by obtain ⟨y, hy, rfl⟩ := List.mem_map.1 hx; rfl)⟩
class HasA (l : List Atom) (x : Atom) (r : outParam (List Atom)) (l' : outParam (Atom → List Atom)) : Prop where
  to_ : l.Perm (x :: r)
  back : ∀ y, (y :: r).Perm (l' y)
instance (priority := 2000) HasA.here (l : List Atom) (x : Atom) : HasA (x :: l) x l (fun y => y :: l) := ⟨List.Perm.refl _, fun _ => List.Perm.refl _⟩
instance HasA.there (l : List Atom) (z x : Atom) (r : List Atom) (l' : Atom → List Atom) [h : HasA l x r l'] : HasA (z :: l) x (z :: r) (fun y => z :: l' y) :=
  ⟨(List.Perm.cons _ h.to_).trans (List.Perm.swap _ _ _), fun y => (List.Perm.swap _ _ _).trans (List.Perm.cons _ (h.back y))⟩
class HasPick (l tgt : List Atom) (rest : outParam (List Atom)) : Prop where
  perm : l.Perm (tgt ++ rest)
instance HasPick.nil (l : List Atom) : HasPick l [] l := ⟨List.Perm.refl _⟩
instance HasPick.cons (l : List Atom) (x : Atom) (t r rest : List Atom) (l' : Atom → List Atom) [h1 : HasA l x r l'] [h2 : HasPick r t rest] : HasPick l (x :: t) rest := ⟨h1.to_.trans (List.Perm.cons x h2.perm)⟩
theorem HSat.pick {M : Nat → Prop} {w0 w : World} {l : List Atom} (H : HSat M w0 l w) (tgt : List Atom) {rest : List Atom} [h : HasPick l tgt rest] : HSat M w0 (tgt ++ rest) w := H.perm h.perm
theorem HSat.take {M : Nat → Prop} {w0 w : World} {l : List Atom} (H : HSat M w0 l w) (tgt : List Atom) {rest : List Atom} [h : HasPick l tgt rest] : HSat M w0 tgt w := (H.perm h.perm).sub (List.sublist_append_left _ _)
theorem HSat.blk {M : Nat → Prop} {w0 w : World} {l : List Atom} (H : HSat M w0 l w) (b : Nat) {o : Obj} {l' : Obj → List Atom} [h : HasBlk l b o l'] : w.heap[b]? = some o := by
  obtain ⟨l1, l2, h1, _⟩ := h.at_
  exact H.ok (Blk b o) (by simp [h1])
def setBlk (w : World) (b : Nat) (o : Obj) : World := { w with heap := w.heap.setIfInBounds b o }
theorem HSat.set {M : Nat → Prop} {w0 w w' : World} {l : List Atom} (H : HSat M w0 l w) (b : Nat) {o : Obj} {l' : Obj → List Atom} [h : HasBlk l b o l'] (o' : Obj) (hth : ThawO (some o) → ThawO (some o'))
    (hos : w'.os = w.os) (htape : w'.tape = w.tape) (hout : w'.output = w.output) (hsz : w'.heap.size = w.heap.size) (hb : w'.heap[b]? = some o') (hother : ∀ k, k ≠ b → w'.heap[k]? = w.heap[k]?) : HSat M w0 (l' o') w' := by
  have hold := H.blk b (h := h)
  obtain ⟨l1, l2, h1, h2⟩ := h.at_
  rw [h2]
  subst h1
  have p : (l1 ++ Blk b o :: l2).Perm ([Blk b o] ++ (l1 ++ l2)) := List.perm_middle
  have H1 := H.perm p
  have H2 : HSat (· = b) w [Blk b o'] w' := ⟨⟨hos, htape, hout, by omega, fun k _ hk => hother k hk, fun k _ hk => by
    by_cases hkb : k = b
    · subst hkb; rw [hb]; rw [hold] at hk; exact hth hk
    rw [hother k hkb]; exact hk⟩, by simpa [Blk] using hb, by intro x hx _ k hk; simp at hx; subst hx; exact .inl hk, List.pairwise_singleton _ _⟩
  have H3 := HSat.callM H1 H2 (fun k hk => ⟨Blk b o, by simp, rfl, hk⟩) (by intro x hx k hk; simp at hx; subst hx; exact .inl hk)
  exact H3.perm (show (Blk b o' :: (l1 ++ l2)).Perm (l1 ++ Blk b o' :: l2) from List.perm_middle.symm)
theorem heap_setCell_same (w : World) (b off : Nat) (v : Value) (cs : Array Value) (T : TypeId) (fz : Nat × Nat) (h : w.heap[b]? = some (.cells cs T fz)) :
    (w.setCell ⟨b, off, none⟩ v).heap[b]? = some (.cells (cs.setIfInBounds off v) T fz) := by
  simp [World.setCell, Array.getElem?_modify, h]
theorem HSat.setCell {M : Nat → Prop} {w0 w : World} {l : List Atom} (H : HSat M w0 l w) (b off : Nat) (v : Value) {cs : Array Value} {T : TypeId} {fz : Nat × Nat} {l' : Obj → List Atom} [h : HasBlk l b (.cells cs T fz) l'] :
    HSat M w0 (l' (.cells (cs.setIfInBounds off v) T fz)) (w.setCell ⟨b, off, none⟩ v) :=
  H.set b _ (fun h => h) rfl rfl rfl (by simp [World.setCell]) (heap_setCell_same w b off v cs T fz (H.blk b)) (fun k hk => RowKit.Below.heap_setCell _ _ _ _ hk)
def Yld (P : Program) (o : Oper) (a : Act) (w : World) (v : Value) : Prop := (execOp a.eval o).run P w = .ok (.value v) w
def FR (r : Option Nat) : Fence := { Fence.wide with round := r }
def gp (r : Option Nat) (P : Program) (c : Code) (Q : Exit → Act → World → Prop) (a : Act) (w : World) : Prop := c.wpIn (FR r) 0 P Q a w
theorem fr_calls {r : Option Nat} {m : Nat} {P : Program} {f : FuncId} {args : Array Value} {w : World} {R : Ending → World → Prop} (h : Calls P f args w R) : CallsIn (FR r) m P f args w R := (callsIn_wide (n := m)).2 h
theorem fr_round {r : Option Nat} {m : Nat} {P : Program} {l : Nat} {f : FuncId} {tmps : Array Value} {assign body : Code} {w : World} {R : Ending → World → Prop} (h : RoundIn Fence.wide 0 P l f tmps assign body w R) : RoundIn (FR r) m P l f tmps assign body w R := ⟨trivial, fun c cs _ => h.2 c cs (room_wide _)⟩
section
variable {P : Program} {ops : Array Oper} {Q : Exit → Act → World → Prop} {rest : List Oper} {o : Oper} {n : Sz} {fl : Slots} {a : Act} {w : World} {d : Nat} {v : Value} {r : Option Nat}
def upon (P : Program) (o : Oper) (a : Act) (K : Act → World → Prop) : Result Next → Prop
  | .ok (.value v) w' => K (a.put o.dst v) w'
  | .ok .skip w' => K (a.put o.dst undef) w'
  | .ok (.enter f args) w' => Calls P f args w' (fun e w'' => ∃ v, e = .returned v ∧ K (a.put o.dst v) w'')
  | .ok (.round l f tmps assign body) w' => RoundIn Fence.wide 0 P l f tmps assign body w' (fun e w'' => ∃ v, e = .returned v ∧ K (a.put o.dst v) w'')
  | _ => False
def opw (P : Program) (ops : Array Oper) (o : Oper) (a : Act) (w : World) (K : Act → World → Prop) : Prop :=
  (Region.wanted o (yielded ops a.tmps) = true → upon P o a K ((execOp a.eval o).run P w)) ∧ (Region.wanted o (yielded ops a.tmps) = false → K (a.put o.dst undef) w)
theorem semAt_ok {x : Next} {w' : World} (h : (execOp a.eval o).run P w = .ok x w') (hx : ∀ d, x ≠ .defer d) : (o.semAt r a.eval).run P w = .ok x w' := by
  rw [Oper.semAt_eq r a.eval o ?_]
  · exact h
  intro c hc
  unfold execOp at h; rw [hc] at h
  simp only [Sem.run_bind] at h
  cases hr : (resolve a.eval c o.type).run P w with
  | ok d w1 => rw [hr] at h; simp at h; exact hx d h.1.symm
  | halt y w1 => rw [hr] at h; simp at h
theorem opw_op {K : Act → World → Prop} {Q' : Exit → Act → World → Prop} (h : opw P ops o a w K) :
    if Region.wanted o (yielded ops a.tmps) = true then o.wpIn (FR r) 0 P a w K Q' else (∀ f, o.about P w a.eval = some f → (FR r).fn f) ∧ K (a.put o.dst undef) w := by
  by_cases hw : Region.wanted o (yielded ops a.tmps) = true
  · rw [if_pos hw]
    refine ⟨fun _ _ => trivial, ?_⟩
    show o.uponIn (FR r) 0 P a K Q' ((o.semAt r a.eval).run P w)
    have h := h.1 hw
    unfold upon at h
    split at h
    · rename_i hr; rw [semAt_ok hr (by simp)]; exact h
    · rename_i hr; rw [semAt_ok hr (by simp)]; exact h
    · rename_i f args w' hr
      rw [semAt_ok hr (by simp), Oper.uponIn_enter]
      refine ⟨fun h => (by cases h), fr_calls (Calls.mono h fun e w'' ⟨v, he, hv⟩ => ?_)⟩
      subst he; exact hv
    · rename_i l f tmps assign body w' hr
      rw [semAt_ok hr (by simp), Oper.uponIn_round]
      refine ⟨fun h => (by cases h), fr_round (RoundIn.mono h fun e w'' ⟨v, he, hv⟩ => ?_)⟩
      subst he; exact hv
    exact h.elim
  rw [if_neg hw]; exact ⟨fun _ _ => trivial, h.2 (by simpa using hw)⟩
theorem upon_mono {K K' : Act → World → Prop} {x : Result Next} (h : upon P o a K x) (hk : ∀ a w, K a w → K' a w) : upon P o a K' x := by
  unfold upon at h ⊢
  split at h
  · exact hk _ _ h
  · exact hk _ _ h
  · exact Calls.mono h fun e w'' ⟨v, he, hv⟩ => ⟨v, he, hk _ _ hv⟩
  · exact RoundIn.mono h fun e w'' ⟨v, he, hv⟩ => ⟨v, he, hk _ _ hv⟩
  exact h.elim
theorem opw_mono {K K' : Act → World → Prop} (h : opw P ops o a w K) (hk : ∀ a w, K a w → K' a w) : opw P ops o a w K' :=
  ⟨fun hw => upon_mono (h.1 hw) hk, fun hw => hk _ _ (h.2 hw)⟩
def gl (P : Program) (ops : Array Oper) (Q : Exit → Act → World → Prop) : List Oper → Act → World → Prop
  | [], a, w => Q .normal a w
  | o :: rest, a, w => opw P ops o a w (gl P ops Q rest)
theorem ZAF (h : opw P ops o a w (gl P ops Q rest)) : gl P ops Q (o :: rest) a w := h
theorem ZAj (h : Q .normal a w) : gl P ops Q [] a w := h
theorem gl_ops {l : List Oper} : ∀ (k m : Nat) (a : Act) (w : World), k + m = l.length → gl P l.toArray Q (l.drop k) a w → wpOpsIn (FR r) 0 P l.toArray Q (List.range' k m) a w := by
  intro k m
  induction m generalizing k with
  | zero =>
    intro a w hk h
    rw [List.drop_eq_nil_of_le (by omega)] at h
    exact h
  | succ m ih =>
    intro a w hk h
    have hlt : k < l.length := by omega
    rw [List.drop_eq_getElem_cons hlt] at h
    rw [List.range'_succ, wpOpsIn_cons]
    unfold wpOpIn
    have ho : l.toArray[k]? = some l[k] := by simp [hlt]
    rw [ho]
    exact opw_op (opw_mono h (fun a' w' h' => ih (k + 1) a' w' (by omega) h'))
theorem ZAB {id : Nat} {l : List Oper} (h : gl P l.toArray Q l a w) : gp r P (.region id l.toArray false) Q a w := by
  refine wpIn_region ?_
  rw [List.range_eq_range', List.size_toArray]
  exact gl_ops 0 l.length a w (by omega) (by simpa using h)
theorem wn (hg : o.guard = none) : Region.wanted o (yielded ops a.tmps) = true := by simp [Region.wanted, hg]
variable {K : Act → World → Prop}
theorem opw_is {x : Result Next} (hw : Region.wanted o (yielded ops a.tmps) = true) (hr : (execOp a.eval o).run P w = x) (k : upon P o a K x) : opw P ops o a w K :=
  ⟨fun _ => by rw [hr]; exact k, fun h => by rw [hw] at h; cases h⟩
theorem opw_val {w' : World} (hw : Region.wanted o (yielded ops a.tmps) = true) (hr : (execOp a.eval o).run P w = .ok (.value v) w') (k : K (a.put o.dst v) w') : opw P ops o a w K := opw_is hw hr k
theorem opw_skip {w' : World} (hw : Region.wanted o (yielded ops a.tmps) = true) (hr : (execOp a.eval o).run P w = .ok .skip w') (k : K (a.put o.dst undef) w') : opw P ops o a w K := opw_is hw hr k
theorem opw_un (hw : Region.wanted o (yielded ops a.tmps) = false) (k : K (a.put o.dst undef) w) : opw P ops o a w K :=
  ⟨fun h => (by rw [hw] at h; cases h), fun _ => k⟩
theorem op_y (hw : Region.wanted o (yielded ops a.tmps) = true) (hd : o.dst = some d) (hn : Nat.blt d n.n = true) (S : St n fl a) (hy : Yld P o a w v)
    (k : ∀ a', St n ((d, v) :: fl) a' → K a' w) : opw P ops o a w K := by
  refine opw_val hw hy ?_
  rw [hd]; exact k _ (S.put hn v)
theorem ZAA {K : Act → World → Prop} (h : K a w) : Exit.then K Q .normal a w := h
theorem ZAK {id : Nat} (h : Q .normal a w) : Exit.inBlock id Q .normal a w := h
theorem ZAO {K : Act → World → Prop} {id : Nat} (h : Q (.exit id) a w) : Exit.then K Q (.exit id) a w := h
theorem x_ne {id id' : Nat} (hne : (id' == id) = false) (h : Q (.exit id') a w) : Exit.inBlock id Q (.exit id') a w := by
  simp only [Exit.inBlock]; rw [if_neg (by simpa using hne)]; exact h
theorem x_eq {id : Nat} (h : Q .normal a w) : Exit.inBlock id Q (.exit id) a w := by
  simp only [Exit.inBlock, if_true]; exact h
theorem ZAX {K : Act → World → Prop} (h : Q .ret a w) : Exit.then K Q .ret a w := h
theorem ZAm {id : Nat} (h : Q .ret a w) : Exit.inBlock id Q .ret a w := h
theorem ZAM (h : Q .normal a w) : gp r P .skip Q a w := wpIn_skip h
theorem ZAf {id : Nat} (h : Q (.exit id) a w) : gp r P (.exit id) Q a w := wpIn_exit h
theorem ZAe (h : Q .ret a w) : gp r P .ret Q a w := wpIn_ret h
theorem ZAG {x y : Code} (h : gp r P x (Exit.then (gp r P y Q) Q) a w) : gp r P (.seq x y) Q a w := wpIn_seq h
theorem ZAD {id : Nat} {c : Code} (h : gp r P c (Exit.inBlock id Q) a w) : gp r P (.block id c) Q a w := wpIn_block h
theorem g_mono {c : Code} {Q' : Exit → Act → World → Prop} (h : gp r P c Q a w) (hq : ∀ e a w, Q e a w → Q' e a w) : gp r P c Q' a w := wpIn_mono h hq
theorem c_if {c : Operand} {x y : Code} {B : Bool} (S : St n fl a) (hc : ev fl c = some (.bool B)) (ht : B = true → gp r P x Q a w) (hf : B = false → gp r P y Q a w) :
    gp r P (.cond c x y) Q a w := wpIn_cond_split (S.ev hc) ht hf
theorem g_loop {c : Code} (I : Nat → Act → World → Prop) (n₀ : Nat) (h₀ : I n₀ a w)
    (round : ∀ n a w, I n a w → gp r P c (Exit.then (fun a' w' => ∃ n', n' < n ∧ I n' a' w') Q) a w) : gp r P (.loop c) Q a w := by
  refine wpIn_loop (fun a w => ∃ n, I n a w) (fun a w => leastOf (fun n => I n a w)) ⟨n₀, h₀⟩ ?_
  intro a w hI
  refine wpIn_mono (round _ a w (leastOf_spec hI).1) ?_
  intro e a' w' hq
  cases e with
  | normal =>
    obtain ⟨n', hlt, hI'⟩ := hq
    exact show (∃ n, I n a' w') ∧ leastOf (fun n => I n a' w') < leastOf (fun n => I n a w) from ⟨⟨n', hI'⟩, Nat.lt_of_le_of_lt ((leastOf_spec ⟨n', hI'⟩).2 n' hI') hlt⟩
  | _ => exact hq
theorem cut {c : Code} {K : Act → World → Prop} (J : Act → World → Prop) (h : gp r P c (Exit.then J Q) a w) (hk : ∀ a' w', J a' w' → K a' w') : gp r P c (Exit.then K Q) a w :=
  g_mono h (fun e a' w' hq => by cases e <;> first | exact hk _ _ hq | exact hq)
def Ret (P : Program) (f : FuncId) (args : Array Value) (w : World) (R : Value → World → Prop) : Prop := Calls P f args w (fun e w' => ∃ v, e = .returned v ∧ R v w')
theorem Ret.mono {f : FuncId} {args : Array Value} {R R' : Value → World → Prop} (h : Ret P f args w R) (hr : ∀ v w', R v w' → R' v w') : Ret P f args w R' :=
  Calls.mono h (fun e w' ⟨v, he, hv⟩ => ⟨v, he, hr v w' hv⟩)
def endP (P : Program) (fn : Func) (R : Value → World → Prop) : Exit → Act → World → Prop := bodyPostM Fence.wide 0 P fn (fun e w' => ∃ v, e = .returned v ∧ R v w')
theorem end_ret {fn : Func} {R : Value → World → Prop} (S : St n fl a) (hds : n.ds = []) (hr : (results fn a.tmps).run P w = .ok v w) (h : R v w) : endP P fn R .ret a w := by
  have hd := S.defers
  rw [hds] at hd
  show LeavesInM Fence.wide 0 P fn a.tmps _ a.defers .returning w
  rw [hd]
  exact ⟨v, hr, v, rfl, h⟩
def argSlots (args : List Value) : Slots := (List.range args.length).zip args
theorem lookup_zip_range' (args : List Value) : ∀ (s i : Nat) (v : Value), ((List.range' s args.length).zip args).lookup i = some v → s ≤ i ∧ args[i - s]? = some v := by
  induction args with
  | nil => intro s i v h; simp at h
  | cons x r ih =>
    intro s i v h
    simp only [List.length_cons, List.range'_succ, List.zip_cons_cons, List.lookup] at h
    split at h
    · rename_i hi
      have : i = s := by simpa using hi
      subst this; cases h; simp
    obtain ⟨h1, h2⟩ := ih (s + 1) i v h
    refine ⟨by omega, ?_⟩
    have : i - s = (i - (s + 1)) + 1 := by omega
    rw [this]; simpa using h2
theorem ZAE {f : FuncId} {fn : Func} {c : Code} {args : Array Value} {R : Value → World → Prop} {fl : Slots} (hf : P.funcs[f]? = some fn) (hb : fn.body = some c) {nt : Nat} (hn : fn.ntmps = nt) (hsz : Nat.ble args.size nt = true) (hfl : argSlots args.toList = fl)
    (h : ∀ a, St ⟨nt, []⟩ fl a → gp none P c (endP P fn R) a w) : Ret P f args w R := by
  have hsz' : args.size ≤ nt := by simpa using hsz
  refine (callsIn_wide (n := 0)).1 (callsIn_of_wp_marks (F := Fence.wide) hf hb trivial (h _ ⟨by simp; omega, rfl, ?_⟩))
  intro i v hi
  subst hfl
  have h' := lookup_zip_range' args.toList 0 i v (by simpa [argSlots, List.range_eq_range'] using hi)
  have hi2 : args[i]? = some v := by simpa using h'.2
  have hlt := (Array.getElem?_eq_some_iff.1 hi2).1
  simp only [Array.getD_eq_getD_getElem?]
  rw [Array.getElem?_append_left hlt, hi2]; rfl
theorem ret1 {fn : Func} {R : Value → World → Prop} {t : Nat} (hr : fn.results = #[.tmp t]) (S : St n fl a) (hv : fl.lookup t = some v) (h : R v w) (hds : n.ds = [] := by rfl) : endP P fn R .ret a w :=
  end_ret S hds (by rw [results_tmp hr, S.get t v hv]) h
theorem ret2 {fn : Func} {R : Value → World → Prop} {t u : Nat} {v' : Value} (hr : fn.results = #[.tmp t, .tmp u]) (S : St n fl a) (hv : fl.lookup t = some v) (hv' : fl.lookup u = some v') (h : R (.tuple #[v, v']) w) (hds : n.ds = [] := by rfl) : endP P fn R .ret a w :=
  end_ret S hds (by rw [results_tmp2 hr, S.get t v hv, S.get u v' hv']) h
theorem ZB1 {fn : Func} {R : Value → World → Prop} (hr : fn.results = #[]) (S : St n fl a) (h : R (.tuple #[]) w) (hds : n.ds = [] := by rfl) : endP P fn R .normal a w :=
  end_ret S hds (results_none hr _ _ _) h
theorem ret0 {fn : Func} {R : Value → World → Prop} (hr : fn.results = #[]) (S : St n fl a) (h : R (.tuple #[]) w) (hds : n.ds = [] := by rfl) : endP P fn R .ret a w :=
  end_ret S hds (results_none hr _ _ _) h
end
end
section
section
variable {P : Program} {o : Oper} {n : Sz} {fl : Slots} {a : Act} {w : World} {v : Value}
theorem ZAL {x : Operand} (ho : o.op = .move x) (S : St n fl a) (hx : ev fl x = some v) : Yld P o a w v := by
  unfold Yld execOp; rw [ho]; simp [S.ev hx]
theorem ZA1 {x : Operand} (ho : o.op = .assign x) (S : St n fl a) (hx : ev fl x = some v) : Yld P o a w v := by
  unfold Yld execOp; rw [ho]; simp [S.ev hx]
theorem ZBV {x : Operand} {T : TypeId} {B : Bool} (ho : o.op = .unOp .not T x) (S : St n fl a) (hx : ev fl x = some (.bool B)) : Yld P o a w (.bool (!B)) := by
  unfold Yld execOp; rw [ho]; simp only [S.ev hx]; simp [Op.unary]
def intOp (op : BinOp) (k : IntKind) (m n : Int) : Option Value :=
  match op with
  | .add => some (.int k (k.wrap (m + n)))
  | .sub => some (.int k (k.wrap (m - n)))
  | .mul => some (.int k (k.wrap (m * n)))
  | .eql => some (.bool (m == n))
  | .neq => some (.bool (m != n))
  | .lss => some (.bool (decide (m < n)))
  | .leq => some (.bool (decide (m ≤ n)))
  | .gtr => some (.bool (decide (m > n)))
  | .geq => some (.bool (decide (m ≥ n)))
  | _ => none
theorem ZAn {op : BinOp} {T U : TypeId} {x y : Operand} {k : IntKind} {m q : Int} (ho : o.op = .binOp op T x y U) (S : St n fl a) (hx : ev fl x = some (.int k m)) (hy : ev fl y = some (.int k q)) (hv : intOp op k m q = some v) : Yld P o a w v := by
  unfold Yld execOp; rw [ho]; simp only [S.ev hx, S.ev hy]
  cases op <;> simp [intOp] at hv <;> subst hv <;> simp [eqGuard, binOp, Op.intArith, Op.intCmp]
theorem wrap_in {m : Int} (h1 : -9223372036854775808 ≤ m) (h2 : m ≤ 9223372036854775807) : IntKind.i64.wrap m = m := IntWalk.i64_in m ⟨h1, h2⟩
theorem y_add {T U : TypeId} {x y : Operand} {m q : Int} (ho : o.op = .binOp .add T x y U) (S : St n fl a) (hx : ev fl x = some (.int .i64 m)) (hy : ev fl y = some (.int .i64 q)) (h : -9223372036854775808 ≤ m + q ∧ m + q ≤ 9223372036854775807) : Yld P o a w (.int .i64 (m + q)) :=
  ZAn ho S hx hy (by simp [intOp, wrap_in h.1 h.2])
theorem y_sub {T U : TypeId} {x y : Operand} {m q : Int} (ho : o.op = .binOp .sub T x y U) (S : St n fl a) (hx : ev fl x = some (.int .i64 m)) (hy : ev fl y = some (.int .i64 q)) (h : -9223372036854775808 ≤ m - q ∧ m - q ≤ 9223372036854775807) : Yld P o a w (.int .i64 (m - q)) :=
  ZAn ho S hx hy (by simp [intOp, wrap_in h.1 h.2])
theorem y_mul {T U : TypeId} {x y : Operand} {m q : Int} (ho : o.op = .binOp .mul T x y U) (S : St n fl a) (hx : ev fl x = some (.int .i64 m)) (hy : ev fl y = some (.int .i64 q)) (h : -9223372036854775808 ≤ m * q ∧ m * q ≤ 9223372036854775807) : Yld P o a w (.int .i64 (m * q)) :=
  ZAn ho S hx hy (by simp [intOp, wrap_in h.1 h.2])
theorem y_quo {T U : TypeId} {x y : Operand} {m q : Int} (ho : o.op = .binOp .quo T x y U) (S : St n fl a) (hx : ev fl x = some (.int .i64 m)) (hy : ev fl y = some (.int .i64 q)) (hq : q ≠ 0) (h : -9223372036854775808 ≤ m.tdiv q ∧ m.tdiv q ≤ 9223372036854775807) : Yld P o a w (.int .i64 (m.tdiv q)) := by
  unfold Yld execOp; rw [ho]; simp only [S.ev hx, S.ev hy]
  simp [eqGuard, binOp, Op.intDiv, hq, wrap_in h.1 h.2]
theorem y_rem {T U : TypeId} {x y : Operand} {k : IntKind} {m q : Int} (ho : o.op = .binOp .rem T x y U) (S : St n fl a) (hx : ev fl x = some (.int k m)) (hy : ev fl y = some (.int k q)) (hq : q ≠ 0) : Yld P o a w (.int k (m.tmod q)) := by
  unfold Yld execOp; rw [ho]; simp only [S.ev hx, S.ev hy]
  simp [eqGuard, binOp, Op.intDiv, hq]
theorem y_len {x : Operand} {T E : TypeId} {p : Option Addr} {l c : Nat} (ho : o.op = .call { callee := .builtin .len, args := #[x], argTypes := #[T] }) (hT : P.underlying T = some (.slice E)) (S : St n fl a) (hx : ev fl x = some (.slice p l c)) : Yld P o a w (.int .i64 l) := by
  unfold Yld execOp; rw [ho]; simp [resolve, invoke, builtin, S.ev hx, Builtin.len_, goInt, run_underlying hT]
end
end
section
abbrev Cel (b : Nat) (T : TypeId) (cs : List Value) : Atom := Blk b (.cells cs.toArray T (0, 0))
def ZAl (P : Program) (T : TypeId) : Bool := match P.underlying T with
  | some (.struct _) | some (.array _ _) | none => false
  | some _ => true
def aggB (P : Program) (T : TypeId) (sz : Nat) : Bool := (match P.underlying T with
  | some (.struct _) | some (.array _ _) => true
  | _ => false) && (P.info? T).map (·.size) == some sz
def ZA8 (P : Program) (T : TypeId) (sz : Nat) : Bool := (P.info? T).map (·.size) == some sz
def ZAW (P : Program) (T : TypeId) (f : Nat) : Option Nat := match P.underlying T with
  | some (.struct fs) => match fs[f]? with
    | some fd => match P.info? fd.type with
      | some i => if i.size = 0 then none else some fd.offset
      | none => none
    | none => none
  | _ => none
theorem add_plain (b o k : Nat) : (⟨b, o, none⟩ : Addr).add k = ⟨b, o + k, none⟩ := by unfold Addr.add; split <;> simp_all
section
variable {P : Program} {o : Oper} {n : Sz} {fl : Slots} {a : Act} {w w0 : World} {v : Value} {M : Nat → Prop} {l : List Atom}
theorem run_isAgg_scalar {T : TypeId} (h : ZAl P T = true) : (isAgg T).run P w = .ok false w := by
  unfold ZAl at h
  cases hu : P.underlying T with
  | none => simp [hu] at h
  | some d => cases d <;> simp [hu] at h <;> simp [isAgg, run_underlying hu]
theorem run_isAgg_agg {T : TypeId} {sz : Nat} (h : aggB P T sz = true) : (isAgg T).run P w = .ok true w := by
  unfold aggB at h
  cases hu : P.underlying T with
  | none => simp [hu] at h
  | some d => cases d <;> simp [hu] at h <;> simp [isAgg, run_underlying hu]
theorem ZBM {T : TypeId} {sz : Nat} (h : (P.info? T).map (·.size) = some sz) : (sizeOf T).run P w = .ok sz w := by
  cases hi : P.info? T with
  | none => simp [hi] at h
  | some i => simp [hi] at h; simp [sizeOf, typeInfo, hi, h]
theorem aggB_size {T : TypeId} {sz : Nat} (h : aggB P T sz = true) : (P.info? T).map (·.size) = some sz := by
  unfold aggB at h; simp only [Bool.and_eq_true, beq_iff_eq] at h; exact h.2
theorem sizeB_size {T : TypeId} {sz : Nat} (h : ZA8 P T sz = true) : (P.info? T).map (·.size) = some sz := by
  unfold ZA8 at h; simpa using h
theorem ZA0 {T : TypeId} {p : Addr} (h : ZAl P T = true) (hc : w.cell? p = some v) : (loadVar T p).run P w = .ok v w := by
  simp [loadVar, run_isAgg_scalar h, load, Sem.run, hc]
theorem ZBc {T : TypeId} {p : Addr} {vs : List Value} (h : aggB P T vs.length = true) (hc : ∀ j u, vs[j]? = some u → w.cell? (p.add j) = some u) : (loadVar T p).run P w = .ok (.agg vs.toArray) w := by
  simp [loadVar, run_isAgg_agg h, ZBM (aggB_size h), run_loadCells_list (P := P) w p vs hc]
theorem y_load_at {T : TypeId} {x : Operand} {p : Addr} (ho : o.op = .load T x) (S : St n fl a) (hx : ev fl x = some (.pointer (some p))) (hr : (loadVar T p).run P w = .ok v w) : Yld P o a w v := by
  unfold Yld execOp; rw [ho]; simp only [S.ev hx]; simp [Instr.loadAt, Instr.sureAddr, hr]
theorem HSat.cell {H : HSat M w0 l w} {b : Nat} {cs : List Value} {T : TypeId} {fz : Nat × Nat} (h : HasRd l b (.cells cs.toArray T fz)) (off : Nat) : w.cell? ⟨b, off, none⟩ = cs[off]? := by
  have := H.rd b (h := h)
  simp [World.cell?, this]
theorem ZAJ {T : TypeId} {x : Operand} {b off : Nat} {cs : List Value} {T' : TypeId} {fz : Nat × Nat} (ho : o.op = .load T x) (hT : ZAl P T = true) (S : St n fl a) (H : HSat M w0 l w)
    (hx : ev fl x = some (.pointer (some ⟨b, off, none⟩))) [h : HasRd l b (.cells cs.toArray T' fz)] (hv : cs[off]? = some v) : Yld P o a w v :=
  y_load_at ho S hx (ZA0 hT (by rw [H.cell h, hv]))
theorem ZAb {T : TypeId} {x : Operand} {b : Nat} {cs : List Value} {T' : TypeId} {fz : Nat × Nat} (ho : o.op = .load T x) (S : St n fl a) (H : HSat M w0 l w)
    (hx : ev fl x = some (.pointer (some ⟨b, 0, none⟩))) [h : HasRd l b (.cells cs.toArray T' fz)] (hT : aggB P T cs.length = true) : Yld P o a w (.agg cs.toArray) :=
  y_load_at ho S hx (ZBc hT (fun j u hu => by rw [add_plain, H.cell h]; simpa using hu))
theorem y_loadp {T : TypeId} {x : Operand} {b off : Nat} {cs vs : List Value} {T' : TypeId} {fz : Nat × Nat} (ho : o.op = .load T x) (S : St n fl a) (H : HSat M w0 l w)
    (hx : ev fl x = some (.pointer (some ⟨b, off, none⟩))) [h : HasRd l b (.cells cs.toArray T' fz)] (hT : aggB P T vs.length = true) (hv : (cs.drop off).take vs.length = vs) : Yld P o a w (.agg vs.toArray) :=
  y_load_at ho S hx (ZBc hT (fun j u hu => by
    rw [add_plain, H.cell h]
    have hj : j < vs.length := (List.getElem?_eq_some_iff.1 hu).1
    rw [← hv, List.getElem?_take, if_pos hj, List.getElem?_drop] at hu
    exact hu))
theorem ZAq {T : TypeId} {x : Operand} {f k : Nat} {p : Addr} (ho : o.op = .fieldAddr T x f) (hF : ZAW P T f = some k) (S : St n fl a) (hx : ev fl x = some (.pointer (some p))) : Yld P o a w (.pointer (some (p.add k))) := by
  unfold Yld execOp; rw [ho]; simp only [S.ev hx]
  unfold ZAW at hF
  split at hF
  · rename_i fs hu
    split at hF
    · rename_i fd hfd
      split at hF
      · rename_i i hi
        split at hF
        · cases hF
        rename_i hz
        cases hF
        simp [Instr.fieldAt, run_underlying hu, hfd, Instr.sureAddr, fieldPlace, sizeOf, typeInfo, hi, hz]
      cases hF
    cases hF
  cases hF
theorem ZAC {T : TypeId} {x : Operand} {f k b off : Nat} (ho : o.op = .fieldAddr T x f) (hF : ZAW P T f = some k) (S : St n fl a) (hx : ev fl x = some (.pointer (some ⟨b, off, none⟩))) : Yld P o a w (.pointer (some ⟨b, off + k, none⟩)) := by
  rw [← add_plain]; exact ZAq ho hF S hx
theorem y_iaddr {T E : TypeId} {x ix : Operand} {i : Int} {k : IntKind} {b off sz len cap : Nat} (ho : o.op = .indexAddr T x ix) (hT : P.underlying T = some (.slice E)) (hE : ZA8 P E sz = true) (S : St n fl a)
    (hx : ev fl x = some (.slice (some ⟨b, off, none⟩) len cap)) (hi : ev fl ix = some (.int k i)) (hb : 0 ≤ i ∧ i < len) : Yld P o a w (.pointer (some ⟨b, off + i.toNat * sz, none⟩)) := by
  unfold Yld execOp; rw [ho]; simp only [S.ev hx, S.ev hi]
  simp [Instr.indexAt, asIntOf, run_underlying hT, hb, ZBM (sizeB_size hE), add_plain]
theorem y_iaddra {T E : TypeId} {x ix : Operand} {i : Int} {k : IntKind} {b off sz N : Nat} (ho : o.op = .indexAddr T x ix) (hT : P.underlying T = some (.array N E)) (hE : ZA8 P E sz = true) (S : St n fl a)
    (hx : ev fl x = some (.pointer (some ⟨b, off, none⟩))) (hi : ev fl ix = some (.int k i)) (hb : 0 ≤ i ∧ i < N) : Yld P o a w (.pointer (some ⟨b, off + i.toNat * sz, none⟩)) := by
  unfold Yld execOp; rw [ho]; simp only [S.ev hx, S.ev hi]
  simp [Instr.indexAt, asIntOf, run_underlying hT, Instr.sureAddr, hb, ZBM (sizeB_size hE), add_plain]
variable {ops : Array Oper} {K : Act → World → Prop} {d : Nat}
theorem op_new (hw : Region.wanted o (yielded ops a.tmps) = true) (hd : o.dst = some d) (hn : Nat.blt d n.n = true) (S : St n fl a) (H : HSat M w0 l w) {T : TypeId} {cs : List Value}
    (hr : (execOp a.eval o).run P w = .ok (.value (.pointer (some ⟨w.heap.size, 0, none⟩))) (w.alloc (.cells cs.toArray T)))
    (k : ∀ b a' w', St n ((d, .pointer (some ⟨b, 0, none⟩)) :: fl) a' → HSat M w0 (Cel b T cs :: l) w' → K a' w') : opw P ops o a w K := by
  refine opw_val hw hr ?_
  rw [hd]; exact k _ _ _ (S.put hn _) (H.alloc _ (Nat.le_refl 0))
theorem op_box (hw : Region.wanted o (yielded ops a.tmps) = true) (hd : o.dst = some d) (hn : Nat.blt d n.n = true) {T : TypeId} {x : Operand} (ho : o.op = .box T x) (S : St n fl a) (H : HSat M w0 l w) {cs : List Value} (hx : ev fl x = some v) (hcs : v.cells.toList = cs)
    (k : ∀ b a' w', St n ((d, .pointer (some ⟨b, 0, none⟩)) :: fl) a' → HSat M w0 (Cel b T cs :: l) w' → K a' w') : opw P ops o a w K :=
  op_new hw hd hn S H (by unfold execOp; rw [ho]; subst hcs; simp [S.ev hx, Instr.box, newVar, newRow, newObj, Sem.run]) k
def ZBr (P : Program) (T : TypeId) : Option (List Value) := (P.info? T).bind fun i => i.zero.map fun z => z.cells.toList
theorem run_zeroValue {T : TypeId} {z : Value} (h : (P.info? T).bind (·.zero) = some z) : (zeroValue T).run P w = .ok z w := by
  cases hi : P.info? T with
  | none => simp [hi] at h
  | some i => simp [hi] at h; simp [zeroValue, typeInfo, hi, h]
theorem ZAh (hw : Region.wanted o (yielded ops a.tmps) = true) (hd : o.dst = some d) (hn : Nat.blt d n.n = true) {T : TypeId} (ho : o.op = .alloc T) (S : St n fl a) (H : HSat M w0 l w) {cs : List Value} (hz : ZBr P T = some cs)
    (k : ∀ b a' w', St n ((d, .pointer (some ⟨b, 0, none⟩)) :: fl) a' → HSat M w0 (Cel b T cs :: l) w' → K a' w') : opw P ops o a w K := by
  refine op_new hw hd hn S H ?_ k
  unfold ZBr at hz
  cases hi : P.info? T with
  | none => simp [hi] at hz
  | some i =>
    simp [hi] at hz
    obtain ⟨z, hz1, hz2⟩ := hz
    unfold execOp; rw [ho]; subst hz2
    simp [Instr.alloc, run_zeroValue (P := P) (w := w) (T := T) (z := z) (by simp [hi, hz1]), newVar, newRow, newObj, Sem.run]
theorem ZAS {T : TypeId} {ad x : Operand} {b off : Nat} {cs : List Value} {T' : TypeId} {l' : Obj → List Atom} (hw : Region.wanted o (yielded ops a.tmps) = true) (hd : o.dst = none) (ho : o.op = .store T ad x) (S : St n fl a) (H : HSat M w0 l w)
    (had : ev fl ad = some (.pointer (some ⟨b, off, none⟩))) (hx : ev fl x = some v) [h : HasBlk l b (.cells cs.toArray T' (0, 0)) l'] (h1 : v.oneCell' = true) (hT : ZA8 P T 1 = true) (ho' : Nat.blt off cs.length = true)
    (k : ∀ a' w', St n fl a' → HSat M w0 (l' (.cells (cs.set off v).toArray T' (0, 0))) w' → K a' w') : opw P ops o a w K := by
  have hoff : off < cs.length := by simpa using ho'
  have hb := H.blk b (h := h)
  have hcell : w.cell? ⟨b, off, none⟩ = some cs[off] := by simp [World.cell?, hb, hoff]
  have hfz : w.frozen? ⟨b, off, none⟩ = false := by simp [World.frozen?, hb]
  have hrun : (execOp a.eval o).run P w = .ok .skip (w.setCell ⟨b, off, none⟩ v) := by
    unfold execOp; rw [ho]; simp only [S.ev had, S.ev hx]
    have hcells : v.cells = #[v] := by cases v <;> simp_all [Value.cells, Value.oneCell']
    have hst : (storeCells ⟨b, off, none⟩ [v] 0).run P w = .ok () (w.setCell ⟨b, off, none⟩ v) := by
      have := run_storeCells_cells (P := P) b off [v] 0 w (by intro j hj; simp at hj; subst hj; simp [hcell]) (by intro j hj; simp at hj; subst hj; simpa using hfz) (by simpa using h1)
      simpa [World.setCells] using this
    simp [Instr.storeAt, Instr.sureAddr, storeVar, ZBM (sizeB_size hT), hcells, hst]
  refine opw_skip hw hrun ?_
  rw [hd]
  refine k _ _ (S.putNone _) ?_
  have := H.setCell b off v (h := h)
  simpa using this
theorem ZAQ {T : TypeId} {ad x : Operand} {b off : Nat} {vs cs cs' : List Value} {T' : TypeId} {l' : Obj → List Atom} (hw : Region.wanted o (yielded ops a.tmps) = true) (hd : o.dst = none) (ho : o.op = .store T ad x) (S : St n fl a) (H : HSat M w0 l w)
    (had : ev fl ad = some (.pointer (some ⟨b, off, none⟩))) (hx : ev fl x = some (.agg vs.toArray)) [h : HasBlk l b (.cells cs.toArray T' (0, 0)) l'] (h1 : vs.all (·.oneCell') = true) (hT : ZA8 P T vs.length = true) (ho' : Nat.ble (off + vs.length) cs.length = true)
    (hcs : cs.take off ++ vs ++ cs.drop (off + vs.length) = cs')
    (k : ∀ a' w', St n fl a' → HSat M w0 (l' (.cells cs'.toArray T' (0, 0))) w' → K a' w') : opw P ops o a w K := by
  have hoff : off + vs.length ≤ cs.length := by simpa using ho'
  have hb := H.blk b (h := h)
  have hrun : (execOp a.eval o).run P w = .ok .skip (w.setRow b cs'.toArray) := by
    unfold execOp; rw [ho]; simp only [S.ev had, S.ev hx]
    have hst := run_storeCells_at P b off T' vs 0 cs.toArray w hb (by simpa using hoff) (by simpa using h1)
    simp only [Nat.add_zero] at hst
    rw [hcs] at hst
    simp [Instr.storeAt, Instr.sureAddr, storeVar, ZBM (sizeB_size hT), Value.cells, hst]
  refine opw_skip hw hrun ?_
  rw [hd]
  exact k _ _ (S.putNone _) (H.set b (h := h) _ (fun h => h) rfl rfl rfl (by simp [World.setRow]) (setRow_heap w b _ _ _ _ hb) (fun k hk => setRow_other w b k _ hk))
end
end
section
def evs (fl : Slots) : List Operand → Option (List Value)
  | [] => some []
  | x :: r => match ev fl x, evs fl r with
    | some v, some vs => some (v :: vs)
    | _, _ => none
section
variable {P : Program} {o : Oper} {n : Sz} {fl : Slots} {a : Act} {w w0 : World} {v : Value} {M : Nat → Prop} {l : List Atom}
variable {r : Option Nat} {ops : Array Oper} {Q : Exit → Act → World → Prop} {rest : List Oper} {d : Nat} {K : Act → World → Prop}
theorem St.evs (S : St n fl a) : ∀ {xs : List Operand} {vs : List Value}, Gw.evs fl xs = some vs → xs.map a.eval = vs
  | [], vs, h => by simp [Gw.evs] at h; subst h; rfl
  | x :: r, vs, h => by
    simp only [Gw.evs] at h
    split at h
    · rename_i v vs' h1 h2
      cases h
      simp [S.ev h1, St.evs S h2]
    cases h
def Enters (P : Program) (f : FuncId) : Prop := ∀ (args : Array Value) (w : World), (callFunc f args).run P w = .ok (.enter f args) w
def CallOp (P : Program) (o : Oper) (a : Act) (w : World) (f : FuncId) (args : Array Value) : Prop := (execOp a.eval o).run P w = .ok (.enter f args) w
theorem ZAi {f : FuncId} {xs : Array Operand} {at_ : Array TypeId} {vs : List Value} (ho : o.op = .call { callee := .value (.func f), args := xs, argTypes := at_ }) (he : Enters P f) (S : St n fl a) (hx : evs fl xs.toList = some vs) : CallOp P o a w f vs.toArray := by
  have h := S.evs hx
  have h2 : xs.map a.eval = vs.toArray := by rw [← h, ← Array.toList_map]
  unfold CallOp execOp; rw [ho]
  simp only [resolve, Act.eval, Deferred.ofValue, h2]
  simpa [invoke] using he vs.toArray w
theorem ZAp {f : FuncId} {x : Operand} {xs : Array Operand} {at_ : Array TypeId} {vs fi cap : List Value} (ho : o.op = .call { callee := .value x, args := xs, argTypes := at_ }) (he : Enters P f) (S : St n fl a) (hf : ev fl x = some (.func (.func f) fi.toArray cap.toArray)) (hx : evs fl xs.toList = some vs) : CallOp P o a w f (fi ++ vs ++ cap).toArray := by
  have h := S.evs hx
  have h2 : xs.map a.eval = vs.toArray := by rw [← h, ← Array.toList_map]
  unfold CallOp execOp; rw [ho]
  simp only [resolve, S.ev hf, Deferred.ofValue, h2]
  simpa [invoke] using he ((fi ++ vs ++ cap).toArray) w
theorem ZAV (hw : Region.wanted o (yielded ops a.tmps) = true) (hd : o.dst = some d) (hn : Nat.blt d n.n = true) {f : FuncId} {args : Array Value} (S : St n fl a) (hc : CallOp P o a w f args) {R : Value → World → Prop} (h : Ret P f args w R)
    (k : ∀ v w', R v w' → ∀ a', St n ((d, v) :: fl) a' → K a' w') : opw P ops o a w K := by
  refine opw_is hw hc ?_
  show Calls P f args w _
  rw [hd]
  exact Calls.mono h fun e w' ⟨v, he, hR⟩ => ⟨v, he, k v w' hR _ (S.put hn v)⟩
theorem ZAa {x : Operand} {i : Nat} {vs : List Value} (ho : o.op = .extract x i) (S : St n fl a) (hx : ev fl x = some (.tuple vs.toArray)) (hv : vs[i]? = some v) : Yld P o a w v := by
  unfold Yld execOp; rw [ho]; simp [S.ev hx, Instr.extract, hv]
theorem ZAd {f : FuncId} {fi cap : Array Operand} {fv cv : List Value} (ho : o.op = .makeFunc (.func f) fi cap) (S : St n fl a) (h1 : evs fl fi.toList = some fv) (h2 : evs fl cap.toList = some cv) : Yld P o a w (.func (.func f) fv.toArray cv.toArray) := by
  have e1 : fi.map a.eval = fv.toArray := by rw [← S.evs h1, ← Array.toList_map]
  have e2 : cap.map a.eval = cv.toArray := by rw [← S.evs h2, ← Array.toList_map]
  unfold Yld execOp; rw [ho]; simp [Instr.makeFunc, e1, e2]
theorem retc {fn : Func} {R : Value → World → Prop} {t T b : Nat} {cs : List Value} {T' : TypeId} {fz : Nat × Nat} (hr : fn.results = #[.cell t T]) (S : St n fl a) (H : HSat M w0 l w) (hv : fl.lookup t = some (.pointer (some ⟨b, 0, none⟩)))
    [h : HasRd l b (.cells cs.toArray T' fz)] (hT : aggB P T cs.length = true) (hR : R (.agg cs.toArray) w) (hds : n.ds = [] := by rfl) : endP P fn R .ret a w := by
  refine end_ret S hds (v := .agg cs.toArray) ?_ hR
  have hl := ZBc (P := P) (w := w) (p := ⟨b, 0, none⟩) hT (fun j u hu => by rw [add_plain, H.cell h]; simpa using hu)
  have hv' : a.tmps[t]?.getD undef = .pointer (some ⟨b, 0, none⟩) := by rw [← Array.getD_eq_getD_getElem?]; exact S.get t _ hv
  simp [results, hr, hv', asAddr, hl]
theorem loop {X : Type} {c : Code} {flU : Slots} (SU : St n flU a) (mods : X → Slots) (hp : X → List Atom) (inv : X → Prop) (μ : X → Nat) (x0 : X) (S0 : St n (mods x0) a) (H0 : HSat M w0 (hp x0) w) (h0 : inv x0)
    (body : ∀ x a w, St n (mods x ++ flU) a → HSat M w0 (hp x) w → inv x →
      gp r P c (Exit.then (fun a' w' => ∃ y, St n (mods y) a' ∧ St n flU a' ∧ HSat M w0 (hp y) w' ∧ inv y ∧ μ y < μ x) Q) a w) : gp r P (Code.loop c) Q a w := by
  refine g_loop (fun m a w => ∃ x, μ x = m ∧ St n (mods x) a ∧ St n flU a ∧ HSat M w0 (hp x) w ∧ inv x) (μ x0) ⟨x0, rfl, S0, SU, H0, h0⟩ ?_
  rintro m a w ⟨x, rfl, S1, S2, H, hi⟩
  refine g_mono (body x a w (S1.append S2) H hi) ?_
  intro e a' w' hq
  cases e with
  | normal =>
    obtain ⟨y, h1, h2, h3, h4, h5⟩ := hq
    exact ⟨μ y, h5, y, rfl, h1, h2, h3, h4⟩
  | _ => exact hq
theorem wg (g : Nat) {j : Nat} {b : Bool} (hg : o.guard = some (j, b)) (hj : (ops[j]?).bind (·.dst) = some g) (S : St n fl a) (hb : fl.lookup g = some (.bool b)) (hn : Nat.blt g n.n = true) : Region.wanted o (yielded ops a.tmps) = true := by
  have hv := S.get g _ hb
  have hlt : g < a.tmps.size := by rw [S.size]; simpa using hn
  have : a.tmps[g]? = some (.bool b) := by
    simp only [Array.getD_eq_getD_getElem?] at hv
    rw [Array.getElem?_eq_getElem hlt] at hv ⊢
    simpa using hv
  simp [Region.wanted, hg, yielded, hj, this]
theorem ug (g : Nat) {j : Nat} {b : Bool} (hg : o.guard = some (j, b)) (hj : (ops[j]?).bind (·.dst) = some g) (S : St n fl a) {v : Value} (hb : fl.lookup g = some v) (hv : v ≠ .bool b) (hn : Nat.blt g n.n = true) : Region.wanted o (yielded ops a.tmps) = false := by
  have hv' := S.get g _ hb
  have hlt : g < a.tmps.size := by rw [S.size]; simpa using hn
  have : a.tmps[g]? = some v := by
    simp only [Array.getD_eq_getD_getElem?] at hv'
    rw [Array.getElem?_eq_getElem hlt] at hv' ⊢
    simpa using hv'
  simp only [Region.wanted, hg, yielded, hj, Option.bind_some, this]
  cases v with
  | bool c => cases b <;> cases c <;> simp_all
  | _ => simp
theorem wg' (g : Nat) {j : Nat} {b B : Bool} (hg : o.guard = some (j, b)) (hj : (ops[j]?).bind (·.dst) = some g) (S : St n fl a) (hb : fl.lookup g = some (.bool B)) (h : B = b) (hn : Nat.blt g n.n = true) : Region.wanted o (yielded ops a.tmps) = true := by
  subst h; exact wg g hg hj S hb hn
def skipOK (ops : Array Oper) (n : Nat) (keys : List Nat) (g : Nat) (b : Bool) : List Oper → List Nat → Bool
  | [], _ => true
  | o :: r, ds =>
    match o.guard, o.dst with
    | some (j, b'), some d =>
      (match (ops[j]?).bind (·.dst) with
        | some gd => Nat.blt gd n && ((gd == g && b' == b) || ds.contains gd)
        | none => false) && !keys.contains d && !ds.contains d && Nat.blt d n && skipOK ops n keys g b r (d :: ds)
    | _, _ => false
theorem St.keep {d : Nat} {v : Value} (S : St n ((d, v) :: fl) a) (h : (fl.map (·.1)).contains d = false) : St n fl a := by
  have := S.old 1 (by simp [disjB] at h ⊢; intro x hx; exact h _ hx)
  simpa using this
theorem skip_all {g : Nat} {b : Bool} {u : Value} {tail : List Oper} (hu : u ≠ .bool b) (hgl : fl.lookup g = some u) :
    ∀ (blk : List Oper) (ds : List Nat) (a : Act), skipOK ops n.n (fl.map (·.1)) g b blk ds = true → St n fl a → (∀ x ∈ ds, x < n.n ∧ a.tmps.getD x undef = undef) →
      (∀ a', St n fl a' → gl P ops Q tail a' w) → gl P ops Q (blk ++ tail) a w := by
  intro blk
  induction blk with
  | nil => intro ds a _ S _ k; exact k a S
  | cons o r ih =>
    intro ds a hs S hds k
    simp only [skipOK] at hs
    split at hs
    · rename_i j b' d hg hd
      simp only [Bool.and_eq_true] at hs
      obtain ⟨⟨⟨⟨h1, h2⟩, h3⟩, h4⟩, h5⟩ := hs
      have hw : Region.wanted o (yielded ops a.tmps) = false := by
        split at h1
        · rename_i gd hgd
          simp only [Bool.and_eq_true, Bool.or_eq_true, beq_iff_eq] at h1
          rcases h1.2 with ⟨e1, e2⟩ | h1'
          · subst e1; subst e2
            exact ug gd hg hgd S hgl hu h1.1
          have := hds gd (by simpa using h1')
          have Su : St n [(gd, undef)] a := ⟨S.size, S.defers, fun i v hi => by
            simp only [List.lookup] at hi
            split at hi
            · rename_i he; have e : i = gd := by simpa using he
              subst e; cases hi; exact this.2
            cases hi⟩
          exact ug (fl := [(gd, undef)]) (v := undef) gd hg hgd Su (by simp [List.lookup]) (by simp [undef]) h1.1
        cases h1
      show gl P ops Q (o :: (r ++ tail)) a w
      refine opw_un hw ?_
      rw [hd]
      refine ih (d :: ds) _ h5 ((S.put h4 undef).keep (by simpa using h2)) ?_ k
      intro x hx
      have hd4 : d < n.n := by simpa using h4
      rcases List.mem_cons.1 hx with rfl | hx
      · exact ⟨hd4, (S.put h4 undef).get _ undef (by simp [List.lookup])⟩
      have hne : d ≠ x := by rintro rfl; simp [hx] at h3
      refine ⟨(hds x hx).1, ?_⟩
      have := (hds x hx).2
      simp only [Act.put, Array.getD_eq_getD_getElem?] at this ⊢
      rw [Array.getElem?_setIfInBounds_ne hne]; exact this
    cases hs
theorem ZBH {M : Nat → Prop} {L rest : List Oper} {pk : Oper} (m g : Nat) {B B2 : Bool} {c x y : Operand} (hL : L = L.take m ++ pk :: rest) (S : St n fl a) (H : HSat M w0 l w) (hB : fl.lookup g = some (.bool B))
    (hsk : skipOK ops n.n (fl.map (·.1)) g false (L.take m) [] = true) (hpk : pk.op = .pick c x y) (hc : ev fl c = some (.bool B)) (hx : ev fl x = some (.bool true)) (hd : pk.dst = some d) (hn : Nat.blt d n.n = true)
    (hw : ∀ a', St n fl a' → Region.wanted pk (yielded ops a'.tmps) = true)
    (hyes : B = false → (∀ a' w', St n ((d, .bool (B || B2)) :: fl) a' → HSat M w0 l w' → gl P ops Q rest a' w') → gl P ops Q L a w)
    (k : ∀ a' w', St n ((d, .bool (B || B2)) :: fl) a' → HSat M w0 l w' → gl P ops Q rest a' w') : gl P ops Q L a w := by
  cases B with
  | false => exact hyes rfl k
  | true =>
    rw [hL]
    refine skip_all (by simp) hB _ [] a hsk S (by simp) fun a' S' => ?_
    refine ZAF (op_y (hw a' S') hd hn S' (v := .bool (true || B2)) ?_ (fun a'' S'' => k a'' w S'' H))
    unfold Yld execOp; rw [hpk]; simp only [S'.ev hc, S'.ev hx]; simp [asBool]
theorem wl_and {M : Nat → Prop} {L rest : List Oper} {pk : Oper} (m g : Nat) {B B2 : Bool} {c x y : Operand} (hL : L = L.take m ++ pk :: rest) (S : St n fl a) (H : HSat M w0 l w) (hB : fl.lookup g = some (.bool B))
    (hsk : skipOK ops n.n (fl.map (·.1)) g true (L.take m) [] = true) (hpk : pk.op = .pick c x y) (hc : ev fl c = some (.bool B)) (hy : ev fl y = some (.bool false)) (hd : pk.dst = some d) (hn : Nat.blt d n.n = true)
    (hw : ∀ a', St n fl a' → Region.wanted pk (yielded ops a'.tmps) = true)
    (hyes : B = true → (∀ a' w', St n ((d, .bool (B && B2)) :: fl) a' → HSat M w0 l w' → gl P ops Q rest a' w') → gl P ops Q L a w)
    (k : ∀ a' w', St n ((d, .bool (B && B2)) :: fl) a' → HSat M w0 l w' → gl P ops Q rest a' w') : gl P ops Q L a w := by
  cases B with
  | true => exact hyes rfl k
  | false =>
    rw [hL]
    refine skip_all (by simp) hB _ [] a hsk S (by simp) fun a' S' => ?_
    refine ZAF (op_y (hw a' S') hd hn S' (v := .bool (false && B2)) ?_ (fun a'' S'' => k a'' w S'' H))
    unfold Yld execOp; rw [hpk]; simp only [S'.ev hc, S'.ev hy]; simp [asBool]
theorem ZAz {c x y : Operand} {B B2 : Bool} (ho : o.op = .pick c x y) (h : B = false) (S : St n fl a) (hc : ev fl c = some (.bool B)) (hy : ev fl y = some (.bool B2)) : Yld P o a w (.bool (B || B2)) := by
  subst h; unfold Yld execOp; rw [ho]; simp only [S.ev hc, S.ev hy]; simp [asBool]
theorem ZBf {c x y : Operand} {B B2 : Bool} (ho : o.op = .pick c x y) (h : B = true) (S : St n fl a) (hc : ev fl c = some (.bool B)) (hx : ev fl x = some (.bool B2)) : Yld P o a w (.bool (B && B2)) := by
  subst h; unfold Yld execOp; rw [ho]; simp only [S.ev hc, S.ev hx]; simp [asBool]
theorem St.join {fl' : Slots} (S : St n fl' a) (m d : Nat) {v : Value} (h : fl'.lookup d = some v) (hm : disjB m fl' = true) : St n ((d, v) :: fl'.drop m) a := (S.old m hm).cons S d h
end
end
section
def Stable (C : World → Prop) : Prop := ∀ w w', C w → Ext w w' → C w'
def QuietAt (P : Program) (o : Oper) (a : Act) (C : World → Prop) (v : Value) : Prop :=
  ∀ w, C w → Yld P o a w v ∨ ∃ f args, CallOp P o a w f args ∧ Ret P f args w (fun u w' => u = v ∧ Ext w w')
section
variable {r : Option Nat} {P : Program} {ops : Array Oper} {Q : Exit → Act → World → Prop} {md : Region.Mode}
def Mix (P : Program) (ops : Array Oper) (loud tails free : List Nat) (D : World → Prop) (K : Act → World → Prop) : List Nat → Act → (World → Prop) → Prop
  | [], a, C => ∀ w, C w → K a w
  | i :: rest, a, C => ∃ o, ops[i]? = some o ∧
    if loud.contains i = true then ∀ w, C w → opw P ops o a w (fun a' w' => ∃ C', Stable C' ∧ C' w' ∧ (∀ w, C' w → D w) ∧ ((∀ w, C' w → C w) ∨ tails.contains i = true) ∧ Mix P ops loud tails free D K rest a' C')
    else ∃ v, ((Region.wanted o (yielded ops a.tmps) = true ∧ QuietAt P o a (if free.contains i = true then D else C) v) ∨ (Region.wanted o (yielded ops a.tmps) = false ∧ v = undef)) ∧ Mix P ops loud tails free D K rest (a.put o.dst v) C
def depB (md : Region.Mode) (ops : Array Oper) : Nat → Nat → Nat → Bool
  | 0, _, _ => false
  | f + 1, i, j => match ops[i]? with
    | some o => o.after.toList.any fun e => Region.binds md e && (e.on == j || depB md ops f e.on j)
    | none => false
def noSel (o : Oper) : Bool := match o.op with | .select .. => false | _ => true
def pairOK (md : Region.Mode) (ops : Array Oper) (loud tails free : List Nat) (j i : Nat) : Bool :=
  depB md ops ops.size i j || (!loud.contains j && (!tails.contains i || free.contains j) && match ops[j]?, ops[i]? with | some oj, some oi => oj.apart ops oi && noSel oj && noSel oi | _, _ => false)
def firstOK (md : Region.Mode) (ops : Array Oper) (j : Nat) (rest : List Nat) : Bool := match ops[j]? with
  | some o => o.after.toList.all fun e => !Region.binds md e || (decide (e.on < ops.size) && !(j :: rest).contains e.on)
  | none => false
def orderOK (md : Region.Mode) (ops : Array Oper) (loud tails free : List Nat) : List Nat → Bool
  | [] => true
  | j :: rest => !rest.contains j && decide (j < ops.size) && rest.all (pairOK md ops loud tails free j) && (firstOK md ops j rest && orderOK md ops loud tails free rest)
theorem opw_put {oi oj : Oper} {v : Value} {a : Act} {w : World} {K : Act → World → Prop} (hap : oj.apart ops oi = true) (hsi : ∀ cs b, oi.op ≠ .select cs b)
    (h : opw P ops oi (a.put oj.dst v) w K) : opw P ops oi a w (fun a' w' => (∃ u, a' = a.put oi.dst u) ∧ K (a'.put oj.dst v) w') := by
  obtain ⟨h1, h2, h3⟩ := Oper.apart_spec hap
  have hp : ∀ u, (a.put oi.dst u).put oj.dst v = (a.put oj.dst v).put oi.dst u := fun u => Act.put_comm _ _ _ (fun d hd => fun hd' => h2 d hd' hd)
  refine ⟨fun hw => ?_, fun hw => ?_⟩
  · have h' := h.1 (by rw [wanted_put oi a oj.dst v h1]; exact hw)
    rw [execOp_put oi hsi a oj.dst v h1] at h'
    unfold upon at h' ⊢
    split at h'
    · exact ⟨⟨_, rfl⟩, by rw [hp]; exact h'⟩
    · exact ⟨⟨_, rfl⟩, by rw [hp]; exact h'⟩
    · exact Calls.mono h' fun e w'' ⟨u, he, hu⟩ => ⟨u, he, ⟨u, rfl⟩, by rw [hp]; exact hu⟩
    · exact RoundIn.mono h' fun e w'' ⟨u, he, hu⟩ => ⟨u, he, ⟨u, rfl⟩, by rw [hp]; exact hu⟩
    exact h'.elim
  exact ⟨⟨_, rfl⟩, by rw [hp]; exact h.2 (by rw [wanted_put oi a oj.dst v h1]; exact hw)⟩
theorem Mix.pull {loud tails free : List Nat} {D : World → Prop} {K : Act → World → Prop} {post : List Nat} {i : Nat} {oi : Oper} (hi : ops[i]? = some oi) :
    ∀ (pre : List Nat) (a : Act) (C : World → Prop), Stable C → (∀ w, C w → D w) → (tails.contains i = true → ∀ j ∈ pre, free.contains j = true) →
      (∀ j ∈ pre, loud.contains j = false ∧ ∃ oj, ops[j]? = some oj ∧ oj.apart ops oi = true ∧ noSel oj = true ∧ noSel oi = true) →
      Mix P ops loud tails free D K (pre ++ i :: post) a C → ∀ w, C w → opw P ops oi a w (fun a' w' => ∃ C', Stable C' ∧ C' w' ∧ (∀ w, C' w → D w) ∧ ((∀ w, C' w → C w) ∨ tails.contains i = true) ∧ Mix P ops loud tails free D K (pre ++ post) a' C')
  | [], a, C, hst, hCD, _, _, h, w, hw => by
    obtain ⟨o, ho, h⟩ := h
    have : o = oi := Option.some.inj (ho.symm.trans hi)
    subst this
    split at h
    · exact h w hw
    obtain ⟨v, hv, hm⟩ := h
    rcases hv with ⟨hwt, hq⟩ | ⟨hwt, rfl⟩
    · rcases hq w (by split; exact hCD w hw; exact hw) with hy | ⟨f, args, hc, hr⟩
      · exact opw_val hwt hy ⟨C, hst, hw, hCD, .inl (fun _ h => h), hm⟩
      exact opw_is hwt hc <| Calls.mono hr fun e w' ⟨u, he, hu, hx⟩ => ⟨u, he, C, hst, hst _ _ hw hx, hCD, .inl (fun _ h => h), by subst hu; exact hm⟩
    exact opw_un hwt ⟨C, hst, hw, hCD, .inl (fun _ h => h), hm⟩
  | j :: pre, a, C, hst, hCD, ht, hpre, h, w, hw => by
    obtain ⟨hlj, oj, hoj, hap, hs1, hs2⟩ := hpre j (List.mem_cons_self ..)
    obtain ⟨o, ho, h⟩ := h
    have : o = oj := Option.some.inj (ho.symm.trans hoj)
    subst this
    rw [if_neg (by rw [hlj]; simp)] at h
    obtain ⟨v, hv, hm⟩ := h
    have hsi : ∀ cs b, oi.op ≠ .select cs b := fun cs b e => by simp [noSel, e] at hs2
    have hsj : ∀ cs b, o.op ≠ .select cs b := fun cs b e => by simp [noSel, e] at hs1
    have ih := Mix.pull hi pre (a.put o.dst v) C hst hCD (fun h x hx => ht h x (List.mem_cons_of_mem _ hx)) (fun x hx => hpre x (List.mem_cons_of_mem _ hx)) hm w hw
    obtain ⟨h1, h2, h3⟩ := Oper.apart_spec hap
    refine opw_mono (opw_put hap hsi ih) ?_
    rintro a' w' ⟨⟨u, rfl⟩, C', hst', hw', hD', hsub, hm'⟩
    refine ⟨C', hst', hw', hD', hsub, o, hoj, ?_⟩
    rw [if_neg (by rw [hlj]; simp)]
    have hsub' : free.contains j = false → ∀ w, C' w → C w := fun hf => hsub.elim id (fun h => by rw [ht h j (List.mem_cons_self ..)] at hf; cases hf)
    refine ⟨v, ?_, hm'⟩
    rw [wanted_put o a oi.dst u h3]
    rcases hv with ⟨hwt, hq⟩ | ⟨hwt, rfl⟩
    · refine .inl ⟨hwt, fun w1 hw1 => ?_⟩
      have := hq w1 (by
        split
        · rename_i hf; rwa [if_pos hf] at hw1
        rename_i hf; rw [if_neg hf] at hw1; exact hsub' (by simpa using hf) w1 hw1)
      unfold Yld CallOp at *
      rwa [execOp_put o hsj a oi.dst u h3]
    exact .inr ⟨hwt, rfl⟩
def Closed (md : Region.Mode) (ops : Array Oper) (listed : Array Bool) : Prop :=
  ∀ i o, ops[i]? = some o → listed.getD i false = true → ∀ e ∈ o.after, Region.binds md e = true → listed.getD e.on false = true
theorem dep_unlisted {listed : Array Bool} (hcl : Closed md ops listed) {j : Nat} (hj : listed.getD j false = false) :
    ∀ (f i : Nat) (o : Oper), ops[i]? = some o → depB md ops f i j = true → ∃ e ∈ o.after, Region.binds md e = true ∧ listed.getD e.on false = false := by
  intro f
  induction f with
  | zero => intro i o _ h; cases h
  | succ f ih =>
    intro i o ho h
    simp only [depB, ho] at h
    obtain ⟨e, he, h⟩ := List.any_eq_true.1 h
    simp only [Bool.and_eq_true, Bool.or_eq_true, beq_iff_eq] at h
    obtain ⟨hb, h⟩ := h
    refine ⟨e, by simpa using he, hb, ?_⟩
    rcases h with rfl | h
    · exact hj
    cases hon : listed.getD e.on false with
    | false => rfl
    | true =>
      exfalso
      cases heo : ops[e.on]? with
      | none =>
        cases f with
        | zero => cases h
        | succ f => simp [depB, heo] at h
      | some oe =>
        obtain ⟨e', he', hb', hun⟩ := ih e.on oe heo h
        rw [hcl e.on oe heo hon e' he' hb'] at hun
        cases hun
theorem firstOK_sub {j : Nat} {r r' : List Nat} (hs : ∀ x ∈ r', x ∈ r) (h : firstOK md ops j r = true) : firstOK md ops j r' = true := by
  unfold firstOK at h ⊢
  split at h
  · rw [List.all_eq_true] at h ⊢
    intro e he
    have := h e he
    simp only [Bool.or_eq_true, Bool.and_eq_true, Bool.not_eq_true', List.contains_eq_mem, decide_eq_false_iff_not] at this ⊢
    rcases this with h1 | ⟨h1, h2⟩
    · exact .inl h1
    exact .inr ⟨h1, fun hm => h2 (by rcases List.mem_cons.1 hm with rfl | hm; exact List.mem_cons_self ..; exact List.mem_cons_of_mem _ (hs _ hm))⟩
  cases h
theorem orderOK_split {loud tails free : List Nat} : ∀ (pre : List Nat) {i : Nat} {post : List Nat}, orderOK md ops loud tails free (pre ++ i :: post) = true →
    (∀ j ∈ pre, pairOK md ops loud tails free j i = true) ∧ orderOK md ops loud tails free (pre ++ post) = true ∧ i ∉ pre ++ post ∧ i < ops.size
  | [], i, post, h => by
    simp only [List.nil_append, orderOK, Bool.and_eq_true] at h
    obtain ⟨⟨⟨h1, h2⟩, h3⟩, h5, h4⟩ := h
    exact ⟨by simp, h4, by simpa using h1, by simpa using h2⟩
  | j :: pre, i, post, h => by
    simp only [List.cons_append, orderOK, Bool.and_eq_true] at h
    obtain ⟨⟨⟨h1, h2⟩, h3⟩, h5, h4⟩ := h
    obtain ⟨g1, g2, g3, g4⟩ := orderOK_split pre h4
    have h3' := List.all_eq_true.1 h3
    simp only [Bool.not_eq_true', List.contains_eq_mem, decide_eq_false_iff_not] at h1
    refine ⟨fun x hx => ?_, ?_, ?_, g4⟩
    · rcases List.mem_cons.1 hx with rfl | hx
      · exact h3' i (by simp)
      exact g1 x hx
    · simp only [List.cons_append, orderOK, Bool.and_eq_true]
      refine ⟨⟨⟨?_, h2⟩, List.all_eq_true.2 fun x hx => h3' x ?_⟩, firstOK_sub (fun x hx => ?_) h5, g2⟩
      · simp only [Bool.not_eq_true', List.contains_eq_mem, decide_eq_false_iff_not]
        exact fun hm => h1 (by rcases List.mem_append.1 hm with h | h <;> simp [h])
      · rcases List.mem_append.1 hx with h | h <;> simp [h]
      rcases List.mem_append.1 hx with h | h <;> simp [h]
    intro hm
    rcases List.mem_cons.1 hm with rfl | hm
    · exact h1 (by simp)
    exact g3 hm
theorem mix_any {loud tails free : List Nat} {D : World → Prop} {K : Act → World → Prop} {Q' : Exit → Act → World → Prop} (hQ : ∀ a w, K a w → Q' .normal a w) :
    ∀ (fuel : Nat) (order : List Nat) (listed : Array Bool) (a : Act) (C : World → Prop), Stable C → (∀ w, C w → D w) → order.length ≤ fuel → listed.size = ops.size → Closed md ops listed → orderOK md ops loud tails free order = true →
      (∀ i, i < ops.size → (listed.getD i true = false ↔ i ∈ order)) → Mix P ops loud tails free D K order a C → ∀ w, C w → wpAnyIn (FR r) 0 P md ops Q' fuel listed a w := by
  intro fuel
  induction fuel with
  | zero =>
    intro order listed a C hst hCD hlen hsz hcl hok hmem hm w hw
    have : order = [] := List.eq_nil_of_length_eq_zero (by omega)
    subst this
    refine ⟨?_, hQ _ _ (hm w hw)⟩
    cases hr : Region.ready md ops listed with
    | nil => rfl
    | cons x xs =>
      exfalso
      have hx : x ∈ Region.ready md ops listed := by rw [hr]; simp
      obtain ⟨h0, o, ho, _⟩ := mem_ready.1 hx
      have := (hmem x (Array.getElem?_eq_some_iff.1 ho).1).1 h0
      cases this
  | succ fuel ih =>
    intro order listed a C hst hCD hlen hsz hcl hok hmem hm w hw
    have hready : ∀ i ∈ Region.ready md ops listed, i ∈ order := fun i hi => by
      obtain ⟨h0, o, ho, _⟩ := mem_ready.1 hi
      exact (hmem i (Array.getElem?_eq_some_iff.1 ho).1).1 h0
    refine ⟨fun hr => ?_, fun i hi => ?_⟩
    · cases order with
      | nil => exact hQ _ _ (hm w hw)
      | cons x xs =>
        exfalso
        simp only [orderOK, Bool.and_eq_true] at hok
        have hx := hok.1.1.2
        have h5 := hok.2.1
        have hxs : x < ops.size := by simpa using hx
        have hxr : x ∈ Region.ready md ops listed := by
          rw [mem_ready]
          unfold firstOK at h5
          split at h5
          · rename_i o ho
            refine ⟨(hmem x hxs).2 (by simp), o, ho, fun e he hb => ?_⟩
            have := List.all_eq_true.1 h5 e (by simpa using he)
            rw [hb] at this
            simp only [Bool.not_true, Bool.false_or, Bool.and_eq_true, decide_eq_true_eq, Bool.not_eq_true', List.contains_eq_mem, decide_eq_false_iff_not] at this
            have h7 := this.2
            have h8 : ¬ listed.getD e.on true = false := fun hf => h7 ((hmem e.on this.1).1 hf)
            have : e.on < listed.size := by omega
            simp [this] at h8 ⊢; exact h8
          cases h5
        rw [hr] at hxr; cases hxr
    obtain ⟨h0, oi, hoi, hall⟩ := mem_ready.1 hi
    obtain ⟨pre, post, rfl⟩ := List.append_of_mem (hready i hi)
    obtain ⟨hp, hok', hnot, hlt⟩ := orderOK_split pre hok
    have hun : ∀ j ∈ pre, listed.getD j false = false ∧ depB md ops ops.size i j = false := fun j hj => by
      have hjm : j ∈ pre ++ i :: post := by simp [hj]
      have hjlt : j < ops.size := by
        obtain ⟨p1, p2, e⟩ := List.append_of_mem hjm
        rw [e] at hok
        exact (orderOK_split p1 hok).2.2.2
      have hjt := (hmem j hjlt).2 hjm
      have hj0 : listed.getD j false = false := by
        have : j < listed.size := by omega
        simp [this] at hjt ⊢; exact hjt
      refine ⟨hj0, ?_⟩
      cases hd : depB md ops ops.size i j with
      | false => rfl
      | true =>
        exfalso
        obtain ⟨e, he, hb, hun⟩ := dep_unlisted hcl hj0 ops.size i oi hoi hd
        rw [hall e he hb] at hun
        cases hun
    have hpull := Mix.pull (P := P) (loud := loud) (tails := tails) (free := free) (D := D) (K := K) (post := post) hoi pre a C hst hCD (fun ht j hj => by
        have h1 := hp j hj
        have h2 := (hun j hj).2
        simp only [pairOK, h2, Bool.false_or, Bool.and_eq_true, ht] at h1
        simpa using h1.1.2)
      (fun j hj => by
        have h1 := hp j hj
        have h2 := (hun j hj).2
        simp only [pairOK, h2, Bool.false_or, Bool.and_eq_true] at h1
        obtain ⟨⟨h1, _⟩, h3⟩ := h1
        refine ⟨by simpa using h1, ?_⟩
        rw [hoi] at h3
        cases hoj : ops[j]? with
        | none => rw [hoj] at h3; cases h3
        | some oj =>
          rw [hoj] at h3
          simp only [Bool.and_eq_true] at h3
          exact ⟨oj, rfl, h3.1.1, h3.1.2, h3.2⟩) hm w hw
    have h2 := opw_mono (K' := fun a' w' => wpAnyIn (FR r) 0 P md ops Q' fuel (listed.setIfInBounds i true) a' w') (hpull) (fun a' w' ⟨C', hst', hw', hD', _, hm'⟩ => by
      have hil : i < listed.size := by omega
      refine ih (pre ++ post) _ a' C' hst' hD' ?_ (by simp [hsz]) ?_ hok' ?_ hm' w' hw'
      · simp only [List.length_append, List.length_cons] at hlen ⊢; omega
      · intro x o hx hl e he hb
        by_cases hxi : i = x
        · subst hxi
          have : o = oi := Option.some.inj (hx.symm.trans hoi)
          subst this
          exact getD_set_true (hall e he hb)
        rw [getD_set_ne false hxi] at hl
        exact getD_set_true (hcl x o hx hl e he hb)
      intro x hx
      by_cases hxi : i = x
      · subst hxi
        constructor
        · intro h; simp [hil] at h
        intro h; exact absurd h hnot
      rw [getD_set_ne true hxi, hmem x hx]
      simp only [List.mem_append, List.mem_cons]
      constructor
      · rintro (h | h | h)
        · exact .inl h
        · exact absurd h.symm hxi
        exact .inr h
      rintro (h | h)
      · exact .inl h
      exact .inr (.inr h))
    unfold wpOpIn
    rw [hoi]
    exact opw_op h2
theorem region_mix {id : Nat} {a : Act} {w : World} {loud tails free order : List Nat} {D : World → Prop} (hm : P.follows .mixedOrders = true) (hok : orderOK .any ops loud tails free order = true) (hall : (List.range ops.size).all (fun i => order.contains i) = true)
    (hlen : Nat.ble order.length ops.size = true) (C : World → Prop) (hst : Stable C) (hCD : ∀ w, C w → D w) (hw : C w) (h : Mix P ops loud tails free D (Q .normal) order a C) : gp r P (Code.region id ops true) Q a w := by
  refine wpIn_region_any hm ?_
  have hw' : C { w with drawn := w.drawn + 1 } := hst _ _ hw (Ext.drawn w _)
  refine mix_any (fun _ _ h => h) ops.size order _ a C hst hCD (by simpa using hlen) (by simp) ?_ hok ?_ h _ hw'
  · intro i o hi hl
    have hlt := (Array.getElem?_eq_some_iff.1 hi).1
    simp [hlt] at hl
  intro i hi
  have := List.all_eq_true.1 hall i (List.mem_range.2 hi)
  simp [hi]; simpa using this
theorem stable_hsat {M : Nat → Prop} {w0 : World} {l : List Atom} : Stable (HSat M w0 l) := fun _ _ h e => h.ext e
def RO (ro : List Atom) (w : World) : Prop := (∀ x ∈ ro, x.own = false) ∧ ∀ x ∈ ro, x.ok w
class HasAt (l : List Atom) (x : Atom) : Prop where
  mem : x ∈ l
instance (priority := 2000) HasAt.here (l : List Atom) (x : Atom) : HasAt (x :: l) x := ⟨List.mem_cons_self ..⟩
instance HasAt.there (l : List Atom) (y x : Atom) [h : HasAt l x] : HasAt (y :: l) x := ⟨List.mem_cons_of_mem _ h.mem⟩
instance (priority := 500) HasAt.app (l1 l : List Atom) (x : Atom) [h : HasAt l x] : HasAt (l1 ++ l) x := ⟨List.mem_append_right _ h.mem⟩
class HasRO (l ro : List Atom) : Prop where
  sub : ∀ x ∈ ro, x ∈ l
instance HasRO.nil (l : List Atom) : HasRO l [] := ⟨fun x h => by cases h⟩
instance HasRO.cons (l : List Atom) (x : Atom) (r : List Atom) [h1 : HasAt l x] [h2 : HasRO l r] : HasRO l (x :: r) := ⟨fun y hy => by rcases List.mem_cons.1 hy with rfl | hy; exact h1.mem; exact h2.sub y hy⟩
theorem RO.of {M : Nat → Prop} {w0 : World} {l ro : List Atom} [h : HasRO l ro] (ho : ro.all (fun x => !x.own) = true) (w : World) (H : HSat M w0 l w) : RO ro w :=
  ⟨fun x hx => by simpa using List.all_eq_true.1 ho x hx, fun x hx => H.ok x (h.sub x hx)⟩
theorem pair_ro : ∀ {ro : List Atom}, (∀ x ∈ ro, x.own = false) → ro.Pairwise apart
  | [], _ => .nil
  | x :: r, h => List.pairwise_cons.2 ⟨fun y hy ho => by rw [h x (by simp), h y (List.mem_cons_of_mem _ hy)] at ho; simp at ho, pair_ro (fun y hy => h y (List.mem_cons_of_mem _ hy))⟩
theorem RO.sat {ro : List Atom} {w : World} (h : RO ro w) : HSat (fun _ => True) w ro w :=
  ⟨Fr.refl _ _, h.2, fun x hx ho => (by rw [h.1 x hx] at ho; cases ho), pair_ro h.1⟩
class ROs (ro : List Atom) : Prop where
  all : ro.all (fun x => !x.own) = true
instance ROs.nil : ROs [] := ⟨rfl⟩
instance ROs.ro (x : Atom) (r : List Atom) [h : ROs r] : ROs (Atom.ro x :: r) := ⟨by simpa [Atom.ro] using h.all⟩
variable {loud tails free rest : List Nat} {ro : List Atom} {K : Act → World → Prop} {i d : Nat} {n : Sz} {fl : Slots} {a : Act} {w0 : World} {M : Nat → Prop} {l : List Atom} {o : Oper} {v : Value}
theorem ZBY (h : ∀ w, HSat M w0 l w → K a w) : Mix P ops loud tails free (RO ro) K [] a (HSat M w0 l) := h
theorem m_w (hi : ops[i]? = some o) (hl : (loud.contains i || free.contains i) = false) (hw : Region.wanted o (yielded ops a.tmps) = true) (hd : o.dst = some d) (hn : Nat.blt d n.n = true) (S : St n fl a) (hy : ∀ w, HSat M w0 l w → Yld P o a w v)
    (k : ∀ a', St n ((d, v) :: fl) a' → Mix P ops loud tails free (RO ro) K rest a' (HSat M w0 l)) : Mix P ops loud tails free (RO ro) K (i :: rest) a (HSat M w0 l) := by
  rw [Bool.or_eq_false_iff] at hl
  refine ⟨o, hi, ?_⟩
  rw [if_neg (by rw [hl.1]; simp)]
  refine ⟨v, .inl ⟨hw, fun w h => .inl (hy w (by rwa [if_neg (by rw [hl.2]; simp)] at h))⟩, ?_⟩
  rw [hd]; exact k _ (S.put hn v)
theorem m_q (h : (ops[i]?, (loud.contains i || free.contains i), o.guard, o.dst, Nat.blt d n.n) = (some o, false, none, some d, true)) (S : St n fl a) (hy : ∀ w, HSat M w0 l w → Yld P o a w v)
    (k : ∀ a', St n ((d, v) :: fl) a' → Mix P ops loud tails free (RO ro) K rest a' (HSat M w0 l)) : Mix P ops loud tails free (RO ro) K (i :: rest) a (HSat M w0 l) := by
  obtain ⟨h1, h2, h3, h4, h5⟩ : ops[i]? = some o ∧ (loud.contains i || free.contains i) = false ∧ o.guard = none ∧ o.dst = some d ∧ Nat.blt d n.n = true := by
    simp only [Prod.mk.injEq] at h
    exact h
  exact m_w h1 h2 (wn h3) h4 h5 S hy k
theorem m_f (hi : ops[i]? = some o) (hl : (!loud.contains i && free.contains i) = true) (hw : Region.wanted o (yielded ops a.tmps) = true) (hd : o.dst = some d) (hn : Nat.blt d n.n = true) (S : St n fl a) (hy : ∀ w, HSat (fun _ => True) w ro w → Yld P o a w v)
    (k : ∀ a', St n ((d, v) :: fl) a' → Mix P ops loud tails free (RO ro) K rest a' (HSat M w0 l)) : Mix P ops loud tails free (RO ro) K (i :: rest) a (HSat M w0 l) := by
  simp only [Bool.and_eq_true, Bool.not_eq_true'] at hl
  refine ⟨o, hi, ?_⟩
  rw [if_neg (by rw [hl.1]; simp)]
  refine ⟨v, .inl ⟨hw, fun w h => .inl (hy w (by rw [if_pos hl.2] at h; exact h.sat))⟩, ?_⟩
  rw [hd]; exact k _ (S.put hn v)
theorem m_c (hi : ops[i]? = some o) (hl : (loud.contains i || free.contains i) = false) (hw : Region.wanted o (yielded ops a.tmps) = true) (hd : o.dst = some d) (hn : Nat.blt d n.n = true) {f : FuncId} {args : Array Value} (S : St n fl a) (hc : ∀ w, CallOp P o a w f args)
    (h : ∀ w, HSat M w0 l w → Ret P f args w (fun u w' => u = v ∧ Ext w w'))
    (k : ∀ a', St n ((d, v) :: fl) a' → Mix P ops loud tails free (RO ro) K rest a' (HSat M w0 l)) : Mix P ops loud tails free (RO ro) K (i :: rest) a (HSat M w0 l) := by
  rw [Bool.or_eq_false_iff] at hl
  refine ⟨o, hi, ?_⟩
  rw [if_neg (by rw [hl.1]; simp)]
  refine ⟨v, .inl ⟨hw, fun w hH => .inr ⟨f, args, hc w, h w (by rwa [if_neg (by rw [hl.2]; simp)] at hH)⟩⟩, ?_⟩
  rw [hd]; exact k _ (S.put hn v)
theorem m_l (hi : ops[i]? = some o) (hl : loud.contains i = true)
    (h : ∀ w, HSat M w0 l w → opw P ops o a w (fun a' w' => ∃ C', Stable C' ∧ C' w' ∧ (∀ w, C' w → RO ro w) ∧ ((∀ w, C' w → HSat M w0 l w) ∨ tails.contains i = true) ∧ Mix P ops loud tails free (RO ro) K rest a' C')) : Mix P ops loud tails free (RO ro) K (i :: rest) a (HSat M w0 l) := by
  refine ⟨o, hi, ?_⟩
  rw [if_pos hl]
  exact h
theorem m_next [ROs ro] {a' : Act} {w' : World} {l' : List Atom} [HasRO l' ro] (H : HSat M w0 l' w') (hs : l.Sublist l') (h : Mix P ops loud tails free (RO ro) K rest a' (HSat M w0 l')) :
    ∃ C', Stable C' ∧ C' w' ∧ (∀ w, C' w → RO ro w) ∧ ((∀ w, C' w → HSat M w0 l w) ∨ tails.contains i = true) ∧ Mix P ops loud tails free (RO ro) K rest a' C' :=
  ⟨_, stable_hsat, H, RO.of ROs.all, .inl (fun w h => h.sub hs), h⟩
theorem m_tail [ROs ro] {a' : Act} {w' : World} {l' : List Atom} [HasRO l' ro] (H : HSat M w0 l' w') (ht : tails.contains i = true) (h : Mix P ops loud tails free (RO ro) K rest a' (HSat M w0 l')) :
    ∃ C', Stable C' ∧ C' w' ∧ (∀ w, C' w → RO ro w) ∧ ((∀ w, C' w → HSat M w0 l w) ∨ tails.contains i = true) ∧ Mix P ops loud tails free (RO ro) K rest a' C' :=
  ⟨_, stable_hsat, H, RO.of ROs.all, .inr ht, h⟩
theorem ZAZ {id : Nat} {w : World} (order : List Nat) (ro : List Atom) [ROs ro] [HasRO l ro] (hm : P.follows .mixedOrders = true) (hok : orderOK .any ops loud tails free order = true) (hall : (List.range ops.size).all (fun i => order.contains i) = true)
    (hlen : Nat.ble order.length ops.size = true) (H : HSat M w0 l w) (h : Mix P ops loud tails free (RO ro) (Q .normal) order a (HSat M w0 l)) : gp r P (Code.region id ops true) Q a w :=
  region_mix hm hok hall hlen _ stable_hsat (RO.of ROs.all) H h
end
end
section
section
variable {r : Option Nat} {P : Program} {ops : Array Oper} {Q : Exit → Act → World → Prop} {md : Region.Mode} {loud tails : List Nat}
def readyB (md : Region.Mode) (ops : Array Oper) (rem : List Nat) (i : Nat) : Bool := match ops[i]? with
  | some o => o.after.toList.all fun e => !Region.binds md e || (decide (e.on < ops.size) && !rem.contains e.on)
  | none => false
def quietOK (md : Region.Mode) (ops : Array Oper) (tails rem : List Nat) (j : Nat) : Bool :=
  rem.all fun i => i == j || depB md ops ops.size i j || (!tails.contains i && match ops[j]?, ops[i]? with | some oj, some oi => oj.apart ops oi && noSel oj && noSel oi | _, _ => false)
def MixT (P : Program) (md : Region.Mode) (ops : Array Oper) (tails : List Nat) (D : World → Prop) (K : Act → World → Prop) : Nat → List Nat → Act → (World → Prop) → Prop
  | 0, rem, a, C => rem = [] ∧ ∀ w, C w → K a w
  | f + 1, rem, a, C => (∃ (free : Bool) (j : Nat) (o : Oper) (v : Value), ops[j]? = some o ∧ j ∈ rem ∧ (readyB md ops rem j && quietOK md ops (if free then [] else tails) rem j) = true ∧ ((Region.wanted o (yielded ops a.tmps) = true ∧ QuietAt P o a (if free then D else C) v) ∨ (Region.wanted o (yielded ops a.tmps) = false ∧ v = undef)) ∧ MixT P md ops tails D K f (rem.erase j) (a.put o.dst v) C) ∨
      (rem.any (readyB md ops rem) = true ∧ ∀ i ∈ rem, readyB md ops rem i = true → ∃ o, ops[i]? = some o ∧ ∀ w, C w → opw P ops o a w (fun a' w' => ∃ C', Stable C' ∧ C' w' ∧ ((∀ w, C' w → C w) ∨ tails.contains i = true) ∧ (∀ w, C' w → D w) ∧ MixT P md ops tails D K f (rem.erase i) a' C'))
theorem quietOK_sub {tails rem rem' : List Nat} {j : Nat} (h : quietOK md ops tails rem j = true) (hs : ∀ x ∈ rem', x ∈ rem) : quietOK md ops tails rem' j = true :=
  List.all_eq_true.2 fun x hx => List.all_eq_true.1 h x (hs x hx)
def ClosedR (md : Region.Mode) (ops : Array Oper) (rem : List Nat) : Prop :=
  ∀ i o, ops[i]? = some o → i ∉ rem → ∀ e ∈ o.after, Region.binds md e = true → e.on ∉ rem
theorem dep_left {rem : List Nat} (hcl : ClosedR md ops rem) {j : Nat} (hj : j ∈ rem) :
    ∀ (f i : Nat) (o : Oper), ops[i]? = some o → depB md ops f i j = true → ∃ e ∈ o.after, Region.binds md e = true ∧ e.on ∈ rem := by
  intro f
  induction f with
  | zero => intro i o _ h; cases h
  | succ f ih =>
    intro i o ho h
    simp only [depB, ho] at h
    obtain ⟨e, he, h⟩ := List.any_eq_true.1 h
    simp only [Bool.and_eq_true, Bool.or_eq_true, beq_iff_eq] at h
    obtain ⟨hb, h⟩ := h
    refine ⟨e, by simpa using he, hb, ?_⟩
    rcases h with rfl | h
    · exact hj
    by_cases hon : e.on ∈ rem
    · exact hon
    exfalso
    cases heo : ops[e.on]? with
    | none =>
      cases f with
      | zero => cases h
      | succ f => simp [depB, heo] at h
    | some oe =>
      obtain ⟨e', he', hb', hun⟩ := ih e.on oe heo h
      exact hcl e.on oe heo hon e' he' hb' hun
theorem ready_not_dep {rem : List Nat} (hcl : ClosedR md ops rem) {i j : Nat} (hj : j ∈ rem) (hr : readyB md ops rem i = true) : depB md ops ops.size i j = false := by
  cases hd : depB md ops ops.size i j with
  | false => rfl
  | true =>
    unfold readyB at hr
    split at hr
    · rename_i o ho
      obtain ⟨e, he, hb, hm⟩ := dep_left hcl hj ops.size i o ho hd
      have := List.all_eq_true.1 hr e (by simpa using he)
      simp [hb, hm] at this
    cases hr
theorem ready_sub {rem rem' : List Nat} {i : Nat} (h : readyB md ops rem i = true) (hs : ∀ x ∈ rem', x ∈ rem) : readyB md ops rem' i = true := by
  unfold readyB at h ⊢
  split at h
  · refine List.all_eq_true.2 fun e he => ?_
    have := List.all_eq_true.1 h e he
    simp only [Bool.or_eq_true, Bool.and_eq_true, Bool.not_eq_true', List.contains_eq_mem, decide_eq_false_iff_not] at this ⊢
    rcases this with h1 | ⟨h1, h2⟩
    · exact .inl h1
    exact .inr ⟨h1, fun hm => h2 (hs _ hm)⟩
  cases h
theorem closed_erase {rem : List Nat} (hnd : rem.Nodup) (hcl : ClosedR md ops rem) {i : Nat} (hr : readyB md ops rem i = true) : ClosedR md ops (rem.erase i) := by
  intro x o hx hnot e he hb hm
  have hm' := List.mem_of_mem_erase hm
  by_cases hxi : x = i
  · subst hxi
    unfold readyB at hr
    rw [hx] at hr
    have := List.all_eq_true.1 hr e (by simpa using he)
    simp [hb, hm'] at this
  exact hcl x o hx (fun h => hnot ((List.mem_erase_of_ne hxi).2 h)) e he hb hm'
theorem MixT.pull {tails : List Nat} {D : World → Prop} {K : Act → World → Prop} {i : Nat} {oi : Oper} (hi : ops[i]? = some oi) :
    ∀ (f : Nat) (rem : List Nat) (a : Act) (C : World → Prop), rem.Nodup → ClosedR md ops rem → Stable C → (∀ w, C w → D w) → i ∈ rem → readyB md ops rem i = true → MixT P md ops tails D K (f + 1) rem a C →
      ∀ w, C w → opw P ops oi a w (fun a' w' => ∃ C', Stable C' ∧ C' w' ∧ ((∀ w, C' w → C w) ∨ tails.contains i = true) ∧ (∀ w, C' w → D w) ∧ MixT P md ops tails D K f (rem.erase i) a' C') := by
  intro f
  induction f with
  | zero =>
    intro rem a C hnd hcl hst hCD him hr h w hw
    rcases h with ⟨free, j, o, v, ho, hj, hq, hv, hm⟩ | ⟨_, hb⟩
    · have hij : i = j := by
        have := hm.1
        by_cases hij : i = j
        · exact hij
        have := (List.mem_erase_of_ne hij).2 him
        rw [hm.1] at this; cases this
      subst hij
      have : o = oi := Option.some.inj (ho.symm.trans hi)
      subst this
      rcases hv with ⟨hwt, hq⟩ | ⟨hwt, rfl⟩
      · rcases hq w (by cases free; exact hw; exact hCD w hw) with hy | ⟨f, args, hc, hr⟩
        · exact opw_val hwt hy ⟨C, hst, hw, .inl (fun _ h => h), hCD, hm⟩
        exact opw_is hwt hc <| Calls.mono hr fun e w' ⟨u, he, hu, hx⟩ => ⟨u, he, C, hst, hst _ _ hw hx, .inl (fun _ h => h), hCD, by subst hu; exact hm⟩
      exact opw_un hwt ⟨C, hst, hw, .inl (fun _ h => h), hCD, hm⟩
    obtain ⟨o, ho, h⟩ := hb i him hr
    have : o = oi := Option.some.inj (ho.symm.trans hi)
    subst this
    exact h w hw
  | succ f ih =>
    intro rem a C hnd hcl hst hCD him hr h w hw
    rcases h with ⟨free, j, o, v, ho, hj, hq, hv, hm⟩ | ⟨_, hb⟩
    · by_cases hij : i = j
      · subst hij
        have : o = oi := Option.some.inj (ho.symm.trans hi)
        subst this
        rcases hv with ⟨hwt, hq⟩ | ⟨hwt, rfl⟩
        · rcases hq w (by cases free; exact hw; exact hCD w hw) with hy | ⟨f, args, hc, hr⟩
          · exact opw_val hwt hy ⟨C, hst, hw, .inl (fun _ h => h), hCD, hm⟩
          exact opw_is hwt hc <| Calls.mono hr fun e w' ⟨u, he, hu, hx⟩ => ⟨u, he, C, hst, hst _ _ hw hx, .inl (fun _ h => h), hCD, by subst hu; exact hm⟩
        exact opw_un hwt ⟨C, hst, hw, .inl (fun _ h => h), hCD, hm⟩
      have hd := ready_not_dep hcl hj hr
      simp only [Bool.and_eq_true] at hq
      obtain ⟨hjr, hq⟩ := hq
      have hq' := List.all_eq_true.1 hq i him
      simp only [hd, Bool.or_false, Bool.or_eq_true, beq_iff_eq, hij, false_or, Bool.and_eq_true] at hq'
      obtain ⟨hnt, hap⟩ := hq'
      rw [ho, hi] at hap
      simp only [Bool.and_eq_true] at hap
      obtain ⟨⟨hap, hs1⟩, hs2⟩ := hap
      have hsi : ∀ cs b, oi.op ≠ .select cs b := fun cs b e => by simp [noSel, e] at hs2
      have hsj : ∀ cs b, o.op ≠ .select cs b := fun cs b e => by simp [noSel, e] at hs1
      obtain ⟨h1, h2, h3⟩ := Oper.apart_spec hap
      have him' : i ∈ rem.erase j := (List.mem_erase_of_ne hij).2 him
      have hjm' : j ∈ rem.erase i := (List.mem_erase_of_ne (Ne.symm hij)).2 hj
      have hp := ih (rem.erase j) (a.put o.dst v) C (hnd.erase j) (closed_erase hnd hcl hjr) hst hCD him' (ready_sub hr (fun x hx => List.mem_of_mem_erase hx)) hm w hw
      refine opw_mono (opw_put hap hsi hp) ?_
      rintro a' w' ⟨⟨u, rfl⟩, C', hst', hw', hsub, hCD', hm'⟩
      have hsub' : free = false → ∀ w, C' w → C w := fun hf => hsub.elim id (fun h => by subst hf; simp at hnt; simp [hnt] at h)
      refine ⟨C', hst', hw', hsub, hCD', .inl ⟨free, j, o, v, ho, hjm', ?_, ?_, ?_⟩⟩
      · rw [Bool.and_eq_true]; exact ⟨ready_sub hjr (fun x hx => List.mem_of_mem_erase hx), quietOK_sub hq (fun x hx => List.mem_of_mem_erase hx)⟩
      · rw [wanted_put o a oi.dst u h3]
        rcases hv with ⟨hwt, hqv⟩ | ⟨hwt, rfl⟩
        · refine .inl ⟨hwt, fun w1 hw1 => ?_⟩
          have := hqv w1 (by cases free; exact hsub' rfl w1 hw1; exact hw1)
          unfold Yld CallOp at *
          rwa [execOp_put o hsj a oi.dst u h3]
        exact .inr ⟨hwt, rfl⟩
      rw [List.erase_comm]; exact hm'
    obtain ⟨o, ho, h⟩ := hb i him hr
    have : o = oi := Option.some.inj (ho.symm.trans hi)
    subst this
    exact h w hw
theorem mixT_any {tails : List Nat} {D : World → Prop} {K : Act → World → Prop} {Q' : Exit → Act → World → Prop} (hQ : ∀ a w, K a w → Q' .normal a w) :
    ∀ (fuel : Nat) (rem : List Nat) (listed : Array Bool) (a : Act) (C : World → Prop), Stable C → (∀ w, C w → D w) → rem.Nodup → listed.size = ops.size → ClosedR md ops rem →
      (∀ i, i < ops.size → (listed.getD i true = false ↔ i ∈ rem)) → (∀ i ∈ rem, i < ops.size) → rem.length = fuel → MixT P md ops tails D K fuel rem a C → ∀ w, C w → wpAnyIn (FR r) 0 P md ops Q' fuel listed a w := by
  intro fuel
  induction fuel with
  | zero =>
    intro rem listed a C hst hCD hnd hsz hcl hmem hlt hlen hm w hw
    obtain ⟨rfl, hm⟩ := hm
    refine ⟨?_, hQ _ _ (hm w hw)⟩
    cases hr : Region.ready md ops listed with
    | nil => rfl
    | cons x xs =>
      exfalso
      have hx : x ∈ Region.ready md ops listed := by rw [hr]; simp
      obtain ⟨h0, o, ho, _⟩ := mem_ready.1 hx
      have := (hmem x (Array.getElem?_eq_some_iff.1 ho).1).1 h0
      cases this
  | succ fuel ih =>
    intro rem listed a C hst hCD hnd hsz hcl hmem hlt hlen hm w hw
    have hready : ∀ i, i ∈ Region.ready md ops listed ↔ (i ∈ rem ∧ readyB md ops rem i = true) := by
      intro i
      rw [mem_ready]
      constructor
      · rintro ⟨h0, o, ho, hall⟩
        have hi := (Array.getElem?_eq_some_iff.1 ho).1
        refine ⟨(hmem i hi).1 h0, ?_⟩
        unfold readyB; rw [ho]
        refine List.all_eq_true.2 fun e he => ?_
        cases hb : Region.binds md e with
        | false => simp
        | true =>
          have hl := hall e (by simpa using he) hb
          have hlt' : e.on < listed.size := by
            rcases Nat.lt_or_ge e.on listed.size with h' | h'
            · exact h'
            simp [Array.getElem?_eq_none h'] at hl
          have : ¬ e.on ∈ rem := fun hm => by
            have := (hmem e.on (by omega)).2 hm
            simp [hlt'] at this hl; rw [hl] at this; cases this
          simp [this]; omega
      rintro ⟨hi, hr⟩
      refine ⟨(hmem i (hlt i hi)).2 hi, ?_⟩
      unfold readyB at hr
      split at hr
      · rename_i o ho
        refine ⟨o, ho, fun e he hb => ?_⟩
        have := List.all_eq_true.1 hr e (by simpa using he)
        rw [hb] at this
        simp only [Bool.not_true, Bool.false_or, Bool.and_eq_true, decide_eq_true_eq, Bool.not_eq_true', List.contains_eq_mem, decide_eq_false_iff_not] at this
        have h8 : ¬ listed.getD e.on true = false := fun hf => this.2 ((hmem e.on this.1).1 hf)
        have : e.on < listed.size := by omega
        simp [this] at h8 ⊢; exact h8
      cases hr
    refine ⟨fun hr => ?_, fun i hi => ?_⟩
    · exfalso
      have : ∃ i ∈ rem, readyB md ops rem i = true := by
        rcases hm with ⟨free, j, o, v, ho, hj, hq, _⟩ | ⟨hany, _⟩
        · simp only [Bool.and_eq_true] at hq; exact ⟨j, hj, hq.1⟩
        obtain ⟨i, hi, h⟩ := List.any_eq_true.1 hany; exact ⟨i, hi, h⟩
      obtain ⟨i, hi⟩ := this
      have := (hready i).2 hi
      rw [hr] at this; cases this
    obtain ⟨him, hir⟩ := (hready i).1 hi
    obtain ⟨_, oi, hoi, hall⟩ := mem_ready.1 hi
    have hp := MixT.pull (P := P) (md := md) (tails := tails) (D := D) (K := K) hoi fuel rem a C hnd hcl hst hCD him hir hm w hw
    have h2 := opw_mono (K' := fun a' w' => wpAnyIn (FR r) 0 P md ops Q' fuel (listed.setIfInBounds i true) a' w') hp (fun a' w' ⟨C', hst', hw', _, hCD', hm'⟩ => by
      have hil : i < listed.size := by have := hlt i him; omega
      refine ih (rem.erase i) _ a' C' hst' hCD' (hnd.erase i) (by simp [hsz]) (closed_erase hnd hcl hir) ?_ (fun x hx => hlt x (List.mem_of_mem_erase hx)) (by rw [List.length_erase_of_mem him, hlen]; rfl) hm' w' hw'
      intro x hx
      by_cases hxi : i = x
      · subst hxi
        constructor
        · intro h; simp [hil] at h
        intro h; exact absurd h (fun h => by have := hnd.not_mem_erase (a := i); exact this h)
      rw [getD_set_ne true hxi, hmem x hx, List.mem_erase_of_ne (Ne.symm hxi)])
    unfold wpOpIn
    rw [hoi]
    exact opw_op h2
variable {ro : List Atom} {n : Sz} {d : Nat} {fl : Slots} {a : Act} {w0 : World} {M : Nat → Prop} {l : List Atom} {o : Oper} {v : Value} {K : Act → World → Prop} {f i : Nat} {rem : List Nat}
theorem t_st (ro : List Atom) [ROs ro] [HasRO l ro] {id : Nat} {w : World} (hm : P.follows .mixedOrders = true) (H : HSat M w0 l w) (h : MixT P .any ops tails (RO ro) (Q .normal) ops.size (List.range ops.size) a (HSat M w0 l)) : gp r P (Code.region id ops true) Q a w := by
  refine wpIn_region_any hm ?_
  have H' : HSat M w0 l { w with drawn := w.drawn + 1 } := H.ext (Ext.drawn w _)
  refine mixT_any (fun _ _ h => h) ops.size (List.range ops.size) _ a _ stable_hsat (RO.of ROs.all) List.nodup_range (by simp) ?_ ?_ (by simp) (by simp) h _ H'
  · intro i o hi hn
    exact absurd (List.mem_range.2 (Array.getElem?_eq_some_iff.1 hi).1) hn
  intro i hi; simp [hi]
theorem t_q {rem' : List Nat} (i : Nat) (hi : ops[i]? = some o) (hm : (rem.contains i && (readyB .any ops rem i && quietOK .any ops tails rem i)) = true) (hr : rem.erase i = rem') (hg : o.guard = none) (hd : o.dst = some d) (hn : Nat.blt d n.n = true) (S : St n fl a) (hy : ∀ w, HSat M w0 l w → Yld P o a w v)
    (k : ∀ a', St n ((d, v) :: fl) a' → MixT P .any ops tails (RO ro) K f rem' a' (HSat M w0 l)) : MixT P .any ops tails (RO ro) K (f + 1) rem a (HSat M w0 l) := by
  rw [Bool.and_eq_true] at hm
  refine .inl ⟨false, i, o, v, hi, by simpa using hm.1, hm.2, .inl ⟨wn hg, fun w h => .inl (hy w h)⟩, ?_⟩
  rw [hd, hr]; exact k _ (S.put hn v)
theorem t_p {rem' : List Nat} (i : Nat) (hi : ops[i]? = some o) (hm : (rem.contains i && (readyB .any ops rem i && quietOK .any ops [] rem i)) = true) (hr : rem.erase i = rem') (hg : o.guard = none) (hd : o.dst = some d) (hn : Nat.blt d n.n = true) (S : St n fl a) (hy : ∀ w, Yld P o a w v)
    (k : ∀ a', St n ((d, v) :: fl) a' → MixT P .any ops tails (RO ro) K f rem' a' (HSat M w0 l)) : MixT P .any ops tails (RO ro) K (f + 1) rem a (HSat M w0 l) := by
  rw [Bool.and_eq_true] at hm
  refine .inl ⟨true, i, o, v, hi, by simpa using hm.1, hm.2, .inl ⟨wn hg, fun w _ => .inl (hy w)⟩, ?_⟩
  rw [hd, hr]; exact k _ (S.put hn v)
theorem t_f {rem' : List Nat} (i : Nat) (hi : ops[i]? = some o) (hm : (rem.contains i && (readyB .any ops rem i && quietOK .any ops [] rem i)) = true) (hr : rem.erase i = rem') (hg : o.guard = none) (hd : o.dst = some d) (hn : Nat.blt d n.n = true) (S : St n fl a) (hy : ∀ w, HSat (fun _ => True) w ro w → Yld P o a w v)
    (k : ∀ a', St n ((d, v) :: fl) a' → MixT P .any ops tails (RO ro) K f rem' a' (HSat M w0 l)) : MixT P .any ops tails (RO ro) K (f + 1) rem a (HSat M w0 l) := by
  rw [Bool.and_eq_true] at hm
  refine .inl ⟨true, i, o, v, hi, by simpa using hm.1, hm.2, .inl ⟨wn hg, fun w h => .inl (hy w (RO.sat h))⟩, ?_⟩
  rw [hd, hr]; exact k _ (S.put hn v)
theorem t_c {rem' : List Nat} (i : Nat) (hi : ops[i]? = some o) (hm : (rem.contains i && (readyB .any ops rem i && quietOK .any ops tails rem i)) = true) (hr : rem.erase i = rem') (hg : o.guard = none) (hd : o.dst = some d) (hn : Nat.blt d n.n = true) {f' : FuncId} {args : Array Value} (S : St n fl a) (hc : ∀ w, CallOp P o a w f' args)
    (h : ∀ w, HSat M w0 l w → Ret P f' args w (fun u w' => u = v ∧ Ext w w'))
    (k : ∀ a', St n ((d, v) :: fl) a' → MixT P .any ops tails (RO ro) K f rem' a' (HSat M w0 l)) : MixT P .any ops tails (RO ro) K (f + 1) rem a (HSat M w0 l) := by
  rw [Bool.and_eq_true] at hm
  refine .inl ⟨false, i, o, v, hi, by simpa using hm.1, hm.2, .inl ⟨wn hg, fun w hH => .inr ⟨f', args, hc w, h w hH⟩⟩, ?_⟩
  rw [hd, hr]; exact k _ (S.put hn v)
theorem t_b (rs : List Nat) (hrs : rem.filter (readyB .any ops rem) = rs) (hne : rs.isEmpty = false)
    (h : ∀ i ∈ rs, ∃ o, ops[i]? = some o ∧ ∀ w, HSat M w0 l w → opw P ops o a w (fun a' w' => ∃ C', Stable C' ∧ C' w' ∧ ((∀ w, C' w → HSat M w0 l w) ∨ tails.contains i = true) ∧ (∀ w, C' w → RO ro w) ∧ MixT P .any ops tails (RO ro) K f (rem.erase i) a' C')) : MixT P .any ops tails (RO ro) K (f + 1) rem a (HSat M w0 l) := by
  subst hrs
  refine .inr ⟨?_, fun i hi hr => h i (List.mem_filter.2 ⟨hi, hr⟩)⟩
  cases hf : rem.filter (readyB .any ops rem) with
  | nil => rw [hf] at hne; cases hne
  | cons x xs =>
    have : x ∈ rem.filter (readyB .any ops rem) := by rw [hf]; simp
    obtain ⟨h1, h2⟩ := List.mem_filter.1 this
    exact List.any_eq_true.2 ⟨x, h1, h2⟩
theorem t_next [ROs ro] {a' : Act} {w' : World} {l' : List Atom} {rem' : List Nat} [HasRO l' ro] (H : HSat M w0 l' w') (hs : l.Sublist l') (hr : rem.erase i = rem') (h : MixT P .any ops tails (RO ro) K f rem' a' (HSat M w0 l')) :
    ∃ C', Stable C' ∧ C' w' ∧ ((∀ w, C' w → HSat M w0 l w) ∨ tails.contains i = true) ∧ (∀ w, C' w → RO ro w) ∧ MixT P .any ops tails (RO ro) K f (rem.erase i) a' C' :=
  ⟨_, stable_hsat, H, .inl (fun w h => h.sub hs), RO.of ROs.all, hr ▸ h⟩
theorem ZAY [ROs ro] {a' : Act} {w' : World} {l' : List Atom} {rem' : List Nat} [HasRO l' ro] (H : HSat M w0 l' w') (ht : tails.contains i = true) (hr : rem.erase i = rem') (h : MixT P .any ops tails (RO ro) K f rem' a' (HSat M w0 l')) :
    ∃ C', Stable C' ∧ C' w' ∧ ((∀ w, C' w → HSat M w0 l w) ∨ tails.contains i = true) ∧ (∀ w, C' w → RO ro w) ∧ MixT P .any ops tails (RO ro) K f (rem.erase i) a' C' :=
  ⟨_, stable_hsat, H, .inr ht, RO.of ROs.all, hr ▸ h⟩
theorem ZBZ (h : ∀ w, HSat M w0 l w → K a w) : MixT P .any ops tails (RO ro) K 0 [] a (HSat M w0 l) := ⟨rfl, h⟩
end
end
section
structure IsSl (w : World) (v : Value) (sz : Nat) {α : Type} (enc : α → List Value) (xs : List α) : Prop where
  len : xs.length ≤ 9223372036854775807
  shape : ∃ p c, v = .slice p xs.length c
  sizes : ∀ x ∈ xs, (enc x).length = sz
  cells : ∀ i (h : i < xs.length), ∃ b off c, v = .slice (some ⟨b, off, none⟩) xs.length c ∧ ∀ j u, (enc xs[i])[j]? = some u → w.cell? ⟨b, off + i * sz + j, none⟩ = some u
def ZBW (v : Value) (i sz : Nat) : Addr := match v with
  | .slice (some a) _ _ => a.add (i * sz)
  | _ => ⟨0, 0, none⟩
def Sl (v : Value) (sz : Nat) {α : Type} (enc : α → List Value) (xs : List α) : Atom where
  own := false
  fp := fun k => v.ownBlock = some k ∧ 0 < sz ∧ xs ≠ []
  ok := fun w => IsSl w v sz enc xs
  loc := fun w w' h hok => ⟨hok.len, hok.shape, hok.sizes, fun i hi => by
    obtain ⟨b, off, c, hv, hc⟩ := hok.cells i hi
    refine ⟨b, off, c, hv, fun j u hu => ?_⟩
    have h1 := (List.getElem?_eq_some_iff.1 hu).1
    have h2 := hok.sizes _ (List.getElem_mem hi)
    have hb := h b ⟨by rw [hv]; rfl, by omega, by rintro rfl; simp at hi⟩
    exact (World.cell?_of_block (w := w) hb).trans (hc j u hu)⟩
  lt := fun w b hok hfp => by
    obtain ⟨h1, h2, h3⟩ := hfp
    have hi : 0 < xs.length := List.length_pos_iff.2 h3
    obtain ⟨b', off, c, hv, hc⟩ := hok.cells 0 hi
    have hs := hok.sizes _ (List.getElem_mem hi)
    rw [hv] at h1
    simp only [Value.ownBlock, Option.some.injEq] at h1
    subst h1
    exact World.block_lt_of_cell? w _ (hc 0 _ (List.getElem?_eq_getElem (by omega)))
instance ROs.sl (v : Value) (sz : Nat) (α : Type) (enc : α → List Value) (xs : List α) (r : List Atom) [h : ROs r] : ROs (Sl v sz enc xs :: r) := ⟨by simpa [Sl] using h.all⟩
class HasSl (l : List Atom) (v : Value) (sz : outParam Nat) (α : outParam Type) (enc : outParam (α → List Value)) (xs : outParam (List α)) : Prop where
  at_ : ∀ w, (∀ x ∈ l, x.ok w) → IsSl w v sz enc xs
instance (priority := 2000) HasSl.here (l : List Atom) (v : Value) (sz : Nat) (α : Type) (enc : α → List Value) (xs : List α) : HasSl (Sl v sz enc xs :: l) v sz α enc xs := ⟨fun w h => h (Sl v sz enc xs) (List.mem_cons_self ..)⟩
instance (priority := 2000) HasSl.hereRo (l : List Atom) (v : Value) (sz : Nat) (α : Type) (enc : α → List Value) (xs : List α) : HasSl (Atom.ro (Sl v sz enc xs) :: l) v sz α enc xs := ⟨fun w h => h (Atom.ro (Sl v sz enc xs)) (List.mem_cons_self ..)⟩
instance HasSl.there (l : List Atom) (x : Atom) (v : Value) (sz : Nat) (α : Type) (enc : α → List Value) (xs : List α) [h : HasSl l v sz α enc xs] : HasSl (x :: l) v sz α enc xs := ⟨fun w hw => h.at_ w (fun y hy => hw y (List.mem_cons_of_mem _ hy))⟩
section
variable {P : Program} {o : Oper} {n : Sz} {fl : Slots} {a : Act} {w w0 : World} {v : Value} {M : Nat → Prop} {l : List Atom}
theorem HSat.sl (H : HSat M w0 l w) (v : Value) {sz : Nat} {α : Type} {enc : α → List Value} {xs : List α} [h : HasSl l v sz α enc xs] : IsSl w v sz enc xs := h.at_ w H.ok
theorem ZAT {x : Operand} {T E : TypeId} (ho : o.op = .call { callee := .builtin .len, args := #[x], argTypes := #[T] }) (hT : P.underlying T = some (.slice E)) (S : St n fl a) (H : HSat M w0 l w) (hx : ev fl x = some v) {sz : Nat} {α : Type} {enc : α → List Value} {xs : List α} [h : HasSl l v sz α enc xs] : Yld P o a w (.int .i64 (xs.length : Int)) := by
  obtain ⟨p, c, hv⟩ := (H.sl v (h := h)).shape
  rw [hv] at hx
  exact y_len ho hT S hx
theorem y_iaddrs {T E : TypeId} {x ix : Operand} {i : Int} {k : IntKind} {sz : Nat} {α : Type} {enc : α → List Value} {xs : List α} (ho : o.op = .indexAddr T x ix) (hT : P.underlying T = some (.slice E)) (hE : ZA8 P E sz = true) (S : St n fl a) (H : HSat M w0 l w)
    (hx : ev fl x = some v) (hi : ev fl ix = some (.int k i)) [h : HasSl l v sz α enc xs] (hb : 0 ≤ i ∧ i < xs.length) : Yld P o a w (.pointer (some (ZBW v i.toNat sz))) := by
  obtain ⟨b, off, c, hv, _⟩ := (H.sl v (h := h)).cells i.toNat (by omega)
  have hx' := hx
  rw [hv] at hx'
  have := y_iaddr (P := P) (w := w) ho hT hE S hx' hi hb
  rw [hv]
  simpa [ZBW, add_plain] using this
theorem ZA6 {T : TypeId} {x : Operand} {i sz : Nat} {α : Type} {enc : α → List Value} {xs : List α} {u : Value} (v : Value) (ho : o.op = .load T x) (hT : ZAl P T = true) (S : St n fl a) (H : HSat M w0 l w)
    (hx : ev fl x = some (.pointer (some (ZBW v i sz)))) [h : HasSl l v sz α enc xs] (hi : i < xs.length) (hu : (enc xs[i])[0]? = some u) : Yld P o a w u := by
  obtain ⟨b, off, c, hv, hc⟩ := (H.sl v (h := h)).cells i hi
  refine y_load_at ho S hx (ZA0 hT ?_)
  have := hc 0 u hu
  rw [hv]; simpa [ZBW, add_plain] using this
theorem y_loadsD {T : TypeId} {x : Operand} {i sz : Nat} {α : Type} {enc : α → List Value} {xs : List α} {u : Value} (v : Value) (d : α) (ho : o.op = .load T x) (hT : ZAl P T = true) (S : St n fl a) (H : HSat M w0 l w)
    (hx : ev fl x = some (.pointer (some (ZBW v i sz)))) [h : HasSl l v sz α enc xs] (hi : i < xs.length) (hu : (enc (xs.getD i d))[0]? = some u) : Yld P o a w u := by
  have e : xs.getD i d = xs[i] := by rw [List.getD_eq_getElem?_getD, List.getElem?_eq_getElem hi]; rfl
  exact ZA6 v ho hT S H hx hi (by rw [← e]; exact hu)
theorem y_loadsf {T : TypeId} {x : Operand} {i sz k : Nat} {α : Type} {enc : α → List Value} {xs : List α} {u : Value} (v : Value) (ho : o.op = .load T x) (hT : ZAl P T = true) (S : St n fl a) (H : HSat M w0 l w)
    (hx : ev fl x = some (.pointer (some ((ZBW v i sz).add k)))) [h : HasSl l v sz α enc xs] (hi : i < xs.length) (hu : (enc xs[i])[k]? = some u) : Yld P o a w u := by
  obtain ⟨b, off, c, hv, hc⟩ := (H.sl v (h := h)).cells i hi
  refine y_load_at ho S hx (ZA0 hT ?_)
  have := hc k u hu
  rw [hv]; simpa [ZBW, add_plain] using this
theorem y_loadsff {T : TypeId} {x : Operand} {i sz k j : Nat} {α : Type} {enc : α → List Value} {xs : List α} {u : Value} (v : Value) (ho : o.op = .load T x) (hT : ZAl P T = true) (S : St n fl a) (H : HSat M w0 l w)
    (hx : ev fl x = some (.pointer (some (((ZBW v i sz).add j).add k)))) [h : HasSl l v sz α enc xs] (hi : i < xs.length) (hu : (enc xs[i])[j + k]? = some u) : Yld P o a w u := by
  obtain ⟨b, off, c, hv, hc⟩ := (H.sl v (h := h)).cells i hi
  refine y_load_at ho S hx (ZA0 hT ?_)
  have := hc (j + k) u hu
  rw [hv]; simpa [ZBW, add_plain, Nat.add_assoc] using this
theorem ZAk {T : TypeId} {x : Operand} {i sz : Nat} {α : Type} {enc : α → List Value} {xs : List α} (v : Value) (ho : o.op = .load T x) (S : St n fl a) (H : HSat M w0 l w)
    (hx : ev fl x = some (.pointer (some (ZBW v i sz)))) [h : HasSl l v sz α enc xs] (hT : aggB P T sz = true) (hi : i < xs.length) : Yld P o a w (.agg (enc xs[i]).toArray) := by
  obtain ⟨b, off, c, hv, hc⟩ := (H.sl v (h := h)).cells i hi
  have hs := (H.sl v (h := h)).sizes _ (List.getElem_mem hi)
  refine y_load_at ho S hx (ZBc (by rw [hs]; exact hT) (fun j u hu => ?_))
  have := hc j u hu
  rw [hv]; simpa [ZBW, add_plain] using this
end
end
section
section
variable {P : Program} {o : Oper} {n : Sz} {fl : Slots} {a : Act} {w w0 : World} {v : Value} {M : Nat → Prop} {l : List Atom}
def buildB (P : Program) (T : TypeId) : Option (List Value × List (Nat × Nat)) :=
  match P.info? T, P.underlying T with
  | some it, some (.array k e) => match it.zero, P.info? e with
    | some z, some ie => some (z.cells.toList, (List.range k).map fun i => (i * ie.size, ie.size))
    | _, _ => none
  | some it, some (.struct fields) =>
    match it.zero, fields.toList.mapM (fun f => (P.info? f.type).map fun i => (f.offset, i.size)) with
    | some z, some places => some (z.cells.toList, places)
    | _, _ => none
  | _, _ => none
theorem fill_mono {p q : Nat → Option (Nat × Nat)} (h : ∀ i x, p i = some x → q i = some x) : ∀ (parts : List (Nat × Value)) (cs cs' : Array Value), Instr.fill p cs parts = some cs' → Instr.fill q cs parts = some cs'
  | [], _, _, hf => hf
  | (i, v) :: r, cs, cs', hf => by
    simp only [Instr.fill] at hf ⊢
    cases hp : p i with
    | none => rw [hp] at hf; cases hf
    | some x =>
      rw [hp] at hf
      rw [h i x hp]
      obtain ⟨off, size⟩ := x
      simp only at hf ⊢
      split at hf
      · cases hf
      rename_i hc
      rw [if_neg hc]
      exact fill_mono h r _ _ hf
theorem built_of {T : TypeId} {z : List Value} {places : List (Nat × Nat)} {parts : List (Nat × Value)} {cs : List Value} (hB : buildB P T = some (z, places)) (hf : Instr.fill (fun i => places[i]?) z.toArray parts = some cs.toArray) : P.built T parts = some cs.toArray := by
  unfold buildB at hB
  unfold Program.built
  split at hB
  · rename_i it k e h1 h2
    rw [h1, h2]
    split at hB
    · rename_i z' ie hz hi
      cases hB
      dsimp only
      rw [hz, hi]
      dsimp only
      refine fill_mono (p := fun i => ((List.range k).map fun i => (i * ie.size, ie.size))[i]?) (fun i x hx => ?_) parts _ _ (by simpa using hf)
      simp only [List.getElem?_map] at hx
      cases hr : (List.range k)[i]? with
      | none => rw [hr] at hx; cases hx
      | some j =>
        rw [hr] at hx
        have : j = i := by
          have := List.getElem?_eq_some_iff.1 hr
          obtain ⟨_, h⟩ := this
          simpa using h.symm
        subst this
        simpa using hx
    cases hB
  · rename_i it fields h1 h2
    rw [h1, h2]
    split at hB
    · rename_i z' places' hz hp
      cases hB
      dsimp only
      rw [hz, hp]
      dsimp only
      simpa using hf
    cases hB
  cases hB
theorem parts_of (S : St n fl a) {parts : List (Nat × Operand)} {idx : List Nat} {vs : List Value} (hi : parts.map (·.1) = idx) (hv : Gw.evs fl (parts.map (·.2)) = some vs) : parts.map (fun p => (p.1, a.eval p.2)) = idx.zip vs := by
  have h := S.evs hv
  subst hi
  rw [← h]
  clear h hv
  induction parts with
  | nil => rfl
  | cons p r ih => simp [ih]
theorem ZAx {T : TypeId} {parts : Array (Nat × Operand)} {z vs cs : List Value} {places : List (Nat × Nat)} {idx : List Nat} (ho : o.op = .build T parts) (hB : buildB P T = some (z, places)) (S : St n fl a) (hi : parts.toList.map (·.1) = idx) (hv : evs fl (parts.toList.map (·.2)) = some vs)
    (hf : Instr.fill (fun i => places[i]?) z.toArray (idx.zip vs) = some cs.toArray) : Yld P o a w (.agg cs.toArray) := by
  unfold Yld execOp; rw [ho]
  have h := parts_of S hi hv
  have hb := built_of (P := P) (T := T) hB hf
  have hb' : P.built T (parts.map fun (i, x) => (i, a.eval x)).toList = some cs.toArray := by
    rw [← hb, ← h]; simp
  simp [run_build (P := P) w T _ _ hb']
theorem ZAI {T E : TypeId} {x ix : Operand} {i : Nat} {k : IntKind} {sz : Nat} {α : Type} {enc : α → List Value} {xs : List α} (ho : o.op = .indexAddr T x ix) (hT : P.underlying T = some (.slice E)) (hE : ZA8 P E sz = true) (S : St n fl a) (H : HSat M w0 l w)
    (hx : ev fl x = some v) (hi : ev fl ix = some (.int k (i : Int))) [h : HasSl l v sz α enc xs] (hb : i < xs.length) : Yld P o a w (.pointer (some (ZBW v i sz))) := by
  have := y_iaddrs (P := P) (w := w) ho hT hE S H hx hi (h := h) (by omega)
  simpa using this
theorem ZAR {x : Operand} {p : Addr} (ho : o.op = .nilCheck x) (S : St n fl a) (hx : ev fl x = some (.pointer (some p))) : Yld P o a w (.pointer (some p)) := by
  unfold Yld execOp; rw [ho]; simp [S.ev hx]
variable {r : Option Nat} {ops : Array Oper} {Q : Exit → Act → World → Prop} {d : Nat} {K : Act → World → Prop}
theorem op_box1 (hw : Region.wanted o (yielded ops a.tmps) = true) (hd : o.dst = some d) (hn : Nat.blt d n.n = true) {T : TypeId} {x : Operand} (ho : o.op = .box T x) (S : St n fl a) (H : HSat M w0 l w) (hx : ev fl x = some v) (hcs : v.cells.toList = [v])
    (k : ∀ b a' w', St n ((d, .pointer (some ⟨b, 0, none⟩)) :: fl) a' → HSat M w0 (Cel b T [v] :: l) w' → K a' w') : opw P ops o a w K := op_box hw hd hn ho S H hx hcs k
theorem ZAu (hw : Region.wanted o (yielded ops a.tmps) = true) (hd : o.dst = some d) (hn : Nat.blt d n.n = true) {T : TypeId} {x : Operand} {cs : List Value} (ho : o.op = .box T x) (S : St n fl a) (H : HSat M w0 l w) (hx : ev fl x = some (.agg cs.toArray))
    (k : ∀ b a' w', St n ((d, .pointer (some ⟨b, 0, none⟩)) :: fl) a' → HSat M w0 (Cel b T cs :: l) w' → K a' w') : opw P ops o a w K := op_box hw hd hn ho S H hx (by simp [Value.cells]) k
theorem ZB4 {X : Type} {c : Code} {flU : Slots} (SU : St n flU a) (mods : X → Slots) (inv : X → Prop) (μ : X → Nat) (x0 : X) (S0 : St n (mods x0) a) (H0 : HSat M w0 l w) (h0 : inv x0)
    (body : ∀ x a w, St n (mods x ++ flU) a → HSat M w0 l w → inv x →
      gp r P c (Exit.then (fun a' w' => ∃ y, St n (mods y) a' ∧ St n flU a' ∧ HSat M w0 l w' ∧ inv y ∧ μ y < μ x) Q) a w) : gp r P (Code.loop c) Q a w :=
  loop SU mods (fun _ => l) inv μ x0 S0 H0 h0 body
end
section
variable {P : Program} {o : Oper} {n : Sz} {fl : Slots} {a : Act} {w0 : World} {M : Nat → Prop} {l : List Atom} {ops : Array Oper} {loud tails free rest rem rem' : List Nat} {ro : List Atom} {K : Act → World → Prop} {j d f : Nat}
theorem m_loads {T : TypeId} {x : Operand} {i sz : Nat} {α : Type} {enc : α → List Value} {xs : List α} {u : Value} (v : Value) (h1 : ops[j]? = some o) (h2 : (loud.contains j || free.contains j) = false) (h3 : Region.wanted o (yielded ops a.tmps) = true) (hd : o.dst = some d) (hn : Nat.blt d n.n = true) (S : St n fl a) (ho : o.op = .load T x) (hT : ZAl P T = true)
    (hx : ev fl x = some (.pointer (some (ZBW v i sz)))) [h : HasSl l v sz α enc xs] (hi : i < xs.length) (hu : (enc xs[i])[0]? = some u) (k : ∀ a', St n ((d, u) :: fl) a' → Mix P ops loud tails free (RO ro) K rest a' (HSat M w0 l)) : Mix P ops loud tails free (RO ro) K (j :: rest) a (HSat M w0 l) :=
  m_w h1 h2 h3 hd hn S (fun w H => ZA6 v ho hT S H hx hi hu) k
theorem ZA3 {T : TypeId} {x : Operand} {i sz q : Nat} {α : Type} {enc : α → List Value} {xs : List α} {u : Value} (v : Value) (h1 : ops[j]? = some o) (h2 : (loud.contains j || free.contains j) = false) (h3 : Region.wanted o (yielded ops a.tmps) = true) (hd : o.dst = some d) (hn : Nat.blt d n.n = true) (S : St n fl a) (ho : o.op = .load T x) (hT : ZAl P T = true)
    (hx : ev fl x = some (.pointer (some ((ZBW v i sz).add q)))) [h : HasSl l v sz α enc xs] (hi : i < xs.length) (hu : (enc xs[i])[q]? = some u) (k : ∀ a', St n ((d, u) :: fl) a' → Mix P ops loud tails free (RO ro) K rest a' (HSat M w0 l)) : Mix P ops loud tails free (RO ro) K (j :: rest) a (HSat M w0 l) :=
  m_w h1 h2 h3 hd hn S (fun w H => y_loadsf v ho hT S H hx hi hu) k
theorem m_loadsa {T : TypeId} {x : Operand} {i sz : Nat} {α : Type} {enc : α → List Value} {xs : List α} (v : Value) (h1 : ops[j]? = some o) (h2 : (loud.contains j || free.contains j) = false) (h3 : Region.wanted o (yielded ops a.tmps) = true) (hd : o.dst = some d) (hn : Nat.blt d n.n = true) (S : St n fl a) (ho : o.op = .load T x)
    (hx : ev fl x = some (.pointer (some (ZBW v i sz)))) [h : HasSl l v sz α enc xs] (hT : aggB P T sz = true) (hi : i < xs.length) (k : ∀ a', St n ((d, .agg (enc xs[i]).toArray) :: fl) a' → Mix P ops loud tails free (RO ro) K rest a' (HSat M w0 l)) : Mix P ops loud tails free (RO ro) K (j :: rest) a (HSat M w0 l) :=
  m_w h1 h2 h3 hd hn S (fun w H => ZAk v ho S H hx hT hi) k
theorem m_loadsff {T : TypeId} {x : Operand} {i sz q q2 : Nat} {α : Type} {enc : α → List Value} {xs : List α} {u : Value} (v : Value) (h1 : ops[j]? = some o) (h2 : (loud.contains j || free.contains j) = false) (h3 : Region.wanted o (yielded ops a.tmps) = true) (hd : o.dst = some d) (hn : Nat.blt d n.n = true) (S : St n fl a) (ho : o.op = .load T x) (hT : ZAl P T = true)
    (hx : ev fl x = some (.pointer (some (((ZBW v i sz).add q2).add q)))) [h : HasSl l v sz α enc xs] (hi : i < xs.length) (hu : (enc xs[i])[q2 + q]? = some u) (k : ∀ a', St n ((d, u) :: fl) a' → Mix P ops loud tails free (RO ro) K rest a' (HSat M w0 l)) : Mix P ops loud tails free (RO ro) K (j :: rest) a (HSat M w0 l) :=
  m_w h1 h2 h3 hd hn S (fun w H => y_loadsff v ho hT S H hx hi hu) k
end
end
section
structure IsOSl (w : World) (e : TypeId) (v : Value) (sz : Nat) {α : Type} (enc : α → List Value) (xs : List α) : Prop where
  row : w.ownsRow 0 e sz v xs.length (xs.flatMap enc)
  len : xs.length ≤ 9223372036854775807
  sizes : ∀ x ∈ xs, (enc x).length = sz
def OSl (e : TypeId) (v : Value) (sz : Nat) {α : Type} (enc : α → List Value) (xs : List α) : Atom where
  own := true
  fp := fun k => v.ownBlock = some k
  ok := fun w => IsOSl w e v sz enc xs
  loc := fun w w' h hok => ⟨by
    refine ⟨hok.row.1, ?_⟩
    rcases hok.row.2 with hn | ⟨g, cap, cur, hv, hb, hg, r⟩
    · exact .inl hn
    exact .inr ⟨g, cap, cur, hv, hb, by rw [h g (by rw [hv]; rfl)]; exact hg, r⟩, hok.len, hok.sizes⟩
  lt := fun w b hok hb => (hok.row.lt b hb).2
theorem flatMap_at {α : Type} {enc : α → List Value} {sz : Nat} : ∀ {xs : List α} (hs : ∀ x ∈ xs, (enc x).length = sz) (i : Nat) (hi : i < xs.length) (j : Nat), j < sz → (xs.flatMap enc)[i * sz + j]? = (enc xs[i])[j]?
  | [], _, i, hi, _, _ => by simp at hi
  | x :: r, hs, 0, _, j, hj => by
    have := hs x (by simp)
    simp only [List.flatMap_cons, Nat.zero_mul, Nat.zero_add, List.getElem_cons_zero]
    rw [List.getElem?_append_left (by omega)]
  | x :: r, hs, i + 1, hi, j, hj => by
    have h0 := hs x (by simp)
    have ih := flatMap_at (xs := r) (fun y hy => hs y (by simp [hy])) i (by simpa using hi) j hj
    have e : (i + 1) * sz + j = sz + (i * sz + j) := by rw [Nat.add_mul]; omega
    simp only [List.flatMap_cons, List.getElem_cons_succ]
    rw [e, ← h0, List.getElem?_append_right (by omega)]
    rw [h0]
    simpa using ih
theorem ZA7 {α : Type} {enc : α → List Value} {sz : Nat} : ∀ {xs : List α} (hs : ∀ x ∈ xs, (enc x).length = sz), (xs.flatMap enc).length = xs.length * sz
  | [], _ => by simp
  | x :: r, hs => by
    have ih := ZA7 (xs := r) (fun y hy => hs y (by simp [hy]))
    simp only [List.flatMap_cons, List.length_append, ih, hs x (by simp), List.length_cons, Nat.add_mul]
    omega
theorem IsOSl.sl {w : World} {e : TypeId} {v : Value} {sz : Nat} {α : Type} {enc : α → List Value} {xs : List α} (h : IsOSl w e v sz enc xs) : IsSl w v sz enc xs := by
  refine ⟨h.len, ?_, h.sizes, fun i hi => ?_⟩
  · rcases h.row.2 with ⟨rfl, hn⟩ | ⟨g, cap, cur, rfl, _⟩
    · exact ⟨none, 0, by rw [hn]⟩
    exact ⟨_, _, rfl⟩
  rcases h.row.2 with ⟨rfl, hn⟩ | ⟨g, cap, cur, rfl, _, hg, hnc, _, hcs, ht⟩
  · omega
  refine ⟨g, 0, cap, rfl, fun j u hu => ?_⟩
  have hj : j < sz := by
    have h1 := (List.getElem?_eq_some_iff.1 hu).1
    have h2 := h.sizes _ (List.getElem_mem hi)
    omega
  rw [cell_of_row w g _ cur e (0, 0) hg]
  have hf := flatMap_at h.sizes i hi j hj
  rw [hu, ← ht, List.getElem?_take] at hf
  split at hf
  · simpa using hf
  cases hf
instance (priority := 2000) HasSl.own (l : List Atom) (e : TypeId) (v : Value) (sz : Nat) (α : Type) (enc : α → List Value) (xs : List α) : HasSl (OSl e v sz enc xs :: l) v sz α enc xs := ⟨fun w h => IsOSl.sl (h (OSl e v sz enc xs) (List.mem_cons_self ..))⟩
instance (priority := 2000) HasSl.ownRo (l : List Atom) (e : TypeId) (v : Value) (sz : Nat) (α : Type) (enc : α → List Value) (xs : List α) : HasSl (Atom.ro (OSl e v sz enc xs) :: l) v sz α enc xs := ⟨fun w h => IsOSl.sl (h (Atom.ro (OSl e v sz enc xs)) (List.mem_cons_self ..))⟩
class HasO (l : List Atom) (v : Value) (e : outParam TypeId) (sz : outParam Nat) (α : outParam Type) (enc : outParam (α → List Value)) (xs : outParam (List α)) (l' : outParam (Atom → List Atom)) : Prop where
  at_ : ∃ l1 l2, l = l1 ++ OSl e v sz enc xs :: l2 ∧ ∀ y, l' y = l1 ++ y :: l2
instance (priority := 2000) HasO.here (l : List Atom) (e : TypeId) (v : Value) (sz : Nat) (α : Type) (enc : α → List Value) (xs : List α) : HasO (OSl e v sz enc xs :: l) v e sz α enc xs (fun y => y :: l) := ⟨[], l, rfl, fun _ => rfl⟩
instance HasO.there (l : List Atom) (x : Atom) (e : TypeId) (v : Value) (sz : Nat) (α : Type) (enc : α → List Value) (xs : List α) (l' : Atom → List Atom) [h : HasO l v e sz α enc xs l'] : HasO (x :: l) v e sz α enc xs (fun y => x :: l' y) := by
  obtain ⟨l1, l2, h1, h2⟩ := h.at_
  exact ⟨x :: l1, l2, by simp [h1], fun y => by simp [h2]⟩
theorem HSat.swap {M : Nat → Prop} {w0 w w' : World} {l1 l2 : List Atom} {x y : Atom} (H : HSat M w0 (l1 ++ x :: l2) w) (hx : x.own = true) (hy : y.own = true) (hf : Fr x.fp w w') (hok : y.ok w') (hn : ∀ b, y.fp b → x.fp b ∨ w.heap.size ≤ b) : HSat M w0 (l1 ++ y :: l2) w' := by
  have p : (l1 ++ x :: l2).Perm ([x] ++ (l1 ++ l2)) := List.perm_middle
  have H1 := H.perm p
  have H2 : HSat x.fp w [y] w' := ⟨hf, by intro z hz; simp at hz; subst hz; exact hok, by intro z hz _ b hb; simp at hz; subst hz; exact hn b hb, List.pairwise_singleton _ _⟩
  have H3 := HSat.callM H1 H2 (fun k hk => ⟨x, by simp, hx, hk⟩) (by intro z hz b hb; simp at hz; subst hz; exact hn b hb)
  exact H3.perm (show (y :: (l1 ++ l2)).Perm (l1 ++ y :: l2) from List.perm_middle.symm)
def infoB (P : Program) (E : TypeId) : Option (Value × Nat × Nat) := (P.info? E).bind fun i => i.zero.map fun z => (z, i.size, i.bytes)
section
variable {P : Program} {o : Oper} {n : Sz} {fl : Slots} {a : Act} {w w0 : World} {v : Value} {M : Nat → Prop} {l : List Atom} {ops : Array Oper} {d : Nat} {K : Act → World → Prop}
theorem infoB_parts {E : TypeId} {z : Value} {sz by_ : Nat} (h : infoB P E = some (z, sz, by_)) : ∃ i, P.info? E = some i ∧ i.zero = some z ∧ i.size = sz ∧ i.bytes = by_ := by
  unfold infoB at h
  cases hi : P.info? E with
  | none => rw [hi] at h; cases h
  | some i =>
    rw [hi] at h
    cases hz : i.zero with
    | none => rw [Option.bind_some, hz] at h; cases h
    | some z' =>
      simp only [Option.bind_some, hz, Option.map_some, Option.some.injEq, Prod.mk.injEq] at h
      exact ⟨i, rfl, by rw [hz, h.1], h.2.1, h.2.2⟩
theorem HSat.nilO (H : HSat M w0 l w) (e : TypeId) (sz : Nat) {α : Type} (enc : α → List Value) : HSat M w0 (OSl e (.slice none 0 0) sz enc [] :: l) w := by
  refine ⟨H.fr, fun x hx => ?_, fun x hx ho b hb => ?_, List.pairwise_cons.2 ⟨fun y hy ho b hb => ?_, H.sep⟩⟩
  · rcases List.mem_cons.1 hx with rfl | hx
    · exact ⟨World.ownsRow_nil w 0 e sz, by simp, by simp⟩
    exact H.ok x hx
  · rcases List.mem_cons.1 hx with rfl | hx
    · simp [OSl, Value.ownBlock] at hb
    exact H.mine x hx ho b hb
  simp [OSl, Value.ownBlock] at hb
theorem run_append_at {T ty E : TypeId} {z : Value} {sz by_ : Nat} (hT : P.underlying T = some (.slice E)) (hE : infoB P E = some (z, sz, by_)) (hz : z.cells.size = sz) (hsz : 0 < sz)
    {α : Type} {enc : α → List Value} {xs ys : List α} (ho : IsOSl w E v sz enc xs) (hy : ∀ y ∈ ys, (enc y).length = sz) (h1 : ∀ y ∈ ys, ∀ u ∈ enc y, u.oneCell' = true)
    (ad : Addr) (c : Nat) (hnews : ∀ j u, (ys.flatMap enc)[j]? = some u → w.cell? (ad.add j) = some u) (hb : (xs.length + ys.length) * by_ ≤ 140737488355328) (hlen : xs.length + ys.length ≤ 9223372036854775807) (hne : ys ≠ []) :
    ∃ v' w', (Builtin.append_ #[T, T] ty #[v, .slice (some ad) ys.length c]).run P w = .ok v' w' ∧ IsOSl w' E v' sz enc (xs ++ ys) ∧ Fr (fun k => v.ownBlock = some k) w w' ∧ (∀ b, v'.ownBlock = some b → v.ownBlock = some b ∨ w.heap.size ≤ b) ∧ v' ≠ .slice none 0 0 := by
  obtain ⟨i, hi, hzi, hsi, hbi⟩ := infoB_parts hE
  have hl : (ys.flatMap enc).length = ys.length * sz := ZA7 hy
  have hpos : 0 < ys.length := List.length_pos_iff.2 hne
  obtain ⟨v', w', hr, hown, hgr, hnil⟩ := run_append_own (P := P) w 0 T ty E i z sz by_ hT hi hzi hsi hbi hz hsz v xs.length (xs.flatMap enc) ho.row ad ys.length c (ys.flatMap enc) hl hnews
    (fun u hu => by obtain ⟨y, hy1, hy2⟩ := List.mem_flatMap.1 hu; exact h1 y hy1 u hy2) (by unfold maxLen; omega) hb (Nat.zero_le _)
  refine ⟨v', w', hr, ⟨by simpa using hown, by simpa using hlen, fun x hx => (List.mem_append.1 hx).elim (ho.sizes x) (hy x)⟩, ⟨hgr.os, hgr.tape, hgr.output, hgr.size, fun k hk hM => hgr.block k hk (fun e => hM e.symm), ?_⟩, ?_, fun e => ?_⟩
  · rcases ho.row.2 with ⟨rfl, hn⟩ | ⟨g, cap, cur, rfl, _, hg, hnc, hcm, hcs, ht⟩
    · have hr2 := run_append_nil (P := P) w T ty E i z hT hi hzi ad ys.length c (ys.flatMap enc) (by rw [hsi]; exact hl) hnews hpos (by omega) (by rw [hbi]; rw [hn] at hb; simp only [Nat.zero_add] at hb; omega)
      rw [hr2] at hr
      cases hr
      exact ((Ext.drew w).trans (Ext.alloc_cells _ _ _)).thaw
    by_cases hroom : xs.length + ys.length ≤ cap
    · have hfit : xs.length * i.size + (ys.flatMap enc).length ≤ cur.size := by rw [hl, hcs, hsi, ← Nat.add_mul]; exact Nat.mul_le_mul_right _ hroom
      have hr2 := run_append_room (P := P) w T ty E i hT hi g xs.length cap cur hg ad ys.length c (ys.flatMap enc) (by rw [hsi]; exact hl) hnews (fun u hu => by obtain ⟨y, hy1, hy2⟩ := List.mem_flatMap.1 hu; exact h1 y hy1 u hy2) hroom hfit
      rw [hr2] at hr
      cases hr
      intro k _ hk
      by_cases hkg : k = g
      · subst hkg; rw [setRow_heap w k _ _ _ _ hg]; exact Nat.le_refl 0
      rw [setRow_other w g k _ hkg]; exact hk
    have holds : ∀ j u, (xs.flatMap enc)[j]? = some u → w.cell? ((⟨g, 0, none⟩ : Addr).add j) = some u := ho.row.cells (g := g) rfl
    have hr2 := run_append_grow (P := P) w T ty E i z hT hi hzi ⟨g, 0, none⟩ xs.length cap (xs.flatMap enc) (by rw [hsi]; exact ZA7 ho.sizes) holds ad ys.length c (ys.flatMap enc) (by rw [hsi]; exact hl) hnews (by omega) (by omega) (by rw [hbi]; exact growslice_fits (by omega) hb)
    rw [hr2] at hr
    cases hr
    exact ((Ext.drew w).trans (Ext.alloc_cells _ _ _)).thaw
  · intro b hb'
    rcases ho.row.2 with ⟨rfl, hn⟩ | ⟨g, cap, cur, rfl, _, hg, hnc, hcm, hcs, ht⟩
    · have hx : xs.flatMap enc = [] := by have := ho.row.1; rw [hn] at this; exact List.eq_nil_of_length_eq_zero (by simpa using this)
      have hr2 := run_append_nil (P := P) w T ty E i z hT hi hzi ad ys.length c (ys.flatMap enc) (by rw [hsi]; exact hl) hnews hpos (by omega) (by rw [hbi]; rw [hn] at hb; simp only [Nat.zero_add] at hb; omega)
      rw [hr2] at hr
      cases hr
      simp only [Value.ownBlock, Option.some.injEq] at hb'
      exact .inr (by omega)
    by_cases hroom : xs.length + ys.length ≤ cap
    · have hfit : xs.length * i.size + (ys.flatMap enc).length ≤ cur.size := by rw [hl, hcs, hsi, ← Nat.add_mul]; exact Nat.mul_le_mul_right _ hroom
      have hr2 := run_append_room (P := P) w T ty E i hT hi g xs.length cap cur hg ad ys.length c (ys.flatMap enc) (by rw [hsi]; exact hl) hnews (fun u hu => by obtain ⟨y, hy1, hy2⟩ := List.mem_flatMap.1 hu; exact h1 y hy1 u hy2) hroom hfit
      rw [hr2] at hr
      cases hr
      exact .inl hb'
    have holds : ∀ j u, (xs.flatMap enc)[j]? = some u → w.cell? ((⟨g, 0, none⟩ : Addr).add j) = some u := ho.row.cells (g := g) rfl
    have hr2 := run_append_grow (P := P) w T ty E i z hT hi hzi ⟨g, 0, none⟩ xs.length cap (xs.flatMap enc) (by rw [hsi]; exact ZA7 ho.sizes) holds ad ys.length c (ys.flatMap enc) (by rw [hsi]; exact hl) hnews (by omega) (by omega) (by rw [hbi]; exact growslice_fits (by omega) hb)
    rw [hr2] at hr
    cases hr
    simp only [Value.ownBlock, Option.some.injEq] at hb'
    exact .inr (by omega)
  have := (hnil.1 e).2
  omega
theorem ZAr {T E : TypeId} {s x : Operand} {z : Value} {sz by_ b c : Nat} {cs : List Value} {T' : TypeId} {fz : Nat × Nat} {α : Type} {enc : α → List Value} {xs : List α} {l' : Atom → List Atom} {m : Nat} (ys : List α)
    (hw : Region.wanted o (yielded ops a.tmps) = true) (hd : o.dst = some d) (hn : Nat.blt d n.n = true) (ho : o.op = .call { callee := .builtin .append, args := #[s, x], argTypes := #[T, T] }) (hT : P.underlying T = some (.slice E)) (hE : infoB P E = some (z, sz, by_)) (hz : z.cells.size = sz) (hsz : Nat.blt 0 sz = true)
    (S : St n fl a) (H : HSat M w0 l w) (hs : ev fl s = some v) (hx : ev fl x = some (.slice (some ⟨b, 0, none⟩) m c)) [hB : HasRd l b (.cells cs.toArray T' fz)] [hO : HasO l v E sz α enc xs l'] (hm : ys.length = m) (hcs : cs = ys.flatMap enc) (hne : ys ≠ [])
    (hy : ∀ y ∈ ys, (enc y).length = sz) (h1 : ∀ y ∈ ys, ∀ u ∈ enc y, u.oneCell' = true) (hb : (xs.length + ys.length) * by_ ≤ 140737488355328) (hlen : xs.length + ys.length ≤ 9223372036854775807)
    (k : ∀ v' a' w', v' ≠ .slice none 0 0 → St n ((d, v') :: fl) a' → HSat M w0 (l' (OSl E v' sz enc (xs ++ ys))) w' → K a' w') : opw P ops o a w K := by
  obtain ⟨l1, l2, e1, e2⟩ := hO.at_
  have hok : IsOSl w E v sz enc xs := H.ok (OSl E v sz enc xs) (by rw [e1]; simp)
  obtain ⟨v', w', hr, hown, hfr, hnew, hnn⟩ := run_append_at (P := P) (ty := o.type) hT hE hz (by simpa using hsz) hok hy h1 ⟨b, 0, none⟩ c (fun j u hu => by rw [add_plain, H.cell hB, hcs]; simpa using hu) hb hlen hne
  have hrun : (execOp a.eval o).run P w = .ok (.value v') w' := by
    unfold execOp; rw [ho]
    subst hm
    simp only [resolve, invoke, builtin, Sem.run_bind, Sem.run_pure, Result.andThen_ok, List.map_toArray, List.map_cons, List.map_nil, S.ev hs, S.ev hx, hr]
  refine opw_val hw hrun ?_
  rw [hd]
  refine k v' _ w' hnn (S.put hn v') ?_
  rw [e2]
  rw [e1] at H
  exact HSat.swap H rfl rfl hfr hown hnew
theorem ZAP {T E : TypeId} {parts : Array (Nat × Operand)} {vs cs z : List Value} {zv : Value} {m sz by_ : Nat} {idx : List Nat} (hw : Region.wanted o (yielded ops a.tmps) = true) (hd : o.dst = some d) (hn : Nat.blt d n.n = true) (ho : o.op = .buildSlice T m parts) (hT : P.underlying T = some (.slice E)) (hE : infoB P E = some (zv, sz, by_))
    (S : St n fl a) (H : HSat M w0 l w) (hi : parts.toList.map (·.1) = idx) (hv : evs fl (parts.toList.map (·.2)) = some vs) (hsmall : Nat.ble (m * sz) 16777216 = true) (hz : ((Array.range (m * sz)).map (zv.cells[· % zv.cells.size]!)).toList = z)
    (hf : Instr.fill (fun i => some (i * sz, sz)) z.toArray (idx.zip vs) = some cs.toArray)
    (k : ∀ b a' w', St n ((d, .slice (some ⟨b, 0, none⟩) m m) :: fl) a' → HSat M w0 (Cel b E cs :: l) w' → K a' w') : opw P ops o a w K := by
  obtain ⟨i, hinf, hzi, hsi, hbi⟩ := infoB_parts hE
  have hp := parts_of S hi hv
  have hsm : m * sz ≤ 16777216 := by simpa using hsmall
  have hrun : (execOp a.eval o).run P w = .ok (.value (.slice (some ⟨w.heap.size, 0, none⟩) m m)) (w.alloc (.cells cs.toArray E)) := by
    unfold execOp; rw [ho]
    have hp' : (parts.map fun (i, x) => (i, a.eval x)).toList = idx.zip vs := by rw [← hp]; simp
    subst hz
    have hzv : (zeroValue E).run P w = .ok zv w := by simp [zeroValue, typeInfo, hinf, hzi]
    have hsz' : (sizeOf E).run P w = .ok sz w := by simp [sizeOf, typeInfo, hinf, hsi]
    have hno : ¬ (m * sz > 2 ^ 24) := by omega
    simp only [Array.toArray_toList] at hf
    by_cases h0 : m * sz = 0
    · have hf' : Instr.fill (fun i => some (i * sz, sz)) ((Array.range (m * sz)).map ((#[] : Array Value)[· % (#[] : Array Value).size]!)) (idx.zip vs) = some cs.toArray := by
        have e1 : ∀ f : Nat → Value, (Array.range (m * sz)).map f = #[] := fun f => by rw [h0]; simp
        rw [e1] at hf ⊢; exact hf
      simp only [Instr.buildSlice, Sem.run_bind, run_underlying hT, Result.andThen_ok, hsz', if_neg hno, if_pos h0, Sem.run_pure, hp', hf']
      simp [newRow, newObj, Sem.run]
    simp only [Instr.buildSlice, Sem.run_bind, run_underlying hT, Result.andThen_ok, hsz', if_neg hno, if_neg h0, Sem.run_pure, hzv, hp', hf]
    simp [newRow, newObj, Sem.run]
  refine opw_val hw hrun ?_
  rw [hd]; exact k _ _ _ (S.put hn _) (H.alloc _ (Nat.le_refl 0))
end
end
section
section
variable {r : Option Nat} {P : Program} {o : Oper} {n : Sz} {fl flU : Slots} {a : Act} {w w0 : World} {v : Value} {M : Nat → Prop} {l : List Atom} {ops : Array Oper} {d : Nat} {K : Act → World → Prop} {Q : Exit → Act → World → Prop}
theorem c_join {c : Operand} {x y : Code} {B : Bool} {m1 m2 mj : Slots} (S : St n fl a) (hc : ev fl c = some (.bool B))
    (ht : B = true → gp r P x (Exit.then (fun a w => St n m1 a ∧ St n flU a ∧ HSat M w0 l w) Q) a w) (hf : B = false → gp r P y (Exit.then (fun a w => St n m2 a ∧ St n flU a ∧ HSat M w0 l w) Q) a w)
    (h1 : B = true → mj = m1) (h2 : B = false → mj = m2) (k : ∀ a w, St n (mj ++ flU) a → HSat M w0 l w → K a w) : gp r P (Code.cond c x y) (Exit.then K Q) a w := by
  refine c_if S hc (fun h => ?_) (fun h => ?_)
  · refine cut _ (ht h) (fun a' w' ⟨s1, s2, hh⟩ => k a' w' (by rw [h1 h]; exact s1.append s2) hh)
  refine cut _ (hf h) (fun a' w' ⟨s1, s2, hh⟩ => k a' w' (by rw [h2 h]; exact s1.append s2) hh)
theorem c_jb {c : Operand} {x y : Code} {B : Bool} {s : Nat} {e1 e2 : Bool} (S : St n fl a) (hc : ev fl c = some (.bool B))
    (ht : B = true → gp r P x (Exit.then (fun a w => St n [(s, .bool e1)] a ∧ St n flU a ∧ HSat M w0 l w) Q) a w) (hf : B = false → gp r P y (Exit.then (fun a w => St n [(s, .bool e2)] a ∧ St n flU a ∧ HSat M w0 l w) Q) a w)
    (k : ∀ a w, St n ((s, .bool (if B = true then e1 else e2)) :: flU) a → HSat M w0 l w → K a w) : gp r P (Code.cond c x y) (Exit.then K Q) a w :=
  c_join (mj := [(s, .bool (if B = true then e1 else e2))]) S hc ht hf (fun h => by simp [h]) (fun h => by simp [h]) k
theorem y_max {x y : Operand} {k k' : IntKind} {m q : Int} {ts : Array TypeId} (ho : o.op = .call { callee := .builtin .max, args := #[x, y], argTypes := ts }) (S : St n fl a) (hx : ev fl x = some (.int k m)) (hy : ev fl y = some (.int k' q)) : Yld P o a w (.int k (max m q)) := by
  unfold Yld execOp; rw [ho]; simp [resolve, invoke, builtin, S.ev hx, S.ev hy, Builtin.max_, Builtin.max2]; omega
theorem y_min {x y : Operand} {k k' : IntKind} {m q : Int} {ts : Array TypeId} (ho : o.op = .call { callee := .builtin .min, args := #[x, y], argTypes := ts }) (S : St n fl a) (hx : ev fl x = some (.int k m)) (hy : ev fl y = some (.int k' q)) : Yld P o a w (.int k (min m q)) := by
  unfold Yld execOp; rw [ho]; simp [resolve, invoke, builtin, S.ev hx, S.ev hy, Builtin.min_, Builtin.min2]; omega
theorem y_quon {T U : TypeId} {x y : Operand} {m q : Int} (ho : o.op = .binOp .quo T x y U) (S : St n fl a) (hx : ev fl x = some (.int .i64 m)) (hy : ev fl y = some (.int .i64 q)) (hm : 0 ≤ m) (hq : 0 < q) (hb : m ≤ 9223372036854775807) : Yld P o a w (.int .i64 (m / q)) := by
  have h1 : m.tdiv q = m / q := Int.tdiv_eq_ediv_of_nonneg hm
  rw [← h1]
  refine y_quo ho S hx hy (by omega) ?_
  rw [h1]
  have h2 := Int.ediv_le_self q hm
  have h3 := Int.ediv_nonneg hm (Int.le_of_lt hq)
  omega
theorem y_remn {T U : TypeId} {x y : Operand} {k : IntKind} {m q : Int} (ho : o.op = .binOp .rem T x y U) (S : St n fl a) (hx : ev fl x = some (.int k m)) (hy : ev fl y = some (.int k q)) (hm : 0 ≤ m) (hq : 0 < q) : Yld P o a w (.int k (m % q)) := by
  rw [← Int.tmod_eq_emod_of_nonneg hm]
  exact y_rem ho S hx hy (by omega)
theorem HSat.slb (H : HSat M w0 l w) (b : Nat) {cs : List Value} {T : TypeId} {fz : Nat × Nat} [h : HasRd l b (.cells cs.toArray T fz)] {α : Type} (xs : List α) (enc : α → List Value) (sz : Nat) {m c : Nat} (hcs : cs = xs.flatMap enc) (hm : xs.length = m) (hs : ∀ x ∈ xs, (enc x).length = sz) (hl : m ≤ 9223372036854775807) :
    IsSl w (.slice (some ⟨b, 0, none⟩) m c) sz enc xs := by
  subst hm
  refine ⟨hl, ⟨_, _, rfl⟩, hs, fun i hi => ⟨b, 0, c, rfl, fun j u hu => ?_⟩⟩
  have hj : j < sz := by rw [← hs _ (List.getElem_mem hi)]; exact (List.getElem?_eq_some_iff.1 hu).1
  rw [H.cell h, hcs, Nat.zero_add, flatMap_at hs i hi j hj, hu]
theorem HSat.sl1 (H : HSat M w0 l w) (v : Value) {sz : Nat} {α : Type} {enc : α → List Value} {xs : List α} [h : HasSl l v sz α enc xs] : v.oneCell' = true := by
  obtain ⟨p, c, hv⟩ := (H.sl v (h := h)).shape
  rw [hv]; rfl
theorem HSat.slc (H : HSat M w0 l w) (v : Value) {sz : Nat} {α : Type} {enc : α → List Value} {xs : List α} [h : HasSl l v sz α enc xs] : v.cells.toList = [v] := by
  obtain ⟨p, c, hv⟩ := (H.sl v (h := h)).shape
  rw [hv]; rfl
theorem wl_andW {W : World → Prop} {L rest : List Oper} {pk : Oper} (m g : Nat) {B B2 : Bool} {c x y : Operand} (hL : L = L.take m ++ pk :: rest) (S : St n fl a) (hW : B = false → W w) (hB : fl.lookup g = some (.bool B))
    (hsk : skipOK ops n.n (fl.map (·.1)) g true (L.take m) [] = true) (hpk : pk.op = .pick c x y) (hc : ev fl c = some (.bool B)) (hy : ev fl y = some (.bool false)) (hd : pk.dst = some d) (hn : Nat.blt d n.n = true)
    (hw : ∀ a', St n fl a' → Region.wanted pk (yielded ops a'.tmps) = true)
    (hyes : B = true → (∀ a' w', St n ((d, .bool (B && B2)) :: fl) a' → W w' → gl P ops Q rest a' w') → gl P ops Q L a w)
    (k : ∀ a' w', St n ((d, .bool (B && B2)) :: fl) a' → W w' → gl P ops Q rest a' w') : gl P ops Q L a w := by
  cases B with
  | true => exact hyes rfl k
  | false =>
    rw [hL]
    refine skip_all (by simp) hB _ [] a hsk S (by simp) fun a' S' => ?_
    refine ZAF (op_y (hw a' S') hd hn S' (v := .bool (false && B2)) ?_ (fun a'' S'' => k a'' w S'' (hW rfl)))
    unfold Yld execOp; rw [hpk]; simp only [S'.ev hc, S'.ev hy]; simp [asBool]
theorem ZBL {X : Type} {c : Code} (SU : St n flU a) (mods : X → Slots) (W : X → World → Prop) (μ : X → Nat) (x0 : X) (S0 : St n (mods x0) a) (h0 : W x0 w)
    (body : ∀ x a w, St n (mods x ++ flU) a → W x w →
      gp r P c (Exit.then (fun a' w' => ∃ y, St n (mods y) a' ∧ St n flU a' ∧ W y w' ∧ μ y < μ x) Q) a w) : gp r P (Code.loop c) Q a w := by
  refine g_loop (fun m a w => ∃ x, μ x = m ∧ St n (mods x) a ∧ St n flU a ∧ W x w) (μ x0) ⟨x0, rfl, S0, SU, h0⟩ ?_
  rintro m a w ⟨x, rfl, S1, S2, H⟩
  refine g_mono (body x a w (S1.append S2) H) ?_
  intro e a' w' hq
  cases e with
  | normal =>
    obtain ⟨y, h1, h2, h3, h5⟩ := hq
    exact ⟨μ y, h5, y, rfl, h1, h2, h3⟩
  | _ => exact hq
end
end
section
section
variable {r : Option Nat} {P : Program} {o : Oper} {n : Sz} {fl flU : Slots} {a : Act} {w w0 : World} {v : Value} {M : Nat → Prop} {l : List Atom} {ops : Array Oper} {d : Nat} {K : Act → World → Prop} {Q : Exit → Act → World → Prop}
theorem HSat.conv {x y : Atom} (H : HSat M w0 (x :: l) w) (hown : y.own = true → x.own = true) (hfp : ∀ b, y.fp b → x.fp b) (hok : x.ok w → y.ok w) : HSat M w0 (y :: l) w := by
  have hs := List.pairwise_cons.1 H.sep
  refine ⟨H.fr, fun z hz => ?_, fun z hz ho b hb => ?_, List.pairwise_cons.2 ⟨fun z hz ho b hb => ?_, hs.2⟩⟩
  · rcases List.mem_cons.1 hz with rfl | hz
    · exact hok (H.ok x (by simp))
    exact H.ok z (List.mem_cons_of_mem _ hz)
  · rcases List.mem_cons.1 hz with rfl | hz
    · exact H.mine x (by simp) (hown ho) b (hfp b hb)
    exact H.mine z (List.mem_cons_of_mem _ hz) ho b hb
  exact hs.1 z hz (ho.imp hown id) b (hfp b hb)
theorem HSat.freeze {x : Atom} (H : HSat M w0 (x :: l) w) : HSat M w0 (Atom.ro x :: l) w := H.conv (fun h => by cases h) (fun _ h => h) (fun h => h)
theorem HSat.celO {α : Type} {b : Nat} {E : TypeId} {cs : List Value} (H : HSat M w0 (Cel b E cs :: l) w) (xs : List α) (enc : α → List Value) (sz : Nat) {m : Nat} (hcs : cs = xs.flatMap enc) (hs : ∀ x ∈ xs, (enc x).length = sz) (hm : xs.length = m) (hl : m ≤ 9223372036854775807) :
    HSat M w0 (OSl E (.slice (some ⟨b, 0, none⟩) m m) sz enc xs :: l) w := by
  subst hm
  refine H.conv (fun _ => rfl) (fun k hk => ?_) (fun hok => ⟨⟨ZA7 hs, .inr ⟨b, xs.length, cs.toArray, rfl, Nat.zero_le _, hok, Nat.le_refl _, by simpa [maxLen] using hl, ?_, ?_⟩⟩, hl, hs⟩)
  · simp only [OSl, Value.ownBlock, Option.some.injEq] at hk; exact hk.symm
  · rw [hcs]; simpa using ZA7 hs
  rw [hcs, List.take_of_length_le]
  rw [ZA7 hs]; exact Nat.le_refl _
theorem madeCells_flat (z : Array Value) (m : Nat) (hz : 0 < z.size) : (madeCells z (m * z.size)).toList = (List.replicate m z.toList).flatten := by
  have h := flatMap_at (xs := List.replicate m ()) (enc := fun _ => z.toList) (sz := z.size) (by simp)
  have hlen : ((List.replicate m ()).flatMap fun _ => z.toList).length = m * z.size := by
    have := ZA7 (xs := List.replicate m ()) (enc := fun _ => z.toList) (sz := z.size) (by simp)
    simpa only [List.length_replicate] using this
  have he : (List.replicate m z.toList).flatten = (List.replicate m ()).flatMap fun _ => z.toList := by simp [List.flatMap]
  rw [he]
  apply List.ext_getElem?
  intro j
  by_cases hj : j < m * z.size
  · have hi : j / z.size < m := (Nat.div_lt_iff_lt_mul hz).2 hj
    have hr : j % z.size < z.size := Nat.mod_lt _ hz
    have := h (j / z.size) (by simpa using hi) (j % z.size) hr
    rw [Nat.mul_comm, Nat.div_add_mod] at this
    rw [this]
    simp [madeCells, hj, hr]
  rw [List.getElem?_eq_none (by simp [madeCells]; omega), List.getElem?_eq_none (by omega)]
theorem ZAw {T E : TypeId} {x y : Operand} {z : Value} {sz by_ m : Nat} {k1 k2 : IntKind} {α : Type} (enc : α → List Value) (z0 : α) (hw : Region.wanted o (yielded ops a.tmps) = true) (hd : o.dst = some d) (hn : Nat.blt d n.n = true) (ho : o.op = .makeSlice T x y) (hT : P.underlying T = some (.slice E)) (hE : infoB P E = some (z, sz, by_)) (hz : z.cells.size = sz) (hsz : Nat.blt 0 sz = true)
    (S : St n fl a) (H : HSat M w0 l w) (hx : ev fl x = some (.int k1 (m : Int))) (hy : ev fl y = some (.int k2 (m : Int))) (henc : enc z0 = z.cells.toList) (hb : by_ * m ≤ 281474976710656) (hm : m ≤ 9223372036854775807)
    (k : ∀ b a' w', St n ((d, .slice (some ⟨b, 0, none⟩) m m) :: fl) a' → HSat M w0 (OSl E (.slice (some ⟨b, 0, none⟩) m m) sz enc (List.replicate m z0) :: l) w' → K a' w') : opw P ops o a w K := by
  obtain ⟨i, hinf, hzi, hsi, hbi⟩ := infoB_parts hE
  have hr := run_make (P := P) w T E i z hT hinf hzi k1 k2 (m : Int) (m : Int) (by omega) (by omega) (by rw [hbi, ← Int.natCast_mul]; omega) (by omega)
  simp only [Int.toNat_natCast] at hr
  have hrun : (execOp a.eval o).run P w = .ok (.value (.slice (some ⟨w.heap.size, 0, none⟩) m m)) (w.alloc (.cells (madeCells z.cells (m * i.size)) E)) := by
    unfold execOp; rw [ho]; simp only [S.ev hx, S.ev hy]; simp [hr]
  refine opw_val hw hrun ?_
  rw [hd]
  refine k _ _ _ (S.put hn _) ?_
  have h1 : HSat M w0 (Cel w.heap.size E (madeCells z.cells (m * i.size)).toList :: l) (w.alloc (.cells (madeCells z.cells (m * i.size)) E)) := by
    have := H.alloc (.cells (madeCells z.cells (m * i.size)) E) (Nat.le_refl 0)
    simpa using this
  refine h1.celO (List.replicate m z0) enc sz ?_ (fun x hx => ?_) (by simp) hm
  · rw [hsi, ← hz, madeCells_flat _ _ (by rw [hz]; simpa using hsz), ← henc]; simp [List.flatMap]
  rw [List.eq_of_mem_replicate hx, henc]; simpa using hz
theorem flat_parts {α : Type} {enc : α → List Value} {sz : Nat} {xs : List α} (hs : ∀ x ∈ xs, (enc x).length = sz) (i : Nat) (hi : i < xs.length) (j : Nat) (vs : List Value) (y : α) (hj : j + vs.length ≤ sz) (hy : enc y = (enc xs[i]).take j ++ vs ++ (enc xs[i]).drop (j + vs.length)) :
    (xs.flatMap enc).take (i * sz + j) ++ vs ++ (xs.flatMap enc).drop (i * sz + j + vs.length) = (xs.set i y).flatMap enc := by
  have e1 : xs = xs.take i ++ xs[i] :: xs.drop (i + 1) := by rw [List.getElem_cons_drop, List.take_append_drop]
  have hA : ((xs.take i).flatMap enc).length = i * sz := by
    rw [ZA7 (fun x hx => hs x (List.mem_of_mem_take hx))]; simp [Nat.min_eq_left (Nat.le_of_lt hi)]
  have hx := hs _ (List.getElem_mem hi)
  have e2 : xs.set i y = xs.take i ++ y :: xs.drop (i + 1) := by rw [List.set_eq_take_append_cons_drop, if_pos hi]
  have e3 : xs.flatMap enc = (xs.take i).flatMap enc ++ (enc xs[i] ++ (xs.drop (i + 1)).flatMap enc) := by
    have h3 : xs.flatMap enc = (xs.take i ++ xs[i] :: xs.drop (i + 1)).flatMap enc := congrArg (List.flatMap enc) e1
    exact h3.trans (by rw [List.flatMap_append, List.flatMap_cons])
  rw [e2, e3, List.flatMap_append, List.flatMap_cons]
  generalize (xs.take i).flatMap enc = A at hA ⊢
  generalize (xs.drop (i + 1)).flatMap enc = B
  rw [List.take_append, List.drop_append]
  have t1 : A.take (i * sz + j) = A := List.take_of_length_le (by omega)
  have t2 : A.drop (i * sz + j + vs.length) = [] := List.drop_eq_nil_of_le (by omega)
  rw [t1, t2, hA]
  have s1 : i * sz + j - i * sz = j := by omega
  have s2 : i * sz + j + vs.length - i * sz = j + vs.length := by omega
  rw [s1, s2, List.take_append, List.drop_append]
  have t3 : j - (enc xs[i]).length = 0 := by omega
  have t4 : j + vs.length - (enc xs[i]).length = 0 := by omega
  rw [t3, t4, hy]
  simp
theorem op_storeS {T E : TypeId} {ad x : Operand} {u : Value} {i j sz : Nat} {vs : List Value} {α : Type} {enc : α → List Value} {xs : List α} {p : Addr} {l' : Atom → List Atom} (v : Value) (y : α) (hw : Region.wanted o (yielded ops a.tmps) = true) (hd : o.dst = none) (ho : o.op = .store T ad x) (S : St n fl a) (H : HSat M w0 l w)
    (had : ev fl ad = some (.pointer (some p))) (hp : p = (ZBW v i sz).add j) (hx : ev fl x = some u) [hO : HasO l v E sz α enc xs l'] (hvs : u.cells.toList = vs) (h1 : ∀ c ∈ vs, c.oneCell' = true) (hT : ZA8 P T vs.length = true) (hi : i < xs.length) (hj : j + vs.length ≤ sz) (hy : enc y = (enc xs[i]).take j ++ vs ++ (enc xs[i]).drop (j + vs.length))
    (k : ∀ a' w', St n fl a' → HSat M w0 (l' (OSl E v sz enc (xs.set i y))) w' → K a' w') : opw P ops o a w K := by
  obtain ⟨l1, l2, e1, e2⟩ := hO.at_
  have hok : IsOSl w E v sz enc xs := H.ok (OSl E v sz enc xs) (by rw [e1]; simp)
  rcases hok.row.2 with ⟨_, hn⟩ | ⟨g, cap, cur, rfl, hbase, hg, hnc, hcm, hcs, ht⟩
  · omega
  have hpos : p = ⟨g, i * sz + j, none⟩ := by rw [hp]; simp [ZBW, add_plain]
  have hle : i * sz + sz ≤ xs.length * sz := by
    have : (i + 1) * sz ≤ xs.length * sz := Nat.mul_le_mul_right _ hi
    rwa [Nat.add_mul, Nat.one_mul] at this
  have hle2 : xs.length * sz ≤ cap * sz := Nat.mul_le_mul_right _ hnc
  have hfit : i * sz + j + vs.length ≤ cur.size := by omega
  have hrun : (execOp a.eval o).run P w = .ok .skip (w.setRow g (cur.toList.take (i * sz + j) ++ vs ++ cur.toList.drop (i * sz + j + vs.length)).toArray) := by
    unfold execOp; rw [ho]; simp only [S.ev had, S.ev hx, hpos]
    have hst := run_storeCells_at P g (i * sz + j) E vs 0 cur w hg (by simpa using hfit) h1
    simp only [Nat.add_zero] at hst
    have hu : u.cells = vs.toArray := by rw [← hvs]
    simp [Instr.storeAt, Instr.sureAddr, storeVar, ZBM (sizeB_size hT), hu, hst]
  refine opw_skip hw hrun ?_
  rw [hd]
  refine k _ _ (S.putNone _) ?_
  rw [e2]
  rw [e1] at H
  have hlen := hok.row.1
  refine HSat.swap H rfl rfl (⟨rfl, rfl, rfl, by simp [World.setRow], fun q _ hq => setRow_other w g q _ (fun e => hq (by subst e; rfl)), fun q _ hq => ?_⟩) ⟨⟨?_, .inr ⟨g, cap, _, by rw [List.length_set], hbase, setRow_heap w g _ _ _ _ hg, by simpa using hnc, hcm, ?_, ?_⟩⟩, by simpa using hok.len, fun z hz => ?_⟩ (fun b hb => .inl hb)
  · by_cases hqg : q = g
    · subst hqg; rw [setRow_heap w q _ _ _ _ hg]; exact Nat.le_refl 0
    rw [setRow_other w g q _ hqg]; exact hq
  · rw [← flat_parts hok.sizes i hi j vs y hj hy]
    simp only [List.length_append, List.length_take, List.length_drop, List.length_set, hlen]; omega
  · simp only [List.size_toArray, List.length_append, List.length_take, List.length_drop, Array.length_toList]; omega
  · rw [← flat_parts hok.sizes i hi j vs y hj hy, ← ht]
    simp only [List.length_set]
    rw [List.take_append, List.take_append, List.length_append, List.length_take, List.take_take, List.take_take, List.drop_take]
    have hcl : cur.toList.length = cur.size := by simp
    have m1 : min (i * sz + j) cur.toList.length = i * sz + j := by omega
    have m2 : min (xs.length * sz) (i * sz + j) = i * sz + j := by omega
    have m3 : min (i * sz + j) (xs.length * sz) = i * sz + j := by omega
    rw [m1, m2, m3, List.take_of_length_le (l := vs) (by omega)]
  rcases List.mem_or_eq_of_mem_set hz with hz | rfl
  · exact hok.sizes z hz
  rw [hy]
  have := hok.sizes _ (List.getElem_mem hi)
  simp only [List.length_append, List.length_take, List.length_drop]; omega
theorem op_store1 {T E : TypeId} {ad x : Operand} {u : Value} {i : Nat} {α : Type} {enc : α → List Value} {xs : List α} {l' : Atom → List Atom} (v : Value) (y : α) (hw : Region.wanted o (yielded ops a.tmps) = true) (hd : o.dst = none) (ho : o.op = .store T ad x) (S : St n fl a) (H : HSat M w0 l w)
    (had : ev fl ad = some (.pointer (some (ZBW v i 1)))) (hx : ev fl x = some u) [hO : HasO l v E 1 α enc xs l'] (hvs : u.cells.toList = [u]) (h1 : u.oneCell' = true) (hT : ZA8 P T 1 = true) (hi : i < xs.length) (hy : enc y = [u])
    (k : ∀ a' w', St n fl a' → HSat M w0 (l' (OSl E v 1 enc (xs.set i y))) w' → K a' w') : opw P ops o a w K := by
  have hsz : (enc xs[i]).length = 1 := by
    obtain ⟨l1, l2, e1, e2⟩ := hO.at_
    exact (H.ok (OSl E v 1 enc xs) (by rw [e1]; simp)).sizes _ (List.getElem_mem hi)
  refine op_storeS (j := 0) v y hw hd ho S H had ?_ hx hvs (by simpa using h1) hT hi (by simp) ?_ k
  · unfold Addr.add; simp
  rw [hy]
  generalize enc xs[i] = q at hsz
  match q, hsz with
  | [c], _ => simp
theorem IsSl.flat {w : World} {v : Value} {sz : Nat} {α : Type} {enc : α → List Value} {xs : List α} (h : IsSl w v sz enc xs) (hsz : 0 < sz) (hne : xs ≠ []) : ∃ b off c, v = .slice (some ⟨b, off, none⟩) xs.length c ∧ ∀ j u, (xs.flatMap enc)[j]? = some u → w.cell? ⟨b, off + j, none⟩ = some u := by
  obtain ⟨b, off, c, hv, _⟩ := h.cells 0 (List.length_pos_iff.2 hne)
  refine ⟨b, off, c, hv, fun j u hu => ?_⟩
  have hj : j < xs.length * sz := by rw [← ZA7 h.sizes]; exact (List.getElem?_eq_some_iff.1 hu).1
  have hi : j / sz < xs.length := (Nat.div_lt_iff_lt_mul hsz).2 hj
  have hr := Nat.mod_lt j hsz
  have hf := flatMap_at h.sizes (j / sz) hi (j % sz) hr
  have ej : j / sz * sz + j % sz = j := by rw [Nat.mul_comm]; exact Nat.div_add_mod j sz
  rw [ej, hu] at hf
  obtain ⟨b', off', c', hv', hc⟩ := h.cells (j / sz) hi
  rw [hv] at hv'
  simp only [Value.slice.injEq, Option.some.injEq, Addr.mk.injEq, and_true, true_and] at hv'
  obtain ⟨⟨rfl, rfl⟩, _⟩ := hv'
  have := hc (j % sz) u hf.symm
  rwa [Nat.add_assoc, ej] at this
theorem op_appendS {T E : TypeId} {s x : Operand} {z v2 : Value} {sz by_ : Nat} {α : Type} {enc : α → List Value} {xs ys : List α} {l' : Atom → List Atom}
    (hw : Region.wanted o (yielded ops a.tmps) = true) (hd : o.dst = some d) (hn : Nat.blt d n.n = true) (ho : o.op = .call { callee := .builtin .append, args := #[s, x], argTypes := #[T, T] }) (hT : P.underlying T = some (.slice E)) (hE : infoB P E = some (z, sz, by_)) (hz : z.cells.size = sz) (hsz : Nat.blt 0 sz = true)
    (S : St n fl a) (H : HSat M w0 l w) (hs : ev fl s = some v) (hx : ev fl x = some v2) [hO : HasO l v E sz α enc xs l'] [hY : HasSl l v2 sz α enc ys] (hne : ys ≠ []) (h1 : ∀ y ∈ ys, ∀ u ∈ enc y, u.oneCell' = true) (hb : (xs.length + ys.length) * by_ ≤ 140737488355328) (hlen : xs.length + ys.length ≤ 9223372036854775807)
    (k : ∀ v' a' w', v' ≠ .slice none 0 0 → St n ((d, v') :: fl) a' → HSat M w0 (l' (OSl E v' sz enc (xs ++ ys))) w' → K a' w') : opw P ops o a w K := by
  obtain ⟨l1, l2, e1, e2⟩ := hO.at_
  have hok : IsOSl w E v sz enc xs := H.ok (OSl E v sz enc xs) (by rw [e1]; simp)
  have hsl := H.sl v2 (h := hY)
  obtain ⟨b, off, c, rfl, hf⟩ := hsl.flat (by simpa using hsz) hne
  obtain ⟨v', w', hr, hown, hfr, hnew, hnn⟩ := run_append_at (P := P) (ty := o.type) hT hE hz (by simpa using hsz) hok hsl.sizes h1 ⟨b, off, none⟩ c (fun j u hu => by rw [add_plain]; exact hf j u hu) hb hlen hne
  have hrun : (execOp a.eval o).run P w = .ok (.value v') w' := by
    unfold execOp; rw [ho]
    simp only [resolve, invoke, builtin, Sem.run_bind, Sem.run_pure, Result.andThen_ok, List.map_toArray, List.map_cons, List.map_nil, S.ev hs, S.ev hx, hr]
  refine opw_val hw hrun ?_
  rw [hd]
  refine k v' _ w' hnn (S.put hn v') ?_
  rw [e2]
  rw [e1] at H
  exact HSat.swap H rfl rfl hfr hown hnew
theorem op_appendT {T E : TypeId} {s x : Operand} {z v2 : Value} {sz by_ : Nat} {α : Type} {enc : α → List Value} {xs ys : List α} {l' : Atom → List Atom}
    (hw : Region.wanted o (yielded ops a.tmps) = true) (hd : o.dst = some d) (hn : Nat.blt d n.n = true) (ho : o.op = .call { callee := .builtin .append, args := #[s, x], argTypes := #[T, T] }) (hT : P.underlying T = some (.slice E)) (hE : infoB P E = some (z, sz, by_)) (hz : z.cells.size = sz) (hsz : Nat.blt 0 sz = true)
    (S : St n fl a) (H : HSat M w0 l w) (hs : ev fl s = some v) (hx : ev fl x = some v2) [hO : HasO l v E sz α enc xs l'] [hY : HasSl l v2 sz α enc ys] (h1 : ∀ y ∈ ys, ∀ u ∈ enc y, u.oneCell' = true) (hb : (xs.length + ys.length) * by_ ≤ 140737488355328) (hlen : xs.length + ys.length ≤ 9223372036854775807)
    (k : ∀ v' a' w', St n ((d, v') :: fl) a' → HSat M w0 (l' (OSl E v' sz enc (xs ++ ys))) w' → K a' w') : opw P ops o a w K := by
  by_cases hne : ys = []
  · subst hne
    obtain ⟨l1, l2, e1, e2⟩ := hO.at_
    have hok : IsOSl w E v sz enc xs := H.ok (OSl E v sz enc xs) (by rw [e1]; simp)
    obtain ⟨i, hinf, hzi, hsi, hbi⟩ := infoB_parts hE
    obtain ⟨p2, c2, rfl⟩ := (H.sl v2 (h := hY)).shape
    have hrun : (execOp a.eval o).run P w = .ok (.value v) w := by
      unfold execOp; rw [ho]
      have hl0 : ∀ q : Addr, (loadCells q 0).run P w = .ok #[] w := fun q => by simpa using run_loadCells_list (P := P) w q [] (by simp)
      rcases hok.row.2 with ⟨rfl, hn⟩ | ⟨g, cap, cur, rfl, hbase, hg, hnc, hcm, hcs, ht⟩
      · cases p2 <;> simp [hl0, resolve, invoke, builtin, S.ev hs, S.ev hx, Builtin.append_, run_underlying hT, sizeOf, typeInfo, hinf, Builtin.lenOf, Builtin.firstCells]
      cases p2 <;> simp [hl0, resolve, invoke, builtin, S.ev hs, S.ev hx, Builtin.append_, run_underlying hT, sizeOf, typeInfo, hinf, Builtin.lenOf, Builtin.firstCells, hnc, storeCells]
    refine opw_val hw hrun ?_
    rw [hd]
    refine k v _ w (S.put hn v) ?_
    rw [e2, List.append_nil]
    rw [e1] at H
    exact H
  exact op_appendS hw hd hn ho hT hE hz hsz S H hs hx hne h1 hb hlen (fun v' a' w' _ => k v' a' w')
def Bun (ls : List Atom) : Atom where
  own := true
  fp := fun k => ∃ x ∈ ls, x.own = true ∧ x.fp k
  ok := fun w => (∀ x ∈ ls, x.own = true ∧ x.ok w) ∧ ls.Pairwise apart
  loc := fun w w' h hok => ⟨fun x hx => ⟨(hok.1 x hx).1, x.loc w w' (fun b hb => h b ⟨x, hx, (hok.1 x hx).1, hb⟩) (hok.1 x hx).2⟩, hok.2⟩
  lt := fun w b hok ⟨x, hx, _, hb⟩ => x.lt w b (hok.1 x hx).2 hb
theorem HSat.fold {ls : List Atom} (H : HSat M w0 (ls ++ l) w) (ho : ∀ x ∈ ls, x.own = true) : HSat M w0 (Bun ls :: l) w := by
  have hs := List.pairwise_append.1 H.sep
  refine ⟨H.fr, fun z hz => ?_, fun z hz ho' b hb => ?_, List.pairwise_cons.2 ⟨fun z hz _ b hb => ?_, hs.2.1⟩⟩
  · rcases List.mem_cons.1 hz with rfl | hz
    · exact ⟨fun x hx => ⟨ho x hx, H.ok x (List.mem_append_left _ hx)⟩, hs.1⟩
    exact H.ok z (List.mem_append_right _ hz)
  · rcases List.mem_cons.1 hz with rfl | hz
    · obtain ⟨x, hx, hxo, hxb⟩ := hb
      exact H.mine x (List.mem_append_left _ hx) hxo b hxb
    exact H.mine z (List.mem_append_right _ hz) ho' b hb
  obtain ⟨x, hx, hxo, hxb⟩ := hb
  exact hs.2.2 x hx z hz (.inl hxo) b hxb
theorem HSat.unfold {ls : List Atom} (H : HSat M w0 (Bun ls :: l) w) : HSat M w0 (ls ++ l) w := by
  have hs := List.pairwise_cons.1 H.sep
  have hok := H.ok (Bun ls) (by simp)
  refine ⟨H.fr, fun z hz => ?_, fun z hz ho' b hb => ?_, List.pairwise_append.2 ⟨hok.2, hs.2, fun x hx z hz _ b hb => ?_⟩⟩
  · rcases List.mem_append.1 hz with hz | hz
    · exact (hok.1 z hz).2
    exact H.ok z (List.mem_cons_of_mem _ hz)
  · rcases List.mem_append.1 hz with hz | hz
    · exact H.mine (Bun ls) (by simp) rfl b ⟨z, hz, ho', hb⟩
    exact H.mine z (List.mem_cons_of_mem _ hz) ho' b hb
  exact hs.1 z hz (.inl rfl) b ⟨x, hx, (hok.1 x hx).1, hb⟩
theorem HSat.call1 {w' : World} {x : Atom} (H : HSat M w0 l w) (H' : HSat No w [x] w') (hx : x.own = true) : HSat M w0 (x :: l) w' := H.call H' (by simpa using hx)
theorem HSat.call2 {w' : World} {x y : Atom} (H : HSat M w0 l w) (H' : HSat No w [x, y] w') (hx : x.own = true) (hy : y.own = true) : HSat M w0 (x :: y :: l) w' := H.call H' (by simp [hx, hy])
theorem HSat.swap2 {x y : Atom} (H : HSat M w0 (x :: y :: l) w) : HSat M w0 (y :: x :: l) w := H.perm (List.Perm.swap _ _ _)
end
theorem HSat.front {M : Nat → Prop} {w0 w : World} {l r : List Atom} {l' : Atom → List Atom} (H : HSat M w0 l w) (x : Atom) [h : HasA l x r l'] : HSat M w0 (x :: r) w := H.perm h.to_
theorem HSat.front2 {M : Nat → Prop} {w0 w : World} {l r r2 : List Atom} {l' l2' : Atom → List Atom} (H : HSat M w0 l w) (x y : Atom) [h : HasA l x r l'] [h2 : HasA r y r2 l2'] : HSat M w0 (x :: y :: r2) w := H.perm (h.to_.trans (List.Perm.cons x h2.to_))
section
variable {P : Program} {ops : Array Oper} {loud tails free rest : List Nat} {ro : List Atom} {K : Act → World → Prop} {n : Sz} {d g : Nat} {fl : Slots} {a : Act} {w0 : World} {M : Nat → Prop} {l : List Atom} {pk : Oper}
def skipN (ops : Array Oper) (n : Nat) (keys : List Nat) (g : Nat) (b : Bool) (L : List Nat) : Bool :=
  match L.mapM (fun i => ops[i]?) with
  | some os => skipOK ops n keys g b os []
  | none => false
theorem mix_skip {C : World → Prop} (hst : Stable C) (hCD : ∀ w, C w → RO ro w) {b : Bool} {u : Value} (hu : u ≠ .bool b) (hgl : fl.lookup g = some u) :
    ∀ (L : List Nat) (os : List Oper) (ds : List Nat) (a : Act), L.mapM (fun i => ops[i]?) = some os → skipOK ops n.n (fl.map (·.1)) g b os ds = true → St n fl a → (∀ x ∈ ds, x < n.n ∧ a.tmps.getD x undef = undef) →
      (∀ a', St n fl a' → Mix P ops loud tails free (RO ro) K rest a' C) → Mix P ops loud tails free (RO ro) K (L ++ rest) a C := by
  intro L
  induction L with
  | nil => intro os ds a _ _ S _ k; exact k a S
  | cons i r ih =>
    intro os ds a hos hs S hds k
    rw [List.mapM_cons] at hos
    cases ho : ops[i]? with
    | none => rw [ho] at hos; cases hos
    | some o =>
      rw [ho] at hos
      cases hr : r.mapM (fun i => ops[i]?) with
      | none => rw [hr] at hos; cases hos
      | some rs =>
        rw [hr] at hos
        cases hos
        simp only [skipOK] at hs
        split at hs
        · rename_i j b' d hg hd
          simp only [Bool.and_eq_true] at hs
          obtain ⟨⟨⟨⟨h1, h2⟩, h3⟩, h4⟩, h5⟩ := hs
          have hw : Region.wanted o (yielded ops a.tmps) = false := by
            split at h1
            · rename_i gd hgd
              simp only [Bool.and_eq_true, Bool.or_eq_true, beq_iff_eq] at h1
              rcases h1.2 with ⟨e1, e2⟩ | h1'
              · subst e1; subst e2
                exact ug gd hg hgd S hgl hu h1.1
              have := hds gd (by simpa using h1')
              have Su : St n [(gd, undef)] a := ⟨S.size, S.defers, fun i v hi => by
                simp only [List.lookup] at hi
                split at hi
                · rename_i he; have e : i = gd := by simpa using he
                  subst e; cases hi; exact this.2
                cases hi⟩
              exact ug (fl := [(gd, undef)]) (v := undef) gd hg hgd Su (by simp [List.lookup]) (by simp [undef]) h1.1
            cases h1
          have hrest : Mix P ops loud tails free (RO ro) K (r ++ rest) (a.put o.dst undef) C := by
            rw [hd]
            refine ih rs (d :: ds) _ hr h5 ((S.put h4 undef).keep (by simpa using h2)) ?_ k
            intro x hx
            have hd4 : d < n.n := by simpa using h4
            rcases List.mem_cons.1 hx with rfl | hx
            · exact ⟨hd4, (S.put h4 undef).get _ undef (by simp [List.lookup])⟩
            have hne : d ≠ x := by rintro rfl; simp [hx] at h3
            refine ⟨(hds x hx).1, ?_⟩
            have := (hds x hx).2
            simp only [Act.put, Array.getD_eq_getD_getElem?] at this ⊢
            rw [Array.getElem?_setIfInBounds_ne hne]; exact this
          refine ⟨o, ho, ?_⟩
          split
          · intro w hC
            exact opw_un hw ⟨C, hst, hC, hCD, .inl (fun _ h => h), hrest⟩
          exact ⟨undef, .inr ⟨hw, rfl⟩, hrest⟩
        cases hs
theorem m_orq [ROs ro] [HasRO l ro] {B B2 : Bool} {c x y : Operand} {p : Nat} (L : List Nat) (g : Nat) (S : St n fl a) (hB : fl.lookup g = some (.bool B)) (hsk : skipN ops n.n (fl.map (·.1)) g false L = true) (hp : ops[p]? = some pk) (hlp : (loud.contains p || free.contains p) = false) (hpk : pk.op = .pick c x y) (hc : ev fl c = some (.bool B)) (hx : ev fl x = some (.bool true)) (hd : pk.dst = some d) (hn : Nat.blt d n.n = true)
    (hw : ∀ a', St n fl a' → Region.wanted pk (yielded ops a'.tmps) = true)
    (hyes : B = false → (∀ a', St n ((d, .bool (B || B2)) :: fl) a' → Mix P ops loud tails free (RO ro) K rest a' (HSat M w0 l)) → Mix P ops loud tails free (RO ro) K (L ++ p :: rest) a (HSat M w0 l))
    (k : ∀ a', St n ((d, .bool (B || B2)) :: fl) a' → Mix P ops loud tails free (RO ro) K rest a' (HSat M w0 l)) : Mix P ops loud tails free (RO ro) K (L ++ p :: rest) a (HSat M w0 l) := by
  cases B with
  | false => exact hyes rfl k
  | true =>
    unfold skipN at hsk
    split at hsk
    · rename_i os hos
      refine mix_skip stable_hsat (RO.of ROs.all) (by simp) hB L os [] a hos hsk S (by simp) fun a' S' => ?_
      exact m_w hp hlp (hw a' S') hd hn S' (v := .bool (true || B2)) (fun w _ => by unfold Yld execOp; rw [hpk]; simp only [S'.ev hc, S'.ev hx]; simp [asBool]) (fun a'' S'' => k a'' S'')
    cases hsk
theorem m_andq [ROs ro] [HasRO l ro] {B B2 : Bool} {c x y : Operand} {p : Nat} (L : List Nat) (g : Nat) (S : St n fl a) (hB : fl.lookup g = some (.bool B)) (hsk : skipN ops n.n (fl.map (·.1)) g true L = true) (hp : ops[p]? = some pk) (hlp : (loud.contains p || free.contains p) = false) (hpk : pk.op = .pick c x y) (hc : ev fl c = some (.bool B)) (hy : ev fl y = some (.bool false)) (hd : pk.dst = some d) (hn : Nat.blt d n.n = true)
    (hw : ∀ a', St n fl a' → Region.wanted pk (yielded ops a'.tmps) = true)
    (hyes : B = true → (∀ a', St n ((d, .bool (B && B2)) :: fl) a' → Mix P ops loud tails free (RO ro) K rest a' (HSat M w0 l)) → Mix P ops loud tails free (RO ro) K (L ++ p :: rest) a (HSat M w0 l))
    (k : ∀ a', St n ((d, .bool (B && B2)) :: fl) a' → Mix P ops loud tails free (RO ro) K rest a' (HSat M w0 l)) : Mix P ops loud tails free (RO ro) K (L ++ p :: rest) a (HSat M w0 l) := by
  cases B with
  | true => exact hyes rfl k
  | false =>
    unfold skipN at hsk
    split at hsk
    · rename_i os hos
      refine mix_skip stable_hsat (RO.of ROs.all) (by simp) hB L os [] a hos hsk S (by simp) fun a' S' => ?_
      exact m_w hp hlp (hw a' S') hd hn S' (v := .bool (false && B2)) (fun w _ => by unfold Yld execOp; rw [hpk]; simp only [S'.ev hc, S'.ev hy]; simp [asBool]) (fun a'' S'' => k a'' S'')
    cases hsk
instance HasBlk.app (l1 l : List Atom) (b : Nat) (o : Obj) (l' : Obj → List Atom) [h : HasBlk l b o l'] : HasBlk (l1 ++ l) b o (fun o' => l1 ++ l' o') := by
  obtain ⟨k1, k2, h1, h2⟩ := h.at_
  exact ⟨l1 ++ k1, k2, by simp [h1], fun o' => by simp [h2]⟩
instance HasSl.app (l1 l : List Atom) (v : Value) (sz : Nat) (α : Type) (enc : α → List Value) (xs : List α) [h : HasSl l v sz α enc xs] : HasSl (l1 ++ l) v sz α enc xs := ⟨fun w hw => h.at_ w (fun y hy => hw y (List.mem_append_right _ hy))⟩
instance HasO.app (l1 l : List Atom) (e : TypeId) (v : Value) (sz : Nat) (α : Type) (enc : α → List Value) (xs : List α) (l' : Atom → List Atom) [h : HasO l v e sz α enc xs l'] : HasO (l1 ++ l) v e sz α enc xs (fun y => l1 ++ l' y) := by
  obtain ⟨k1, k2, h1, h2⟩ := h.at_
  exact ⟨l1 ++ k1, k2, by simp [h1], fun y => by simp [h2]⟩
end
end
section
section
variable {κ β : Type} [DecidableEq κ]
def upd (m : κ → Option β) (k : κ) (v : β) : κ → Option β := fun x => if x = k then some v else m x
def idxIn (k : κ) : List (κ × β) → Nat → Option (Nat × β)
  | [], _ => none
  | p :: r, i => if k = p.1 then some (i, p.2) else idxIn k r (i + 1)
theorem idxIn_lookup (k : κ) : ∀ (ps : List (κ × β)) (i : Nat), (idxIn k ps i).map (·.2) = ps.lookup k
  | [], _ => rfl
  | p :: r, i => by
    obtain ⟨a, b⟩ := p
    simp only [idxIn, List.lookup]
    by_cases h : k = a
    · subst h; simp
    rw [if_neg h, idxIn_lookup k r (i + 1)]
    have : (k == a) = false := by simp [h]
    rw [this]
theorem idxIn_at (k : κ) : ∀ (ps : List (κ × β)) (i j : Nat) (v : β), idxIn k ps i = some (j, v) → i ≤ j ∧ ps[j - i]? = some (k, v)
  | [], _, _, _, h => by cases h
  | p :: r, i, j, v, h => by
    obtain ⟨a, b⟩ := p
    simp only [idxIn] at h
    split at h
    · rename_i e; subst e; cases h; simp
    obtain ⟨h1, h2⟩ := idxIn_at k r (i + 1) j v h
    refine ⟨by omega, ?_⟩
    have : j - i = (j - (i + 1)) + 1 := by omega
    rw [this]; simpa using h2
theorem lookup_set (k : κ) (v : β) : ∀ (ps : List (κ × β)) (j : Nat) (u : β), ps[j]? = some (k, u) → (ps.map (·.1)).Nodup → ∀ x, (ps.set j (k, v)).lookup x = upd (fun y => ps.lookup y) k v x
  | [], _, _, h, _, _ => by simp at h
  | (a, b) :: r, 0, u, h, hn, x => by
    simp only [List.getElem?_cons_zero, Option.some.injEq, Prod.mk.injEq] at h
    obtain ⟨rfl, rfl⟩ := h
    simp only [List.set_cons_zero, List.lookup, upd]
    by_cases hx : x = a
    · subst hx; simp
    have : (x == a) = false := by simp [hx]
    rw [this, if_neg hx]
  | (a, b) :: r, j + 1, u, h, hn, x => by
    simp only [List.getElem?_cons_succ] at h
    have hn' := List.nodup_cons.1 hn
    have ih := lookup_set k v r j u h hn'.2 x
    have hka : k ≠ a := by
      rintro rfl
      exact hn'.1 (List.mem_map.2 ⟨_, List.mem_of_getElem? h, rfl⟩)
    simp only [List.set_cons_succ, List.lookup, ih, upd]
    by_cases hx : x = k
    · subst hx
      have : (x == a) = false := by simp [hka]
      simp [this]
    simp [hx]
theorem lookup_snoc (k : κ) (v : β) : ∀ (ps : List (κ × β)), ps.lookup k = none → ∀ x, (ps ++ [(k, v)]).lookup x = upd (fun y => ps.lookup y) k v x
  | [], _, x => by
    by_cases hx : x = k
    · subst hx; simp [List.lookup, upd]
    have : (x == k) = false := by simp [hx]
    simp [List.lookup, upd, this, hx]
  | (a, b) :: r, h, x => by
    have hka : (k == a) = false := by
      cases hc : (k == a) with
      | false => rfl
      | true => simp [List.lookup, hc] at h
    have h' : r.lookup k = none := by simpa [List.lookup, hka] using h
    have ih := lookup_snoc k v r h' x
    simp only [List.cons_append, List.lookup, ih, upd]
    by_cases hx : x = k
    · subst hx; simp [hka]
    simp [hx]
theorem lookup_none_notin {k : κ} : ∀ {ps : List (κ × β)}, ps.lookup k = none → k ∉ ps.map (·.1)
  | [], _ => by simp
  | (a, b) :: r, h => by
    have hka : (k == a) = false := by
      cases hc : (k == a) with
      | false => rfl
      | true => simp [List.lookup, hc] at h
    have h' : r.lookup k = none := by simpa [List.lookup, hka] using h
    have := lookup_none_notin h'
    simp only [List.map_cons, List.mem_cons, not_or]
    exact ⟨by simpa using hka, this⟩
def MapRep (es : Array MapEntry) (kenc : κ → Value) (enc : β → Value) (ps : List (κ × β)) : Prop := es.toList.map (fun e => (e.key, e.val)) = ps.map (fun p => (kenc p.1, enc p.2))
def Borns (es : Array MapEntry) (clock : Nat) : Prop := (∀ e ∈ es.toList, e.born < clock) ∧ (es.toList.map (·.born)).Nodup
theorem Borns.push {es : Array MapEntry} {clock : Nat} (h : Borns es clock) (k v : Value) : Borns (es.push { key := k, val := v, born := clock }) (clock + 1) := by
  refine ⟨fun e he => ?_, ?_⟩
  · rw [Array.toList_push] at he
    rcases List.mem_append.1 he with he | he
    · have := h.1 e he; omega
    simp at he; subst he; simp
  rw [Array.toList_push, List.map_append, List.nodup_append]
  refine ⟨h.2, by simp, ?_⟩
  intro x hx y hy
  obtain ⟨e, he, rfl⟩ := List.mem_map.1 hx
  simp at hy; subst hy
  have := h.1 e he; omega
theorem Borns.modify {es : Array MapEntry} {clock : Nat} (h : Borns es clock) (j : Nat) (f : MapEntry → MapEntry) (hf : ∀ e, (f e).born = e.born) : Borns (es.modify j f) clock := by
  have e : ((es.modify j f).toList.map (·.born)) = es.toList.map (·.born) := by
    apply List.ext_getElem?
    intro i
    simp only [List.getElem?_map, Array.getElem?_toList, Array.getElem?_modify]
    by_cases hji : j = i
    · subst hji
      cases es[j]? <;> simp [hf]
    simp [hji]
  refine ⟨fun x hx => ?_, by rw [e]; exact h.2⟩
  have hx' : x.born ∈ es.toList.map (·.born) := by rw [← e]; exact List.mem_map.2 ⟨x, hx, rfl⟩
  obtain ⟨y, hy, hxy⟩ := List.mem_map.1 hx'
  rw [← hxy]; exact h.1 y hy
structure IsMap (w : World) (b : Nat) (kenc : κ → Value) (enc : β → Value) (m : κ → Option β) (n : Nat) : Prop where
  ok : ∃ es clock ps, w.heap[b]? = some (.map es clock) ∧ MapRep es kenc enc ps ∧ (ps.map (·.1)).Nodup ∧ (∀ k, m k = ps.lookup k) ∧ ps.length = n ∧ Borns es clock
def MapA (b : Nat) (kenc : κ → Value) (enc : β → Value) (m : κ → Option β) (n : Nat) : Atom where
  own := true
  fp := (· = b)
  ok := fun w => IsMap w b kenc enc m n
  loc := fun w w' h hok => ⟨by obtain ⟨es, c, ps, h1, h2⟩ := hok.ok; exact ⟨es, c, ps, (h b rfl).trans h1, h2⟩⟩
  lt := fun w k hok hk => by subst hk; obtain ⟨es, c, ps, h1, _⟩ := hok.ok; exact (Array.getElem?_eq_some_iff.1 h1).1
class HasMap (l : List Atom) (b : Nat) (κ β : outParam Type) (inst : outParam (DecidableEq κ)) (kenc : outParam (κ → Value)) (enc : outParam (β → Value)) (m : outParam (κ → Option β)) (n : outParam Nat) (l' : outParam (Atom → List Atom)) : Prop where
  at_ : ∃ l1 l2, l = l1 ++ MapA b kenc enc m n :: l2 ∧ ∀ y, l' y = l1 ++ y :: l2
instance (priority := 2000) HasMap.here (l : List Atom) (b : Nat) (κ β : Type) (inst : DecidableEq κ) (kenc : κ → Value) (enc : β → Value) (m : κ → Option β) (n : Nat) : HasMap (MapA b kenc enc m n :: l) b κ β inst kenc enc m n (fun y => y :: l) := ⟨[], l, rfl, fun _ => rfl⟩
instance HasMap.there (l : List Atom) (x : Atom) (b : Nat) (κ β : Type) (inst : DecidableEq κ) (kenc : κ → Value) (enc : β → Value) (m : κ → Option β) (n : Nat) (l' : Atom → List Atom) [h : HasMap l b κ β inst kenc enc m n l'] : HasMap (x :: l) b κ β inst kenc enc m n (fun y => x :: l' y) := by
  obtain ⟨l1, l2, h1, h2⟩ := h.at_
  exact ⟨x :: l1, l2, by simp [h1], fun y => by simp [h2]⟩
class RdMap (l : List Atom) (b : Nat) (κ β : outParam Type) (inst : outParam (DecidableEq κ)) (kenc : outParam (κ → Value)) (enc : outParam (β → Value)) (m : outParam (κ → Option β)) (n : outParam Nat) : Prop where
  at_ : ∀ w, (∀ x ∈ l, x.ok w) → IsMap w b kenc enc m n
instance (priority := 2000) RdMap.here (l : List Atom) (b : Nat) (κ β : Type) (inst : DecidableEq κ) (kenc : κ → Value) (enc : β → Value) (m : κ → Option β) (n : Nat) : RdMap (MapA b kenc enc m n :: l) b κ β inst kenc enc m n := ⟨fun w h => h (MapA b kenc enc m n) (List.mem_cons_self ..)⟩
instance (priority := 2000) RdMap.hereRo (l : List Atom) (b : Nat) (κ β : Type) (inst : DecidableEq κ) (kenc : κ → Value) (enc : β → Value) (m : κ → Option β) (n : Nat) : RdMap (Atom.ro (MapA b kenc enc m n) :: l) b κ β inst kenc enc m n := ⟨fun w h => h (Atom.ro (MapA b kenc enc m n)) (List.mem_cons_self ..)⟩
instance RdMap.there (l : List Atom) (x : Atom) (b : Nat) (κ β : Type) (inst : DecidableEq κ) (kenc : κ → Value) (enc : β → Value) (m : κ → Option β) (n : Nat) [h : RdMap l b κ β inst kenc enc m n] : RdMap (x :: l) b κ β inst kenc enc m n := ⟨fun w hw => h.at_ w (fun y hy => hw y (List.mem_cons_of_mem _ hy))⟩
instance (priority := 500) RdMap.app (l1 l : List Atom) (b : Nat) (κ β : Type) (inst : DecidableEq κ) (kenc : κ → Value) (enc : β → Value) (m : κ → Option β) (n : Nat) [h : RdMap l b κ β inst kenc enc m n] : RdMap (l1 ++ l) b κ β inst kenc enc m n := ⟨fun w hw => h.at_ w (fun y hy => hw y (List.mem_append_right _ hy))⟩
instance HasMap.app (l1 l : List Atom) (b : Nat) (κ β : Type) (inst : DecidableEq κ) (kenc : κ → Value) (enc : β → Value) (m : κ → Option β) (n : Nat) (l' : Atom → List Atom) [h : HasMap l b κ β inst kenc enc m n l'] : HasMap (l1 ++ l) b κ β inst kenc enc m n (fun y => l1 ++ l' y) := by
  obtain ⟨k1, k2, h1, h2⟩ := h.at_
  exact ⟨l1 ++ k1, k2, by simp [h1], fun y => by simp [h2]⟩
structure IsMapP (w : World) (b : Nat) (kenc : κ → Value) (enc : β → Value) (m : κ → Option β) (n s : Nat) (k : κ) : Prop where
  ok : ∃ (v : β) (es : Array MapEntry) (clock : Nat) (ps : List (κ × β)), w.heap[b]? = some (.map es clock) ∧ MapRep es kenc enc ps ∧ (ps.map (·.1)).Nodup ∧ (∀ x, upd m k v x = ps.lookup x) ∧ ps.length = n ∧ Borns es clock ∧ ∃ (j : Nat) (e : MapEntry), es[j]? = some e ∧ e.born = s ∧ ∃ u0, ps[j]? = some (k, u0)
def MapP (b : Nat) (kenc : κ → Value) (enc : β → Value) (m : κ → Option β) (n s : Nat) (k : κ) : Atom where
  own := true
  fp := (· = b)
  ok := fun w => IsMapP w b kenc enc m n s k
  loc := fun w w' h hok => ⟨by obtain ⟨v, es, c, ps, h1, h2⟩ := hok.ok; exact ⟨v, es, c, ps, (h b rfl).trans h1, h2⟩⟩
  lt := fun w k hok hk => by subst hk; obtain ⟨v, es, c, ps, h1, _⟩ := hok.ok; exact (Array.getElem?_eq_some_iff.1 h1).1
class HasMapP (l : List Atom) (b : Nat) (κ β : outParam Type) (inst : outParam (DecidableEq κ)) (kenc : outParam (κ → Value)) (enc : outParam (β → Value)) (m : outParam (κ → Option β)) (n s : outParam Nat) (k : outParam κ) (l' : outParam (Atom → List Atom)) : Prop where
  at_ : ∃ l1 l2, l = l1 ++ MapP b kenc enc m n s k :: l2 ∧ ∀ y, l' y = l1 ++ y :: l2
instance (priority := 2000) HasMapP.here (l : List Atom) (b : Nat) (κ β : Type) (inst : DecidableEq κ) (kenc : κ → Value) (enc : β → Value) (m : κ → Option β) (n s : Nat) (k : κ) : HasMapP (MapP b kenc enc m n s k :: l) b κ β inst kenc enc m n s k (fun y => y :: l) := ⟨[], l, rfl, fun _ => rfl⟩
instance HasMapP.there (l : List Atom) (x : Atom) (b : Nat) (κ β : Type) (inst : DecidableEq κ) (kenc : κ → Value) (enc : β → Value) (m : κ → Option β) (n s : Nat) (k : κ) (l' : Atom → List Atom) [h : HasMapP l b κ β inst kenc enc m n s k l'] : HasMapP (x :: l) b κ β inst kenc enc m n s k (fun y => x :: l' y) := by
  obtain ⟨l1, l2, h1, h2⟩ := h.at_
  exact ⟨x :: l1, l2, by simp [h1], fun y => by simp [h2]⟩
theorem findNow_rep {d : TypeDesc} {kenc : κ → Value} {enc : β → Value} (hs : ∀ a b, Instr.sameNow d (kenc a) (kenc b) = some (decide (a = b))) (k : κ) :
    ∀ (es : List MapEntry) (ps : List (κ × β)) (i : Nat), es.map (fun e => (e.key, e.val)) = ps.map (fun p => (kenc p.1, enc p.2)) → Instr.findNow d (kenc k) es i = some ((idxIn k ps i).map fun x => (x.1, enc x.2))
  | [], [], _, _ => rfl
  | [], _ :: _, _, h => by simp at h
  | _ :: _, [], _, h => by simp at h
  | e :: es, p :: ps, i, h => by
    simp only [List.map_cons, List.cons.injEq, Prod.mk.injEq] at h
    obtain ⟨⟨h1, h2⟩, h3⟩ := h
    simp only [Instr.findNow, h1, hs, idxIn]
    by_cases hk : k = p.1
    · simp [hk, h2]
    simp only [decide_eq_false hk, if_neg hk]
    exact findNow_rep hs k es ps (i + 1) h3
end
structure KeyOK (P : Program) (T : TypeId) {κ : Type} [DecidableEq κ] (kenc : κ → Value) : Prop where
  find : ∀ {β : Type} (enc : β → Value) (k : κ) (es : Array MapEntry) (ps : List (κ × β)) (w : World), MapRep es kenc enc ps → (Instr.findKey T (kenc k) es.toList).run P w = .ok ((idxIn k ps 0).map fun x => (x.1, enc x.2)) w
  check : ∀ (e : Bool) (a : κ) (w : World), (Instr.checkKey e 10000 T (kenc a)).run P w = .ok () w
  bits : ∀ a, Instr.sameBits 10000 (kenc a) (kenc a) = true
theorem find_now {P : Program} {T : TypeId} {κ : Type} [DecidableEq κ] {kenc : κ → Value} (h : ∃ d, P.underlying T = some d ∧ ∀ a b, Instr.sameNow d (kenc a) (kenc b) = some (decide (a = b))) {β : Type} (enc : β → Value) (k : κ) (es : Array MapEntry) (ps : List (κ × β)) (w : World) (hr : MapRep es kenc enc ps) :
    (Instr.findKey T (kenc k) es.toList).run P w = .ok ((idxIn k ps 0).map fun x => (x.1, enc x.2)) w := by
  obtain ⟨d, hd, hs⟩ := h
  simp [Instr.findKey, run_underlying hd, findNow_rep hs k es.toList ps 0 hr]
theorem checkKey_int {P : Program} {T : TypeId} {k : IntKind} (h : P.underlying T = some (.int k)) (e : Bool) (n : Nat) (a : Int) (w : World) : (Instr.checkKey e (n + 1) T (.int k a)).run P w = .ok () w := by
  simp [Instr.checkKey, run_underlying h]
theorem sameBits_int (k : IntKind) (n : Nat) (a : Int) : Instr.sameBits (n + 1) (.int k a) (.int k a) = true := by simp [Instr.sameBits]
theorem ZAv {P : Program} {T : TypeId} {k : IntKind} (h : P.underlying T = some (.int k)) : KeyOK P T (fun n : Int => .int k n) :=
  ⟨find_now ⟨_, h, fun a b => by simp [Instr.sameNow]; rfl⟩, fun e a w => checkKey_int h e 9999 a w, fun a => sameBits_int k 9999 a⟩
theorem findAsking_rep {P : Program} {T : TypeId} {κ β : Type} [DecidableEq κ] {kenc : κ → Value} {enc : β → Value} (w : World) (hs : ∀ a b, (Op.equal T (kenc a) (kenc b)).run P w = .ok (decide (a = b)) w) (k : κ) :
    ∀ (es : List MapEntry) (ps : List (κ × β)) (i : Nat), es.map (fun e => (e.key, e.val)) = ps.map (fun p => (kenc p.1, enc p.2)) → (Instr.findAsking T (kenc k) es i).run P w = .ok ((idxIn k ps i).map fun x => (x.1, enc x.2)) w
  | [], [], _, _ => rfl
  | [], _ :: _, _, h => by simp at h
  | _ :: _, [], _, h => by simp at h
  | e :: es, p :: ps, i, h => by
    simp only [List.map_cons, List.cons.injEq, Prod.mk.injEq] at h
    obtain ⟨⟨h1, h2⟩, h3⟩ := h
    simp only [Instr.findAsking, h1, Sem.run_bind, hs, idxIn, Result.andThen_ok]
    by_cases hk : k = p.1
    · simp [hk, h2]
    simp only [decide_eq_false hk, if_neg hk, Bool.false_eq_true, if_false]
    exact findAsking_rep w hs k es ps (i + 1) h3
theorem find_asking {P : Program} {T : TypeId} {κ : Type} [DecidableEq κ] {kenc : κ → Value} {d : TypeDesc} (hd : P.underlying T = some d) (hn : ∀ a b, Instr.sameNow d (kenc a) (kenc b) = none) (hs : ∀ w a b, (Op.equal T (kenc a) (kenc b)).run P w = .ok (decide (a = b)) w)
    {β : Type} (enc : β → Value) (k : κ) (es : Array MapEntry) (ps : List (κ × β)) (w : World) (hr : MapRep es kenc enc ps) :
    (Instr.findKey T (kenc k) es.toList).run P w = .ok ((idxIn k ps 0).map fun x => (x.1, enc x.2)) w := by
  have h := findAsking_rep w (hs w) k es.toList ps 0 hr
  unfold MapRep at hr
  revert hr h
  cases hes : es.toList with
  | nil =>
    intro hr h
    cases ps with
    | nil => simp [Instr.findKey, run_underlying hd, Instr.findNow, idxIn]
    | cons p r => simp at hr
  | cons e r =>
    intro hr h
    cases ps with
    | nil => simp at hr
    | cons p r2 =>
      simp only [List.map_cons, List.cons.injEq, Prod.mk.injEq] at hr
      have hnow : Instr.findNow d (kenc k) (e :: r) 0 = none := by simp only [Instr.findNow, hr.1.1, hn]
      simp only [Instr.findKey, Sem.run_bind, run_underlying hd, Result.andThen_ok, hnow]
      exact h
def ints4B (P : Program) (fs : Array Field) : Bool := match fs.toList with
  | [a, b, c, d] => [(a, 0), (b, 1), (c, 2), (d, 3)].all fun x => x.1.name != "_" && x.1.offset == x.2 && (match P.underlying x.1.type with | some (.int .i64) => true | _ => false)
  | _ => false
def encI4 (s : Int × Int × Int × Int) : Value := .agg #[.int .i64 s.1, .int .i64 s.2.1, .int .i64 s.2.2.1, .int .i64 s.2.2.2]
theorem keyOK_i4 {P : Program} {T : TypeId} {fs : Array Field} (hT : P.underlying T = some (.struct fs)) (hp : P.stoodInHeld T = false) (hf : ints4B P fs = true) : KeyOK P T encI4 := by
  obtain ⟨fl⟩ := fs
  unfold ints4B at hf
  simp only at hf
  split at hf
  · rename_i fa fb fc fd
    simp only [List.all_cons, List.all_nil, Bool.and_true, Bool.and_eq_true, bne_iff_ne, ne_eq, beq_iff_eq] at hf
    have hu : ∀ {t : TypeId}, (match P.underlying t with | some (.int .i64) => true | _ => false) = true → P.underlying t = some (.int .i64) := by
      intro t h; split at h
      · assumption
      cases h
    have hsc : ∀ {t : TypeId}, P.underlying t = some (.int .i64) → ZAl P t = true := by intro t h; simp [ZAl, h]
    obtain ⟨⟨⟨a1, a2⟩, a3⟩, ⟨⟨b1, b2⟩, b3⟩, ⟨⟨c1, c2⟩, c3⟩, ⟨d1, d2⟩, d3⟩ := hf
    have a3 := hu a3
    have b3 := hu b3
    have c3 := hu c3
    have d3 := hu d3
    have pt : ∀ (w : World) {t : TypeId} (h : P.underlying t = some (.int .i64)) (cs : Array Value) (o : Nat) (v : Value), cs[o]? = some v → (part t cs o).run P w = .ok v w := by
      intro w t h cs o v hv
      simp [part, run_isAgg_scalar (hsc h), hv]
    have eqi : ∀ (w : World) (n : Nat) {t : TypeId} (h : P.underlying t = some (.int .i64)) (x y : Int), (Op.equalIn (n + 1) t (.int .i64 x) (.int .i64 y)).run P w = .ok (x == y) w := by
      intro w n t h x y
      simp [Op.equalIn, run_underlying h]
    refine ⟨find_asking hT (fun a b => rfl) (fun w a b => ?_), fun e s w => ?_, fun s => ?_⟩
    · have hfs : P.fieldsOf T = { toList := [fa, fb, fc, fd] } := by simp [Program.fieldsOf, hT]
      obtain ⟨x1, x2, x3, x4⟩ := a
      obtain ⟨y1, y2, y3, y4⟩ := b
      unfold Op.equal Op.maxDepth
      simp only [encI4]
      rw [run_equalIn_struct w 9999 T _ _ (by rw [hfs]; exact hT) hp, hfs]
      have px1 : (part fa.type #[Value.int .i64 x1, .int .i64 x2, .int .i64 x3, .int .i64 x4] fa.offset).run P w = .ok (.int .i64 x1) w := pt w a3 _ _ _ (by rw [a2]; rfl)
      have px2 : (part fb.type #[Value.int .i64 x1, .int .i64 x2, .int .i64 x3, .int .i64 x4] fb.offset).run P w = .ok (.int .i64 x2) w := pt w b3 _ _ _ (by rw [b2]; rfl)
      have px3 : (part fc.type #[Value.int .i64 x1, .int .i64 x2, .int .i64 x3, .int .i64 x4] fc.offset).run P w = .ok (.int .i64 x3) w := pt w c3 _ _ _ (by rw [c2]; rfl)
      have px4 : (part fd.type #[Value.int .i64 x1, .int .i64 x2, .int .i64 x3, .int .i64 x4] fd.offset).run P w = .ok (.int .i64 x4) w := pt w d3 _ _ _ (by rw [d2]; rfl)
      have py1 : (part fa.type #[Value.int .i64 y1, .int .i64 y2, .int .i64 y3, .int .i64 y4] fa.offset).run P w = .ok (.int .i64 y1) w := pt w a3 _ _ _ (by rw [a2]; rfl)
      have py2 : (part fb.type #[Value.int .i64 y1, .int .i64 y2, .int .i64 y3, .int .i64 y4] fb.offset).run P w = .ok (.int .i64 y2) w := pt w b3 _ _ _ (by rw [b2]; rfl)
      have py3 : (part fc.type #[Value.int .i64 y1, .int .i64 y2, .int .i64 y3, .int .i64 y4] fc.offset).run P w = .ok (.int .i64 y3) w := pt w c3 _ _ _ (by rw [c2]; rfl)
      have py4 : (part fd.type #[Value.int .i64 y1, .int .i64 y2, .int .i64 y3, .int .i64 y4] fd.offset).run P w = .ok (.int .i64 y4) w := pt w d3 _ _ _ (by rw [d2]; rfl)
      simp only [Op.eqFields, a1, b1, c1, d1, ne_eq, not_false_eq_true, if_true, Sem.run_bind, px1, px2, px3, px4, py1, py2, py3, py4, Result.andThen_ok, eqi w 9998 a3, eqi w 9998 b3, eqi w 9998 c3, eqi w 9998 d3]
      have key : decide ((x1, x2, x3, x4) = (y1, y2, y3, y4)) = ((x1 == y1) && ((x2 == y2) && ((x3 == y3) && (x4 == y4)))) := by
        rw [Bool.eq_iff_iff]; simp
      rw [key]
      cases g1 : x1 == y1 <;> simp only [Bool.not_true, Bool.not_false, Bool.false_eq_true, if_true, if_false, Sem.run_pure, Bool.false_and, Bool.true_and, Sem.run_bind, px1, px2, px3, px4, py1, py2, py3, py4, Result.andThen_ok, eqi w 9998 b3, eqi w 9998 c3, eqi w 9998 d3]
      cases g2 : x2 == y2 <;> simp only [Bool.not_true, Bool.not_false, Bool.false_eq_true, if_true, if_false, Sem.run_pure, Bool.false_and, Bool.true_and, Sem.run_bind, px1, px2, px3, px4, py1, py2, py3, py4, Result.andThen_ok, eqi w 9998 c3, eqi w 9998 d3]
      cases g3 : x3 == y3 <;> simp only [Bool.not_true, Bool.not_false, Bool.false_eq_true, if_true, if_false, Sem.run_pure, Bool.false_and, Bool.true_and, Sem.run_bind, px1, px2, px3, px4, py1, py2, py3, py4, Result.andThen_ok, eqi w 9998 d3]
      cases g4 : x4 == y4 <;> simp
    · obtain ⟨x1, x2, x3, x4⟩ := s
      simp only [encI4]
      unfold Instr.checkKey
      simp only [Sem.run_bind, run_underlying hT, Result.andThen_ok]
      simp only [← Array.forIn_toList, List.forIn_cons, List.forIn_nil, Sem.run_bind, a1, b1, c1, d1, ne_eq, not_false_eq_true, if_true, pt w a3 #[.int .i64 x1, .int .i64 x2, .int .i64 x3, .int .i64 x4] fa.offset (.int .i64 x1) (by rw [a2]; rfl),
        pt w b3 #[.int .i64 x1, .int .i64 x2, .int .i64 x3, .int .i64 x4] fb.offset (.int .i64 x2) (by rw [b2]; rfl), pt w c3 #[.int .i64 x1, .int .i64 x2, .int .i64 x3, .int .i64 x4] fc.offset (.int .i64 x3) (by rw [c2]; rfl),
        pt w d3 #[.int .i64 x1, .int .i64 x2, .int .i64 x3, .int .i64 x4] fd.offset (.int .i64 x4) (by rw [d2]; rfl), Result.andThen_ok, checkKey_int a3 e 9998, checkKey_int b3 e 9998, checkKey_int c3 e 9998, checkKey_int d3 e 9998, Sem.run_pure]
    obtain ⟨x1, x2, x3, x4⟩ := s
    simp [encI4, Instr.sameBits]
  cases hf
section
variable {κ β : Type} [DecidableEq κ]
theorem run_findKey {P : Program} {T : TypeId} {kenc : κ → Value} {enc : β → Value} (K : KeyOK P T kenc) (k : κ) {es : Array MapEntry} {ps : List (κ × β)} (h : MapRep es kenc enc ps) (w : World) :
    (Instr.findKey T (kenc k) es.toList).run P w = .ok ((idxIn k ps 0).map fun x => (x.1, enc x.2)) w := K.find enc k es ps w h
end
section
variable {κ β : Type} {inst : DecidableEq κ} {P : Program} {o : Oper} {n : Sz} {fl : Slots} {a : Act} {w w0 : World} {v : Value} {M : Nat → Prop} {l : List Atom} {ops : Array Oper} {d : Nat} {K : Act → World → Prop}
theorem HSat.mp (H : HSat M w0 l w) (b : Nat) {kenc : κ → Value} {enc : β → Value} {m : κ → Option β} {c : Nat} [h : RdMap l b κ β inst kenc enc m c] : IsMap w b kenc enc m c := h.at_ w H.ok
theorem ZBK {κ β : Type} [inst : DecidableEq κ] {T : TypeId} (kenc : κ → Value) (enc : β → Value) (hw : Region.wanted o (yielded ops a.tmps) = true) (hd : o.dst = some d) (hn : Nat.blt d n.n = true) (ho : o.op = .makeMap T none) (S : St n fl a) (H : HSat M w0 l w)
    (k : ∀ b a' w', St n ((d, .map (some b)) :: fl) a' → HSat M w0 (MapA b kenc enc (fun _ => none) 0 :: l) w' → K a' w') : opw P ops o a w K := by
  have hrun : (execOp a.eval o).run P w = .ok (.value (.map (some w.heap.size))) (w.alloc (.map #[] 0)) := by
    unfold execOp; rw [ho]; rfl
  refine opw_val hw hrun ?_
  rw [hd]
  refine k _ _ _ (S.put hn _) ?_
  have H' := H.alloc (.map #[] 0) trivial
  exact H'.conv (fun _ => rfl) (fun _ h => h) (fun hok => ⟨⟨#[], 0, [], hok, rfl, by simp, fun _ => rfl, rfl, by simp [Borns]⟩⟩)
theorem run_lookup_map {T kt et : TypeId} {kenc : κ → Value} {enc : β → Value} {m : κ → Option β} {c : Nat} (b : Nat) (k : κ) (z0 : β) {z : Value} {sz by_ : Nat} (hT : P.underlying T = some (.map kt et)) (KO : KeyOK P kt kenc) (hE : infoB P et = some (z, sz, by_)) (hz : enc z0 = z) (hm : IsMap w b kenc enc m c) (ok : Bool) :
    (Instr.lookup T (.map (some b)) (kenc k) ok).run P w = .ok (if ok = true then .tuple #[enc ((m k).getD z0), .bool (m k).isSome] else enc ((m k).getD z0)) w := by
  obtain ⟨es, clock, ps, h1, h2, h3, h4, h5, h6⟩ := hm.ok
  obtain ⟨i, hinf, hzi, hsi, hbi⟩ := infoB_parts hE
  have hzv : (zeroValue et).run P w = .ok z w := by simp [zeroValue, typeInfo, hinf, hzi]
  have hf := run_findKey (P := P) KO k h2 w
  have hl := idxIn_lookup k ps 0
  have hg : (getObj b).run P w = .ok (.map es clock) w := by simp [getObj, Sem.run, h1]
  rw [h4 k]
  cases hi : idxIn k ps 0 with
  | none =>
    rw [hi] at hf hl
    simp only [Option.map_none] at hf hl
    rw [← hl]
    simp [Instr.lookup, run_underlying hT, hg, KO.check, hf, hzv, hz]
  | some x =>
    rw [hi] at hf hl
    simp only [Option.map_some] at hf hl
    rw [← hl]
    simp [Instr.lookup, run_underlying hT, hg, KO.check, hf]
theorem y_lookup {T kt et : TypeId} {x ix : Operand} {b : Nat} {kenc : κ → Value} {enc : β → Value} {m : κ → Option β} {c : Nat} (k : κ) (z0 : β) {z : Value} {sz by_ : Nat} (ho : o.op = .lookup T x ix false) (hT : P.underlying T = some (.map kt et)) (hE : infoB P et = some (z, sz, by_)) (S : St n fl a) (H : HSat M w0 l w)
    (hx : ev fl x = some (.map (some b))) [h : RdMap l b κ β inst kenc enc m c] (KO : KeyOK P kt kenc) (hi : ev fl ix = some (kenc k)) (hz : enc z0 = z) : Yld P o a w (enc ((m k).getD z0)) := by
  unfold Yld execOp; rw [ho]; simp only [S.ev hx, S.ev hi]
  simp [run_lookup_map b k z0 hT KO hE hz (H.mp b (h := h)) false]
theorem y_lookupok {T kt et : TypeId} {x ix : Operand} {b : Nat} {kenc : κ → Value} {enc : β → Value} {m : κ → Option β} {c : Nat} (k : κ) (z0 : β) {z : Value} {sz by_ : Nat} (ho : o.op = .lookup T x ix true) (hT : P.underlying T = some (.map kt et)) (hE : infoB P et = some (z, sz, by_)) (S : St n fl a) (H : HSat M w0 l w)
    (hx : ev fl x = some (.map (some b))) [h : RdMap l b κ β inst kenc enc m c] (KO : KeyOK P kt kenc) (hi : ev fl ix = some (kenc k)) (hz : enc z0 = z) : Yld P o a w (.tuple #[enc ((m k).getD z0), .bool (m k).isSome]) := by
  unfold Yld execOp; rw [ho]; simp only [S.ev hx, S.ev hi]
  simp [run_lookup_map b k z0 hT KO hE hz (H.mp b (h := h)) true]
theorem y_lenm {x : Operand} {T kt et : TypeId} {b : Nat} {kenc : κ → Value} {enc : β → Value} {m : κ → Option β} {c : Nat} (ho : o.op = .call { callee := .builtin .len, args := #[x], argTypes := #[T] }) (hT : P.underlying T = some (.map kt et)) (S : St n fl a) (H : HSat M w0 l w) (hx : ev fl x = some (.map (some b))) [h : RdMap l b κ β inst kenc enc m c] : Yld P o a w (.int .i64 (c : Int)) := by
  obtain ⟨es, clock, ps, h1, h2, h3, h4, h5, h6⟩ := (H.mp b (h := h)).ok
  have hsz : es.size = c := by
    have := congrArg List.length h2
    simp only [List.length_map, Array.length_toList] at this
    omega
  have hg : (getObj b).run P w = .ok (.map es clock) w := by simp [getObj, Sem.run, h1]
  unfold Yld execOp; rw [ho]; simp [resolve, invoke, builtin, S.ev hx, Builtin.len_, goInt, run_underlying hT, hg, hsz]
theorem ZBA {T kt et : TypeId} {x ix y : Operand} {b : Nat} {kenc : κ → Value} {enc : β → Value} {m : κ → Option β} {c : Nat} {l' : Atom → List Atom} (k : κ) (u : β) (hw : Region.wanted o (yielded ops a.tmps) = true) (hd : o.dst = none) (ho : o.op = .mapUpdate T x ix y) (hT : P.underlying T = some (.map kt et)) (S : St n fl a) (H : HSat M w0 l w)
    (hx : ev fl x = some (.map (some b))) [h : HasMap l b κ β inst kenc enc m c l'] (KO : KeyOK P kt kenc) (hi : ev fl ix = some (kenc k)) (hy : ev fl y = some (enc u))
    (kk : ∀ a' w', St n fl a' → HSat M w0 (l' (MapA b kenc enc (upd m k u) (if (m k).isSome = true then c else c + 1))) w' → K a' w') : opw P ops o a w K := by
  obtain ⟨l1, l2, e1, e2⟩ := h.at_
  have hm : IsMap w b kenc enc m c := H.ok (MapA b kenc enc m c) (by rw [e1]; simp)
  obtain ⟨es, clock, ps, h1, h2, h3, h4, h5, h6⟩ := hm.ok
  have hf := run_findKey (P := P) KO k h2 w
  have hl := idxIn_lookup k ps 0
  have hg : (getObj b).run P w = .ok (.map es clock) w := by simp [getObj, Sem.run, h1]
  have hblt : b < w.heap.size := (Array.getElem?_eq_some_iff.1 h1).1
  have fin : ∀ (es' : Array MapEntry) (clock' : Nat) (ps' : List (κ × β)) (c' : Nat), (execOp a.eval o).run P w = .ok .skip (setBlk w b (.map es' clock')) → MapRep es' kenc enc ps' → (ps'.map (·.1)).Nodup → (∀ x, upd m k u x = ps'.lookup x) → ps'.length = c' → c' = (if (m k).isSome = true then c else c + 1) → Borns es' clock' → opw P ops o a w K := fun es' clock' ps' c' hrun r1 r2 r3 r4 r5 r6 => by
    refine opw_skip hw hrun ?_
    rw [hd]
    refine kk _ _ (S.putNone _) ?_
    rw [e2]
    rw [e1] at H
    have hnew : (setBlk w b (.map es' clock')).heap[b]? = some (.map es' clock') := by simp [setBlk, hblt]
    have hoth : ∀ q, q ≠ b → (setBlk w b (.map es' clock')).heap[q]? = w.heap[q]? := fun q hq => by simp [setBlk, Array.getElem?_setIfInBounds_ne (Ne.symm hq)]
    refine HSat.swap H rfl rfl ⟨rfl, rfl, rfl, by simp [setBlk], fun q _ hq => hoth q hq, fun q _ hq => ?_⟩ ⟨⟨es', clock', ps', hnew, r1, r2, r3, by rw [r4, r5], r6⟩⟩ (fun q hq => .inl hq)
    by_cases hqb : q = b
    · subst hqb; rw [hnew]; trivial
    rw [hoth q hqb]; exact hq
  have hset : ∀ (es' : Array MapEntry) (clock' : Nat), (setObj b (.map es' clock')).run P w = .ok () (setBlk w b (.map es' clock')) := fun es' clock' => by simp [setObj, Sem.run, h1, setBlk]
  cases hidx : idxIn k ps 0 with
  | none =>
    rw [hidx] at hf hl
    simp only [Option.map_none] at hf hl
    refine fin (es.push { key := kenc k, val := enc u, born := clock }) (clock + 1) (ps ++ [(k, u)]) (c + 1) ?_ ?_ ?_ ?_ (by simp [h5]) (by rw [h4 k, ← hl]; rfl) (h6.push _ _)
    · unfold execOp; rw [ho]; simp only [S.ev hx, S.ev hi, S.ev hy]
      simp [Instr.mapUpdate, run_underlying hT, hg, KO.check, hf, hset]
    · unfold MapRep at h2 ⊢; simp [h2]
    · rw [List.map_append, List.map_cons, List.map_nil, List.nodup_append]
      refine ⟨h3, by simp, ?_⟩
      intro x hx y hy
      simp at hy; subst hy
      intro e; subst e
      exact lookup_none_notin hl.symm hx
    intro x
    rw [lookup_snoc k u ps hl.symm x]
    exact congrFun (congrArg (fun f => upd f k u) (funext h4)) x
  | some q =>
    obtain ⟨j, u0⟩ := q
    have hat := idxIn_at k ps 0 j u0 hidx
    rw [hidx] at hf hl
    simp only [Option.map_some] at hf hl
    have hj : ps[j]? = some (k, u0) := by simpa using hat.2
    have hje : ∃ e, es[j]? = some e ∧ e.key = kenc k := by
      have h2' := congrArg (fun q => q[j]?) h2
      simp only [List.getElem?_map, hj, Option.map_some] at h2'
      cases he : es[j]? with
      | none => simp [he] at h2'
      | some e =>
        simp [he] at h2'
        exact ⟨e, rfl, h2'.1⟩
    obtain ⟨e, he, hek⟩ := hje
    refine fin (es.modify j fun e => { e with key := kenc k, val := enc u }) clock (ps.set j (k, u)) c ?_ ?_ ?_ ?_ (by simp [h5]) (by rw [h4 k, ← hl]; rfl) (h6.modify j _ (fun _ => rfl))
    · unfold execOp; rw [ho]; simp only [S.ev hx, S.ev hi, S.ev hy]
      simp [Instr.mapUpdate, run_underlying hT, hg, KO.check, hf, hset, he, hek, Instr.keyThatStays, KO.bits]
    · unfold MapRep at h2 ⊢
      apply List.ext_getElem?
      intro i
      have h2' := congrArg (fun q => q[i]?) h2
      simp only [List.getElem?_map] at h2'
      simp only [List.getElem?_map, Array.getElem?_toList, Array.getElem?_modify, List.getElem?_set]
      by_cases hji : j = i
      · subst hji
        have hlt := (List.getElem?_eq_some_iff.1 hj).1
        simp [he, hlt]
      simp only [if_neg hji]
      simpa using h2'
    · have : (ps.set j (k, u)).map (·.1) = ps.map (·.1) := by
        apply List.ext_getElem?
        intro i
        simp only [List.getElem?_map, List.getElem?_set]
        by_cases hji : j = i
        · subst hji
          obtain ⟨hlt, hjv⟩ := List.getElem?_eq_some_iff.1 hj
          simp [hlt, hjv]
        simp [hji]
      rw [this]; exact h3
    intro x
    rw [lookup_set k u ps j u0 hj h3 x]
    exact congrFun (congrArg (fun f => upd f k u) (funext h4)) x
theorem HSat.mapSwap {b : Nat} {es es' : Array MapEntry} {clock clock' : Nat} {l1 l2 : List Atom} {x y : Atom} (H : HSat M w0 (l1 ++ x :: l2) w) (hx : x.own = true) (hy : y.own = true) (hfx : ∀ q, x.fp q ↔ q = b) (hfy : ∀ q, y.fp q ↔ q = b) (hb : w.heap[b]? = some (.map es clock)) (hok : (setBlk w b (.map es' clock')).heap[b]? = some (.map es' clock') → y.ok (setBlk w b (.map es' clock'))) : HSat M w0 (l1 ++ y :: l2) (setBlk w b (.map es' clock')) := by
  have hblt : b < w.heap.size := (Array.getElem?_eq_some_iff.1 hb).1
  have hnew : (setBlk w b (.map es' clock')).heap[b]? = some (.map es' clock') := by simp [setBlk, hblt]
  have hoth : ∀ q, q ≠ b → (setBlk w b (.map es' clock')).heap[q]? = w.heap[q]? := fun q hq => by simp [setBlk, Array.getElem?_setIfInBounds_ne (Ne.symm hq)]
  refine HSat.swap H hx hy ⟨rfl, rfl, rfl, by simp [setBlk], fun q _ hq => hoth q (fun e => hq ((hfx q).2 e)), fun q _ hq => ?_⟩ (hok hnew) (fun q hq => .inl ((hfx q).2 ((hfy q).1 hq)))
  by_cases hqb : q = b
  · subst hqb; rw [hnew]; trivial
  rw [hoth q hqb]; exact hq
theorem op_mapEntry {T kt et : TypeId} {x ix : Operand} {b : Nat} {kenc : κ → Value} {enc : β → Value} {m : κ → Option β} {c : Nat} {l' : Atom → List Atom} (k : κ) (z0 : β) {z : Value} {sz by_ : Nat} (hw : Region.wanted o (yielded ops a.tmps) = true) (hd : o.dst = some d) (hn : Nat.blt d n.n = true) (ho : o.op = .mapEntry T x ix) (hT : P.underlying T = some (.map kt et)) (hE : infoB P et = some (z, sz, by_)) (S : St n fl a) (H : HSat M w0 l w)
    (hx : ev fl x = some (.map (some b))) [h : HasMap l b κ β inst kenc enc m c l'] (KO : KeyOK P kt kenc) (hi : ev fl ix = some (kenc k)) (hz : enc z0 = z)
    (kk : ∀ (s : Nat) a' w', St n ((d, .tuple #[enc ((m k).getD z0), .int .i64 ((s : Int))]) :: fl) a' → HSat M w0 (l' (MapP b kenc enc m (if (m k).isSome = true then c else c + 1) s k)) w' → K a' w') : opw P ops o a w K := by
  obtain ⟨l1, l2, e1, e2⟩ := h.at_
  have hm : IsMap w b kenc enc m c := H.ok (MapA b kenc enc m c) (by rw [e1]; simp)
  obtain ⟨es, clock, ps, h1, h2, h3, h4, h5, h6⟩ := hm.ok
  obtain ⟨i, hinf, hzi, hsi, hbi⟩ := infoB_parts hE
  have hzv : (zeroValue et).run P w = .ok z w := by simp [zeroValue, typeInfo, hinf, hzi]
  have hf := run_findKey (P := P) KO k h2 w
  have hl := idxIn_lookup k ps 0
  have hg : (getObj b).run P w = .ok (.map es clock) w := by simp [getObj, Sem.run, h1]
  have hset : ∀ (es' : Array MapEntry) (clock' : Nat), (setObj b (.map es' clock')).run P w = .ok () (setBlk w b (.map es' clock')) := fun es' clock' => by simp [setObj, Sem.run, h1, setBlk]
  rw [e1] at H
  cases hidx : idxIn k ps 0 with
  | none =>
    rw [hidx] at hf hl
    simp only [Option.map_none] at hf hl
    have hmk : m k = none := by rw [h4 k, ← hl]
    have hrun : (execOp a.eval o).run P w = .ok (.value (.tuple #[z, .int .i64 ((clock : Int))])) (setBlk w b (.map (es.push { key := kenc k, val := z, born := clock }) (clock + 1))) := by
      unfold execOp; rw [ho]; simp only [S.ev hx, S.ev hi]
      simp [Instr.mapEntry, run_underlying hT, hg, KO.check, hf, hset, hzv, goInt]
    refine opw_val hw hrun ?_
    rw [hd]
    refine kk clock _ _ (by rw [hmk, Option.getD_none, hz]; exact S.put hn _) ?_
    rw [e2]
    refine HSat.mapSwap H rfl rfl (fun q => Iff.rfl) (fun q => Iff.rfl) h1 (fun hnew => ⟨z0, _, _, ps ++ [(k, z0)], hnew, ?_, ?_, ?_, by rw [hmk]; simp [h5], h6.push _ _, es.size, { key := kenc k, val := z, born := clock }, by simp, rfl, z0, ?_⟩)
    · unfold MapRep at h2 ⊢; simp [h2, hz]
    · rw [List.map_append, List.map_cons, List.map_nil, List.nodup_append]
      refine ⟨h3, by simp, ?_⟩
      intro x hx y hy
      simp at hy; subst hy
      intro e; subst e
      exact lookup_none_notin hl.symm hx
    · intro x
      rw [lookup_snoc k z0 ps hl.symm x]
      exact congrFun (congrArg (fun f => upd f k z0) (funext h4)) x
    have hsz : es.size = ps.length := by
      have := congrArg List.length h2
      simpa using this
    rw [hsz]; simp
  | some q =>
    obtain ⟨j, u0⟩ := q
    have hat := idxIn_at k ps 0 j u0 hidx
    rw [hidx] at hf hl
    simp only [Option.map_some] at hf hl
    have hmk : m k = some u0 := by rw [h4 k, ← hl]
    have hj : ps[j]? = some (k, u0) := by simpa using hat.2
    have hje : ∃ e, es[j]? = some e ∧ e.key = kenc k := by
      have h2' := congrArg (fun q => q[j]?) h2
      simp only [List.getElem?_map, hj, Option.map_some] at h2'
      cases he : es[j]? with
      | none => simp [he] at h2'
      | some e => simp [he] at h2'; exact ⟨e, rfl, h2'.1⟩
    obtain ⟨e, he, hek⟩ := hje
    have hrun : (execOp a.eval o).run P w = .ok (.value (.tuple #[enc u0, .int .i64 ((e.born : Int))])) (setBlk w b (.map (es.modify j fun e => { e with key := kenc k }) clock)) := by
      unfold execOp; rw [ho]; simp only [S.ev hx, S.ev hi]
      simp [Instr.mapEntry, run_underlying hT, hg, KO.check, hf, hset, he, hek, Instr.keyThatStays, KO.bits, goInt]
    refine opw_val hw hrun ?_
    rw [hd]
    refine kk e.born _ _ (by rw [hmk, Option.getD_some]; exact S.put hn _) ?_
    rw [e2]
    refine HSat.mapSwap H rfl rfl (fun q => Iff.rfl) (fun q => Iff.rfl) h1 (fun hnew => ⟨u0, _, _, ps, hnew, ?_, h3, ?_, by rw [hmk]; simp [h5], h6.modify j _ (fun _ => rfl), j, { e with key := kenc k }, by simp [Array.getElem?_modify, he], rfl, u0, hj⟩)
    · unfold MapRep at h2 ⊢
      apply List.ext_getElem?
      intro i
      have h2' := congrArg (fun q => q[i]?) h2
      simp only [List.getElem?_map] at h2'
      simp only [List.getElem?_map, Array.getElem?_toList, Array.getElem?_modify]
      by_cases hji : j = i
      · subst hji
        simp only [Array.getElem?_toList, he, Option.map_some] at h2'
        simp [he, ← h2', hek]
      simp only [if_neg hji]
      simpa using h2'
    intro x
    rw [← h4 x]
    unfold upd
    split
    · rename_i hxk; subst hxk; exact hmk.symm
    rfl
theorem op_entryStore {T : TypeId} {x st y : Operand} {b s : Nat} {kenc : κ → Value} {enc : β → Value} {m : κ → Option β} {c : Nat} {k : κ} {l' : Atom → List Atom} (u : β) (hw : Region.wanted o (yielded ops a.tmps) = true) (hd : o.dst = none) (ho : o.op = .entryStore T x st y) (S : St n fl a) (H : HSat M w0 l w)
    (hx : ev fl x = some (.map (some b))) [h : HasMapP l b κ β inst kenc enc m c s k l'] (hs : ev fl st = some (.int .i64 (s : Int))) (hy : ev fl y = some (enc u))
    (kk : ∀ a' w', St n fl a' → HSat M w0 (l' (MapA b kenc enc (upd m k u) c)) w' → K a' w') : opw P ops o a w K := by
  obtain ⟨l1, l2, e1, e2⟩ := h.at_
  have hm : IsMapP w b kenc enc m c s k := H.ok (MapP b kenc enc m c s k) (by rw [e1]; simp)
  obtain ⟨v, es, clock, ps, h1, h2, h3, h4, h5, h6, j, e, he, heb, u0, hj⟩ := hm.ok
  have hg : (getObj b).run P w = .ok (.map es clock) w := by simp [getObj, Sem.run, h1]
  have hset : ∀ (es' : Array MapEntry) (clock' : Nat), (setObj b (.map es' clock')).run P w = .ok () (setBlk w b (.map es' clock')) := fun es' clock' => by simp [setObj, Sem.run, h1, setBlk]
  have hfind : es.findIdx? (fun e => (e.born : Int) == (s : Int)) = some j := by
    rw [Array.findIdx?_eq_some_iff_getElem]
    obtain ⟨hlt, hje⟩ := Array.getElem?_eq_some_iff.1 he
    refine ⟨hlt, by rw [hje]; simp [heb], fun i hi => ?_⟩
    have hil : i < es.size := by omega
    simp only [beq_iff_eq]
    intro hc
    have hb2 : (es[i]'hil).born = s := by exact_mod_cast hc
    have hnd := h6.2
    have hpw := List.pairwise_iff_getElem.1 hnd i j (by simpa using hil) (by simpa using hlt) hi
    simp only [List.getElem_map, Array.getElem_toList, hje] at hpw
    exact hpw (by rw [hb2, heb])
  have hrun : (execOp a.eval o).run P w = .ok .skip (setBlk w b (.map (es.modify j fun e => { e with val := enc u }) clock)) := by
    unfold execOp; rw [ho]; simp only [S.ev hx, S.ev hs, S.ev hy]
    simp [Instr.entryStore, hg, asInt, asIntOf, hfind, hset]
  refine opw_skip hw hrun ?_
  rw [hd]
  refine kk _ _ (S.putNone _) ?_
  rw [e2]
  rw [e1] at H
  refine HSat.mapSwap H rfl rfl (fun q => Iff.rfl) (fun q => Iff.rfl) h1 (fun hnew => ⟨_, _, ps.set j (k, u), hnew, ?_, ?_, ?_, by simp [h5], h6.modify j _ (fun _ => rfl)⟩)
  · unfold MapRep at h2 ⊢
    apply List.ext_getElem?
    intro i
    have h2' := congrArg (fun q => q[i]?) h2
    simp only [List.getElem?_map] at h2'
    simp only [List.getElem?_map, Array.getElem?_toList, Array.getElem?_modify, List.getElem?_set]
    by_cases hji : j = i
    · subst hji
      have hlt := (List.getElem?_eq_some_iff.1 hj).1
      simp only [Array.getElem?_toList, he, hj, Option.map_some, Option.some.injEq, Prod.mk.injEq] at h2'
      simp [he, hlt, h2'.1]
    simp only [if_neg hji]
    simpa using h2'
  · have : (ps.set j (k, u)).map (·.1) = ps.map (·.1) := by
      apply List.ext_getElem?
      intro i
      simp only [List.getElem?_map, List.getElem?_set]
      by_cases hji : j = i
      · subst hji
        obtain ⟨hlt, hjv⟩ := List.getElem?_eq_some_iff.1 hj
        simp [hlt, hjv]
      simp [hji]
    rw [this]; exact h3
  intro x
  rw [lookup_set k u ps j u0 hj h3 x]
  show upd m k u x = upd (fun y => ps.lookup y) k u x
  have hh := h4 x
  unfold upd at hh ⊢
  split
  · rfl
  rename_i hxk; rw [if_neg hxk] at hh; exact hh
end
end
section
def ZBe (ds : List Nat) : Atom where
  own := true
  fp := fun k => k ∈ ds
  ok := fun w => ds.Nodup ∧ ∀ b ∈ ds, w.heap[b]? = some (.deferred (some []))
  loc := fun w w' h hok => ⟨hok.1, fun b hb => (h b hb).trans (hok.2 b hb)⟩
  lt := fun w b hok hb => (Array.getElem?_eq_some_iff.1 (hok.2 b hb)).1
structure RecOK (R : Loop) (tm : Array Value) (ps : Array Tmp) (as bo : Code) : Prop where
  state : R.state = .ready
  pending : R.pending = none
  tmps : R.tmps = tm
  params : R.params = ps
  assign : R.assign = as
  body : R.body = bo
theorem RecOK.same {R : Loop} {tm : Array Value} {ps : Array Tmp} {as bo : Code} (h : RecOK R tm ps as bo) : ({ R with state := .ready, pending := none } : Loop) = R := by
  obtain ⟨h1, h2, _, _, _, _⟩ := h
  cases R; simp only at h1 h2; subst h1; subst h2; rfl
section
variable {r : Option Nat} {P : Program} {o : Oper} {n : Sz} {fl flU : Slots} {a : Act} {w w0 : World} {v : Value} {M : Nat → Prop} {l : List Atom} {ops : Array Oper} {d : Nat} {K : Act → World → Prop} {Q : Exit → Act → World → Prop}
theorem St.recd {m : Nat} {ds : List Nat} (S : St ⟨m, ds.map ZB0⟩ fl a) : St ⟨m, ds.map ZB0⟩ fl { tmps := a.tmps, defers := ds.map ZB0 } := ⟨S.size, rfl, S.get⟩
theorem HSat.defs0 (H : HSat M w0 l w) : HSat M w0 (ZBe [] :: l) w := by
  refine ⟨H.fr, fun x hx => ?_, fun x hx ho b hb => ?_, List.pairwise_cons.2 ⟨fun y hy ho b hb => (by cases hb), H.sep⟩⟩
  · rcases List.mem_cons.1 hx with rfl | hx
    · exact ⟨by simp, by simp⟩
    exact H.ok x hx
  rcases List.mem_cons.1 hx with rfl | hx
  · cases hb
  exact H.mine x hx ho b hb
theorem HSat.putBlk {lb : Nat} {ob ob' : Obj} {l' : Obj → List Atom} (H : HSat M w0 l w) [h : HasBlk l lb ob l'] (hth : ThawO (some ob) → ThawO (some ob')) : HSat M w0 (l' ob') (w.putObj lb ob') := by
  have hb := H.blk lb (h := h)
  have hlt := (Array.getElem?_eq_some_iff.1 hb).1
  exact H.set lb (h := h) ob' hth rfl rfl rfl (by simp) (World.putObj_heap_same hlt) (fun k hk => World.putObj_heap_other hk)
theorem leavesM {fn : Func} {R : Value → World → Prop} {tmps : Array Value} (hres : ∀ w, HSat M w0 l w → (results fn tmps).run P w = .ok v w) (hR : ∀ w, HSat M w0 l w → R v w) :
    ∀ (ds : List Nat) (w : World), HSat M w0 (ZBe ds :: l) w → LeavesInM Fence.wide 0 P fn tmps (fun e w' => ∃ v, e = .returned v ∧ R v w') (ds.map ZB0) .returning w := by
  intro ds
  induction ds with
  | nil =>
    intro w H
    exact ⟨v, hres w H.tail, v, rfl, hR w H.tail⟩
  | cons b ds ih =>
    intro w H
    have hok := H.ok (ZBe (b :: ds)) (by simp)
    have hb := hok.2 b (by simp)
    have hlt := (Array.getElem?_eq_some_iff.1 hb).1
    have hn := List.nodup_cons.1 hok.1
    refine ⟨by simp, .inl ⟨b, _, rfl, run_takeDeferred hb, ih _ ?_⟩⟩
    have H' : HSat M w0 ([] ++ ZBe (b :: ds) :: l) w := H
    refine HSat.swap (y := ZBe ds) H' rfl rfl ⟨rfl, rfl, rfl, by simp, fun q _ hq => World.putObj_heap_other (fun e => hq (by subst e; simp [ZBe])), fun q _ hq => ?_⟩ ⟨hn.2, fun q hq => ?_⟩ (fun q hq => .inl (by simp only [ZBe] at hq ⊢; exact List.mem_cons_of_mem _ hq))
    · by_cases hqb : q = b
      · subst hqb; rw [World.putObj_heap_same hlt]; trivial
      rw [World.putObj_heap_other hqb]; exact hq
    rw [World.putObj_heap_other (fun e => by subst e; exact hn.1 hq)]; exact hok.2 q (by simp [hq])
theorem ret1M {fn : Func} {R : Value → World → Prop} {t : Nat} {m : Nat} {ds : List Nat} (hr : fn.results = #[.tmp t]) (S : St ⟨m, ds.map ZB0⟩ fl a) (H : HSat M w0 (ZBe ds :: l) w) (hv : fl.lookup t = some v) (hR : ∀ w, HSat M w0 l w → R v w) : endP P fn R .ret a w := by
  show LeavesInM Fence.wide 0 P fn a.tmps _ a.defers .returning w
  rw [S.defers]
  exact leavesM (fun w _ => by rw [results_tmp hr, S.get t v hv]) hR ds w H
def YieldRet (P : Program) (lb : Nat) (args : Array Value) (w : World) (R : Value → World → Prop) : Prop :=
  ∃ f tmps as bo, (Instr.yield lb args).run P w = .ok (.round lb f tmps as bo) w ∧ RoundIn Fence.wide 0 P lb f tmps as bo w (fun e w' => ∃ v, e = .returned v ∧ R v w')
theorem YieldRet.mono {lb : Nat} {args : Array Value} {R R' : Value → World → Prop} (h : YieldRet P lb args w R) (hr : ∀ v w', R v w' → R' v w') : YieldRet P lb args w R' := by
  obtain ⟨f, tm, as, bo, h1, h2⟩ := h
  exact ⟨f, tm, as, bo, h1, RoundIn.mono h2 fun e w'' ⟨v, he, hv⟩ => ⟨v, he, hr _ _ hv⟩⟩
theorem op_yield {x : Operand} {xs : Array Operand} {at_ : Array TypeId} {vs : List Value} {lb : Nat} (hw : Region.wanted o (yielded ops a.tmps) = true) (hd : o.dst = some d) (hn : Nat.blt d n.n = true) (ho : o.op = .call { callee := .value x, args := xs, argTypes := at_ }) (S : St n fl a) (hf : ev fl x = some (.func (.yield lb) #[] #[])) (hx : evs fl xs.toList = some vs) {R : Value → World → Prop} (h : YieldRet P lb vs.toArray w R)
    (k : ∀ v w', R v w' → ∀ a', St n ((d, v) :: fl) a' → K a' w') : opw P ops o a w K := by
  obtain ⟨f, tm, as, bo, h1, h2⟩ := h
  have hxs := S.evs hx
  have e2 : xs.map a.eval = vs.toArray := by rw [← hxs, ← Array.toList_map]
  have hrun : (execOp a.eval o).run P w = .ok (.round lb f tm as bo) w := by
    unfold execOp; rw [ho]
    simp only [resolve, S.ev hf, Deferred.ofValue, e2]
    simpa [invoke] using h1
  refine opw_is hw hrun ?_
  show RoundIn Fence.wide 0 P lb f tm as bo w _
  rw [hd]
  exact RoundIn.mono h2 fun e w'' ⟨v, he, hv⟩ => ⟨v, he, k v w'' hv _ (S.put hn v)⟩
theorem yield1 {lb m t : Nat} {ds : List Nat} {R : Loop} {tm : Array Value} {as bo : Code} {Rs : Value → World → Prop} (hR : RecOK R tm #[t] as bo) (S : St ⟨m, ds.map ZB0⟩ fl { tmps := tm, defers := ds.map ZB0 }) (H : HSat M w0 l w) [h : HasRd l lb (.loop R)] (ht : Nat.blt t m = true)
    (hk : ∀ a, St ⟨m, []⟩ ((t, v) :: fl) a → gp (some lb) P as (Exit.then (fun a₁ w₁ => ∃ w₂, (Instr.beginRound lb).run P w₁ = .ok () w₂ ∧ gp (some lb) P bo (roundPost P lb (fun e w' => ∃ v, e = .returned v ∧ Rs v w')) a₁ w₂) (fun _ _ _ => False)) a w) : YieldRet P lb #[v] w Rs := by
  have hb := H.rd lb (h := h)
  refine ⟨_, _, _, _, run_yield hb (by rw [hR.params]; rfl), ?_⟩
  have ht' : t < m := by simpa using ht
  have S0 : St ⟨m, []⟩ fl { tmps := tm, defers := [] } := ⟨S.size, rfl, S.get⟩
  have S1 := S0.put (d := t) (by simpa using ht) v
  have e1 : ((R.params.zip #[v]).foldl (fun tmps (x : Tmp × Value) => tmps.setIfInBounds x.1 x.2) R.tmps) = tm.setIfInBounds t v := by rw [hR.params, hR.tmps]; simp
  have hk' := hk _ S1
  have := roundIn_of_wpIn (F := Fence.wide) (n := 0) (P := P) (l := lb) (f := R.fn) (tmps := tm.setIfInBounds t v) (assign := as) (body := bo) (w := w) (R := fun e w' => ∃ v, e = .returned v ∧ Rs v w') trivial hk'
  rw [hR.assign, hR.body]
  exact e1 ▸ this
theorem yield2 {lb m t u : Nat} {ds : List Nat} {R : Loop} {tm : Array Value} {as bo : Code} {v' : Value} {Rs : Value → World → Prop} (hR : RecOK R tm #[t, u] as bo) (S : St ⟨m, ds.map ZB0⟩ fl { tmps := tm, defers := ds.map ZB0 }) (H : HSat M w0 l w) [h : HasRd l lb (.loop R)] (ht : Nat.blt t m = true) (hu : Nat.blt u m = true)
    (hk : ∀ a, St ⟨m, []⟩ ((u, v') :: (t, v) :: fl) a → gp (some lb) P as (Exit.then (fun a₁ w₁ => ∃ w₂, (Instr.beginRound lb).run P w₁ = .ok () w₂ ∧ gp (some lb) P bo (roundPost P lb (fun e w' => ∃ v, e = .returned v ∧ Rs v w')) a₁ w₂) (fun _ _ _ => False)) a w) : YieldRet P lb #[v, v'] w Rs := by
  have hb := H.rd lb (h := h)
  refine ⟨_, _, _, _, run_yield hb (by rw [hR.params]; rfl), ?_⟩
  have S0 : St ⟨m, []⟩ fl { tmps := tm, defers := [] } := ⟨S.size, rfl, S.get⟩
  have S1 := S0.put (d := t) (by simpa using ht) v
  have S2 := S1.put (d := u) (by simpa using hu) v'
  have e1 : ((R.params.zip #[v, v']).foldl (fun tmps (x : Tmp × Value) => tmps.setIfInBounds x.1 x.2) R.tmps) = (tm.setIfInBounds t v).setIfInBounds u v' := by rw [hR.params, hR.tmps]; simp
  have := roundIn_of_wpIn (F := Fence.wide) (n := 0) (P := P) (l := lb) (f := R.fn) (tmps := (tm.setIfInBounds t v).setIfInBounds u v') (assign := as) (body := bo) (w := w) (R := fun e w' => ∃ v, e = .returned v ∧ Rs v w') trivial (hk _ S2)
  rw [hR.assign, hR.body]
  exact e1 ▸ this
theorem r_begin {lb : Nat} {R : Loop} {tm : Array Value} {ps : Array Tmp} {as bo : Code} {l' : Obj → List Atom} {G : World → Prop} (hR : RecOK R tm ps as bo) (H : HSat M w0 l w) [h : HasBlk l lb (.loop R) l'] (k : ∀ w', HSat M w0 (l' (.loop { R with state := .busy })) w' → G w') : ∃ w₂, (Instr.beginRound lb).run P w = .ok () w₂ ∧ G w₂ :=
  ⟨_, run_beginRound (H.blk lb (h := h)) hR.state, k _ (H.putBlk (h := h) (fun h => h))⟩
theorem r_end {lb : Nat} {R : Loop} {tm : Array Value} {ps : Array Tmp} {as bo : Code} {l' : Obj → List Atom} {Rs : Value → World → Prop} (hR : RecOK R tm ps as bo) (H : HSat M w0 l w) [h : HasBlk l lb (.loop { R with state := .busy }) l'] (k : ∀ w', HSat M w0 (l' (.loop R)) w' → Rs (.bool true) w') : roundPost P lb (fun e w' => ∃ v, e = .returned v ∧ Rs v w') .normal a w := by
  refine ⟨_, _, run_endRound none (H.blk lb (h := h)), _, rfl, k _ ?_⟩
  have e : ({ ({ R with state := .busy } : Loop) with state := (if (none : Option Code).isNone = true then LoopState.ready else .done), pending := none } : Loop) = R := by
    obtain ⟨h1, h2, _, _, _, _⟩ := hR
    cases R; simp only at h1 h2; subst h1; subst h2; rfl
  have := H.putBlk (h := h) (ob' := .loop { ({ R with state := .busy } : Loop) with state := (if (none : Option Code).isNone = true then LoopState.ready else .done), pending := none }) (fun h => h)
  rw [e] at this ⊢
  exact this
theorem g_range {g : Operand} {ps : Array Tmp} {as bo : Code} {f : FuncId} {fi cap : List Value} {m : Nat} {ds : List Nat} (Φ : Option Code → List Atom → Prop) (S : St ⟨m, ds.map ZB0⟩ fl a) (H : HSat M w0 (ZBe ds :: l) w) (hg : ev fl g = some (.func (.func f) fi.toArray cap.toArray)) (he : Enters P f)
    (h : ∀ R lb w1, RecOK R a.tmps ps as bo → HSat M w0 (Blk lb (.loop R) :: ZBe (R.defers :: ds) :: l) w1 → Ret P f (fi ++ [Value.func (.yield lb) #[] #[]] ++ cap).toArray w1 (fun _ w2 => ∃ st pend l2, st ≠ .busy ∧ Φ pend l2 ∧ HSat M w0 (Blk lb (.loop { R with state := st, pending := pend }) :: ZBe (R.defers :: ds) :: l2) w2))
    (k : ∀ bd a' w' pend l2, St ⟨m, (bd :: ds).map ZB0⟩ fl a' → HSat M w0 (ZBe (bd :: ds) :: l2) w' → Φ pend l2 → (match pend with | none => Q .normal a' w' | some c => gp none P c Q a' w')) : gp none P (.rangeFunc g ps as bo) Q a w := by
  refine wpIn_rangeFunc ?_
  intro fn _
  have hent := run_enterLoop_outer (P := P) (w := w) fn a.tmps ps as bo
  obtain ⟨R, hRdef⟩ : ∃ R : Loop, R = { state := .ready, pending := none, fn, tmps := a.tmps, params := ps, assign := as, body := bo, defers := w.heap.size } := ⟨_, rfl⟩
  have hR : RecOK R a.tmps ps as bo := by subst hRdef; exact ⟨rfl, rfl, rfl, rfl, rfl, rfl⟩
  have hRd : R.defers = w.heap.size := by subst hRdef; rfl
  rw [← hRdef] at hent
  have h1 := H.alloc (.deferred (some [])) trivial
  have h2 := h1.alloc (.loop R) trivial
  have hsz : (w.alloc (.deferred (some []))).heap.size = w.heap.size + 1 := by simp
  rw [hsz] at h2
  have h3 : HSat M w0 (Blk (w.heap.size + 1) (.loop R) :: ZBe (R.defers :: ds) :: l) ((w.alloc (.deferred (some []))).alloc (.loop R)) := by
    rw [hRd]
    have hp := h2.sep
    have hp1 := List.pairwise_cons.1 hp
    have hp2 := List.pairwise_cons.1 hp1.2
    have hp3 := List.pairwise_cons.1 hp2.2
    have hok := h2.ok
    have hd := hok (ZBe ds) (by simp)
    have hb := hok (Blk w.heap.size (.deferred (some []))) (by simp)
    have hmine := h2.mine
    refine ⟨h2.fr, fun x hx => ?_, fun x hx ho b hb' => ?_, List.pairwise_cons.2 ⟨fun y hy ho b hb1 hb2 => ?_, List.pairwise_cons.2 ⟨fun y hy ho b hb1 hb2 => ?_, hp3.2⟩⟩⟩
    · simp only [List.mem_cons] at hx
      rcases hx with rfl | rfl | hx
      · exact hok _ (by simp)
      · refine ⟨List.nodup_cons.2 ⟨fun hm => ?_, hd.1⟩, fun b hb' => ?_⟩
        · exact hp2.1 (ZBe ds) (by simp) (.inl rfl) w.heap.size rfl hm
        rcases List.mem_cons.1 hb' with rfl | hb'
        · exact hb
        exact hd.2 b hb'
      exact hok x (by simp [hx])
    · simp only [List.mem_cons] at hx
      rcases hx with rfl | rfl | hx
      · exact hmine _ (by simp) ho b hb'
      · rcases List.mem_cons.1 hb' with rfl | hb'
        · exact hmine (Blk w.heap.size (.deferred (some []))) (by simp) rfl _ rfl
        exact hmine (ZBe ds) (by simp) rfl b hb'
      exact hmine x (by simp [hx]) ho b hb'
    · simp only [List.mem_cons] at hy
      rcases hy with rfl | hy
      · rcases List.mem_cons.1 hb2 with rfl | hb2
        · exact hp1.1 (Blk w.heap.size (.deferred (some []))) (by simp) (.inl rfl) _ hb1 rfl
        exact hp1.1 (ZBe ds) (by simp) (.inl rfl) b hb1 hb2
      exact hp1.1 y (by simp [hy]) (.inl rfl) b hb1 hb2
    rcases List.mem_cons.1 hb1 with rfl | hb1
    · exact hp2.1 y (by simp [hy]) (.inl rfl) _ rfl hb2
    exact hp3.1 y hy (.inl rfl) b hb1 hb2
  have hmark : ([{ target := .collected w.heap.size, args := #[] }] : List Deferred) = [ZB0 w.heap.size] := rfl
  refine ⟨_, _, _, { target := .fn (.func f) cap.toArray, args := (fi ++ [Value.func (.yield (w.heap.size + 1)) #[] #[]]).toArray }, (w.alloc (.deferred (some []))).alloc (.loop R), f, (fi ++ [Value.func (.yield (w.heap.size + 1)) #[] #[]] ++ cap).toArray, (w.alloc (.deferred (some []))).alloc (.loop R), hent, ?_, fun _ _ => trivial, ?_, fun h => (by cases h), ?_⟩
  · simp only [resolve, rangeCall, S.ev hg, Deferred.ofValue]
    simp [Act.eval]
  · simpa [invoke] using he ((fi ++ [Value.func (.yield (w.heap.size + 1)) #[] #[]] ++ cap).toArray) ((w.alloc (.deferred (some []))).alloc (.loop R))
  refine fr_calls (Calls.mono (h R _ _ hR h3) fun e w2 ⟨v, hev, st, pend, l2, hst, hΦ, H2⟩ => ?_)
  subst hev
  refine ⟨pend, _, run_endLoop (H2.blk (w.heap.size + 1)) hst, ?_⟩
  have H3 := (H2.putBlk (lb := w.heap.size + 1) (ob' := .loop { ({ R with state := st, pending := pend } : Loop) with state := .exhausted }) (fun _ => trivial)).tail
  have S' : St ⟨m, (R.defers :: ds).map ZB0⟩ fl { a with defers := [ZB0 w.heap.size] ++ a.defers } := ⟨S.size, by rw [hRd]; simp [S.defers], S.get⟩
  exact k R.defers _ _ pend l2 S' H3 hΦ
theorem loopD {X : Type} {c : Code} {m : Nat} (ds : X → List Nat) (mods : X → Slots) (W : X → World → Prop) (μ : X → Nat) (x0 : X) (SU : St ⟨m, (ds x0).map ZB0⟩ flU a) (S0 : St ⟨m, (ds x0).map ZB0⟩ (mods x0) a) (h0 : W x0 w)
    (body : ∀ x a w, St ⟨m, (ds x).map ZB0⟩ (mods x ++ flU) a → W x w →
      gp r P c (Exit.then (fun a' w' => ∃ y, St ⟨m, (ds y).map ZB0⟩ (mods y) a' ∧ St ⟨m, (ds y).map ZB0⟩ flU a' ∧ W y w' ∧ μ y < μ x) Q) a w) : gp r P (.loop c) Q a w := by
  refine g_loop (fun q a w => ∃ x, μ x = q ∧ St ⟨m, (ds x).map ZB0⟩ (mods x) a ∧ St ⟨m, (ds x).map ZB0⟩ flU a ∧ W x w) (μ x0) ⟨x0, rfl, S0, SU, h0⟩ ?_
  rintro q a w ⟨x, rfl, S1, S2, H⟩
  refine g_mono (body x a w (S1.append S2) H) ?_
  intro e a' w' hq
  cases e with
  | normal =>
    obtain ⟨y, h1, h2, h3, h5⟩ := hq
    exact ⟨μ y, h5, y, rfl, h1, h2, h3⟩
  | _ => exact hq
end
end
section
def ZAo {α : Type} (p : Value × List α) : List Value := [p.1]
def rowsL (e : TypeId) (sz : Nat) {α : Type} (enc : α → List Value) (ps : List (Value × List α)) : List Atom := ps.map fun p => OSl e p.1 sz enc p.2
def ZBh (e : TypeId) (sz : Nat) {α : Type} (enc : α → List Value) (ps : List (Value × List α)) : Atom := Bun (rowsL e sz enc ps)
def ZBC (sz : Nat) {α : Type} (enc : α → List Value) (ps : List (Value × List α)) : Atom where
  own := false
  fp := fun k => ∃ p ∈ ps, p.1.ownBlock = some k ∧ 0 < sz ∧ p.2 ≠ []
  ok := fun w => ∀ p ∈ ps, IsSl w p.1 sz enc p.2
  loc := fun w w' h hok p hp => (Sl p.1 sz enc p.2).loc w w' (fun b hb => h b ⟨p, hp, hb⟩) (hok p hp)
  lt := fun w b hok ⟨p, hp, hb⟩ => (Sl p.1 sz enc p.2).lt w b (hok p hp) hb
theorem rowsL_at {e : TypeId} {sz : Nat} {α : Type} {enc : α → List Value} {ps : List (Value × List α)} (i : Nat) (h : i < ps.length) : OSl e ps[i].1 sz enc ps[i].2 ∈ rowsL e sz enc ps :=
  List.mem_map.2 ⟨ps[i], List.getElem_mem h, rfl⟩
instance (priority := 2000) HasSl.row (l : List Atom) (e : TypeId) (sz : Nat) (α : Type) (enc : α → List Value) (ps : List (Value × List α)) (i : Nat) (h : i < ps.length) : HasSl (ZBh e sz enc ps :: l) (ps[i]'h).1 sz α enc (ps[i]'h).2 :=
  ⟨fun w hw => IsOSl.sl (((hw (ZBh e sz enc ps) (List.mem_cons_self ..)).1 _ (rowsL_at i h)).2)⟩
instance (priority := 2000) HasSl.rowRo (l : List Atom) (e : TypeId) (sz : Nat) (α : Type) (enc : α → List Value) (ps : List (Value × List α)) (i : Nat) (h : i < ps.length) : HasSl (Atom.ro (ZBh e sz enc ps) :: l) (ps[i]'h).1 sz α enc (ps[i]'h).2 :=
  ⟨fun w hw => IsOSl.sl (((hw (Atom.ro (ZBh e sz enc ps)) (List.mem_cons_self ..)).1 _ (rowsL_at i h)).2)⟩
instance (priority := 2000) HasSl.rowS (l : List Atom) (sz : Nat) (α : Type) (enc : α → List Value) (ps : List (Value × List α)) (i : Nat) (h : i < ps.length) : HasSl (ZBC sz enc ps :: l) (ps[i]'h).1 sz α enc (ps[i]'h).2 :=
  ⟨fun w hw => hw (ZBC sz enc ps) (List.mem_cons_self ..) _ (List.getElem_mem h)⟩
instance ROs.rows (sz : Nat) (α : Type) (enc : α → List Value) (ps : List (Value × List α)) (r : List Atom) [h : ROs r] : ROs (ZBC sz enc ps :: r) := ⟨by simpa [ZBC] using h.all⟩
section
variable {w w0 : World} {M : Nat → Prop} {l : List Atom}
theorem rows_perm {e : TypeId} {sz : Nat} {α : Type} {enc : α → List Value} (ps : List (Value × List α)) (i : Nat) (h : i < ps.length) (q : Value × List α) : (rowsL e sz enc (ps.set i q)).Perm (OSl e q.1 sz enc q.2 :: rowsL e sz enc (ps.eraseIdx i)) := by
  have e1 : ps.set i q = ps.take i ++ q :: ps.drop (i + 1) := by rw [List.set_eq_take_append_cons_drop, if_pos h]
  have e2 : ps.eraseIdx i = ps.take i ++ ps.drop (i + 1) := by rw [List.eraseIdx_eq_take_drop_succ]
  unfold rowsL
  rw [e1, e2, List.map_append, List.map_cons, List.map_append]
  exact List.perm_middle
theorem HSat.rws (H : HSat M w0 l w) (e : TypeId) {sz : Nat} {α : Type} {enc : α → List Value} (ps : List (Value × List α)) [h : HasAt l (ZBh e sz enc ps)] : ∀ p ∈ ps, IsSl w p.1 sz enc p.2 := fun p hp =>
  IsOSl.sl (((H.ok _ h.mem).1 (OSl e p.1 sz enc p.2) (List.mem_map.2 ⟨p, hp, rfl⟩)).2)
theorem HSat.rwsS (H : HSat M w0 l w) {sz : Nat} {α : Type} {enc : α → List Value} (ps : List (Value × List α)) [h : HasAt l (ZBC sz enc ps)] : ∀ p ∈ ps, IsSl w p.1 sz enc p.2 := H.ok _ h.mem
theorem IsSl.nil (w : World) (sz : Nat) {α : Type} (enc : α → List Value) : IsSl w (.slice none 0 0) sz enc [] := ⟨by simp, ⟨_, _, rfl⟩, by simp, fun i h => by simp at h⟩
theorem HSat.rowOut {e : TypeId} {sz : Nat} {α : Type} {enc : α → List Value} {ps : List (Value × List α)} (H : HSat M w0 (ZBh e sz enc ps :: l) w) (i : Nat) (h : i < ps.length) : HSat M w0 (OSl e ps[i].1 sz enc ps[i].2 :: ZBh e sz enc (ps.eraseIdx i) :: l) w := by
  have hp := rows_perm (e := e) (sz := sz) (enc := enc) ps i h ps[i]
  rw [List.set_getElem_self] at hp
  have h1 := (H.unfold).perm (List.Perm.append_right l hp)
  have h2 : HSat M w0 (rowsL e sz enc (ps.eraseIdx i) ++ (OSl e ps[i].1 sz enc ps[i].2 :: l)) w := h1.perm (by
    show (OSl e ps[i].1 sz enc ps[i].2 :: (rowsL e sz enc (ps.eraseIdx i) ++ l)).Perm _
    exact (List.perm_middle (a := OSl e ps[i].1 sz enc ps[i].2) (l₁ := rowsL e sz enc (ps.eraseIdx i)) (l₂ := l)).symm)
  exact (h2.fold (by intro x hx; obtain ⟨p, _, rfl⟩ := List.mem_map.1 hx; rfl)).swap2
theorem HSat.rowIn {e : TypeId} {sz : Nat} {α : Type} {enc : α → List Value} {ps : List (Value × List α)} {i : Nat} {v : Value} {xs : List α} (H : HSat M w0 (OSl e v sz enc xs :: ZBh e sz enc (ps.eraseIdx i) :: l) w) (h : i < ps.length) : HSat M w0 (ZBh e sz enc (ps.set i (v, xs)) :: l) w := by
  have hp := rows_perm (e := e) (sz := sz) (enc := enc) ps i h (v, xs)
  have h1 : HSat M w0 (rowsL e sz enc (ps.eraseIdx i) ++ (OSl e v sz enc xs :: l)) w := H.swap2.unfold
  have h2 : HSat M w0 ((OSl e v sz enc xs :: rowsL e sz enc (ps.eraseIdx i)) ++ l) w := h1.perm (List.perm_middle (a := OSl e v sz enc xs) (l₁ := rowsL e sz enc (ps.eraseIdx i)) (l₂ := l))
  exact (h2.perm (List.Perm.append_right l hp.symm)).fold (by intro x hx; obtain ⟨p, _, rfl⟩ := List.mem_map.1 hx; rfl)
theorem HSat.rowsNil (H : HSat M w0 l w) (e : TypeId) (sz : Nat) {α : Type} (enc : α → List Value) (n : Nat) : HSat M w0 (ZBh e sz enc (List.replicate n (Value.slice none 0 0, [])) :: l) w := by
  have : HSat M w0 (rowsL e sz enc (List.replicate n (Value.slice none 0 0, [])) ++ l) w := by
    induction n with
    | zero => exact H
    | succ n ih =>
      have := ih.nilO e sz enc
      rw [List.replicate_succ]; exact this
  exact this.fold (by intro x hx; obtain ⟨p, _, rfl⟩ := List.mem_map.1 hx; rfl)
end
end
end
end Go.Gw
namespace Go.Gw
section
open Go.ChangeShapes Go.WideShapes Go.ChangeAt Go.RowKit
section
theorem Ext.below {W W' : World} (h : Ext W W') : Below W.heap.size W W' := ⟨h.os, h.tape, h.output, h.size, fun k hk => h.block hk⟩
theorem post_of_below {H : Type} {enc : TypeId × Value → H} {P : Program} {f : Func} {s : ChangeSpec} {apart fresh handsOn again : Bool} {W W' : World} {args : Array Value} {v : Value} {ds gs : List (DataW H)} {before pa pv : List MemPlace}
    (hW : DataW.Whole enc P f.params.toList s.vars apart W args.toList ds gs before)
    (hres : ∀ (b : Nat) (sp : Nat → Bool) (hd : Bool), DataW.TrodAll enc P W' b sp hd f.resultTypes.toList (v.resultList f.resultTypes.size) (s.fn H (ds ++ gs)).results [])
    (hargs : ∀ sp : Nat → Bool, (∀ p ∈ before, sp p.block = true) → DataW.TrodAll enc P W' 0 sp true f.params.toList args.toList (s.fn H (ds ++ gs)).args pa)
    (hvars : ∀ sp : Nat → Bool, (∀ p ∈ before, sp p.block = true) → DataW.TrodVars enc P W' sp s.vars (s.fn H (ds ++ gs)).vars pv)
    (hps : before = pa ++ pv) (he : Below W.heap.size W W')
    (hok : ∀ (j : Nat) (t : TypeId) (r : Value), f.resultTypes[j]? = some t → (v.resultList f.resultTypes.size)[j]? = some r → Value.okWide P W' .any 0 t r) :
    s.post enc P f apart fresh handsOn again W args v W' := by
  have hold : ∀ p ∈ before, (fun b => decide (b < W.heap.size)) p.block = true := fun p hp => by simpa using hW.lt p hp
  have hlt := hW.lt
  refine ⟨ds, gs, before, [], pa, pv, hW, hres _ _ _, hargs _ hold, hvars _ hold, World.keptBut_mono (fun p hp => ⟨hp, ?_⟩) (he.frame _), fun _ => ?_⟩
  · rw [hps, List.mem_append] at hp
    exact Or.inr hp
  obtain ⟨_, _, _, _, _, hz, hn⟩ := hW
  refine ⟨hok, _, _, ([] ++ pa) ++ pv, ⟨[] ++ pa, pv, trodAll_append (hargs _ (fun _ _ => rfl)) (hres _ _ _), hvars _ (fun _ _ => rfl), rfl, ?_, ?_⟩, ?_⟩
  · intro b off hp
    rw [he.frozen (hlt _ (by rw [hps]; simpa using hp))]
    exact hz b off (by rw [hps]; simpa using hp)
  · intro ha
    have := hn ha
    rw [hps] at this
    simpa using this
  intro p hp _
  rw [hps]
  simpa using hp
section
variable {H : Type} {enc : TypeId × Value → H} {P : Program}
theorem trodAll_stays (hl : laidOutB P = true) {W W' : World} {sp : Nat → Bool} : ∀ {ts : List TypeId} {vs : List Value} {ds : List (DataW H)} {ps : List MemPlace}, ts.all (fun t => P.readableRec t && Nat.blt t P.types.size) = true →
    DataW.TrodAll enc P W 0 (fun _ => true) true ts vs ds ps → (∀ x ∈ ps, W.sameAt W' x) → (∀ x ∈ ps, sp x.block = true) → DataW.TrodAll enc P W' 0 sp true ts vs ds ps
  | [], _, _, _, _, h, _, _ => by
    obtain ⟨rfl, rfl, rfl⟩ := trodAll_nil h
    exact trodAll_mk0
  | t :: ts, _, _, _, hr, h, hs, hp => by
    obtain ⟨v, vs1, d, ds1, a, b, rfl, rfl, rfl, h1, h2⟩ := trodAll_cons h
    simp only [List.all_cons, Bool.and_eq_true] at hr
    exact trodAll_cons_mk (WideElems.Trod_stays hl hr.1.1 (by simpa using hr.1.2) h1 (fun x hx => hs x (List.mem_append_left _ hx)) (fun x hx => hp x (List.mem_append_left _ hx)))
      (trodAll_stays hl hr.2 h2 (fun x hx => hs x (List.mem_append_right _ hx)) (fun x hx => hp x (List.mem_append_right _ hx)))
theorem law_post {f : Func} {s : ChangeSpec} {W W' : World} {args : Array Value} {ds gs : List (DataW H)} {before : List MemPlace} {bt : TypeId} (hW : DataW.Whole enc P f.params.toList s.vars false W args.toList ds gs before) (hv : s.vars = []) (hl : laidOutB P = true)
    (hr : f.params.toList.all (fun t => P.readableRec t && Nat.blt t P.types.size) = true) (hres : f.resultTypes = #[bt]) (hbt : P.underlying bt = some .bool) (hfn : s.fn H ds = { results := [.lit (.bool true)], args := ds }) (he : Ext W W') :
    s.post enc P f false true false false W args (.bool true) W' := by
  have hW' := hW
  obtain ⟨p, q, hA, hV, rfl, hfz, hnd⟩ := hW
  rw [hv] at hV
  obtain ⟨rfl, rfl⟩ := trodVars_none hV
  have hlt := hW'.lt
  simp only [List.append_nil] at hW' hlt
  refine post_of_below (pa := p) (pv := []) hW' (fun b sp hd => ?_) (fun sp hsp => ?_) (fun sp _ => ?_) (by simp) he.below (ok_one (t := bt) hres rfl (okWide_bool_mk hbt _))
  · rw [List.append_nil, hfn, hres]
    exact trodAll_mk1 (shut_bool hbt _)
  · rw [List.append_nil, hfn]
    exact trodAll_stays hl hr hA (fun x hx => he.below.same (hlt x hx)) hsp
  rw [List.append_nil, hfn, hv]; rfl
def ReadsAs (P : Program) (e : TypeId) {α : Type} (cs : α → List Value) (good : α → Prop) : Prop :=
  ∀ {H : Type} {enc : TypeId × Value → H} {w : World} {base : Nat} {spare : Nat → Bool} {held : Bool} {fuel : Nat} {vs : List Value} {x : DataW H × List MemPlace}, DataW.trod enc P w base spare held fuel e vs = some x → ∃ y, vs = cs y ∧ good y
theorem readsInt {e : TypeId} {k : IntKind} (hT : P.underlying e = some (.int k)) : ReadsAs P e (fun n : Int => [.int k n]) (fun n => (Lit.int k n).wf = true) := fun h => by
  obtain ⟨n, h1, _, h2⟩ := DataW.trod_int hT h
  exact ⟨n, h1, h2⟩
end
end
end
end Go.Gw
namespace Go.Gw
section
section
def subV (v : Value) (i j sz : Nat) : Value := match v with
  | .slice p n c => .slice (if c = i then p else p.map (·.add (i * sz))) (min j n - i) (c - i)
  | _ => .slice none 0 0
def capOK : Value → Prop
  | .slice _ n c => n ≤ c
  | _ => False
class HasCap (l : List Atom) (v : Value) : Prop where
  at_ : ∀ w, (∀ x ∈ l, x.ok w) → capOK v
theorem IsOSl.cap {w : World} {e : TypeId} {v : Value} {sz : Nat} {α : Type} {enc : α → List Value} {xs : List α} (h : IsOSl w e v sz enc xs) : capOK v := by
  rcases h.row.2 with ⟨rfl, hn⟩ | ⟨g, cap, cur, rfl, _, _, hc, _⟩
  · exact Nat.le_refl 0
  exact hc
instance (priority := 2000) HasCap.own (l : List Atom) (e : TypeId) (v : Value) (sz : Nat) (α : Type) (enc : α → List Value) (xs : List α) : HasCap (OSl e v sz enc xs :: l) v := ⟨fun w h => IsOSl.cap (h (OSl e v sz enc xs) (List.mem_cons_self ..))⟩
instance (priority := 2000) HasCap.ownRo (l : List Atom) (e : TypeId) (v : Value) (sz : Nat) (α : Type) (enc : α → List Value) (xs : List α) : HasCap (Atom.ro (OSl e v sz enc xs) :: l) v := ⟨fun w h => IsOSl.cap (h (Atom.ro (OSl e v sz enc xs)) (List.mem_cons_self ..))⟩
instance HasCap.there (l : List Atom) (x : Atom) (v : Value) [h : HasCap l v] : HasCap (x :: l) v := ⟨fun w hw => h.at_ w (fun y hy => hw y (List.mem_cons_of_mem _ hy))⟩
def CapA (v : Value) : Atom := ⟨false, fun _ => False, fun _ => capOK v, fun _ _ _ h => h, fun _ _ _ h => h.elim⟩
def CapS {β : Type} (ps : List (Value × β)) : Atom := ⟨false, fun _ => False, fun _ => ∀ p ∈ ps, capOK p.1, fun _ _ _ h => h, fun _ _ _ h => h.elim⟩
instance (priority := 2000) HasCap.a (l : List Atom) (v : Value) : HasCap (CapA v :: l) v := ⟨fun w h => h (CapA v) (List.mem_cons_self ..)⟩
instance (priority := 2000) HasCap.s (l : List Atom) (β : Type) (ps : List (Value × β)) (i : Nat) (h : i < ps.length) : HasCap (CapS ps :: l) (ps[i]'h).1 := ⟨fun w hw => hw (CapS ps) (List.mem_cons_self ..) _ (List.getElem_mem h)⟩
instance (priority := 2000) HasCap.sRo (l : List Atom) (β : Type) (ps : List (Value × β)) (i : Nat) (h : i < ps.length) : HasCap (Atom.ro (CapS ps) :: l) (ps[i]'h).1 := ⟨fun w hw => hw (Atom.ro (CapS ps)) (List.mem_cons_self ..) _ (List.getElem_mem h)⟩
instance ROs.capA (v : Value) (r : List Atom) [h : ROs r] : ROs (CapA v :: r) := ⟨by simpa [CapA] using h.all⟩
instance ROs.capS (β : Type) (ps : List (Value × β)) (r : List Atom) [h : ROs r] : ROs (CapS ps :: r) := ⟨by simpa [CapS] using h.all⟩
instance HasCap.app (l1 l : List Atom) (v : Value) [h : HasCap l v] : HasCap (l1 ++ l) v := ⟨fun w hw => h.at_ w (fun y hy => hw y (List.mem_append_right _ hy))⟩
theorem IsSl.sub {w : World} {v : Value} {sz : Nat} {α : Type} {enc : α → List Value} {xs : List α} (h : IsSl w v sz enc xs) (hc : capOK v) (i j : Nat) : IsSl w (subV v i j sz) sz enc ((xs.take j).drop i) := by
  obtain ⟨p, c, rfl⟩ := h.shape
  have hc' : xs.length ≤ c := hc
  have hl : ((xs.take j).drop i).length = min j xs.length - i := by simp
  refine ⟨by rw [hl]; have := h.len; omega, ⟨_, _, by rw [hl]; rfl⟩, fun x hx => h.sizes x (List.mem_of_mem_take (List.mem_of_mem_drop hx)), fun k hk => ?_⟩
  rw [hl] at hk
  obtain ⟨b, off, c1, he, hcell⟩ := h.cells (i + k) (by omega)
  simp only [Value.slice.injEq, true_and] at he
  obtain ⟨rfl, rfl⟩ := he
  refine ⟨b, off + i * sz, c - i, ?_, fun q u hu => ?_⟩
  · rw [hl]
    have : c ≠ i := by omega
    simp [subV, this, add_plain]
  have e : ((xs.take j).drop i)[k]'(by rw [hl]; exact hk) = xs[i + k]'(by omega) := by simp
  rw [e] at hu
  rw [← hcell q u hu]
  have : (i + k) * sz = i * sz + k * sz := Nat.add_mul ..
  rw [show off + i * sz + k * sz + q = off + (i + k) * sz + q by omega]
theorem capOK_sub {v : Value} (h : capOK v) (i j sz : Nat) : capOK (subV v i j sz) := by
  cases v <;> simp only [capOK, subV] at h ⊢ <;> omega
instance HasSl.sub (l : List Atom) (v : Value) (sz : Nat) (α : Type) (enc : α → List Value) (xs : List α) (i j : Nat) [h : HasSl l v sz α enc xs] [hc : HasCap l v] : HasSl l (subV v i j sz) sz α enc ((xs.take j).drop i) := ⟨fun w hw => (h.at_ w hw).sub (hc.at_ w hw) i j⟩
section
variable {P : Program} {o : Oper} {n : Sz} {fl : Slots} {a : Act} {w w0 : World} {v : Value} {M : Nat → Prop} {l : List Atom}
theorem elem_of {T E : TypeId} (hT : P.underlying T = some (.slice E)) : P.elem T = E := by simp [Program.elem, hT]
theorem run_sub {T E : TypeId} {sz : Nat} {α : Type} {enc : α → List Value} {xs : List α} (hT : P.underlying T = some (.slice E)) (hE : ZA8 P E sz = true) (hs : IsSl w v sz enc xs) (hc : capOK v) (i j : Nat) (hi : i ≤ j) (hj : j ≤ xs.length) (lo hi' : Option Value)
    (hlo : (lo = none ∧ i = 0) ∨ ∃ k, lo = some (.int k (i : Int))) (hhi : (hi' = none ∧ j = xs.length) ∨ ∃ k, hi' = some (.int k (j : Int))) : (Instr.sliceAt T v lo hi' none).run P w = .ok (subV v i j sz) w := by
  obtain ⟨p, c, rfl⟩ := hs.shape
  have hc' : xs.length ≤ c := hc
  have hT' : P.underlying T = some (.slice (P.elem T)) := by rw [elem_of hT]; exact hT
  rw [run_sliceAt_slice (P := P) w T _ lo hi' none hT']
  have hsz : (sizeOf (P.elem T)).run P w = .ok sz w := by rw [elem_of hT]; exact ZBM (sizeB_size hE)
  have fin : ∀ (i' j' : Nat), i' = i → j' = j → (Result.ok (sliced p i' j' c sz) w : Result Value) = .ok (subV (.slice p xs.length c) i j sz) w := by
    rintro _ _ rfl rfl
    simp only [sliced, subV]
    rw [Nat.min_eq_left hj]
  rcases hlo with ⟨rfl, rfl⟩ | ⟨k, rfl⟩ <;> rcases hhi with ⟨rfl, rfl⟩ | ⟨k2, rfl⟩
  · rw [run_slice_all (P := P) w T p xs.length c hT', hsz]; exact fin _ _ rfl rfl
  · rw [run_slice_h (P := P) w T p xs.length c hT' k2 _ (by omega) (by omega), hsz]; exact fin _ _ rfl (by simp)
  · rw [run_slice_l (P := P) w T p xs.length c hT' k _ (by omega) (by omega), hsz]; exact fin _ _ (by simp) rfl
  rw [run_slice_lh (P := P) w T p xs.length c hT' k k2 _ _ (by omega) (by omega) (by omega), hsz]; exact fin _ _ (by simp) (by simp)
theorem y_sliceH {T E : TypeId} {x hi : Operand} {k : IntKind} {j : Nat} {sz : Nat} {α : Type} {enc : α → List Value} {xs : List α} (ho : o.op = .slice T x none (some hi) none) (hT : P.underlying T = some (.slice E)) (hE : ZA8 P E sz = true) (S : St n fl a) (H : HSat M w0 l w)
    (hx : ev fl x = some v) (hh : ev fl hi = some (.int k (j : Int))) [h : HasSl l v sz α enc xs] [hc : HasCap l v] (hb : j ≤ xs.length) : Yld P o a w (subV v 0 j sz) := by
  unfold Yld execOp; rw [ho]
  simp only [Option.map_some, Option.map_none, S.ev hx, S.ev hh]
  simp only [Sem.run_bind, run_sub hT hE (H.sl v) (hc.at_ w H.ok) 0 j (by omega) hb none _ (.inl ⟨rfl, rfl⟩) (.inr ⟨k, rfl⟩), Result.andThen_ok, Sem.run_pure]
theorem y_sliceL {T E : TypeId} {x lo : Operand} {k : IntKind} {i : Nat} {sz : Nat} {α : Type} {enc : α → List Value} {xs : List α} (ho : o.op = .slice T x (some lo) none none) (hT : P.underlying T = some (.slice E)) (hE : ZA8 P E sz = true) (S : St n fl a) (H : HSat M w0 l w)
    (hx : ev fl x = some v) (hl : ev fl lo = some (.int k (i : Int))) [h : HasSl l v sz α enc xs] [hc : HasCap l v] (hb : i ≤ xs.length) : Yld P o a w (subV v i xs.length sz) := by
  unfold Yld execOp; rw [ho]
  simp only [Option.map_some, Option.map_none, S.ev hx, S.ev hl]
  simp only [Sem.run_bind, run_sub hT hE (H.sl v) (hc.at_ w H.ok) i xs.length hb (Nat.le_refl _) _ none (.inr ⟨k, rfl⟩) (.inl ⟨rfl, rfl⟩), Result.andThen_ok, Sem.run_pure]
end
section
variable {w w' w0 : World} {M : Nat → Prop} {l : List Atom}
theorem HSat.cap (H : HSat M w0 l w) (v : Value) [h : HasCap l v] : capOK v := h.at_ w H.ok
theorem HSat.call3 {x y z : Atom} (H : HSat M w0 l w) (H' : HSat No w [x, y, z] w') (hx : x.own = true) (hy : y.own = true) (hz : z.own = true) : HSat M w0 (x :: y :: z :: l) w' := H.call H' (by simp [hx, hy, hz])
theorem HSat.rowsZ (H : HSat M w0 l w) (e : TypeId) (sz : Nat) {α : Type} (enc : α → List Value) : HSat M w0 (ZBh e sz enc [] :: l) w := H.rowsNil e sz enc 0
theorem HSat.rowSnoc {e : TypeId} {sz : Nat} {α : Type} {enc : α → List Value} {ps : List (Value × List α)} {v : Value} {xs : List α} (H : HSat M w0 (OSl e v sz enc xs :: ZBh e sz enc ps :: l) w) : HSat M w0 (ZBh e sz enc (ps ++ [(v, xs)]) :: l) w := by
  have h1 : HSat M w0 (rowsL e sz enc ps ++ (OSl e v sz enc xs :: l)) w := H.swap2.unfold
  have e1 : rowsL e sz enc (ps ++ [(v, xs)]) = rowsL e sz enc ps ++ [OSl e v sz enc xs] := by simp [rowsL]
  have h2 : HSat M w0 (rowsL e sz enc (ps ++ [(v, xs)]) ++ l) w := by rw [e1, List.append_assoc]; exact h1
  exact h2.fold (by intro x hx; obtain ⟨p, _, rfl⟩ := List.mem_map.1 hx; rfl)
end
theorem cutQ {r : Option Nat} {P : Program} {Q : Exit → Act → World → Prop} {a : Act} {w : World} {c : Code} (J : Act → World → Prop) (h : gp r P c (Exit.then J Q) a w) (hk : ∀ a' w', J a' w' → Q .normal a' w') : gp r P c Q a w :=
  g_mono h (fun e a w hq => by cases e <;> first | exact hk _ _ hq | exact hq)
end
end
end Go.Gw
namespace Go.Gw
section
open Go.ChangeShapes Go.WideShapes Go.ChangeAt Go.RowKit
section
section
variable {H : Type} {enc : TypeId × Value → H} {P : Program} {W : World}
def ReadsAt (P : Program) (W : World) (e : TypeId) {α : Type} (cs : α → List Value) (good : α → Prop) : Prop :=
  ∀ {H : Type} {enc : TypeId × Value → H} {base : Nat} {spare : Nat → Bool} {held : Bool} {fuel : Nat} {vs : List Value} {x : DataW H × List MemPlace}, DataW.trod enc P W base spare held fuel e vs = some x → ∃ y, vs = cs y ∧ good y
theorem ReadsAs.at_ {e : TypeId} {α : Type} {cs : α → List Value} {good : α → Prop} (h : ReadsAs P e cs good) : ReadsAt P W e cs good := fun hx => h hx
theorem ReadsAt.mono {e : TypeId} {α β : Type} {cs : α → List Value} {good : α → Prop} {cs' : β → List Value} {good' : β → Prop} (h : ReadsAt P W e cs good) (f : α → β) (hc : ∀ y, good y → cs y = cs' (f y)) (hg : ∀ y, good y → good' (f y)) : ReadsAt P W e cs' good' := fun hx => by
  obtain ⟨y, h1, h2⟩ := h hx
  exact ⟨f y, h1.trans (hc y h2), hg y h2⟩
theorem reads_slice {t e : TypeId} {sz : Nat} {α : Type} {cs : α → List Value} {good : α → Prop} (hT : P.underlying t = some (.slice e)) (hc : P.cellsOf e = sz) (hpos : 0 < sz) (hE : ReadsAt P W e cs good) :
    ReadsAt P W t (fun y : Value × List α => [y.1]) (fun y => IsSl W y.1 sz cs y.2 ∧ capOK y.1 ∧ ∀ x ∈ y.2, good x) := fun {H enc base spare held fuel vs x} hf => by
  rcases DataW.trod_slice hT hf with ⟨rfl, _⟩ | ⟨a, len, cap, elems, rest, n, _, rfl, hx, hb, hlc, hcm, hel, hat, _, _⟩
  · exact ⟨(.slice none 0 0, []), rfl, ⟨by simp, ⟨_, _, rfl⟩, by simp, fun i hi => by simp at hi⟩, Nat.le_refl 0, by simp⟩
  have hsp0 : 0 < len → a.spot = none := fun h0 => by
    have h1 := hat 0 h0
    rw [List.getElem?_eq_getElem (by omega)] at h1
    obtain ⟨c, hcells, hy⟩ := Option.bind_eq_some_iff.1 h1
    obtain ⟨_, hlen, hcell⟩ := World.cells?_some hcells
    rw [hc] at hlen hcell
    have g0 := hcell 0 hpos
    rw [List.getElem?_eq_getElem (by omega)] at g0
    have := World.cell?_spot g0
    simpa [Addr.add] using this
  have hstep : ∀ i, i < len → ∃ y : α, good y ∧ (cs y).length = sz ∧ ∃ b off, a = ⟨b, off, none⟩ ∧ ∀ j u, (cs y)[j]? = some u → W.cell? ⟨b, off + i * sz + j, none⟩ = some u := fun i hi => by
    have h1 := hat i hi
    rw [List.getElem?_eq_getElem (by omega)] at h1
    obtain ⟨c, hcells, hy⟩ := Option.bind_eq_some_iff.1 h1
    obtain ⟨y, rfl, hg⟩ := hE hy
    obtain ⟨_, hlen, hcell⟩ := World.cells?_some hcells
    rw [hc] at hlen hcell
    obtain ⟨b, off, spot⟩ := a
    refine ⟨y, hg, hlen, ?_⟩
    have hspot : spot = none := hsp0 (by omega)
    subst hspot
    refine ⟨b, off, rfl, fun j u hu => ?_⟩
    have hj : j < sz := by rw [← hlen]; exact (List.getElem?_eq_some_iff.1 hu).1
    have := hcell j hj
    rw [add_plain, add_plain] at this
    rw [this, hu]
  have : ∀ k, k ≤ len → ∃ xs : List α, xs.length = k ∧ (∀ x ∈ xs, good x ∧ (cs x).length = sz) ∧ ∀ i (h : i < xs.length), ∃ b off, a = ⟨b, off, none⟩ ∧ ∀ j u, (cs xs[i])[j]? = some u → W.cell? ⟨b, off + i * sz + j, none⟩ = some u := by
    intro k
    induction k with
    | zero => intro _; exact ⟨[], rfl, by simp, fun i h => by simp at h⟩
    | succ k ih =>
      intro hk
      obtain ⟨xs, hl, hg, hc'⟩ := ih (by omega)
      obtain ⟨y, g, gl, hy⟩ := hstep k (by omega)
      refine ⟨xs ++ [y], by simp [hl], fun x hx => ?_, fun i hi => ?_⟩
      · rcases List.mem_append.1 hx with h | h
        · exact hg x h
        simp at h; subst h; exact ⟨g, gl⟩
      by_cases hik : i < xs.length
      · rw [List.getElem_append_left hik]; exact hc' i hik
      obtain rfl : i = k := by simp at hi; omega
      rw [List.getElem_append_right (by omega)]
      simpa [hl] using hy
  obtain ⟨xs, hl, hg, hc'⟩ := this len (Nat.le_refl _)
  have hm : maxLen = 9223372036854775807 := by decide
  refine ⟨(.slice (some a) len cap, xs), rfl, ?_⟩
  show IsSl W (.slice (some a) len cap) sz cs xs ∧ capOK (.slice (some a) len cap) ∧ ∀ x ∈ xs, good x
  refine ⟨⟨by omega, ⟨_, _, by rw [hl]⟩, fun x hx => (hg x hx).2, fun i hi => ?_⟩, hlc, fun x hx => (hg x hx).1⟩
  obtain ⟨b, off, rfl, h⟩ := hc' i hi
  exact ⟨b, off, cap, by rw [hl], h⟩
def fieldsB (P : Program) (fs : Array Field) (ts : List TypeId) (n : Nat) : Bool :=
  (fs.toList.map (·.type) == ts) && (decide ((ts.map P.cellsOf).sum = n) && (List.range ts.length).all (fun i => match fs[i]? with | some f => f.offset == ((ts.take i).map P.cellsOf).sum | none => false))
theorem arg_at {base : Nat} {sp : Nat → Bool} {held : Bool} {t : TypeId} {α : Type} {cs : α → List Value} {good : α → Prop} {v : Value} {d : DataW H} {ps : List MemPlace} (hE : ReadsAt P W t cs good) (hd : DataW.Trod enc P W base sp held t v d ps) : ∃ y, v.cells.toList = cs y ∧ good y := by
  obtain ⟨fuel, hf⟩ := hd
  exact hE hf
theorem arg_sl {r : Reach} {b0 : Nat} {base : Nat} {sp : Nat → Bool} {held : Bool} {t e : TypeId} {sz : Nat} {α : Type} {cs : α → List Value} {good : α → Prop} {v : Value} {d : DataW H} {ps : List MemPlace} (hT : P.underlying t = some (.slice e)) (hc : P.cellsOf e = sz) (hpos : 0 < sz) (hE : ReadsAt P W e cs good)
    (hval : Value.okWide P W r b0 t v) (hd : DataW.Trod enc P W base sp held t v d ps) : ∃ xs : List α, IsSl W v sz cs xs ∧ capOK v ∧ ∀ x ∈ xs, good x := by
  obtain ⟨p, len, cap, rfl⟩ := okWide_slice hT hval
  obtain ⟨y, h1, h2⟩ := arg_at (reads_slice hT hc hpos hE) hd
  simp [Value.cells] at h1
  exact ⟨y.2, by rw [h1]; exact h2⟩
end
end
end
end Go.Gw
namespace Go.Gw
section
section
theorem g_scope {P : Program} {Q : Exit → Act → World → Prop} {a : Act} {w : World} {c : Code} (h : gp none P c (Exit.noGoto Q) a w) : gp none P (.scope c) Q a w := wpIn_wide.2 (wp_scope_straight (wpIn_wide.1 h))
theorem g_label {r : Option Nat} {P : Program} {Q : Exit → Act → World → Prop} {a : Act} {w : World} {l : Nat} (h : Q .normal a w) : gp r P (.label l) Q a w := wpIn_label h
theorem n_scope {Q : Exit → Act → World → Prop} {a : Act} {w : World} (h : Q .normal a w) : Exit.noGoto Q .normal a w := h
structure IsQ (w : World) (e : TypeId) (v : Value) {α : Type} (enc : α → List Value) (xs : List α) : Prop where
  len : xs.length ≤ 9223372036854775807
  sizes : ∀ x ∈ xs, (enc x).length = 1
  row : ∃ g off cap cur, v = .slice (some ⟨g, off, none⟩) xs.length cap ∧ w.heap[g]? = some (.cells cur e (0, 0)) ∧ xs.length ≤ cap ∧ cap ≤ maxLen ∧ off + cap ≤ cur.size ∧ ∀ (j : Nat) (u : Value), (xs.flatMap enc)[j]? = some u → cur[off + j]? = some u
def QSl (e : TypeId) (v : Value) {α : Type} (enc : α → List Value) (xs : List α) : Atom where
  own := true
  fp := fun k => v.ownBlock = some k
  ok := fun w => IsQ w e v enc xs
  loc := fun w w' h hok => ⟨hok.len, hok.sizes, by
    obtain ⟨g, off, cap, cur, hv, hg, r⟩ := hok.row
    exact ⟨g, off, cap, cur, hv, by rw [h g (by rw [hv]; rfl)]; exact hg, r⟩⟩
  lt := fun w b hok hb => by
    obtain ⟨g, off, cap, cur, hv, hg, r⟩ := hok.row
    rw [hv] at hb
    simp only [Value.ownBlock, Option.some.injEq] at hb
    subst hb
    exact (Array.getElem?_eq_some_iff.1 hg).1
theorem IsQ.sl {w : World} {e : TypeId} {v : Value} {α : Type} {enc : α → List Value} {xs : List α} (h : IsQ w e v enc xs) : IsSl w v 1 enc xs := by
  obtain ⟨g, off, cap, cur, hv, hg, hc, _, hs, hx⟩ := h.row
  refine ⟨h.len, ⟨_, _, hv⟩, h.sizes, fun i hi => ⟨g, off, cap, hv, fun j u hu => ?_⟩⟩
  have hj : j < 1 := by
    have h1 := (List.getElem?_eq_some_iff.1 hu).1
    have h2 := h.sizes _ (List.getElem_mem hi)
    omega
  obtain rfl : j = 0 := by omega
  have hf := flatMap_at h.sizes i hi 0 (by omega)
  rw [hu] at hf
  have := hx _ _ hf
  rw [cell_of_row w g _ cur e (0, 0) hg]
  simpa [Nat.add_assoc] using this
theorem IsQ.cap {w : World} {e : TypeId} {v : Value} {α : Type} {enc : α → List Value} {xs : List α} (h : IsQ w e v enc xs) : capOK v := by
  obtain ⟨g, off, cap, cur, rfl, _, hc, _⟩ := h.row
  exact hc
instance (priority := 2000) HasSl.que (l : List Atom) (e : TypeId) (v : Value) (α : Type) (enc : α → List Value) (xs : List α) : HasSl (QSl e v enc xs :: l) v 1 α enc xs := ⟨fun w h => IsQ.sl (h (QSl e v enc xs) (List.mem_cons_self ..))⟩
instance (priority := 2000) HasCap.que (l : List Atom) (e : TypeId) (v : Value) (α : Type) (enc : α → List Value) (xs : List α) : HasCap (QSl e v enc xs :: l) v := ⟨fun w h => IsQ.cap (h (QSl e v enc xs) (List.mem_cons_self ..))⟩
section
variable {P : Program} {o : Oper} {n : Sz} {fl : Slots} {a : Act} {w w0 : World} {v : Value} {M : Nat → Prop} {l : List Atom} {ops : Array Oper} {d : Nat} {K : Act → World → Prop}
theorem HSat.giveSl {e : TypeId} {sz : Nat} {α : Type} {enc : α → List Value} {xs : List α} (H : HSat M w0 (OSl e v sz enc xs :: l) w) : HSat M w0 (Sl v sz enc xs :: l) w :=
  H.conv (fun h => by cases h) (fun b hb => hb.1) (fun hok => IsOSl.sl hok)
end
end
section
section
variable {P : Program} {o : Oper} {n : Sz} {fl : Slots} {a : Act} {w w0 : World} {v : Value} {M : Nat → Prop} {l : List Atom} {ops : Array Oper} {d : Nat} {K : Act → World → Prop}
theorem flat_len1 {α : Type} {enc : α → List Value} {xs : List α} (hs : ∀ x ∈ xs, (enc x).length = 1) : (xs.flatMap enc).length = xs.length := by
  have := ZA7 hs; omega
theorem flat_take1 {α : Type} {enc : α → List Value} : ∀ {xs : List α} (hs : ∀ x ∈ xs, (enc x).length = 1) (i : Nat), (xs.flatMap enc).take i = (xs.take i).flatMap enc
  | [], _, i => by simp
  | x :: r, hs, 0 => by simp
  | x :: r, hs, i + 1 => by
    have h1 := hs x (by simp)
    have ih := flat_take1 (xs := r) (fun y hy => hs y (by simp [hy])) i
    simp only [List.flatMap_cons, List.take_succ_cons]
    rw [List.take_append, List.take_of_length_le (by omega), h1, ← ih]
    simp
theorem flat_drop1 {α : Type} {enc : α → List Value} : ∀ {xs : List α} (hs : ∀ x ∈ xs, (enc x).length = 1) (i : Nat), (xs.flatMap enc).drop i = (xs.drop i).flatMap enc
  | [], _, i => by simp
  | x :: r, hs, 0 => by simp
  | x :: r, hs, i + 1 => by
    have h1 := hs x (by simp)
    have ih := flat_drop1 (xs := r) (fun y hy => hs y (by simp [hy])) i
    simp only [List.flatMap_cons, List.drop_succ_cons]
    rw [List.drop_append, List.drop_of_length_le (by omega), h1, ← ih]
    simp
theorem IsSl.one {sz : Nat} {α : Type} {enc : α → List Value} {xs : List α} (h : IsSl w v sz enc xs) : v.oneCell' = true := by
  obtain ⟨p, c, rfl⟩ := h.shape; rfl
theorem op_copy {T T2 E : TypeId} {x y : Operand} {vd vs : Value} {i m : Nat} {α : Type} {enc : α → List Value} {xs ys : List α} {l' : Atom → List Atom} (v : Value) (hw : Region.wanted o (yielded ops a.tmps) = true) (hd : o.dst = some d) (hn : Nat.blt d n.n = true) (ho : o.op = .call { callee := .builtin .copy, args := #[x, y], argTypes := #[T, T2] }) (hT : P.underlying T = some (.slice E)) (hE : ZA8 P E 1 = true)
    (S : St n fl a) (H : HSat M w0 l w) (hx : ev fl x = some vd) (hy : ev fl y = some vs) [hO : HasO l v E 1 α enc xs l'] [hY : HasSl l vs 1 α enc ys] (hvd : (vd = v ∧ i = 0) ∨ vd = subV v i xs.length 1) (h1 : ∀ y ∈ ys, ∀ u ∈ enc y, u.oneCell' = true) (hi : i ≤ xs.length) (hm : m = min ys.length (xs.length - i))
    (k : ∀ a' w', St n ((d, .int .i64 (m : Int)) :: fl) a' → HSat M w0 (l' (OSl E v 1 enc (xs.take i ++ ys.take m ++ xs.drop (i + m)))) w' → K a' w') : opw P ops o a w K := by
  obtain ⟨l1, l2, e1, e2⟩ := hO.at_
  have hok : IsOSl w E v 1 enc xs := H.ok (OSl E v 1 enc xs) (by rw [e1]; simp)
  have hsl := H.sl vs (h := hY)
  obtain ⟨q, c, hvsh⟩ := hsl.shape
  have hs1 : (P.info? E).map (·.size) = some 1 := sizeB_size hE
  have hcap := hok.cap
  -- the destination
  have hdst : ∃ p cd, vd = .slice p (xs.length - i) cd ∧ ∀ g off cp, v = .slice (some ⟨g, off, none⟩) xs.length cp → i < xs.length → p = some ⟨g, off + i, none⟩ := by
    obtain ⟨pv, cv, hv⟩ := hok.sl.shape
    have hcv : xs.length ≤ cv := by rw [hv] at hcap; exact hcap
    rcases hvd with ⟨rfl, rfl⟩ | rfl
    · exact ⟨pv, cv, by rw [hv]; simp, fun g off cp e _ => by rw [e] at hv; cases hv; rfl⟩
    subst hv
    refine ⟨if cv = i then pv else pv.map (·.add (i * 1)), cv - i, by simp [subV], fun g off cp e hlt => ?_⟩
    rw [if_neg (by omega)]
    cases e
    simp [add_plain]
  obtain ⟨p, cd, hvd', hp⟩ := hdst
  by_cases hm0 : m = 0
  · have hrun : (execOp a.eval o).run P w = .ok (.value (.int .i64 ((0 : Nat) : Int))) w := by
      unfold execOp; rw [ho]
      simp only [resolve, invoke, builtin, Sem.run_bind, Sem.run_pure, Result.andThen_ok, List.map_toArray, List.map_cons, List.map_nil, S.ev hx, S.ev hy]
      rw [hvd', hvsh]
      have hz : Nat.min ys.length (xs.length - i) = 0 := by show min _ _ = 0; omega
      have hsz : (sizeOf E).run P w = .ok 1 w := ZBM hs1
      have hf : (Builtin.firstCells 1 0 (.slice q ys.length c)).run P w = .ok #[] w := by
        cases q with
        | none => rfl
        | some ad => simp [Builtin.firstCells, loadCells, loadCellsFrom]
      simp only [Builtin.copy_, Sem.run_bind, run_underlying hT, Result.andThen_ok, Builtin.lenOf, Sem.run_pure, hz, hsz, hf, goInt]
      cases p <;> simp [storeCells, hf, hsz, run_underlying hT, Builtin.lenOf, hz, goInt]
    refine opw_val hw hrun ?_
    rw [hd]
    subst hm0
    refine k _ _ (S.put hn _) ?_
    rw [e2, List.take_zero, List.append_nil, Nat.add_zero, List.take_append_drop, ← e1]; exact H
  have hmp : 0 < m := by omega
  have hne : xs ≠ [] := fun e => by subst e; simp at hm; omega
  have hney : ys ≠ [] := fun e => by subst e; simp at hm; omega
  rcases hok.row.2 with ⟨_, hnn⟩ | ⟨g, cap, cur, hv, hbase, hg, hnc, hcm, hcs, ht⟩
  · exact absurd (List.eq_nil_of_length_eq_zero hnn) hne
  obtain ⟨b, off, c', hvs', hcell⟩ := hsl.flat (by omega) hney
  have hp' : p = some ⟨g, i, none⟩ := by rw [hp g 0 cap hv (by omega)]; simp
  have hlm : ((ys.take m).flatMap enc).length = m := by
    rw [flat_len1 (fun y hy => hsl.sizes y (List.mem_of_mem_take hy)), List.length_take]; omega
  have hcur : cap ≤ cur.size := by omega
  have hrun : (execOp a.eval o).run P w = .ok (.value (.int .i64 (m : Int))) (w.setRow g (cur.toList.take i ++ (ys.take m).flatMap enc ++ cur.toList.drop (i + ((ys.take m).flatMap enc).length)).toArray) := by
    unfold execOp; rw [ho]
    simp only [resolve, invoke, builtin, Sem.run_bind, Sem.run_pure, Result.andThen_ok, List.map_toArray, List.map_cons, List.map_nil, S.ev hx, S.ev hy]
    have hr := run_copy_row (P := P) w T T2 o.type E g i (xs.length - i) cd ⟨b, off, none⟩ ys.length c' cur E ((ys.take m).flatMap enc) hT hs1 hg (by rw [hlm]; exact hm) (fun j u hu => by
      rw [add_plain]; refine hcell j u ?_
      rw [← flat_take1 hsl.sizes, List.getElem?_take] at hu
      split at hu
      · exact hu
      · cases hu) (by rw [hlm]; omega) (fun u hu => by
      obtain ⟨y, hy, hu⟩ := List.mem_flatMap.1 hu
      exact h1 y (List.mem_of_mem_take hy) u hu)
    rw [hvd', hp', hvs', hr]
    simp [hlm, goInt]
  refine opw_val hw hrun ?_
  rw [hd]
  refine k _ _ (S.put hn _) ?_
  rw [e2]
  rw [e1] at H
  have hL : (xs.take i ++ ys.take m ++ xs.drop (i + m)).length = xs.length := by
    simp only [List.length_append, List.length_take, List.length_drop]; omega
  have hflat : (xs.take i ++ ys.take m ++ xs.drop (i + m)).flatMap enc = (xs.flatMap enc).take i ++ (ys.take m).flatMap enc ++ (xs.flatMap enc).drop (i + m) := by
    rw [List.flatMap_append, List.flatMap_append, flat_take1 hok.sizes, flat_drop1 hok.sizes]
  have hxl := flat_len1 hok.sizes
  refine HSat.swap H rfl rfl (⟨rfl, rfl, rfl, by simp [World.setRow], fun r _ hr => setRow_other w g r _ (fun e => hr (by subst e; rw [hv]; rfl)), fun r _ hr => ?_⟩) ⟨⟨?_, .inr ⟨g, cap, _, by rw [hL]; exact hv, hbase, setRow_heap w g _ _ _ _ hg, by rw [hL]; exact hnc, hcm, ?_, ?_⟩⟩, by rw [hL]; exact hok.len, fun z hz => ?_⟩ (fun b hb => .inl hb)
  · by_cases hqg : r = g
    · subst hqg; rw [setRow_heap w r _ _ _ _ hg]; exact Nat.le_refl 0
    rw [setRow_other w g r _ hqg]; exact hr
  · rw [hflat, hL]
    simp only [List.length_append, List.length_take, List.length_drop, hlm, hxl]; omega
  · simp only [List.size_toArray, List.length_append, List.length_take, List.length_drop, Array.length_toList, hlm]; omega
  · rw [hflat, hL, hlm]
    have ht' : xs.flatMap enc = cur.toList.take xs.length := by rw [← ht]; simp
    rw [ht']
    have hcl : cur.toList.length = cur.size := by simp
    have m1 : min i cur.toList.length = i := by omega
    have m2 : min xs.length i = i := by omega
    have m3 : min i xs.length = i := by omega
    simp only [Nat.mul_one]
    rw [List.take_append, List.take_append, List.length_append, List.length_take, List.take_take, List.take_take, List.drop_take, m1, m2, m3, List.take_of_length_le (l := (ys.take m).flatMap enc) (by omega), hlm]
  rcases List.mem_append.1 hz with hz | hz
  · rcases List.mem_append.1 hz with hz | hz
    · exact hok.sizes z (List.mem_of_mem_take hz)
    exact hsl.sizes z (List.mem_of_mem_take hz)
  exact hok.sizes z (List.mem_of_mem_drop hz)
theorem y_andu {T U : TypeId} {x y : Operand} {m q r : Nat} (ho : o.op = .binOp .and T x y U) (S : St n fl a) (hx : ev fl x = some (.int .u64 (m : Int))) (hy : ev fl y = some (.int .u64 (q : Int))) (hm : m < 18446744073709551616) (hq : q < 18446744073709551616) (hr : m &&& q = r) : Yld P o a w (.int .u64 (r : Int)) := by
  unfold Yld execOp; rw [ho]; simp only [S.ev hx, S.ev hy]
  have h := bits_and_u64_nat m q hm hq
  rw [hr] at h
  simp only [bits] at h
  simp only [eqGuard, binOp, Op.intBits, h]
  simp [h]
theorem y_shr {T U : TypeId} {x y : Operand} {k k2 : IntKind} {m q r : Int} (ho : o.op = .binOp .shr T x y U) (S : St n fl a) (hx : ev fl x = some (.int k m)) (hy : ev fl y = some (.int k2 q)) (hq : 0 ≤ q) (hr : m.fdiv (2 ^ (min q.toNat k.bits)) = r) : Yld P o a w (.int k r) := by
  unfold Yld execOp; rw [ho]; simp only [S.ev hx, S.ev hy]
  simp [eqGuard, binOp, Op.shift, show ¬ q < 0 by omega, hr]
theorem ZBT {κ β : Type} {inst : DecidableEq κ} {T kt et : TypeId} {x ix : Operand} {b : Nat} {kenc : κ → Value} {enc : β → Value} {m : κ → Option β} {c : Nat} (k : κ) (z0 : β) {z : Value} {sz by_ : Nat} (ho : o.op = .lookup T x ix false) (hT : P.underlying T = some (.map kt et)) (hE : infoB P et = some (z, sz, by_)) (S : St n fl a) (H : HSat M w0 l w)
    (hx : ev fl x = some (.map (some b))) [h : RdMap l b κ β inst kenc enc m c] (KO : KeyOK P kt kenc) (hi : ev fl ix = some (kenc k)) (hz : enc z0 = z) (hv : enc ((m k).getD z0) = v) : Yld P o a w v := by
  rw [← hv]; exact y_lookup k z0 ho hT hE S H hx KO hi hz
theorem y_lookupokE {κ β : Type} {inst : DecidableEq κ} {T kt et : TypeId} {x ix : Operand} {b : Nat} {kenc : κ → Value} {enc : β → Value} {m : κ → Option β} {c : Nat} (k : κ) (z0 : β) {z : Value} {sz by_ : Nat} (ho : o.op = .lookup T x ix true) (hT : P.underlying T = some (.map kt et)) (hE : infoB P et = some (z, sz, by_)) (S : St n fl a) (H : HSat M w0 l w)
    (hx : ev fl x = some (.map (some b))) [h : RdMap l b κ β inst kenc enc m c] (KO : KeyOK P kt kenc) (hi : ev fl ix = some (kenc k)) (hz : enc z0 = z) (hv : Value.tuple #[enc ((m k).getD z0), .bool (m k).isSome] = v) : Yld P o a w v := by
  rw [← hv]; exact y_lookupok k z0 ho hT hE S H hx KO hi hz
theorem HSat.call4 {w' : World} {x y z u : Atom} (H : HSat M w0 l w) (H' : HSat No w [x, y, z, u] w') (hx : x.own = true) (hy : y.own = true) (hz : z.own = true) (hu : u.own = true) : HSat M w0 (x :: y :: z :: u :: l) w' :=
  H.call H' (by intro q hq; simp only [List.mem_cons, List.not_mem_nil, or_false] at hq; rcases hq with rfl | rfl | rfl | rfl <;> assumption)
theorem ret2ct {fn : Func} {R : Value → World → Prop} {u s T b : Nat} {v' : Value} {cs : List Value} {T' : TypeId} {fz : Nat × Nat} (hr : fn.results = #[.cell u T, .tmp s]) (S : St n fl a) (H : HSat M w0 l w) (hu : fl.lookup u = some (.pointer (some ⟨b, 0, none⟩))) (hv' : fl.lookup s = some v')
    [h : HasRd l b (.cells cs.toArray T' fz)] (hT : aggB P T cs.length = true) (hR : R (.tuple #[.agg cs.toArray, v']) w) (hds : n.ds = [] := by rfl) : endP P fn R .ret a w := by
  refine end_ret S hds (v := .tuple #[.agg cs.toArray, v']) ?_ hR
  have hl := ZBc (P := P) (w := w) (p := ⟨b, 0, none⟩) hT (fun j u hu => by rw [add_plain, H.cell h]; simpa using hu)
  have hu' : a.tmps[u]?.getD undef = .pointer (some ⟨b, 0, none⟩) := by rw [← Array.getD_eq_getD_getElem?]; exact S.get u _ hu
  have h2 : a.tmps[s]?.getD undef = v' := by rw [← Array.getD_eq_getD_getElem?]; exact S.get s _ hv'
  simp [results, hr, hu', h2, asAddr, hl]
theorem ret2tcM {fn : Func} {R : Value → World → Prop} {t u T b : Nat} {cs : List Value} {T' : TypeId} {fz : Nat × Nat} {m : Nat} {ds : List Nat} (hr : fn.results = #[.tmp t, .cell u T]) (S : St ⟨m, ds.map ZB0⟩ fl a) (H : HSat M w0 (ZBe ds :: l) w) (hv : fl.lookup t = some v) (hu : fl.lookup u = some (.pointer (some ⟨b, 0, none⟩)))
    [h : HasRd l b (.cells cs.toArray T' fz)] (hT : aggB P T cs.length = true) (hR : ∀ w, HSat M w0 l w → R (.tuple #[v, .agg cs.toArray]) w) : endP P fn R .ret a w := by
  show LeavesInM Fence.wide 0 P fn a.tmps _ a.defers .returning w
  rw [S.defers]
  refine leavesM (fun w H => ?_) hR ds w H
  have hl := ZBc (P := P) (w := w) (p := ⟨b, 0, none⟩) hT (fun j u hu => by rw [add_plain, H.cell h]; simpa using hu)
  have hu' : a.tmps[u]?.getD undef = .pointer (some ⟨b, 0, none⟩) := by rw [← Array.getD_eq_getD_getElem?]; exact S.get u _ hu
  have h1 : a.tmps[t]?.getD undef = v := by rw [← Array.getD_eq_getD_getElem?]; exact S.get t _ hv
  simp [results, hr, hu', h1, asAddr, hl]
theorem y_convg {T D : TypeId} {x : Operand} {k k' k2 : IntKind} {m r : Int} (ho : o.op = .convert T D x) (hT : P.underlying T = some (.int k)) (hD : P.underlying D = some (.int k2)) (S : St n fl a) (hx : ev fl x = some (.int k' m)) (hr : k2.wrap m = r) : Yld P o a w (.int k2 r) := by
  unfold Yld execOp; rw [ho]; simp [S.ev hx, convert, run_underlying hT, run_underlying hD, Conv.intToInt, hr]
end
theorem DL : (∀ (α : Type) (x : α), (some x).isNone = false) ∧ (∀ (α : Type), (none : Option α).isNone = true) ∧ (∀ (α : Type) (x : α), (some x).isSome = true) ∧ (∀ (α : Type), (none : Option α).isSome = false) ∧
    (∀ p : Prop, (False ∨ p) = p) ∧ (∀ p : Prop, (p ∨ False) = p) ∧ (∀ p : Prop, (True ∧ p) = p) ∧ (∀ p : Prop, (p ∧ True) = p) ∧ (∀ (p : Prop) [Decidable p], (decide p = true) = p) ∧ (∀ (p : Prop) [Decidable p], decide p = false ↔ ¬p) ∧
    (∀ x y : Bool, ((x || y) = true) = (x = true ∨ y = true)) ∧ (∀ x y : Bool, ((x && y) = true) = (x = true ∧ y = true)) ∧ (∀ x y : Bool, ((x || y) = false) = (x = false ∧ y = false)) ∧ (∀ x y : Bool, ((x && y) = false) = (x = false ∨ y = false)) ∧
    (∀ x : Bool, ((!x) = true) = (x = false)) ∧ (∀ x : Bool, ((!x) = false) = (x = true)) ∧ (∀ (α : Type) [BEq α] [LawfulBEq α] (x y : α), (x != y) = true ↔ x ≠ y) ∧ (∀ (α : Type) [BEq α] [LawfulBEq α] (x y : α), (x == y) = true ↔ x = y) ∧
    (∀ (α : Type) [BEq α] [LawfulBEq α] (x y : α), (x == y) = false ↔ x ≠ y) ∧ (∀ (α : Type) [BEq α] [LawfulBEq α] (x y : α), (x != y) = false ↔ x = y) ∧ (∀ (α : Type) (x y : α), (x ≠ y) = ¬(x = y)) ∧ (∀ (p : Prop) [Decidable p], ¬¬p ↔ p) ∧
    (∀ x y : Int, ¬x < y ↔ y ≤ x) ∧ (∀ x y : Int, ¬x ≤ y ↔ y < x) ∧ (∀ x y : Int, x > y ↔ y < x) ∧ (∀ x y : Int, x ≥ y ↔ y ≤ x) ∧ (∀ x y : Nat, x > y ↔ y < x) ∧ (∀ x y : Nat, x ≥ y ↔ y ≤ x) ∧ ((true = false) = False) ∧ ((false = true) = False) ∧ ((¬True) = False) ∧ ((¬False) = True) :=
  ⟨fun _ _ => rfl, fun _ => rfl, fun _ _ => rfl, fun _ => rfl, false_or, or_false, true_and, and_true, @decide_eq_true_eq, @decide_eq_false_iff_not, Bool.or_eq_true, Bool.and_eq_true, fun x y => by cases x <;> cases y <;> simp, fun x y => by cases x <;> cases y <;> simp, fun x => by cases x <;> simp, fun x => by cases x <;> simp,
    fun _ _ _ _ _ => bne_iff_ne, fun _ _ _ _ _ => beq_iff_eq, fun _ _ _ _ _ => beq_eq_false_iff_ne, fun _ _ _ _ _ => bne_eq_false_iff_eq, fun _ _ _ => rfl, @Decidable.not_not, fun _ _ => Int.not_lt, fun _ _ => Int.not_le, fun _ _ => Iff.rfl, fun _ _ => Iff.rfl, fun _ _ => Iff.rfl, fun _ _ => Iff.rfl, by simp, by simp, by simp, by simp⟩
theorem LL : (∀ (α : Type) (a b : List α), (a ++ b).length = a.length + b.length) ∧ (∀ (α : Type) (i : Nat) (a : List α), (a.take i).length = min i a.length) ∧ (∀ (α : Type) (i : Nat) (a : List α), (a.drop i).length = a.length - i) ∧ (∀ (α : Type) (i : Nat) (x : α), (List.replicate i x).length = i) ∧
    (∀ (α : Type) (i : Nat) (x : α) (a : List α), (a.set i x).length = a.length) ∧ (∀ (α β : Type) (f : α → β) (a : List α), (a.map f).length = a.length) ∧ (∀ (α : Type) (x : α) (a : List α), (x :: a).length = a.length + 1) ∧ (∀ α : Type, ([] : List α).length = 0) :=
  ⟨fun _ _ _ => List.length_append, fun _ _ _ => List.length_take, fun _ _ _ => List.length_drop, fun _ _ _ => List.length_replicate, fun _ _ _ _ => List.length_set, fun _ _ _ _ => List.length_map _, fun _ _ _ => rfl, fun _ => rfl⟩
section
variable {P : Program} {o : Oper} {n : Sz} {fl : Slots} {a : Act} {w w0 : World} {v : Value} {M : Nat → Prop} {l : List Atom} {ops : Array Oper} {d : Nat} {K : Act → World → Prop} {Q : Exit → Act → World → Prop} {rest : List Oper} {tails rem : List Nat} {ro : List Atom} {f i : Nat}
theorem gy (hg : o.guard = none) (hd : o.dst = some d) (hn : Nat.blt d n.n = true) (S : St n fl a) (hy : Yld P o a w v) (k : ∀ a', St n ((d, v) :: fl) a' → gl P ops Q rest a' w) : gl P ops Q (o :: rest) a w := ZAF (op_y (wn hg) hd hn S hy k)
theorem gm {x : Operand} (S : St n fl a) (k : ∀ a', St n ((d, v) :: fl) a' → gl P ops Q rest a' w) (hg : o.guard = none := by rfl) (hd : o.dst = some d := by rfl) (hn : Nat.blt d n.n = true := by rfl) (ho : o.op = .move x := by rfl) (hx : ev fl x = some v := by rfl) : gl P ops Q (o :: rest) a w := gy hg hd hn S (ZAL ho S hx) k
theorem ga {x : Operand} (S : St n fl a) (k : ∀ a', St n ((d, v) :: fl) a' → gl P ops Q rest a' w) (hg : o.guard = none := by rfl) (hd : o.dst = some d := by rfl) (hn : Nat.blt d n.n = true := by rfl) (ho : o.op = .assign x := by rfl) (hx : ev fl x = some v := by rfl) : gl P ops Q (o :: rest) a w := gy hg hd hn S (ZA1 ho S hx) k
theorem gq (h : (o.guard, o.dst, Nat.blt d n.n) = (none, some d, true)) (S : St n fl a) (hy : Yld P o a w v) (k : ∀ a', St n ((d, v) :: fl) a' → gl P ops Q rest a' w) : gl P ops Q (o :: rest) a w := by
  simp only [Prod.mk.injEq] at h
  obtain ⟨h1, h2, h3⟩ := h
  exact gy h1 h2 h3 S hy k
theorem q_mv {x : Operand} (S : St n fl a) (h : (o.guard, o.dst, Nat.blt d n.n, o.op, ev fl x) = (none, some d, true, .move x, some v)) (k : ∀ a', St n ((d, v) :: fl) a' → gl P ops Q rest a' w) : gl P ops Q (o :: rest) a w := by
  simp only [Prod.mk.injEq] at h
  obtain ⟨h1, h2, h3, h4, h5⟩ := h
  exact gy h1 h2 h3 S (ZAL h4 S h5) k
theorem q_as {x : Operand} (S : St n fl a) (h : (o.guard, o.dst, Nat.blt d n.n, o.op, ev fl x) = (none, some d, true, .assign x, some v)) (k : ∀ a', St n ((d, v) :: fl) a' → gl P ops Q rest a' w) : gl P ops Q (o :: rest) a w := by
  simp only [Prod.mk.injEq] at h
  obtain ⟨h1, h2, h3, h4, h5⟩ := h
  exact gy h1 h2 h3 S (ZA1 h4 S h5) k
theorem q_bn {op : BinOp} {T U : TypeId} {x y : Operand} {c : IntKind} {m q : Int} (S : St n fl a) (h : (o.guard, o.dst, Nat.blt d n.n, o.op, ev fl x, ev fl y, intOp op c m q) = (none, some d, true, .binOp op T x y U, some (.int c m), some (.int c q), some v)) (k : ∀ a', St n ((d, v) :: fl) a' → gl P ops Q rest a' w) : gl P ops Q (o :: rest) a w := by
  simp only [Prod.mk.injEq] at h
  obtain ⟨h1, h2, h3, h4, h5, h6, h7⟩ := h
  exact gy h1 h2 h3 S (ZAn h4 S h5 h6 h7) k
theorem q_ad {T U : TypeId} {x y : Operand} {m q : Int} (S : St n fl a) (h : (o.guard, o.dst, Nat.blt d n.n, o.op, ev fl x, ev fl y) = (none, some d, true, .binOp .add T x y U, some (.int .i64 m), some (.int .i64 q))) (hb : -9223372036854775808 ≤ m + q ∧ m + q ≤ 9223372036854775807) (k : ∀ a', St n ((d, .int .i64 (m + q)) :: fl) a' → gl P ops Q rest a' w) : gl P ops Q (o :: rest) a w := by
  simp only [Prod.mk.injEq] at h
  obtain ⟨h1, h2, h3, h4, h5, h6⟩ := h
  exact gy h1 h2 h3 S (y_add h4 S h5 h6 hb) k
theorem q_ld {T : TypeId} {x : Operand} {b off : Nat} {cs : List Value} {T' : TypeId} {fz : Nat × Nat} (S : St n fl a) (H : HSat M w0 l w) (hT : ZAl P T = true) (h : (o.guard, o.dst, Nat.blt d n.n, o.op, ev fl x) = (none, some d, true, .load T x, some (.pointer (some ⟨b, off, none⟩)))) [hr : HasRd l b (.cells cs.toArray T' fz)] (hv : cs[off]? = some v) (k : ∀ a', St n ((d, v) :: fl) a' → gl P ops Q rest a' w) : gl P ops Q (o :: rest) a w := by
  simp only [Prod.mk.injEq] at h
  obtain ⟨h1, h2, h3, h4, h5⟩ := h
  exact gy h1 h2 h3 S (ZAJ h4 hT S H h5 hv) k
theorem q_fa {T : TypeId} {x : Operand} {f c b off : Nat} (S : St n fl a) (hF : ZAW P T f = some c) (h : (o.guard, o.dst, Nat.blt d n.n, o.op, ev fl x) = (none, some d, true, .fieldAddr T x f, some (.pointer (some ⟨b, off, none⟩)))) (k : ∀ a', St n ((d, .pointer (some ⟨b, off + c, none⟩)) :: fl) a' → gl P ops Q rest a' w) : gl P ops Q (o :: rest) a w := by
  simp only [Prod.mk.injEq] at h
  obtain ⟨h1, h2, h3, h4, h5⟩ := h
  exact gy h1 h2 h3 S (ZAC h4 hF S h5) k
theorem q_cl {f : FuncId} {xs : Array Operand} {at_ : Array TypeId} {vs : List Value} (S : St n fl a) (h : (o.guard, o.dst, Nat.blt d n.n, o.op, evs fl xs.toList) = (none, some d, true, .call { callee := .value (.func f), args := xs, argTypes := at_ }, some vs)) (he : Enters P f) {R : Value → World → Prop} (hr : Ret P f vs.toArray w R)
    (k : ∀ v w', R v w' → ∀ a', St n ((d, v) :: fl) a' → gl P ops Q rest a' w') : gl P ops Q (o :: rest) a w := by
  simp only [Prod.mk.injEq] at h
  obtain ⟨h1, h2, h3, h4, h5⟩ := h
  exact ZAF (ZAV (wn h1) h2 h3 S (ZAi h4 he S h5) hr k)
theorem q_al {T : TypeId} {cs : List Value} (S : St n fl a) (H : HSat M w0 l w) (h : (o.guard, o.dst, Nat.blt d n.n, o.op) = (none, some d, true, .alloc T)) (hz : ZBr P T = some cs)
    (k : ∀ b a' w', St n ((d, .pointer (some ⟨b, 0, none⟩)) :: fl) a' → HSat M w0 (Cel b T cs :: l) w' → gl P ops Q rest a' w') : gl P ops Q (o :: rest) a w := by
  simp only [Prod.mk.injEq] at h
  obtain ⟨h1, h2, h3, h4⟩ := h
  exact ZAF (ZAh (wn h1) h2 h3 h4 S H hz k)
theorem q_st {T : TypeId} {ad x : Operand} {b off : Nat} {cs : List Value} {T' : TypeId} {l' : Obj → List Atom} (S : St n fl a) (H : HSat M w0 l w) (h : (o.guard, o.dst, o.op, ev fl ad, ev fl x) = (none, none, .store T ad x, some (.pointer (some ⟨b, off, none⟩)), some v)) [hb : HasBlk l b (.cells cs.toArray T' (0, 0)) l'] (h1 : v.oneCell' = true) (hT : ZA8 P T 1 = true) (ho' : Nat.blt off cs.length = true)
    (k : ∀ a' w', St n fl a' → HSat M w0 (l' (.cells (cs.set off v).toArray T' (0, 0))) w' → gl P ops Q rest a' w') : gl P ops Q (o :: rest) a w := by
  simp only [Prod.mk.injEq] at h
  obtain ⟨e1, e2, e3, e4, e5⟩ := h
  exact ZAF (ZAS (wn e1) e2 e3 S H e4 e5 h1 hT ho' k)
theorem gsr {r : Option Nat} {id : Nat} {L : List Oper} {y : Code} (h : gl P L.toArray (Exit.then (gp r P y Q) Q) L a w) : gp r P (.seq (.region id L.toArray false) y) Q a w := ZAG (ZAB h)
theorem gnt {K : Act → World → Prop} (h : K a w) : gl P ops (Exit.then K Q) [] a w := ZAj (ZAA h)
theorem gz (g : Nat) {j : Nat} {b B : Bool} (h : B = b) (S : St n fl a) (hg : o.guard = some (j, b)) (hj : (ops[j]?).bind (·.dst) = some g) (hb : fl.lookup g = some (.bool B)) (hl : Nat.blt g n.n = true) (hd : o.dst = some d) (hn : Nat.blt d n.n = true) (hy : Yld P o a w v) (k : ∀ a', St n ((d, v) :: fl) a' → gl P ops Q rest a' w) : gl P ops Q (o :: rest) a w :=
  ZAF (op_y (wg' g hg hj S hb h hl) hd hn S hy k)
theorem t_b1 (i : Nat) (hrs : rem.filter (readyB .any ops rem) = [i]) (hi : ops[i]? = some o)
    (h : ∀ w, HSat M w0 l w → opw P ops o a w (fun a' w' => ∃ C', Stable C' ∧ C' w' ∧ ((∀ w, C' w → HSat M w0 l w) ∨ tails.contains i = true) ∧ (∀ w, C' w → RO ro w) ∧ MixT P .any ops tails (RO ro) K f (rem.erase i) a' C')) : MixT P .any ops tails (RO ro) K (f + 1) rem a (HSat M w0 l) :=
  t_b [i] hrs rfl (fun j hj => by obtain rfl := List.mem_singleton.1 hj; exact ⟨o, hi, h⟩)
theorem fa2 {p : Nat → Prop} {x y : Nat} (h1 : p x) (h2 : p y) : ∀ i ∈ [x, y], p i := fun i hi => by simp only [List.mem_cons, List.not_mem_nil, or_false] at hi; rcases hi with rfl | rfl <;> assumption
theorem fa3 {p : Nat → Prop} {x y z : Nat} (h1 : p x) (h2 : p y) (h3 : p z) : ∀ i ∈ [x, y, z], p i := fun i hi => by simp only [List.mem_cons, List.not_mem_nil, or_false] at hi; rcases hi with rfl | rfl | rfl <;> assumption
theorem fa4 {p : Nat → Prop} {x y z u : Nat} (h1 : p x) (h2 : p y) (h3 : p z) (h4 : p u) : ∀ i ∈ [x, y, z, u], p i := fun i hi => by simp only [List.mem_cons, List.not_mem_nil, or_false] at hi; rcases hi with rfl | rfl | rfl | rfl <;> assumption
class SubL (l l' : List Atom) : Prop where
  sub : l.Sublist l'
instance (priority := 2000) SubL.refl (l : List Atom) : SubL l l := ⟨List.Sublist.refl _⟩
instance SubL.cons (l : List Atom) (x : Atom) (l' : List Atom) [h : SubL l l'] : SubL l (x :: l') := ⟨h.sub.cons x⟩
theorem t_n [ROs ro] {a' : Act} {w' : World} {l' : List Atom} {rem' : List Nat} [HasRO l' ro] (H : HSat M w0 l' w') [hs : SubL l l'] (hr : rem.erase i = rem') (h : MixT P .any ops tails (RO ro) K f rem' a' (HSat M w0 l')) :
    ∃ C', Stable C' ∧ C' w' ∧ ((∀ w, C' w → HSat M w0 l w) ∨ tails.contains i = true) ∧ (∀ w, C' w → RO ro w) ∧ MixT P .any ops tails (RO ro) K f (rem.erase i) a' C' := t_next H hs.sub hr h
end
end
section
section
variable {P : Program} {o : Oper} {n : Sz} {fl : Slots} {a : Act} {w : World} {v : Value}
theorem y_lenstr {x : Operand} {T : TypeId} {s : ByteArray} (ho : o.op = .call { callee := .builtin .len, args := #[x], argTypes := #[T] }) (hT : P.underlying T = some .string) (S : St n fl a) (hx : ev fl x = some (.string s)) : Yld P o a w (.int .i64 (s.size : Int)) := by
  unfold Yld execOp; rw [ho]; simp [resolve, invoke, builtin, S.ev hx, run_len_string w T o.type s hT, goInt]
theorem y_idxstr {x ix : Operand} {T : TypeId} {s : ByteArray} {k : IntKind} {i : Nat} (ho : o.op = .index T x ix) (hT : P.underlying T = some .string) (S : St n fl a) (hx : ev fl x = some (.string s)) (hi : ev fl ix = some (.int k (i : Int))) (hl : i < s.size) : Yld P o a w (.int .u8 (s[i].toNat : Int)) := by
  unfold Yld execOp; rw [ho]; simp [S.ev hx, S.ev hi, run_index_string w T s k (i : Int) hT, hl]
theorem bytes_beq (s t : ByteArray) : (s.toList == t.toList) = decide (s = t) := by
  rw [Bool.eq_iff_iff, decide_eq_true_eq, beq_iff_eq, ByteArray.toList_eq, ByteArray.toList_eq]
  exact ⟨fun h => by
    obtain ⟨⟨x⟩⟩ := s
    obtain ⟨⟨y⟩⟩ := t
    simp only at h
    rw [h], fun h => by rw [h]⟩
theorem y_eqs {T U : TypeId} {x y : Operand} {s t : ByteArray} (ho : o.op = .binOp .eql T x y U) (hT : P.underlying T = some .string) (S : St n fl a) (hx : ev fl x = some (.string s)) (hy : ev fl y = some (.string t)) : Yld P o a w (.bool (decide (s = t))) := by
  unfold Yld execOp; rw [ho]; simp only [S.ev hx, S.ev hy, eqGuard, binOp]
  simp only [Op.stringOp]
  simp
  exact bytes_beq s t
theorem y_nes {T U : TypeId} {x y : Operand} {s t : ByteArray} (ho : o.op = .binOp .neq T x y U) (hT : P.underlying T = some .string) (S : St n fl a) (hx : ev fl x = some (.string s)) (hy : ev fl y = some (.string t)) : Yld P o a w (.bool (!decide (s = t))) := by
  unfold Yld execOp; rw [ho]; simp only [S.ev hx, S.ev hy, eqGuard, binOp]
  simp only [Op.stringOp]
  simp
  exact bytes_beq s t
end
end
section
theorem flat_take {α : Type} {enc : α → List Value} {sz : Nat} {xs : List α} (hs : ∀ x ∈ xs, (enc x).length = sz) (i : Nat) (hi : i ≤ xs.length) : (xs.flatMap enc).take (i * sz) = (xs.take i).flatMap enc := by
  have e : xs.flatMap enc = (xs.take i).flatMap enc ++ (xs.drop i).flatMap enc := by rw [← List.flatMap_append, List.take_append_drop]
  have h2 := ZA7 (enc := enc) (sz := sz) (xs := xs.take i) (fun x hx => hs x (List.mem_of_mem_take hx))
  rw [List.length_take, Nat.min_eq_left hi] at h2
  rw [e, List.take_append_of_le_length (by omega), List.take_of_length_le (by omega)]
section
variable {P : Program} {o : Oper} {n : Sz} {fl : Slots} {a : Act} {w w0 : World} {v : Value} {M : Nat → Prop} {l : List Atom} {ops : Array Oper} {d : Nat} {K : Act → World → Prop}
theorem HSat.takeT {rest : List Atom} (H : HSat M w0 l w) (tgt : List Atom) (t : List Atom) [h : HasPick l tgt rest] [hs : SubL t rest] : HSat M w0 (tgt ++ t) w := (H.perm h.perm).sub (hs.sub.append_left tgt)
end
end
end
end Go.Gw
