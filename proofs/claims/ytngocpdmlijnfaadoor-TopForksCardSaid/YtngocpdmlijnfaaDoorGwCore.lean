/- A small program logic over the kit's weakest preconditions: frames as sparse lists of slots (St), memory as a list of atoms (HSat). No condition. -/
import Derived.WalkKit
import Derived.Deep.LoopGhost
import Derived.RangeFuncLeaves
import Derived.OrdersIn
namespace Go.Gw
set_option linter.unusedVariables false
set_option linter.unusedSimpArgs false
abbrev Slots := List (Nat × Value)
/-- the number of a frame's slots, and the blocks for what the rounds of its loops over functions defer -/
structure Sz where
  n : Nat
  ds : List Nat := []
instance (k : Nat) : OfNat Sz k := ⟨⟨k, []⟩⟩
def markOf (b : Nat) : Deferred := { target := .collected b, args := #[] }
/-- the frame a of n slots holds what fl lists -/
structure St (n : Sz) (fl : Slots) (a : Act) : Prop where
  size : a.tmps.size = n.n
  defers : a.defers = n.ds.map markOf
  get : ∀ i v, fl.lookup i = some v → a.tmps.getD i undef = v
def ev (fl : Slots) : Operand → Option Value
  | .tmp t => fl.lookup t
  | .const v => some v
  | .global g => some (.pointer (some ⟨g, 0, none⟩))
  | .func f => some (.func (.func f) #[] #[])
theorem St.ev {n : Sz} {fl : Slots} {a : Act} (S : St n fl a) {x : Operand} {v : Value} (h : ev fl x = some v) : a.eval x = v := by
  cases x with
  | tmp t => exact S.get t v h
  | const u => exact Option.some.inj h
  | global g => exact Option.some.inj h
  | func f => exact Option.some.inj h
theorem St.put {n : Sz} {fl : Slots} {a : Act} (S : St n fl a) {d : Nat} (hd : Nat.blt d n.n = true) (v : Value) : St n ((d, v) :: fl) (a.put (some d) v) := by
  have hd' : d < n.n := by simpa using hd
  refine ⟨by simp [Act.put, S.size], S.defers, ?_⟩
  intro i u h
  simp only [List.lookup] at h
  split at h
  · rename_i hi
    have : i = d := by simpa using hi
    subst this
    cases h
    simp [Act.put, S.size, hd']
  · rename_i hi
    have hne : d ≠ i := by intro e; subst e; simp at hi
    have := S.get i u h
    simp only [Act.put, Array.getD_eq_getD_getElem?] at this ⊢
    rw [Array.getElem?_setIfInBounds_ne hne]; exact this
theorem St.putNone {n : Sz} {fl : Slots} {a : Act} (S : St n fl a) (v : Value) : St n fl (a.put none v) := S
theorem St.nil {n : Sz} {fl : Slots} {a : Act} (S : St n fl a) : St n [] a := ⟨S.size, S.defers, fun _ _ h => by cases h⟩
theorem St.cons {n : Sz} {fl fl' : Slots} {a : Act} (S' : St n fl' a) (S : St n fl a) (i : Nat) {v : Value} (h : fl.lookup i = some v) : St n ((i, v) :: fl') a := by
  refine ⟨S.size, S.defers, fun j u hj => ?_⟩
  simp only [List.lookup] at hj
  split at hj
  · rename_i hi
    have : j = i := by simpa using hi
    subst this
    cases hj
    exact S.get _ _ h
  · exact S'.get j u hj
theorem lookup_append (fl1 fl2 : Slots) (i : Nat) : (fl1 ++ fl2).lookup i = ((fl1.lookup i).or (fl2.lookup i)) := by
  induction fl1 with
  | nil => simp [List.lookup]
  | cons p r ih =>
    obtain ⟨k, u⟩ := p
    simp only [List.cons_append, List.lookup]
    split <;> simp [ih]
def disjB (m : Nat) (fl : Slots) : Bool := (fl.take m).all fun p => !((fl.drop m).map (·.1)).contains p.1
theorem lookup_mem {fl : Slots} {i : Nat} {v : Value} (h : fl.lookup i = some v) : i ∈ fl.map (·.1) := by
  induction fl with
  | nil => cases h
  | cons p r ih =>
    obtain ⟨k, x⟩ := p
    simp only [List.lookup] at h
    split at h
    · rename_i hk; simp at hk; simp [hk]
    · exact List.mem_cons_of_mem _ (ih h)
/-- what was known before the m newest slots were written -/
theorem St.old {n : Sz} {fl : Slots} {a : Act} (S : St n fl a) (m : Nat) (h : disjB m fl = true) : St n (fl.drop m) a := by
  refine ⟨S.size, S.defers, fun i v hi => S.get i v ?_⟩
  have hm := lookup_mem hi
  rw [← List.take_append_drop m fl, lookup_append]
  cases ht : (fl.take m).lookup i with
  | none => simpa using hi
  | some u =>
    exfalso
    have h1 := lookup_mem ht
    obtain ⟨p, hp, rfl⟩ := List.mem_map.1 h1
    have := List.all_eq_true.1 h p hp
    simp only [Bool.not_eq_true', List.contains_eq_mem, decide_eq_false_iff_not] at this
    exact this hm
theorem St.append {n : Sz} {fl1 fl2 : Slots} {a : Act} (S1 : St n fl1 a) (S2 : St n fl2 a) : St n (fl1 ++ fl2) a := by
  refine ⟨S1.size, S1.defers, fun i v h => ?_⟩
  rw [lookup_append] at h
  cases h1 : fl1.lookup i with
  | some u => rw [h1] at h; simp at h; subst h; exact S1.get i _ h1
  | none => rw [h1] at h; simp at h; exact S2.get i v h
/-- never frozen -/
def ThawO : Option Obj → Prop
  | some (.cells _ _ (lo, hi)) => hi ≤ lo
  | _ => True
/-- below what stood in w, only blocks of M have turned; what was not frozen is not -/
structure Fr (M : Nat → Prop) (w w' : World) : Prop where
  os : w'.os = w.os
  tape : w'.tape = w.tape
  output : w'.output = w.output
  size : w.heap.size ≤ w'.heap.size
  block : ∀ k, k < w.heap.size → ¬ M k → w'.heap[k]? = w.heap[k]?
  thaw : ∀ k : Nat, k < w.heap.size → ThawO w.heap[k]? → ThawO w'.heap[k]?
def No : Nat → Prop := fun _ => False
/-- w' is w with new blocks -/
abbrev Ext (w w' : World) : Prop := Fr No w w'
theorem Fr.refl (M : Nat → Prop) (w : World) : Fr M w w := ⟨rfl, rfl, rfl, Nat.le_refl _, fun _ _ _ => rfl, fun _ _ h => h⟩
theorem Ext.refl (w : World) : Ext w w := Fr.refl _ w
theorem Ext.block {w w' : World} (h : Ext w w') {k : Nat} (hk : k < w.heap.size) : w'.heap[k]? = w.heap[k]? := Fr.block h k hk (fun x => x)
theorem Fr.ext {M : Nat → Prop} {w0 w w' : World} (h : Fr M w0 w) (e : Ext w w') : Fr M w0 w' :=
  ⟨e.os.trans h.os, e.tape.trans h.tape, e.output.trans h.output, Nat.le_trans h.size e.size,
    fun k hk hM => (e.block (Nat.lt_of_lt_of_le hk h.size)).trans (h.block k hk hM), fun k hk ht => e.thaw k (Nat.lt_of_lt_of_le hk h.size) (h.thaw k hk ht)⟩
theorem Ext.trans {w0 w w' : World} (h : Ext w0 w) (e : Ext w w') : Ext w0 w' := Fr.ext h e
theorem Fr.mono {M M' : Nat → Prop} {w w' : World} (h : Fr M w w') (hm : ∀ k, M k → M' k) : Fr M' w w' :=
  ⟨h.os, h.tape, h.output, h.size, fun k hk hk' => h.block k hk (fun x => hk' (hm k x)), h.thaw⟩
theorem Ext.fr {w w' : World} (h : Ext w w') (M : Nat → Prop) : Fr M w w' := h.mono (fun _ x => x.elim)
theorem Ext.drawn (w : World) (d : Nat) : Ext w { w with drawn := d } := ⟨rfl, rfl, rfl, Nat.le_refl _, fun _ _ _ => rfl, fun _ _ h => h⟩
theorem Ext.drew (w : World) : Ext w w.drew := ⟨rfl, rfl, rfl, Nat.le_refl _, fun _ _ _ => rfl, fun _ _ h => h⟩
theorem heap_new (w : World) (o : Obj) : (w.alloc o).heap[w.heap.size]? = some o := by
  show (w.heap.push o)[w.heap.size]? = _
  simp
theorem Ext.alloc (w : World) (o : Obj) (ho : ThawO (some o)) : Ext w (w.alloc o) := ⟨rfl, rfl, rfl, by simp, fun k hk _ => RowKit.Below.heap_alloc w o k hk, fun k hk ht => by
  rw [RowKit.Below.heap_alloc w o k hk]; exact ht⟩
theorem Ext.alloc_cells (w : World) (cs : Array Value) (T : TypeId) : Ext w (w.alloc (.cells cs T (0, 0))) := Ext.alloc w _ (Nat.le_refl 0)
structure Atom where
  own : Bool
  fp : Nat → Prop
  ok : World → Prop
  loc : ∀ w w' : World, (∀ b, fp b → w'.heap[b]? = w.heap[b]?) → ok w → ok w'
  lt : ∀ (w : World) b, ok w → fp b → b < w.heap.size
def apart (x y : Atom) : Prop := (x.own = true ∨ y.own = true) → ∀ b, x.fp b → ¬ y.fp b
theorem apart.symm {x y : Atom} (h : apart x y) : apart y x := fun ho b hy hx => h ho.symm b hx hy
structure HSat (M : Nat → Prop) (w0 : World) (l : List Atom) (w : World) : Prop where
  fr : Fr M w0 w
  ok : ∀ x ∈ l, x.ok w
  mine : ∀ x ∈ l, x.own = true → ∀ b, x.fp b → M b ∨ w0.heap.size ≤ b
  sep : l.Pairwise apart
theorem HSat.ext {M : Nat → Prop} {w0 w w' : World} {l : List Atom} (H : HSat M w0 l w) (e : Ext w w') : HSat M w0 l w' :=
  ⟨H.fr.ext e, fun x hx => x.loc w w' (fun b hb => e.block (x.lt w b (H.ok x hx) hb)) (H.ok x hx), H.mine, H.sep⟩
theorem HSat.perm {M : Nat → Prop} {w0 w : World} {l l' : List Atom} (H : HSat M w0 l w) (p : l.Perm l') : HSat M w0 l' w :=
  ⟨H.fr, fun x hx => H.ok x (p.mem_iff.2 hx), fun x hx => H.mine x (p.mem_iff.2 hx), (p.pairwise_iff (fun h => apart.symm h)).1 H.sep⟩
theorem HSat.sub {M : Nat → Prop} {w0 w : World} {l l' : List Atom} (H : HSat M w0 l w) (p : l'.Sublist l) : HSat M w0 l' w :=
  ⟨H.fr, fun x hx => H.ok x (p.subset hx), fun x hx => H.mine x (p.subset hx), H.sep.sublist p⟩
theorem HSat.drop {M : Nat → Prop} {w0 w : World} {l : List Atom} (H : HSat M w0 l w) (k : Nat) : HSat M w0 (l.drop k) w := H.sub (List.drop_sublist k l)
theorem HSat.tail {M : Nat → Prop} {w0 w : World} {x : Atom} {l : List Atom} (H : HSat M w0 (x :: l) w) : HSat M w0 l w := H.sub (List.sublist_cons_self x l)
theorem HSat.nil {M : Nat → Prop} {w0 w : World} {l : List Atom} (H : HSat M w0 l w) : HSat M w0 [] w := H.sub (List.nil_sublist l)
theorem HSat.start (w : World) : HSat No w [] w := ⟨Fr.refl _ _, by simp, by simp, .nil⟩
theorem HSat.toExt {w0 w : World} {l : List Atom} (H : HSat No w0 l w) : Ext w0 w := H.fr
/-- one more read-only atom, apart from what is owned -/
theorem HSat.ro {M : Nat → Prop} {w0 w : World} {l : List Atom} (H : HSat M w0 l w) (x : Atom) (hx : x.own = false) (hok : x.ok w) (ha : ∀ y ∈ l, y.own = true → ∀ b, x.fp b → ¬ y.fp b) : HSat M w0 (x :: l) w :=
  ⟨H.fr, fun y hy => (List.mem_cons.1 hy).elim (fun e => e ▸ hok) (H.ok y), fun y hy ho => (List.mem_cons.1 hy).elim (fun e => by subst e; simp [hx] at ho) (fun h => H.mine y h ho),
    List.pairwise_cons.2 ⟨fun y hy ho b hb => ha y hy (by simpa [hx] using ho) b hb, H.sep⟩⟩
/-- what stands in w0 (at the start of the call) may be named when nothing that stood there is owned -/
theorem HSat.ro0 {w0 w : World} {l : List Atom} (H : HSat No w0 l w) (x : Atom) (hx : x.own = false) (hok : x.ok w0) : HSat No w0 (x :: l) w :=
  H.ro x hx (x.loc w0 w (fun b hb => Ext.block H.fr (x.lt w0 b hok hb)) hok) (fun y hy ho b hb hyb => by
    rcases H.mine y hy ho b hyb with h | h
    · exact h
    · have := x.lt w0 b hok hb; omega)
/-- a callee has made new memory, and written what it was handed (M') -/
theorem HSat.callM {M M' : Nat → Prop} {w0 w w' : World} {li l l' : List Atom} (H : HSat M w0 (li ++ l) w) (H' : HSat M' w l' w')
    (hM : ∀ b, M' b → ∃ x ∈ li, x.own = true ∧ x.fp b) (hn : ∀ x ∈ l', ∀ b, x.fp b → M' b ∨ w.heap.size ≤ b) : HSat M w0 (l' ++ l) w' := by
  have hsep := List.pairwise_append.1 H.sep
  have hlM : ∀ y ∈ l, ∀ b, y.fp b → ¬ M' b := fun y hy b hb hm => by
    obtain ⟨x, hx, ho, hxb⟩ := hM b hm
    exact hsep.2.2 x hx y hy (.inl ho) b hxb hb
  have hlt : ∀ y ∈ l, ∀ b, y.fp b → b < w.heap.size := fun y hy b hb => y.lt w b (H.ok y (List.mem_append_right _ hy)) hb
  have hown : ∀ b, M' b → M b ∨ w0.heap.size ≤ b := fun b hm => by
    obtain ⟨x, hx, ho, hxb⟩ := hM b hm
    exact H.mine x (List.mem_append_left _ hx) ho b hxb
  refine ⟨⟨H'.fr.os.trans H.fr.os, H'.fr.tape.trans H.fr.tape, H'.fr.output.trans H.fr.output, Nat.le_trans H.fr.size H'.fr.size, fun k hk hkM => ?_, fun k hk ht => H'.fr.thaw k (Nat.lt_of_lt_of_le hk H.fr.size) (H.fr.thaw k hk ht)⟩, fun x hx => ?_, fun x hx ho b hb => ?_, List.pairwise_append.2 ⟨H'.sep, hsep.2.1, fun x hx y hy ho b hbx hby => ?_⟩⟩
  · refine (H'.fr.block k (Nat.lt_of_lt_of_le hk H.fr.size) (fun hm => ?_)).trans (H.fr.block k hk hkM)
    rcases hown k hm with h | h
    · exact hkM h
    · omega
  · rcases List.mem_append.1 hx with h | h
    · exact H'.ok x h
    · exact x.loc w w' (fun b hb => H'.fr.block b (hlt x h b hb) (hlM x h b hb)) (H.ok x (List.mem_append_right _ h))
  · rcases List.mem_append.1 hx with h | h
    · rcases hn x h b hb with h' | h'
      · exact hown b h'
      · exact .inr (Nat.le_trans H.fr.size h')
    · exact H.mine x (List.mem_append_right _ h) ho b hb
  · rcases hn x hx b hbx with h' | h'
    · exact hlM y hy b hby h'
    · have := hlt y hy b hby; omega
theorem HSat.call {M : Nat → Prop} {w0 w w' : World} {l l' : List Atom} (H : HSat M w0 l w) (H' : HSat No w l' w') (hn : ∀ x ∈ l', x.own = true) : HSat M w0 (l' ++ l) w' :=
  HSat.callM (M' := No) (li := []) (by simpa using H) H' (fun b h => h.elim) (fun x hx b hb => (H'.mine x hx (hn x hx) b hb))
def Blk (b : Nat) (o : Obj) : Atom := ⟨true, (· = b), fun w => w.heap[b]? = some o, fun w w' h h' => (h b rfl).trans h', fun w k h hk => by
  subst hk; exact (Array.getElem?_eq_some_iff.1 h).1⟩
theorem HSat.alloc {M : Nat → Prop} {w0 w : World} {l : List Atom} (H : HSat M w0 l w) (o : Obj) (hth : ThawO (some o)) : HSat M w0 (Blk w.heap.size o :: l) (w.alloc o) := by
  have H' : HSat No w [Blk w.heap.size o] (w.alloc o) := ⟨Ext.alloc w o hth, by intro x hx; simp at hx; subst hx; exact heap_new w o, by intro x hx ho b hb; simp at hx; subst hx; simp [Blk] at hb; exact .inr (by omega), List.pairwise_singleton _ _⟩
  exact H.call H' (by simp [Blk])
/-- where block b stands in the list -/
class HasBlk (l : List Atom) (b : Nat) (o : outParam Obj) (l' : outParam (Obj → List Atom)) : Prop where
  at_ : ∃ l1 l2, l = l1 ++ Blk b o :: l2 ∧ ∀ o', l' o' = l1 ++ Blk b o' :: l2
instance (priority := 2000) HasBlk.here (l : List Atom) (b : Nat) (o : Obj) : HasBlk (Blk b o :: l) b o (fun o' => Blk b o' :: l) := ⟨[], l, rfl, fun _ => rfl⟩
instance HasBlk.there (l : List Atom) (x : Atom) (b : Nat) (o : Obj) (l' : Obj → List Atom) [h : HasBlk l b o l'] : HasBlk (x :: l) b o (fun o' => x :: l' o') := by
  obtain ⟨l1, l2, h1, h2⟩ := h.at_
  exact ⟨x :: l1, l2, by simp [h1], fun o' => by simp [h2]⟩
/-- an atom that is read alone -/
def Atom.ro (x : Atom) : Atom := { x with own := false }
/-- block b is said somewhere in the list -/
class HasRd (l : List Atom) (b : Nat) (o : outParam Obj) : Prop where
  at_ : ∀ w, (∀ x ∈ l, x.ok w) → w.heap[b]? = some o
instance (priority := 2000) HasRd.here (l : List Atom) (b : Nat) (o : Obj) : HasRd (Blk b o :: l) b o := ⟨fun w h => h (Blk b o) (List.mem_cons_self ..)⟩
instance (priority := 2000) HasRd.hereRo (l : List Atom) (b : Nat) (o : Obj) : HasRd (Atom.ro (Blk b o) :: l) b o := ⟨fun w h => h (Atom.ro (Blk b o)) (List.mem_cons_self ..)⟩
instance HasRd.there (l : List Atom) (x : Atom) (b : Nat) (o : Obj) [h : HasRd l b o] : HasRd (x :: l) b o := ⟨fun w hw => h.at_ w (fun y hy => hw y (List.mem_cons_of_mem _ hy))⟩
instance (priority := 500) HasRd.app (l1 l : List Atom) (b : Nat) (o : Obj) [h : HasRd l b o] : HasRd (l1 ++ l) b o := ⟨fun w hw => h.at_ w (fun y hy => hw y (List.mem_append_right _ hy))⟩
theorem HSat.rd {M : Nat → Prop} {w0 w : World} {l : List Atom} (H : HSat M w0 l w) (b : Nat) {o : Obj} [h : HasRd l b o] : w.heap[b]? = some o := h.at_ w H.ok
theorem pair_ro' : ∀ {ro : List Atom}, (∀ x ∈ ro, x.own = false) → ro.Pairwise apart
  | [], _ => .nil
  | x :: r, h => List.pairwise_cons.2 ⟨fun y hy ho => by rw [h x (by simp), h y (List.mem_cons_of_mem _ hy)] at ho; simp at ho, pair_ro' (fun y hy => h y (List.mem_cons_of_mem _ hy))⟩
/-- what holds at the start of a call, to be read alone -/
theorem HSat.reads {M : Nat → Prop} {w0 w : World} {l : List Atom} (H : HSat M w0 l w) : HSat No w (l.map Atom.ro) w :=
  ⟨Fr.refl _ _, fun x hx => by obtain ⟨y, hy, rfl⟩ := List.mem_map.1 hx; exact H.ok y hy, fun x hx ho => by obtain ⟨y, hy, rfl⟩ := List.mem_map.1 hx; simp [Atom.ro] at ho,
    pair_ro' (fun x hx => by obtain ⟨y, hy, rfl⟩ := List.mem_map.1 hx; rfl)⟩
/-- where atom x stands in the list; what is left; the list with another in its place -/
class HasA (l : List Atom) (x : Atom) (r : outParam (List Atom)) (l' : outParam (Atom → List Atom)) : Prop where
  to_ : l.Perm (x :: r)
  back : ∀ y, (y :: r).Perm (l' y)
instance (priority := 2000) HasA.here (l : List Atom) (x : Atom) : HasA (x :: l) x l (fun y => y :: l) := ⟨List.Perm.refl _, fun _ => List.Perm.refl _⟩
instance HasA.there (l : List Atom) (z x : Atom) (r : List Atom) (l' : Atom → List Atom) [h : HasA l x r l'] : HasA (z :: l) x (z :: r) (fun y => z :: l' y) :=
  ⟨(List.Perm.cons _ h.to_).trans (List.Perm.swap _ _ _), fun y => (List.Perm.swap _ _ _).trans (List.Perm.cons _ (h.back y))⟩
/-- the atoms tgt stand in the list, in whatever places -/
class HasPick (l tgt : List Atom) (rest : outParam (List Atom)) : Prop where
  perm : l.Perm (tgt ++ rest)
instance HasPick.nil (l : List Atom) : HasPick l [] l := ⟨List.Perm.refl _⟩
instance HasPick.cons (l : List Atom) (x : Atom) (t r rest : List Atom) (l' : Atom → List Atom) [h1 : HasA l x r l'] [h2 : HasPick r t rest] : HasPick l (x :: t) rest := ⟨h1.to_.trans (List.Perm.cons x h2.perm)⟩
theorem HSat.pick {M : Nat → Prop} {w0 w : World} {l : List Atom} (H : HSat M w0 l w) (tgt : List Atom) {rest : List Atom} [h : HasPick l tgt rest] : HSat M w0 (tgt ++ rest) w := H.perm h.perm
theorem HSat.take {M : Nat → Prop} {w0 w : World} {l : List Atom} (H : HSat M w0 l w) (tgt : List Atom) {rest : List Atom} [h : HasPick l tgt rest] : HSat M w0 tgt w := (H.perm h.perm).sub (List.sublist_append_left _ _)
theorem HSat.blk {M : Nat → Prop} {w0 w : World} {l : List Atom} (H : HSat M w0 l w) (b : Nat) {o : Obj} {l' : Obj → List Atom} [h : HasBlk l b o l'] : w.heap[b]? = some o := by
  obtain ⟨l1, l2, h1, _⟩ := h.at_
  exact H.ok (Blk b o) (by simp [h1])
theorem HSat.set {M : Nat → Prop} {w0 w w' : World} {l : List Atom} (H : HSat M w0 l w) (b : Nat) {o : Obj} {l' : Obj → List Atom} [h : HasBlk l b o l'] (o' : Obj) (hth : ThawO (some o) → ThawO (some o'))
    (hos : w'.os = w.os) (htape : w'.tape = w.tape) (hout : w'.output = w.output) (hsz : w'.heap.size = w.heap.size) (hb : w'.heap[b]? = some o') (hother : ∀ k, k ≠ b → w'.heap[k]? = w.heap[k]?) : HSat M w0 (l' o') w' := by
  have hold := H.blk b (h := h)
  obtain ⟨l1, l2, h1, h2⟩ := h.at_
  rw [h2]
  subst h1
  have p : (l1 ++ Blk b o :: l2).Perm ([Blk b o] ++ (l1 ++ l2)) := List.perm_middle
  have H1 := H.perm p
  have H2 : HSat (· = b) w [Blk b o'] w' := ⟨⟨hos, htape, hout, by omega, fun k _ hk => hother k hk, fun k _ hk => by
    by_cases hkb : k = b
    · subst hkb; rw [hb]; rw [hold] at hk; exact hth hk
    · rw [hother k hkb]; exact hk⟩, by simpa [Blk] using hb, by intro x hx _ k hk; simp at hx; subst hx; exact .inl hk, List.pairwise_singleton _ _⟩
  have H3 := HSat.callM H1 H2 (fun k hk => ⟨Blk b o, by simp, rfl, hk⟩) (by intro x hx k hk; simp at hx; subst hx; exact .inl hk)
  exact H3.perm (show (Blk b o' :: (l1 ++ l2)).Perm (l1 ++ Blk b o' :: l2) from List.perm_middle.symm)
theorem heap_setCell_same (w : World) (b off : Nat) (v : Value) (cs : Array Value) (T : TypeId) (fz : Nat × Nat) (h : w.heap[b]? = some (.cells cs T fz)) :
    (w.setCell ⟨b, off, none⟩ v).heap[b]? = some (.cells (cs.setIfInBounds off v) T fz) := by
  simp [World.setCell, Array.getElem?_modify, h]
theorem HSat.setCell {M : Nat → Prop} {w0 w : World} {l : List Atom} (H : HSat M w0 l w) (b off : Nat) (v : Value) {cs : Array Value} {T : TypeId} {fz : Nat × Nat} {l' : Obj → List Atom} [h : HasBlk l b (.cells cs T fz) l'] :
    HSat M w0 (l' (.cells (cs.setIfInBounds off v) T fz)) (w.setCell ⟨b, off, none⟩ v) :=
  H.set b _ (fun h => h) rfl rfl rfl (by simp [World.setCell]) (heap_setCell_same w b off v cs T fz (H.blk b)) (fun k hk => RowKit.Below.heap_setCell _ _ _ _ hk)
/-- in frame a and world w operation o yields v and leaves the world alone -/
def Yld (P : Program) (o : Oper) (a : Act) (w : World) (v : Value) : Prop := (execOp a.eval o).run P w = .ok (.value v) w
/-- no fence; r: the round's loop, where the code is that of a round's body -/
def FR (r : Option Nat) : Fence := { Fence.wide with round := r }
/-- the code, in frame a and world w, ends as Q says -/
def gp (r : Option Nat) (P : Program) (c : Code) (Q : Exit → Act → World → Prop) (a : Act) (w : World) : Prop := c.wpIn (FR r) 0 P Q a w
theorem fr_calls {r : Option Nat} {m : Nat} {P : Program} {f : FuncId} {args : Array Value} {w : World} {R : Ending → World → Prop} (h : Calls P f args w R) : CallsIn (FR r) m P f args w R := (callsIn_wide (n := m)).2 h
theorem fr_round {r : Option Nat} {m : Nat} {P : Program} {l : Nat} {f : FuncId} {tmps : Array Value} {assign body : Code} {w : World} {R : Ending → World → Prop} (h : RoundIn Fence.wide 0 P l f tmps assign body w R) : RoundIn (FR r) m P l f tmps assign body w R := ⟨trivial, fun c cs _ => h.2 c cs (room_wide _)⟩
section
variable {P : Program} {ops : Array Oper} {Q : Exit → Act → World → Prop} {rest : List Oper} {o : Oper} {n : Sz} {fl : Slots} {a : Act} {w : World} {d : Nat} {v : Value} {r : Option Nat}
/-- what a result of an operation must lead to -/
def upon (P : Program) (o : Oper) (a : Act) (K : Act → World → Prop) : Result Next → Prop
  | .ok (.value v) w' => K (a.put o.dst v) w'
  | .ok .skip w' => K (a.put o.dst undef) w'
  | .ok (.enter f args) w' => Calls P f args w' (fun e w'' => ∃ v, e = .returned v ∧ K (a.put o.dst v) w'')
  | .ok (.round l f tmps assign body) w' => RoundIn Fence.wide 0 P l f tmps assign body w' (fun e w'' => ∃ v, e = .returned v ∧ K (a.put o.dst v) w'')
  | _ => False
/-- the operation, if its guard says so, runs without a panic, and then K -/
def opw (P : Program) (ops : Array Oper) (o : Oper) (a : Act) (w : World) (K : Act → World → Prop) : Prop :=
  (Region.wanted o (yielded ops a.tmps) = true → upon P o a K ((execOp a.eval o).run P w)) ∧ (Region.wanted o (yielded ops a.tmps) = false → K (a.put o.dst undef) w)
theorem semAt_ok {x : Next} {w' : World} (h : (execOp a.eval o).run P w = .ok x w') (hx : ∀ d, x ≠ .defer d) : (o.semAt r a.eval).run P w = .ok x w' := by
  rw [Oper.semAt_eq r a.eval o ?_]
  · exact h
  · intro c hc
    unfold execOp at h; rw [hc] at h
    simp only [Sem.run_bind] at h
    cases hr : (resolve a.eval c o.type).run P w with
    | ok d w1 => rw [hr] at h; simp at h; exact hx d h.1.symm
    | halt y w1 => rw [hr] at h; simp at h
theorem opw_op {K : Act → World → Prop} {Q' : Exit → Act → World → Prop} (h : opw P ops o a w K) :
    if Region.wanted o (yielded ops a.tmps) = true then o.wpIn (FR r) 0 P a w K Q' else (∀ f, o.about P w a.eval = some f → (FR r).fn f) ∧ K (a.put o.dst undef) w := by
  by_cases hw : Region.wanted o (yielded ops a.tmps) = true
  · rw [if_pos hw]
    refine ⟨fun _ _ => trivial, ?_⟩
    show o.uponIn (FR r) 0 P a K Q' ((o.semAt r a.eval).run P w)
    have h := h.1 hw
    unfold upon at h
    split at h
    · rename_i hr; rw [semAt_ok hr (by simp)]; exact h
    · rename_i hr; rw [semAt_ok hr (by simp)]; exact h
    · rename_i f args w' hr
      rw [semAt_ok hr (by simp), Oper.uponIn_enter]
      refine ⟨fun h => (by cases h), fr_calls (Calls.mono h fun e w'' ⟨v, he, hv⟩ => ?_)⟩
      subst he; exact hv
    · rename_i l f tmps assign body w' hr
      rw [semAt_ok hr (by simp), Oper.uponIn_round]
      refine ⟨fun h => (by cases h), fr_round (RoundIn.mono h fun e w'' ⟨v, he, hv⟩ => ?_)⟩
      subst he; exact hv
    · exact h.elim
  · rw [if_neg hw]; exact ⟨fun _ _ => trivial, h.2 (by simpa using hw)⟩
theorem upon_mono {K K' : Act → World → Prop} {x : Result Next} (h : upon P o a K x) (hk : ∀ a w, K a w → K' a w) : upon P o a K' x := by
  unfold upon at h ⊢
  split at h
  · exact hk _ _ h
  · exact hk _ _ h
  · exact Calls.mono h fun e w'' ⟨v, he, hv⟩ => ⟨v, he, hk _ _ hv⟩
  · exact RoundIn.mono h fun e w'' ⟨v, he, hv⟩ => ⟨v, he, hk _ _ hv⟩
  · exact h.elim
theorem opw_mono {K K' : Act → World → Prop} (h : opw P ops o a w K) (hk : ∀ a w, K a w → K' a w) : opw P ops o a w K' :=
  ⟨fun hw => upon_mono (h.1 hw) hk, fun hw => hk _ _ (h.2 hw)⟩
/-- operations one after the other, and then Q -/
def gl (P : Program) (ops : Array Oper) (Q : Exit → Act → World → Prop) : List Oper → Act → World → Prop
  | [], a, w => Q .normal a w
  | o :: rest, a, w => opw P ops o a w (gl P ops Q rest)
theorem wl_of (h : opw P ops o a w (gl P ops Q rest)) : gl P ops Q (o :: rest) a w := h
theorem gl_nil (h : Q .normal a w) : gl P ops Q [] a w := h
theorem gl_ops {l : List Oper} : ∀ (k m : Nat) (a : Act) (w : World), k + m = l.length → gl P l.toArray Q (l.drop k) a w → wpOpsIn (FR r) 0 P l.toArray Q (List.range' k m) a w := by
  intro k m
  induction m generalizing k with
  | zero =>
    intro a w hk h
    rw [List.drop_eq_nil_of_le (by omega)] at h
    exact h
  | succ m ih =>
    intro a w hk h
    have hlt : k < l.length := by omega
    rw [List.drop_eq_getElem_cons hlt] at h
    rw [List.range'_succ, wpOpsIn_cons]
    unfold wpOpIn
    have ho : l.toArray[k]? = some l[k] := by simp [hlt]
    rw [ho]
    exact opw_op (opw_mono h (fun a' w' h' => ih (k + 1) a' w' (by omega) h'))
theorem g_region {id : Nat} {l : List Oper} (h : gl P l.toArray Q l a w) : gp r P (.region id l.toArray false) Q a w := by
  refine wpIn_region ?_
  rw [List.range_eq_range', List.size_toArray]
  exact gl_ops 0 l.length a w (by omega) (by simpa using h)
theorem wn (hg : o.guard = none) : Region.wanted o (yielded ops a.tmps) = true := by simp [Region.wanted, hg]
variable {K : Act → World → Prop}
theorem opw_is {x : Result Next} (hw : Region.wanted o (yielded ops a.tmps) = true) (hr : (execOp a.eval o).run P w = x) (k : upon P o a K x) : opw P ops o a w K :=
  ⟨fun _ => by rw [hr]; exact k, fun h => by rw [hw] at h; cases h⟩
theorem opw_val {w' : World} (hw : Region.wanted o (yielded ops a.tmps) = true) (hr : (execOp a.eval o).run P w = .ok (.value v) w') (k : K (a.put o.dst v) w') : opw P ops o a w K := opw_is hw hr k
theorem opw_skip {w' : World} (hw : Region.wanted o (yielded ops a.tmps) = true) (hr : (execOp a.eval o).run P w = .ok .skip w') (k : K (a.put o.dst undef) w') : opw P ops o a w K := opw_is hw hr k
theorem opw_un (hw : Region.wanted o (yielded ops a.tmps) = false) (k : K (a.put o.dst undef) w) : opw P ops o a w K :=
  ⟨fun h => (by rw [hw] at h; cases h), fun _ => k⟩
/-- an operation that yields a value -/
theorem op_y (hw : Region.wanted o (yielded ops a.tmps) = true) (hd : o.dst = some d) (hn : Nat.blt d n.n = true) (S : St n fl a) (hy : Yld P o a w v)
    (k : ∀ a', St n ((d, v) :: fl) a' → K a' w) : opw P ops o a w K := by
  refine opw_val hw hy ?_
  rw [hd]; exact k _ (S.put hn v)
theorem n_then {K : Act → World → Prop} (h : K a w) : Exit.then K Q .normal a w := h
theorem n_block {id : Nat} (h : Q .normal a w) : Exit.inBlock id Q .normal a w := h
theorem x_then {K : Act → World → Prop} {id : Nat} (h : Q (.exit id) a w) : Exit.then K Q (.exit id) a w := h
theorem x_eq {id : Nat} (h : Q .normal a w) : Exit.inBlock id Q (.exit id) a w := by
  simp only [Exit.inBlock, if_true]; exact h
theorem r_then {K : Act → World → Prop} (h : Q .ret a w) : Exit.then K Q .ret a w := h
theorem r_block {id : Nat} (h : Q .ret a w) : Exit.inBlock id Q .ret a w := h
theorem g_skip (h : Q .normal a w) : gp r P .skip Q a w := wpIn_skip h
theorem g_exit {id : Nat} (h : Q (.exit id) a w) : gp r P (.exit id) Q a w := wpIn_exit h
theorem g_ret (h : Q .ret a w) : gp r P .ret Q a w := wpIn_ret h
theorem g_seq {x y : Code} (h : gp r P x (Exit.then (gp r P y Q) Q) a w) : gp r P (.seq x y) Q a w := wpIn_seq h
theorem g_block {id : Nat} {c : Code} (h : gp r P c (Exit.inBlock id Q) a w) : gp r P (.block id c) Q a w := wpIn_block h
theorem g_mono {c : Code} {Q' : Exit → Act → World → Prop} (h : gp r P c Q a w) (hq : ∀ e a w, Q e a w → Q' e a w) : gp r P c Q' a w := wpIn_mono h hq
theorem c_if {c : Operand} {x y : Code} {B : Bool} (S : St n fl a) (hc : ev fl c = some (.bool B)) (ht : B = true → gp r P x Q a w) (hf : B = false → gp r P y Q a w) :
    gp r P (.cond c x y) Q a w := wpIn_cond_split (S.ev hc) ht hf
theorem g_loop {c : Code} (I : Nat → Act → World → Prop) (n₀ : Nat) (h₀ : I n₀ a w)
    (round : ∀ n a w, I n a w → gp r P c (Exit.then (fun a' w' => ∃ n', n' < n ∧ I n' a' w') Q) a w) : gp r P (.loop c) Q a w := by
  refine wpIn_loop (fun a w => ∃ n, I n a w) (fun a w => leastOf (fun n => I n a w)) ⟨n₀, h₀⟩ ?_
  intro a w hI
  refine wpIn_mono (round _ a w (leastOf_spec hI).1) ?_
  intro e a' w' hq
  cases e with
  | normal =>
    obtain ⟨n', hlt, hI'⟩ := hq
    exact show (∃ n, I n a' w') ∧ leastOf (fun n => I n a' w') < leastOf (fun n => I n a w) from ⟨⟨n', hI'⟩, Nat.lt_of_le_of_lt ((leastOf_spec ⟨n', hI'⟩).2 n' hI') hlt⟩
  | _ => exact hq
/-- the ways through a statement meet again -/
theorem cut {c : Code} {K : Act → World → Prop} (J : Act → World → Prop) (h : gp r P c (Exit.then J Q) a w) (hk : ∀ a' w', J a' w' → K a' w') : gp r P c (Exit.then K Q) a w :=
  g_mono h (fun e a' w' hq => by cases e <;> first | exact hk _ _ hq | exact hq)
/-- a Go function's call returns v in w' -/
def Ret (P : Program) (f : FuncId) (args : Array Value) (w : World) (R : Value → World → Prop) : Prop := Calls P f args w (fun e w' => ∃ v, e = .returned v ∧ R v w')
theorem Ret.mono {f : FuncId} {args : Array Value} {R R' : Value → World → Prop} (h : Ret P f args w R) (hr : ∀ v w', R v w' → R' v w') : Ret P f args w R' :=
  Calls.mono h (fun e w' ⟨v, he, hv⟩ => ⟨v, he, hr v w' hv⟩)
/-- what a function's body must achieve -/
def endP (P : Program) (fn : Func) (R : Value → World → Prop) : Exit → Act → World → Prop := bodyPostM Fence.wide 0 P fn (fun e w' => ∃ v, e = .returned v ∧ R v w')
theorem end_ret {fn : Func} {R : Value → World → Prop} (S : St n fl a) (hds : n.ds = []) (hr : (results fn a.tmps).run P w = .ok v w) (h : R v w) : endP P fn R .ret a w := by
  have hd := S.defers
  rw [hds] at hd
  show LeavesInM Fence.wide 0 P fn a.tmps _ a.defers .returning w
  rw [hd]
  exact ⟨v, hr, v, rfl, h⟩
/-- the slots of the arguments -/
def argSlots (args : List Value) : Slots := (List.range args.length).zip args
theorem lookup_zip_range' (args : List Value) : ∀ (s i : Nat) (v : Value), ((List.range' s args.length).zip args).lookup i = some v → s ≤ i ∧ args[i - s]? = some v := by
  induction args with
  | nil => intro s i v h; simp at h
  | cons x r ih =>
    intro s i v h
    simp only [List.length_cons, List.range'_succ, List.zip_cons_cons, List.lookup] at h
    split at h
    · rename_i hi
      have : i = s := by simpa using hi
      subst this; cases h; simp
    · obtain ⟨h1, h2⟩ := ih (s + 1) i v h
      refine ⟨by omega, ?_⟩
      have : i - s = (i - (s + 1)) + 1 := by omega
      rw [this]; simpa using h2
theorem ret_of_wp {f : FuncId} {fn : Func} {c : Code} {args : Array Value} {R : Value → World → Prop} {fl : Slots} (hf : P.funcs[f]? = some fn) (hb : fn.body = some c) {nt : Nat} (hn : fn.ntmps = nt) (hsz : Nat.ble args.size nt = true) (hfl : argSlots args.toList = fl)
    (h : ∀ a, St ⟨nt, []⟩ fl a → gp none P c (endP P fn R) a w) : Ret P f args w R := by
  have hsz' : args.size ≤ nt := by simpa using hsz
  refine (callsIn_wide (n := 0)).1 (callsIn_of_wp_marks (F := Fence.wide) hf hb trivial (h _ ⟨by simp; omega, rfl, ?_⟩))
  intro i v hi
  subst hfl
  have h' := lookup_zip_range' args.toList 0 i v (by simpa [argSlots, List.range_eq_range'] using hi)
  have hi2 : args[i]? = some v := by simpa using h'.2
  have hlt := (Array.getElem?_eq_some_iff.1 hi2).1
  simp only [Array.getD_eq_getD_getElem?]
  rw [Array.getElem?_append_left hlt, hi2]; rfl
theorem ret1 {fn : Func} {R : Value → World → Prop} {t : Nat} (hr : fn.results = #[.tmp t]) (S : St n fl a) (hv : fl.lookup t = some v) (h : R v w) (hds : n.ds = [] := by rfl) : endP P fn R .ret a w :=
  end_ret S hds (by rw [results_tmp hr, S.get t v hv]) h
theorem ret2 {fn : Func} {R : Value → World → Prop} {t u : Nat} {v' : Value} (hr : fn.results = #[.tmp t, .tmp u]) (S : St n fl a) (hv : fl.lookup t = some v) (hv' : fl.lookup u = some v') (h : R (.tuple #[v, v']) w) (hds : n.ds = [] := by rfl) : endP P fn R .ret a w :=
  end_ret S hds (by rw [results_tmp2 hr, S.get t v hv, S.get u v' hv']) h
theorem ret0n {fn : Func} {R : Value → World → Prop} (hr : fn.results = #[]) (S : St n fl a) (h : R (.tuple #[]) w) (hds : n.ds = [] := by rfl) : endP P fn R .normal a w :=
  end_ret S hds (results_none hr _ _ _) h
theorem ret0 {fn : Func} {R : Value → World → Prop} (hr : fn.results = #[]) (S : St n fl a) (h : R (.tuple #[]) w) (hds : n.ds = [] := by rfl) : endP P fn R .ret a w :=
  end_ret S hds (results_none hr _ _ _) h
end
end Go.Gw
