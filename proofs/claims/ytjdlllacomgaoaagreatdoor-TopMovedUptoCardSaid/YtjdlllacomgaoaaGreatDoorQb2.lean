/- Parts of the proof, joined: the program logic, the plain theory, the walks, as they are named inside. No condition. -/
import Derived.Test.YtjdlllacomgaoaaGreatDoorQb1
import Derived.Lib.Overlaps
import Derived.Lib.AppendZerosOnto
import Derived.Laws.NewBlocks
import Derived.ChangeKeysEq
import Derived.Laws.Bits64
import Derived.Laws.Bits64b
import Derived.Lib.LaidTab
import Derived.Laws.IdiomStrings
import Derived.Lib.Builder
import Derived.Lib.AppendStr
import Derived.Laws.MakeOwn
import Derived.Test.YtjdlllacomgaoaaGreatDoorChecked
import Derived.WalkKit
import Derived.Lib.Bytealg
import Derived.Lib.Atoi
import Derived.Shelf.Small.Bits
import Derived.Shelf.Small.Strs
import Derived.Shelf.Strconv.Atoi
import Derived.Shelf.Strconv.Itoa0
import Derived.Shelf.Strconv.Itoa1
import Derived.Shelf.LaysM
import Derived.Shelf.Strconv.Itoa2
import Derived.Shelf.Strconv.Itoa3
import Derived.Shelf.Strconv.ParseIntEmpty
import Derived.Shelf.Strconv.Clone
import Derived.Shelf.Strconv.SyntaxError
import Derived.Shelf.Strconv.Lower
import Derived.Shelf.Strconv.ParseUint10
import Derived.Shelf.Strconv.ParseUint10Empty
import Derived.Shelf.Strconv.RangeError
import Derived.Shelf.Strconv.ParseUintEmpty
import Derived.Shelf.Strconv.ParseUint10b64
import Derived.Shelf.Strconv.ParseUint10b32
import Derived.Shelf.Strconv.ParseUint10b16
import Derived.Shelf.Strconv.ParseUint10b8
import Derived.Shelf.Strings.Search1
import Derived.Shelf.Sort.Plain
import Derived.Shelf.Bits.Mul64
import Derived.Ground.Names2Prog
import Derived.Shelf.Slices.CompactI
import Derived.Shelf.Slices.SearchI
import Derived.Shelf.Slices.Cells
import Derived.Shelf.Slices.In.SortNone
import Derived.Test.YtjdlllacomgaoaaGreatDoorProg
set_option linter.unusedVariables false
set_option linter.unusedSimpArgs false
namespace Go.Gw
section
section
section
variable {P : Program} {o : Oper} {n : Sz} {fl : Slots} {a : Act} {w w0 : World} {v : Value} {M : Nat → Prop} {l : List Atom} {ops : Array Oper} {d : Nat} {K : Act → World → Prop}
theorem y_cap {x : Operand} {T E : TypeId} {p : Option Addr} {m c : Nat} (ho : o.op = .call { callee := .builtin .cap, args := #[x], argTypes := #[T] }) (hT : P.underlying T = some (.slice E)) (S : St n fl a) (hx : ev fl x = some (.slice p m c)) : Yld P o a w (.int .i64 (c : Int)) := by
  unfold Yld execOp; rw [ho]; simp [resolve, invoke, builtin, S.ev hx, Builtin.cap_, goInt, run_underlying hT]
theorem y_sliceY {T E : TypeId} {x hi : Operand} {k : IntKind} {p : Option Addr} {m c j sz : Nat} (ho : o.op = .slice T x none (some hi) none) (hT : P.underlying T = some (.slice E)) (hE : ZA8 P E sz = true) (S : St n fl a)
    (hx : ev fl x = some (.slice p m c)) (hh : ev fl hi = some (.int k (j : Int))) (h1 : j ≤ c) : Yld P o a w (.slice p j c) := by
  unfold Yld execOp; rw [ho]
  simp only [Option.map_some, Option.map_none, S.ev hx, S.ev hh]
  have hT' : P.underlying T = some (.slice (P.elem T)) := by rw [elem_of hT]; exact hT
  have hsz : (sizeOf (P.elem T)).run P w = .ok sz w := by rw [elem_of hT]; exact ZBM (sizeB_size hE)
  simp only [Sem.run_bind, run_sliceAt_slice (P := P) w T _ _ _ _ hT', run_slice_h (P := P) w T _ m c hT' k j (by omega) (by omega), hsz, Result.andThen_ok, Sem.run_pure]
  cases p <;> simp [sliced, add_plain, Addr.add]
theorem op_appendZ {T TN E : TypeId} {s x : Operand} {z : Value} {sz by_ i m c : Nat} {kn : IntKind} {p : Option Addr} {α : Type} {enc : α → List Value} (ys : List α) (z0 : α)
    (hw : Region.wanted o (yielded ops a.tmps) = true) (hd : o.dst = some d) (hn : Nat.blt d n.n = true) (ho : o.op = .call { callee := .builtin .append, args := #[s, x], argTypes := #[T, TN] }) (hT : P.underlying T = some (.slice E)) (hTN : P.underlying TN = some (.int kn)) (hE : infoB P E = some (z, sz, by_)) (hz : z.cells.size = sz) (hsz : Nat.blt 0 sz = true) (hz0 : enc z0 = z.cells.toList)
    (S : St n fl a) (H : HSat M w0 l w) (hs : ev fl s = some (.slice p i c)) {kq : IntKind} (hx : ev fl x = some (.int kq (m : Int))) (hold : ∀ j u, (ys.flatMap enc)[j]? = some u → ∃ ad, p = some ad ∧ w.cell? (ad.add j) = some u) (hl : ys.length = i) (hp : p = none → i = 0) (hy : ∀ y ∈ ys, (enc y).length = sz) (hm : 0 < m) (hr : c < i + m) (hb : (i + m) * by_ ≤ 140737488355328) (hbig : i + m ≤ 4611686018427387904)
    (k : ∀ g c2 a' w', i + m ≤ c2 → St n ((d, .slice (some ⟨g, 0, none⟩) (i + m) c2) :: fl) a' → HSat M w0 (OSl E (.slice (some ⟨g, 0, none⟩) (i + m) c2) sz enc (ys ++ List.replicate m z0) :: l) w' → K a' w') : opw P ops o a w K := by
  obtain ⟨inf, hinf, hzi, hsi, hbi⟩ := infoB_parts hE
  have hyl := ZA7 (enc := enc) (sz := sz) (xs := ys) hy
  have hsz' : 0 < sz := by simpa using hsz
  have hfc : (Builtin.firstCells inf.size i (.slice p i c)).run P w.drew = .ok (ys.flatMap enc).toArray w.drew := by
    rw [hsi]
    cases p with
    | none =>
      have h0 := hp rfl
      have : ys = [] := List.eq_nil_of_length_eq_zero (by omega)
      subst this
      exact run_firstCells_none w.drew sz i i c
    | some ad => exact run_firstCells_some w.drew sz i ad i c _ (by rw [hyl, hl]) (fun j u hu => by obtain ⟨ad', e, hc⟩ := hold j u hu; cases e; exact hc)
  have hgr := Lib.run_append_grow_zeros w T TN o.type E inf z kq kn hT hTN hinf hzi p i c _ hfc m hm (by rw [hsi]; exact hsz') hr (by omega) (by
    rw [hbi]
    have : m * by_ ≤ (i + m) * by_ := Nat.mul_le_mul_right _ (by omega)
    omega) (by rw [hbi]; exact growslice_fits hr hb)
  obtain ⟨G, hG⟩ : ∃ G, G = grownCap w (i + m) c E := ⟨_, rfl⟩
  have hGn : i + m ≤ G := by rw [hG]; exact grownCap_ge w _ _ _
  have hGm : G ≤ maxLen := by rw [hG]; exact grownCap_le_maxLen w (i + m) c E (by unfold maxLen; omega)
  rw [← hG] at hgr
  have hzf : (Builtin.zeroCells z.cells m).toList = (List.replicate m z0).flatMap enc := by
    have h := madeCells_flat z.cells m (by rw [hz]; exact hsz')
    have e : Builtin.zeroCells z.cells m = madeCells z.cells (m * z.cells.size) := rfl
    rw [e, h, ← hz0, List.flatMap_def, List.map_replicate]
  have hrun : (execOp a.eval o).run P w = .ok (.value (.slice (some ⟨w.heap.size, 0, none⟩) (i + m) G)) (w.drew.alloc (.cells ((ys.flatMap enc).toArray ++ Builtin.zeroCells z.cells m ++ Builtin.zeroCells z.cells (G - (i + m))) E)) := by
    unfold execOp; rw [ho]
    simp only [resolve, invoke, builtin, Sem.run_bind, Sem.run_pure, Result.andThen_ok, List.map_toArray, List.map_cons, List.map_nil, S.ev hs, S.ev hx, hgr]
  refine opw_val hw hrun ?_
  rw [hd]
  refine k _ _ _ _ hGn (S.put hn _) ?_
  have hsz2 : ∀ x ∈ ys ++ List.replicate m z0, (enc x).length = sz := fun x hx => by
    rcases List.mem_append.1 hx with h | h
    · exact hy x h
    obtain rfl := List.eq_of_mem_replicate h; rw [hz0, Array.length_toList, hz]
  have hfl := ZA7 hsz2
  have hrl : (List.replicate m z0).length = m := List.length_replicate
  refine HSat.call1 (H.ext (Ext.drew w)) (x := OSl E _ sz enc (ys ++ List.replicate m z0)) ⟨Ext.alloc_cells _ _ _, ?_, ?_, List.pairwise_singleton _ _⟩ rfl
  · intro q hq
    simp only [List.mem_singleton] at hq
    subst hq
    refine ⟨⟨hfl, .inr ⟨w.heap.size, G, _, by rw [List.length_append, hrl, hl], Nat.zero_le _, heap_new w.drew _, by rw [List.length_append, hrl, hl]; exact hGn, hGm, ?_, ?_⟩⟩, by rw [List.length_append, hrl, hl]; omega, hsz2⟩
    · simp only [Array.size_append, List.size_toArray, size_zeroCells, hz, hyl, hl, ← Nat.add_mul]
      congr 1; omega
    rw [List.length_append, hrl, hl]
    simp only [Array.toList_append, List.toList_toArray]
    rw [hzf, ← List.flatMap_append, List.take_append_of_le_length (by rw [hfl, List.length_append, hrl, hl]; exact Nat.le_refl _), List.take_of_length_le (by rw [hfl, List.length_append, hrl, hl]; exact Nat.le_refl _)]
  intro q hq _ b hb
  simp only [List.mem_singleton] at hq
  subst hq
  simp only [OSl, Value.ownBlock, Option.some.injEq] at hb
  subst hb
  exact .inr (Nat.le_refl _)
theorem HSat.cutO {E : TypeId} {p : Option Addr} {m c sz : Nat} {α : Type} {enc : α → List Value} {xs : List α} (H : HSat M w0 (OSl E (.slice p m c) sz enc xs :: l) w) (hp : p ≠ none) (j : Nat) (hj : j ≤ xs.length) : HSat M w0 (OSl E (.slice p j c) sz enc (xs.take j) :: l) w := by
  refine H.conv (fun h => h) (fun b hb => ?_) (fun hok => ?_)
  · have hb : (Value.slice p j c).ownBlock = some b := hb
    cases p <;> exact hb
  have hok : IsOSl w E (.slice p m c) sz enc xs := hok
  rcases hok.row.2 with ⟨e, _⟩ | ⟨g', cap, cur, e, _, hg, hnc, hmax, hcs, ht⟩
  · cases e; exact absurd rfl hp
  cases e
  refine ⟨⟨ZA7 (fun x hx => hok.sizes x (List.mem_of_mem_take hx)), .inr ⟨g', c, cur, by rw [List.length_take, Nat.min_eq_left hj], Nat.zero_le _, hg, by rw [List.length_take]; omega, hmax, hcs, ?_⟩⟩, by rw [List.length_take]; have := hok.len; omega, fun x hx => hok.sizes x (List.mem_of_mem_take hx)⟩
  rw [List.length_take, Nat.min_eq_left hj, ← flat_take hok.sizes j hj, ← ht, List.take_take, Nat.min_eq_left (Nat.mul_le_mul_right _ hj)]
end
end
end
end Go.Gw
namespace Go.Gw
section
set_option linter.unusedSectionVars false
section
def PureA (p : Prop) : Atom := ⟨true, fun _ => False, fun _ => p, fun _ _ _ h => h, fun _ _ _ h => h.elim⟩
def FamA {ι : Type} (ks : List ι) (f : ι → Atom) : Atom := Bun (ks.map f)
section
variable {w w0 : World} {M : Nat → Prop} {l : List Atom}
theorem HSat.fact {p : Prop} (H : HSat M w0 (PureA p :: l) w) : p := H.ok (PureA p) (List.mem_cons_self ..)
theorem HSat.laid {p : Prop} (H : HSat M w0 l w) (h : p) : HSat M w0 (PureA p :: l) w :=
  ⟨H.fr, fun x hx => (List.mem_cons.1 hx).elim (fun e => e ▸ h) (H.ok x), fun x hx ho b hb => (List.mem_cons.1 hx).elim (fun e => by subst e; exact (hb : False).elim) (fun hx => H.mine x hx ho b hb), List.pairwise_cons.2 ⟨fun y hy ho b hb => (hb : False).elim, H.sep⟩⟩
section fam
variable {ι : Type} [DecidableEq ι] {ks : List ι} {f : ι → Atom}
theorem HSat.famOut (H : HSat M w0 (FamA ks f :: l) w) {k : ι} (hk : k ∈ ks) : HSat M w0 (f k :: FamA (ks.erase k) f :: l) w := by
  have hown : ∀ x ∈ (ks.erase k).map f, x.own = true := fun x hx => by
    obtain ⟨j, hj, rfl⟩ := List.mem_map.1 hx
    exact ((H.ok (FamA ks f) (List.mem_cons_self ..)).1 (f j) (List.mem_map.2 ⟨j, List.mem_of_mem_erase hj, rfl⟩)).1
  have hp : (ks.map f).Perm (f k :: (ks.erase k).map f) := (List.perm_cons_erase hk).map f
  have h1 := H.unfold.perm (List.Perm.append_right l hp)
  have h2 : HSat M w0 ((ks.erase k).map f ++ (f k :: l)) w := h1.perm (List.perm_middle (a := f k) (l₁ := (ks.erase k).map f) (l₂ := l)).symm
  exact (h2.fold hown).swap2
theorem HSat.famIn {y : Atom} (f' : ι → Atom) {k : ι} (H : HSat M w0 (y :: FamA (ks.erase k) f :: l) w) (hk : k ∈ ks) (hn : ks.Nodup) (hy : y.own = true) (hf : f' k = y) (ho : ∀ j ∈ ks, j ≠ k → f' j = f j) : HSat M w0 (FamA ks f' :: l) w := by
  have hown : ∀ x ∈ (ks.erase k).map f, x.own = true := fun x hx => by
    obtain ⟨j, hj, rfl⟩ := List.mem_map.1 hx
    exact ((H.ok (FamA (ks.erase k) f) (by simp)).1 (f j) (List.mem_map.2 ⟨j, hj, rfl⟩)).1
  have he : (ks.erase k).map f' = (ks.erase k).map f := List.map_congr_left fun j hj => ho j (List.mem_of_mem_erase hj) (fun e => by subst e; exact absurd hj (List.Nodup.not_mem_erase hn))
  have hp : (ks.map f').Perm (y :: (ks.erase k).map f) := by
    have := (List.perm_cons_erase hk).map f'
    rw [List.map_cons, hf, he] at this; exact this
  have h1 : HSat M w0 ((ks.erase k).map f ++ (y :: l)) w := H.swap2.unfold
  have h2 : HSat M w0 ((y :: (ks.erase k).map f) ++ l) w := h1.perm (List.perm_middle (a := y) (l₁ := (ks.erase k).map f) (l₂ := l))
  refine (h2.perm (List.Perm.append_right l hp.symm)).fold (fun x hx => ?_)
  have := hp.mem_iff.1 hx
  rcases List.mem_cons.1 this with rfl | h
  · exact hy
  exact hown x h
theorem HSat.famNil (H : HSat M w0 l w) (f : ι → Atom) : HSat M w0 (FamA [] f :: l) w := HSat.fold (ls := []) H (by simp)
theorem HSat.famSnoc {y : Atom} (f' : ι → Atom) {k : ι} (H : HSat M w0 (y :: FamA ks f :: l) w) (hy : y.own = true) (hf : f' k = y) (ho : ∀ j ∈ ks, f' j = f j) : HSat M w0 (FamA (ks ++ [k]) f' :: l) w := by
  have hown : ∀ x ∈ ks.map f, x.own = true := fun x hx => ((H.ok (FamA ks f) (by simp)).1 x hx).1
  have he : (ks ++ [k]).map f' = ks.map f ++ [y] := by rw [List.map_append, List.map_congr_left ho]; simp [hf]
  have h1 : HSat M w0 (ks.map f ++ (y :: l)) w := H.swap2.unfold
  have h2 : HSat M w0 ((ks.map f ++ [y]) ++ l) w := by simpa using h1
  unfold FamA
  rw [he]
  refine h2.fold (fun x hx => ?_)
  rcases List.mem_append.1 hx with h | h
  · exact hown x h
  rw [List.mem_singleton.1 h]; exact hy
end fam
end
section
variable {P : Program} {o : Oper} {n : Sz} {fl : Slots} {a : Act} {w w0 : World} {v : Value} {M : Nat → Prop} {l : List Atom} {ops : Array Oper} {d : Nat} {K : Act → World → Prop}
theorem op_insert {κ β : Type} {inst : DecidableEq κ} {T kt et : TypeId} {x ix y : Operand} {b : Nat} {kenc : κ → Value} {enc : β → Value} {m : κ → Option β} {c : Nat} {l' : Atom → List Atom} (k : κ) (u : β) (hw : Region.wanted o (yielded ops a.tmps) = true) (hd : o.dst = none) (ho : o.op = .insert T x ix y) (hT : P.underlying T = some (.map kt et)) (S : St n fl a) (H : HSat M w0 l w)
    (hx : ev fl x = some (.map (some b))) [h : HasMap l b κ β inst kenc enc m c l'] (KO : KeyOK P kt kenc) (hi : ev fl ix = some (kenc k)) (hy : ev fl y = some (enc u))
    (kk : ∀ a' w', St n fl a' → HSat M w0 (l' (MapA b kenc enc (upd m k u) (if (m k).isSome = true then c else c + 1))) w' → K a' w') : opw P ops o a w K := by
  have key := ZBA (o := { o with op := .mapUpdate T x ix y }) (P := P) (ops := ops) (K := K) k u hw hd rfl hT S H hx (h := h) KO hi hy kk
  have he : execOp a.eval o = execOp a.eval { o with op := .mapUpdate T x ix y } := by
    unfold execOp; rw [ho]
  unfold opw at key ⊢
  rw [he]
  exact key
end
end
end
end Go.Gw
namespace Go.Gw
section
section
section
variable {P : Program} {o : Oper} {n : Sz} {fl : Slots} {a : Act} {w w0 : World} {v : Value} {M : Nat → Prop} {l : List Atom} {ops : Array Oper} {d : Nat} {K : Act → World → Prop}
theorem y_index {T : TypeId} {x ix : Operand} {u i r : Value} (ho : o.op = .index T x ix) (S : St n fl a) (hx : ev fl x = some u) (hi : ev fl ix = some i) (h : (Instr.index T u i).run P w = .ok r w) : Yld P o a w r := by
  unfold Yld execOp; rw [ho]; simp [S.ev hx, S.ev hi, h]
end
end
end
end Go.Gw
namespace Go.Gw
section
open Go.Lib Go.RowKit
section
section
variable {P : Program} {o : Oper} {n : Sz} {fl : Slots} {a : Act} {w w0 : World} {v : Value} {M : Nat → Prop} {l : List Atom} {ops : Array Oper} {d : Nat} {K : Act → World → Prop}
def encB (c : UInt8) : List Value := [.int .u8 (c.toNat : Int)]
end
end
end
end Go.Gw
namespace Go.Gw
section
section
section
variable {P : Program} {o : Oper} {n : Sz} {fl : Slots} {a : Act} {w w0 : World} {v : Value} {M : Nat → Prop} {l : List Atom} {ops : Array Oper} {d : Nat} {K : Act → World → Prop}
theorem y_slicestr {T : TypeId} {x lo hi : Operand} {k k2 : IntKind} {i j : Nat} {s r : ByteArray} (ho : o.op = .slice T x (some lo) (some hi) none) (hT : P.underlying T = some .string) (S : St n fl a) (hx : ev fl x = some (.string s)) (hl : ev fl lo = some (.int k (i : Int))) (hh : ev fl hi = some (.int k2 (j : Int))) (hij : i ≤ j) (hj : j ≤ s.size) (hr : s.extract i j = r) : Yld P o a w (.string r) := by
  subst hr
  unfold Yld execOp; rw [ho]
  simp only [Option.map_some, Option.map_none, S.ev hx, S.ev hl, S.ev hh]
  have h := run_slice_string (P := P) w T s k k2 (i : Int) (j : Int) hT (by omega) (by omega) (by omega)
  simp only [Int.toNat_natCast] at h
  simp only [Sem.run_bind, run_sliceAt_string (P := P) w T _ _ _ _ hT, h, Result.andThen_ok, Sem.run_pure]
end
end
end
end Go.Gw
namespace Go.Proofs.YtjdlllacomgaoaaGreatDoor
section
open Go Go.Gw _root_.Go.Proofs.Tryz
theorem Fagg106 : aggB Tryz.prog 106 3 = true := by kernel_rfl
theorem Fagg128 : aggB Tryz.prog 128 3 = true := by kernel_rfl
theorem Fagg152 : aggB Tryz.prog 152 4 = true := by kernel_rfl
theorem Fagg169 : aggB Tryz.prog 169 4 = true := by kernel_rfl
theorem Fagg193 : aggB Tryz.prog 193 5 = true := by kernel_rfl
theorem Fagg210 : aggB Tryz.prog 210 8 = true := by kernel_rfl
theorem Fagg216 : aggB Tryz.prog 216 256 = true := by kernel_rfl
theorem Fagg23 : aggB Tryz.prog 23 2 = true := by kernel_rfl
theorem Fagg26 : aggB Tryz.prog 26 4 = true := by kernel_rfl
theorem Fagg39 : aggB Tryz.prog 39 2 = true := by kernel_rfl
theorem Fagg41 : aggB Tryz.prog 41 3 = true := by kernel_rfl
theorem Fagg46 : aggB Tryz.prog 46 3 = true := by kernel_rfl
theorem Fagg55 : aggB Tryz.prog 55 11 = true := by kernel_rfl
theorem Fagg57 : aggB Tryz.prog 57 9 = true := by kernel_rfl
theorem Fagg70 : aggB Tryz.prog 70 8 = true := by kernel_rfl
theorem Fagg73 : aggB Tryz.prog 73 3 = true := by kernel_rfl
theorem Fagg79 : aggB Tryz.prog 79 8 = true := by kernel_rfl
theorem Fagg90 : aggB Tryz.prog 90 4 = true := by kernel_rfl
theorem Fagg92 : aggB Tryz.prog 92 7 = true := by kernel_rfl
theorem Fagg98 : aggB Tryz.prog 98 4 = true := by kernel_rfl
theorem Fbld106 : buildB Tryz.prog 106 = some ([.int .i64 0, .int .i64 0, .int .i64 0], [(0, 1), (1, 1), (2, 1)]) := by kernel_rfl
theorem Fbld128 : buildB Tryz.prog 128 = some ([.int .i64 0, .int .i64 0, .int .i64 0], [(0, 1), (1, 1), (2, 1)]) := by kernel_rfl
theorem Fbld135 : buildB Tryz.prog 135 = some ([.int .i64 0, .int .i64 0, .int .i64 0], [(0, 1), (1, 1), (2, 1)]) := by kernel_rfl
theorem Fbld152 : buildB Tryz.prog 152 = some ([.int .i64 0, .int .i64 0, .int .i64 0, .int .i64 0], [(0, 1), (1, 1), (2, 1), (3, 1)]) := by kernel_rfl
theorem Fbld166 : buildB Tryz.prog 166 = some ([.slice none 0 0, .int .i64 0, .int .i64 0], [(0, 1), (1, 1), (2, 1)]) := by kernel_rfl
theorem Fbld169 : buildB Tryz.prog 169 = some ([.int .i64 0, .string ⟨#[]⟩, .int .i64 0, .int .i64 0], [(0, 1), (1, 1), (2, 1), (3, 1)]) := by kernel_rfl
theorem Fbld193 : buildB Tryz.prog 193 = some ([.int .i64 0, .string ⟨#[]⟩, .int .i64 0, .int .i64 0, .int .i64 0], [(0, 4), (4, 1)]) := by kernel_rfl
theorem Fbld210 : buildB Tryz.prog 210 = some ([.int .i64 0, .int .i64 0, .int .i64 0, .int .i64 0, .int .i64 0, .int .i64 0, .int .i64 0, .int .i64 0], [(0, 2), (2, 2), (4, 2), (6, 2)]) := by kernel_rfl
theorem Fbld23 : buildB Tryz.prog 23 = some ([.int .i64 0, .int .i64 0], [(0, 1), (1, 1)]) := by kernel_rfl
theorem Fbld41 : buildB Tryz.prog 41 = some ([.slice none 0 0, .slice none 0 0, .slice none 0 0], [(0, 1), (1, 2)]) := by kernel_rfl
theorem Fbld46 : buildB Tryz.prog 46 = some ([.int .i64 0, .int .i64 0, .slice none 0 0], [(0, 1), (1, 1), (2, 1)]) := by kernel_rfl
theorem Fbld49 : buildB Tryz.prog 49 = some ([.int .i64 0, .int .i64 0, .int .i64 0, .string ⟨#[]⟩, .slice none 0 0], [(0, 1), (1, 1), (2, 1), (3, 1), (4, 1)]) := by kernel_rfl
theorem Fbld55 : buildB Tryz.prog 55 = some ([.int .i64 0, .int .i64 0, .int .i64 0, .string ⟨#[]⟩, .slice none 0 0, .string ⟨#[]⟩, .slice none 0 0, .int .i64 0, .slice none 0 0, .int .i64 0, .slice none 0 0], [(0, 5), (5, 1), (6, 2), (8, 1), (9, 1), (10, 1)]) := by kernel_rfl
theorem Fbld57 : buildB Tryz.prog 57 = some ([.int .i64 0, .int .i64 0, .int .i64 0, .int .i64 0, .int .i64 0, .int .i64 0, .int .i64 0, .int .i64 0, .int .i64 0], [(0, 1), (1, 1), (2, 1), (3, 1), (4, 1), (5, 1), (6, 1), (7, 1), (8, 1)]) := by kernel_rfl
theorem Fbld70 : buildB Tryz.prog 70 = some ([.string ⟨#[]⟩, .int .i64 0, .int .i64 0, .int .i64 0, .int .i64 0, .int .i64 0, .slice none 0 0, .int .i64 0], [(0, 1), (1, 1), (2, 1), (3, 1), (4, 1), (5, 1), (6, 1), (7, 1)]) := by kernel_rfl
theorem Fbld73 : buildB Tryz.prog 73 = some ([.string ⟨#[]⟩, .slice none 0 0, .int .i64 0], [(0, 1), (1, 1), (2, 1)]) := by kernel_rfl
theorem Fbld79 : buildB Tryz.prog 79 = some ([.string ⟨#[]⟩, .int .i64 0, .slice none 0 0, .slice none 0 0, .slice none 0 0, .slice none 0 0, .slice none 0 0, .int .i64 0], [(0, 1), (1, 1), (2, 1), (3, 1), (4, 1), (5, 1), (6, 1), (7, 1)]) := by kernel_rfl
theorem Fbld83 : buildB Tryz.prog 83 = some ([.string ⟨#[]⟩, .int .i64 0, .int .i64 0, .slice none 0 0, .slice none 0 0], [(0, 4), (4, 1)]) := by kernel_rfl
theorem Fbld92 : buildB Tryz.prog 92 = some ([.string ⟨#[]⟩, .int .i64 0, .int .i64 0, .int .i64 0, .int .i64 0, .int .i64 0, .int .i64 0], [(0, 1), (1, 4), (5, 1), (6, 1)]) := by kernel_rfl
theorem Fbld98 : buildB Tryz.prog 98 = some ([.slice none 0 0, .slice none 0 0, .slice none 0 0, .slice none 0 0], [(0, 1), (1, 1), (2, 1), (3, 1)]) := by kernel_rfl
theorem Ffo128_0 : ZAW Tryz.prog 128 0 = some 0 := by kernel_rfl
theorem Ffo128_1 : ZAW Tryz.prog 128 1 = some 1 := by kernel_rfl
theorem Ffo128_2 : ZAW Tryz.prog 128 2 = some 2 := by kernel_rfl
theorem ZBz : ZAW Tryz.prog 166 0 = some 0 := by kernel_rfl
theorem ZA4 : ZAW Tryz.prog 166 1 = some 1 := by kernel_rfl
theorem Ffo169_0 : ZAW Tryz.prog 169 0 = some 0 := by kernel_rfl
theorem Ffo169_1 : ZAW Tryz.prog 169 1 = some 1 := by kernel_rfl
theorem Ffo169_2 : ZAW Tryz.prog 169 2 = some 2 := by kernel_rfl
theorem Ffo169_3 : ZAW Tryz.prog 169 3 = some 3 := by kernel_rfl
theorem Ffo193_0 : ZAW Tryz.prog 193 0 = some 0 := by kernel_rfl
theorem Ffo193_1 : ZAW Tryz.prog 193 1 = some 4 := by kernel_rfl
theorem ZBx : ZAW Tryz.prog 23 0 = some 0 := by kernel_rfl
theorem ZBy : ZAW Tryz.prog 23 1 = some 1 := by kernel_rfl
theorem Ffo26_0 : ZAW Tryz.prog 26 0 = some 0 := by kernel_rfl
theorem Ffo26_1 : ZAW Tryz.prog 26 1 = some 1 := by kernel_rfl
theorem ZBi : ZAW Tryz.prog 26 2 = some 3 := by kernel_rfl
theorem Ffo39_0 : ZAW Tryz.prog 39 0 = some 0 := by kernel_rfl
theorem Ffo39_1 : ZAW Tryz.prog 39 1 = some 1 := by kernel_rfl
theorem Ffo41_0 : ZAW Tryz.prog 41 0 = some 0 := by kernel_rfl
theorem Ffo41_1 : ZAW Tryz.prog 41 1 = some 1 := by kernel_rfl
theorem Ffo46_0 : ZAW Tryz.prog 46 0 = some 0 := by kernel_rfl
theorem ZBJ : ZAW Tryz.prog 46 1 = some 1 := by kernel_rfl
theorem Ffo46_2 : ZAW Tryz.prog 46 2 = some 2 := by kernel_rfl
theorem Ffo49_0 : ZAW Tryz.prog 49 0 = some 0 := by kernel_rfl
theorem Ffo49_2 : ZAW Tryz.prog 49 2 = some 2 := by kernel_rfl
theorem Ffo55_0 : ZAW Tryz.prog 55 0 = some 0 := by kernel_rfl
theorem Ffo55_4 : ZAW Tryz.prog 55 4 = some 9 := by kernel_rfl
theorem Ffo57_0 : ZAW Tryz.prog 57 0 = some 0 := by kernel_rfl
theorem Ffo57_1 : ZAW Tryz.prog 57 1 = some 1 := by kernel_rfl
theorem Ffo57_2 : ZAW Tryz.prog 57 2 = some 2 := by kernel_rfl
theorem Ffo57_3 : ZAW Tryz.prog 57 3 = some 3 := by kernel_rfl
theorem Ffo57_4 : ZAW Tryz.prog 57 4 = some 4 := by kernel_rfl
theorem Ffo57_7 : ZAW Tryz.prog 57 7 = some 7 := by kernel_rfl
theorem Ffo57_8 : ZAW Tryz.prog 57 8 = some 8 := by kernel_rfl
theorem Ffo70_0 : ZAW Tryz.prog 70 0 = some 0 := by kernel_rfl
theorem Ffo70_1 : ZAW Tryz.prog 70 1 = some 1 := by kernel_rfl
theorem Ffo70_2 : ZAW Tryz.prog 70 2 = some 2 := by kernel_rfl
theorem Ffo70_3 : ZAW Tryz.prog 70 3 = some 3 := by kernel_rfl
theorem Ffo70_4 : ZAW Tryz.prog 70 4 = some 4 := by kernel_rfl
theorem Ffo70_5 : ZAW Tryz.prog 70 5 = some 5 := by kernel_rfl
theorem Ffo70_6 : ZAW Tryz.prog 70 6 = some 6 := by kernel_rfl
theorem Ffo70_7 : ZAW Tryz.prog 70 7 = some 7 := by kernel_rfl
theorem Ffo73_0 : ZAW Tryz.prog 73 0 = some 0 := by kernel_rfl
theorem Ffo73_1 : ZAW Tryz.prog 73 1 = some 1 := by kernel_rfl
theorem Ffo73_2 : ZAW Tryz.prog 73 2 = some 2 := by kernel_rfl
theorem Ffo79_0 : ZAW Tryz.prog 79 0 = some 0 := by kernel_rfl
theorem Ffo79_1 : ZAW Tryz.prog 79 1 = some 1 := by kernel_rfl
theorem Ffo79_2 : ZAW Tryz.prog 79 2 = some 2 := by kernel_rfl
theorem Ffo79_3 : ZAW Tryz.prog 79 3 = some 3 := by kernel_rfl
theorem Ffo79_4 : ZAW Tryz.prog 79 4 = some 4 := by kernel_rfl
theorem Ffo79_5 : ZAW Tryz.prog 79 5 = some 5 := by kernel_rfl
theorem Ffo79_6 : ZAW Tryz.prog 79 6 = some 6 := by kernel_rfl
theorem Ffo79_7 : ZAW Tryz.prog 79 7 = some 7 := by kernel_rfl
theorem Ffo83_0 : ZAW Tryz.prog 83 0 = some 0 := by kernel_rfl
theorem Ffo83_1 : ZAW Tryz.prog 83 1 = some 4 := by kernel_rfl
theorem Ffo90_0 : ZAW Tryz.prog 90 0 = some 0 := by kernel_rfl
theorem Ffo90_1 : ZAW Tryz.prog 90 1 = some 1 := by kernel_rfl
theorem Ffo90_2 : ZAW Tryz.prog 90 2 = some 2 := by kernel_rfl
theorem Ffo90_3 : ZAW Tryz.prog 90 3 = some 3 := by kernel_rfl
theorem Ffo92_0 : ZAW Tryz.prog 92 0 = some 0 := by kernel_rfl
theorem Ffo92_1 : ZAW Tryz.prog 92 1 = some 1 := by kernel_rfl
theorem Ffo92_2 : ZAW Tryz.prog 92 2 = some 5 := by kernel_rfl
theorem Ffo92_3 : ZAW Tryz.prog 92 3 = some 6 := by kernel_rfl
theorem Ffo98_0 : ZAW Tryz.prog 98 0 = some 0 := by kernel_rfl
theorem Ffo98_1 : ZAW Tryz.prog 98 1 = some 1 := by kernel_rfl
theorem Ffo98_2 : ZAW Tryz.prog 98 2 = some 2 := by kernel_rfl
theorem Ffo98_3 : ZAW Tryz.prog 98 3 = some 3 := by kernel_rfl
theorem Finf135 : infoB Tryz.prog 135 = some (.agg #[.int .i64 0, .int .i64 0, .int .i64 0], 3, 24) := by kernel_rfl
theorem Finf169 : infoB Tryz.prog 169 = some (.agg #[.int .i64 0, .string ⟨#[]⟩, .int .i64 0, .int .i64 0], 4, 40) := by kernel_rfl
theorem Finf172 : infoB Tryz.prog 172 = some (.pointer none, 1, 8) := by kernel_rfl
theorem Finf23 : infoB Tryz.prog 23 = some (.agg #[.int .i64 0, .int .i64 0], 2, 16) := by kernel_rfl
theorem Finf3 : infoB Tryz.prog 3 = some (.int .i64 0, 1, 8) := by kernel_rfl
theorem Finf37 : infoB Tryz.prog 37 = some (.slice none 0 0, 1, 24) := by kernel_rfl
theorem ZBR : infoB Tryz.prog 4 = some (.bool false, 1, 1) := by kernel_rfl
theorem Finf46 : infoB Tryz.prog 46 = some (.agg #[.int .i64 0, .int .i64 0, .slice none 0 0], 3, 40) := by kernel_rfl
theorem Finf55 : infoB Tryz.prog 55 = some (.agg #[.int .i64 0, .int .i64 0, .int .i64 0, .string ⟨#[]⟩, .slice none 0 0, .string ⟨#[]⟩, .slice none 0 0, .int .i64 0, .slice none 0 0, .int .i64 0, .slice none 0 0], 11, 168) := by kernel_rfl
theorem Finf57 : infoB Tryz.prog 57 = some (.agg #[.int .i64 0, .int .i64 0, .int .i64 0, .int .i64 0, .int .i64 0, .int .i64 0, .int .i64 0, .int .i64 0, .int .i64 0], 9, 72) := by kernel_rfl
theorem Finf70 : infoB Tryz.prog 70 = some (.agg #[.string ⟨#[]⟩, .int .i64 0, .int .i64 0, .int .i64 0, .int .i64 0, .int .i64 0, .slice none 0 0, .int .i64 0], 8, 88) := by kernel_rfl
theorem Finf73 : infoB Tryz.prog 73 = some (.agg #[.string ⟨#[]⟩, .slice none 0 0, .int .i64 0], 3, 48) := by kernel_rfl
theorem Finf76 : infoB Tryz.prog 76 = some (.slice none 0 0, 1, 24) := by kernel_rfl
theorem Finf79 : infoB Tryz.prog 79 = some (.agg #[.string ⟨#[]⟩, .int .i64 0, .slice none 0 0, .slice none 0 0, .slice none 0 0, .slice none 0 0, .slice none 0 0, .int .i64 0], 8, 152) := by kernel_rfl
theorem Finf80 : infoB Tryz.prog 80 = some (.int .u16 0, 1, 2) := by kernel_rfl
theorem Finf85 : infoB Tryz.prog 85 = some (.nilFunc, 1, 8) := by kernel_rfl
theorem Finf90 : infoB Tryz.prog 90 = some (.agg #[.int .i64 0, .int .i64 0, .int .i64 0, .int .i64 0], 4, 32) := by kernel_rfl
theorem Finf92 : infoB Tryz.prog 92 = some (.agg #[.string ⟨#[]⟩, .int .i64 0, .int .i64 0, .int .i64 0, .int .i64 0, .int .i64 0, .int .i64 0], 7, 64) := by kernel_rfl
theorem Fmo : Tryz.prog.follows .mixedOrders = true := by kernel_rfl
theorem Fsca113 : ZAl Tryz.prog 113 = true := by kernel_rfl
theorem Fsca136 : ZAl Tryz.prog 136 = true := by kernel_rfl
theorem Fsca139 : ZAl Tryz.prog 139 = true := by kernel_rfl
theorem Fsca144 : ZAl Tryz.prog 144 = true := by kernel_rfl
theorem Fsca147 : ZAl Tryz.prog 147 = true := by kernel_rfl
theorem ZBw : ZAl Tryz.prog 159 = true := by kernel_rfl
theorem Fsca164 : ZAl Tryz.prog 164 = true := by kernel_rfl
theorem Fsca172 : ZAl Tryz.prog 172 = true := by kernel_rfl
theorem Fsca198 : ZAl Tryz.prog 198 = true := by kernel_rfl
theorem Fsca218 : ZAl Tryz.prog 218 = true := by kernel_rfl
theorem Fsca24 : ZAl Tryz.prog 24 = true := by kernel_rfl
theorem ZAN : ZAl Tryz.prog 3 = true := by kernel_rfl
theorem Fsca30 : ZAl Tryz.prog 30 = true := by kernel_rfl
theorem Fsca31 : ZAl Tryz.prog 31 = true := by kernel_rfl
theorem Fsca34 : ZAl Tryz.prog 34 = true := by kernel_rfl
theorem Fsca36 : ZAl Tryz.prog 36 = true := by kernel_rfl
theorem ZBX : ZAl Tryz.prog 37 = true := by kernel_rfl
theorem Fsca4 : ZAl Tryz.prog 4 = true := by kernel_rfl
theorem Fsca42 : ZAl Tryz.prog 42 = true := by kernel_rfl
theorem Fsca5 : ZAl Tryz.prog 5 = true := by kernel_rfl
theorem Fsca60 : ZAl Tryz.prog 60 = true := by kernel_rfl
theorem Fsca62 : ZAl Tryz.prog 62 = true := by kernel_rfl
theorem Fsca68 : ZAl Tryz.prog 68 = true := by kernel_rfl
theorem Fsca71 : ZAl Tryz.prog 71 = true := by kernel_rfl
theorem Fsca74 : ZAl Tryz.prog 74 = true := by kernel_rfl
theorem Fsca75 : ZAl Tryz.prog 75 = true := by kernel_rfl
theorem Fsca76 : ZAl Tryz.prog 76 = true := by kernel_rfl
theorem Fsca77 : ZAl Tryz.prog 77 = true := by kernel_rfl
theorem Fsca80 : ZAl Tryz.prog 80 = true := by kernel_rfl
theorem Fsca85 : ZAl Tryz.prog 85 = true := by kernel_rfl
theorem Fsca86 : ZAl Tryz.prog 86 = true := by kernel_rfl
theorem Fsca9 : ZAl Tryz.prog 9 = true := by kernel_rfl
theorem Fsiz106 : ZA8 Tryz.prog 106 3 = true := by kernel_rfl
theorem Fsiz113 : ZA8 Tryz.prog 113 1 = true := by kernel_rfl
theorem Fsiz128 : ZA8 Tryz.prog 128 3 = true := by kernel_rfl
theorem ZAg : ZA8 Tryz.prog 136 1 = true := by kernel_rfl
theorem Fsiz139 : ZA8 Tryz.prog 139 1 = true := by kernel_rfl
theorem Fsiz144 : ZA8 Tryz.prog 144 1 = true := by kernel_rfl
theorem Fsiz147 : ZA8 Tryz.prog 147 1 = true := by kernel_rfl
theorem Fsiz152 : ZA8 Tryz.prog 152 4 = true := by kernel_rfl
theorem Fsiz159 : ZA8 Tryz.prog 159 1 = true := by kernel_rfl
theorem Fsiz169 : ZA8 Tryz.prog 169 4 = true := by kernel_rfl
theorem Fsiz172 : ZA8 Tryz.prog 172 1 = true := by kernel_rfl
theorem Fsiz193 : ZA8 Tryz.prog 193 5 = true := by kernel_rfl
theorem Fsiz210 : ZA8 Tryz.prog 210 8 = true := by kernel_rfl
theorem Fsiz216 : ZA8 Tryz.prog 216 256 = true := by kernel_rfl
theorem Fsiz218 : ZA8 Tryz.prog 218 1 = true := by kernel_rfl
theorem Fsiz23 : ZA8 Tryz.prog 23 2 = true := by kernel_rfl
theorem Fsiz24 : ZA8 Tryz.prog 24 1 = true := by kernel_rfl
theorem Fsiz26 : ZA8 Tryz.prog 26 4 = true := by kernel_rfl
theorem ZA5 : ZA8 Tryz.prog 3 1 = true := by kernel_rfl
theorem Fsiz30 : ZA8 Tryz.prog 30 1 = true := by kernel_rfl
theorem Fsiz31 : ZA8 Tryz.prog 31 1 = true := by kernel_rfl
theorem Fsiz34 : ZA8 Tryz.prog 34 1 = true := by kernel_rfl
theorem Fsiz36 : ZA8 Tryz.prog 36 1 = true := by kernel_rfl
theorem Fsiz37 : ZA8 Tryz.prog 37 1 = true := by kernel_rfl
theorem Fsiz39 : ZA8 Tryz.prog 39 2 = true := by kernel_rfl
theorem Fsiz4 : ZA8 Tryz.prog 4 1 = true := by kernel_rfl
theorem Fsiz41 : ZA8 Tryz.prog 41 3 = true := by kernel_rfl
theorem Fsiz42 : ZA8 Tryz.prog 42 1 = true := by kernel_rfl
theorem Fsiz46 : ZA8 Tryz.prog 46 3 = true := by kernel_rfl
theorem Fsiz5 : ZA8 Tryz.prog 5 1 = true := by kernel_rfl
theorem Fsiz55 : ZA8 Tryz.prog 55 11 = true := by kernel_rfl
theorem Fsiz57 : ZA8 Tryz.prog 57 9 = true := by kernel_rfl
theorem Fsiz60 : ZA8 Tryz.prog 60 1 = true := by kernel_rfl
theorem Fsiz62 : ZA8 Tryz.prog 62 1 = true := by kernel_rfl
theorem Fsiz70 : ZA8 Tryz.prog 70 8 = true := by kernel_rfl
theorem Fsiz71 : ZA8 Tryz.prog 71 1 = true := by kernel_rfl
theorem Fsiz73 : ZA8 Tryz.prog 73 3 = true := by kernel_rfl
theorem Fsiz74 : ZA8 Tryz.prog 74 1 = true := by kernel_rfl
theorem Fsiz75 : ZA8 Tryz.prog 75 1 = true := by kernel_rfl
theorem Fsiz76 : ZA8 Tryz.prog 76 1 = true := by kernel_rfl
theorem Fsiz77 : ZA8 Tryz.prog 77 1 = true := by kernel_rfl
theorem Fsiz79 : ZA8 Tryz.prog 79 8 = true := by kernel_rfl
theorem Fsiz80 : ZA8 Tryz.prog 80 1 = true := by kernel_rfl
theorem Fsiz85 : ZA8 Tryz.prog 85 1 = true := by kernel_rfl
theorem Fsiz86 : ZA8 Tryz.prog 86 1 = true := by kernel_rfl
theorem Fsiz9 : ZA8 Tryz.prog 9 1 = true := by kernel_rfl
theorem Fsiz90 : ZA8 Tryz.prog 90 4 = true := by kernel_rfl
theorem Fsiz92 : ZA8 Tryz.prog 92 7 = true := by kernel_rfl
theorem Fsiz98 : ZA8 Tryz.prog 98 4 = true := by kernel_rfl
theorem Fzer106 : ZBr Tryz.prog 106 = some [.int .i64 0, .int .i64 0, .int .i64 0] := by kernel_rfl
theorem Fzer113 : ZBr Tryz.prog 113 = some [.nilFunc] := by kernel_rfl
theorem Fzer128 : ZBr Tryz.prog 128 = some [.int .i64 0, .int .i64 0, .int .i64 0] := by kernel_rfl
theorem ZA2 : ZBr Tryz.prog 136 = some [.slice none 0 0] := by kernel_rfl
theorem Fzer139 : ZBr Tryz.prog 139 = some [.map none] := by kernel_rfl
theorem Fzer144 : ZBr Tryz.prog 144 = some [.map none] := by kernel_rfl
theorem Fzer147 : ZBr Tryz.prog 147 = some [.map none] := by kernel_rfl
theorem Fzer152 : ZBr Tryz.prog 152 = some [.int .i64 0, .int .i64 0, .int .i64 0, .int .i64 0] := by kernel_rfl
theorem Fzer159 : ZBr Tryz.prog 159 = some [.slice none 0 0] := by kernel_rfl
theorem Fzer169 : ZBr Tryz.prog 169 = some [.int .i64 0, .string ⟨#[]⟩, .int .i64 0, .int .i64 0] := by kernel_rfl
theorem Fzer193 : ZBr Tryz.prog 193 = some [.int .i64 0, .string ⟨#[]⟩, .int .i64 0, .int .i64 0, .int .i64 0] := by kernel_rfl
theorem Fzer210 : ZBr Tryz.prog 210 = some [.int .i64 0, .int .i64 0, .int .i64 0, .int .i64 0, .int .i64 0, .int .i64 0, .int .i64 0, .int .i64 0] := by kernel_rfl
theorem Fzer216 : ZBr Tryz.prog 216 = some [.int .u8 0, .int .u8 0, .int .u8 0, .int .u8 0, .int .u8 0, .int .u8 0, .int .u8 0, .int .u8 0, .int .u8 0, .int .u8 0, .int .u8 0, .int .u8 0, .int .u8 0, .int .u8 0, .int .u8 0, .int .u8 0, .int .u8 0, .int .u8 0, .int .u8 0, .int .u8 0, .int .u8 0, .int .u8 0, .int .u8 0, .int .u8 0, .int .u8 0, .int .u8 0, .int .u8 0, .int .u8 0, .int .u8 0, .int .u8 0, .int .u8 0, .int .u8 0, .int .u8 0, .int .u8 0, .int .u8 0, .int .u8 0, .int .u8 0, .int .u8 0, .int .u8 0, .int .u8 0, .int .u8 0, .int .u8 0, .int .u8 0, .int .u8 0, .int .u8 0, .int .u8 0, .int .u8 0, .int .u8 0, .int .u8 0, .int .u8 0, .int .u8 0, .int .u8 0, .int .u8 0, .int .u8 0, .int .u8 0, .int .u8 0, .int .u8 0, .int .u8 0, .int .u8 0, .int .u8 0, .int .u8 0, .int .u8 0, .int .u8 0, .int .u8 0, .int .u8 0, .int .u8 0, .int .u8 0, .int .u8 0, .int .u8 0, .int .u8 0, .int .u8 0, .int .u8 0, .int .u8 0, .int .u8 0, .int .u8 0, .int .u8 0, .int .u8 0, .int .u8 0, .int .u8 0, .int .u8 0, .int .u8 0, .int .u8 0, .int .u8 0, .int .u8 0, .int .u8 0, .int .u8 0, .int .u8 0, .int .u8 0, .int .u8 0, .int .u8 0, .int .u8 0, .int .u8 0, .int .u8 0, .int .u8 0, .int .u8 0, .int .u8 0, .int .u8 0, .int .u8 0, .int .u8 0, .int .u8 0, .int .u8 0, .int .u8 0, .int .u8 0, .int .u8 0, .int .u8 0, .int .u8 0, .int .u8 0, .int .u8 0, .int .u8 0, .int .u8 0, .int .u8 0, .int .u8 0, .int .u8 0, .int .u8 0, .int .u8 0, .int .u8 0, .int .u8 0, .int .u8 0, .int .u8 0, .int .u8 0, .int .u8 0, .int .u8 0, .int .u8 0, .int .u8 0, .int .u8 0, .int .u8 0, .int .u8 0, .int .u8 0, .int .u8 0, .int .u8 0, .int .u8 0, .int .u8 0, .int .u8 0, .int .u8 0, .int .u8 0, .int .u8 0, .int .u8 0, .int .u8 0, .int .u8 0, .int .u8 0, .int .u8 0, .int .u8 0, .int .u8 0, .int .u8 0, .int .u8 0, .int .u8 0, .int .u8 0, .int .u8 0, .int .u8 0, .int .u8 0, .int .u8 0, .int .u8 0, .int .u8 0, .int .u8 0, .int .u8 0, .int .u8 0, .int .u8 0, .int .u8 0, .int .u8 0, .int .u8 0, .int .u8 0, .int .u8 0, .int .u8 0, .int .u8 0, .int .u8 0, .int .u8 0, .int .u8 0, .int .u8 0, .int .u8 0, .int .u8 0, .int .u8 0, .int .u8 0, .int .u8 0, .int .u8 0, .int .u8 0, .int .u8 0, .int .u8 0, .int .u8 0, .int .u8 0, .int .u8 0, .int .u8 0, .int .u8 0, .int .u8 0, .int .u8 0, .int .u8 0, .int .u8 0, .int .u8 0, .int .u8 0, .int .u8 0, .int .u8 0, .int .u8 0, .int .u8 0, .int .u8 0, .int .u8 0, .int .u8 0, .int .u8 0, .int .u8 0, .int .u8 0, .int .u8 0, .int .u8 0, .int .u8 0, .int .u8 0, .int .u8 0, .int .u8 0, .int .u8 0, .int .u8 0, .int .u8 0, .int .u8 0, .int .u8 0, .int .u8 0, .int .u8 0, .int .u8 0, .int .u8 0, .int .u8 0, .int .u8 0, .int .u8 0, .int .u8 0, .int .u8 0, .int .u8 0, .int .u8 0, .int .u8 0, .int .u8 0, .int .u8 0, .int .u8 0, .int .u8 0, .int .u8 0, .int .u8 0, .int .u8 0, .int .u8 0, .int .u8 0, .int .u8 0, .int .u8 0, .int .u8 0, .int .u8 0, .int .u8 0, .int .u8 0, .int .u8 0, .int .u8 0, .int .u8 0, .int .u8 0, .int .u8 0, .int .u8 0, .int .u8 0, .int .u8 0, .int .u8 0, .int .u8 0, .int .u8 0, .int .u8 0, .int .u8 0, .int .u8 0, .int .u8 0, .int .u8 0, .int .u8 0, .int .u8 0, .int .u8 0, .int .u8 0] := by kernel_rfl
theorem Fzer218 : ZBr Tryz.prog 218 = some [.nilFunc] := by kernel_rfl
theorem Fzer23 : ZBr Tryz.prog 23 = some [.int .i64 0, .int .i64 0] := by kernel_rfl
theorem Fzer26 : ZBr Tryz.prog 26 = some [.string ⟨#[]⟩, .int .i64 0, .int .i64 0, .slice none 0 0] := by kernel_rfl
theorem Fzer3 : ZBr Tryz.prog 3 = some [.int .i64 0] := by kernel_rfl
theorem Fzer30 : ZBr Tryz.prog 30 = some [.slice none 0 0] := by kernel_rfl
theorem Fzer37 : ZBr Tryz.prog 37 = some [.slice none 0 0] := by kernel_rfl
theorem Fzer39 : ZBr Tryz.prog 39 = some [.slice none 0 0, .slice none 0 0] := by kernel_rfl
theorem Fzer4 : ZBr Tryz.prog 4 = some [.bool false] := by kernel_rfl
theorem Fzer41 : ZBr Tryz.prog 41 = some [.slice none 0 0, .slice none 0 0, .slice none 0 0] := by kernel_rfl
theorem Fzer42 : ZBr Tryz.prog 42 = some [.int .i64 0] := by kernel_rfl
theorem Fzer46 : ZBr Tryz.prog 46 = some [.int .i64 0, .int .i64 0, .slice none 0 0] := by kernel_rfl
theorem Fzer55 : ZBr Tryz.prog 55 = some [.int .i64 0, .int .i64 0, .int .i64 0, .string ⟨#[]⟩, .slice none 0 0, .string ⟨#[]⟩, .slice none 0 0, .int .i64 0, .slice none 0 0, .int .i64 0, .slice none 0 0] := by kernel_rfl
theorem Fzer57 : ZBr Tryz.prog 57 = some [.int .i64 0, .int .i64 0, .int .i64 0, .int .i64 0, .int .i64 0, .int .i64 0, .int .i64 0, .int .i64 0, .int .i64 0] := by kernel_rfl
theorem Fzer60 : ZBr Tryz.prog 60 = some [.map none] := by kernel_rfl
theorem Fzer62 : ZBr Tryz.prog 62 = some [.slice none 0 0] := by kernel_rfl
theorem Fzer70 : ZBr Tryz.prog 70 = some [.string ⟨#[]⟩, .int .i64 0, .int .i64 0, .int .i64 0, .int .i64 0, .int .i64 0, .slice none 0 0, .int .i64 0] := by kernel_rfl
theorem Fzer71 : ZBr Tryz.prog 71 = some [.slice none 0 0] := by kernel_rfl
theorem Fzer73 : ZBr Tryz.prog 73 = some [.string ⟨#[]⟩, .slice none 0 0, .int .i64 0] := by kernel_rfl
theorem Fzer74 : ZBr Tryz.prog 74 = some [.slice none 0 0] := by kernel_rfl
theorem Fzer79 : ZBr Tryz.prog 79 = some [.string ⟨#[]⟩, .int .i64 0, .slice none 0 0, .slice none 0 0, .slice none 0 0, .slice none 0 0, .slice none 0 0, .int .i64 0] := by kernel_rfl
theorem Fzer85 : ZBr Tryz.prog 85 = some [.nilFunc] := by kernel_rfl
theorem Fzer86 : ZBr Tryz.prog 86 = some [.nilFunc] := by kernel_rfl
theorem Fzer90 : ZBr Tryz.prog 90 = some [.int .i64 0, .int .i64 0, .int .i64 0, .int .i64 0] := by kernel_rfl
theorem Fzer92 : ZBr Tryz.prog 92 = some [.string ⟨#[]⟩, .int .i64 0, .int .i64 0, .int .i64 0, .int .i64 0, .int .i64 0, .int .i64 0] := by kernel_rfl
theorem Fzer98 : ZBr Tryz.prog 98 = some [.slice none 0 0, .slice none 0 0, .slice none 0 0, .slice none 0 0] := by kernel_rfl
end
end Go.Proofs.YtjdlllacomgaoaaGreatDoor
namespace Go.Proofs.YtjdlllacomgaoaaGreatDoor
section
open _root_.Go.Proofs.Tryz
abbrev Gr := List (List Int)
def rowG (es : Gr) (i : Nat) : List Int := es.getD i []
def atI (l : List Int) (i : Nat) : Int := l.getD i (-1)
def okN (right n : Int) : Bool := decide (0 ≤ n) && decide (n < right)
def ZBm (es : Gr) (right : Int) : Bool := decide (es.length ≤ 4000) && (decide (0 ≤ right) && (decide (right ≤ 4000) && es.all (fun l => l.all (okN right))))
theorem atI_eq {l : List Int} {i : Nat} (h : i < l.length) : atI l i = l[i] := by unfold atI; rw [List.getD_eq_getElem?_getD, List.getElem?_eq_getElem h]; rfl
theorem rowG_eq {l : Gr} {i : Nat} (h : i < l.length) : rowG l i = l[i] := by unfold rowG; rw [List.getD_eq_getElem?_getD, List.getElem?_eq_getElem h]; rfl
theorem rowG_out {l : Gr} {i : Nat} (h : l.length ≤ i) : rowG l i = [] := by unfold rowG; rw [List.getD_eq_getElem?_getD, List.getElem?_eq_none h]; rfl
theorem atI_set {l : List Int} {i : Nat} (v : Int) (h : i < l.length) (j : Nat) : atI (l.set i v) j = if j = i then v else atI l j := by
  unfold atI
  rw [List.getD_eq_getElem?_getD, List.getD_eq_getElem?_getD, List.getElem?_set]
  by_cases hj : j = i
  · subst hj; simp [h]
  rw [if_neg (fun e => hj e.symm), if_neg hj]
theorem atI_append {a b : List Int} (i : Nat) : atI (a ++ b) i = if i < a.length then atI a i else atI b (i - a.length) := by
  unfold atI
  simp only [List.getD_eq_getElem?_getD, List.getElem?_append]
  split <;> rfl
theorem ZBG {es : Gr} {right : Int} (h : ZBm es right = true) : es.length ≤ 4000 ∧ 0 ≤ right ∧ right ≤ 4000 ∧ ∀ i, ∀ n ∈ rowG es i, 0 ≤ n ∧ n < right := by
  simp only [ZBm, Bool.and_eq_true, decide_eq_true_eq, List.all_eq_true, okN] at h
  refine ⟨h.1, h.2.1, h.2.2.1, fun i n hn => ?_⟩
  by_cases hi : i < es.length
  · rw [rowG_eq hi] at hn; exact h.2.2.2 _ (List.getElem_mem hi) n hn
  rw [rowG_out (by omega)] at hn; cases hn
theorem validG_mk {es : Gr} {right : Int} (h1 : es.length ≤ 4000) (h2 : 0 ≤ right) (h3 : right ≤ 4000) (h4 : ∀ i, ∀ n ∈ rowG es i, 0 ≤ n ∧ n < right) : ZBm es right = true := by
  simp only [ZBm, Bool.and_eq_true, decide_eq_true_eq, List.all_eq_true, okN]
  refine ⟨h1, h2, h3, fun l hl n hn => ?_⟩
  obtain ⟨i, hi, rfl⟩ := List.getElem_of_mem hl
  exact h4 i n (by rw [rowG_eq hi]; exact hn)
theorem nodup_le {α : Type} [DecidableEq α] : ∀ {l m : List α}, l.Nodup → (∀ x ∈ l, x ∈ m) → l.length ≤ m.length
  | [], _, _, _ => Nat.zero_le _
  | a :: r, m, hn, hs => by
    have hn' := List.nodup_cons.1 hn
    have ha : a ∈ m := hs a (List.mem_cons_self ..)
    have h := nodup_le (l := r) (m := m.erase a) hn'.2 (fun x hx => (List.mem_erase_of_ne (fun e => by subst e; exact hn'.1 hx)).2 (hs x (List.mem_cons_of_mem _ hx)))
    rw [List.length_erase_of_mem ha] at h
    have := List.length_pos_of_mem ha
    simp only [List.length_cons]; omega
theorem nodup_map {α β : Type} (f : α → β) : ∀ {l : List α}, l.Nodup → (∀ x ∈ l, ∀ y ∈ l, f x = f y → x = y) → (l.map f).Nodup
  | [], _, _ => List.nodup_nil
  | a :: r, hn, hi => by
    have hn' := List.nodup_cons.1 hn
    rw [List.map_cons, List.nodup_cons]
    refine ⟨fun h => ?_, nodup_map f hn'.2 (fun x hx y hy => hi x (List.mem_cons_of_mem _ hx) y (List.mem_cons_of_mem _ hy))⟩
    obtain ⟨b, hb, he⟩ := List.mem_map.1 h
    have := hi b (List.mem_cons_of_mem _ hb) a (List.mem_cons_self ..) he
    subst this; exact hn'.1 hb
theorem nodup_filter {α : Type} (p : α → Bool) {l : List α} (h : l.Nodup) : (l.filter p).Nodup := h.sublist List.filter_sublist
theorem length_part {α : Type} (p : α → Bool) : ∀ l : List α, l.length = (l.filter p).length + (l.filter (fun x => !p x)).length
  | [] => rfl
  | a :: r => by
    have := length_part p r
    cases h : p a <;> simp [List.filter, h, this] <;> omega
theorem nodup_range (n : Nat) : (List.range n).Nodup := List.nodup_range
structure IsM (es : Gr) (got : List Int) : Prop where
  len : got.length = es.length
  mem : ∀ i, i < got.length → atI got i = -1 ∨ atI got i ∈ rowG es i
  inj : ∀ i, i < got.length → atI got i ≠ -1 → ∀ k, k < i → atI got k ≠ atI got i
def isMb (es : Gr) (got : List Int) : Bool := decide (got.length = es.length) && (List.range got.length).all (fun i => decide (atI got i = -1) || ((rowG es i).contains (atI got i) && (List.range i).all (fun k => decide (atI got k ≠ atI got i))))
theorem isMb_iff {es : Gr} {got : List Int} : isMb es got = true ↔ IsM es got := by
  simp only [isMb, Bool.and_eq_true, decide_eq_true_eq, List.all_eq_true, List.mem_range, Bool.or_eq_true, List.contains_iff_mem]
  refine ⟨fun h => ⟨h.1, fun i hi => (h.2 i hi).imp id (fun x => x.1), fun i hi hne k hk => ?_⟩, fun h => ⟨h.len, fun i hi => ?_⟩⟩
  · rcases h.2 i hi with h1 | h1
    · exact absurd h1 hne
    exact h1.2 k hk
  by_cases hne : atI got i = -1
  · exact .inl hne
  exact .inr ⟨(h.mem i hi).resolve_left hne, h.inj i hi hne⟩
theorem IsM.inj' {es : Gr} {got : List Int} (h : IsM es got) {i j : Nat} (hi : i < got.length) (hj : j < got.length) (hne : atI got i ≠ -1) (e : atI got i = atI got j) : i = j := by
  rcases Nat.lt_trichotomy i j with hl | rfl | hl
  · exact absurd e (h.inj j hj (by rw [← e]; exact hne) i hl)
  · rfl
  exact absurd e.symm (h.inj i hi hne j hl)
def matched (got : List Int) : List Nat := (List.range got.length).filter (fun i => decide (atI got i ≠ -1))
def sizeN (got : List Int) : Nat := (matched got).length
def sizeL (es : Gr) (got : List Int) : Int := if isMb es got then (sizeN got : Int) else -1
theorem mem_matched {got : List Int} {i : Nat} : i ∈ matched got ↔ i < got.length ∧ atI got i ≠ -1 := by simp [matched]
theorem nodup_matched (got : List Int) : (matched got).Nodup := nodup_filter _ (nodup_range _)
theorem sizeL_yes {es : Gr} {got : List Int} (h : IsM es got) : sizeL es got = sizeN got := by rw [sizeL, if_pos (isMb_iff.2 h)]
theorem sizeL_no {es : Gr} {got : List Int} (h : ¬ IsM es got) : sizeL es got = -1 := by rw [sizeL, if_neg (fun e => h (isMb_iff.1 e))]
def coversL (es : Gr) (left right : List Int) : Bool := (List.range es.length).all (fun i => left.contains (i : Int) || (rowG es i).all (fun n => right.contains n))
theorem coversL_iff {es : Gr} {left right : List Int} : coversL es left right = true ↔ ∀ i, i < es.length → (i : Int) ∈ left ∨ ∀ n ∈ rowG es i, n ∈ right := by
  simp [coversL, List.all_eq_true, List.contains_iff_mem]
structure Formed (l : List Int) (n : Int) : Prop where
  at_ : ∀ i, i < l.length → 0 ≤ atI l i ∧ atI l i < n ∧ (0 < i → atI l (i - 1) < atI l i)
def formedB (l : List Int) (n : Int) : Bool := (List.range l.length).all (fun i => decide (0 ≤ atI l i) && (decide (atI l i < n) && (decide (i = 0) || decide (atI l (i - 1) < atI l i))))
theorem ZBD {l : List Int} {n : Int} : formedB l n = true ↔ Formed l n := by
  simp only [formedB, List.all_eq_true, List.mem_range, Bool.and_eq_true, decide_eq_true_eq, Bool.or_eq_true]
  refine ⟨fun h => ⟨fun i hi => ⟨(h i hi).1, (h i hi).2.1, fun h0 => (h i hi).2.2.resolve_left (by omega)⟩⟩, fun h i hi => ⟨(h.at_ i hi).1, (h.at_ i hi).2.1, ?_⟩⟩
  by_cases h0 : i = 0
  · exact .inl h0
  exact .inr ((h.at_ i hi).2.2 (by omega))
theorem Formed.lt {l : List Int} {n : Int} (h : Formed l n) : ∀ (j i : Nat), i < j → j < l.length → atI l i < atI l j
  | 0, i, hij, _ => by omega
  | j + 1, i, hij, hj => by
    have h1 := (h.at_ (j + 1) hj).2.2 (by omega)
    rw [Nat.add_sub_cancel] at h1
    rcases Nat.lt_or_ge i j with hl | hl
    · exact Int.lt_trans (Formed.lt h j i hl (by omega)) h1
    obtain rfl : i = j := by omega
    exact h1
theorem Formed.nodup {l : List Int} {n : Int} (h : Formed l n) : l.Nodup := by
  rw [List.nodup_iff_pairwise_ne, List.pairwise_iff_getElem]
  intro i j hi hj hij
  have := h.lt j i hij hj
  rw [atI_eq hi, atI_eq hj] at this
  omega
def checkL (es : Gr) (right : Int) (got left cover : List Int) : Bool :=
  ZBm es right && (formedB left es.length && (formedB cover right && (coversL es left cover && decide (sizeL es got = (left.length : Int) + (cover.length : Int)))))
theorem weak {es : Gr} {got left right : List Int} (hm : IsM es got) (hc : coversL es left right = true) : sizeN got ≤ left.length + right.length := by
  rw [coversL_iff] at hc
  have e := length_part (fun i : Nat => decide ((i : Int) ∈ left)) (matched got)
  have n1 : ((matched got).filter (fun i : Nat => decide ((i : Int) ∈ left))).length ≤ left.length := by
    have := nodup_le (l := ((matched got).filter (fun i : Nat => decide ((i : Int) ∈ left))).map (fun i : Nat => (i : Int))) (m := left)
      (nodup_map _ (nodup_filter _ (nodup_matched got)) (fun x _ y _ h => by have h : (x : Int) = y := h; omega)) (fun x hx => by
        obtain ⟨i, hi, rfl⟩ := List.mem_map.1 hx
        simpa using (List.mem_filter.1 hi).2)
    simpa using this
  have n2 : ((matched got).filter (fun i : Nat => !decide ((i : Int) ∈ left))).length ≤ right.length := by
    have := nodup_le (l := ((matched got).filter (fun i : Nat => !decide ((i : Int) ∈ left))).map (fun i => atI got i)) (m := right)
      (nodup_map _ (nodup_filter _ (nodup_matched got)) (fun x hx y hy h => by
        have hx' := mem_matched.1 (List.mem_filter.1 hx).1
        have hy' := mem_matched.1 (List.mem_filter.1 hy).1
        exact hm.inj' hx'.1 hy'.1 hx'.2 h)) (fun x hx => by
        obtain ⟨i, hi, rfl⟩ := List.mem_map.1 hx
        obtain ⟨h1, h2⟩ := List.mem_filter.1 hi
        have h1 := mem_matched.1 h1
        have h3 := (hc i (by rw [← hm.len]; exact h1.1)).resolve_left (by simpa using h2)
        exact h3 _ ((hm.mem i h1.1).resolve_left h1.2))
    simpa using this
  unfold sizeN; omega
theorem check_parts {es : Gr} {right : Int} {got left cover : List Int} (h : checkL es right got left cover = true) : ZBm es right = true ∧ Formed left es.length ∧ Formed cover right ∧ coversL es left cover = true ∧ IsM es got ∧ sizeN got = left.length + cover.length := by
  simp only [checkL, Bool.and_eq_true, decide_eq_true_eq] at h
  obtain ⟨h1, h2, h3, h4, h5⟩ := h
  have hm : IsM es got := by
    refine Classical.byContradiction fun hn => ?_
    rw [sizeL_no hn] at h5; omega
  rw [sizeL_yes hm] at h5
  exact ⟨h1, ZBD.1 h2, ZBD.1 h3, h4, hm, by omega⟩
structure AS where
  seen : List Int
  owner : List Int
  got : List Int
deriving DecidableEq
def AS.see (s : AS) (n : Int) : AS := { s with seen := n :: s.seen }
def AS.pair (s : AS) (n i : Int) : AS := { s with owner := s.owner.set n.toNat i, got := s.got.set i.toNat n }
def ZB5 (rec : Int → AS → Bool × AS) (i : Int) : List Int → AS → Bool × AS
  | [], s => (false, s)
  | n :: r, s =>
    if n ∈ s.seen then ZB5 rec i r s
    else if atI s.owner n.toNat < 0 then (true, (s.see n).pair n i)
    else match rec (atI s.owner n.toNat) (s.see n) with
      | (true, s2) => (true, s2.pair n i)
      | (false, s2) => ZB5 rec i r s2
def aug (es : Gr) : Nat → Int → AS → Bool × AS
  | 0, _, s => (false, s)
  | f + 1, i, s => ZB5 (aug es f) i (rowG es i.toNat) s
structure AWF (es : Gr) (right : Int) (s : AS) : Prop where
  lo : s.owner.length = right.toNat
  lg : s.got.length = es.length
  own : ∀ n : Nat, -1 ≤ atI s.owner n ∧ atI s.owner n < es.length
  nd : s.seen.Nodup
  rng : ∀ n ∈ s.seen, 0 ≤ n ∧ n < right
theorem AWF.see {es : Gr} {right : Int} {s : AS} (h : AWF es right s) {n : Int} (hn : 0 ≤ n ∧ n < right) (hs : n ∉ s.seen) : AWF es right (s.see n) :=
  ⟨h.lo, h.lg, h.own, List.nodup_cons.2 ⟨hs, h.nd⟩, fun m hm => by rcases List.mem_cons.1 hm with rfl | hm; exact hn; exact h.rng m hm⟩
theorem AWF.pair {es : Gr} {right : Int} {s : AS} (h : AWF es right s) {n i : Int} (hn : 0 ≤ n ∧ n < right) (hi : 0 ≤ i ∧ i < es.length) : AWF es right (s.pair n i) := by
  have hlo := h.lo
  refine ⟨by simp [AS.pair, h.lo], by simp [AS.pair, h.lg], fun m => ?_, h.nd, h.rng⟩
  show -1 ≤ atI (s.owner.set n.toNat i) m ∧ _
  rw [show (s.pair n i).owner = s.owner.set n.toNat i from rfl, atI_set _ (by omega)]
  split
  · omega
  exact h.own m
theorem AWF.few {es : Gr} {right : Int} {s : AS} (h : AWF es right s) : s.seen.length ≤ right.toNat := by
  have := nodup_le (l := s.seen.map Int.toNat) (m := List.range right.toNat) (nodup_map _ h.nd (fun x hx y hy e => by have := h.rng x hx; have := h.rng y hy; omega)) (fun x hx => by
    obtain ⟨n, hn, rfl⟩ := List.mem_map.1 hx
    have := h.rng n hn
    exact List.mem_range.2 (by omega))
  simpa using this
structure AugOut (es : Gr) (right : Int) (s : AS) (b : Bool) (s' : AS) : Prop where
  wf : AWF es right s'
  sub : ∀ n ∈ s.seen, n ∈ s'.seen
  len : s.seen.length ≤ s'.seen.length
  no : b = false → s'.owner = s.owner ∧ s'.got = s.got
theorem AugOut.refl {es : Gr} {right : Int} {s : AS} (h : AWF es right s) : AugOut es right s false s := ⟨h, fun _ h => h, Nat.le_refl _, fun _ => ⟨rfl, rfl⟩⟩
theorem augRow_out {es : Gr} {right : Int} {rec : Int → AS → Bool × AS} (hrec : ∀ (i : Int) s, 0 ≤ i ∧ i < es.length → AWF es right s → AugOut es right s (rec i s).1 (rec i s).2) {i : Int} (hi : 0 ≤ i ∧ i < es.length) :
    ∀ (r : List Int) (s : AS), (∀ n ∈ r, 0 ≤ n ∧ n < right) → AWF es right s → AugOut es right s (ZB5 rec i r s).1 (ZB5 rec i r s).2
  | [], s, _, hs => AugOut.refl hs
  | n :: r, s, hr, hs => by
    have hn := hr n (List.mem_cons_self ..)
    have hr' : ∀ m ∈ r, 0 ≤ m ∧ m < right := fun m hm => hr m (List.mem_cons_of_mem _ hm)
    unfold ZB5
    split
    · exact augRow_out hrec hi r s hr' hs
    rename_i hns
    have hs1 := hs.see hn hns
    split
    · exact ⟨hs1.pair hn hi, fun m hm => List.mem_cons_of_mem _ hm, by simp [AS.see, AS.pair], fun h => by cases h⟩
    rename_i ho
    have hb := hs.own n.toNat
    have h1 := hrec (atI s.owner n.toNat) (s.see n) ⟨by omega, hb.2⟩ hs1
    cases hq : rec (atI s.owner n.toNat) (s.see n) with
    | mk b s2 =>
      rw [hq] at h1
      have hsub : ∀ m ∈ s.seen, m ∈ s2.seen := fun m hm => h1.sub m (List.mem_cons_of_mem _ hm)
      have hlen : s.seen.length ≤ s2.seen.length := Nat.le_trans (by simp [AS.see]) h1.len
      cases b with
      | true => exact ⟨h1.wf.pair hn hi, hsub, hlen, fun h => by cases h⟩
      | false =>
        have h2 := augRow_out hrec hi r s2 hr' h1.wf
        have hno := h1.no rfl
        exact ⟨h2.wf, fun m hm => h2.sub m (hsub m hm), Nat.le_trans hlen h2.len, fun hb => ⟨((h2.no hb).1).trans hno.1, ((h2.no hb).2).trans hno.2⟩⟩
theorem aug_out {es : Gr} {right : Int} (hv : ZBm es right = true) : ∀ (f : Nat) (i : Int) (s : AS), 0 ≤ i ∧ i < es.length → AWF es right s → AugOut es right s (aug es f i s).1 (aug es f i s).2
  | 0, i, s, hi, hs => AugOut.refl hs
  | f + 1, i, s, hi, hs => augRow_out (aug_out hv f) hi _ s (fun n hn => (ZBG hv).2.2.2 _ n hn) hs
structure Conv (es : Gr) (s : AS) (x : Int) : Prop where
  got : ∀ j : Nat, 0 ≤ atI s.got j → atI s.got j ∈ rowG es j ∧ atI s.owner (atI s.got j).toNat = j
  own : ∀ n : Nat, (n : Int) ≠ x → 0 ≤ atI s.owner n → atI s.got (atI s.owner n).toNat = n
structure Closed (es : Gr) (owner : List Int) (D : Int → Prop) : Prop where
  taken : ∀ n : Nat, D n → 0 ≤ atI owner n
  all : ∀ n : Nat, D n → ∀ m ∈ rowG es (atI owner n).toNat, D m
structure AugYes (es : Gr) (i : Nat) (s s' : AS) : Prop where
  conv : Conv es s' (atI s.got i)
  new : 0 ≤ atI s'.got i ∧ atI s'.got i ∉ s.seen
  keep : ∀ j : Nat, 0 ≤ atI s.got j → 0 ≤ atI s'.got j
  free : ∀ j : Nat, j ≠ i → atI s.got j < 0 → atI s'.got j < 0
  ownS : ∀ n : Nat, (n : Int) ∈ s.seen → atI s'.owner n = atI s.owner n
  gotS : ∀ j : Nat, j ≠ i → (atI s.got j = -1 ∨ atI s.got j ∈ s.seen) → atI s'.got j = atI s.got j
  ownD : ∀ D : Int → Prop, Closed es s.owner D → (∃ m ∈ rowG es i, ¬ D m) ∧ ∀ n : Nat, D n → atI s'.owner n = atI s.owner n
structure AugNo (es : Gr) (s s' : AS) : Prop where
  closed : ∀ n : Nat, (n : Int) ∈ s'.seen → (n : Int) ∉ s.seen → 0 ≤ atI s.owner n ∧ ∀ m ∈ rowG es (atI s.owner n).toNat, m ∈ s'.seen
theorem AugYes.weak {es : Gr} {i : Nat} {s s2 s' : AS} (ho : s2.owner = s.owner) (hg : s2.got = s.got) (hs : ∀ n ∈ s.seen, n ∈ s2.seen) (h : AugYes es i s2 s') : AugYes es i s s' := by
  obtain ⟨h1, h2, h3, h4, h5, h6, h7⟩ := h
  rw [hg] at h1 h3 h4 h6
  rw [ho] at h5 h7
  exact ⟨h1, ⟨h2.1, fun h => h2.2 (hs _ h)⟩, h3, h4, fun n hn => h5 n (hs _ hn), fun j hj hg => h6 j hj (hg.imp id (hs _)), h7⟩
theorem augRow_law {es : Gr} {right : Int} (c : Nat) {rec : Int → AS → Bool × AS} (hout : ∀ (i : Int) s, 0 ≤ i ∧ i < es.length → AWF es right s → AugOut es right s (rec i s).1 (rec i s).2)
    (hlaw : ∀ (i : Nat) (s : AS), i < es.length → AWF es right s → c + 1 ≤ s.seen.length → Conv es s (-1) → (atI s.got i = -1 ∨ atI s.got i ∈ s.seen) →
      ((rec i s).1 = true → AugYes es i s (rec i s).2) ∧ ((rec i s).1 = false → AugNo es s (rec i s).2 ∧ ∀ m ∈ rowG es i, m ∈ (rec i s).2.seen)) {i : Nat} (hi : i < es.length) :
    ∀ (r : List Int) (s : AS), (∀ n ∈ r, (0 ≤ n ∧ n < right) ∧ n ∈ rowG es i) → AWF es right s → c ≤ s.seen.length → Conv es s (-1) → (atI s.got i = -1 ∨ atI s.got i ∈ s.seen) →
      ((ZB5 rec i r s).1 = true → AugYes es i s (ZB5 rec i r s).2) ∧ ((ZB5 rec i r s).1 = false → AugNo es s (ZB5 rec i r s).2 ∧ ∀ m ∈ r, m ∈ (ZB5 rec i r s).2.seen)
  | [], s, _, hs, _, _, _ => by
    refine ⟨fun h => (by cases h), fun _ => ⟨⟨fun n h1 h2 => absurd h1 h2⟩, fun m hm => (by cases hm)⟩⟩
  | n :: r, s, hr, hs, hcl, hc, hgi => by
    have hn := hr n (List.mem_cons_self ..)
    have hr' : ∀ m ∈ r, (0 ≤ m ∧ m < right) ∧ m ∈ rowG es i := fun m hm => hr m (List.mem_cons_of_mem _ hm)
    have hii : (0 : Int) ≤ (i : Int) ∧ (i : Int) < es.length := by omega
    have hlo := hs.lo
    have hlg := hs.lg
    unfold ZB5
    split
    · rename_i hns
      have ih := augRow_law c hout hlaw hi r s hr' hs hcl hc hgi
      refine ⟨ih.1, fun h => ⟨(ih.2 h).1, fun m hm => ?_⟩⟩
      rcases List.mem_cons.1 hm with rfl | hm
      · exact (augRow_out hout hii r s (fun n hn => (hr' n hn).1) hs).sub _ hns
      exact (ih.2 h).2 m hm
    rename_i hns
    have hs1 := hs.see hn.1 hns
    obtain ⟨k, rfl⟩ : ∃ k : Nat, n = k := ⟨n.toNat, by omega⟩
    simp only [Int.toNat_natCast]
    split
    · rename_i ho
      refine ⟨fun _ => ?_, fun h => by cases h⟩
      have eo : ∀ q, atI ((s.see k).pair k i).owner q = if q = k then (i : Int) else atI s.owner q := fun q => by
        show atI (s.owner.set (k : Int).toNat i) q = _
        rw [atI_set _ (by omega)]; rfl
      have eg : ∀ q, atI ((s.see k).pair k i).got q = if q = i then (k : Int) else atI s.got q := fun q => by
        show atI (s.got.set (i : Int).toNat k) q = _
        rw [atI_set _ (by omega)]; rfl
      refine ⟨⟨fun j hj => ?_, fun q hq hj => ?_⟩, ?_, fun j hj => ?_, fun j hj hg => ?_, fun q hq => ?_, fun j hj hg => ?_, fun D hD => ⟨⟨k, hn.2, fun hk => ?_⟩, fun q hq => ?_⟩⟩
      · rw [eg] at hj ⊢
        by_cases hji : j = i
        · subst hji; simp only [if_true, Int.toNat_natCast] at hj ⊢; exact ⟨hn.2, by rw [eo, if_pos rfl]⟩
        rw [if_neg hji] at hj ⊢
        obtain ⟨h1, h2⟩ := hc.got j hj
        refine ⟨h1, ?_⟩
        rw [eo, if_neg]; exact h2
        intro e; rw [e] at h2; omega
      · rw [eo] at hj ⊢
        by_cases hqk : q = k
        · subst hqk; rw [if_pos rfl, Int.toNat_natCast, eg, if_pos rfl]
        rw [if_neg hqk] at hj ⊢
        have h1 := hc.own q (by omega) hj
        rw [eg]
        by_cases hji : (atI s.owner q).toNat = i
        · exfalso; rw [hji] at h1; exact hq h1.symm
        rw [if_neg hji]; exact h1
      · rw [eg, if_pos rfl]; exact ⟨by omega, hns⟩
      · rw [eg]; split <;> omega
      · rw [eg, if_neg hj]; exact hg
      · rw [eo, if_neg (fun e => by subst e; exact hns hq)]
      · rw [eg, if_neg hj]
      · have := hD.taken k hk; omega
      rw [eo, if_neg (fun e => by subst e; have := hD.taken q hq; omega)]
    rename_i ho
    have hb := hs.own k
    obtain ⟨o, hoe⟩ : ∃ o : Nat, atI s.owner k = o := ⟨(atI s.owner k).toNat, by omega⟩
    rw [hoe] at ho hb ⊢
    have hgo : atI s.got o = k := by have := hc.own k (by omega) (by omega); rw [hoe] at this; simpa using this
    have h0 := hout o (s.see k) ⟨by omega, hb.2⟩ hs1
    have hsee : (s.see k).got = s.got ∧ (s.see k).owner = s.owner := ⟨rfl, rfl⟩
    have h1 := hlaw o (s.see k) (by omega) hs1 (by simp [AS.see]; omega) ⟨fun j hj => hc.got j hj, fun q hq hj => hc.own q hq hj⟩ (.inr (by rw [hsee.1, hgo]; exact List.mem_cons_self ..))
    have hio : i ≠ o := by
      intro e; subst e
      rw [hgo] at hgi
      rcases hgi with hgi | hgi
      · omega
      exact hns hgi
    cases hrq : rec o (s.see k) with
    | mk b s2 =>
      rw [hrq] at h0 h1
      cases b with
      | true =>
        refine ⟨fun _ => ?_, fun h => by cases h⟩
        have hy := h1.1 rfl
        have l2 : s2.owner.length = _ := h0.wf.lo
        have g2 : s2.got.length = _ := h0.wf.lg
        have eo : ∀ q, atI (s2.pair k i).owner q = if q = k then (i : Int) else atI s2.owner q := fun q => by
          show atI (s2.owner.set (k : Int).toNat i) q = _
          rw [atI_set _ (by omega)]; rfl
        have eg : ∀ q, atI (s2.pair k i).got q = if q = i then (k : Int) else atI s2.got q := fun q => by
          show atI (s2.got.set (i : Int).toNat k) q = _
          rw [atI_set _ (by omega)]; rfl
        have hcv : Conv es s2 k := by have := hy.conv; rwa [hsee.1, hgo] at this
        have hok : atI s2.owner k = o := by rw [hy.ownS k (List.mem_cons_self ..)]; exact hoe
        have hgi2 : atI s2.got i = atI s.got i := hy.gotS i hio (hgi.imp id (fun h => List.mem_cons_of_mem _ h))
        refine ⟨⟨fun j hj => ?_, fun q hq hj => ?_⟩, ?_, fun j hj => ?_, fun j hj hg => ?_, fun q hq => ?_, fun j hj hg => ?_, fun D hD => ⟨⟨k, hn.2, fun hk => ?_⟩, fun q hq => ?_⟩⟩
        · rw [eg] at hj ⊢
          by_cases hji : j = i
          · subst hji; simp only [if_true, Int.toNat_natCast] at hj ⊢; exact ⟨hn.2, by rw [eo, if_pos rfl]⟩
          rw [if_neg hji] at hj ⊢
          obtain ⟨h1, h2⟩ := hcv.got j hj
          refine ⟨h1, ?_⟩
          rw [eo, if_neg]; exact h2
          intro e
          rw [e, hok] at h2
          have : o = j := by omega
          subst this
          have h3 := hy.new.2
          apply h3
          have h4 := hy.new.1
          rw [show atI s2.got o = k by omega]
          exact List.mem_cons_self ..
        · rw [eo] at hj ⊢
          by_cases hqk : q = k
          · subst hqk; rw [if_pos rfl, Int.toNat_natCast, eg, if_pos rfl]
          rw [if_neg hqk] at hj ⊢
          have h1 := hcv.own q (by omega) hj
          rw [eg]
          by_cases hji : (atI s2.owner q).toNat = i
          · exfalso; rw [hji, hgi2] at h1; exact hq h1.symm
          rw [if_neg hji]; exact h1
        · rw [eg, if_pos rfl]; exact ⟨by omega, hns⟩
        · rw [eg]; split
          · omega
          exact hy.keep j hj
        · rw [eg, if_neg hj]
          refine hy.free j (fun e => ?_) hg
          subst e; rw [hgo] at hg; omega
        · rw [eo, if_neg (fun e => by subst e; exact hns hq)]; exact hy.ownS q (List.mem_cons_of_mem _ hq)
        · rw [eg, if_neg hj]
          refine hy.gotS j (fun e => ?_) (hg.imp id (fun h => List.mem_cons_of_mem _ h))
          subst e; rw [hgo] at hg
          rcases hg with hg | hg
          · omega
          exact hns hg
        · obtain ⟨m, hm, hnm⟩ := (hy.ownD D hD).1
          have := hD.all k hk m
          rw [hoe, Int.toNat_natCast] at this
          exact hnm (this hm)
        rw [eo, if_neg, (hy.ownD D hD).2 q hq]; rfl
        rintro rfl
        obtain ⟨m, hm, hnm⟩ := (hy.ownD D hD).1
        have := hD.all q hq m
        rw [hoe, Int.toNat_natCast] at this
        exact hnm (this hm)
      | false =>
        have hno := h0.no rfl
        obtain ⟨hcd, hall⟩ := h1.2 rfl
        have hsub : ∀ m ∈ s.seen, m ∈ s2.seen := fun m hm => h0.sub m (List.mem_cons_of_mem _ hm)
        have hgi2 : atI s2.got i = -1 ∨ atI s2.got i ∈ s2.seen := by rw [hno.2]; exact hgi.imp id (hsub _)
        have hc2 : Conv es s2 (-1) := ⟨fun j hj => by rw [hno.2] at hj ⊢; rw [hno.1]; exact hc.got j hj, fun q hq hj => by rw [hno.1] at hj ⊢; rw [hno.2]; exact hc.own q hq hj⟩
        have ih := augRow_law c hout hlaw hi r s2 hr' h0.wf (by have := h0.len; simp [AS.see] at this; omega) hc2 hgi2
        have ho2 := augRow_out hout hii r s2 (fun n hn => (hr' n hn).1) h0.wf
        refine ⟨fun h => (ih.1 h).weak hno.1 hno.2 hsub, fun h => ⟨⟨fun q hq hnq => ?_⟩, fun m hm => ?_⟩⟩
        · by_cases hq2 : (q : Int) ∈ s2.seen
          · by_cases hqk : q = k
            · subst hqk
              refine ⟨by omega, fun m hm => ?_⟩
              rw [hoe, Int.toNat_natCast] at hm
              exact ho2.sub m (hall m hm)
            obtain ⟨a1, a2⟩ := hcd.closed q hq2 (fun h => by rcases List.mem_cons.1 h with h | h; exact hqk (by omega); exact hnq h)
            exact ⟨a1, fun m hm => ho2.sub m (a2 m hm)⟩
          obtain ⟨a1, a2⟩ := (ih.2 h).1.closed q hq hq2
          have e1 : s2.owner = s.owner := hno.1
          rw [e1] at a1 a2
          exact ⟨a1, a2⟩
        rcases List.mem_cons.1 hm with rfl | hm
        · exact ho2.sub _ (h0.sub _ (List.mem_cons_self ..))
        exact (ih.2 h).2 m hm
theorem aug_law {es : Gr} {right : Int} (hv : ZBm es right = true) : ∀ (f i : Nat) (s : AS), i < es.length → AWF es right s → right.toNat < f + s.seen.length → Conv es s (-1) → (atI s.got i = -1 ∨ atI s.got i ∈ s.seen) →
      ((aug es f i s).1 = true → AugYes es i s (aug es f i s).2) ∧ ((aug es f i s).1 = false → AugNo es s (aug es f i s).2 ∧ ∀ m ∈ rowG es i, m ∈ (aug es f i s).2.seen)
  | 0, i, s, hi, hs, hf, _, _ => by have := hs.few; omega
  | f + 1, i, s, hi, hs, hf, hc, hgi => by
    have h := augRow_law (right := right) s.seen.length (rec := aug es f) (aug_out hv f) (fun j s2 hj hs2 hl hc2 hg2 => aug_law hv f j s2 hj hs2 (by omega) hc2 hg2) hi (rowG es i) s (fun n hn => ⟨(ZBG hv).2.2.2 _ n hn, hn⟩) hs (Nat.le_refl _) hc hgi
    exact h
def fuelG (right : Int) : Nat := right.toNat + 1
def augAll (es : Gr) (right : Int) : Nat → List Int × List Int
  | 0 => (List.replicate right.toNat (-1), List.replicate es.length (-1))
  | k + 1 => let r := aug es (fuelG right) k ⟨[], (augAll es right k).1, (augAll es right k).2⟩
    (r.2.owner, r.2.got)
theorem atI_rep (n i : Nat) : atI (List.replicate n (-1)) i = -1 := by
  unfold atI
  rw [List.getD_eq_getElem?_getD, List.getElem?_replicate]
  split <;> rfl
structure RS where
  left : List Int
  reached : List Int
deriving DecidableEq
def ZBb (es : Gr) (s : RS) : Nat → List Int
  | 0 => []
  | k + 1 => if (k : Int) ∈ s.left then ZBb es s k else ZBb es s k ++ [(k : Int)]
def ZBF (s : RS) : Nat → List Int
  | 0 => []
  | k + 1 => if (k : Int) ∈ s.reached then ZBF s k ++ [(k : Int)] else ZBF s k
theorem coverLeft_mem {es : Gr} {s : RS} (x : Int) : ∀ k, x ∈ ZBb es s k ↔ ∃ i : Nat, i < k ∧ x = i ∧ (i : Int) ∉ s.left
  | 0 => ⟨fun h => (by cases h), fun ⟨i, h, _⟩ => by omega⟩
  | k + 1 => by
    unfold ZBb
    split
    · rename_i h
      rw [coverLeft_mem x k]
      exact ⟨fun ⟨i, h1, h2⟩ => ⟨i, by omega, h2⟩, fun ⟨i, h1, h2, h3⟩ => ⟨i, by
        by_cases hik : i = k
        · subst hik; exact absurd h h3
        omega, h2, h3⟩⟩
    rename_i h
    rw [List.mem_append, coverLeft_mem x k, List.mem_singleton]
    refine ⟨fun h' => ?_, fun ⟨i, h1, h2, h3⟩ => ?_⟩
    · rcases h' with ⟨i, h1, h2⟩ | rfl
      · exact ⟨i, by omega, h2⟩
      exact ⟨k, by omega, rfl, h⟩
    by_cases hik : i = k
    · subst hik; exact .inr h2
    exact .inl ⟨i, by omega, h2, h3⟩
theorem coverRight_mem {s : RS} (x : Int) : ∀ k, x ∈ ZBF s k ↔ ∃ i : Nat, i < k ∧ x = i ∧ (i : Int) ∈ s.reached
  | 0 => ⟨fun h => (by cases h), fun ⟨i, h, _⟩ => by omega⟩
  | k + 1 => by
    unfold ZBF
    split
    · rename_i h
      rw [List.mem_append, coverRight_mem x k, List.mem_singleton]
      refine ⟨fun h' => ?_, fun ⟨i, h1, h2, h3⟩ => ?_⟩
      · rcases h' with ⟨i, h1, h2⟩ | rfl
        · exact ⟨i, by omega, h2⟩
        exact ⟨k, by omega, rfl, h⟩
      by_cases hik : i = k
      · subst hik; exact .inr h2
      exact .inl ⟨i, by omega, h2, h3⟩
    rename_i h
    rw [coverRight_mem x k]
    exact ⟨fun ⟨i, h1, h2⟩ => ⟨i, by omega, h2⟩, fun ⟨i, h1, h2, h3⟩ => ⟨i, by
      by_cases hik : i = k
      · subst hik; exact absurd h3 h
      omega, h2, h3⟩⟩
theorem formed_snoc {l : List Int} {n : Int} (h : Formed l n) {k : Int} (h0 : 0 ≤ k) (hk : k < n) (hl : ∀ x ∈ l, x < k) : Formed (l ++ [k]) n := ⟨fun i hi => by
  have hi' : i < l.length + 1 := by simpa using hi
  rw [atI_append, atI_append]
  by_cases h1 : i < l.length
  · rw [if_pos h1, if_pos (by omega)]; exact h.at_ i h1
  obtain rfl : i = l.length := by omega
  rw [if_neg (by omega), Nat.sub_self]
  refine ⟨h0, hk, fun h2 => ?_⟩
  rw [if_pos (by omega)]
  exact hl _ (by rw [atI_eq (by omega)]; exact List.getElem_mem _)⟩
theorem coverLeft_formed {es : Gr} {s : RS} {n : Int} : ∀ k : Nat, (k : Int) ≤ n → Formed (ZBb es s k) n
  | 0, _ => ⟨fun i hi => by simp [ZBb] at hi⟩
  | k + 1, hk => by
    have ih := coverLeft_formed (es := es) (s := s) k (n := n) (by omega)
    unfold ZBb
    split
    · exact ih
    exact formed_snoc ih (by omega) (by omega) (fun x hx => by obtain ⟨i, h, rfl, _⟩ := (coverLeft_mem x k).1 hx; omega)
theorem coverRight_formed {s : RS} {n : Int} : ∀ k : Nat, (k : Int) ≤ n → Formed (ZBF s k) n
  | 0, _ => ⟨fun i hi => by simp [ZBF] at hi⟩
  | k + 1, hk => by
    have ih := coverRight_formed (s := s) k (n := n) (by omega)
    unfold ZBF
    split
    · exact formed_snoc ih (by omega) (by omega) (fun x hx => by obtain ⟨i, h, rfl, _⟩ := (coverRight_mem x k).1 hx; omega)
    exact ih
theorem conv_isM {es : Gr} {s : AS} (hl : s.got.length = es.length) (hlow : ∀ j, -1 ≤ atI s.got j) (hc : Conv es s (-1)) : IsM es s.got := by
  refine ⟨hl, fun i hi => ?_, fun i hi hne k hk e => ?_⟩
  · have := hlow i
    by_cases h : atI s.got i = -1
    · exact .inl h
    exact .inr (hc.got i (by omega)).1
  have h1 := hlow i
  have h2 := (hc.got i (by omega)).2
  have h3 := (hc.got k (by omega)).2
  rw [e, h2] at h3
  omega
def encI (n : Int) : List Go.Value := [.int .i64 n]
def gr (ps : List (Go.Value × List Int)) : Gr := ps.map (·.2)
theorem gr_len (ps : List (Go.Value × List Int)) : (gr ps).length = ps.length := by simp [gr]
theorem gr_row (ps : List (Go.Value × List Int)) {i : Nat} (h : i < ps.length) : rowG (gr ps) i = ps[i].2 := by
  rw [rowG_eq (by rw [gr_len]; exact h)]; simp [gr]
theorem find_no {xs : List Int} {n : Int} (h : ∀ j (h : j < xs.length), xs[j] ≠ n) : n ∉ xs := fun hm => by
  obtain ⟨j, hj, e⟩ := List.getElem_of_mem hm
  exact h j hj e
theorem formed_no {xs : List Int} {n : Int} (k : Nat) (hk : k < xs.length) (_hno : ∀ j, j < k → 0 ≤ atI xs j ∧ atI xs j < n ∧ (0 < j → atI xs (j - 1) < atI xs j)) (h : ¬ (0 ≤ atI xs k ∧ atI xs k < n ∧ (0 < k → atI xs (k - 1) < atI xs k))) : formedB xs n = false := by
  rw [Bool.eq_false_iff]
  exact fun e => h ((ZBD.1 e).at_ k hk)
theorem valid_no1 {es : Gr} {right : Int} (h : (es.length : Int) > 4000 ∨ right < 0 ∨ right > 4000) : ZBm es right = false := by
  rw [Bool.eq_false_iff]
  intro e
  have := ZBG e
  omega
theorem valid_any {ps : List (Go.Value × List Int)} {right : Int} (h1 : (ps.length : Int) ≤ 4000) (h2 : 0 ≤ right) (h3 : right ≤ 4000) : ZBm (gr ps) right = !ps.any (fun p => p.2.any (fun n => !okN right n)) := by
  unfold ZBm
  rw [gr_len, decide_eq_true (show ps.length ≤ 4000 by omega), decide_eq_true h2, decide_eq_true h3]
  simp only [Bool.true_and, gr, List.all_map, List.not_any_eq_all_not, Bool.not_not]
  rfl
def goodAt (es : Gr) (got : List Int) (i : Nat) : Prop := atI got i = -1 ∨ (atI got i ∈ rowG es i ∧ ∀ k, k < i → atI got k ≠ atI got i)
def cntM (got : List Int) (k : Nat) : Nat := ((List.range k).filter (fun i => decide (atI got i ≠ -1))).length
theorem cntM_succ (got : List Int) (k : Nat) : cntM got (k + 1) = cntM got k + (if atI got k = -1 then 0 else 1) := by
  unfold cntM
  rw [List.range_succ, List.filter_append, List.length_append]
  by_cases h : atI got k = -1 <;> simp [List.filter, h]
theorem cntM_le (got : List Int) (k : Nat) : cntM got k ≤ k := by
  have := List.length_filter_le (fun i => decide (atI got i ≠ -1)) (List.range k)
  simpa [cntM] using this
theorem isM_good {es : Gr} {got : List Int} (h : IsM es got) (i : Nat) (hi : i < got.length) : goodAt es got i := by
  by_cases hn : atI got i = -1
  · exact .inl hn
  exact .inr ⟨(h.mem i hi).resolve_left hn, h.inj i hi hn⟩
theorem good_isM {es : Gr} {got : List Int} (hl : got.length = es.length) (h : ∀ i, i < got.length → goodAt es got i) : IsM es got :=
  ⟨hl, fun i hi => (h i hi).imp id (fun x => x.1), fun i hi hn => ((h i hi).resolve_left hn).2⟩
theorem size_len {es : Gr} {got : List Int} (h : got.length ≠ es.length) : sizeL es got = -1 := sizeL_no (fun e => h e.len)
theorem size_no {es : Gr} {got : List Int} (k : Nat) (hk : k < got.length) (h : ¬ goodAt es got k) : sizeL es got = -1 := sizeL_no (fun e => h (isM_good e k hk))
theorem size_yes {es : Gr} {got : List Int} (hl : got.length = es.length) (h : ∀ i, i < got.length → goodAt es got i) : sizeL es got = (cntM got got.length : Int) := sizeL_yes (good_isM hl h)
def covAt (es : Gr) (left right : List Int) (i : Nat) : Prop := (i : Int) ∈ left ∨ ∀ n ∈ rowG es i, n ∈ right
theorem covers_yes {es : Gr} {left right : List Int} (h : ∀ i, i < es.length → covAt es left right i) : coversL es left right = true := coversL_iff.2 h
def memS : List Int → Int → Option Bool
  | [] => fun _ => none
  | n :: l => Go.Gw.upd (memS l) n true
theorem memS_some (l : List Int) (x : Int) : memS l x = if x ∈ l then some true else none := by
  induction l with
  | nil => rfl
  | cons n l ih =>
    unfold memS Go.Gw.upd
    by_cases h : x = n
    · subst h; simp
    rw [if_neg h, ih]; simp [h]
theorem memS_get (l : List Int) (x : Int) : (memS l x).getD false = decide (x ∈ l) := by
  rw [memS_some]; by_cases h : x ∈ l <;> simp [h]
theorem memS_is (l : List Int) (x : Int) : (memS l x).isSome = decide (x ∈ l) := by
  rw [memS_some]; by_cases h : x ∈ l <;> simp [h]
def usedR (got : List Int) : Nat → List Int
  | 0 => []
  | k + 1 => if atI got k = -1 then usedR got k else atI got k :: usedR got k
theorem usedR_mem (got : List Int) (x : Int) : ∀ k, x ∈ usedR got k ↔ ∃ i, i < k ∧ atI got i = x ∧ x ≠ -1
  | 0 => ⟨fun h => (by cases h), fun ⟨i, h, _⟩ => by omega⟩
  | k + 1 => by
    unfold usedR
    split
    · rename_i h
      rw [usedR_mem got x k]
      exact ⟨fun ⟨i, h1, h2⟩ => ⟨i, by omega, h2⟩, fun ⟨i, h1, h2, h3⟩ => ⟨i, by
        by_cases hik : i = k
        · subst hik; omega
        omega, h2, h3⟩⟩
    rename_i h
    rw [List.mem_cons, usedR_mem got x k]
    refine ⟨fun h' => ?_, fun ⟨i, h1, h2, h3⟩ => ?_⟩
    · rcases h' with rfl | ⟨i, h1, h2⟩
      · exact ⟨k, by omega, rfl, h⟩
      exact ⟨i, by omega, h2⟩
    by_cases hik : i = k
    · subst hik; exact .inl h2.symm
    exact .inr ⟨i, by omega, h2, h3⟩
structure RestAt (left : List Int) (k c : Nat) : Prop where
  le : c ≤ left.length
  lo : ∀ q, q < c → atI left q < k
  hi : ∀ q, c ≤ q → q < left.length → (k : Int) ≤ atI left q
theorem rest_start {left : List Int} {n : Int} (h : Formed left n) : RestAt left 0 0 := ⟨by omega, fun q hq => by omega, fun q _ hq => (h.at_ q hq).1⟩
theorem rest_hit {left : List Int} {n : Int} (h : Formed left n) {k c : Nat} (hr : RestAt left k c) (hc : c < left.length) (he : atI left c = k) : RestAt left (k + 1) (c + 1) :=
  ⟨by omega, fun q hq => by
    by_cases hqc : q = c
    · subst hqc; omega
    have := hr.lo q (by omega); omega, fun q hq hl => by have := h.lt q c (by omega) hl; omega⟩
theorem rest_miss {left : List Int} {n : Int} (h : Formed left n) {k c : Nat} (hr : RestAt left k c) (he : ¬ (c < left.length ∧ atI left c = k)) : RestAt left (k + 1) c :=
  ⟨hr.le, fun q hq => by have := hr.lo q hq; omega, fun q hq hl => by
    have h1 := hr.hi q hq hl
    have h2 : c < left.length := by omega
    have h3 := hr.hi c (Nat.le_refl _) h2
    have h4 : atI left c ≠ k := fun e => he ⟨h2, e⟩
    by_cases hqc : q = c
    · subst hqc; omega
    have := h.lt q c (by omega) hl; omega⟩
theorem rest_mem {left : List Int} {n : Int} {k c : Nat} (hr : RestAt left k c) (h : Formed left n) : (k : Int) ∈ left ↔ c < left.length ∧ atI left c = k := by
  refine ⟨fun hm => ?_, fun ⟨h1, h2⟩ => by rw [← h2, atI_eq h1]; exact List.getElem_mem _⟩
  obtain ⟨q, hq, e⟩ := List.getElem_of_mem hm
  rw [← atI_eq hq] at e
  rcases Nat.lt_or_ge q c with hl | hl
  · have := hr.lo q hl; omega
  have h2 := hr.hi c (Nat.le_refl _) (by omega)
  by_cases hqc : q = c
  · subst hqc; exact ⟨hq, e⟩
  have := h.lt q c (by omega) hq; omega
theorem check_no_pre {es : Gr} {right : Int} {got left cover : List Int} (h : ZBm es right = false ∨ got.length ≠ es.length ∨ formedB left es.length = false ∨ formedB cover right = false) : checkL es right got left cover = false := by
  rw [Bool.eq_false_iff]
  intro e
  obtain ⟨h1, h2, h3, _, h5, _⟩ := check_parts e
  rcases h with h | h | h | h
  · rw [h1] at h; cases h
  · exact h h5.len
  · rw [ZBD.2 h2] at h; cases h
  rw [ZBD.2 h3] at h; cases h
theorem check_no_size {es : Gr} {right : Int} {got left cover : List Int} (k : Nat) (hk : k < got.length) (h : ¬ goodAt es got k) : checkL es right got left cover = false := by
  rw [Bool.eq_false_iff]
  exact fun e => h (isM_good (check_parts e).2.2.2.2.1 k hk)
theorem check_no_cov {es : Gr} {right : Int} {got left cover : List Int} (k : Nat) (hk : k < es.length) (h : ¬ covAt es left cover k) : checkL es right got left cover = false := by
  rw [Bool.eq_false_iff]
  exact fun e => h (coversL_iff.1 (check_parts e).2.2.2.1 k hk)
theorem check_yes {es : Gr} {right : Int} {got left cover : List Int} (h1 : ZBm es right = true) (h2 : got.length = es.length) (h3 : formedB left es.length = true) (h4 : formedB cover right = true)
    (h5 : ∀ i, i < got.length → goodAt es got i) (h6 : ∀ i, i < es.length → covAt es left cover i) : checkL es right got left cover = decide ((cntM got got.length : Int) = (left.length : Int) + (cover.length : Int)) := by
  rw [checkL, h1, h3, h4, covers_yes h6, size_yes h2 h5]; rfl
theorem drop_at (l : List Int) (q : Nat) : (l.drop q).getD (Int.toNat 0) (-1) = atI l q := by
  unfold atI
  rw [List.getD_eq_getElem?_getD, List.getD_eq_getElem?_getD, List.getElem?_drop]; rfl
def fillL (n k : Nat) : List Int := List.replicate k (-1) ++ List.replicate (n - k) 0
theorem fill_len {n k : Nat} (h : k ≤ n) : (fillL n k).length = n := by simp [fillL]; omega
theorem fill_end (n : Nat) : fillL n n = List.replicate n (-1) := by simp [fillL]
theorem aug_succ (ps : List (Go.Value × List Int)) (f i : Nat) (s : AS) (hi : i < ps.length) : aug (gr ps) (f + 1) (i : Int) s = ZB5 (aug (gr ps) f) i ps[i].2 s := by
  show ZB5 _ _ (rowG (gr ps) (i : Int).toNat) s = _
  rw [Int.toNat_natCast, gr_row ps hi]
theorem coverLeft_len (es : Gr) (s : RS) : ∀ k, (ZBb es s k).length ≤ k
  | 0 => Nat.le_refl _
  | k + 1 => by
    unfold ZBb
    have := coverLeft_len es s k
    split <;> simp <;> omega
theorem coverRight_len (s : RS) : ∀ k, (ZBF s k).length ≤ k
  | 0 => Nat.le_refl _
  | k + 1 => by
    unfold ZBF
    have := coverRight_len s k
    split <;> simp <;> omega
def encB (b : Bool) : List Go.Value := [.bool b]
end
end Go.Proofs.YtjdlllacomgaoaaGreatDoor
namespace Go.Proofs.YtjdlllacomgaoaaGreatDoor
section
open Go Go.Gw _root_.Go.Proofs.Tryz
structure Pl where
  kind : Int
  level : Int
  block : Int
  row : Int
  seat : Int
  x : Int
  y : Int
  view : Int
  with_ : Int
def Pl.enc (p : Pl) : List Value := [.int .i64 p.kind, .int .i64 p.level, .int .i64 p.block, .int .i64 p.row, .int .i64 p.seat, .int .i64 p.x, .int .i64 p.y, .int .i64 p.view, .int .i64 p.with_]
def worthI (p : Pl) : List Int := [p.view, p.level, if p.with_ < 0 then 1 else 0]
def worthL (p : Pl) : List Value := [.int .i64 p.view, .int .i64 p.level, .int .i64 (if p.with_ < 0 then 1 else 0)]
def ZBQ (p q : Pl) : Bool := p.kind == q.kind && decide (p.view ≤ q.view) && decide (p.level ≤ q.level) && (decide (q.with_ < 0) || decide (p.with_ ≥ 0))
theorem getI (p : Pl) (k : Nat) (h : k < 3) : (worthL p)[0 + Int.toNat (k : Int) * 1]? = some (.int .i64 ((worthI p).getD k 0)) := by
  have : k = 0 ∨ k = 1 ∨ k = 2 := by omega
  rcases this with rfl | rfl | rfl <;> rfl
theorem atLeast_no (p q : Pl) (k : Nat) (hk : k < 3) (h : (worthI q).getD k 0 < (worthI p).getD k 0) : false = ZBQ p q := by
  have : k = 0 ∨ k = 1 ∨ k = 2 := by omega
  rcases this with rfl | rfl | rfl <;> simp [worthI] at h <;> simp only [ZBQ, Bool.false_eq, Bool.and_eq_false_iff, Bool.or_eq_false_iff, decide_eq_false_iff_not] <;> grind
theorem atLeast_yes (p q : Pl) (h : ∀ j, j < 3 → (worthI p).getD j 0 ≤ (worthI q).getD j 0) : (p.kind == q.kind) = ZBQ p q := by
  have h0 := h 0 (by omega)
  have h1 := h 1 (by omega)
  have h2 := h 2 (by omega)
  simp [worthI] at h0 h1 h2
  simp only [ZBQ]
  grind
def fits (p : Pl) : List Pl → Nat → List Int
  | [], _ => []
  | q :: r, k => if ZBQ q p = true then (k : Int) :: fits p r (k + 1) else fits p r (k + 1)
theorem fits_append (p : Pl) : ∀ (a b : List Pl) (k : Nat), fits p (a ++ b) k = fits p a k ++ fits p b (k + a.length)
  | [], b, k => by simp [fits]
  | q :: r, b, k => by
    have ih := fits_append p r b (k + 1)
    have e : k + 1 + r.length = k + (r.length + 1) := by omega
    simp only [List.cons_append, fits, ih, List.length_cons, e]
    split <;> simp
theorem fits_step (p : Pl) (next : List Pl) (k : Nat) (h : k < next.length) : fits p (next.take (k + 1)) 0 = fits p (next.take k) 0 ++ if ZBQ next[k] p = true then [(k : Int)] else [] := by
  rw [List.take_succ_eq_append_getElem h, fits_append]
  have e : 0 + (next.take k).length = k := by simp; omega
  rw [e]
  simp only [fits]
theorem fits_len (p : Pl) : ∀ (l : List Pl) (k : Nat), (fits p l k).length ≤ l.length
  | [], _ => by simp [fits]
  | q :: r, k => by
    have := fits_len p r (k + 1)
    simp only [fits, List.length_cons]
    split <;> simp <;> omega
def ZAy (old next : List Pl) : List (List Int) := old.map fun p => fits p next 0
def rowsAt (old next : List Pl) (i : Nat) (a : List Int) : List (List Int) := ZAy (old.take i) next ++ a :: List.replicate (old.length - (i + 1)) []
theorem rowsAt_len (old next : List Pl) (i : Nat) (a : List Int) (h : i < old.length) : (rowsAt old next i a).length = old.length := by
  simp [rowsAt, ZAy]; omega
theorem rowsAt_get (old next : List Pl) (i : Nat) (a : List Int) (h : i < old.length) : (rowsAt old next i a)[i]'(by rw [rowsAt_len _ _ _ _ h]; exact h) = a := by
  have : (ZAy (old.take i) next).length = i := by simp [ZAy]; omega
  unfold rowsAt
  rw [List.getElem_append_right (by omega)]
  simp [this]
theorem rowsAt_set (old next : List Pl) (i : Nat) (a b : List Int) (h : i < old.length) : (rowsAt old next i a).set i b = rowsAt old next i b := by
  have : (ZAy (old.take i) next).length = i := by simp [ZAy]; omega
  unfold rowsAt
  rw [List.set_append_right _ _ (by omega)]
  simp [this]
theorem rowsAt_start (old next : List Pl) (h : old ≠ []) : List.replicate old.length [] = rowsAt old next 0 [] := by
  cases old with
  | nil => exact absurd rfl h
  | cons p r => simp [rowsAt, ZAy, List.replicate_succ]
theorem rowsAt_next (old next : List Pl) (i : Nat) (h : i + 1 < old.length) : rowsAt old next i (fits old[i] next 0) = rowsAt old next (i + 1) [] := by
  have e : old.length - (i + 1) = (old.length - (i + 1 + 1)) + 1 := by omega
  unfold rowsAt
  rw [e, List.replicate_succ, List.take_succ_eq_append_getElem (by omega)]
  simp only [ZAy, List.map_append, List.map_cons, List.map_nil, List.append_assoc, List.cons_append, List.nil_append]
theorem rowsAt_end (old next : List Pl) (i : Nat) (h : i + 1 = old.length) : rowsAt old next i (fits (old[i]'(by omega)) next 0) = ZAy old next := by
  unfold rowsAt
  rw [h, Nat.sub_self, List.replicate_zero]
  have : old = old.take i ++ [old[i]'(by omega)] := by
    rw [← List.take_succ_eq_append_getElem (by omega), List.take_of_length_le (by omega)]
  conv => rhs; rw [this]
  simp only [ZAy, List.map_append, List.map_cons, List.map_nil]
theorem ZBO (old next : List Pl) : (ZAy old next).length = old.length := by simp [ZAy]
end
end Go.Proofs.YtjdlllacomgaoaaGreatDoor
namespace Go.Proofs.YtjdlllacomgaoaaGreatDoor
section
open Go.Gw _root_.Go.Proofs.Tryz
def augFrom (es : Gr) (right : Int) (p0 : List Int × List Int) : Nat → List Int × List Int
  | 0 => p0
  | k + 1 => if atI (augFrom es right p0 k).2 k < 0 then
      ((aug es (fuelG right) k ⟨[], (augFrom es right p0 k).1, (augFrom es right p0 k).2⟩).2.owner, (aug es (fuelG right) k ⟨[], (augFrom es right p0 k).1, (augFrom es right p0 k).2⟩).2.got)
    else augFrom es right p0 k
structure FromInv (es : Gr) (right : Int) (k : Nat) (p : List Int × List Int) : Prop where
  wf : AWF es right ⟨[], p.1, p.2⟩
  conv : Conv es ⟨[], p.1, p.2⟩ (-1)
  low : ∀ j, -1 ≤ atI p.2 j
  dead : ∃ D : Int → Prop, Closed es p.1 D ∧ (∀ n, D n → 0 ≤ n ∧ n < right) ∧ ∀ j, j < k → atI p.2 j = -1 → ∀ n ∈ rowG es j, D n
theorem from_start {es : Gr} {right : Int} {p : List Int × List Int} (h1 : AWF es right ⟨[], p.1, p.2⟩) (h2 : Conv es ⟨[], p.1, p.2⟩ (-1)) (h3 : ∀ j, -1 ≤ atI p.2 j) : FromInv es right 0 p :=
  ⟨h1, h2, h3, fun _ => False, ⟨fun n h => h.elim, fun n h => h.elim⟩, fun n h => h.elim, fun j h => by omega⟩
theorem from_step {es : Gr} {right : Int} (hv : ZBm es right = true) {k : Nat} (hk : k < es.length) {p : List Int × List Int} (ih : FromInv es right k p) (hg0 : atI p.2 k < 0) :
    FromInv es right (k + 1) ((aug es (fuelG right) k ⟨[], p.1, p.2⟩).2.owner, (aug es (fuelG right) k ⟨[], p.1, p.2⟩).2.got) ∧ ∀ j, 0 ≤ atI p.2 j → 0 ≤ atI (aug es (fuelG right) k ⟨[], p.1, p.2⟩).2.got j := by
  have hpk : atI p.2 k = -1 := by have := ih.low k; omega
  have hout := aug_out hv (fuelG right) k ⟨[], p.1, p.2⟩ (by omega) ih.wf
  have hlaw := aug_law hv (fuelG right) k ⟨[], p.1, p.2⟩ (by omega) ih.wf (by simp [fuelG]) ih.conv (.inl hpk)
  obtain ⟨D, hD1, hD2, hD3⟩ := ih.dead
  cases hq : aug es (fuelG right) k ⟨[], p.1, p.2⟩ with
  | mk b s =>
    rw [hq] at hout hlaw
    have hwf : AWF es right ⟨[], s.owner, s.got⟩ := ⟨hout.wf.lo, hout.wf.lg, hout.wf.own, List.nodup_nil, fun n h => by cases h⟩
    cases b with
    | true =>
      have hy := hlaw.1 rfl
      have hcv := hy.conv
      have hlow : ∀ j, -1 ≤ atI s.got j := fun j => by
        by_cases hjk : j = k
        · subst hjk; have : 0 ≤ atI s.got j := hy.new.1; omega
        rcases Int.lt_or_le (atI p.2 j) 0 with h | h
        · have e : atI p.2 j = -1 := by have := ih.low j; omega
          have := hy.gotS j hjk (.inl e)
          have e2 : atI (⟨[], p.1, p.2⟩ : AS).got j = -1 := e
          have e3 : atI s.got j = -1 := this.trans e2
          omega
        have : 0 ≤ atI s.got j := hy.keep j h
        omega
      refine ⟨⟨hwf, ⟨fun j h => hcv.got j h, fun n hn h => hcv.own n (fun e => ?_) h⟩, hlow, D, ⟨fun n hn => ?_, fun n hn m hm => ?_⟩, hD2, fun j hj hg => ?_⟩, fun j h => hy.keep j h⟩
      · have e2 : (n : Int) = atI p.2 k := e
        omega
      · rw [(hy.ownD D hD1).2 n hn]; exact hD1.taken n hn
      · rw [(hy.ownD D hD1).2 n hn] at hm; exact hD1.all n hn m hm
      have hjk : j ≠ k := by
        rintro rfl
        have h0 : 0 ≤ atI s.got j := hy.new.1
        have hg : atI s.got j = -1 := hg
        omega
      refine hD3 j (by omega) ?_
      have h1 := ih.low j
      rcases Int.lt_or_le (atI p.2 j) 0 with h | h
      · omega
      have h0 : 0 ≤ atI s.got j := hy.keep j h
      have hg : atI s.got j = -1 := hg
      omega
    | false =>
      have hno := hout.no rfl
      obtain ⟨hcl, hall⟩ := hlaw.2 rfl
      have e1 : s.owner = p.1 := hno.1
      have e2 : s.got = p.2 := hno.2
      rw [e1, e2] at hwf
      have hrng := hout.wf.rng
      simp only [e1, e2]
      refine ⟨⟨hwf, ih.conv, ih.low, fun n => D n ∨ n ∈ s.seen, ⟨fun n hn => ?_, fun n hn m hm => ?_⟩, fun n hn => hn.elim (hD2 n) (hrng n), fun j hj hg n hn => ?_⟩, fun j h => h⟩
      · rcases hn with hn | hn
        · exact hD1.taken n hn
        exact (hcl.closed n hn (by simp)).1
      · rcases hn with hn | hn
        · exact .inl (hD1.all n hn m hm)
        exact .inr ((hcl.closed n hn (by simp)).2 m hm)
      by_cases hjk : j = k
      · subst hjk; exact .inr (hall n hn)
      exact .inl (hD3 j (by omega) hg n hn)
theorem fromInv {es : Gr} {right : Int} (hv : ZBm es right = true) {p0 : List Int × List Int} (h0 : FromInv es right 0 p0) : ∀ k, k ≤ es.length → FromInv es right k (augFrom es right p0 k) ∧ ∀ j, 0 ≤ atI p0.2 j → 0 ≤ atI (augFrom es right p0 k).2 j
  | 0, _ => ⟨h0, fun j h => h⟩
  | k + 1, hk => by
    have ih := fromInv hv h0 k (by omega)
    unfold augFrom
    split
    · rename_i hg
      have h := from_step hv (by omega) ih.1 hg
      exact ⟨h.1, fun j hj => h.2 j (ih.2 j hj)⟩
    rename_i hg
    obtain ⟨D, hD1, hD2, hD3⟩ := ih.1.dead
    refine ⟨⟨ih.1.wf, ih.1.conv, ih.1.low, D, hD1, hD2, fun j hj hgj => ?_⟩, ih.2⟩
    by_cases hjk : j = k
    · subst hjk; rw [hgj] at hg; omega
    exact hD3 j (by omega) hgj
inductive AltR (es : Gr) (owner got : List Int) : Nat → Prop
  | free {i : Nat} : i < es.length → atI got i < 0 → AltR es owner got i
  | step {i j k : Nat} : AltR es owner got i → (k : Int) ∈ rowG es i → atI owner k = j → AltR es owner got j
def PlR (es : Gr) (owner got : List Int) (k : Nat) : Prop := ∃ i, AltR es owner got i ∧ (k : Int) ∈ rowG es i
theorem altR_dead {es : Gr} {right : Int} {p : List Int × List Int} (h : FromInv es right es.length p) : ∃ D : Int → Prop, Closed es p.1 D ∧ ∀ i, AltR es p.1 p.2 i → i < es.length ∧ ∀ n ∈ rowG es i, D n := by
  obtain ⟨D, hD1, hD2, hD3⟩ := h.dead
  refine ⟨D, hD1, fun i hi => ?_⟩
  induction hi with
  | free hi hg => exact ⟨hi, hD3 _ hi (by have := h.low (by assumption); omega)⟩
  | @step i j k _ hk ho ih =>
    have hDk := ih.2 k hk
    have := hD1.all k hDk
    rw [ho, Int.toNat_natCast] at this
    have h2 := (h.wf.own k).2
    have h3 : atI p.1 k = j := ho
    have h2 : atI p.1 k < es.length := h2
    exact ⟨by omega, this⟩
structure IsSet (n : Nat) (P : Nat → Prop) (l : List Int) : Prop where
  form : Formed l n
  mem : ∀ k : Nat, (k : Int) ∈ l ↔ k < n ∧ P k
theorem cover_law {es : Gr} {r : Nat} (hv : ZBm es r = true) {p : List Int × List Int} (h : FromInv es r es.length p) {left right : List Int} (hl : IsSet es.length (fun i => ¬ AltR es p.1 p.2 i) left) (hr : IsSet r (PlR es p.1 p.2) right) :
    checkL es r p.2 left right = true := by
  have hvp := ZBG hv
  obtain ⟨D, hD1, hD⟩ := altR_dead h
  have hlg : p.2.length = es.length := h.wf.lg
  have hm : IsM es p.2 := conv_isM (s := ⟨[], p.1, p.2⟩) hlg h.low h.conv
  have hown : ∀ n : Nat, atI p.1 n < es.length := fun n => (h.wf.own n).2
  have howns : ∀ n : Nat, 0 ≤ atI p.1 n → atI p.2 (atI p.1 n).toNat = n := fun n hn => h.conv.own n (by omega) hn
  have hrng : ∀ {l : List Int} {n : Nat}, Formed l n → ∀ x ∈ l, 0 ≤ x ∧ x < n := fun {l n} hf x hx => by
    obtain ⟨q, hq, rfl⟩ := List.getElem_of_mem hx
    have := hf.1 q hq
    rw [atI_eq hq] at this
    exact ⟨this.1, this.2.1⟩
  have htk : ∀ k : Nat, PlR es p.1 p.2 k → 0 ≤ atI p.1 k := fun k ⟨i, hi, hk⟩ => hD1.taken k ((hD i hi).2 k hk)
  have hcov : coversL es left right = true := by
    rw [coversL_iff]
    intro i hi
    by_cases ha : AltR es p.1 p.2 i
    · refine .inr fun n hn => ?_
      have h2 := hvp.2.2.2 i n hn
      obtain ⟨k, rfl⟩ : ∃ k : Nat, n = k := ⟨n.toNat, by omega⟩
      exact (hr.mem k).2 ⟨by omega, i, ha, hn⟩
    exact .inl ((hl.mem i).2 ⟨hi, ha⟩)
  have hsz : sizeN p.2 = left.length + right.length := by
    have hle := weak hm hcov
    have hge : (left.map Int.toNat ++ right.map (fun n => (atI p.1 n.toNat).toNat)).length ≤ (matched p.2).length := by
      refine nodup_le ?_ ?_
      · rw [List.nodup_append]
        refine ⟨nodup_map _ hl.form.nodup (fun x hx y hy e => by have := hrng hl.form x hx; have := hrng hl.form y hy; omega), nodup_map _ hr.form.nodup (fun x hx y hy e => ?_), fun a ha b hb => ?_⟩
        · have h1 := hrng hr.form x hx
          have h2 := hrng hr.form y hy
          obtain ⟨k, rfl⟩ : ∃ k : Nat, x = k := ⟨x.toNat, by omega⟩
          obtain ⟨m, rfl⟩ : ∃ m : Nat, y = m := ⟨y.toNat, by omega⟩
          simp only [Int.toNat_natCast] at e
          have h3 := howns k (htk k ((hr.mem k).1 hx).2)
          have h4 := howns m (htk m ((hr.mem m).1 hy).2)
          rw [e, h4] at h3
          exact h3.symm
        obtain ⟨x, hx, rfl⟩ := List.mem_map.1 ha
        obtain ⟨y, hy, rfl⟩ := List.mem_map.1 hb
        have h1 := hrng hl.form x hx
        have h2 := hrng hr.form y hy
        obtain ⟨i, rfl⟩ : ∃ i : Nat, x = i := ⟨x.toNat, by omega⟩
        obtain ⟨m, rfl⟩ : ∃ m : Nat, y = m := ⟨y.toNat, by omega⟩
        simp only [Int.toNat_natCast]
        intro e
        obtain ⟨j, hj, hk⟩ := ((hr.mem m).1 hy).2
        have h5 := htk m ((hr.mem m).1 hy).2
        exact ((hl.mem i).1 hx).2 (.step hj hk (by omega))
      intro x hx
      rw [mem_matched]
      rcases List.mem_append.1 hx with hx | hx
      · obtain ⟨y, hy, rfl⟩ := List.mem_map.1 hx
        have h1 := hrng hl.form y hy
        obtain ⟨i, rfl⟩ : ∃ i : Nat, y = i := ⟨y.toNat, by omega⟩
        rw [Int.toNat_natCast]
        refine ⟨by omega, fun e => ((hl.mem i).1 hy).2 (.free (by omega) (by omega))⟩
      obtain ⟨y, hy, rfl⟩ := List.mem_map.1 hx
      have h1 := hrng hr.form y hy
      obtain ⟨m, rfl⟩ : ∃ m : Nat, y = m := ⟨y.toNat, by omega⟩
      simp only [Int.toNat_natCast]
      have h2 := htk m ((hr.mem m).1 hy).2
      have h3 := hown m
      rw [howns m h2]
      exact ⟨by omega, by omega⟩
    simp only [List.length_append, List.length_map] at hge
    unfold sizeN at hle ⊢
    omega
  simp only [checkL, Bool.and_eq_true, decide_eq_true_eq]
  refine ⟨hv, ZBD.2 hl.form, ZBD.2 hr.form, hcov, ?_⟩
  rw [sizeL_yes hm, hsz]; omega
def preK (n r : Nat) (c : Nat → Option Int) : Nat → List Int × List Int
  | 0 => (List.replicate r (-1), List.replicate n (-1))
  | k + 1 => match c k with
    | none => preK n r c k
    | some m => if atI (preK n r c k).1 m.toNat < 0 then ((preK n r c k).1.set m.toNat k, (preK n r c k).2.set k m) else preK n r c k
structure PreInv (es : Gr) (r : Nat) (c : Nat → Option Int) (k : Nat) (p : List Int × List Int) : Prop where
  wf : AWF es r ⟨[], p.1, p.2⟩
  conv : Conv es ⟨[], p.1, p.2⟩ (-1)
  low : ∀ j, -1 ≤ atI p.2 j
  late : ∀ j, k ≤ j → atI p.2 j = -1
  from_ : ∀ j, 0 ≤ atI p.2 j → c j = some (atI p.2 j)
  tried : ∀ j, j < k → ∀ m, c j = some m → 0 ≤ atI p.1 m.toNat
theorem preInv {es : Gr} {r : Nat} (hv : ZBm es r = true) {c : Nat → Option Int} (hc : ∀ i m, i < es.length → c i = some m → m ∈ rowG es i) : ∀ k, k ≤ es.length → PreInv es r c k (preK es.length r c k)
  | 0, _ => by
    have e1 : (preK es.length r c 0).1 = List.replicate r (-1) := rfl
    have e2 : (preK es.length r c 0).2 = List.replicate es.length (-1) := rfl
    refine ⟨⟨by simp [preK], by simp [preK], fun n => ?_, List.nodup_nil, fun n h => by cases h⟩, ⟨fun j h => ?_, fun n _ h => ?_⟩, fun j => ?_, fun j _ => ?_, fun j h => ?_, fun j h => by omega⟩
    · show -1 ≤ atI (List.replicate r (-1)) n ∧ _
      rw [e1, atI_rep]; omega
    · have h : 0 ≤ atI (List.replicate es.length (-1)) j := h
      rw [atI_rep] at h; omega
    · have h : 0 ≤ atI (List.replicate r (-1)) n := h
      rw [atI_rep] at h; omega
    · rw [e2, atI_rep]; omega
    · rw [e2, atI_rep]
    rw [e2, atI_rep] at h; omega
  | k + 1, hk => by
    have ih := preInv hv hc k (by omega)
    obtain ⟨p, hp⟩ : ∃ p, preK es.length r c k = p := ⟨_, rfl⟩
    rw [hp] at ih
    unfold preK
    rw [hp]
    cases hq : c k with
    | none => exact ⟨ih.wf, ih.conv, ih.low, fun j hj => ih.late j (by omega), ih.from_, fun j hj m hm => by
        by_cases e : j = k
        · subst e; rw [hq] at hm; cases hm
        exact ih.tried j (by omega) m hm⟩
    | some m =>
      have hmr := hc k m (by omega) hq
      have hmn := (ZBG hv).2.2.2 k m hmr
      have hlo : p.1.length = r := by have := ih.wf.lo; simpa using this
      have hlg : p.2.length = es.length := ih.wf.lg
      dsimp only
      split
      · rename_i hfree
        have ho : ∀ x : Nat, atI (p.1.set m.toNat k) x = if x = m.toNat then (k : Int) else atI p.1 x := fun x => atI_set _ (by omega) x
        have hg : ∀ x : Nat, atI (p.2.set k m) x = if x = k then m else atI p.2 x := fun x => atI_set _ (by omega) x
        have hwfp := ih.wf.pair (n := m) (i := (k : Int)) hmn ⟨by omega, by omega⟩
        refine ⟨⟨by simp [hlo], by simp [hlg], hwfp.own, List.nodup_nil, fun n h => by cases h⟩, ⟨fun j h => ?_, fun n _ h => ?_⟩, fun j => ?_, fun j hj => ?_, fun j h => ?_, fun j hj m2 hm2 => ?_⟩
        · have h : 0 ≤ atI (p.2.set k m) j := h
          show atI (p.2.set k m) j ∈ rowG es j ∧ atI (p.1.set m.toNat k) (atI (p.2.set k m) j).toNat = j
          rw [hg] at h ⊢
          by_cases e : j = k
          · subst e; rw [if_pos rfl]; exact ⟨hmr, by rw [ho, if_pos rfl]⟩
          rw [if_neg e] at h ⊢
          have h1 := ih.conv.got j h
          have h1 : atI p.2 j ∈ rowG es j ∧ atI p.1 (atI p.2 j).toNat = j := h1
          refine ⟨h1.1, ?_⟩
          rw [ho, if_neg (fun e2 => ?_)]
          · exact h1.2
          rw [e2] at h1; omega
        · have h : 0 ≤ atI (p.1.set m.toNat k) n := h
          show atI (p.2.set k m) (atI (p.1.set m.toNat k) n).toNat = n
          rw [ho] at h ⊢
          by_cases e : n = m.toNat
          · rw [if_pos e, Int.toNat_natCast, hg, if_pos rfl, e]; omega
          rw [if_neg e] at h ⊢
          have h1 : atI p.2 (atI p.1 n).toNat = n := ih.conv.own n (by omega) h
          rw [hg, if_neg (fun e2 => ?_)]
          · exact h1
          rw [e2, ih.late k (Nat.le_refl _)] at h1; omega
        · show -1 ≤ atI (p.2.set k m) j
          rw [hg]; split
          · omega
          exact ih.low j
        · show atI (p.2.set k m) j = -1
          rw [hg, if_neg (by omega)]; exact ih.late j (by omega)
        · have h : 0 ≤ atI (p.2.set k m) j := h
          show c j = some (atI (p.2.set k m) j)
          rw [hg] at h ⊢
          by_cases e : j = k
          · subst e; rw [if_pos rfl]; exact hq
          rw [if_neg e] at h ⊢; exact ih.from_ j h
        show 0 ≤ atI (p.1.set m.toNat k) m2.toNat
        rw [ho]; split
        · omega
        by_cases e : j = k
        · subst e; rw [hq] at hm2; cases hm2; contradiction
        exact ih.tried j (by omega) m2 hm2
      rename_i hfree
      exact ⟨ih.wf, ih.conv, ih.low, fun j hj => ih.late j (by omega), ih.from_, fun j hj m2 hm2 => by
        by_cases e : j = k
        · subst e; rw [hq] at hm2; cases hm2; omega
        exact ih.tried j (by omega) m2 hm2⟩
theorem pre_from {es : Gr} {r : Nat} {c : Nat → Option Int} {k : Nat} {p : List Int × List Int} (h : PreInv es r c k p) : FromInv es r 0 p := from_start h.wf h.conv h.low
def spotL (p : Pl) : List Go.Value := [.int .i64 p.level, .int .i64 p.block, .int .i64 p.row, .int .i64 p.seat]
def sameN (p q : Pl) : Bool := decide (p.level = q.level) && decide (p.block = q.block) && decide (p.row = q.row) && decide (p.seat = q.seat)
structure Ow where
  serial : Int
  show_ : Int
  place : Int
  first : Go.Value
  chain : Go.Value
  person : Go.Value
  lines : Go.Value
  total : Int
  means : Go.Value
  gone : Int
  offers : Go.Value
def Ow.enc (o : Ow) : List Go.Value := [.int .i64 o.serial, .int .i64 o.show_, .int .i64 o.place, o.first, o.chain, o.person, o.lines, .int .i64 o.total, o.means, .int .i64 o.gone, o.offers]
def Ow.ok (o : Ow) : Prop := o.first.oneCell' = true ∧ o.chain.oneCell' = true ∧ o.person.oneCell' = true ∧ o.lines.oneCell' = true ∧ o.means.oneCell' = true ∧ o.offers.oneCell' = true
def movedB (o : Ow) : Bool := decide (o.gone = 0) && decide (0 ≤ o.place)
def ZAH (ts : List Ow) : List Ow := ts.filter movedB
theorem moved_step {ts : List Ow} {k : Nat} (h : k < ts.length) : ZAH (ts.take (k + 1)) = ZAH (ts.take k) ++ (if movedB ts[k] = true then [ts[k]] else []) := by
  unfold ZAH
  rw [List.take_succ_eq_append_getElem h, List.filter_append, List.filter_cons, List.filter_nil]
def firstS (next : List Pl) (o : Pl) : List Int → Option Int
  | [] => none
  | k :: r => if sameN o (next.getD k.toNat o) then some k else firstS next o r
theorem firstS_mem {next : List Pl} {o : Pl} {m : Int} : ∀ {l : List Int}, firstS next o l = some m → m ∈ l
  | k :: r, h => by
    unfold firstS at h
    split at h
    · cases h; exact List.mem_cons_self ..
    exact List.mem_cons_of_mem _ (firstS_mem h)
def PlOK (n : Nat) (l : List Ow) : Prop := ∀ j (hj : j < l.length), l[j].place < n ∧ ∀ q (hq : q < j), (l[q]'(by omega)).place ≠ l[j].place
noncomputable def plOKb (n : Nat) (l : List Ow) : Bool := @decide (PlOK n l) (Classical.propDecidable _)
theorem plOK_yes {n : Nat} {l : List Ow} (h : PlOK n l) : plOKb n l = true := @decide_eq_true _ (Classical.propDecidable _) h
theorem plOK_no {n : Nat} {l : List Ow} (h : ¬ PlOK n l) : plOKb n l = false := @decide_eq_false _ (Classical.propDecidable _) h
theorem plOK_iff {n : Nat} {l : List Ow} : plOKb n l = true ↔ PlOK n l := ⟨fun h => @of_decide_eq_true _ (Classical.propDecidable _) h, plOK_yes⟩
noncomputable def errW (n1 n2 : Nat) (l : List Ow) : Int := if n1 > 4000 ∨ n2 > 4000 ∨ l.length > 4000 then 3 else if plOKb n1 l = true then 0 else 1
def oldL (old : List Pl) (l : List Ow) : List Pl := l.map (fun o => old.getD o.place.toNat ⟨0, 0, 0, 0, 0, 0, 0, 0, 0⟩)
theorem old_step {old : List Pl} {l : List Ow} {k : Nat} (h : k < l.length) {x : Nat} (hx : l[k].place = x) (hn : x < old.length) : oldL old (l.take (k + 1)) = oldL old (l.take k) ++ [old[x]] := by
  unfold oldL
  rw [List.take_succ_eq_append_getElem h, List.map_append]
  simp [hx, List.getD_eq_getElem?_getD, List.getElem?_eq_getElem hn]
theorem old_len (old : List Pl) (l : List Ow) : (oldL old l).length = l.length := by simp [oldL]
def ZBS (n : Nat) (l : List Int) : List Bool := (List.range n).map (fun k : Nat => decide ((k : Int) ∈ l))
theorem ZBU (n : Nat) (l : List Int) : (ZBS n l).length = n := by simp [ZBS]
theorem seenB_get {n : Nat} {l : List Int} {k : Nat} (h : k < (ZBS n l).length) : (ZBS n l)[k] = decide ((k : Int) ∈ l) := by simp [ZBS]
theorem seenB_nil (n : Nat) : ZBS n [] = List.replicate n false := by
  apply List.ext_getElem
  · simp [ZBS]
  intro k h1 h2; simp [ZBS]
theorem seenB_set (n : Nat) (l : List Int) (k : Nat) : (ZBS n l).set k true = ZBS n ((k : Int) :: l) := by
  apply List.ext_getElem
  · simp [ZBS]
  intro j h1 h2
  rw [List.getElem_set, seenB_get h2]
  split
  · rename_i e; subst e; simp
  rename_i e
  rw [seenB_get]
  simp only [List.mem_cons]
  have : ¬ (j : Int) = k := by omega
  simp [this]
def ownM (o : List Int) : Int → Option Int := fun k => if 0 ≤ k ∧ 0 ≤ atI o k.toNat then some (atI o k.toNat) else none
theorem ownM_none (n : Nat) : ownM (List.replicate n (-1)) = fun _ => none := by
  funext k; unfold ownM; rw [atI_rep, if_neg (by omega)]
theorem ownM_set {o : List Int} {k : Nat} {i : Int} (hk : k < o.length) (hi : 0 ≤ i) : upd (ownM o) (k : Int) i = ownM (o.set k i) := by
  funext x
  unfold upd ownM
  by_cases hx : x = k
  · subst hx
    rw [if_pos rfl, Int.toNat_natCast, atI_set _ hk, if_pos rfl, if_pos ⟨by omega, hi⟩]
  rw [if_neg hx]
  by_cases h0 : 0 ≤ x
  · have e : x.toNat ≠ k := by omega
    simp only [atI_set _ hk, if_neg e]
  rw [if_neg (fun h => h0 h.1), if_neg (fun h => h0 h.1)]
theorem ownM_get {o : List Int} {k : Nat} : ownM o (k : Int) = if 0 ≤ atI o k then some (atI o k) else none := by
  unfold ownM; rw [Int.toNat_natCast]
  by_cases h : 0 ≤ atI o k
  · rw [if_pos ⟨by omega, h⟩, if_pos h]
  rw [if_neg (by omega), if_neg h]
def ZBa (rec : Int → RS → RS) (owner : List Int) : List Int → RS → RS
  | [], s => s
  | n :: r, s => if 0 ≤ atI owner n.toNat then ZBa rec owner r (rec (atI owner n.toNat) { s with reached := n :: s.reached }) else ZBa rec owner r { s with reached := n :: s.reached }
def reach2 (es : Gr) (owner : List Int) : Nat → Int → RS → RS
  | 0, _, s => s
  | f + 1, i, s => if i ∈ s.left then s else ZBa (reach2 es owner f) owner (rowG es i.toNat) { s with left := i :: s.left }
structure R2WF (es : Gr) (s : RS) : Prop where
  lft : ∀ i ∈ s.left, 0 ≤ i ∧ i < es.length
  lnd : s.left.Nodup
theorem R2WF.few {es : Gr} {s : RS} (h : R2WF es s) : s.left.length ≤ es.length := by
  have := nodup_le (l := s.left) (m := (List.range es.length).map Int.ofNat) h.lnd (fun x hx => by
    have := h.lft x hx
    exact List.mem_map.2 ⟨x.toNat, List.mem_range.2 (by omega), by simp; omega⟩)
  simpa using this
structure Snd (es : Gr) (A : Int → Prop) (s : RS) : Prop where
  left : ∀ j ∈ s.left, A j
  right : ∀ n ∈ s.reached, ∃ j, A j ∧ n ∈ rowG es j.toNat
def DoneAt (es : Gr) (owner : List Int) (s : RS) (j : Int) : Prop := ∀ n ∈ rowG es j.toNat, n ∈ s.reached ∧ (0 ≤ atI owner n.toNat → atI owner n.toNat ∈ s.left)
structure R2Out (es : Gr) (owner : List Int) (s s' : RS) : Prop where
  wf : R2WF es s'
  subL : ∀ i ∈ s.left, i ∈ s'.left
  subR : ∀ n ∈ s.reached, n ∈ s'.reached
  len : s.left.length ≤ s'.left.length
  done : ∀ j ∈ s'.left, j ∉ s.left → DoneAt es owner s' j
theorem R2Out.refl {es : Gr} {owner : List Int} {s : RS} (h : R2WF es s) : R2Out es owner s s := ⟨h, fun _ h => h, fun _ h => h, Nat.le_refl _, fun j h1 h2 => absurd h1 h2⟩
theorem DoneAt.mono {es : Gr} {owner : List Int} {s s' : RS} {j : Int} (h : DoneAt es owner s j) (hl : ∀ i ∈ s.left, i ∈ s'.left) (hr : ∀ n ∈ s.reached, n ∈ s'.reached) : DoneAt es owner s' j :=
  fun n hn => ⟨hr n (h n hn).1, fun h0 => hl _ ((h n hn).2 h0)⟩
theorem R2Out.trans {es : Gr} {owner : List Int} {s s1 s2 : RS} (h1 : R2Out es owner s s1) (h2 : R2Out es owner s1 s2) : R2Out es owner s s2 :=
  ⟨h2.wf, fun i hi => h2.subL i (h1.subL i hi), fun n hn => h2.subR n (h1.subR n hn), Nat.le_trans h1.len h2.len, fun j hj hn => by
    by_cases hj1 : j ∈ s1.left
    · exact (h1.done j hj1 hn).mono h2.subL h2.subR
    exact h2.done j hj hj1⟩
structure R2Law (es : Gr) (owner : List Int) (i : Int) (s s' : RS) : Prop where
  out : R2Out es owner s s'
  me : i ∈ s'.left
  snd : ∀ A : Int → Prop, (∀ i, A i → ∀ n ∈ rowG es i.toNat, 0 ≤ atI owner n.toNat → A (atI owner n.toNat)) → A i → Snd es A s → Snd es A s'
theorem reach2Row_law {es : Gr} {owner : List Int} (hown : ∀ n : Nat, atI owner n < es.length) (c : Nat) {rec : Int → RS → RS}
    (hrec : ∀ (i : Int) (s : RS), 0 ≤ i ∧ i < es.length → R2WF es s → c ≤ s.left.length → R2Law es owner i s (rec i s)) :
    ∀ (r : List Int) (s : RS), R2WF es s → c ≤ s.left.length →
      R2Out es owner s (ZBa rec owner r s) ∧ (∀ n ∈ r, n ∈ (ZBa rec owner r s).reached ∧ (0 ≤ atI owner n.toNat → atI owner n.toNat ∈ (ZBa rec owner r s).left)) ∧
      ∀ A : Int → Prop, (∀ i, A i → ∀ n ∈ rowG es i.toNat, 0 ≤ atI owner n.toNat → A (atI owner n.toNat)) → (∀ n ∈ r, ∃ j, A j ∧ n ∈ rowG es j.toNat) → Snd es A s → Snd es A (ZBa rec owner r s)
  | [], s, hs, _ => ⟨R2Out.refl hs, fun n h => (by cases h), fun A _ _ h => h⟩
  | n :: r, s, hs, hc => by
    have hs1 : R2WF es { s with reached := n :: s.reached } := ⟨hs.lft, hs.lnd⟩
    have h01 : R2Out es owner s { s with reached := n :: s.reached } := ⟨hs1, fun _ h => h, fun m h => List.mem_cons_of_mem _ h, Nat.le_refl _, fun j h1 h2 => absurd h1 h2⟩
    have hsnd : ∀ A : Int → Prop, (∃ j, A j ∧ n ∈ rowG es j.toNat) → Snd es A s → Snd es A { s with reached := n :: s.reached } := fun A hn h =>
      ⟨h.left, fun m hm => by
        rcases List.mem_cons.1 hm with rfl | hm
        · exact hn
        exact h.right m hm⟩
    unfold ZBa
    split
    · rename_i h0
      have h := hrec (atI owner n.toNat) { s with reached := n :: s.reached } ⟨h0, hown _⟩ hs1 hc
      have ih := reach2Row_law hown c hrec r (rec (atI owner n.toNat) { s with reached := n :: s.reached }) h.out.wf (Nat.le_trans hc h.out.len)
      refine ⟨(h01.trans h.out).trans ih.1, fun m hm => ?_, fun A hA hr hsA => ?_⟩
      · rcases List.mem_cons.1 hm with rfl | hm
        · exact ⟨ih.1.subR _ (h.out.subR _ (List.mem_cons_self ..)), fun _ => ih.1.subL _ h.me⟩
        exact ih.2.1 m hm
      have hnr := hr n (List.mem_cons_self ..)
      obtain ⟨j, hj, hjn⟩ := hnr
      exact ih.2.2 A hA (fun m hm => hr m (List.mem_cons_of_mem _ hm)) (h.snd A hA (hA j hj n hjn h0) (hsnd A ⟨j, hj, hjn⟩ hsA))
    rename_i h0
    have ih := reach2Row_law hown c hrec r { s with reached := n :: s.reached } hs1 hc
    refine ⟨h01.trans ih.1, fun m hm => ?_, fun A hA hr hsA => ?_⟩
    · rcases List.mem_cons.1 hm with rfl | hm
      · exact ⟨ih.1.subR _ (List.mem_cons_self ..), fun h => absurd h h0⟩
      exact ih.2.1 m hm
    exact ih.2.2 A hA (fun m hm => hr m (List.mem_cons_of_mem _ hm)) (hsnd A (hr n (List.mem_cons_self ..)) hsA)
theorem reach2_law {es : Gr} {owner : List Int} (hown : ∀ n : Nat, atI owner n < es.length) : ∀ (f : Nat) (i : Int) (s : RS), 0 ≤ i ∧ i < es.length → R2WF es s → es.length < f + s.left.length → R2Law es owner i s (reach2 es owner f i s)
  | 0, i, s, _, hs, hf => by have := hs.few; omega
  | f + 1, i, s, hi, hs, hf => by
    unfold reach2
    split
    · rename_i h
      exact ⟨R2Out.refl hs, h, fun A _ _ h => h⟩
    rename_i h
    have hs1 : R2WF es { s with left := i :: s.left } := ⟨fun j hj => by
      rcases List.mem_cons.1 hj with rfl | hj
      · exact hi
      exact hs.lft j hj, List.nodup_cons.2 ⟨h, hs.lnd⟩⟩
    have hl := reach2Row_law hown (s.left.length + 1) (rec := reach2 es owner f) (fun j t hj ht hc => reach2_law hown f j t hj ht (by omega)) (rowG es i.toNat) { s with left := i :: s.left } hs1 (by simp)
    obtain ⟨h1, h2, h3⟩ := hl
    refine ⟨⟨h1.wf, fun j hj => h1.subL j (List.mem_cons_of_mem _ hj), h1.subR, Nat.le_trans (by simp) h1.len, fun j hj hn => ?_⟩, h1.subL i (List.mem_cons_self ..), fun A hA hi hsA => ?_⟩
    · by_cases hji : j = i
      · subst hji; exact fun n hn => h2 n hn
      exact h1.done j hj (fun hm => by
        rcases List.mem_cons.1 hm with e | hm
        · exact hji e
        exact hn hm)
    exact h3 A hA (fun n hn => ⟨i, hi, hn⟩) ⟨fun j hj => by
      rcases List.mem_cons.1 hj with rfl | hj
      · exact hi
      exact hsA.left j hj, hsA.right⟩
def reach2All (es : Gr) (owner got : List Int) : Nat → RS
  | 0 => ⟨[], []⟩
  | k + 1 => if atI got k < 0 then reach2 es owner (es.length + 1) k (reach2All es owner got k) else reach2All es owner got k
def AltI (es : Gr) (owner got : List Int) (i : Int) : Prop := 0 ≤ i ∧ AltR es owner got i.toNat
theorem altI_step {es : Gr} {r : Int} (hv : ZBm es r = true) {owner got : List Int} (i : Int) (h : AltI es owner got i) : ∀ n ∈ rowG es i.toNat, 0 ≤ atI owner n.toNat → AltI es owner got (atI owner n.toNat) := fun n hn h0 =>
  ⟨h0, .step (k := n.toNat) h.2 (by have := (ZBG hv).2.2.2 _ n hn; rw [Int.toNat_of_nonneg this.1]; exact hn) (by omega)⟩
structure RDone (es : Gr) (owner got : List Int) (s : RS) : Prop where
  left : ∀ i : Nat, (i : Int) ∈ s.left ↔ AltR es owner got i
  right : ∀ k : Nat, (k : Int) ∈ s.reached ↔ PlR es owner got k
theorem rdone {es : Gr} {r : Int} (hv : ZBm es r = true) {owner got : List Int} {s : RS} (hs : Snd es (AltI es owner got) s) (hd : ∀ j ∈ s.left, DoneAt es owner s j) (hf : ∀ i : Nat, i < es.length → atI got i < 0 → (i : Int) ∈ s.left) : RDone es owner got s := by
  have hl : ∀ i : Nat, AltR es owner got i → (i : Int) ∈ s.left := fun i hi => by
    induction hi with
    | free h1 h2 => exact hf _ h1 h2
    | @step i j k _ hk ho ih =>
      have := (hd _ ih k (by simpa using hk)).2
      rw [Int.toNat_natCast] at this
      rw [ho] at this
      exact this (by omega)
  refine ⟨fun i => ⟨fun h => by simpa using (hs.left i h).2, hl i⟩, fun k => ⟨fun h => ?_, fun ⟨i, hi, hk⟩ => ?_⟩⟩
  · obtain ⟨j, hj, hn⟩ := hs.right k h
    exact ⟨j.toNat, hj.2, hn⟩
  exact (hd i (hl i hi) k (by simpa using hk)).1
structure R2Inv (es : Gr) (owner got : List Int) (k : Nat) (s : RS) : Prop where
  wf : R2WF es s
  snd : Snd es (AltI es owner got) s
  done : ∀ j ∈ s.left, DoneAt es owner s j
  free : ∀ i : Nat, i < k → atI got i < 0 → (i : Int) ∈ s.left
theorem reach2All_inv {es : Gr} {r : Int} (hv : ZBm es r = true) {owner got : List Int} (hown : ∀ n : Nat, atI owner n < es.length) : ∀ k, k ≤ es.length → R2Inv es owner got k (reach2All es owner got k)
  | 0, _ => ⟨⟨fun i h => (by cases h), List.nodup_nil⟩, ⟨fun i h => (by cases h), fun i h => (by cases h)⟩, fun i h => (by cases h), fun i h => by omega⟩
  | k + 1, hk => by
    have ih := reach2All_inv hv hown (got := got) k (by omega)
    unfold reach2All
    split
    · rename_i hg
      have h := reach2_law hown (es.length + 1) k (reach2All es owner got k) ⟨by omega, by omega⟩ ih.wf (by omega)
      refine ⟨h.out.wf, h.snd _ (fun i hi => altI_step hv i hi) ⟨by omega, by rw [Int.toNat_natCast]; exact .free (by omega) hg⟩ ih.snd, fun j hj => ?_, fun i hi hgi => ?_⟩
      · by_cases hjo : j ∈ (reach2All es owner got k).left
        · exact (ih.done j hjo).mono h.out.subL h.out.subR
        exact h.out.done j hj hjo
      by_cases e : i = k
      · subst e; exact h.me
      exact h.out.subL _ (ih.free i (by omega) hgi)
    rename_i hg
    exact ⟨ih.wf, ih.snd, ih.done, fun i hi hgi => by
      by_cases e : i = k
      · subst e; exact absurd hgi hg
      exact ih.free i (by omega) hgi⟩
theorem reach2All_done {es : Gr} {r : Int} (hv : ZBm es r = true) {owner got : List Int} (hown : ∀ n : Nat, atI owner n < es.length) : RDone es owner got (reach2All es owner got es.length) := by
  have h := reach2All_inv hv hown (got := got) es.length (Nat.le_refl _)
  exact rdone hv h.snd h.done h.free
theorem cover_sets {es : Gr} {owner got : List Int} {s : RS} (h : RDone es owner got s) (r : Nat) : IsSet es.length (fun i => ¬ AltR es owner got i) (ZBb es s es.length) ∧ IsSet r (PlR es owner got) (ZBF s r) := by
  refine ⟨⟨coverLeft_formed _ (Int.le_refl _), fun k => ?_⟩, ⟨coverRight_formed _ (Int.le_refl _), fun k => ?_⟩⟩
  · rw [coverLeft_mem]
    constructor
    · rintro ⟨i, hi, e, hn⟩
      obtain rfl : k = i := by omega
      exact ⟨hi, fun ha => hn ((h.left k).2 ha)⟩
    rintro ⟨hk, hn⟩
    exact ⟨k, hk, rfl, fun hm => hn ((h.left k).1 hm)⟩
  rw [coverRight_mem]
  constructor
  · rintro ⟨i, hi, e, hn⟩
    obtain rfl : k = i := by omega
    exact ⟨hi, (h.right k).1 hn⟩
  rintro ⟨hk, hn⟩
  exact ⟨k, hk, rfl, (h.right k).2 hn⟩
theorem reach2_in (es : Gr) (owner : List Int) (f : Nat) (i : Int) (s : RS) (h : i ∈ s.left) : reach2 es owner (f + 1) i s = s := by unfold reach2; rw [if_pos h]
theorem reach2_succ (ps : List (Go.Value × List Int)) (owner : List Int) (f i : Nat) (s : RS) (hi : i < ps.length) (h : (i : Int) ∉ s.left) : reach2 (gr ps) owner (f + 1) i s = ZBa (reach2 (gr ps) owner f) owner ps[i].2 { s with left := (i : Int) :: s.left } := by
  conv => lhs; unfold reach2
  rw [if_neg h, Int.toNat_natCast, gr_row ps hi]
def spot4 (p : Pl) : Int × Int × Int × Int := (p.level, p.block, p.row, p.seat)
def pl0 : Pl := ⟨0, 0, 0, 0, 0, 0, 0, 0, 0⟩
def findS (next : List Pl) : List Int → Int × Int × Int × Int → Option Int
  | [], _ => none
  | k :: r, x => if x = spot4 (next.getD k.toNat pl0) then some k else findS next r x
theorem findS_step {next : List Pl} {l : List Int} {k n : Nat} (hk : k < l.length) (hn : l[k] = n) (hl : n < next.length) : upd (findS next (l.drop (k + 1))) (spot4 next[n]) (n : Int) = findS next (l.drop k) := by
  funext x
  rw [List.drop_eq_getElem_cons hk]
  unfold upd
  conv => rhs; unfold findS
  rw [hn, Int.toNat_natCast, List.getD_eq_getElem?_getD, List.getElem?_eq_getElem hl]
  rfl
theorem sameN_iff (p q : Pl) : sameN p q = true ↔ spot4 p = spot4 q := by
  simp only [sameN, spot4, Bool.and_eq_true, decide_eq_true_eq, Prod.mk.injEq, and_assoc]
theorem findS_first {next : List Pl} {o : Pl} : ∀ {l : List Int}, (∀ k ∈ l, 0 ≤ k ∧ k.toNat < next.length) → findS next l (spot4 o) = firstS next o l
  | [], _ => rfl
  | k :: r, h => by
    have hk := h k (List.mem_cons_self ..)
    have ih := findS_first (next := next) (o := o) (l := r) (fun x hx => h x (List.mem_cons_of_mem _ hx))
    unfold findS firstS
    rw [List.getD_eq_getElem?_getD, List.getD_eq_getElem?_getD, List.getElem?_eq_getElem hk.2, Option.getD_some, Option.getD_some, ih]
    by_cases e : spot4 o = spot4 next[k.toNat]
    · rw [if_pos e, if_pos ((sameN_iff _ _).2 e)]
    rw [if_neg e, if_neg (fun h => e ((sameN_iff _ _).1 h))]
def chF (olds next : List Pl) (i : Nat) : Option Int := firstS next (olds.getD i pl0) (rowG (ZAy olds next) i)
def ZBB (olds next : List Pl) (k : Nat) : List Int × List Int := preK olds.length next.length (chF olds next) k
def startP (olds next : List Pl) : List Int × List Int := ZBB olds next olds.length
def pairK (olds next : List Pl) (k : Nat) : List Int × List Int := augFrom (ZAy olds next) next.length (startP olds next) k
def ZBu (olds next : List Pl) : List Int × List Int := pairK olds next olds.length
def rsK (olds next : List Pl) (k : Nat) : RS := reach2All (ZAy olds next) (ZBu olds next).1 (ZBu olds next).2 k
def rsP (olds next : List Pl) : RS := rsK olds next olds.length
def plL (olds next : List Pl) : List Int := (ZBu olds next).2
def clL (olds next : List Pl) : List Int := ZBb (ZAy olds next) (rsP olds next) olds.length
def crL (olds next : List Pl) : List Int := ZBF (rsP olds next) next.length
theorem fits_rng (p : Pl) : ∀ (l : List Pl) (k : Nat), ∀ n ∈ fits p l k, (k : Int) ≤ n ∧ n < k + l.length
  | [], _, n, h => by cases h
  | q :: r, k, n, h => by
    have ih := fits_rng p r (k + 1)
    unfold fits at h
    split at h
    · rcases List.mem_cons.1 h with rfl | h
      · simp only [List.length_cons]; omega
      have := ih n h; simp only [List.length_cons]; omega
    have := ih n h; simp only [List.length_cons]; omega
theorem edges_rowG {olds next : List Pl} {i : Nat} (h : i < olds.length) : rowG (ZAy olds next) i = fits olds[i] next 0 := by
  rw [rowG_eq (by rw [ZBO]; exact h)]; simp [ZAy]
theorem edges_valid {olds next : List Pl} (h1 : olds.length ≤ 4000) (h2 : next.length ≤ 4000) : ZBm (ZAy olds next) next.length = true :=
  validG_mk (by rw [ZBO]; exact h1) (by omega) (by omega) (fun i n hn => by
    by_cases hi : i < olds.length
    · rw [edges_rowG hi] at hn
      have := fits_rng _ _ _ n hn; omega
    rw [rowG_out (by rw [ZBO]; omega)] at hn; cases hn)
theorem startK_inv {olds next : List Pl} (h1 : olds.length ≤ 4000) (h2 : next.length ≤ 4000) (k : Nat) (hk : k ≤ olds.length) : PreInv (ZAy olds next) next.length (chF olds next) k (ZBB olds next k) := by
  have h := preInv (edges_valid h1 h2) (c := chF olds next) (fun i m _ h => firstS_mem h) k (by rw [ZBO]; exact hk)
  unfold ZBB; rw [← ZBO olds next]; exact h
theorem pairK_inv {olds next : List Pl} (h1 : olds.length ≤ 4000) (h2 : next.length ≤ 4000) (k : Nat) (hk : k ≤ olds.length) : FromInv (ZAy olds next) next.length k (pairK olds next k) ∧ ∀ j, 0 ≤ atI (startP olds next).2 j → 0 ≤ atI (pairK olds next k).2 j := by
  have h := startK_inv h1 h2 olds.length (Nat.le_refl _)
  exact fromInv (edges_valid h1 h2) (pre_from h) k (by rw [ZBO]; exact hk)
theorem startK_succ (olds next : List Pl) (i : Nat) : ZBB olds next (i + 1) = match chF olds next i with
    | none => ZBB olds next i
    | some m => if atI (ZBB olds next i).1 m.toNat < 0 then ((ZBB olds next i).1.set m.toNat i, (ZBB olds next i).2.set i m) else ZBB olds next i := by
  show preK olds.length next.length (chF olds next) (i + 1) = _
  rw [preK]
  cases chF olds next i <;> rfl
theorem startK_none {olds next : List Pl} {i : Nat} (h : chF olds next i = none) : ZBB olds next (i + 1) = ZBB olds next i := by rw [startK_succ, h]
theorem startK_give {olds next : List Pl} {i n : Nat} (h : chF olds next i = some (n : Int)) (h2 : atI (ZBB olds next i).1 n < 0) : ZBB olds next (i + 1) = ((ZBB olds next i).1.set n i, (ZBB olds next i).2.set i n) := by
  rw [startK_succ, h]
  simp only [Int.toNat_natCast]
  rw [if_pos h2]
theorem startK_taken {olds next : List Pl} {i n : Nat} (h : chF olds next i = some (n : Int)) (h2 : ¬ atI (ZBB olds next i).1 n < 0) : ZBB olds next (i + 1) = ZBB olds next i := by
  rw [startK_succ, h]
  simp only [Int.toNat_natCast]
  rw [if_neg h2]
theorem pairK_yes {olds next : List Pl} {k : Nat} (h : atI (pairK olds next k).2 k < 0) : pairK olds next (k + 1) = ((aug (ZAy olds next) (fuelG next.length) k ⟨[], (pairK olds next k).1, (pairK olds next k).2⟩).2.owner, (aug (ZAy olds next) (fuelG next.length) k ⟨[], (pairK olds next k).1, (pairK olds next k).2⟩).2.got) := by
  unfold pairK at h ⊢
  conv => lhs; unfold augFrom
  rw [if_pos h]
theorem pairK_no {olds next : List Pl} {k : Nat} (h : ¬ atI (pairK olds next k).2 k < 0) : pairK olds next (k + 1) = pairK olds next k := by
  unfold pairK at h ⊢
  conv => lhs; unfold augFrom
  rw [if_neg h]
theorem rsK_yes {olds next : List Pl} {k : Nat} (h : atI (ZBu olds next).2 k < 0) : rsK olds next (k + 1) = reach2 (ZAy olds next) (ZBu olds next).1 ((ZAy olds next).length + 1) k (rsK olds next k) := by
  unfold rsK
  conv => lhs; unfold reach2All
  rw [if_pos h]
theorem rsK_no {olds next : List Pl} {k : Nat} (h : ¬ atI (ZBu olds next).2 k < 0) : rsK olds next (k + 1) = rsK olds next k := by
  unfold rsK
  conv => lhs; unfold reach2All
  rw [if_neg h]
theorem fill_first {n m : Nat} (h : m = min 1 n) : (List.replicate n (0 : Int)).take 0 ++ [(-1 : Int)].take m ++ (List.replicate n (0 : Int)).drop (0 + m) = fillL n m := by
  have h01 : m = 0 ∨ m = 1 := by omega
  rcases h01 with e | e <;> subst e <;> simp [fillL]
theorem fill_copy {n k m : Nat} (hk : k ≤ n) (h : m = min k (n - k)) : (fillL n k).take k ++ (((fillL n k).take k).drop 0).take m ++ (fillL n k).drop (k + m) = fillL n (k + m) := by
  have e : (fillL n k).take k = List.replicate k (-1) := by simp [fillL]
  rw [List.drop_zero, e, List.take_replicate]
  unfold fillL
  rw [List.drop_append, List.drop_of_length_le (by simp), List.nil_append, List.length_replicate, List.drop_replicate, List.replicate_append_replicate]
  have e1 : min m k = m := by omega
  have e2 : n - k - (k + m - k) = n - (k + m) := by omega
  rw [e1, e2]
def offK (kind : Int) (next : List Pl) (taken : List Int) : Nat → List Int
  | 0 => []
  | k + 1 => if (offK kind next taken k).length < 5 ∧ (next.getD k ⟨0, 0, 0, 0, 0, 0, 0, 0, 0⟩).kind = kind ∧ (k : Int) ∉ taken then offK kind next taken k ++ [(k : Int)] else offK kind next taken k
def offL (kind : Int) (next : List Pl) (taken : List Int) : List Int := offK kind next taken next.length
theorem offK_len (kind : Int) (next : List Pl) (taken : List Int) : ∀ k, (offK kind next taken k).length ≤ 5
  | 0 => by simp [offK]
  | k + 1 => by
    have ih := offK_len kind next taken k
    unfold offK
    split
    · rename_i h; rw [List.length_append, List.length_singleton]; omega
    exact ih
theorem offK_step {kind : Int} {next : List Pl} {taken : List Int} {k : Nat} (hk : k < next.length) : offK kind next taken (k + 1) = if (offK kind next taken k).length < 5 ∧ next[k].kind = kind ∧ (k : Int) ∉ taken then offK kind next taken k ++ [(k : Int)] else offK kind next taken k := by
  conv => lhs; unfold offK
  rw [List.getD_eq_getElem?_getD, List.getElem?_eq_getElem hk]; rfl
theorem offK_mem {kind : Int} {next : List Pl} {taken : List Int} : ∀ (k : Nat), k ≤ next.length → ∀ x ∈ offK kind next taken k, ∃ i : Nat, ∃ h : i < next.length, x = i ∧ i < k ∧ next[i].kind = kind ∧ (i : Int) ∉ taken
  | 0, _, x, h => by cases h
  | k + 1, hk, x, h => by
    rw [offK_step (by omega)] at h
    split at h
    · rename_i h2
      rcases List.mem_append.1 h with h | h
      · obtain ⟨i, hi, e, h3, h4⟩ := offK_mem k (by omega) x h
        exact ⟨i, hi, e, by omega, h4⟩
      exact ⟨k, by omega, by simpa using h, by omega, h2.2⟩
    obtain ⟨i, hi, e, h3, h4⟩ := offK_mem k (by omega) x h
    exact ⟨i, hi, e, by omega, h4⟩
theorem offK_congr {kind : Int} {next : List Pl} {t1 t2 : List Int} (h : ∀ k : Nat, k < next.length → ((k : Int) ∈ t1 ↔ (k : Int) ∈ t2)) : ∀ k, k ≤ next.length → offK kind next t1 k = offK kind next t2 k
  | 0, _ => rfl
  | k + 1, hk => by
    have ih := offK_congr (kind := kind) h k (by omega)
    rw [offK_step (by omega), offK_step (by omega), ih]
    simp only [h k (by omega)]
theorem Ow.all {o : Ow} (h : o.ok) : o.enc.all (·.oneCell') = true := by
  obtain ⟨h1, h2, h3, h4, h5, h6⟩ := h
  simp only [Ow.enc, List.all_cons, List.all_nil, h1, h2, h3, h4, h5, h6, Bool.and_true, Bool.true_and]
  rfl
theorem plOK_snoc {n : Nat} {l : List Ow} {o : Ow} : PlOK n (l ++ [o]) ↔ PlOK n l ∧ o.place < n ∧ ∀ q ∈ l, q.place ≠ o.place := by
  constructor
  · intro h
    refine ⟨fun j hj => ?_, ?_, fun q hq => ?_⟩
    · have := h j (by simp; omega)
      rw [List.getElem_append_left hj] at this
      refine ⟨this.1, fun q hq => ?_⟩
      have h2 := this.2 q hq
      rwa [List.getElem_append_left (by omega)] at h2
    · have := (h l.length (by simp)).1
      simpa using this
    obtain ⟨i, hi, rfl⟩ := List.getElem_of_mem hq
    have := (h l.length (by simp)).2 i hi
    rw [List.getElem_append_left hi] at this
    simpa using this
  rintro ⟨h1, h2, h3⟩ j hj
  by_cases e : j < l.length
  · rw [List.getElem_append_left e]
    refine ⟨(h1 j e).1, fun q hq => ?_⟩
    rw [List.getElem_append_left (by omega)]
    exact (h1 j e).2 q hq
  obtain rfl : j = l.length := by simp at hj; omega
  simp only [List.getElem_append_right (Nat.le_refl _), Nat.sub_self, List.getElem_cons_zero]
  refine ⟨h2, fun q hq => ?_⟩
  rw [List.getElem_append_left hq]
  exact h3 _ (List.getElem_mem hq)
structure PrepI (old : List Pl) (ts : List Ow) (k : Nat) (e : Int) (s : List Int) (xs : List Pl) : Prop where
  e01 : e = 0 ∨ e = 1
  ok : e = 0 → PlOK old.length (ZAH (ts.take k)) ∧ xs = oldL old (ZAH (ts.take k)) ∧ ∀ p : Int, p ∈ s ↔ ∃ o ∈ ZAH (ts.take k), o.place = p
  bad : e = 1 → ¬ PlOK old.length (ZAH (ts.take k))
  len : xs.length ≤ k
theorem prep_start (old : List Pl) (ts : List Ow) : PrepI old ts 0 0 [] [] :=
  ⟨.inl rfl, fun _ => ⟨fun j hj => by simp [ZAH] at hj, by simp [ZAH, oldL], fun p => by simp [ZAH]⟩, fun h => (by cases h), Nat.le_refl _⟩
theorem prep_skip {old : List Pl} {ts : List Ow} {k : Nat} {e : Int} {s : List Int} {xs : List Pl} (h : PrepI old ts k e s xs) (hk : k < ts.length) (hm : movedB ts[k] ≠ true) : PrepI old ts (k + 1) e s xs := by
  have e1 := moved_step hk
  rw [if_neg hm, List.append_nil] at e1
  exact ⟨h.e01, fun he => by rw [e1]; exact h.ok he, fun he => by rw [e1]; exact h.bad he, Nat.le_succ_of_le h.len⟩
theorem prep_bad {old : List Pl} {ts : List Ow} {k : Nat} {e : Int} {s : List Int} {xs : List Pl} (h : PrepI old ts k e s xs) (hk : k < ts.length) (hm : movedB ts[k] = true) (hb : ts[k].place ≥ old.length ∨ ts[k].place ∈ s) : PrepI old ts (k + 1) 1 s xs := by
  have e1 := moved_step hk
  rw [if_pos hm] at e1
  refine ⟨.inr rfl, fun he => (by cases he), fun _ => ?_, Nat.le_succ_of_le h.len⟩
  rw [e1, plOK_snoc]
  rintro ⟨h1, h2, h3⟩
  rcases h.e01 with he | he
  · rcases hb with hb | hb
    · omega
    obtain ⟨o, ho, hp⟩ := ((h.ok he).2.2 _).1 hb
    exact h3 o ho hp
  exact h.bad he h1
theorem prep_good {old : List Pl} {ts : List Ow} {k : Nat} {e : Int} {s : List Int} {xs : List Pl} (h : PrepI old ts k e s xs) (hk : k < ts.length) (hm : movedB ts[k] = true) {p : Nat} (hp : ts[k].place = p) (hpl : p < old.length) (hn : (p : Int) ∉ s) : PrepI old ts (k + 1) e ((p : Int) :: s) (xs ++ [old[p]]) := by
  have e1 := moved_step hk
  rw [if_pos hm] at e1
  refine ⟨h.e01, fun he => ?_, fun he => ?_, by simp; exact h.len⟩
  · obtain ⟨h1, h2, h3⟩ := h.ok he
    rw [e1]
    refine ⟨plOK_snoc.2 ⟨h1, by omega, fun q hq e2 => hn ((h3 _).2 ⟨q, hq, by rw [e2, hp]⟩)⟩, ?_, fun x => ?_⟩
    · rw [h2]
      simp [oldL, hp, List.getD_eq_getElem?_getD, List.getElem?_eq_getElem hpl]
    simp only [List.mem_cons, List.mem_append, List.not_mem_nil, or_false, h3]
    constructor
    · rintro (rfl | ⟨o, ho, e2⟩)
      · exact ⟨_, .inr rfl, hp⟩
      exact ⟨o, .inl ho, e2⟩
    rintro ⟨o, ho | rfl, e2⟩
    · exact .inr ⟨o, ho, e2⟩
    left; rw [← e2, hp]
  rw [e1, plOK_snoc]
  exact fun h1 => h.bad he h1.1
theorem moved_le (ts : List Ow) (k : Nat) : (ZAH (ts.take k)).length ≤ k := by
  unfold ZAH
  have := List.length_filter_le movedB (ts.take k)
  rw [List.length_take] at this; omega
theorem errW_3 {n1 n2 : Nat} {l : List Ow} (h : n1 > 4000 ∨ n2 > 4000 ∨ l.length > 4000) : errW n1 n2 l = 3 := by unfold errW; rw [if_pos h]
theorem errW_0 {n1 n2 : Nat} {l : List Ow} (h : ¬ (n1 > 4000 ∨ n2 > 4000 ∨ l.length > 4000)) (hp : PlOK n1 l) : errW n1 n2 l = 0 := by unfold errW; rw [if_neg h, plOK_yes hp]; rfl
theorem errW_1 {n1 n2 : Nat} {l : List Ow} (h : ¬ (n1 > 4000 ∨ n2 > 4000 ∨ l.length > 4000)) (hp : ¬ PlOK n1 l) : errW n1 n2 l = 1 := by unfold errW; rw [if_neg h, plOK_no hp]; rfl
theorem errW_ok {n1 n2 : Nat} {l : List Ow} (h : errW n1 n2 l = 0) : n1 ≤ 4000 ∧ n2 ≤ 4000 ∧ l.length ≤ 4000 ∧ PlOK n1 l := by
  unfold errW at h
  split at h
  · cases h
  split at h
  · rename_i h1 h2; exact ⟨by omega, by omega, by omega, plOK_iff.1 h2⟩
  cases h
structure Mv where
  serial : Int
  to_ : Int
  row : Go.Value × List Int
def Mv.enc (m : Mv) : List Go.Value := [.int .i64 m.serial, .int .i64 m.to_, m.row.1]
def ZA9 (ms : List Mv) : List (Go.Value × List Int) := ms.map Mv.row
def Mv.say (m : Mv) : Int × Int × List Int := (m.serial, m.to_, m.row.2)
def movesK (ts : List Ow) (olds next : List Pl) (place : List Int) (k : Nat) : List (Int × Int × List Int) :=
  (List.range k).map (fun i => ((ts.getD i ⟨0, 0, 0, .int .i64 0, .int .i64 0, .int .i64 0, .int .i64 0, 0, .int .i64 0, 0, .int .i64 0⟩).serial, atI place i, if atI place i < 0 then offL (olds.getD i pl0).kind next place else []))
theorem movesK_succ {ts : List Ow} {olds next : List Pl} {place : List Int} {k : Nat} (h : k < ts.length) (h2 : k < olds.length) : movesK ts olds next place (k + 1) = movesK ts olds next place k ++ [(ts[k].serial, atI place k, if atI place k < 0 then offL olds[k].kind next place else [])] := by
  unfold movesK
  rw [List.range_succ, List.map_append]
  simp [List.getD_eq_getElem?_getD, List.getElem?_eq_getElem h, List.getElem?_eq_getElem h2]
theorem movesK_len (ts : List Ow) (olds next : List Pl) (place : List Int) (k : Nat) : (movesK ts olds next place k).length = k := by simp [movesK]
def movesL (ts : List Ow) (olds next : List Pl) (place : List Int) : List (Int × Int × List Int) := movesK ts olds next place ts.length
theorem oldL_at {old : List Pl} {l : List Ow} {k x : Nat} (hk : k < l.length) (hx : l[k].place = x) (hn : x < old.length) (h : k < (oldL old l).length) : (oldL old l)[k] = old[x] := by
  simp [oldL, hx, List.getD_eq_getElem?_getD, List.getElem?_eq_getElem hn]
abbrev Say := Int × Int × List Int
def tosS (sy : List Say) : List Int := sy.map (·.2.1)
structure ChkP (l : List Ow) (olds next : List Pl) (sy : List Say) (left right : List Int) : Prop where
  len : sy.length = l.length
  ser : ∀ i (h : i < sy.length) (h2 : i < l.length), sy[i].1 = l[i].serial
  off : ∀ i (h : i < sy.length) (h2 : i < olds.length), sy[i].2.2 = if sy[i].2.1 < 0 then offL olds[i].kind next (tosS sy) else []
  cov : checkL (ZAy olds next) next.length (tosS sy) left right = true
noncomputable def chkB (l : List Ow) (olds next : List Pl) (sy : List Say) (left right : List Int) : Bool := @decide (ChkP l olds next sy left right) (Classical.propDecidable _)
theorem chk_yes {l : List Ow} {olds next : List Pl} {sy : List Say} {left right : List Int} (h : ChkP l olds next sy left right) : chkB l olds next sy left right = true := @decide_eq_true _ (Classical.propDecidable _) h
theorem chk_no {l : List Ow} {olds next : List Pl} {sy : List Say} {left right : List Int} (h : ¬ ChkP l olds next sy left right) : chkB l olds next sy left right = false := @decide_eq_false _ (Classical.propDecidable _) h
theorem chk_iff {l : List Ow} {olds next : List Pl} {sy : List Say} {left right : List Int} : chkB l olds next sy left right = true ↔ ChkP l olds next sy left right := ⟨fun h => @of_decide_eq_true _ (Classical.propDecidable _) h, chk_yes⟩
theorem chk_last {l : List Ow} {olds next : List Pl} {sy : List Say} {left right : List Int} (h1 : sy.length = l.length) (h2 : ∀ i (h : i < sy.length) (h2 : i < l.length), sy[i].1 = l[i].serial) (h3 : ∀ i (h : i < sy.length) (h2 : i < olds.length), sy[i].2.2 = if sy[i].2.1 < 0 then offL olds[i].kind next (tosS sy) else []) :
    checkL (ZAy olds next) next.length (tosS sy) left right = chkB l olds next sy left right := by
  rw [Bool.eq_iff_iff, chk_iff]
  exact ⟨fun h => ⟨h1, h2, h3, h⟩, fun h => h.cov⟩
theorem chk_bad {l : List Ow} {olds next : List Pl} {sy : List Say} {left right : List Int} {k : Nat} (hk : k < sy.length) (h : ¬ goodAt (ZAy olds next) (tosS sy) k) : chkB l olds next sy left right = false :=
  chk_no (fun hc => h (isM_good (check_parts hc.cov).2.2.2.2.1 k (by simpa [tosS] using hk)))
def posK (tos : List Int) : Nat → List Int
  | 0 => []
  | k + 1 => if 0 ≤ atI tos k then atI tos k :: posK tos k else posK tos k
theorem mem_posK {tos : List Int} {x : Int} : ∀ {k : Nat}, x ∈ posK tos k ↔ 0 ≤ x ∧ ∃ j, j < k ∧ atI tos j = x
  | 0 => ⟨fun h => (by cases h), fun ⟨_, j, h, _⟩ => by omega⟩
  | k + 1 => by
    have ih := mem_posK (tos := tos) (x := x) (k := k)
    unfold posK
    split
    · rename_i h0
      rw [List.mem_cons, ih]
      constructor
      · rintro (rfl | ⟨h1, j, hj, e⟩)
        · exact ⟨h0, k, by omega, rfl⟩
        exact ⟨h1, j, by omega, e⟩
      rintro ⟨h1, j, hj, e⟩
      by_cases hjk : j = k
      · subst hjk; exact .inl e.symm
      exact .inr ⟨h1, j, by omega, e⟩
    rename_i h0
    rw [ih]
    constructor
    · rintro ⟨h1, j, hj, e⟩; exact ⟨h1, j, by omega, e⟩
    rintro ⟨h1, j, hj, e⟩
    by_cases hjk : j = k
    · subst hjk; omega
    exact ⟨h1, j, by omega, e⟩
theorem posK_all {tos : List Int} {k : Nat} : (k : Int) ∈ posK tos tos.length ↔ (k : Int) ∈ tos := by
  rw [mem_posK]
  constructor
  · rintro ⟨_, j, hj, e⟩; rw [← e, atI_eq hj]; exact List.getElem_mem _
  intro h
  obtain ⟨j, hj, e⟩ := List.getElem_of_mem h
  exact ⟨by omega, j, hj, by rw [atI_eq hj]; exact e⟩
theorem say_get {ms : List Mv} {k : Nat} (h : k < ms.length) (h2 : k < (ms.map Mv.say).length) : (ms.map Mv.say)[k] = (ms[k].serial, ms[k].to_, ms[k].row.2) := by simp [Mv.say]
theorem tos_eq (ms : List Mv) : tosS (ms.map Mv.say) = ms.map Mv.to_ := by simp [tosS, Mv.say]
theorem tos_at {ms : List Mv} {k : Nat} (h : k < ms.length) : atI (tosS (ms.map Mv.say)) k = ms[k].to_ := by rw [tos_eq, atI_eq (by simpa using h)]; simp
theorem tos_len (ms : List Mv) : (tosS (ms.map Mv.say)).length = ms.length := by simp [tosS]
theorem tos_take {ms : List Mv} {k : Nat} (h : k < ms.length) : (tosS (ms.map Mv.say)).take (k + 1) = (tosS (ms.map Mv.say)).take k ++ [ms[k].to_] := by
  rw [List.take_succ_eq_append_getElem (by rw [tos_len]; exact h)]
  have := tos_at h
  rw [atI_eq (by rw [tos_len]; exact h)] at this
  rw [this]
theorem rows_mem {ms : List Mv} {k : Nat} (h : k < ms.length) : ms[k].row ∈ ZA9 ms := List.mem_map.2 ⟨_, List.getElem_mem h, rfl⟩
theorem pairP_own {olds next : List Pl} (h1 : olds.length ≤ 4000) (h2 : next.length ≤ 4000) : FromInv (ZAy olds next) next.length olds.length (ZBu olds next) := (pairK_inv h1 h2 olds.length (Nat.le_refl _)).1
theorem rsP_done {olds next : List Pl} (h1 : olds.length ≤ 4000) (h2 : next.length ≤ 4000) : RDone (ZAy olds next) (ZBu olds next).1 (ZBu olds next).2 (rsP olds next) := by
  have h := pairP_own h1 h2
  have := reach2All_done (edges_valid h1 h2) (fun n => (h.wf.own n).2) (got := (ZBu olds next).2)
  rw [ZBO] at this
  exact this
def cntG (got : List Int) : Nat → Nat
  | 0 => 0
  | k + 1 => if 0 ≤ atI got k then cntG got k + 1 else cntG got k
theorem cntG_le (got : List Int) : ∀ k, cntG got k ≤ k
  | 0 => Nat.le_refl _
  | k + 1 => by have := cntG_le got k; unfold cntG; split <;> omega
theorem cntG_cntM {got : List Int} : ∀ {k : Nat}, (∀ j, j < k → -1 ≤ atI got j) → cntG got k = cntM got k
  | 0, _ => rfl
  | k + 1, h => by
    have ih := cntG_cntM (got := got) (k := k) (fun j hj => h j (by omega))
    have hk := h k (by omega)
    rw [cntM_succ, ← ih]
    conv => lhs; unfold cntG
    by_cases e : 0 ≤ atI got k
    · rw [if_pos e, if_neg (by omega)]
    rw [if_neg e, if_pos (by omega)]; rfl
theorem sizeN_cntG {got : List Int} (h : ∀ j, j < got.length → -1 ≤ atI got j) : sizeN got = cntG got got.length := (cntG_cntM h).symm
instance (priority := 2000) HasSl.mv (l : List Atom) (e : Go.TypeId) (ms : List Mv) (i : Nat) (h : i < ms.length) : HasSl (ZBh e 1 encI (ZA9 ms) :: l) (ms[i]'h).row.1 1 Int encI (ms[i]'h).row.2 :=
  ⟨fun w hw => by
    have h2 : i < (ZA9 ms).length := by simp [ZA9, h]
    have h3 := (HasSl.row l e 1 Int encI (ZA9 ms) i h2).at_ w hw
    have e1 : (ZA9 ms)[i] = ms[i].row := by simp [ZA9]
    rw [e1] at h3; exact h3⟩
instance (priority := 2000) HasSl.mvS (l : List Atom) (ms : List Mv) (i : Nat) (h : i < ms.length) : HasSl (ZBC 1 encI (ZA9 ms) :: l) (ms[i]'h).row.1 1 Int encI (ms[i]'h).row.2 :=
  ⟨fun w hw => by
    have h2 : i < (ZA9 ms).length := by simp [ZA9, h]
    have h3 := (HasSl.rowS l 1 Int encI (ZA9 ms) i h2).at_ w hw
    have e1 : (ZA9 ms)[i] = ms[i].row := by simp [ZA9]
    rw [e1] at h3; exact h3⟩
noncomputable def errP (old next : List Pl) (ts : List Ow) : Int := errW old.length next.length (ZAH ts)
noncomputable def sayP (old next : List Pl) (ts : List Ow) : List Say := if errP old next ts = 0 then movesL (ZAH ts) (oldL old (ZAH ts)) next (plL (oldL old (ZAH ts)) next) else []
noncomputable def clP (old next : List Pl) (ts : List Ow) : List Int := if errP old next ts = 0 then clL (oldL old (ZAH ts)) next else []
noncomputable def crP (old next : List Pl) (ts : List Ow) : List Int := if errP old next ts = 0 then crL (oldL old (ZAH ts)) next else []
noncomputable def chkW (old next : List Pl) (ts : List Ow) (sy : List Say) (left right : List Int) : Bool := if errP old next ts = 0 then chkB (ZAH ts) (oldL old (ZAH ts)) next sy left right else false
theorem tos_moves {ts : List Ow} {olds next : List Pl} {place : List Int} (h : place.length = ts.length) : tosS (movesL ts olds next place) = place := by
  unfold movesL tosS movesK
  rw [List.map_map]
  apply List.ext_getElem
  · simp [h]
  intro i h1 h2
  simp only [List.getElem_map, List.getElem_range, Function.comp_apply]
  exact atI_eq h2
structure PlanP (old next : List Pl) (ts : List Ow) : Prop where
  n1 : old.length ≤ 4000
  n2 : next.length ≤ 4000
  n3 : (ZAH ts).length ≤ 4000
  ok : PlOK old.length (ZAH ts)
theorem planP {old next : List Pl} {ts : List Ow} (h : errP old next ts = 0) : PlanP old next ts := by
  have := errW_ok h
  exact ⟨this.1, this.2.1, this.2.2.1, this.2.2.2⟩
theorem plL_len {olds next : List Pl} (h1 : olds.length ≤ 4000) (h2 : next.length ≤ 4000) : (plL olds next).length = olds.length := by
  have := (pairP_own h1 h2).wf.lg; rw [ZBO] at this; exact this
theorem plan_cov {olds next : List Pl} (h1 : olds.length ≤ 4000) (h2 : next.length ≤ 4000) : checkL (ZAy olds next) next.length (plL olds next) (clL olds next) (crL olds next) = true := by
  have h := pairP_own h1 h2
  have hs := cover_sets (rsP_done h1 h2) next.length
  rw [← ZBO olds next] at h
  refine cover_law (edges_valid h1 h2) h ?_ hs.2
  have := hs.1
  unfold clL
  rw [← ZBO olds next]; exact this
theorem plan_chk {old next : List Pl} {ts : List Ow} (h : errP old next ts = 0) : ChkP (ZAH ts) (oldL old (ZAH ts)) next (sayP old next ts) (clP old next ts) (crP old next ts) := by
  have hp := planP h
  have ho := old_len old (ZAH ts)
  have hl := plL_len (olds := oldL old (ZAH ts)) (next := next) (by have := hp.n3; omega) hp.n2
  have ht : tosS (sayP old next ts) = plL (oldL old (ZAH ts)) next := by
    unfold sayP; rw [if_pos h]; exact tos_moves (by omega)
  refine ⟨?_, fun i h1 h2 => ?_, fun i h1 h2 => ?_, ?_⟩
  · unfold sayP; rw [if_pos h]; exact movesK_len ..
  · unfold sayP at h1 ⊢
    simp only [if_pos h] at h1 ⊢
    simp only [movesL, movesK, List.getElem_map, List.getElem_range]
    rw [List.getD_eq_getElem?_getD, List.getElem?_eq_getElem h2]; rfl
  · rw [ht]
    unfold sayP at h1 ⊢
    simp only [if_pos h] at h1 ⊢
    simp only [movesL, movesK, List.getElem_map, List.getElem_range]
    rw [List.getD_eq_getElem?_getD, List.getElem?_eq_getElem h2]; rfl
  rw [ht]
  unfold clP crP
  rw [if_pos h, if_pos h]
  exact plan_cov (by have := hp.n3; omega) hp.n2
theorem mv3 {ms : List Mv} {x y z : Say} (h : ms.map Mv.say = [x, y, z]) : ∃ p q r, ms = [p, q, r] ∧ p.say = x ∧ q.say = y ∧ r.say = z := by
  match ms, h with
  | [p, q, r], h =>
    simp only [List.map_cons, List.map_nil, List.cons.injEq, and_true] at h
    exact ⟨p, q, r, rfl, h.1, h.2.1, h.2.2⟩
theorem clP_len (old next : List Pl) (ts : List Ow) (h : ts.length ≤ 100000) : (clP old next ts).length ≤ 100000 := by
  unfold clP
  split
  · have h1 := coverLeft_len (ZAy (oldL old (ZAH ts)) next) (rsP (oldL old (ZAH ts)) next) (oldL old (ZAH ts)).length
    have h2 := old_len old (ZAH ts)
    have h3 : (ZAH ts).length ≤ ts.length := by unfold ZAH; exact List.length_filter_le _ _
    unfold clL; omega
  simp
theorem crP_len (old next : List Pl) (ts : List Ow) (h : next.length ≤ 100000) : (crP old next ts).length ≤ 100000 := by
  unfold crP
  split
  · have h1 := coverRight_len (rsP (oldL old (ZAH ts)) next) next.length
    unfold crL; omega
  simp
section
theorem fits_mem (p : Pl) : ∀ (l : List Pl) (k n : Nat), (n : Int) ∈ fits p l k → ∃ h : n - k < l.length, k ≤ n ∧ ZBQ l[n - k] p = true
  | [], _, n, h => by cases h
  | q :: r, k, n, h => by
    have ih := fits_mem p r (k + 1) n
    unfold fits at h
    have go : (n : Int) ∈ fits p r (k + 1) → ∃ h : n - k < (q :: r).length, k ≤ n ∧ ZBQ (q :: r)[n - k] p = true := fun h => by
      obtain ⟨h1, h2, h3⟩ := ih h
      have e : n - k = (n - (k + 1)) + 1 := by omega
      refine ⟨by simp; omega, by omega, ?_⟩
      simp only [e, List.getElem_cons_succ]; exact h3
    split at h
    · rename_i hq
      rcases List.mem_cons.1 h with h | h
      · obtain rfl : n = k := by omega
        exact ⟨by simp, Nat.le_refl _, by simpa using hq⟩
      exact go h
    exact go h
structure PlanM (old next : List Pl) (ts : List Ow) (ms : List Mv) : Prop where
  err : errP old next ts = 0
  say : ms.map Mv.say = sayP old next ts
  len : ms.length = (ZAH ts).length
  tos : tosS (ms.map Mv.say) = plL (oldL old (ZAH ts)) next
theorem planM {old next : List Pl} {ts : List Ow} {ms : List Mv} (herr : errP old next ts = 0) (hm : ms.map Mv.say = sayP old next ts) : PlanM old next ts ms := by
  have hp := planP herr
  have ho := old_len old (ZAH ts)
  have h1 : sayP old next ts = movesL (ZAH ts) (oldL old (ZAH ts)) next (plL (oldL old (ZAH ts)) next) := by unfold sayP; rw [if_pos herr]
  refine ⟨herr, hm, ?_, ?_⟩
  · have := congrArg List.length hm
    rw [List.length_map, h1] at this
    rw [this]; exact movesK_len ..
  rw [hm, h1]
  have := hp.n3
  have := hp.n2
  exact tos_moves (by rw [plL_len (by omega) (by omega)]; exact ho)
section
variable {old next : List Pl} {ts : List Ow} {ms : List Mv}
theorem PlanM.small (h : PlanM old next ts ms) : (oldL old (ZAH ts)).length ≤ 4000 := by rw [old_len]; exact (planP h.err).n3
theorem PlanM.to_at (h : PlanM old next ts ms) {i : Nat} (hi : i < ms.length) : ms[i].to_ = atI (plL (oldL old (ZAH ts)) next) i := by rw [← h.tos]; exact (tos_at hi).symm
theorem PlanM.low (h : PlanM old next ts ms) {i : Nat} (hi : i < ms.length) : -1 ≤ ms[i].to_ := by
  rw [h.to_at hi]; exact (pairP_own h.small (planP h.err).n2).low i
theorem PlanM.mem (h : PlanM old next ts ms) {i : Nat} (hi : i < ms.length) (h0 : 0 ≤ ms[i].to_) : ms[i].to_ ∈ rowG (ZAy (oldL old (ZAH ts)) next) i := by
  rw [h.to_at hi] at h0 ⊢
  exact ((pairP_own h.small (planP h.err).n2).conv.got i h0).1
theorem PlanM.hi (h : PlanM old next ts ms) {i : Nat} (hi : i < ms.length) : ms[i].to_ < next.length := by
  by_cases h0 : 0 ≤ ms[i].to_
  · exact ((ZBG (edges_valid h.small (planP h.err).n2)).2.2.2 i _ (h.mem hi h0)).2
  omega
theorem PlanM.inj (h : PlanM old next ts ms) {i j : Nat} (hi : i < ms.length) (hj : j < ms.length) (h0 : 0 ≤ ms[i].to_) (e : ms[i].to_ = ms[j].to_) : i = j := by
  have h1 := (pairP_own h.small (planP h.err).n2).conv.got i (by rw [h.to_at hi] at h0; exact h0)
  have h2 := (pairP_own h.small (planP h.err).n2).conv.got j (by rw [e, h.to_at hj] at h0; exact h0)
  have e2 : atI (plL (oldL old (ZAH ts)) next) i = atI (plL (oldL old (ZAH ts)) next) j := by rw [← h.to_at hi, ← h.to_at hj]; exact e
  have h3 : atI (ZBu (oldL old (ZAH ts)) next).1 (atI (plL (oldL old (ZAH ts)) next) i).toNat = i := h1.2
  have h4 : atI (ZBu (oldL old (ZAH ts)) next).1 (atI (plL (oldL old (ZAH ts)) next) j).toNat = j := h2.2
  rw [e2, h4] at h3
  omega
theorem PlanM.serial (h : PlanM old next ts ms) {i : Nat} (hi : i < ms.length) (h2 : i < (ZAH ts).length) : ms[i].serial = (ZAH ts)[i].serial := by
  have hc := plan_chk h.err
  rw [← h.say] at hc
  have := hc.ser i (by simpa using hi) h2
  rw [say_get hi (by simpa using hi)] at this
  exact this
theorem PlanM.offers (h : PlanM old next ts ms) {i : Nat} (hi : i < ms.length) (h2 : i < (oldL old (ZAH ts)).length) : ms[i].row.2 = if ms[i].to_ < 0 then offL (oldL old (ZAH ts))[i].kind next (plL (oldL old (ZAH ts)) next) else [] := by
  have hc := plan_chk h.err
  rw [← h.say] at hc
  have := hc.off i (by simpa using hi) h2
  rw [say_get hi (by simpa using hi), h.tos] at this
  exact this
theorem PlanM.good (h : PlanM old next ts ms) {i m x : Nat} (hi : i < ms.length) (hm : ms[i].to_ = m) (h2 : i < (ZAH ts).length) (hx : (ZAH ts)[i].place = x) (hxn : x < old.length) (hmn : m < next.length) : ZBQ next[m] old[x] = true := by
  have h1 := h.mem hi (by omega)
  have ho : i < (oldL old (ZAH ts)).length := by rw [old_len]; exact h2
  rw [hm, edges_rowG ho, oldL_at h2 hx hxn ho] at h1
  obtain ⟨h3, h4, h5⟩ := fits_mem _ _ _ _ h1
  exact h5
end
theorem best {es : Gr} {r : Int} {got left cover got2 : List Int} (h : checkL es r got left cover = true) (hm : IsM es got2) : sizeN got2 ≤ sizeN got := by
  have hp := check_parts h
  have := weak hm hp.2.2.2.1
  omega
theorem PlanM.cov {old next : List Pl} {ts : List Ow} {ms : List Mv} (h : PlanM old next ts ms) : checkL (ZAy (oldL old (ZAH ts)) next) next.length (plL (oldL old (ZAH ts)) next) (clL (oldL old (ZAH ts)) next) (crL (oldL old (ZAH ts)) next) = true := plan_cov h.small (planP h.err).n2
theorem PlanM.size {old next : List Pl} {ts : List Ow} {ms : List Mv} (h : PlanM old next ts ms) : cntG (tosS (ms.map Mv.say)) ms.length = sizeN (plL (oldL old (ZAH ts)) next) := by
  rw [sizeN_cntG (fun j hj => by
    have hl := congrArg List.length h.tos
    rw [tos_len] at hl
    have := h.low (i := j) (by omega)
    rwa [h.to_at (by omega)] at this)]
  have hl := congrArg List.length h.tos
  rw [tos_len] at hl
  rw [h.tos, ← hl]
end
end
end Go.Proofs.YtjdlllacomgaoaaGreatDoor
namespace Go.Proofs.YtjdlllacomgaoaaGreatDoor
section
open Go Go.Gw _root_.Go.Proofs.Tryz
section
structure PtV where
  x : Int
  y : Int
deriving DecidableEq
structure BoxV where
  x : Int
  y : Int
  x2 : Int
  y2 : Int
deriving DecidableEq
structure MarkV where
  kind : Int
  seat : Int
  with_ : Int
deriving DecidableEq
structure RowV where
  name : ByteArray
  x : Int
  y : Int
  from_ : Int
  to_ : Int
  step : Int
  mv : Value
  marks : List MarkV
  at_ : Int
structure BlockV where
  name : ByteArray
  rv : Value
  rows : List RowV
  at_ : Int
structure AreaV where
  name : ByteArray
  box : BoxV
  holds : Int
  at_ : Int
structure LevV where
  name : ByteArray
  height : Int
  bv : Value
  blocks : List BlockV
  av : Value
  areas : List AreaV
  iv : Value
  aisles : List BoxV
  pv : Value
  pillars : List BoxV
  dv : Value
  doors : List PtV
  at_ : Int
structure HallV where
  name : ByteArray
  stage : PtV
  lv : Value
  levels : List LevV
def PtV.enc (p : PtV) : List Value := [.int .i64 p.x, .int .i64 p.y]
def BoxV.enc (b : BoxV) : List Value := [.int .i64 b.x, .int .i64 b.y, .int .i64 b.x2, .int .i64 b.y2]
def MarkV.enc (m : MarkV) : List Value := [.int .i64 m.kind, .int .i64 m.seat, .int .i64 m.with_]
def RowV.enc (r : RowV) : List Value := [.string r.name, .int .i64 r.x, .int .i64 r.y, .int .i64 r.from_, .int .i64 r.to_, .int .i64 r.step, r.mv, .int .i64 r.at_]
def BlockV.enc (b : BlockV) : List Value := [.string b.name, b.rv, .int .i64 b.at_]
def AreaV.enc (a : AreaV) : List Value := [.string a.name, .int .i64 a.box.x, .int .i64 a.box.y, .int .i64 a.box.x2, .int .i64 a.box.y2, .int .i64 a.holds, .int .i64 a.at_]
def LevV.enc (l : LevV) : List Value := [.string l.name, .int .i64 l.height, l.bv, l.av, l.iv, l.pv, l.dv, .int .i64 l.at_]
def HallV.enc (h : HallV) : List Value := [.string h.name, .int .i64 h.stage.x, .int .i64 h.stage.y, h.lv]
def RoAll (ls : List Atom) : Atom where
  own := false
  fp := fun b => ∃ x ∈ ls, x.fp b
  ok := fun w => ∀ x ∈ ls, x.ok w
  loc := fun w w' h hok x hx => x.loc w w' (fun b hb => h b ⟨x, hx, hb⟩) (hok x hx)
  lt := fun w b hok ⟨x, hx, hb⟩ => x.lt w b (hok x hx) hb
def rowA (r : RowV) : List Atom := [Sl r.mv 3 MarkV.enc r.marks]
def blockA (b : BlockV) : List Atom := Sl b.rv 8 RowV.enc b.rows :: b.rows.flatMap rowA
def levA (l : LevV) : List Atom := Sl l.bv 3 BlockV.enc l.blocks :: Sl l.av 7 AreaV.enc l.areas :: Sl l.iv 4 BoxV.enc l.aisles :: Sl l.pv 4 BoxV.enc l.pillars :: Sl l.dv 2 PtV.enc l.doors :: CapA l.av :: l.blocks.flatMap blockA
def ZBI (h : HallV) : List Atom := Sl h.lv 8 LevV.enc h.levels :: h.levels.flatMap levA
abbrev ZAU (h : HallV) : Atom := RoAll (ZBI h)
abbrev LevA (l : LevV) : Atom := RoAll (levA l)
abbrev BlockA (b : BlockV) : Atom := RoAll (blockA b)
section
variable {w : World}
theorem ZBE {h : HallV} (H : (ZAU h).ok w) : IsSl w h.lv 8 LevV.enc h.levels := H (Sl h.lv 8 LevV.enc h.levels) (List.mem_cons_self ..)
theorem hall_lev {h : HallV} (H : (ZAU h).ok w) {l : LevV} (hl : l ∈ h.levels) : (LevA l).ok w := fun x hx => H x (List.mem_cons_of_mem _ (List.mem_flatMap.2 ⟨l, hl, hx⟩))
theorem lev_blocks {l : LevV} (H : (LevA l).ok w) : IsSl w l.bv 3 BlockV.enc l.blocks := H (Sl l.bv 3 BlockV.enc l.blocks) (by simp [levA])
theorem lev_areas {l : LevV} (H : (LevA l).ok w) : IsSl w l.av 7 AreaV.enc l.areas := H (Sl l.av 7 AreaV.enc l.areas) (by simp [levA])
theorem lev_aisles {l : LevV} (H : (LevA l).ok w) : IsSl w l.iv 4 BoxV.enc l.aisles := H (Sl l.iv 4 BoxV.enc l.aisles) (by simp [levA])
theorem lev_pillars {l : LevV} (H : (LevA l).ok w) : IsSl w l.pv 4 BoxV.enc l.pillars := H (Sl l.pv 4 BoxV.enc l.pillars) (by simp [levA])
theorem lev_doors {l : LevV} (H : (LevA l).ok w) : IsSl w l.dv 2 PtV.enc l.doors := H (Sl l.dv 2 PtV.enc l.doors) (by simp [levA])
theorem lev_block {l : LevV} (H : (LevA l).ok w) {b : BlockV} (hb : b ∈ l.blocks) : (BlockA b).ok w := fun x hx => H x (by
  unfold levA
  exact List.mem_cons_of_mem _ (List.mem_cons_of_mem _ (List.mem_cons_of_mem _ (List.mem_cons_of_mem _ (List.mem_cons_of_mem _ (List.mem_cons_of_mem _ (List.mem_flatMap.2 ⟨b, hb, hx⟩)))))))
theorem block_rows {b : BlockV} (H : (BlockA b).ok w) : IsSl w b.rv 8 RowV.enc b.rows := H (Sl b.rv 8 RowV.enc b.rows) (List.mem_cons_self ..)
theorem row_marks {b : BlockV} (H : (BlockA b).ok w) {r : RowV} (hr : r ∈ b.rows) : IsSl w r.mv 3 MarkV.enc r.marks := H (Sl r.mv 3 MarkV.enc r.marks) (List.mem_cons_of_mem _ (List.mem_flatMap.2 ⟨r, hr, List.mem_cons_self ..⟩))
end
theorem apart_of {x y : Atom} : ∀ {l : List Atom}, l.Pairwise apart → x ∈ l → y ∈ l → x.own ≠ y.own → apart x y
  | [], _, hx, _, _ => by cases hx
  | z :: l, h, hx, hy, hne => by
    obtain ⟨h1, h2⟩ := List.pairwise_cons.1 h
    rcases List.mem_cons.1 hx with e | hx2
    · rcases List.mem_cons.1 hy with e2 | hy2
      · exact absurd (by rw [e, e2]) hne
      rw [e]; exact h1 _ hy2
    rcases List.mem_cons.1 hy with e2 | hy2
    · rw [e2]; exact (h1 _ hx2).symm
    exact apart_of h2 hx2 hy2 hne
theorem ZBP {M : Nat → Prop} {w0 w : World} {l ls : List Atom} (H : HSat M w0 l w) [h : HasAt l (RoAll ls)] (x : Atom) (hx : x ∈ ls) (ho : x.own = false) : HSat M w0 (x :: l) w :=
  H.ro x ho (H.ok (RoAll ls) h.mem x hx) fun y hy hown b hb hyb =>
    apart_of H.sep hy h.mem (by rw [hown]; simp [RoAll]) (.inl hown) b hyb ⟨x, hx, hb⟩
theorem row_one {w : World} {b : BlockV} (H : (BlockA b).ok w) {r : RowV} (hr : r ∈ b.rows) : r.mv.oneCell' = true := (row_marks H hr).one
theorem row_all {r : RowV} (h : r.mv.oneCell' = true) : r.enc.all (·.oneCell') = true := by unfold RowV.enc; simp only [List.all_cons, List.all_nil, h]; rfl
theorem block_all {w : World} {b : BlockV} (H : (BlockA b).ok w) : b.enc.all (·.oneCell') = true := by unfold BlockV.enc; simp only [List.all_cons, List.all_nil, (block_rows H).one]; rfl
theorem lev_all {w : World} {l : LevV} (H : (LevA l).ok w) : l.enc.all (·.oneCell') = true := by unfold LevV.enc; simp only [List.all_cons, List.all_nil, (lev_blocks H).one, (lev_areas H).one, (lev_aisles H).one, (lev_pillars H).one, (lev_doors H).one]; rfl
theorem mem_levels {h : HallV} : Sl h.lv 8 LevV.enc h.levels ∈ ZBI h := List.mem_cons_self ..
theorem ZAs {h : HallV} {l : LevV} (hl : l ∈ h.levels) {x : Atom} (hx : x ∈ levA l) : x ∈ ZBI h := List.mem_cons_of_mem _ (List.mem_flatMap.2 ⟨l, hl, hx⟩)
theorem ZBl {l : LevV} {b : BlockV} (hb : b ∈ l.blocks) {x : Atom} (hx : x ∈ blockA b) : x ∈ levA l := by
  unfold levA
  exact List.mem_cons_of_mem _ (List.mem_cons_of_mem _ (List.mem_cons_of_mem _ (List.mem_cons_of_mem _ (List.mem_cons_of_mem _ (List.mem_cons_of_mem _ (List.mem_flatMap.2 ⟨b, hb, hx⟩))))))
theorem mem_row {b : BlockV} {r : RowV} (hr : r ∈ b.rows) : Sl r.mv 3 MarkV.enc r.marks ∈ blockA b := List.mem_cons_of_mem _ (List.mem_flatMap.2 ⟨r, hr, List.mem_cons_self ..⟩)
def catO {α : Type} (ps : List (Value × List α)) : List α := ps.flatMap (·.2)
theorem catO_take {α : Type} {ps : List (Value × List α)} {k : Nat} (h : k < ps.length) : catO (ps.take (k + 1)) = catO (ps.take k) ++ ps[k].2 := by
  unfold catO; rw [List.take_succ_eq_append_getElem h, List.flatMap_append]; simp
theorem catO_le {α : Type} (ps : List (Value × List α)) (k : Nat) : (catO (ps.take k)).length ≤ (catO ps).length := by
  conv => rhs; rw [← List.take_append_drop k ps]
  unfold catO; rw [List.flatMap_append, List.length_append]; omega
def blkW (b : BlockV) : Nat := 1 + b.rows.length
def levW (l : LevV) : Nat := 1 + (l.blocks.map blkW).sum + l.areas.length
structure HallB (h : HallV) : Prop where
  levels : h.levels.length ≤ 1048576
  blocks : ∀ l ∈ h.levels, l.blocks.length ≤ 1048576 ∧ l.areas.length ≤ 1048576 ∧ l.aisles.length ≤ 1048576 ∧ l.pillars.length ≤ 1048576 ∧ l.doors.length ≤ 1048576
  rows : ∀ l ∈ h.levels, ∀ b ∈ l.blocks, b.rows.length ≤ 1048576
  marks : ∀ l ∈ h.levels, ∀ b ∈ l.blocks, ∀ r ∈ b.rows, r.marks.length ≤ 1048576
  -- all faults together
  all : (h.levels.map levW).sum ≤ 1048576
  ints : ∀ l ∈ h.levels, ∀ b ∈ l.blocks, ∀ r ∈ b.rows, -9223372036854775808 ≤ r.step ∧ r.step ≤ 9223372036854775807 ∧ -9223372036854775808 ≤ r.x ∧ r.x ≤ 9223372036854775807
def crdB (n : Int) : Bool := !(decide (n < 0) || decide (n > 10000))
def crdL (l : List Int) : Bool := l.all crdB
theorem crdB_iff {n : Int} : crdB n = true ↔ 0 ≤ n ∧ n ≤ 10000 := by simp [crdB]
def boxB (b : BoxV) : Bool := crdL [b.x, b.y, b.x2, b.y2] && decide (b.x ≤ b.x2) && decide (b.y ≤ b.y2)
def ZBg (b : BoxV) (x y : Int) : Bool := decide (b.x ≤ x) && decide (x ≤ b.x2) && decide (b.y ≤ y) && decide (y ≤ b.y2)
def meetB (a b : BoxV) : Bool := decide (max a.x b.x ≤ min a.x2 b.x2) && decide (max a.y b.y ≤ min a.y2 b.y2)
def markR (r : RowV) (s : Int) : MarkV := (r.marks.find? fun m => m.seat == s).getD ⟨0, 0, 0⟩
def ZBt (r : RowV) : Nat → List (Int × Int)
  | 0 => []
  | k + 1 => if (markR r (r.from_ + (k : Int))).kind = 1 then ZBt r k else ZBt r k ++ [(r.from_ + (k : Int), r.x + (k : Int) * r.step)]
def seatsN (r : RowV) : Nat := (r.to_ - r.from_ + 1).toNat
def ZAt (r : RowV) : List (Int × Int) := ZBt r (seatsN r)
theorem seatsP_pre (r : RowV) (k : Nat) : ∀ d, ZBt r k <+: ZBt r (k + d)
  | 0 => List.prefix_refl _
  | d + 1 => by
    refine List.IsPrefix.trans (seatsP_pre r k d) ?_
    show ZBt r (k + d) <+: ZBt r (k + d + 1)
    rw [ZBt]
    split
    · exact List.prefix_refl _
    exact List.prefix_append _ _
theorem seatsR_at {r : RowV} {k : Nat} (hk : k < seatsN r) (h : ¬ (markR r (r.from_ + (k : Int))).kind = 1) : (ZAt r)[(ZBt r k).length]? = some (r.from_ + (k : Int), r.x + (k : Int) * r.step) := by
  obtain ⟨t, ht⟩ := seatsP_pre r (k + 1) (seatsN r - (k + 1))
  rw [show k + 1 + (seatsN r - (k + 1)) = seatsN r by omega] at ht
  unfold ZAt
  rw [← ht, ZBt, if_neg h]
  simp
theorem seatsP_len (r : RowV) : ∀ k, (ZBt r k).length ≤ k
  | 0 => Nat.le_refl _
  | k + 1 => by
    rw [ZBt]
    have := seatsP_len r k
    split
    · omega
    simp; omega
structure RangeR (r : RowV) : Prop where
  f : 1 ≤ r.from_ ∧ r.from_ ≤ r.to_ ∧ r.to_ ≤ 10000 ∧ 1 ≤ r.step
  p : 0 ≤ r.x ∧ r.x ≤ 10000 ∧ 0 ≤ r.y ∧ r.y ≤ 10000
  s : r.to_ > r.from_ → r.step ≤ 10000 ∧ r.x + (r.to_ - r.from_) * r.step ≤ 10000
  n : r.to_ - r.from_ < 60
  m : r.marks.length ≤ 60
end
structure TokV where
  kind : Int
  text : ByteArray
  n : Int
  at_ : Int
deriving DecidableEq
def TokV.enc (t : TokV) : List Value := [.int .i64 t.kind, .string t.text, .int .i64 t.n, .int .i64 t.at_]
set_option maxRecDepth 100000 in
def TXT : ByteArray := ⟨#[104, 97, 108, 108, 32, 104, 32, 115, 116, 97, 103, 101, 32, 48, 32, 48, 32, 123, 32, 108, 101, 118, 101, 108, 32, 108, 111, 119, 32, 104, 101, 105, 103, 104, 116, 32, 48, 32, 123, 32, 100, 111, 111, 114, 32, 49, 48, 32, 48, 59, 32, 97, 105, 115, 108, 101, 32, 49, 48, 32, 48, 32, 49, 56, 32, 51, 48, 59, 32, 98, 108, 111, 99, 107, 32, 98, 32, 123, 32, 114, 111, 119, 32, 114, 32, 97, 116, 32, 50, 48, 32, 53, 32, 115, 101, 97, 116, 115, 32, 49, 32, 116, 111, 32, 51, 32, 115, 116, 101, 112, 32, 50, 59, 32, 125, 32, 97, 114, 101, 97, 32, 115, 32, 49, 56, 32, 50, 48, 32, 50, 56, 32, 50, 52, 32, 104, 111, 108, 100, 115, 32, 50, 59, 32, 125, 32, 125]⟩
set_option maxRecDepth 100000 in
theorem TXT_size : TXT.size = 147 := rfl
def lxA (j : Nat) : Int := if (97 ≤ j ∧ j ≤ 122) ∨ (65 ≤ j ∧ j ≤ 90) then 3 else if 48 ≤ j ∧ j ≤ 57 then 4 else if 0 ≤ Lib.indexByte [32, 9, 10] j.toUInt8 then 1 else if 0 ≤ Lib.indexByte [59, 44, 46, 58, 40, 41, 123, 125, 61, 43, 45, 47] j.toUInt8 then 6 else if j = 60 ∨ j = 62 then 7 else 0
def u8I (n : Int) : Value := .int .u8 n
def lxL (k : Nat) : List Value := (List.range 256).map fun j => if j < k then u8I (lxA j) else u8I 0
theorem lxL_len (k : Nat) : (lxL k).length = 256 := by simp [lxL]
theorem lxL_set {k : Nat} {v : Int} (hv : lxA k = v) : (lxL k).set k (.int .u8 v) = lxL (k + 1) := by
  apply List.ext_getElem (by simp [lxL])
  intro i h1 h2
  simp only [lxL, List.getElem_set, List.getElem_map, List.getElem_range]
  by_cases h : k = i
  · subst h; simp [hv, u8I]
  rw [if_neg h]
  have e : (i < k + 1) ↔ (i < k) := by omega
  simp only [e]
theorem lxL_skip {k : Nat} (hv : lxA k = 0) : lxL k = lxL (k + 1) := by
  rw [← lxL_set hv]
  apply List.ext_getElem (by simp [lxL])
  intro i h1 h2
  simp only [lxL, List.getElem_set, List.getElem_map, List.getElem_range]
  by_cases h : k = i
  · subst h; simp [u8I]
  rw [if_neg h]
theorem map_const {α β : Type} (l : List α) (f : α → β) (c : β) (h : ∀ a, f a = c) : l.map f = List.replicate l.length c := by
  rw [List.eq_replicate_iff]; exact ⟨by rw [List.length_map], fun b hb => by obtain ⟨a, _, rfl⟩ := List.mem_map.1 hb; exact h a⟩
theorem lxL_zero : lxL 0 = List.replicate 256 (.int .u8 0) := by
  unfold lxL
  rw [map_const _ _ (.int .u8 0) (fun a => by rw [if_neg (Nat.not_lt_zero _)]; rfl), List.length_range]
def lxI (j : Nat) : Int := if j = 33 then 8 else if j = 95 then 5 else if j = 35 then 2 else lxA j
def LXC : List Value := (((lxL 256).set 35 (.int .u8 2)).set 95 (.int .u8 5)).set 33 (.int .u8 8)
theorem tri_get (L : List Value) (hl : L.length = 256) (f : Nat → Int) (hg : ∀ j, j < 256 → L[j]? = some (.int .u8 (f j))) (j : Nat) (h : j < 256) : (((L.set 35 (.int .u8 2)).set 95 (.int .u8 5)).set 33 (.int .u8 8))[j]? = some (.int .u8 (if j = 33 then 8 else if j = 95 then 5 else if j = 35 then 2 else f j)) := by
  rw [List.getElem?_set, List.getElem?_set, List.getElem?_set]
  simp only [List.length_set, hl]
  by_cases h1 : j = 33
  · subst h1; simp
  by_cases h2 : j = 95
  · subst h2; simp
  by_cases h3 : j = 35
  · subst h3; simp
  rw [if_neg (Ne.symm h1), if_neg (Ne.symm h2), if_neg (Ne.symm h3), if_neg h1, if_neg h2, if_neg h3]
  exact hg j h
theorem LXC_len : LXC.length = 256 := by
  rw [LXC, List.length_set, List.length_set, List.length_set]; exact lxL_len 256
theorem LXC_get (j : Nat) (h : j < 256) : LXC[j]? = some (.int .u8 (lxI j)) := by
  refine tri_get (lxL 256) (lxL_len 256) lxA (fun j hj => ?_) j h
  simp only [lxL, List.getElem?_map, List.getElem?_range hj, Option.map_some, if_pos hj, u8I]
def lxT (s : ByteArray) (i : Nat) : Int := if h : i < s.size then lxI s[i].toNat else 0
theorem lxT_lt {s : ByteArray} {i : Nat} (h : lxT s i ≠ 0) : i < s.size := by
  by_cases hi : i < s.size
  · exact hi
  exact absurd (dif_neg hi) h
theorem lxT_ge {s : ByteArray} {i : Nat} (h : s.size ≤ i) : lxT s i = 0 := dif_neg (by omega)
def idB (c : Int) : Bool := c == 3 || c == 4 || c == 5
def dgB (c : Int) : Bool := c == 4
def scanE (p : Int → Bool) (s : ByteArray) : Nat → Nat → Nat
  | 0, i => i
  | n + 1, i => if p (lxT s i) then scanE p s n (i + 1) else i
theorem scanE_eq {p : Int → Bool} {s : ByteArray} {e : Nat} (he : p (lxT s e) = false) : ∀ (n i : Nat), i ≤ e → e - i < n → (∀ j, i ≤ j → j < e → p (lxT s j) = true) → scanE p s n i = e
  | 0, i, _, h, _ => by omega
  | n + 1, i, h1, h2, h3 => by
    unfold scanE
    by_cases h : i = e
    · subst h; rw [he]; rfl
    rw [h3 i (Nat.le_refl _) (by omega), if_pos rfl]
    exact scanE_eq he n (i + 1) (by omega) (by omega) (fun j hj hj2 => h3 j (by omega) hj2)
def lexStep (s : ByteArray) (i : Nat) : Option TokV × Nat :=
  if lxT s i = 1 then (none, i + 1)
  else if lxT s i = 3 then (some ⟨1, s.extract i (scanE idB s (s.size + 1) i), 0, i⟩, scanE idB s (s.size + 1) i)
  else if lxT s i = 4 then (some ⟨2, s.extract i (scanE dgB s (s.size + 1) i), (Lib.atoi (s.extract i (scanE dgB s (s.size + 1) i)).data.toList).getD 0, i⟩, scanE dgB s (s.size + 1) i)
  else (some ⟨3, s.extract i (i + 1), 0, i⟩, i + 1)
def lexN (s : ByteArray) : Nat → List TokV × Nat
  | 0 => ([], 0)
  | q + 1 =>
    match lexN s q with
    | (z, i) => if i < s.size then (z ++ (lexStep s i).1.toList, (lexStep s i).2) else (z, i)
def lxGood (s : ByteArray) (i : Nat) : Bool :=
  lxT s i == 1 || lxT s i == 6 || (lxT s i == 3 && Nat.ble (scanE idB s (s.size + 1) i - i) 24) || (lxT s i == 4 && Nat.ble (scanE dgB s (s.size + 1) i - i) 10 && lxT s (scanE dgB s (s.size + 1) i) != 3 && lxT s (scanE dgB s (s.size + 1) i) != 5 && (Lib.atoi (s.extract i (scanE dgB s (s.size + 1) i)).data.toList).isSome)
theorem lexN_s (s : ByteArray) (q : Nat) (h : (lexN s q).2 < s.size) : lexN s (q + 1) = ((lexN s q).1 ++ (lexStep s (lexN s q).2).1.toList, (lexStep s (lexN s q).2).2) := by
  show (match lexN s q with | (z, i) => if i < s.size then (z ++ (lexStep s i).1.toList, (lexStep s i).2) else (z, i)) = _
  rw [show lexN s q = ((lexN s q).1, (lexN s q).2) from rfl]
  simp only [if_pos h]
theorem lexN_e (s : ByteArray) (q : Nat) (h : s.size ≤ (lexN s q).2) : ∀ m, lexN s (q + m) = lexN s q
  | 0 => rfl
  | m + 1 => by
    have ih := lexN_e s q h m
    show (match lexN s (q + m) with | (z, i) => if i < s.size then (z ++ (lexStep s i).1.toList, (lexStep s i).2) else (z, i)) = _
    rw [ih, show lexN s q = ((lexN s q).1, (lexN s q).2) from rfl]
    simp only [if_neg (show ¬ (lexN s q).2 < s.size by omega)]
theorem lexN_all {s : ByteArray} {q : Nat} (h : s.size ≤ (lexN s q).2) (hq : q ≤ s.size) : lexN s q = lexN s s.size := by
  obtain ⟨m, hm⟩ : ∃ m, s.size = q + m := ⟨s.size - q, by omega⟩
  have e := lexN_e s q h m
  rw [← hm] at e
  exact e.symm
theorem lxGoodC {s : ByteArray} {i : Nat} (h : lxGood s i = true) : lxT s i = 1 ∨ lxT s i = 6 ∨ lxT s i = 3 ∨ lxT s i = 4 := by
  unfold lxGood at h
  simp only [Bool.or_eq_true, Bool.and_eq_true, beq_iff_eq] at h
  rcases h with ((h | h) | h) | h
  · exact .inl h
  · exact .inr (.inl h)
  · exact .inr (.inr (.inl h.1))
  exact .inr (.inr (.inr h.1.1.1.1))
theorem lxGood3 {s : ByteArray} {i : Nat} (h : lxGood s i = true) (hc : lxT s i = 3) : scanE idB s (s.size + 1) i - i ≤ 24 := by
  unfold lxGood at h
  simp only [Bool.or_eq_true, Bool.and_eq_true, beq_iff_eq, Nat.ble_eq] at h
  rcases h with ((h | h) | h) | h
  · omega
  · omega
  · exact h.2
  omega
theorem lxGood4 {s : ByteArray} {i : Nat} (h : lxGood s i = true) (hc : lxT s i = 4) : scanE dgB s (s.size + 1) i - i ≤ 10 ∧ lxT s (scanE dgB s (s.size + 1) i) ≠ 3 ∧ lxT s (scanE dgB s (s.size + 1) i) ≠ 5 ∧ ∃ n, Lib.atoi (s.extract i (scanE dgB s (s.size + 1) i)).data.toList = some n := by
  unfold lxGood at h
  simp only [Bool.or_eq_true, Bool.and_eq_true, beq_iff_eq, Nat.ble_eq, bne_iff_ne] at h
  rcases h with ((h | h) | h) | h
  · omega
  · omega
  · omega
  exact ⟨h.1.1.1.2, h.1.1.2, h.1.2, Option.isSome_iff_exists.1 h.2⟩
end
end Go.Proofs.YtjdlllacomgaoaaGreatDoor
namespace Go.Proofs.YtjdlllacomgaoaaGreatDoor
section
open Go Go.Gw _root_.Go.Proofs.Tryz
set_option maxRecDepth 100000
def TK : List TokV := [⟨1, ⟨#[104, 97, 108, 108]⟩, 0, 0⟩, ⟨1, ⟨#[104]⟩, 0, 5⟩, ⟨1, ⟨#[115, 116, 97, 103, 101]⟩, 0, 7⟩, ⟨2, ⟨#[48]⟩, 0, 13⟩, ⟨2, ⟨#[48]⟩, 0, 15⟩, ⟨3, ⟨#[123]⟩, 0, 17⟩, ⟨1, ⟨#[108, 101, 118, 101, 108]⟩, 0, 19⟩, ⟨1, ⟨#[108, 111, 119]⟩, 0, 25⟩, ⟨1, ⟨#[104, 101, 105, 103, 104, 116]⟩, 0, 29⟩, ⟨2, ⟨#[48]⟩, 0, 36⟩, ⟨3, ⟨#[123]⟩, 0, 38⟩, ⟨1, ⟨#[100, 111, 111, 114]⟩, 0, 40⟩, ⟨2, ⟨#[49, 48]⟩, 10, 45⟩, ⟨2, ⟨#[48]⟩, 0, 48⟩, ⟨3, ⟨#[59]⟩, 0, 49⟩, ⟨1, ⟨#[97, 105, 115, 108, 101]⟩, 0, 51⟩, ⟨2, ⟨#[49, 48]⟩, 10, 57⟩, ⟨2, ⟨#[48]⟩, 0, 60⟩, ⟨2, ⟨#[49, 56]⟩, 18, 62⟩, ⟨2, ⟨#[51, 48]⟩, 30, 65⟩, ⟨3, ⟨#[59]⟩, 0, 67⟩, ⟨1, ⟨#[98, 108, 111, 99, 107]⟩, 0, 69⟩, ⟨1, ⟨#[98]⟩, 0, 75⟩, ⟨3, ⟨#[123]⟩, 0, 77⟩, ⟨1, ⟨#[114, 111, 119]⟩, 0, 79⟩, ⟨1, ⟨#[114]⟩, 0, 83⟩, ⟨1, ⟨#[97, 116]⟩, 0, 85⟩, ⟨2, ⟨#[50, 48]⟩, 20, 88⟩, ⟨2, ⟨#[53]⟩, 5, 91⟩, ⟨1, ⟨#[115, 101, 97, 116, 115]⟩, 0, 93⟩, ⟨2, ⟨#[49]⟩, 1, 99⟩, ⟨1, ⟨#[116, 111]⟩, 0, 101⟩, ⟨2, ⟨#[51]⟩, 3, 104⟩, ⟨1, ⟨#[115, 116, 101, 112]⟩, 0, 106⟩, ⟨2, ⟨#[50]⟩, 2, 111⟩, ⟨3, ⟨#[59]⟩, 0, 112⟩, ⟨3, ⟨#[125]⟩, 0, 114⟩, ⟨1, ⟨#[97, 114, 101, 97]⟩, 0, 116⟩, ⟨1, ⟨#[115]⟩, 0, 121⟩, ⟨2, ⟨#[49, 56]⟩, 18, 123⟩, ⟨2, ⟨#[50, 48]⟩, 20, 126⟩, ⟨2, ⟨#[50, 56]⟩, 28, 129⟩, ⟨2, ⟨#[50, 52]⟩, 24, 132⟩, ⟨1, ⟨#[104, 111, 108, 100, 115]⟩, 0, 135⟩, ⟨2, ⟨#[50]⟩, 2, 141⟩, ⟨3, ⟨#[59]⟩, 0, 142⟩, ⟨3, ⟨#[125]⟩, 0, 144⟩, ⟨3, ⟨#[125]⟩, 0, 146⟩]
theorem TK_len : TK.length = 48 := rfl
theorem TK_eq : (lexN TXT TXT.size).1 = TK := by kernel_rfl
theorem TXT_all : (List.range TXT.size).all (lxGood TXT) = true := by kernel_rfl
theorem TXT_good (i : Nat) (h : i < TXT.size) : lxGood TXT i = true := List.all_eq_true.1 TXT_all i (List.mem_range.2 h)
end
end Go.Proofs.YtjdlllacomgaoaaGreatDoor
namespace Go.Proofs
section
open Go.Shelf
def Tryz.lays137_ren : Go.Shelf.Ren := ⟨fun | 137 => 142 | 217 => 147 | 266 => 154 | n => n, fun | 9 => 9 | 5 => 5 | 3 => 3 | n => n, fun | n => n⟩
theorem Tryz.lays137 : Go.Proofs.Lays.n137 Tryz.prog Tryz.lays137_ren := {
  mixed := by kernel_rfl
  f137 := Tryz.func142.trans (congrArg some (by kernel_rfl))
  f217 := Tryz.func147.trans (congrArg some (by kernel_rfl))
  f266 := Tryz.func154.trans (congrArg some (by kernel_rfl))
  t3 := Tryz.underlying3
  a3 := Tryz.isAgg3
  z3 := Tryz.sizeOf3
  v3 := Tryz.zeroValue3
  t5 := Tryz.underlying5
  a5 := Tryz.isAgg5
  z5 := Tryz.sizeOf5
  v5 := Tryz.zeroValue5
  t9 := Tryz.underlying9
  a9 := Tryz.isAgg9
  z9 := Tryz.sizeOf9
  v9 := Tryz.zeroValue9 }
open Go.RowKit in
theorem Tryz.strings_IndexByte (s : ByteArray) (c : Int) (w : World) :
    Calls Tryz.prog 142 #[.string s, .int .u8 c] w fun e w' => e = .returned (.int .i64 (Lib.indexByte s.data.toList c.toNat.toUInt8)) ∧ w' = w := Any.strings_IndexByte Tryz.lays137 s c w
open Go.RowKit in
def Tryz.lays172_ren : Go.Shelf.Ren := ⟨fun | 172 => 128 | 244 => 143 | 245 => 144 | 247 => 148 | 279 => 149 | 280 => 150 | 281 => 151 | 282 => 152 | 287 => 155 | 316 => 156 | 171 => 158 | 205 => 157 | 321 => 159 | 322 => 160 | 243 => 161 | 246 => 162 | 283 => 163 | 284 => 164 | 285 => 165 | 286 => 166 | 129 => 121 | 317 => 167 | 318 => 168 | 319 => 169 | 320 => 170 | 337 => 171 | 338 => 172 | n => n, fun | 9 => 9 | 3 => 3 | 75 => 221 | 76 => 222 | 4 => 4 | 5 => 5 | 167 => 237 | 37 => 238 | 0 => 0 | 85 => 239 | 2 => 2 | 168 => 241 | 53 => 209 | 175 => 246 | 46 => 182 | 210 => 250 | 127 => 255 | 145 => 258 | 143 => 256 | 21 => 21 | 171 => 260 | 173 => 262 | 212 => 266 | 51 => 207 | 20 => 20 | 213 => 267 | 232 => 268 | 233 => 269 | 80 => 270 | n => n, fun | 15 => 0 | 16 => 1 | 17 => 3 | 18 => 4 | 19 => 5 | n => n⟩
theorem Tryz.lays172 : Go.Proofs.Lays.n172 Tryz.prog Tryz.lays172_ren := {
  mixed := by kernel_rfl
  f129 := Tryz.func121.trans (congrArg some (by kernel_rfl))
  f171 := Tryz.func158.trans (congrArg some (by kernel_rfl))
  f172 := Tryz.func128.trans (congrArg some (by kernel_rfl))
  f205 := Tryz.func157.trans (congrArg some (by kernel_rfl))
  f243 := Tryz.func161.trans (congrArg some (by kernel_rfl))
  f244 := Tryz.func143.trans (congrArg some (by kernel_rfl))
  f245 := Tryz.func144.trans (congrArg some (by kernel_rfl))
  f246 := Tryz.func162.trans (congrArg some (by kernel_rfl))
  f247 := Tryz.func148.trans (congrArg some (by kernel_rfl))
  f279 := Tryz.func149.trans (congrArg some (by kernel_rfl))
  f280 := Tryz.func150.trans (congrArg some (by kernel_rfl))
  f281 := Tryz.func151.trans (congrArg some (by kernel_rfl))
  f282 := Tryz.func152.trans (congrArg some (by kernel_rfl))
  f283 := Tryz.func163.trans (congrArg some (by kernel_rfl))
  f284 := Tryz.func164.trans (congrArg some (by kernel_rfl))
  f285 := Tryz.func165.trans (congrArg some (by kernel_rfl))
  f286 := Tryz.func166.trans (congrArg some (by kernel_rfl))
  f287 := Tryz.func155.trans (congrArg some (by kernel_rfl))
  f316 := Tryz.func156.trans (congrArg some (by kernel_rfl))
  f317 := Tryz.func167.trans (congrArg some (by kernel_rfl))
  f318 := Tryz.func168.trans (congrArg some (by kernel_rfl))
  f319 := Tryz.func169.trans (congrArg some (by kernel_rfl))
  f320 := Tryz.func170.trans (congrArg some (by kernel_rfl))
  f321 := Tryz.func159.trans (congrArg some (by kernel_rfl))
  f322 := Tryz.func160.trans (congrArg some (by kernel_rfl))
  f337 := Tryz.func171.trans (congrArg some (by kernel_rfl))
  f338 := Tryz.func172.trans (congrArg some (by kernel_rfl))
  t0 := Tryz.underlying0
  a0 := Tryz.isAgg0
  z0 := Tryz.sizeOf0
  v0 := Tryz.zeroValue0
  t2 := Tryz.underlying2
  a2 := Tryz.isAgg2
  z2 := Tryz.sizeOf2
  v2 := Tryz.zeroValue2
  t3 := Tryz.underlying3
  a3 := Tryz.isAgg3
  z3 := Tryz.sizeOf3
  v3 := Tryz.zeroValue3
  t4 := Tryz.underlying4
  a4 := Tryz.isAgg4
  z4 := Tryz.sizeOf4
  v4 := Tryz.zeroValue4
  t5 := Tryz.underlying5
  a5 := Tryz.isAgg5
  z5 := Tryz.sizeOf5
  v5 := Tryz.zeroValue5
  t9 := Tryz.underlying9
  a9 := Tryz.isAgg9
  z9 := Tryz.sizeOf9
  v9 := Tryz.zeroValue9
  t20 := Tryz.underlying20
  a20 := Tryz.isAgg20
  z20 := Tryz.sizeOf20
  v20 := Tryz.zeroValue20
  t21 := Tryz.underlying21
  a21 := Tryz.isAgg21
  z21 := Tryz.sizeOf21
  v21 := Tryz.zeroValue21
  t37 := Tryz.underlying238
  a37 := Tryz.isAgg238
  z37 := Tryz.sizeOf238
  v37 := Tryz.zeroValue238
  t46 := Tryz.underlying182
  a46 := Tryz.isAgg182
  z46 := Tryz.sizeOf182
  v46 := Tryz.zeroValue182
  t51 := Tryz.underlying207
  a51 := Tryz.isAgg207
  z51 := Tryz.sizeOf207
  v51 := Tryz.zeroValue207
  t53 := Tryz.underlying209
  a53 := Tryz.isAgg209
  z53 := Tryz.sizeOf209
  v53 := Tryz.zeroValue209
  t75 := Tryz.underlying221
  a75 := Tryz.isAgg221
  z75 := Tryz.sizeOf221
  v75 := Tryz.zeroValue221
  t76 := Tryz.underlying222
  a76 := Tryz.isAgg222
  z76 := Tryz.sizeOf222
  v76 := Tryz.zeroValue222
  t85 := Tryz.underlying239
  a85 := Tryz.isAgg239
  z85 := Tryz.sizeOf239
  v85 := Tryz.zeroValue239
  t127 := Tryz.underlying255
  a127 := Tryz.isAgg255
  z127 := Tryz.sizeOf255
  v127 := Tryz.zeroValue255
  t143 := Tryz.underlying256
  a143 := Tryz.isAgg256
  z143 := Tryz.sizeOf256
  v143 := Tryz.zeroValue256
  t145 := Tryz.underlying258
  a145 := Tryz.isAgg258
  z145 := Tryz.sizeOf258
  v145 := Tryz.zeroValue258
  t167 := Tryz.underlying237
  a167 := Tryz.isAgg237
  z167 := Tryz.sizeOf237
  v167 := Tryz.zeroValue237
  t168 := Tryz.underlying241
  a168 := Tryz.isAgg241
  z168 := Tryz.sizeOf241
  v168 := Tryz.zeroValue241
  t171 := Tryz.underlying260
  a171 := Tryz.isAgg260
  z171 := Tryz.sizeOf260
  v171 := Tryz.zeroValue260
  t173 := Tryz.underlying262
  a173 := Tryz.isAgg262
  z173 := Tryz.sizeOf262
  v173 := Tryz.zeroValue262
  t175 := Tryz.underlying246
  a175 := Tryz.isAgg246
  z175 := Tryz.sizeOf246
  v175 := Tryz.zeroValue246
  t210 := Tryz.underlying250
  a210 := Tryz.isAgg250
  z210 := Tryz.sizeOf250
  v210 := Tryz.zeroValue250
  t212 := Tryz.underlying266
  a212 := Tryz.isAgg266
  z212 := Tryz.sizeOf266
  v212 := Tryz.zeroValue266
  t213 := Tryz.underlying267
  a213 := Tryz.isAgg267
  z213 := Tryz.sizeOf267
  t232 := Tryz.underlying268
  a232 := Tryz.isAgg268
  z232 := Tryz.sizeOf268
  v232 := Tryz.zeroValue268
  t233 := Tryz.underlying269
  a233 := Tryz.isAgg269
  z233 := Tryz.sizeOf269
  v233 := Tryz.zeroValue269
  g15 := by kernel_rfl
  g16 := by kernel_rfl
  g17 := by kernel_rfl
  g18 := by kernel_rfl
  g19 := by kernel_rfl }
open Go.RowKit in
theorem Tryz.strconv_Atoi (s : ByteArray) (n : Int) (hl : s.size ≤ 18) (h : Lib.atoi s.data.toList = some n) (w : World) :
    Calls Tryz.prog 128 #[.string s] w fun e w' => e = .returned (.tuple #[.int .i64 n, .nilIface]) ∧ ∃ t, w' = Lib.bytesWorld w 5 t := Any.strconv_Atoi Tryz.lays172 s n hl h w
open Go.Lib in
open Go.Lib in
open Go.Lib in
open Go.Lib in
open Go.RowKit Go.Sort Go.Lib in
open Go.RowKit Go.Sort Go.Lib in
open Go.RowKit Go.Sort Go.Lib in
open Go.RowKit Go.Sort Go.Lib in
open Go.RowKit Go.Sort Go.Lib in
open Go.RowKit Go.Sort Go.Lib in
open Go.RowKit Go.Sort Go.Lib in
open Go.RowKit in
open Go.RowKit in
open Go.RowKit in
open Go.RowKit in
open Go.RowKit in
open Go.RowKit in
open Go.RowKit in
open Go.RowKit in
open Go.RowKit in
open Go.RowKit in
open Go.RowKit in
open Go.RowKit in
open Go.RowKit Go.Lib in
def Tryz.lays189_ren : Go.Shelf.Ren := ⟨fun | 189 => 64 | 125 => 101 | 257 => 100 | 128 => 120 | 129 => 121 | 294 => 111 | 295 => 112 | 296 => 113 | 297 => 114 | 298 => 115 | 299 => 116 | 216 => 117 | 300 => 118 | 301 => 119 | 328 => 136 | 329 => 137 | 330 => 138 | 331 => 139 | 332 => 140 | 215 => 141 | 343 => 146 | n => n, fun | 28 => 37 | 3 => 3 | 46 => 182 | 0 => 0 | 51 => 207 | 53 => 209 | 4 => 4 | 183 => 201 | 182 => 200 | 131 => 154 | 5 => 5 | 9 => 9 | 218 => 226 | 222 => 172 | 228 => 234 | 229 => 235 | n => n, fun | n => n⟩
theorem Tryz.lays189 : Go.Proofs.Lays.n189 Tryz.prog Tryz.lays189_ren := {
  mixed := by kernel_rfl
  f125 := Tryz.func101.trans (congrArg some (by kernel_rfl))
  f128 := Tryz.func120.trans (congrArg some (by kernel_rfl))
  f129 := Tryz.func121.trans (congrArg some (by kernel_rfl))
  f189 := Tryz.func64.trans (congrArg some (by kernel_rfl))
  f215 := Tryz.func141.trans (congrArg some (by kernel_rfl))
  f216 := Tryz.func117.trans (congrArg some (by kernel_rfl))
  f257 := Tryz.func100.trans (congrArg some (by kernel_rfl))
  f294 := Tryz.func111.trans (congrArg some (by kernel_rfl))
  f295 := Tryz.func112.trans (congrArg some (by kernel_rfl))
  f296 := Tryz.func113.trans (congrArg some (by kernel_rfl))
  f297 := Tryz.func114.trans (congrArg some (by kernel_rfl))
  f298 := Tryz.func115.trans (congrArg some (by kernel_rfl))
  f299 := Tryz.func116.trans (congrArg some (by kernel_rfl))
  f300 := Tryz.func118.trans (congrArg some (by kernel_rfl))
  f301 := Tryz.func119.trans (congrArg some (by kernel_rfl))
  f328 := Tryz.func136.trans (congrArg some (by kernel_rfl))
  f329 := Tryz.func137.trans (congrArg some (by kernel_rfl))
  f330 := Tryz.func138.trans (congrArg some (by kernel_rfl))
  f331 := Tryz.func139.trans (congrArg some (by kernel_rfl))
  f332 := Tryz.func140.trans (congrArg some (by kernel_rfl))
  f343 := Tryz.func146.trans (congrArg some (by kernel_rfl))
  t0 := Tryz.underlying0
  a0 := Tryz.isAgg0
  z0 := Tryz.sizeOf0
  v0 := Tryz.zeroValue0
  t3 := Tryz.underlying3
  a3 := Tryz.isAgg3
  z3 := Tryz.sizeOf3
  v3 := Tryz.zeroValue3
  t4 := Tryz.underlying4
  a4 := Tryz.isAgg4
  z4 := Tryz.sizeOf4
  v4 := Tryz.zeroValue4
  t5 := Tryz.underlying5
  a5 := Tryz.isAgg5
  z5 := Tryz.sizeOf5
  v5 := Tryz.zeroValue5
  t9 := Tryz.underlying9
  a9 := Tryz.isAgg9
  z9 := Tryz.sizeOf9
  v9 := Tryz.zeroValue9
  t28 := Tryz.underlying37
  a28 := Tryz.isAgg37
  z28 := Tryz.sizeOf37
  v28 := Tryz.zeroValue37
  t46 := Tryz.underlying182
  a46 := Tryz.isAgg182
  z46 := Tryz.sizeOf182
  v46 := Tryz.zeroValue182
  t51 := Tryz.underlying207
  a51 := Tryz.isAgg207
  z51 := Tryz.sizeOf207
  v51 := Tryz.zeroValue207
  t53 := Tryz.underlying209
  a53 := Tryz.isAgg209
  z53 := Tryz.sizeOf209
  v53 := Tryz.zeroValue209
  t131 := Tryz.underlying154
  a131 := Tryz.isAgg154
  z131 := Tryz.sizeOf154
  v131 := Tryz.zeroValue154
  t182 := Tryz.underlying200
  a182 := Tryz.isAgg200
  z182 := Tryz.sizeOf200
  v182 := Tryz.zeroValue200
  t183 := Tryz.underlying201
  a183 := Tryz.isAgg201
  z183 := Tryz.sizeOf201
  v183 := Tryz.zeroValue201
  t218 := Tryz.underlying226
  a218 := Tryz.isAgg226
  z218 := Tryz.sizeOf226
  v218 := Tryz.zeroValue226
  t222 := Tryz.underlying172
  a222 := Tryz.isAgg172
  z222 := Tryz.sizeOf172
  v222 := Tryz.zeroValue172
  t228 := Tryz.underlying234
  a228 := Tryz.isAgg234
  z228 := Tryz.sizeOf234
  v228 := Tryz.zeroValue234
  t229 := Tryz.underlying235
  a229 := Tryz.isAgg235
  z229 := Tryz.sizeOf235
  v229 := Tryz.zeroValue235 }
open Go.Sort Go.RowKit in
theorem Tryz.slices_Sort_int (blk off cap : Nat) (zs : List Int) (w : World) (hH : Holds (Value.int .i64) w blk off zs.toArray) (hblk : blk < w.heap.size) (hsz : zs.length < 4611686018427387904) :
    Calls Tryz.prog 64 #[.slice (some ⟨blk, off, none⟩) zs.length cap] w fun e w' =>
      e = .returned (.tuple #[]) ∧ ∃ n os, w' = grow (putRow (Value.int .i64) (Sort.ahead w n) blk off (zs.mergeSort fun x y => decide (x ≤ y)).toArray) os := Any.slices_Sort_int Tryz.lays189 blk off cap zs w hH hblk hsz
open Go.RowKit Go.Lib in
open Go.RowKit Go.Lib in
def Tryz.laysNm220_ren : Go.Shelf.Ren := ⟨fun | 20 => 65 | n => n, fun | 22 => 37 | 3 => 3 | 4 => 4 | 0 => 0 | n => n, fun | n => n⟩
theorem Tryz.laysNm220 : Go.Proofs.Lays2.n20 Tryz.prog Tryz.laysNm220_ren := {
  mixed := by kernel_rfl
  f20 := Tryz.func65.trans (congrArg some (by kernel_rfl))
  t0 := Tryz.underlying0
  a0 := Tryz.isAgg0
  z0 := Tryz.sizeOf0
  v0 := Tryz.zeroValue0
  t3 := Tryz.underlying3
  a3 := Tryz.isAgg3
  z3 := Tryz.sizeOf3
  v3 := Tryz.zeroValue3
  t4 := Tryz.underlying4
  a4 := Tryz.isAgg4
  z4 := Tryz.sizeOf4
  v4 := Tryz.zeroValue4
  t22 := Tryz.underlying37
  a22 := Tryz.isAgg37
  z22 := Tryz.sizeOf37
  v22 := Tryz.zeroValue37
  i3 := by kernel_rfl }
open Go.RowKit Go.Lib Go.Sort in
open Go.RowKit Go.Lib Go.Sort in
theorem Tryz.slices_Compact_int (blk off cap : Nat) (zs : List Int) (w : World) (hH : Holds (Value.int .i64) w blk off zs.toArray) (hsz : zs.length ≤ 9223372036854775807) (hcap : zs.length ≤ cap) :
    Calls Tryz.prog 65 #[.slice (some ⟨blk, off, none⟩) zs.length cap] w fun e w' => e = .returned (.slice (some ⟨blk, off, none⟩) (Lib.compact zs).length cap) ∧ ∃ q, w' = putRow (Value.int .i64) (Sort.ahead w q) blk off (Lib.compact zs ++ List.replicate (zs.length - (Lib.compact zs).length) 0).toArray := Any.slices_Compact_int Tryz.laysNm220 blk off cap zs w hH hsz hcap
open Go.RowKit Go.Lib Go.Sort in
theorem Tryz.slices_Compact_int_empty (a : Option Addr) (cap : Nat) (w : World) :
    Calls Tryz.prog 65 #[.slice a 0 cap] w fun e w' => e = .returned (.slice a 0 cap) ∧ w' = w := Any.slices_Compact_int_empty Tryz.laysNm220 a cap w
open Go.RowKit Go.Lib in
open Go.RowKit Go.Lib in
open Go.RowKit Go.Lib Go.Sort in
open Go.RowKit Go.Sort in
theorem Tryz.slices_Sort_int_none (p : Option Addr) (cap : Nat) (w : World) :
    Calls Tryz.prog 64 #[.slice p 0 cap] w fun e w' => e = .returned (.tuple #[]) ∧ w' = w := Any.slices_Sort_int_none Tryz.lays189 p cap w
end
end Go.Proofs
namespace Go.Proofs.YtjdlllacomgaoaaGreatDoor
section
open Go Go.Gw _root_.Go.Proofs.Tryz
theorem in_spec (v : Value) (xs : List Int) (n : Int) (w0 : World) (hv : IsSl w0 v 1 encI xs) :
    Ret Tryz.prog 38 #[v, .int .i64 n] w0 (fun u w => u = .bool (decide (n ∈ xs)) ∧ Ext w0 w) := by
 refine ZAE (nt := 18) Tryz.func38 rfl rfl rfl (fl := [(0, v), (1, .int .i64 n)]) rfl (fun a S => ?_)
 have H := HSat.start w0
 have H := H.ro0 (Sl v 1 encI xs) rfl (hv)
 have hl := hv.len
 refine gsr <| q_as S rfl fun a S => gnt <| ZAG <| gsr <| q_as S rfl fun a S => gnt <| ZAD ?_
 have SU := S.sel [0, 1] rfl
 refine ZB4 (X := Nat) SU (fun k => [(5, .int .i64 (k : Int))]) (fun k => k ≤ xs.length ∧ ∀ j (h : j < xs.length), j < k → xs[j] ≠ n) (fun k => xs.length - k) 0 (S.sel [5] rfl) H (⟨by omega, fun j h hj => by omega⟩) (fun k a w S H hi => ?_)
 simp only [List.cons_append, List.nil_append] at S hi
 obtain ⟨hk, hno⟩ := hi
 refine ZAG <| gsr <| q_mv S rfl fun a S => q_mv S rfl fun a S => gq rfl S (ZAT rfl underlying37 S H rfl) fun a S => q_bn S rfl fun a S => gnt <| c_if S rfl (fun h1 => ?_) (fun h1 => ?_)
 ·have h1p := h1; try simp only [DL] at h1p
  refine ZAM <| ZAA ?_
  have S := S.sel [5, 0, 1] rfl
  refine ZAG <| ZAD <| gsr <| q_mv S rfl fun a S => q_mv S rfl fun a S => gq rfl S (ZAI rfl underlying37 ZA5 S H rfl rfl (by omega)) fun a S => ?_
  refine gq rfl S (ZA6 _ rfl ZAN S H rfl (by omega) rfl) fun a S => ?_
  refine q_mv S rfl fun a S => q_bn S rfl fun a S => gnt ?_
  have S := S.sel [17, 5, 0, 1] rfl
  refine c_if S rfl (fun h2 => ?_) (fun h2 => ?_)
  ·have h2p := h2; try simp only [DL] at h2p
   refine gsr <| q_as S rfl fun a S => gnt <| ZAe <| ZAm (ZAX (ZAX (ZAm (ZAX (ret1 rfl S rfl ?_)))))
   exact ⟨congrArg Value.bool (decide_eq_true (by rw [← h2p]; exact List.getElem_mem _)).symm, H.toExt⟩
  have h2p := h2; try simp only [DL] at h2p
  refine ZAM <| ZAK <| ZAA <| ZAB <| q_mv S rfl fun a S => q_ad S rfl (by omega) fun a S => ?_
  refine q_as S rfl fun a S => gnt <| ⟨k + 1, S.sel [5] rfl, S.sel [0, 1] rfl, H, ?_, ?_⟩
  · exact ⟨by omega, fun j h hj => by by_cases hjk : j < k; exact hno j h hjk; (obtain rfl : j = k := by omega); exact h2p⟩
  omega
 have h1p := h1; try simp only [DL] at h1p
 refine ZAf <| ZAO (ZAO (x_eq ?_))
 refine ZAA ?_
 have S := S.nil
 exact gsr <| q_as S rfl fun a S => gnt <| ZAe <| ret1 rfl S rfl <| ⟨congrArg Value.bool (decide_eq_false (find_no (fun j hj => hno j hj (by omega)))).symm, H.toExt⟩
theorem index_spec (v : Value) (xs : List Int) (n : Int) (w0 : World) (hv : IsSl w0 v 1 encI xs) :
    Ret Tryz.prog 79 #[v, .int .i64 n] w0 (fun u w => ∃ i : Int, u = .int .i64 i ∧ decide (n ∈ xs) = decide (i ≥ 0) ∧ Ext w0 w) := by
 refine ZAE (nt := 19) Tryz.func79 rfl rfl rfl (fl := [(0, v), (1, .int .i64 n)]) rfl (fun a S => ?_)
 have H := HSat.start w0
 have H := H.ro0 (Sl v 1 encI xs) rfl (hv)
 have hl := hv.len
 refine gsr <| q_as S rfl fun a S => gnt <| ZAG <| gsr <| q_mv S rfl fun a S => gq rfl S (ZAT rfl underlying37 S H rfl) fun a S => q_mv S rfl fun a S => ?_
 refine gnt <| ZAD ?_
 have SU := S.sel [7, 0, 1] rfl
 refine ZB4 (X := Nat) SU (fun k => [(8, .int .i64 (k : Int))]) (fun k => k ≤ xs.length ∧ ∀ j (h : j < xs.length), j < k → xs[j] ≠ n) (fun k => xs.length - k) 0 (S.sel [8] rfl) H (⟨by omega, fun j h hj => by omega⟩) (fun k a w S H hi => ?_)
 simp only [List.cons_append, List.nil_append] at S hi
 obtain ⟨hk, hno⟩ := hi
 refine gsr <| q_bn S rfl fun a S => gnt <| ZAG <| c_if S rfl (fun h1 => ?_) (fun h1 => ?_)
 ·have h1p := h1; try simp only [DL] at h1p
  refine ZAM <| ZAA <| ZAG <| ZAD <| gsr <| q_mv S rfl fun a S => q_as S rfl fun a S => gnt ?_
  refine gsr <| q_mv S rfl fun a S => q_mv S rfl fun a S => q_mv S rfl fun a S => gq rfl S (ZAI rfl underlying37 ZA5 S H rfl rfl (by omega)) fun a S => ?_
  refine gq rfl S (ZA6 _ rfl ZAN S H rfl (by omega) rfl) fun a S => ?_
  refine q_bn S rfl fun a S => gnt ?_
  have S := S.sel [16, 5, 8, 7, 0, 1] rfl
  refine c_if S rfl (fun h2 => ?_) (fun h2 => ?_)
  ·have h2p := h2; try simp only [DL] at h2p
   refine gsr <| q_mv S rfl fun a S => q_as S rfl fun a S => gnt <| ZAe <| ZAm (ZAX (ZAX (ZAm (ZAX (ret1 rfl S rfl ?_)))))
   exact ⟨k, rfl, by rw [decide_eq_true (show (k : Int) ≥ 0 by omega)]; exact decide_eq_true (by rw [h2p]; exact List.getElem_mem _), H.toExt⟩
  have h2p := h2; try simp only [DL] at h2p
  refine ZAM <| ZAK <| ZAA <| ZAB <| q_ad S rfl (by omega) fun a S => ?_
  refine q_mv S rfl fun a S => gnt <| ⟨k + 1, S.sel [8] rfl, S.sel [7, 0, 1] rfl, H, ?_, ?_⟩
  · exact ⟨by omega, fun j h hj => by by_cases hjk : j < k; exact hno j h hjk; (obtain rfl : j = k := by omega); exact fun e => h2p e.symm⟩
  omega
 have h1p := h1; try simp only [DL] at h1p
 refine ZAf <| ZAO (ZAO (x_eq ?_))
 refine ZAA ?_
 have S := S.nil
 exact gsr <| q_as S rfl fun a S => gnt <| ZAe <| ret1 rfl S rfl <| ⟨-1, rfl, decide_eq_false (find_no (fun j hj => hno j hj (by omega))), H.toExt⟩
theorem contains_spec (v : Value) (xs : List Int) (n : Int) (w0 : World) (hv : IsSl w0 v 1 encI xs) :
    Ret Tryz.prog 30 #[v, .int .i64 n] w0 (fun u w => u = .bool (decide (n ∈ xs)) ∧ Ext w0 w) := by
 refine ZAE (nt := 9) Tryz.func30 rfl rfl rfl (fl := [(0, v), (1, .int .i64 n)]) rfl (fun a S => ?_)
 have H := HSat.start w0
 refine gsr <| q_as S rfl fun a S => gnt <| gsr <| q_mv S rfl fun a S => q_mv S rfl fun a S => q_cl S rfl call79 (index_spec v xs n w0 hv) fun v w hc a S => ?_
 obtain ⟨i, rfl, hany, he1⟩ := hc
 have H := H.ext he1
 refine q_bn S rfl fun a S => q_as S rfl fun a S => gnt ?_
 have S := S.sel [4] rfl
 exact ZAe <| ret1 rfl S rfl <| ⟨by rw [hany], H.toExt⟩
theorem indexFunc_spec (v : Value) (xs : List Int) (f : FuncId) (cap : List Value) (he : Enters Tryz.prog f) (pr : Int → Bool) (w0 : World) (hv : IsSl w0 v 1 encI xs)
    (hstep : ∀ x ∈ xs, ∀ w, Ext w0 w → Ret Tryz.prog f ([Value.int .i64 x] ++ cap).toArray w (fun u w' => u = .bool (pr x) ∧ Ext w w')) :
    Ret Tryz.prog 84 #[v, .func (.func f) #[] cap.toArray] w0 (fun u w => (u = .int .i64 (-1) ∧ xs.any pr = false ∧ Ext w0 w) ∨ (∃ j : Nat, u = .int .i64 (j : Int) ∧ xs.any pr = true ∧ Ext w0 w)) := by
 refine ZAE (nt := 19) Tryz.func84 rfl rfl rfl (fl := [(0, v), (1, .func (.func f) #[] cap.toArray)]) rfl (fun a S => ?_)
 have H := HSat.start w0
 have H := H.ro0 (Sl v 1 encI xs) rfl (hv)
 have hlen := hv.len
 refine gsr <| q_as S rfl fun a S => gnt <| ZAG <| gsr <| q_mv S rfl fun a S => gq rfl S (ZAT rfl underlying37 S H rfl) fun a S => q_mv S rfl fun a S => ?_
 refine gnt <| ZAD ?_
 have SU := S.sel [7, 0, 1] rfl
 refine ZB4 (X := Nat) SU (fun k => [(8, .int .i64 (k : Int))]) (fun k => k ≤ xs.length ∧ (∀ j (h : j < xs.length), j < k → pr xs[j] = false)) (fun k => xs.length - k) 0 (S.sel [8] rfl) H (⟨by omega, fun j h hj => by omega⟩) (fun k a w S H hi => ?_)
 simp only [List.cons_append, List.nil_append] at S hi
 obtain ⟨hk, hpr⟩ := hi
 refine gsr <| q_bn S rfl fun a S => gnt <| ZAG <| c_if S rfl (fun h1 => ?_) (fun h1 => ?_)
 ·have h1p := h1; try simp only [DL] at h1p
  refine ZAM <| ZAA <| ZAG <| ZAD <| gsr <| q_mv S rfl fun a S => q_as S rfl fun a S => gnt ?_
  refine gsr <| q_mv S rfl fun a S => q_mv S rfl fun a S => q_mv S rfl fun a S => gq rfl S (ZAI rfl underlying37 ZA5 S H rfl rfl (by omega)) fun a S => ?_
  refine gq rfl S (ZA6 _ rfl ZAN S H rfl (by omega) rfl) fun a S => ?_
  refine ZAF (ZAV (wn rfl) rfl rfl S (ZAp rfl he S rfl rfl) (hstep _ (List.getElem_mem (by omega)) w H.toExt) fun v w hc a S => ?_)
  obtain ⟨rfl, he1⟩ := hc
  have H := H.ext he1
  refine gnt ?_
  have S := S.sel [16, 5, 8, 7, 0, 1] rfl
  refine c_if S rfl (fun h2 => ?_) (fun h2 => ?_)
  ·have h2p := h2; try simp only [DL] at h2p
   refine gsr <| q_mv S rfl fun a S => q_as S rfl fun a S => gnt <| ZAe <| ZAm (ZAX (ZAX (ZAm (ZAX (ret1 rfl S rfl ?_)))))
   exact .inr ⟨k, rfl, List.any_eq_true.2 ⟨_, List.getElem_mem (by omega), h2⟩, H.toExt⟩
  have h2p := h2; try simp only [DL] at h2p
  refine ZAM <| ZAK <| ZAA <| ZAB <| q_ad S rfl (by omega) fun a S => ?_
  refine q_mv S rfl fun a S => gnt <| ⟨k + 1, S.sel [8] rfl, S.sel [7, 0, 1] rfl, H, ?_, ?_⟩
  · exact ⟨by omega, fun j h hj => by by_cases hjk : j < k; exact hpr j h hjk; (obtain rfl : j = k := by omega); exact h2⟩
  omega
 have h1p := h1; try simp only [DL] at h1p
 refine ZAf <| ZAO (ZAO (x_eq ?_))
 refine ZAA ?_
 have S := S.nil
 refine gsr <| q_as S rfl fun a S => gnt <| ZAe <| ret1 rfl S rfl ?_
 obtain rfl : k = xs.length := by omega
 exact .inl ⟨rfl, List.any_eq_false.2 (fun x hx => by obtain ⟨j, hj, rfl⟩ := List.getElem_of_mem hx; simp [hpr j hj hj]), H.toExt⟩
theorem containsFunc_spec (v : Value) (xs : List Int) (f : FuncId) (cap : List Value) (he : Enters Tryz.prog f) (pr : Int → Bool) (w0 : World) (hv : IsSl w0 v 1 encI xs)
    (hstep : ∀ x ∈ xs, ∀ w, Ext w0 w → Ret Tryz.prog f ([Value.int .i64 x] ++ cap).toArray w (fun u w' => u = .bool (pr x) ∧ Ext w w')) :
    Ret Tryz.prog 36 #[v, .func (.func f) #[] cap.toArray] w0 (fun u w => u = .bool (xs.any pr) ∧ Ext w0 w) := by
 refine ZAE (nt := 9) Tryz.func36 rfl rfl rfl (fl := [(0, v), (1, .func (.func f) #[] cap.toArray)]) rfl (fun a S => ?_)
 have H := HSat.start w0
 refine gsr <| q_as S rfl fun a S => gnt <| gsr <| q_mv S rfl fun a S => q_mv S rfl fun a S => q_cl S rfl call84 (Ret.mono (indexFunc_spec v xs f cap he pr w0 hv hstep) (fun u w h => (show ∃ i : Int, u = .int .i64 i ∧ xs.any pr = decide (i ≥ 0) ∧ Ext w0 w from by rcases h with ⟨h1, h2, h3⟩ | ⟨j, h1, h2, h3⟩; exact ⟨-1, h1, by rw [h2]; rfl, h3⟩; exact ⟨j, h1, by rw [h2]; simp, h3⟩))) fun v w hc a S => ?_
 obtain ⟨i, rfl, hany, he1⟩ := hc
 have H := H.ext he1
 refine q_bn S rfl fun a S => q_as S rfl fun a S => gnt ?_
 have S := S.sel [4] rfl
 exact ZAe <| ret1 rfl S rfl <| ⟨by rw [hany], H.toExt⟩
theorem indexFuncR_spec (v : Value) (xs : List (Value × List Int)) (f : FuncId) (cap : List Value) (he : Enters Tryz.prog f) (pr : (Value × List Int) → Bool) (w0 : World) (hv : IsSl w0 v 1 ZAo xs)
    (hstep : ∀ x ∈ xs, ∀ w, Ext w0 w → Ret Tryz.prog f ([x.1] ++ cap).toArray w (fun u w' => u = .bool (pr x) ∧ Ext w w')) :
    Ret Tryz.prog 107 #[v, .func (.func f) #[] cap.toArray] w0 (fun u w => (u = .int .i64 (-1) ∧ xs.any pr = false ∧ Ext w0 w) ∨ (∃ j : Nat, u = .int .i64 (j : Int) ∧ xs.any pr = true ∧ Ext w0 w)) := by
 refine ZAE (nt := 19) Tryz.func107 rfl rfl rfl (fl := [(0, v), (1, .func (.func f) #[] cap.toArray)]) rfl (fun a S => ?_)
 have H := HSat.start w0
 have H := H.ro0 (Sl v 1 ZAo xs) rfl (hv)
 have hlen := hv.len
 refine gsr <| q_as S rfl fun a S => gnt <| ZAG <| gsr <| q_mv S rfl fun a S => gq rfl S (ZAT rfl underlying62 S H rfl) fun a S => q_mv S rfl fun a S => ?_
 refine gnt <| ZAD ?_
 have SU := S.sel [7, 0, 1] rfl
 refine ZB4 (X := Nat) SU (fun k => [(8, .int .i64 (k : Int))]) (fun k => k ≤ xs.length ∧ (∀ j (h : j < xs.length), j < k → pr xs[j] = false)) (fun k => xs.length - k) 0 (S.sel [8] rfl) H (⟨by omega, fun j h hj => by omega⟩) (fun k a w S H hi => ?_)
 simp only [List.cons_append, List.nil_append] at S hi
 obtain ⟨hk, hpr⟩ := hi
 refine gsr <| q_bn S rfl fun a S => gnt <| ZAG <| c_if S rfl (fun h1 => ?_) (fun h1 => ?_)
 ·have h1p := h1; try simp only [DL] at h1p
  refine ZAM <| ZAA <| ZAG <| ZAD <| gsr <| q_mv S rfl fun a S => q_as S rfl fun a S => gnt ?_
  refine gsr <| q_mv S rfl fun a S => q_mv S rfl fun a S => q_mv S rfl fun a S => gq rfl S (ZAI rfl underlying62 Fsiz37 S H rfl rfl (by omega)) fun a S => ?_
  refine gq rfl S (ZA6 _ rfl ZBX S H rfl (by omega) rfl) fun a S => ?_
  refine ZAF (ZAV (wn rfl) rfl rfl S (ZAp rfl he S rfl rfl) (hstep _ (List.getElem_mem (by omega)) w H.toExt) fun v w hc a S => ?_)
  obtain ⟨rfl, he1⟩ := hc
  have H := H.ext he1
  refine gnt ?_
  have S := S.sel [16, 5, 8, 7, 0, 1] rfl
  refine c_if S rfl (fun h2 => ?_) (fun h2 => ?_)
  ·have h2p := h2; try simp only [DL] at h2p
   refine gsr <| q_mv S rfl fun a S => q_as S rfl fun a S => gnt <| ZAe <| ZAm (ZAX (ZAX (ZAm (ZAX (ret1 rfl S rfl ?_)))))
   exact .inr ⟨k, rfl, List.any_eq_true.2 ⟨_, List.getElem_mem (by omega), h2⟩, H.toExt⟩
  have h2p := h2; try simp only [DL] at h2p
  refine ZAM <| ZAK <| ZAA <| ZAB <| q_ad S rfl (by omega) fun a S => ?_
  refine q_mv S rfl fun a S => gnt <| ⟨k + 1, S.sel [8] rfl, S.sel [7, 0, 1] rfl, H, ?_, ?_⟩
  · exact ⟨by omega, fun j h hj => by by_cases hjk : j < k; exact hpr j h hjk; (obtain rfl : j = k := by omega); exact h2⟩
  omega
 have h1p := h1; try simp only [DL] at h1p
 refine ZAf <| ZAO (ZAO (x_eq ?_))
 refine ZAA ?_
 have S := S.nil
 refine gsr <| q_as S rfl fun a S => gnt <| ZAe <| ret1 rfl S rfl ?_
 obtain rfl : k = xs.length := by omega
 exact .inl ⟨rfl, List.any_eq_false.2 (fun x hx => by obtain ⟨j, hj, rfl⟩ := List.getElem_of_mem hx; simp [hpr j hj hj]), H.toExt⟩
theorem containsFuncR_spec (v : Value) (xs : List (Value × List Int)) (f : FuncId) (cap : List Value) (he : Enters Tryz.prog f) (pr : (Value × List Int) → Bool) (w0 : World) (hv : IsSl w0 v 1 ZAo xs)
    (hstep : ∀ x ∈ xs, ∀ w, Ext w0 w → Ret Tryz.prog f ([x.1] ++ cap).toArray w (fun u w' => u = .bool (pr x) ∧ Ext w w')) :
    Ret Tryz.prog 81 #[v, .func (.func f) #[] cap.toArray] w0 (fun u w => u = .bool (xs.any pr) ∧ Ext w0 w) := by
 refine ZAE (nt := 9) Tryz.func81 rfl rfl rfl (fl := [(0, v), (1, .func (.func f) #[] cap.toArray)]) rfl (fun a S => ?_)
 have H := HSat.start w0
 refine gsr <| q_as S rfl fun a S => gnt <| gsr <| q_mv S rfl fun a S => q_mv S rfl fun a S => q_cl S rfl call107 (Ret.mono (indexFuncR_spec v xs f cap he pr w0 hv hstep) (fun u w h => (show ∃ i : Int, u = .int .i64 i ∧ xs.any pr = decide (i ≥ 0) ∧ Ext w0 w from by rcases h with ⟨h1, h2, h3⟩ | ⟨j, h1, h2, h3⟩; exact ⟨-1, h1, by rw [h2]; rfl, h3⟩; exact ⟨j, h1, by rw [h2]; simp, h3⟩))) fun v w hc a S => ?_
 obtain ⟨i, rfl, hany, he1⟩ := hc
 have H := H.ext he1
 refine q_bn S rfl fun a S => q_as S rfl fun a S => gnt ?_
 have S := S.sel [4] rfl
 exact ZAe <| ret1 rfl S rfl <| ⟨by rw [hany], H.toExt⟩
theorem increasing_spec (v : Value) (xs : List Int) (n : Int) (w0 : World) (hv : IsSl w0 v 1 encI xs) :
    Ret Tryz.prog 35 #[v, .int .i64 n] w0 (fun u w => u = .bool (formedB xs n) ∧ Ext w0 w) := by
 refine ZAE (nt := 24) Tryz.func35 rfl rfl rfl (fl := [(0, v), (1, .int .i64 n)]) rfl (fun a S => ?_)
 have H := HSat.start w0
 have H := H.ro0 (Sl v 1 encI xs) rfl (hv)
 have hl := hv.len
 refine gsr <| q_as S rfl fun a S => gnt <| gsr <| q_as S rfl fun a S => gnt <| ZAG <| gsr ?_
 refine q_mv S rfl fun a S => gq rfl S (ZAT rfl underlying37 S H rfl) fun a S => q_mv S rfl fun a S => gnt <| ZAD ?_
 have SU := S.sel [9, 8, 1] rfl
 refine ZB4 (X := Nat) SU (fun k => [(5, .int .i64 (if k = 0 then -1 else atI xs (k - 1))), (10, .int .i64 (k : Int))]) (fun k => k ≤ xs.length ∧ ∀ j, j < k → 0 ≤ atI xs j ∧ atI xs j < n ∧ (0 < j → atI xs (j - 1) < atI xs j)) (fun k => xs.length - k) 0 (S.sel [5, 10] rfl) H (⟨by omega, fun j hj => by omega⟩) (fun k a w S H hi => ?_)
 simp only [List.cons_append, List.nil_append] at S hi
 obtain ⟨hk, hno⟩ := hi
 refine gsr <| q_bn S rfl fun a S => gnt <| ZAG <| c_if S rfl (fun h1 => ?_) (fun h1 => ?_)
 ·have h1p := h1; try simp only [DL] at h1p
  have hkl : k < xs.length := by omega
  have hat := atI_eq hkl
  have hpr := fun h0 : 0 < k => hno (k - 1) (by omega)
  refine ZAM <| ZAA <| ZAG <| ZAD <| gsr <| gq rfl S (ZAI rfl underlying37 ZA5 S H rfl rfl (by omega)) fun a S => ?_
  refine gq rfl S (ZA6 _ rfl ZAN S H rfl (by omega) rfl) fun a S => ?_
  refine q_as S rfl fun a S => gnt <| ZAG <| gsr <| q_mv S rfl fun a S => q_mv S rfl fun a S => q_bn S rfl fun a S => q_mv S rfl fun a S => ?_
  refine' ZBH 3 17 rfl S H rfl rfl rfl rfl rfl rfl rfl (fun _ S => (wn rfl)) (fun h2 kk => ?yh2) (fun a w S H => ?_)
  case yh2 =>
   exact gz 17 h2 S rfl rfl rfl rfl rfl rfl (ZAL rfl S rfl) fun a S => gz 17 h2 S rfl rfl rfl rfl rfl rfl (ZAL rfl S rfl) fun a S => gz 17 h2 S rfl rfl rfl rfl rfl rfl (ZAn rfl S rfl rfl rfl) fun a S => gq rfl S (ZAz rfl h2 S rfl rfl) fun a S => kk _ _ (S.join 4 21 rfl rfl) H
  refine gnt ?_
  have S := S.sel [21, 7, 5, 10, 9, 8, 1] rfl
  refine c_if S rfl (fun h3 => ?_) (fun h3 => ?_)
  ·have h3p := h3; try simp only [DL] at h3p
   refine gsr <| q_as S rfl fun a S => gnt <| ZAe <| ZAX (ZAm (ZAX (ZAX (ZAm (ZAX (ret1 rfl S rfl ?_))))))
   exact ⟨congrArg Value.bool (formed_no k hkl hno (by rw [hat]; split at h3p <;> omega)).symm, H.toExt⟩
  have h3p := h3; try simp only [DL] at h3p
  refine ZAM <| ZAA <| ZAB <| q_mv S rfl fun a S => q_as S rfl fun a S => ZAj <| ZAK <| ZAA ?_
  have S := S.sel [5, 10, 9, 8, 1] rfl
  refine ZAB <| q_ad S rfl (by omega) fun a S => ?_
  refine q_mv S rfl fun a S => gnt <| ⟨k + 1, (S.sel [10] rfl).cons S 5 (by simp [List.lookup, hat]), S.sel [9, 8, 1] rfl, H, ⟨by omega, fun j hj => ?_⟩, by omega⟩
  by_cases hjk : j < k
  · exact hno j hjk
  obtain rfl : j = k := by omega
  rw [hat]; split at h3p <;> exact ⟨by omega, by omega, fun h0 => by omega⟩
 have h1p := h1; try simp only [DL] at h1p
 refine ZAf <| ZAO (ZAO (x_eq ?_))
 refine ZAA ?_
 have S := S.nil
 refine gsr <| q_as S rfl fun a S => gnt <| ZAe <| ret1 rfl S rfl ?_
 obtain rfl : k = xs.length := by omega
 exact ⟨congrArg Value.bool (ZBD.2 ⟨hno⟩).symm, H.toExt⟩
theorem any_of {α : Type} {xs : List α} {p : α → Bool} {z : Int} (h : (z = -1 ∧ ∀ x ∈ xs, p x = false) ∨ ∃ j : Nat, ∃ h : j < xs.length, z = j ∧ p xs[j] = true ∧ ∀ q (hq : q < xs.length), q < j → p xs[q] = false) : xs.any p = decide (z ≥ 0) := by
  rcases h with ⟨rfl, h⟩ | ⟨j, hj, rfl, hp, _⟩
  · rw [List.any_eq_false.2 (fun x hx => by simp [h x hx])]; rfl
  rw [List.any_eq_true.2 ⟨_, List.getElem_mem hj, hp⟩]; simp
theorem crdL_any (l : List Int) : (!(l.any fun n => !crdB n)) = crdL l := by
  unfold crdL; rw [List.all_eq_not_any_not]
theorem idxLv_spec (v : Value) (xs : List LevV) (f : FuncId) (cap : List Value) (he : Enters Tryz.prog f) (pr : LevV → Bool) (w0 : World) (hv : IsSl w0 v 8 LevV.enc xs)
    (hstep : ∀ x ∈ xs, ∀ w, Ext w0 w → Ret Tryz.prog f ([Value.agg (LevV.enc x).toArray] ++ cap).toArray w (fun u w' => u = .bool (pr x) ∧ Ext w w')) :
    Ret Tryz.prog 40 #[v, .func (.func f) #[] cap.toArray] w0 (fun u w => ∃ z : Int, u = .int .i64 z ∧ ((z = -1 ∧ ∀ x ∈ xs, pr x = false) ∨ ∃ j : Nat, ∃ h : j < xs.length, z = j ∧ pr xs[j] = true ∧ ∀ q (hq : q < xs.length), q < j → pr xs[q] = false) ∧ Ext w0 w) := by
 refine ZAE (nt := 19) Tryz.func40 rfl rfl rfl (fl := [(0, v), (1, .func (.func f) #[] cap.toArray)]) rfl (fun a S => ?_)
 have H := HSat.start w0
 have H := H.ro0 (Sl v 8 LevV.enc xs) rfl (hv)
 have hlen := hv.len
 refine gsr <| q_as S rfl fun a S => gnt <| ZAG <| gsr <| q_mv S rfl fun a S => gq rfl S (ZAT rfl underlying24 S H rfl) fun a S => q_mv S rfl fun a S => ?_
 refine gnt <| ZAD ?_
 have SU := S.sel [7, 0, 1] rfl
 refine ZB4 (X := Nat) SU (fun k => [(8, .int .i64 (k : Int))]) (fun k => k ≤ xs.length ∧ (∀ j (h : j < xs.length), j < k → pr xs[j] = false)) (fun k => xs.length - k) 0 (S.sel [8] rfl) H (⟨by omega, fun j h hj => by omega⟩) (fun k a w S H hi => ?_)
 simp only [List.cons_append, List.nil_append] at S hi
 obtain ⟨hk, hpr⟩ := hi
 refine gsr <| q_bn S rfl fun a S => gnt <| ZAG <| c_if S rfl (fun h1 => ?_) (fun h1 => ?_)
 ·have h1p := h1; try simp only [DL] at h1p
  refine ZAM <| ZAA <| ZAG <| ZAD <| gsr <| q_mv S rfl fun a S => q_as S rfl fun a S => gnt ?_
  refine gsr <| q_mv S rfl fun a S => q_mv S rfl fun a S => q_mv S rfl fun a S => gq rfl S (ZAI rfl underlying24 Fsiz79 S H rfl rfl (by omega)) fun a S => ?_
  refine gq rfl S (ZAk _ rfl S H rfl (by exact Fagg79) (by omega)) fun a S => ?_
  refine ZAF (ZAV (wn rfl) rfl rfl S (ZAp rfl he S rfl rfl) (hstep _ (List.getElem_mem (by omega)) w H.toExt) fun v w hc a S => ?_)
  obtain ⟨rfl, he1⟩ := hc
  have H := H.ext he1
  refine gnt ?_
  have S := S.sel [16, 5, 8, 7, 0, 1] rfl
  refine c_if S rfl (fun h2 => ?_) (fun h2 => ?_)
  ·have h2p := h2; try simp only [DL] at h2p
   refine gsr <| q_mv S rfl fun a S => q_as S rfl fun a S => gnt <| ZAe <| ZAm (ZAX (ZAX (ZAm (ZAX (ret1 rfl S rfl ?_)))))
   exact ⟨_, rfl, .inr ⟨k, by omega, rfl, h2, hpr⟩, H.toExt⟩
  have h2p := h2; try simp only [DL] at h2p
  refine ZAM <| ZAK <| ZAA <| ZAB <| q_ad S rfl (by omega) fun a S => ?_
  refine q_mv S rfl fun a S => gnt <| ⟨k + 1, S.sel [8] rfl, S.sel [7, 0, 1] rfl, H, ?_, ?_⟩
  · exact ⟨by omega, fun j h hj => by by_cases hjk : j < k; exact hpr j h hjk; (obtain rfl : j = k := by omega); exact h2⟩
  omega
 have h1p := h1; try simp only [DL] at h1p
 refine ZAf <| ZAO (ZAO (x_eq ?_))
 refine ZAA ?_
 have S := S.nil
 refine gsr <| q_as S rfl fun a S => gnt <| ZAe <| ret1 rfl S rfl ?_
 obtain rfl : k = xs.length := by omega
 exact ⟨_, rfl, .inl ⟨rfl, fun x hx => by obtain ⟨j, hj, rfl⟩ := List.getElem_of_mem hx; exact hpr j hj hj⟩, H.toExt⟩
theorem idxBl_spec (v : Value) (xs : List BlockV) (f : FuncId) (cap : List Value) (he : Enters Tryz.prog f) (pr : BlockV → Bool) (w0 : World) (hv : IsSl w0 v 3 BlockV.enc xs)
    (hstep : ∀ x ∈ xs, ∀ w, Ext w0 w → Ret Tryz.prog f ([Value.agg (BlockV.enc x).toArray] ++ cap).toArray w (fun u w' => u = .bool (pr x) ∧ Ext w w')) :
    Ret Tryz.prog 48 #[v, .func (.func f) #[] cap.toArray] w0 (fun u w => ∃ z : Int, u = .int .i64 z ∧ ((z = -1 ∧ ∀ x ∈ xs, pr x = false) ∨ ∃ j : Nat, ∃ h : j < xs.length, z = j ∧ pr xs[j] = true ∧ ∀ q (hq : q < xs.length), q < j → pr xs[q] = false) ∧ Ext w0 w) := by
 refine ZAE (nt := 19) Tryz.func48 rfl rfl rfl (fl := [(0, v), (1, .func (.func f) #[] cap.toArray)]) rfl (fun a S => ?_)
 have H := HSat.start w0
 have H := H.ro0 (Sl v 3 BlockV.enc xs) rfl (hv)
 have hlen := hv.len
 refine gsr <| q_as S rfl fun a S => gnt <| ZAG <| gsr <| q_mv S rfl fun a S => gq rfl S (ZAT rfl underlying74 S H rfl) fun a S => q_mv S rfl fun a S => ?_
 refine gnt <| ZAD ?_
 have SU := S.sel [7, 0, 1] rfl
 refine ZB4 (X := Nat) SU (fun k => [(8, .int .i64 (k : Int))]) (fun k => k ≤ xs.length ∧ (∀ j (h : j < xs.length), j < k → pr xs[j] = false)) (fun k => xs.length - k) 0 (S.sel [8] rfl) H (⟨by omega, fun j h hj => by omega⟩) (fun k a w S H hi => ?_)
 simp only [List.cons_append, List.nil_append] at S hi
 obtain ⟨hk, hpr⟩ := hi
 refine gsr <| q_bn S rfl fun a S => gnt <| ZAG <| c_if S rfl (fun h1 => ?_) (fun h1 => ?_)
 ·have h1p := h1; try simp only [DL] at h1p
  refine ZAM <| ZAA <| ZAG <| ZAD <| gsr <| q_mv S rfl fun a S => q_as S rfl fun a S => gnt ?_
  refine gsr <| q_mv S rfl fun a S => q_mv S rfl fun a S => q_mv S rfl fun a S => gq rfl S (ZAI rfl underlying74 Fsiz73 S H rfl rfl (by omega)) fun a S => ?_
  refine gq rfl S (ZAk _ rfl S H rfl (by exact Fagg73) (by omega)) fun a S => ?_
  refine ZAF (ZAV (wn rfl) rfl rfl S (ZAp rfl he S rfl rfl) (hstep _ (List.getElem_mem (by omega)) w H.toExt) fun v w hc a S => ?_)
  obtain ⟨rfl, he1⟩ := hc
  have H := H.ext he1
  refine gnt ?_
  have S := S.sel [16, 5, 8, 7, 0, 1] rfl
  refine c_if S rfl (fun h2 => ?_) (fun h2 => ?_)
  ·have h2p := h2; try simp only [DL] at h2p
   refine gsr <| q_mv S rfl fun a S => q_as S rfl fun a S => gnt <| ZAe <| ZAm (ZAX (ZAX (ZAm (ZAX (ret1 rfl S rfl ?_)))))
   exact ⟨_, rfl, .inr ⟨k, by omega, rfl, h2, hpr⟩, H.toExt⟩
  have h2p := h2; try simp only [DL] at h2p
  refine ZAM <| ZAK <| ZAA <| ZAB <| q_ad S rfl (by omega) fun a S => ?_
  refine q_mv S rfl fun a S => gnt <| ⟨k + 1, S.sel [8] rfl, S.sel [7, 0, 1] rfl, H, ?_, ?_⟩
  · exact ⟨by omega, fun j h hj => by by_cases hjk : j < k; exact hpr j h hjk; (obtain rfl : j = k := by omega); exact h2⟩
  omega
 have h1p := h1; try simp only [DL] at h1p
 refine ZAf <| ZAO (ZAO (x_eq ?_))
 refine ZAA ?_
 have S := S.nil
 refine gsr <| q_as S rfl fun a S => gnt <| ZAe <| ret1 rfl S rfl ?_
 obtain rfl : k = xs.length := by omega
 exact ⟨_, rfl, .inl ⟨rfl, fun x hx => by obtain ⟨j, hj, rfl⟩ := List.getElem_of_mem hx; exact hpr j hj hj⟩, H.toExt⟩
theorem idxRw_spec (v : Value) (xs : List RowV) (f : FuncId) (cap : List Value) (he : Enters Tryz.prog f) (pr : RowV → Bool) (w0 : World) (hv : IsSl w0 v 8 RowV.enc xs)
    (hstep : ∀ x ∈ xs, ∀ w, Ext w0 w → Ret Tryz.prog f ([Value.agg (RowV.enc x).toArray] ++ cap).toArray w (fun u w' => u = .bool (pr x) ∧ Ext w w')) :
    Ret Tryz.prog 50 #[v, .func (.func f) #[] cap.toArray] w0 (fun u w => ∃ z : Int, u = .int .i64 z ∧ ((z = -1 ∧ ∀ x ∈ xs, pr x = false) ∨ ∃ j : Nat, ∃ h : j < xs.length, z = j ∧ pr xs[j] = true ∧ ∀ q (hq : q < xs.length), q < j → pr xs[q] = false) ∧ Ext w0 w) := by
 refine ZAE (nt := 19) Tryz.func50 rfl rfl rfl (fl := [(0, v), (1, .func (.func f) #[] cap.toArray)]) rfl (fun a S => ?_)
 have H := HSat.start w0
 have H := H.ro0 (Sl v 8 RowV.enc xs) rfl (hv)
 have hlen := hv.len
 refine gsr <| q_as S rfl fun a S => gnt <| ZAG <| gsr <| q_mv S rfl fun a S => gq rfl S (ZAT rfl underlying71 S H rfl) fun a S => q_mv S rfl fun a S => ?_
 refine gnt <| ZAD ?_
 have SU := S.sel [7, 0, 1] rfl
 refine ZB4 (X := Nat) SU (fun k => [(8, .int .i64 (k : Int))]) (fun k => k ≤ xs.length ∧ (∀ j (h : j < xs.length), j < k → pr xs[j] = false)) (fun k => xs.length - k) 0 (S.sel [8] rfl) H (⟨by omega, fun j h hj => by omega⟩) (fun k a w S H hi => ?_)
 simp only [List.cons_append, List.nil_append] at S hi
 obtain ⟨hk, hpr⟩ := hi
 refine gsr <| q_bn S rfl fun a S => gnt <| ZAG <| c_if S rfl (fun h1 => ?_) (fun h1 => ?_)
 ·have h1p := h1; try simp only [DL] at h1p
  refine ZAM <| ZAA <| ZAG <| ZAD <| gsr <| q_mv S rfl fun a S => q_as S rfl fun a S => gnt ?_
  refine gsr <| q_mv S rfl fun a S => q_mv S rfl fun a S => q_mv S rfl fun a S => gq rfl S (ZAI rfl underlying71 Fsiz70 S H rfl rfl (by omega)) fun a S => ?_
  refine gq rfl S (ZAk _ rfl S H rfl (by exact Fagg70) (by omega)) fun a S => ?_
  refine ZAF (ZAV (wn rfl) rfl rfl S (ZAp rfl he S rfl rfl) (hstep _ (List.getElem_mem (by omega)) w H.toExt) fun v w hc a S => ?_)
  obtain ⟨rfl, he1⟩ := hc
  have H := H.ext he1
  refine gnt ?_
  have S := S.sel [16, 5, 8, 7, 0, 1] rfl
  refine c_if S rfl (fun h2 => ?_) (fun h2 => ?_)
  ·have h2p := h2; try simp only [DL] at h2p
   refine gsr <| q_mv S rfl fun a S => q_as S rfl fun a S => gnt <| ZAe <| ZAm (ZAX (ZAX (ZAm (ZAX (ret1 rfl S rfl ?_)))))
   exact ⟨_, rfl, .inr ⟨k, by omega, rfl, h2, hpr⟩, H.toExt⟩
  have h2p := h2; try simp only [DL] at h2p
  refine ZAM <| ZAK <| ZAA <| ZAB <| q_ad S rfl (by omega) fun a S => ?_
  refine q_mv S rfl fun a S => gnt <| ⟨k + 1, S.sel [8] rfl, S.sel [7, 0, 1] rfl, H, ?_, ?_⟩
  · exact ⟨by omega, fun j h hj => by by_cases hjk : j < k; exact hpr j h hjk; (obtain rfl : j = k := by omega); exact h2⟩
  omega
 have h1p := h1; try simp only [DL] at h1p
 refine ZAf <| ZAO (ZAO (x_eq ?_))
 refine ZAA ?_
 have S := S.nil
 refine gsr <| q_as S rfl fun a S => gnt <| ZAe <| ret1 rfl S rfl ?_
 obtain rfl : k = xs.length := by omega
 exact ⟨_, rfl, .inl ⟨rfl, fun x hx => by obtain ⟨j, hj, rfl⟩ := List.getElem_of_mem hx; exact hpr j hj hj⟩, H.toExt⟩
theorem idxAr_spec (v : Value) (xs : List AreaV) (f : FuncId) (cap : List Value) (he : Enters Tryz.prog f) (pr : AreaV → Bool) (w0 : World) (hv : IsSl w0 v 7 AreaV.enc xs)
    (hstep : ∀ x ∈ xs, ∀ w, Ext w0 w → Ret Tryz.prog f ([Value.agg (AreaV.enc x).toArray] ++ cap).toArray w (fun u w' => u = .bool (pr x) ∧ Ext w w')) :
    Ret Tryz.prog 55 #[v, .func (.func f) #[] cap.toArray] w0 (fun u w => ∃ z : Int, u = .int .i64 z ∧ ((z = -1 ∧ ∀ x ∈ xs, pr x = false) ∨ ∃ j : Nat, ∃ h : j < xs.length, z = j ∧ pr xs[j] = true ∧ ∀ q (hq : q < xs.length), q < j → pr xs[q] = false) ∧ Ext w0 w) := by
 refine ZAE (nt := 19) Tryz.func55 rfl rfl rfl (fl := [(0, v), (1, .func (.func f) #[] cap.toArray)]) rfl (fun a S => ?_)
 have H := HSat.start w0
 have H := H.ro0 (Sl v 7 AreaV.enc xs) rfl (hv)
 have hlen := hv.len
 refine gsr <| q_as S rfl fun a S => gnt <| ZAG <| gsr <| q_mv S rfl fun a S => gq rfl S (ZAT rfl underlying75 S H rfl) fun a S => q_mv S rfl fun a S => ?_
 refine gnt <| ZAD ?_
 have SU := S.sel [7, 0, 1] rfl
 refine ZB4 (X := Nat) SU (fun k => [(8, .int .i64 (k : Int))]) (fun k => k ≤ xs.length ∧ (∀ j (h : j < xs.length), j < k → pr xs[j] = false)) (fun k => xs.length - k) 0 (S.sel [8] rfl) H (⟨by omega, fun j h hj => by omega⟩) (fun k a w S H hi => ?_)
 simp only [List.cons_append, List.nil_append] at S hi
 obtain ⟨hk, hpr⟩ := hi
 refine gsr <| q_bn S rfl fun a S => gnt <| ZAG <| c_if S rfl (fun h1 => ?_) (fun h1 => ?_)
 ·have h1p := h1; try simp only [DL] at h1p
  refine ZAM <| ZAA <| ZAG <| ZAD <| gsr <| q_mv S rfl fun a S => q_as S rfl fun a S => gnt ?_
  refine gsr <| q_mv S rfl fun a S => q_mv S rfl fun a S => q_mv S rfl fun a S => gq rfl S (ZAI rfl underlying75 Fsiz92 S H rfl rfl (by omega)) fun a S => ?_
  refine gq rfl S (ZAk _ rfl S H rfl (by exact Fagg92) (by omega)) fun a S => ?_
  refine ZAF (ZAV (wn rfl) rfl rfl S (ZAp rfl he S rfl rfl) (hstep _ (List.getElem_mem (by omega)) w H.toExt) fun v w hc a S => ?_)
  obtain ⟨rfl, he1⟩ := hc
  have H := H.ext he1
  refine gnt ?_
  have S := S.sel [16, 5, 8, 7, 0, 1] rfl
  refine c_if S rfl (fun h2 => ?_) (fun h2 => ?_)
  ·have h2p := h2; try simp only [DL] at h2p
   refine gsr <| q_mv S rfl fun a S => q_as S rfl fun a S => gnt <| ZAe <| ZAm (ZAX (ZAX (ZAm (ZAX (ret1 rfl S rfl ?_)))))
   exact ⟨_, rfl, .inr ⟨k, by omega, rfl, h2, hpr⟩, H.toExt⟩
  have h2p := h2; try simp only [DL] at h2p
  refine ZAM <| ZAK <| ZAA <| ZAB <| q_ad S rfl (by omega) fun a S => ?_
  refine q_mv S rfl fun a S => gnt <| ⟨k + 1, S.sel [8] rfl, S.sel [7, 0, 1] rfl, H, ?_, ?_⟩
  · exact ⟨by omega, fun j h hj => by by_cases hjk : j < k; exact hpr j h hjk; (obtain rfl : j = k := by omega); exact h2⟩
  omega
 have h1p := h1; try simp only [DL] at h1p
 refine ZAf <| ZAO (ZAO (x_eq ?_))
 refine ZAA ?_
 have S := S.nil
 refine gsr <| q_as S rfl fun a S => gnt <| ZAe <| ret1 rfl S rfl ?_
 obtain rfl : k = xs.length := by omega
 exact ⟨_, rfl, .inl ⟨rfl, fun x hx => by obtain ⟨j, hj, rfl⟩ := List.getElem_of_mem hx; exact hpr j hj hj⟩, H.toExt⟩
theorem idxMk_spec (v : Value) (xs : List MarkV) (f : FuncId) (cap : List Value) (he : Enters Tryz.prog f) (pr : MarkV → Bool) (w0 : World) (hv : IsSl w0 v 3 MarkV.enc xs)
    (hstep : ∀ x ∈ xs, ∀ w, Ext w0 w → Ret Tryz.prog f ([Value.agg (MarkV.enc x).toArray] ++ cap).toArray w (fun u w' => u = .bool (pr x) ∧ Ext w w')) :
    Ret Tryz.prog 96 #[v, .func (.func f) #[] cap.toArray] w0 (fun u w => ∃ z : Int, u = .int .i64 z ∧ ((z = -1 ∧ ∀ x ∈ xs, pr x = false) ∨ ∃ j : Nat, ∃ h : j < xs.length, z = j ∧ pr xs[j] = true ∧ ∀ q (hq : q < xs.length), q < j → pr xs[q] = false) ∧ Ext w0 w) := by
 refine ZAE (nt := 19) Tryz.func96 rfl rfl rfl (fl := [(0, v), (1, .func (.func f) #[] cap.toArray)]) rfl (fun a S => ?_)
 have H := HSat.start w0
 have H := H.ro0 (Sl v 3 MarkV.enc xs) rfl (hv)
 have hlen := hv.len
 refine gsr <| q_as S rfl fun a S => gnt <| ZAG <| gsr <| q_mv S rfl fun a S => gq rfl S (ZAT rfl underlying68 S H rfl) fun a S => q_mv S rfl fun a S => ?_
 refine gnt <| ZAD ?_
 have SU := S.sel [7, 0, 1] rfl
 refine ZB4 (X := Nat) SU (fun k => [(8, .int .i64 (k : Int))]) (fun k => k ≤ xs.length ∧ (∀ j (h : j < xs.length), j < k → pr xs[j] = false)) (fun k => xs.length - k) 0 (S.sel [8] rfl) H (⟨by omega, fun j h hj => by omega⟩) (fun k a w S H hi => ?_)
 simp only [List.cons_append, List.nil_append] at S hi
 obtain ⟨hk, hpr⟩ := hi
 refine gsr <| q_bn S rfl fun a S => gnt <| ZAG <| c_if S rfl (fun h1 => ?_) (fun h1 => ?_)
 ·have h1p := h1; try simp only [DL] at h1p
  refine ZAM <| ZAA <| ZAG <| ZAD <| gsr <| q_mv S rfl fun a S => q_as S rfl fun a S => gnt ?_
  refine gsr <| q_mv S rfl fun a S => q_mv S rfl fun a S => q_mv S rfl fun a S => gq rfl S (ZAI rfl underlying68 Fsiz128 S H rfl rfl (by omega)) fun a S => ?_
  refine gq rfl S (ZAk _ rfl S H rfl (by exact Fagg128) (by omega)) fun a S => ?_
  refine ZAF (ZAV (wn rfl) rfl rfl S (ZAp rfl he S rfl rfl) (hstep _ (List.getElem_mem (by omega)) w H.toExt) fun v w hc a S => ?_)
  obtain ⟨rfl, he1⟩ := hc
  have H := H.ext he1
  refine gnt ?_
  have S := S.sel [16, 5, 8, 7, 0, 1] rfl
  refine c_if S rfl (fun h2 => ?_) (fun h2 => ?_)
  ·have h2p := h2; try simp only [DL] at h2p
   refine gsr <| q_mv S rfl fun a S => q_as S rfl fun a S => gnt <| ZAe <| ZAm (ZAX (ZAX (ZAm (ZAX (ret1 rfl S rfl ?_)))))
   exact ⟨_, rfl, .inr ⟨k, by omega, rfl, h2, hpr⟩, H.toExt⟩
  have h2p := h2; try simp only [DL] at h2p
  refine ZAM <| ZAK <| ZAA <| ZAB <| q_ad S rfl (by omega) fun a S => ?_
  refine q_mv S rfl fun a S => gnt <| ⟨k + 1, S.sel [8] rfl, S.sel [7, 0, 1] rfl, H, ?_, ?_⟩
  · exact ⟨by omega, fun j h hj => by by_cases hjk : j < k; exact hpr j h hjk; (obtain rfl : j = k := by omega); exact h2⟩
  omega
 have h1p := h1; try simp only [DL] at h1p
 refine ZAf <| ZAO (ZAO (x_eq ?_))
 refine ZAA ?_
 have S := S.nil
 refine gsr <| q_as S rfl fun a S => gnt <| ZAe <| ret1 rfl S rfl ?_
 obtain rfl : k = xs.length := by omega
 exact ⟨_, rfl, .inl ⟨rfl, fun x hx => by obtain ⟨j, hj, rfl⟩ := List.getElem_of_mem hx; exact hpr j hj hj⟩, H.toExt⟩
theorem idxBx_spec (v : Value) (xs : List BoxV) (f : FuncId) (cap : List Value) (he : Enters Tryz.prog f) (pr : BoxV → Bool) (w0 : World) (hv : IsSl w0 v 4 BoxV.enc xs)
    (hstep : ∀ x ∈ xs, ∀ w, Ext w0 w → Ret Tryz.prog f ([Value.agg (BoxV.enc x).toArray] ++ cap).toArray w (fun u w' => u = .bool (pr x) ∧ Ext w w')) :
    Ret Tryz.prog 94 #[v, .func (.func f) #[] cap.toArray] w0 (fun u w => ∃ z : Int, u = .int .i64 z ∧ ((z = -1 ∧ ∀ x ∈ xs, pr x = false) ∨ ∃ j : Nat, ∃ h : j < xs.length, z = j ∧ pr xs[j] = true ∧ ∀ q (hq : q < xs.length), q < j → pr xs[q] = false) ∧ Ext w0 w) := by
 refine ZAE (nt := 19) Tryz.func94 rfl rfl rfl (fl := [(0, v), (1, .func (.func f) #[] cap.toArray)]) rfl (fun a S => ?_)
 have H := HSat.start w0
 have H := H.ro0 (Sl v 4 BoxV.enc xs) rfl (hv)
 have hlen := hv.len
 refine gsr <| q_as S rfl fun a S => gnt <| ZAG <| gsr <| q_mv S rfl fun a S => gq rfl S (ZAT rfl underlying76 S H rfl) fun a S => q_mv S rfl fun a S => ?_
 refine gnt <| ZAD ?_
 have SU := S.sel [7, 0, 1] rfl
 refine ZB4 (X := Nat) SU (fun k => [(8, .int .i64 (k : Int))]) (fun k => k ≤ xs.length ∧ (∀ j (h : j < xs.length), j < k → pr xs[j] = false)) (fun k => xs.length - k) 0 (S.sel [8] rfl) H (⟨by omega, fun j h hj => by omega⟩) (fun k a w S H hi => ?_)
 simp only [List.cons_append, List.nil_append] at S hi
 obtain ⟨hk, hpr⟩ := hi
 refine gsr <| q_bn S rfl fun a S => gnt <| ZAG <| c_if S rfl (fun h1 => ?_) (fun h1 => ?_)
 ·have h1p := h1; try simp only [DL] at h1p
  refine ZAM <| ZAA <| ZAG <| ZAD <| gsr <| q_mv S rfl fun a S => q_as S rfl fun a S => gnt ?_
  refine gsr <| q_mv S rfl fun a S => q_mv S rfl fun a S => q_mv S rfl fun a S => gq rfl S (ZAI rfl underlying76 Fsiz90 S H rfl rfl (by omega)) fun a S => ?_
  refine gq rfl S (ZAk _ rfl S H rfl (by exact Fagg90) (by omega)) fun a S => ?_
  refine ZAF (ZAV (wn rfl) rfl rfl S (ZAp rfl he S rfl rfl) (hstep _ (List.getElem_mem (by omega)) w H.toExt) fun v w hc a S => ?_)
  obtain ⟨rfl, he1⟩ := hc
  have H := H.ext he1
  refine gnt ?_
  have S := S.sel [16, 5, 8, 7, 0, 1] rfl
  refine c_if S rfl (fun h2 => ?_) (fun h2 => ?_)
  ·have h2p := h2; try simp only [DL] at h2p
   refine gsr <| q_mv S rfl fun a S => q_as S rfl fun a S => gnt <| ZAe <| ZAm (ZAX (ZAX (ZAm (ZAX (ret1 rfl S rfl ?_)))))
   exact ⟨_, rfl, .inr ⟨k, by omega, rfl, h2, hpr⟩, H.toExt⟩
  have h2p := h2; try simp only [DL] at h2p
  refine ZAM <| ZAK <| ZAA <| ZAB <| q_ad S rfl (by omega) fun a S => ?_
  refine q_mv S rfl fun a S => gnt <| ⟨k + 1, S.sel [8] rfl, S.sel [7, 0, 1] rfl, H, ?_, ?_⟩
  · exact ⟨by omega, fun j h hj => by by_cases hjk : j < k; exact hpr j h hjk; (obtain rfl : j = k := by omega); exact h2⟩
  omega
 have h1p := h1; try simp only [DL] at h1p
 refine ZAf <| ZAO (ZAO (x_eq ?_))
 refine ZAA ?_
 have S := S.nil
 refine gsr <| q_as S rfl fun a S => gnt <| ZAe <| ret1 rfl S rfl ?_
 obtain rfl : k = xs.length := by omega
 exact ⟨_, rfl, .inl ⟨rfl, fun x hx => by obtain ⟨j, hj, rfl⟩ := List.getElem_of_mem hx; exact hpr j hj hj⟩, H.toExt⟩
theorem idxPt_spec (v : Value) (xs : List PtV) (f : FuncId) (cap : List Value) (he : Enters Tryz.prog f) (pr : PtV → Bool) (w0 : World) (hv : IsSl w0 v 2 PtV.enc xs)
    (hstep : ∀ x ∈ xs, ∀ w, Ext w0 w → Ret Tryz.prog f ([Value.agg (PtV.enc x).toArray] ++ cap).toArray w (fun u w' => u = .bool (pr x) ∧ Ext w w')) :
    Ret Tryz.prog 95 #[v, .func (.func f) #[] cap.toArray] w0 (fun u w => ∃ z : Int, u = .int .i64 z ∧ ((z = -1 ∧ ∀ x ∈ xs, pr x = false) ∨ ∃ j : Nat, ∃ h : j < xs.length, z = j ∧ pr xs[j] = true ∧ ∀ q (hq : q < xs.length), q < j → pr xs[q] = false) ∧ Ext w0 w) := by
 refine ZAE (nt := 19) Tryz.func95 rfl rfl rfl (fl := [(0, v), (1, .func (.func f) #[] cap.toArray)]) rfl (fun a S => ?_)
 have H := HSat.start w0
 have H := H.ro0 (Sl v 2 PtV.enc xs) rfl (hv)
 have hlen := hv.len
 refine gsr <| q_as S rfl fun a S => gnt <| ZAG <| gsr <| q_mv S rfl fun a S => gq rfl S (ZAT rfl underlying77 S H rfl) fun a S => q_mv S rfl fun a S => ?_
 refine gnt <| ZAD ?_
 have SU := S.sel [7, 0, 1] rfl
 refine ZB4 (X := Nat) SU (fun k => [(8, .int .i64 (k : Int))]) (fun k => k ≤ xs.length ∧ (∀ j (h : j < xs.length), j < k → pr xs[j] = false)) (fun k => xs.length - k) 0 (S.sel [8] rfl) H (⟨by omega, fun j h hj => by omega⟩) (fun k a w S H hi => ?_)
 simp only [List.cons_append, List.nil_append] at S hi
 obtain ⟨hk, hpr⟩ := hi
 refine gsr <| q_bn S rfl fun a S => gnt <| ZAG <| c_if S rfl (fun h1 => ?_) (fun h1 => ?_)
 ·have h1p := h1; try simp only [DL] at h1p
  refine ZAM <| ZAA <| ZAG <| ZAD <| gsr <| q_mv S rfl fun a S => q_as S rfl fun a S => gnt ?_
  refine gsr <| q_mv S rfl fun a S => q_mv S rfl fun a S => q_mv S rfl fun a S => gq rfl S (ZAI rfl underlying77 Fsiz23 S H rfl rfl (by omega)) fun a S => ?_
  refine gq rfl S (ZAk _ rfl S H rfl (by exact Fagg23) (by omega)) fun a S => ?_
  refine ZAF (ZAV (wn rfl) rfl rfl S (ZAp rfl he S rfl rfl) (hstep _ (List.getElem_mem (by omega)) w H.toExt) fun v w hc a S => ?_)
  obtain ⟨rfl, he1⟩ := hc
  have H := H.ext he1
  refine gnt ?_
  have S := S.sel [16, 5, 8, 7, 0, 1] rfl
  refine c_if S rfl (fun h2 => ?_) (fun h2 => ?_)
  ·have h2p := h2; try simp only [DL] at h2p
   refine gsr <| q_mv S rfl fun a S => q_as S rfl fun a S => gnt <| ZAe <| ZAm (ZAX (ZAX (ZAm (ZAX (ret1 rfl S rfl ?_)))))
   exact ⟨_, rfl, .inr ⟨k, by omega, rfl, h2, hpr⟩, H.toExt⟩
  have h2p := h2; try simp only [DL] at h2p
  refine ZAM <| ZAK <| ZAA <| ZAB <| q_ad S rfl (by omega) fun a S => ?_
  refine q_mv S rfl fun a S => gnt <| ⟨k + 1, S.sel [8] rfl, S.sel [7, 0, 1] rfl, H, ?_, ?_⟩
  · exact ⟨by omega, fun j h hj => by by_cases hjk : j < k; exact hpr j h hjk; (obtain rfl : j = k := by omega); exact h2⟩
  omega
 have h1p := h1; try simp only [DL] at h1p
 refine ZAf <| ZAO (ZAO (x_eq ?_))
 refine ZAA ?_
 have S := S.nil
 refine gsr <| q_as S rfl fun a S => gnt <| ZAe <| ret1 rfl S rfl ?_
 obtain rfl : k = xs.length := by omega
 exact ⟨_, rfl, .inl ⟨rfl, fun x hx => by obtain ⟨j, hj, rfl⟩ := List.getElem_of_mem hx; exact hpr j hj hj⟩, H.toExt⟩
theorem contMk_spec (v : Value) (xs : List MarkV) (f : FuncId) (cap : List Value) (he : Enters Tryz.prog f) (pr : MarkV → Bool) (w0 : World) (hv : IsSl w0 v 3 MarkV.enc xs)
    (hstep : ∀ x ∈ xs, ∀ w, Ext w0 w → Ret Tryz.prog f ([Value.agg (MarkV.enc x).toArray] ++ cap).toArray w (fun u w' => u = .bool (pr x) ∧ Ext w w')) :
    Ret Tryz.prog 52 #[v, .func (.func f) #[] cap.toArray] w0 (fun u w => u = .bool (xs.any pr) ∧ Ext w0 w) := by
 refine ZAE (nt := 9) Tryz.func52 rfl rfl rfl (fl := [(0, v), (1, .func (.func f) #[] cap.toArray)]) rfl (fun a S => ?_)
 have H := HSat.start w0
 refine gsr <| q_as S rfl fun a S => gnt <| gsr <| q_mv S rfl fun a S => q_mv S rfl fun a S => q_cl S rfl call96 (Ret.mono (idxMk_spec v xs f cap he pr w0 hv hstep) (fun u w h => (show ∃ i : Int, u = .int .i64 i ∧ xs.any pr = decide (i ≥ 0) ∧ Ext w0 w from by obtain ⟨z, h1, h2, h3⟩ := h; exact ⟨z, h1, any_of h2, h3⟩))) fun v w hc a S => ?_
 obtain ⟨i, rfl, hany, he1⟩ := hc
 have H := H.ext he1
 refine q_bn S rfl fun a S => q_as S rfl fun a S => gnt ?_
 have S := S.sel [4] rfl
 exact ZAe <| ret1 rfl S rfl <| ⟨by rw [hany], H.toExt⟩
theorem contBx_spec (v : Value) (xs : List BoxV) (f : FuncId) (cap : List Value) (he : Enters Tryz.prog f) (pr : BoxV → Bool) (w0 : World) (hv : IsSl w0 v 4 BoxV.enc xs)
    (hstep : ∀ x ∈ xs, ∀ w, Ext w0 w → Ret Tryz.prog f ([Value.agg (BoxV.enc x).toArray] ++ cap).toArray w (fun u w' => u = .bool (pr x) ∧ Ext w w')) :
    Ret Tryz.prog 43 #[v, .func (.func f) #[] cap.toArray] w0 (fun u w => u = .bool (xs.any pr) ∧ Ext w0 w) := by
 refine ZAE (nt := 9) Tryz.func43 rfl rfl rfl (fl := [(0, v), (1, .func (.func f) #[] cap.toArray)]) rfl (fun a S => ?_)
 have H := HSat.start w0
 refine gsr <| q_as S rfl fun a S => gnt <| gsr <| q_mv S rfl fun a S => q_mv S rfl fun a S => q_cl S rfl call94 (Ret.mono (idxBx_spec v xs f cap he pr w0 hv hstep) (fun u w h => (show ∃ i : Int, u = .int .i64 i ∧ xs.any pr = decide (i ≥ 0) ∧ Ext w0 w from by obtain ⟨z, h1, h2, h3⟩ := h; exact ⟨z, h1, any_of h2, h3⟩))) fun v w hc a S => ?_
 obtain ⟨i, rfl, hany, he1⟩ := hc
 have H := H.ext he1
 refine q_bn S rfl fun a S => q_as S rfl fun a S => gnt ?_
 have S := S.sel [4] rfl
 exact ZAe <| ret1 rfl S rfl <| ⟨by rw [hany], H.toExt⟩
theorem contPt_spec (v : Value) (xs : List PtV) (f : FuncId) (cap : List Value) (he : Enters Tryz.prog f) (pr : PtV → Bool) (w0 : World) (hv : IsSl w0 v 2 PtV.enc xs)
    (hstep : ∀ x ∈ xs, ∀ w, Ext w0 w → Ret Tryz.prog f ([Value.agg (PtV.enc x).toArray] ++ cap).toArray w (fun u w' => u = .bool (pr x) ∧ Ext w w')) :
    Ret Tryz.prog 46 #[v, .func (.func f) #[] cap.toArray] w0 (fun u w => u = .bool (xs.any pr) ∧ Ext w0 w) := by
 refine ZAE (nt := 9) Tryz.func46 rfl rfl rfl (fl := [(0, v), (1, .func (.func f) #[] cap.toArray)]) rfl (fun a S => ?_)
 have H := HSat.start w0
 refine gsr <| q_as S rfl fun a S => gnt <| gsr <| q_mv S rfl fun a S => q_mv S rfl fun a S => q_cl S rfl call95 (Ret.mono (idxPt_spec v xs f cap he pr w0 hv hstep) (fun u w h => (show ∃ i : Int, u = .int .i64 i ∧ xs.any pr = decide (i ≥ 0) ∧ Ext w0 w from by obtain ⟨z, h1, h2, h3⟩ := h; exact ⟨z, h1, any_of h2, h3⟩))) fun v w hc a S => ?_
 obtain ⟨i, rfl, hany, he1⟩ := hc
 have H := H.ext he1
 refine q_bn S rfl fun a S => q_as S rfl fun a S => gnt ?_
 have S := S.sel [4] rfl
 exact ZAe <| ret1 rfl S rfl <| ⟨by rw [hany], H.toExt⟩
theorem crd1_spec (n : Int) (w0 : World) :
    Ret Tryz.prog 58 #[.int .i64 n] w0 (fun u w => u = .bool (!crdB n) ∧ Ext w0 w) := by
 refine ZAE (nt := 9) Tryz.func58 rfl rfl rfl (fl := [(0, .int .i64 n)]) rfl (fun a S => ?_)
 have H := HSat.start w0
 refine gsr <| q_as S rfl fun a S => gnt <| gsr <| q_mv S rfl fun a S => q_bn S rfl fun a S => q_mv S rfl fun a S => ?_
 refine' ZBH 2 5 rfl S H rfl rfl rfl rfl rfl rfl rfl (fun _ S => (wn rfl)) (fun h1 kk => ?yh1) (fun a w S H => ?_)
 case yh1 =>
  exact gz 5 h1 S rfl rfl rfl rfl rfl rfl (ZAL rfl S rfl) fun a S => gz 5 h1 S rfl rfl rfl rfl rfl rfl (ZAn rfl S rfl rfl rfl) fun a S => gq rfl S (ZAz rfl h1 S rfl rfl) fun a S => kk _ _ (S.join 3 8 rfl rfl) H
 refine q_as S rfl fun a S => gnt ?_
 have S := S.sel [2] rfl
 exact ZAe <| ret1 rfl S rfl <| ⟨by simp [crdB], H.toExt⟩
theorem crd_spec (v : Value) (xs : List Int) (w0 : World) (hv : IsSl w0 v 1 encI xs) :
    Ret Tryz.prog 23 #[v] w0 (fun u w => u = .bool (crdL xs) ∧ Ext w0 w) := by
 refine ZAE (nt := 6) Tryz.func23 rfl rfl rfl (fl := [(0, v)]) rfl (fun a S => ?_)
 have H := HSat.start w0
 have H := H.ro0 (Sl v 1 encI xs) rfl (hv)
 refine gsr <| q_as S rfl fun a S => gnt <| gsr <| q_mv S rfl fun a S => q_cl S rfl call36 (containsFunc_spec v xs 58 [] call58 (fun n => !crdB n) _ (H.sl v) (fun n hn w hw => crd1_spec n w)) fun v w hc a S => ?_
 obtain ⟨rfl, he⟩ := hc
 have H := H.ext he
 refine gq rfl S (ZBV rfl S rfl) fun a S => q_as S rfl fun a S => gnt ?_
 have S := S.sel [2] rfl
 exact ZAe <| ret1 rfl S rfl <| ⟨by rw [crdL_any], H.toExt⟩
theorem box_spec (b : BoxV) (w0 : World) :
    Ret Tryz.prog 45 #[.agg (BoxV.enc b).toArray] w0 (fun u w => u = .bool (boxB b) ∧ Ext w0 w) := by
 refine ZAE (nt := 27) Tryz.func45 rfl rfl rfl (fl := [(0, .agg (BoxV.enc b).toArray)]) rfl (fun a S => ?_)
 have H := HSat.start w0
 refine gsr <| ZAF (ZAu (wn rfl) rfl rfl rfl S H rfl fun b1 a w S H => q_as S rfl fun a S => gnt ?_)
 refine gsr <| q_fa S Ffo90_0 rfl fun a S => q_ld S H ZAN rfl rfl fun a S => q_fa S Ffo90_1 rfl fun a S => q_ld S H ZAN rfl rfl fun a S => q_fa S Ffo90_2 rfl fun a S => q_ld S H ZAN rfl rfl fun a S => q_fa S Ffo90_3 rfl fun a S => ?_
 refine q_ld S H ZAN rfl rfl fun a S => ZAF (ZAP (wn rfl) rfl rfl rfl underlying37 Finf3 S H (idx := [0, 1, 2, 3]) rfl rfl rfl (z := [.int .i64 0, .int .i64 0, .int .i64 0, .int .i64 0]) (by kernel_rfl) (cs := [_, _, _, _]) rfl fun b11 a w S H => ?_)
 refine q_cl S rfl call23 (crd_spec _ [b.x, b.y, b.x2, b.y2] _ (H.slb b11 [b.x, b.y, b.x2, b.y2] encI 1 rfl rfl (by intro x _; rfl) (by simp))) fun v w hc a S => ?_
 obtain ⟨rfl, he⟩ := hc
 have H := H.ext he
 refine q_mv S rfl fun a S => ?_
 refine' wl_and 5 13 rfl S H rfl rfl rfl rfl rfl rfl rfl (fun _ S => (wn rfl)) (fun h1 kk => ?yh1) (fun a w S H => ?_)
 case yh1 =>
  exact gz 13 h1 S rfl rfl rfl rfl rfl rfl (ZAC rfl Ffo90_0 S rfl) fun a S => gz 13 h1 S rfl rfl rfl rfl rfl rfl (ZAJ rfl ZAN S H rfl rfl) fun a S => gz 13 h1 S rfl rfl rfl rfl rfl rfl (ZAC rfl Ffo90_2 S rfl) fun a S => gz 13 h1 S rfl rfl rfl rfl rfl rfl (ZAJ rfl ZAN S H rfl rfl) fun a S => gz 13 h1 S rfl rfl rfl rfl rfl rfl (ZAn rfl S rfl rfl rfl) fun a S => gq rfl S (ZBf rfl h1 S rfl rfl) fun a S => kk _ _ (S.join 6 19 rfl rfl) H
 refine q_mv S rfl fun a S => ?_
 refine' wl_and 5 20 rfl S H rfl rfl rfl rfl rfl rfl rfl (fun _ S => (wn rfl)) (fun h2 kk => ?yh2) (fun a w S H => ?_)
 case yh2 =>
  exact gz 20 h2 S rfl rfl rfl rfl rfl rfl (ZAC rfl Ffo90_1 S rfl) fun a S => gz 20 h2 S rfl rfl rfl rfl rfl rfl (ZAJ rfl ZAN S H rfl rfl) fun a S => gz 20 h2 S rfl rfl rfl rfl rfl rfl (ZAC rfl Ffo90_3 S rfl) fun a S => gz 20 h2 S rfl rfl rfl rfl rfl rfl (ZAJ rfl ZAN S H rfl rfl) fun a S => gz 20 h2 S rfl rfl rfl rfl rfl rfl (ZAn rfl S rfl rfl rfl) fun a S => gq rfl S (ZBf rfl h2 S rfl rfl) fun a S => kk _ _ (S.join 6 26 rfl rfl) H
 refine q_as S rfl fun a S => gnt ?_
 have S := S.sel [2] rfl
 exact ZAe <| ret1 rfl S rfl <| ⟨by simp [boxB], H.toExt⟩
theorem inside_spec (b : BoxV) (x y : Int) (w0 : World) :
    Ret Tryz.prog 63 #[.agg (BoxV.enc b).toArray, .int .i64 x, .int .i64 y] w0 (fun u w => u = .bool (ZBg b x y) ∧ Ext w0 w) := by
 refine ZAE (nt := 29) Tryz.func63 rfl rfl rfl (fl := [(0, .agg (BoxV.enc b).toArray), (1, .int .i64 x), (2, .int .i64 y)]) rfl (fun a S => ?_)
 have H := HSat.start w0
 refine gsr <| ZAF (ZAu (wn rfl) rfl rfl rfl S H rfl fun b3 a w S H => q_as S rfl fun a S => gnt ?_)
 refine gsr <| q_fa S Ffo90_0 rfl fun a S => q_ld S H ZAN rfl rfl fun a S => q_mv S rfl fun a S => q_bn S rfl fun a S => q_mv S rfl fun a S => ?_
 refine' wl_and 4 11 rfl S H rfl rfl rfl rfl rfl rfl rfl (fun _ S => (wn rfl)) (fun h1 kk => ?yh1) (fun a w S H => ?_)
 case yh1 =>
  exact gz 11 h1 S rfl rfl rfl rfl rfl rfl (ZAL rfl S rfl) fun a S => gz 11 h1 S rfl rfl rfl rfl rfl rfl (ZAC rfl Ffo90_2 S rfl) fun a S => gz 11 h1 S rfl rfl rfl rfl rfl rfl (ZAJ rfl ZAN S H rfl rfl) fun a S => gz 11 h1 S rfl rfl rfl rfl rfl rfl (ZAn rfl S rfl rfl rfl) fun a S => gq rfl S (ZBf rfl h1 S rfl rfl) fun a S => kk _ _ (S.join 5 16 rfl rfl) H
 refine q_mv S rfl fun a S => ?_
 refine' wl_and 4 17 rfl S H rfl rfl rfl rfl rfl rfl rfl (fun _ S => (wn rfl)) (fun h2 kk => ?yh2) (fun a w S H => ?_)
 case yh2 =>
  exact gz 17 h2 S rfl rfl rfl rfl rfl rfl (ZAC rfl Ffo90_1 S rfl) fun a S => gz 17 h2 S rfl rfl rfl rfl rfl rfl (ZAJ rfl ZAN S H rfl rfl) fun a S => gz 17 h2 S rfl rfl rfl rfl rfl rfl (ZAL rfl S rfl) fun a S => gz 17 h2 S rfl rfl rfl rfl rfl rfl (ZAn rfl S rfl rfl rfl) fun a S => gq rfl S (ZBf rfl h2 S rfl rfl) fun a S => kk _ _ (S.join 5 22 rfl rfl) H
 refine q_mv S rfl fun a S => ?_
 refine' wl_and 4 23 rfl S H rfl rfl rfl rfl rfl rfl rfl (fun _ S => (wn rfl)) (fun h3 kk => ?yh3) (fun a w S H => ?_)
 case yh3 =>
  exact gz 23 h3 S rfl rfl rfl rfl rfl rfl (ZAL rfl S rfl) fun a S => gz 23 h3 S rfl rfl rfl rfl rfl rfl (ZAC rfl Ffo90_3 S rfl) fun a S => gz 23 h3 S rfl rfl rfl rfl rfl rfl (ZAJ rfl ZAN S H rfl rfl) fun a S => gz 23 h3 S rfl rfl rfl rfl rfl rfl (ZAn rfl S rfl rfl rfl) fun a S => gq rfl S (ZBf rfl h3 S rfl rfl) fun a S => kk _ _ (S.join 5 28 rfl rfl) H
 refine q_as S rfl fun a S => gnt ?_
 have S := S.sel [6] rfl
 exact ZAe <| ret1 rfl S rfl <| ⟨by simp [ZBg], H.toExt⟩
theorem meet_spec (a b : BoxV) (w0 : World) :
    Ret Tryz.prog 68 #[.agg (BoxV.enc a).toArray, .agg (BoxV.enc b).toArray] w0 (fun u w => u = .bool (meetB a b) ∧ Ext w0 w) := by
 refine ZAE (nt := 29) Tryz.func68 rfl rfl rfl (fl := [(0, .agg (BoxV.enc a).toArray), (1, .agg (BoxV.enc b).toArray)]) rfl (fun a S => ?_)
 have H := HSat.start w0
 refine gsr <| ZAF (ZAu (wn rfl) rfl rfl rfl S H rfl fun b2 a w S H => ZAF (ZAu (wn rfl) rfl rfl rfl S H rfl fun b3 a w S H => q_as S rfl fun a S => gnt ?_))
 refine gsr <| q_fa S Ffo90_0 rfl fun a S => q_ld S H ZAN rfl rfl fun a S => q_fa S Ffo90_0 rfl fun a S => q_ld S H ZAN rfl rfl fun a S => gq rfl S (y_max rfl S rfl rfl) fun a S => q_fa S Ffo90_2 rfl fun a S => q_ld S H ZAN rfl rfl fun a S => ?_
 refine q_fa S Ffo90_2 rfl fun a S => q_ld S H ZAN rfl rfl fun a S => gq rfl S (y_min rfl S rfl rfl) fun a S => q_bn S rfl fun a S => q_mv S rfl fun a S => ?_
 refine' wl_and 11 16 rfl S H rfl rfl rfl rfl rfl rfl rfl (fun _ S => (wn rfl)) (fun h1 kk => ?yh1) (fun a w S H => ?_)
 case yh1 =>
  refine gz 16 h1 S rfl rfl rfl rfl rfl rfl (ZAC rfl Ffo90_1 S rfl) fun a S => gz 16 h1 S rfl rfl rfl rfl rfl rfl (ZAJ rfl ZAN S H rfl rfl) fun a S => gz 16 h1 S rfl rfl rfl rfl rfl rfl (ZAC rfl Ffo90_1 S rfl) fun a S => gz 16 h1 S rfl rfl rfl rfl rfl rfl (ZAJ rfl ZAN S H rfl rfl) fun a S => gz 16 h1 S rfl rfl rfl rfl rfl rfl (y_max rfl S rfl rfl) fun a S => gz 16 h1 S rfl rfl rfl rfl rfl rfl (ZAC rfl Ffo90_3 S rfl) fun a S => gz 16 h1 S rfl rfl rfl rfl rfl rfl (ZAJ rfl ZAN S H rfl rfl) fun a S => gz 16 h1 S rfl rfl rfl rfl rfl rfl (ZAC rfl Ffo90_3 S rfl) fun a S => ?_
  exact gz 16 h1 S rfl rfl rfl rfl rfl rfl (ZAJ rfl ZAN S H rfl rfl) fun a S => gz 16 h1 S rfl rfl rfl rfl rfl rfl (y_min rfl S rfl rfl) fun a S => gz 16 h1 S rfl rfl rfl rfl rfl rfl (ZAn rfl S rfl rfl rfl) fun a S => gq rfl S (ZBf rfl h1 S rfl rfl) fun a S => kk _ _ (S.join 12 28 rfl rfl) H
 refine q_as S rfl fun a S => gnt ?_
 have S := S.sel [4] rfl
 exact ZAe <| ret1 rfl S rfl <| ⟨by simp [meetB], H.toExt⟩
def BoxV.z : BoxV := ⟨0, 0, 0, 0⟩
def encFt (f : Int × Int × Int) : List Value := [.int .i64 f.1, .int .i64 f.2.1, .int .i64 f.2.2]
theorem find_findI {α : Type} {xs : List α} {p : α → Bool} {z : Int} (h : (z = -1 ∧ ∀ x ∈ xs, p x = false) ∨ ∃ j : Nat, ∃ h : j < xs.length, z = j ∧ p xs[j] = true ∧ ∀ q (hq : q < xs.length), q < j → p xs[q] = false) : (z < 0 ∧ xs.find? p = none) ∨ ∃ j : Nat, ∃ h : j < xs.length, z = j ∧ xs.find? p = some xs[j] := by
  rcases h with ⟨rfl, h⟩ | ⟨j, hj, rfl, hp, hq⟩
  · exact .inl ⟨by decide, List.find?_eq_none.2 fun x hx => by simp [h x hx]⟩
  refine .inr ⟨j, hj, rfl, ?_⟩
  rw [List.find?_eq_some_iff_getElem]
  exact ⟨hp, j, hj, rfl, fun q hlt => by simp [hq q (by omega) hlt]⟩
theorem lvP_spec (x l : LevV) (b : Nat) (w0 : World) (hb : w0.heap[b]? = some (.cells (LevV.enc l).toArray 79 (0, 0))) :
    Ret Tryz.prog 41 #[.agg (LevV.enc x).toArray, .pointer (some ⟨b, 0, none⟩)] w0 (fun u w => u = .bool (decide (x.name = l.name)) ∧ Ext w0 w) := by
 refine ZAE (nt := 9) Tryz.func41 rfl rfl rfl (fl := [(0, .agg (LevV.enc x).toArray), (1, .pointer (some ⟨b, 0, none⟩))]) rfl (fun a S => ?_)
 have H := HSat.start w0
 have H := H.ro0 (Atom.ro (Cel b 79 (LevV.enc l))) rfl (hb)
 refine gsr <| ZAF (ZAu (wn rfl) rfl rfl rfl S H rfl fun b2 a w S H => q_as S rfl fun a S => gnt ?_)
 refine gsr <| q_fa S Ffo79_0 rfl fun a S => q_ld S H Fsca9 rfl rfl fun a S => q_fa S Ffo79_0 rfl fun a S => q_ld S H Fsca9 rfl rfl fun a S => gq rfl S (y_eqs rfl underlying9 S rfl rfl) fun a S => q_as S rfl fun a S => gnt ?_
 have S := S.sel [3] rfl
 exact ZAe <| ret1 rfl S rfl <| ⟨rfl, H.toExt⟩
theorem bxP_spec (b : BoxV) (w0 : World) :
    Ret Tryz.prog 44 #[.agg (BoxV.enc b).toArray] w0 (fun u w => u = .bool (!boxB b) ∧ Ext w0 w) := by
 refine ZAE (nt := 6) Tryz.func44 rfl rfl rfl (fl := [(0, .agg (BoxV.enc b).toArray)]) rfl (fun a S => ?_)
 have H := HSat.start w0
 refine gsr <| ZAF (ZAu (wn rfl) rfl rfl rfl S H rfl fun b1 a w S H => q_as S rfl fun a S => gnt ?_)
 refine gsr <| gq rfl S (ZAb rfl S H rfl (by exact Fagg90)) fun a S => ?_
 refine q_cl S rfl call45 (box_spec b _) fun v w hc a S => ?_
 obtain ⟨rfl, he⟩ := hc
 have H := H.ext he
 refine gq rfl S (ZBV rfl S rfl) fun a S => q_as S rfl fun a S => gnt ?_
 have S := S.sel [2] rfl
 exact ZAe <| ret1 rfl S rfl <| ⟨rfl, H.toExt⟩
theorem ptP_spec (p : PtV) (w0 : World) :
    Ret Tryz.prog 47 #[.agg (PtV.enc p).toArray] w0 (fun u w => u = .bool (!crdL [p.x, p.y]) ∧ Ext w0 w) := by
 refine ZAE (nt := 10) Tryz.func47 rfl rfl rfl (fl := [(0, .agg (PtV.enc p).toArray)]) rfl (fun a S => ?_)
 have H := HSat.start w0
 refine gsr <| ZAF (ZAu (wn rfl) rfl rfl rfl S H rfl fun b1 a w S H => q_as S rfl fun a S => gnt ?_)
 refine gsr <| q_fa S ZBx rfl fun a S => q_ld S H ZAN rfl rfl fun a S => q_fa S ZBy rfl fun a S => q_ld S H ZAN rfl rfl fun a S => ZAF (ZAP (wn rfl) rfl rfl rfl underlying37 Finf3 S H (idx := [0, 1]) rfl rfl rfl (z := [.int .i64 0, .int .i64 0]) (by kernel_rfl) (cs := [_, _]) rfl fun b7 a w S H => ?_)
 refine q_cl S rfl call23 (crd_spec _ [p.x, p.y] _ (H.slb b7 [p.x, p.y] encI 1 rfl rfl (by intro x _; rfl) (by simp))) fun v w hc a S => ?_
 obtain ⟨rfl, he⟩ := hc
 have H := H.ext he
 refine gq rfl S (ZBV rfl S rfl) fun a S => q_as S rfl fun a S => gnt ?_
 have S := S.sel [2] rfl
 exact ZAe <| ret1 rfl S rfl <| ⟨rfl, H.toExt⟩
theorem blP_spec (x : BlockV) (v : Value) (bs : List BlockV) (i b c : Nat) (w0 : World) (hv : IsSl w0 v 3 BlockV.enc bs) (hi : i < bs.length) (hb : w0.heap[b]? = some (.cells ([v]).toArray 74 (0, 0))) (hc : w0.heap[c]? = some (.cells ([Value.int .i64 (i : Int)]).toArray 3 (0, 0))) :
    Ret Tryz.prog 49 #[.agg (BlockV.enc x).toArray, .pointer (some ⟨b, 0, none⟩), .pointer (some ⟨c, 0, none⟩)] w0 (fun u w => u = .bool (decide (x.name = bs[i].name)) ∧ Ext w0 w) := by
 refine ZAE (nt := 13) Tryz.func49 rfl rfl rfl (fl := [(0, .agg (BlockV.enc x).toArray), (1, .pointer (some ⟨b, 0, none⟩)), (2, .pointer (some ⟨c, 0, none⟩))]) rfl (fun a S => ?_)
 have H := HSat.start w0
 have H := H.ro0 (Atom.ro (Cel b 74 [v])) rfl (hb)
 have H := H.ro0 (Atom.ro (Cel c 3 [.int .i64 (i : Int)])) rfl (hc)
 have H := H.ro0 (Sl v 3 BlockV.enc bs) rfl (hv)
 have hlen := hv.len
 refine gsr <| ZAF (ZAu (wn rfl) rfl rfl rfl S H rfl fun b3 a w S H => q_as S rfl fun a S => gnt ?_)
 refine ZAG <| ZAZ (loud := []) (tails := []) (free := []) [0, 1, 2, 3, 4, 5, 6, 7, 8] [] Fmo (by kernel_rfl) (by kernel_rfl) rfl H ?_
 refine m_q rfl S (fun w H => ZAC rfl Ffo73_0 S rfl) fun a S => m_q rfl S (fun w H => ZAJ rfl Fsca9 S H rfl rfl) fun a S => m_q rfl S (fun w H => ZAJ rfl Fsca74 S H rfl rfl) fun a S => m_q rfl S (fun w H => ZAJ rfl ZAN S H rfl rfl) fun a S => m_q rfl S (fun w H => ZAI rfl underlying74 Fsiz73 S H rfl rfl (by omega)) fun a S => ?_
 refine m_q rfl S (fun w H => ZAq rfl Ffo73_0 S rfl) fun a S => ZA3 _ rfl rfl (wn rfl) rfl rfl S rfl Fsca9 rfl (by omega) rfl fun a S => ?_
 refine m_q rfl S (fun w H => y_eqs rfl underlying9 S rfl rfl) fun a S => m_q rfl S (fun w H => ZA1 rfl S rfl) fun a S => ZBY (fun w H => ZAA ?_)
 have S := S.sel [4] rfl
 exact ZAe <| ret1 rfl S rfl <| ⟨rfl, H.toExt⟩
theorem rwP_spec (x r : RowV) (b : Nat) (w0 : World) (hb : w0.heap[b]? = some (.cells (RowV.enc r).toArray 70 (0, 0))) :
    Ret Tryz.prog 51 #[.agg (RowV.enc x).toArray, .pointer (some ⟨b, 0, none⟩)] w0 (fun u w => u = .bool (decide (x.name = r.name)) ∧ Ext w0 w) := by
 refine ZAE (nt := 9) Tryz.func51 rfl rfl rfl (fl := [(0, .agg (RowV.enc x).toArray), (1, .pointer (some ⟨b, 0, none⟩))]) rfl (fun a S => ?_)
 have H := HSat.start w0
 have H := H.ro0 (Atom.ro (Cel b 70 (RowV.enc r))) rfl (hb)
 refine gsr <| ZAF (ZAu (wn rfl) rfl rfl rfl S H rfl fun b2 a w S H => q_as S rfl fun a S => gnt ?_)
 refine gsr <| q_fa S Ffo70_0 rfl fun a S => q_ld S H Fsca9 rfl rfl fun a S => q_fa S Ffo70_0 rfl fun a S => q_ld S H Fsca9 rfl rfl fun a S => gq rfl S (y_eqs rfl underlying9 S rfl rfl) fun a S => q_as S rfl fun a S => gnt ?_
 have S := S.sel [3] rfl
 exact ZAe <| ret1 rfl S rfl <| ⟨rfl, H.toExt⟩
theorem arP1_spec (x : BlockV) (r : AreaV) (b : Nat) (w0 : World) (hb : w0.heap[b]? = some (.cells (AreaV.enc r).toArray 92 (0, 0))) :
    Ret Tryz.prog 54 #[.agg (BlockV.enc x).toArray, .pointer (some ⟨b, 0, none⟩)] w0 (fun u w => u = .bool (decide (x.name = r.name)) ∧ Ext w0 w) := by
 refine ZAE (nt := 9) Tryz.func54 rfl rfl rfl (fl := [(0, .agg (BlockV.enc x).toArray), (1, .pointer (some ⟨b, 0, none⟩))]) rfl (fun a S => ?_)
 have H := HSat.start w0
 have H := H.ro0 (Atom.ro (Cel b 92 (AreaV.enc r))) rfl (hb)
 refine gsr <| ZAF (ZAu (wn rfl) rfl rfl rfl S H rfl fun b2 a w S H => q_as S rfl fun a S => gnt ?_)
 refine gsr <| q_fa S Ffo73_0 rfl fun a S => q_ld S H Fsca9 rfl rfl fun a S => q_fa S Ffo92_0 rfl fun a S => q_ld S H Fsca9 rfl rfl fun a S => gq rfl S (y_eqs rfl underlying9 S rfl rfl) fun a S => q_as S rfl fun a S => gnt ?_
 have S := S.sel [3] rfl
 exact ZAe <| ret1 rfl S rfl <| ⟨rfl, H.toExt⟩
theorem arP2_spec (x r : AreaV) (b : Nat) (w0 : World) (hb : w0.heap[b]? = some (.cells (AreaV.enc r).toArray 92 (0, 0))) :
    Ret Tryz.prog 56 #[.agg (AreaV.enc x).toArray, .pointer (some ⟨b, 0, none⟩)] w0 (fun u w => u = .bool (decide (x.name = r.name)) ∧ Ext w0 w) := by
 refine ZAE (nt := 9) Tryz.func56 rfl rfl rfl (fl := [(0, .agg (AreaV.enc x).toArray), (1, .pointer (some ⟨b, 0, none⟩))]) rfl (fun a S => ?_)
 have H := HSat.start w0
 have H := H.ro0 (Atom.ro (Cel b 92 (AreaV.enc r))) rfl (hb)
 refine gsr <| ZAF (ZAu (wn rfl) rfl rfl rfl S H rfl fun b2 a w S H => q_as S rfl fun a S => gnt ?_)
 refine gsr <| q_fa S Ffo92_0 rfl fun a S => q_ld S H Fsca9 rfl rfl fun a S => q_fa S Ffo92_0 rfl fun a S => q_ld S H Fsca9 rfl rfl fun a S => gq rfl S (y_eqs rfl underlying9 S rfl rfl) fun a S => q_as S rfl fun a S => gnt ?_
 have S := S.sel [3] rfl
 exact ZAe <| ret1 rfl S rfl <| ⟨rfl, H.toExt⟩
theorem mkP_spec (x : MarkV) (b : Nat) (s : Int) (w0 : World) (hb : w0.heap[b]? = some (.cells ([Value.int .i64 s]).toArray 3 (0, 0))) :
    Ret Tryz.prog 97 #[.agg (MarkV.enc x).toArray, .pointer (some ⟨b, 0, none⟩)] w0 (fun u w => u = .bool (x.seat == s) ∧ Ext w0 w) := by
 refine ZAE (nt := 8) Tryz.func97 rfl rfl rfl (fl := [(0, .agg (MarkV.enc x).toArray), (1, .pointer (some ⟨b, 0, none⟩))]) rfl (fun a S => ?_)
 have H := HSat.start w0
 have H := H.ro0 (Atom.ro (Cel b 3 [.int .i64 s])) rfl (hb)
 refine gsr <| ZAF (ZAu (wn rfl) rfl rfl rfl S H rfl fun b2 a w S H => q_as S rfl fun a S => gnt ?_)
 refine gsr <| q_fa S Ffo128_1 rfl fun a S => q_ld S H ZAN rfl rfl fun a S => q_ld S H ZAN rfl rfl fun a S => q_bn S rfl fun a S => q_as S rfl fun a S => gnt ?_
 have S := S.sel [3] rfl
 exact ZAe <| ret1 rfl S rfl <| ⟨rfl, H.toExt⟩
theorem mark_spec (r : RowV) (s : Int) (w0 : World) (hm : IsSl w0 r.mv 3 MarkV.enc r.marks) :
    Ret Tryz.prog 57 #[.agg (RowV.enc r).toArray, .int .i64 s] w0 (fun u w => u = .agg (MarkV.enc (markR r s)).toArray ∧ Ext w0 w) := by
 refine ZAE (nt := 18) Tryz.func57 rfl rfl rfl (fl := [(0, .agg (RowV.enc r).toArray), (1, .int .i64 s)]) rfl (fun a S => ?_)
 have H := HSat.start w0
 have H := H.ro0 (Sl r.mv 3 MarkV.enc r.marks) rfl (hm)
 have hlen := hm.len
 refine gsr <| ZAF (ZAu (wn rfl) rfl rfl rfl S H rfl fun b2 a w S H => ZAF (op_box1 (wn rfl) rfl rfl rfl S H rfl rfl fun b3 a w S H => q_al S H rfl Fzer128 fun b4 a w S H => gnt ?_))
 refine ZAG <| gsr <| q_fa S Ffo70_6 rfl fun a S => q_ld S H Fsca68 rfl rfl fun a S => gq rfl S (ZAd rfl S rfl rfl) fun a S => q_cl S rfl call96 (idxMk_spec r.mv r.marks 97 [.pointer (some ⟨b3, 0, none⟩)] call97 (fun x => x.seat == s) _ (H.sl r.mv) (fun x hx w hw => mkP_spec x b3 s w ((H.ext hw).rd b3))) fun v w hc a S => ?_
 obtain ⟨z, rfl, hz, he⟩ := hc
 have H := H.ext he
 have hz2 := find_findI hz
 refine q_as S rfl fun a S => gnt ?_
 have S := S.sel [5, 4, 2] rfl
 refine gsr <| q_mv S rfl fun a S => q_bn S rfl fun a S => gnt <| c_if S rfl (fun h1 => ?_) (fun h1 => ?_)
 ·have h1p := h1; try simp only [DL] at h1p
  obtain ⟨h0, _⟩ | ⟨q, hq, rfl, hf⟩ := hz2
  · exfalso; have := h1p; omega
  refine gsr <| q_fa S Ffo70_6 rfl fun a S => q_ld S H Fsca68 rfl rfl fun a S => q_mv S rfl fun a S => gq rfl S (y_iaddrs rfl underlying68 Fsiz128 S H rfl rfl (by omega)) fun a S => ?_
  refine gq rfl S (ZAk _ rfl S H rfl (by exact Fagg128) (by omega)) fun a S => ?_
  refine ZAF (ZAQ (wn rfl) rfl rfl S H rfl rfl rfl Fsiz128 rfl (cs' := [_, _, _]) rfl fun a w S H => gnt ?_)
  have S := S.sel [4] rfl
  refine ZAe <| ZAX (retc rfl S H rfl (by exact Fagg128) ?_)
  exact ⟨by unfold markR; rw [hf]; rfl, H.toExt⟩
 have h1p := h1; try simp only [DL] at h1p
 obtain ⟨h0, hf⟩ | ⟨q, hq, rfl, hf⟩ := hz2
 rotate_left
 · exfalso; have := h1p; omega
 refine ZAM <| ZAA ?_
 have S := S.sel [4] rfl
 refine gsr ?_
 refine gq rfl S (ZAx rfl Fbld128 S rfl (idx := []) rfl (cs := [.int .i64 0, .int .i64 0, .int .i64 0]) rfl) fun a S => ?_
 refine ZAF (ZAQ (wn rfl) rfl rfl S H rfl rfl rfl Fsiz128 rfl (cs' := [_, _, _]) rfl fun a w S H => ?_)
 refine gnt <| ZAe <| retc rfl S H rfl (by exact Fagg128) ?_
 exact ⟨by unfold markR; rw [hf]; rfl, H.toExt⟩
abbrev CkZ := Value × List (Int × Int × Int)
def ckL (b : Nat) (h : HallV) (z : CkZ) : List Atom := [Cel b 83 [.string h.name, .int .i64 h.stage.x, .int .i64 h.stage.y, h.lv, z.1], OSl 135 z.1 3 encFt z.2]
def ChkA (b : Nat) (h : HallV) (z : CkZ) : Atom := Bun (ckL b h z)
theorem ckL_own (b : Nat) (h : HallV) (z : CkZ) : ∀ x ∈ ckL b h z, x.own = true := by simp [ckL, OSl, Blk]
theorem ZBd {M : Nat → Prop} {u0 : World} {l : List Atom} (b : Nat) (h : HallV) (z : CkZ) (e a1 a2 : Int) (w0 : World) (h0 : HSat M u0 (ChkA b h z :: l) w0) (hl : z.2.length ≤ 1000000000000) :
    Ret Tryz.prog 24 #[.pointer (some ⟨b, 0, none⟩), .int .i64 e, .int .i64 a1, .int .i64 a2] w0 (fun u w => ∃ z2 : CkZ, z2.2.length = z.2.length + 1 ∧ HSat M u0 (ChkA b h z2 :: l) w) := by
 refine ZAE (nt := 21) Tryz.func24 rfl rfl rfl (fl := [(0, .pointer (some ⟨b, 0, none⟩)), (1, .int .i64 e), (2, .int .i64 a1), (3, .int .i64 a2)]) rfl (fun a S => ?_)
 obtain ⟨fv, fs⟩ := z
 have H : HSat M u0 (Cel b 83 [.string h.name, .int .i64 h.stage.x, .int .i64 h.stage.y, h.lv, fv] :: OSl 135 fv 3 encFt fs :: l) w0 := h0.unfold
 dsimp only at hl
 refine ZAB <| q_mv S rfl fun a S => q_mv S rfl fun a S => gq rfl S (ZAR rfl S rfl) fun a S => q_fa S Ffo83_1 rfl fun a S => q_ld S H Fsca31 rfl rfl fun a S => q_mv S rfl fun a S => q_mv S rfl fun a S => ?_
 refine q_mv S rfl fun a S => gq rfl S (ZAx rfl Fbld135 S rfl (idx := [0, 1, 2]) rfl (cs := [.int .i64 e, .int .i64 a1, .int .i64 a2]) rfl) fun a S => ZAF (ZAP (wn rfl) rfl rfl rfl underlying31 Finf135 S H (idx := [0]) rfl rfl rfl (z := [.int .i64 0, .int .i64 0, .int .i64 0]) (by kernel_rfl) (cs := [.int .i64 e, .int .i64 a1, .int .i64 a2]) rfl fun b17 a w S H => ?_)
 refine ZAF (ZAr ([(e, a1, a2)]) (wn rfl) rfl rfl rfl underlying31 Finf135 rfl rfl S H rfl rfl rfl rfl (by simp) (by simp [encFt]) (by simp [encFt, Value.oneCell']) (by simp only [List.length_cons, List.length_nil]; omega) (by simp only [List.length_cons, List.length_nil]; omega) fun u18 a w hn18 S H => ?_)
 refine gq rfl S (ZAR rfl S rfl) fun a S => q_fa S Ffo83_1 rfl fun a S => q_st S H rfl (H.sl1 _) Fsiz31 rfl fun a w S H => ?_
 dsimp only [List.set, Nat.zero_add, Nat.reduceAdd] at H
 refine ZAj ?_
 refine ZB1 rfl S ?_
 exact ⟨(u18, fs ++ [(e, a1, a2)]), by simp, HSat.fold (ls := ckL b h (u18, fs ++ [(e, a1, a2)])) (H.takeT [Cel b 83 [.string h.name, .int .i64 h.stage.x, .int .i64 h.stage.y, h.lv, u18], OSl 135 u18 3 encFt (fs ++ [(e, a1, a2)])] l) (ckL_own _ _ _)⟩
theorem growBx_spec (m : Nat) (w0 : World) (hm : m ≤ 4000000) :
    Ret Tryz.prog 93 #[.slice none 0 0, .int .i64 (m : Int)] w0 (fun u w => HSat No w0 [OSl 90 u 4 BoxV.enc []] w) := by
 refine ZAE (nt := 27) Tryz.func93 rfl rfl rfl (fl := [(0, .slice none 0 0), (1, .int .i64 (m : Int))]) rfl (fun a S => ?_)
 have H := HSat.start w0
 refine gsr <| q_as S rfl fun a S => gnt <| ZAG <| gsr <| q_mv S rfl fun a S => q_bn S rfl fun a S => gnt ?_
 refine c_if S rfl (fun h1 => ?_) (fun h1 => ?_)
 ·have h1p := h1; try simp only [DL] at h1p
  all_goals (
    exact absurd h1 (by simp))
 have h1p := h1; try simp only [DL] at h1p
 refine ZAM <| ZAA <| ZAG <| gsr <| q_mv S rfl fun a S => q_mv S rfl fun a S => gq rfl S (y_cap rfl underlying76 S rfl) fun a S => q_mv S rfl fun a S => ?_
 refine gq rfl S (y_len rfl underlying76 S rfl) fun a S => gq rfl S (y_sub rfl S rfl rfl (by omega)) fun a S => ?_
 refine gq rfl S (y_sub rfl S rfl rfl (by omega)) fun a S => ?_
 rw [show ((m : Int) - (((0 : Nat) : Int) - ((0 : Nat) : Int))) = (m : Int) by omega] at S
 refine q_as S rfl fun a S => gnt ?_
 have S := S.sel [1, 4, 0] rfl
 refine gsr <| q_mv S rfl fun a S => q_bn S rfl fun a S => gnt <| c_if S rfl (fun h2 => ?_) (fun h2 => ?_)
 ·have h2p := h2; try simp only [DL] at h2p
  refine ZAB <| q_mv S rfl fun a S => q_mv S rfl fun a S => gq rfl S (y_cap rfl underlying76 S rfl) fun a S => gq rfl S ((y_sliceY (j := 0) rfl underlying76 Fsiz90 S rfl rfl (by omega))) fun a S => ?_
  refine q_mv S rfl fun a S => ZAF (op_appendZ (enc := BoxV.enc) (i := 0) (m := m) (c := 0) [] BoxV.z (wn rfl) rfl rfl rfl underlying76 underlying3 Finf90 rfl rfl rfl S H rfl rfl (fun j u hu => by simp at hu) rfl (fun _ => rfl) (by simp) (by omega) (by omega) (by omega) (by omega) fun g2 c2 a w hc2 S H => ?_)
  refine q_mv S rfl fun a S => gq rfl S (y_len rfl underlying76 S rfl) fun a S => gq rfl S ((y_sliceY (j := 0) rfl underlying76 Fsiz90 S rfl rfl (by omega))) fun a S => ?_
  refine q_as S rfl fun a S => gnt ?_
  have S := S.sel [0, 4] rfl
  exact gsr <| q_mv S rfl fun a S => q_as S rfl fun a S => gnt <| ZAe <| ret1 rfl S rfl <| H.cutO (by simp) 0 (Nat.zero_le _)
 refine ZAM <| ZAA <| gsr <| q_mv S rfl fun a S => q_as S rfl fun a S => gnt ?_
 have S := S.sel [4] rfl
 exact ZAe <| ret1 rfl S rfl <| (H.nilO 90 4 BoxV.enc).take [OSl 90 (.slice none 0 0) 4 BoxV.enc []]
set_option maxHeartbeats 1000000 in
theorem concatBx_spec (v : Value) (ps : List (Value × List BoxV)) (w0 : World) (hv : IsSl w0 v 1 ZAo ps) (hr : ∀ p ∈ ps, IsSl w0 p.1 4 BoxV.enc p.2) (hl : (catO ps).length ≤ 4000000) :
    Ret Tryz.prog 42 #[v] w0 (fun u w => HSat No w0 [OSl 90 u 4 BoxV.enc (catO ps)] w) := by
 refine ZAE (nt := 36) Tryz.func42 rfl rfl rfl (fl := [(0, v)]) rfl (fun a S => ?_)
 have H := HSat.start w0
 have H := H.ro0 (Sl v 1 ZAo ps) rfl (hv)
 have H := H.ro0 (ZBC 4 BoxV.enc ps) rfl (hr)
 have hlen := hv.len
 refine gsr <| q_as S rfl fun a S => gnt <| gsr <| q_as S rfl fun a S => gnt <| ZAG <| gsr ?_
 refine q_mv S rfl fun a S => gq rfl S (ZAT rfl underlying175 S H rfl) fun a S => q_mv S rfl fun a S => gnt <| ZAD ?_
 have SU := S.sel [10, 9, 2, 0] rfl
 refine ZB4 (X := Nat) SU (fun k => [(3, .int .i64 ((catO (ps.take k)).length : Int)), (11, .int .i64 (k : Int))]) (fun k => k ≤ ps.length) (fun k => ps.length - k) 0 (S.sel [3, 11] rfl) H (Nat.zero_le _) (fun k a w S H hi => ?_)
 simp only [List.cons_append, List.nil_append] at S hi
 refine gsr <| q_bn S rfl fun a S => gnt <| ZAG <| c_if S rfl (fun h1 => ?_) (fun h1 => ?_)
 ·have h1p := h1; try simp only [DL] at h1p
  have hct := catO_take (show k < ps.length by omega)
  have hcl := catO_le ps (k + 1)
  rw [hct, List.length_append] at hcl
  refine ZAM <| ZAA <| ZAG <| ZAD <| gsr <| gq rfl S (ZAI rfl underlying175 Fsiz76 S H rfl rfl (by omega)) fun a S => ?_
  refine gq rfl S (ZA6 _ rfl Fsca76 S H rfl (by omega) rfl) fun a S => ?_
  refine q_as S rfl fun a S => gnt <| gsr <| q_mv S rfl fun a S => q_mv S rfl fun a S => gq rfl S (ZAT rfl underlying76 S H rfl) fun a S => q_ad S rfl (by omega) fun a S => ?_
  refine q_as S rfl fun a S => gnt ?_
  have S := S.sel [3, 11, 10, 9, 2, 0] rfl
  refine gsr <| q_mv S rfl fun a S => q_bn S rfl fun a S => gnt <| c_if S rfl (fun h2 => ?_) (fun h2 => ?_)
  ·have h2p := h2; try simp only [DL] at h2p
   all_goals (
     have := h2p; omega)
  have h2p := h2; try simp only [DL] at h2p
  refine ZAM <| ZAK <| ZAA <| ZAB <| q_ad S rfl (by omega) fun a S => ?_
  refine q_mv S rfl fun a S => gnt <| ⟨k + 1, (S.sel [11] rfl).cons S 3 (by rw [hct, List.length_append]; rfl), S.sel [10, 9, 2, 0] rfl, H, by omega, by omega⟩
 have h1p := h1; try simp only [DL] at h1p
 obtain rfl : k = ps.length := by omega
 rw [List.take_length] at S
 refine ZAf <| ZAO (ZAO (x_eq ?_))
 refine ZAA ?_
 have S := S.sel [3, 2, 0] rfl
 refine gsr <| q_mv S rfl fun a S => ZAF (ZAV (wn rfl) rfl rfl S (ZAi rfl call93 S rfl) (growBx_spec _ _ hl) fun u24 w hc a S => ?_)
 have H1 := hc
 have H := H.call1 H1 rfl
 refine q_as S rfl fun a S => gnt <| ZAG <| gsr <| q_mv S rfl fun a S => gq rfl S (ZAT rfl underlying175 S H rfl) fun a S => q_mv S rfl fun a S => gnt ?_
 have S := S.sel [27, 26, 25, 6, 2] rfl
 refine ZAD ?_
 have SU := S.sel [26, 25, 2] rfl
 refine ZBL (X := Nat × Value) SU (fun x => [(6, x.2), (27, .int .i64 (x.1 : Int))]) (fun x w => x.1 ≤ ps.length ∧ HSat No w0 [OSl 90 x.2 4 BoxV.enc (catO (ps.take x.1)), ZBC 4 BoxV.enc ps, Sl v 1 ZAo ps] w) (fun x => ps.length - x.1) (0, u24) (S.sel [6, 27] rfl) (⟨Nat.zero_le _, H⟩) (fun x a w S hW => ?_)
 simp only [List.cons_append, List.nil_append] at S
 obtain ⟨k, s⟩ := x
 obtain ⟨hk, H⟩ := hW
 dsimp only at S H hk
 refine gsr <| q_bn S rfl fun a S => gnt <| ZAG <| c_if S rfl (fun h3 => ?_) (fun h3 => ?_)
 ·have h3p := h3; try simp only [DL] at h3p
  have hct := catO_take (show k < ps.length by omega)
  have hcl := catO_le ps (k + 1)
  rw [hct, List.length_append] at hcl
  refine ZAM <| ZAA <| ZAG <| ZAD <| gsr <| gq rfl S (ZAI rfl underlying175 Fsiz76 S H rfl rfl (by omega)) fun a S => ?_
  refine gq rfl S (ZA6 _ rfl Fsca76 S H rfl (by omega) rfl) fun a S => ?_
  refine q_as S rfl fun a S => gnt <| ZAB <| q_mv S rfl fun a S => q_mv S rfl fun a S => ZAF (op_appendT (wn rfl) rfl rfl rfl underlying76 Finf90 rfl rfl S H rfl rfl (by simp [BoxV.enc, Value.oneCell']) (by omega) (by omega) fun u33 a w S H => ?_)
  refine q_as S rfl fun a S => ZAj <| ZAK <| ZAA ?_
  have S := S.sel [6, 27, 26, 25, 2] rfl
  refine ZAB <| q_ad S rfl (by omega) fun a S => ?_
  refine q_mv S rfl fun a S => gnt ?_
  rw [← hct] at H
  exact ⟨(k + 1, u33), S.sel [6, 27] rfl, S.sel [26, 25, 2] rfl, ⟨by dsimp only; omega, H⟩, by dsimp only; omega⟩
 have h3p := h3; try simp only [DL] at h3p
 obtain rfl : k = ps.length := by omega
 rw [List.take_length] at H
 refine ZAf <| ZAO (ZAO (x_eq ?_))
 refine ZAA ?_
 have S := S.sel [6, 2] rfl
 exact gsr <| q_mv S rfl fun a S => q_as S rfl fun a S => gnt <| ZAe <| ret1 rfl S rfl <| H.take _
theorem y_max4 {P : Program} {o : Oper} {a : Act} {w : World} {n : Sz} {fl : Slots} {x y u v : Operand} {k k1 k2 k3 : IntKind} {m q r s : Int} {ts : Array TypeId} (ho : o.op = .call { callee := .builtin .max, args := #[x, y, u, v], argTypes := ts }) (S : St n fl a) (hx : ev fl x = some (.int k m)) (hy : ev fl y = some (.int k1 q)) (hu : ev fl u = some (.int k2 r)) (hv : ev fl v = some (.int k3 s)) : Yld P o a w (.int k (max (max (max m q) r) s)) := by
  unfold Yld execOp; rw [ho]; simp [resolve, invoke, builtin, S.ev hx, S.ev hy, S.ev hu, S.ev hv, Builtin.max_, Builtin.max2]; omega
instance (priority := 2000) HasRd.chk (l : List Atom) (b : Nat) (h : HallV) (z : CkZ) : HasRd (ChkA b h z :: l) b (.cells #[.string h.name, .int .i64 h.stage.x, .int .i64 h.stage.y, h.lv, z.1] 83 (0, 0)) :=
  ⟨fun w hw => ((hw (ChkA b h z) (List.mem_cons_self ..)).1 (Cel b 83 [.string h.name, .int .i64 h.stage.x, .int .i64 h.stage.y, h.lv, z.1]) (List.mem_cons_self ..)).2⟩
instance (priority := 2000) HasSl.chk (l : List Atom) (b : Nat) (h : HallV) (z : CkZ) : HasSl (ChkA b h z :: l) z.1 3 (Int × Int × Int) encFt z.2 :=
  ⟨fun w hw => IsOSl.sl ((hw (ChkA b h z) (List.mem_cons_self ..)).1 (OSl 135 z.1 3 encFt z.2) (List.mem_cons_of_mem _ (List.mem_cons_self ..))).2⟩
structure LevOK (h : HallV) (n : Nat) (L : LevV) : Prop where
  first : ∀ j (hj : j < h.levels.length), j < n → h.levels[j].name ≠ L.name
  lim : n < 8 ∧ L.blocks.length + L.areas.length ≤ 40 ∧ L.aisles.length ≤ 40 ∧ L.pillars.length ≤ 40 ∧ L.doors.length ≤ 40
  hgt : crdB L.height = true
  boxes : (L.aisles ++ L.pillars).any (fun b => !boxB b) = false
  doors : L.doors.any (fun p => !crdL [p.x, p.y]) = false
structure BlkOK (L : LevV) (i : Nat) (B : BlockV) : Prop where
  first : ∀ j (hj : j < L.blocks.length), j < i → L.blocks[j].name ≠ B.name
  lim : B.rows.length ≤ 60
structure ArOK (L : LevV) (i : Nat) (A : AreaV) : Prop where
  blk : ∀ b ∈ L.blocks, b.name ≠ A.name
  first : ∀ j (hj : j < L.areas.length), j < i → L.areas[j].name ≠ A.name
  box : boxB A.box = true
  holds : 1 ≤ A.holds ∧ A.holds ≤ 4000
set_option maxHeartbeats 4000000 in
theorem level_spec {M : Nat → Prop} {u0 : World} {l : List Atom} (b : Nat) (h : HallV) (z : CkZ) (n : Nat) (w0 : World) (hn : n < h.levels.length) (hb : (h.levels[n]).aisles.length ≤ 1048576 ∧ (h.levels[n]).pillars.length ≤ 1048576 ∧ (h.levels[n]).blocks.length ≤ 1048576 ∧ (h.levels[n]).areas.length ≤ 1048576) (h0 : HSat M u0 (ChkA b h z :: ZAU h :: l) w0) (hl : z.2.length ≤ 2000000)  :
    Ret Tryz.prog 17 #[.pointer (some ⟨b, 0, none⟩), .int .i64 (n : Int)] w0 (fun u w => ∃ (z2 : CkZ) (q : Bool), z2.2.length = z.2.length + (if q = true then 0 else 1) ∧ (q = true ↔ LevOK h n (h.levels[n])) ∧ HSat M u0 (ChkA b h z2 :: ZAU h :: l) w) := by
 refine ZAE (nt := 91) Tryz.func17 rfl rfl rfl (fl := [(0, .pointer (some ⟨b, 0, none⟩)), (1, .int .i64 (n : Int))]) rfl (fun a S => ?_)
 have H := h0
 have hOK := H.ok (ZAU h) (by simp)
 obtain ⟨L, hL⟩ : ∃ L, L = h.levels[n] := ⟨_, rfl⟩
 have hLm : L ∈ h.levels := hL ▸ List.getElem_mem hn
 have hLa := hall_lev hOK hLm
 have hLall := lev_all hLa
 have H := ZBP (ls := ZBI h) H (Sl h.lv 8 LevV.enc h.levels) mem_levels rfl
 have H := ZBP (ls := ZBI h) H (Sl L.bv 3 BlockV.enc L.blocks) (ZAs hLm (by simp [levA])) rfl
 have H := ZBP (ls := ZBI h) H (Sl L.av 7 AreaV.enc L.areas) (ZAs hLm (by simp [levA])) rfl
 have H := ZBP (ls := ZBI h) H (Sl L.iv 4 BoxV.enc L.aisles) (ZAs hLm (by simp [levA])) rfl
 have H := ZBP (ls := ZBI h) H (Sl L.pv 4 BoxV.enc L.pillars) (ZAs hLm (by simp [levA])) rfl
 have H := ZBP (ls := ZBI h) H (Sl L.dv 2 PtV.enc L.doors) (ZAs hLm (by simp [levA])) rfl
 have hl0 := (lev_blocks hLa).len
 have hl1 := (lev_areas hLa).len
 have hl2 := (lev_aisles hLa).len
 have hl3 := (lev_pillars hLa).len
 have hl4 := (lev_doors hLa).len
 have hl5 := (ZBE hOK).len
 have hLn : h.levels[n] = L := hL.symm
 rw [← hL] at hb
 obtain ⟨pi, ci, hpi⟩ := (lev_aisles hLa).shape
 obtain ⟨pp, cp, hpp⟩ := (lev_pillars hLa).shape
 refine gsr <| q_mv S rfl fun a S => gq rfl S (ZAR rfl S rfl) fun a S => q_fa S Ffo83_0 rfl fun a S => q_fa S ZBi rfl fun a S => q_ld S H Fsca24 rfl rfl fun a S => q_mv S rfl fun a S => gq rfl S (ZAI rfl underlying24 Fsiz79 S H rfl rfl (by omega)) fun a S => ?_
 refine gq rfl S (ZAk _ rfl S H rfl (by exact Fagg79) (by omega)) fun a S => ?_
 rw [hLn] at S
 refine q_al S H rfl Fzer79 fun b4 a w S H => ZAF (ZAQ (wn rfl) rfl rfl S H rfl rfl hLall Fsiz79 rfl (cs' := [_, _, _, _, _, _, _, _]) rfl fun a w S H => gnt ?_)
 have S := S.sel [4, 0, 1] rfl
 refine gsr <| q_mv S rfl fun a S => gq rfl S (ZAR rfl S rfl) fun a S => q_fa S Ffo83_0 rfl fun a S => q_fa S ZBi rfl fun a S => q_ld S H Fsca24 rfl rfl fun a S => gq rfl S (ZAd rfl S rfl rfl) fun a S => q_cl S rfl call40 (idxLv_spec h.lv h.levels 41 [.pointer (some ⟨b4, 0, none⟩)] call41 (fun x => decide (x.name = L.name)) _ (H.sl h.lv) (fun x hx w hw => lvP_spec x L b4 w ((H.ext hw).rd b4))) fun v w hc a S => ?_
 obtain ⟨zi, rfl, hz1, he⟩ := hc
 have H := H.ext he
 obtain ⟨rfl, hno⟩ | ⟨j, hj, rfl, hpj, hqj⟩ := hz1
 · exfalso; have := hno L hLm; simp at this
 refine q_as S rfl fun a S => gnt ?_
 have S := S.sel [5, 4, 0, 1] rfl
 refine gsr <| q_fa S Ffo79_4 rfl fun a S => q_ld S H Fsca76 rfl rfl fun a S => q_fa S Ffo79_5 rfl fun a S => q_ld S H Fsca76 rfl rfl fun a S => ZAF (ZAP (wn rfl) rfl rfl rfl underlying175 Finf76 S H (idx := [0, 1]) rfl rfl rfl (z := [.slice none 0 0, .slice none 0 0]) (by kernel_rfl) (cs := [L.iv, L.pv]) (by rw [hpi, hpp]; rfl) fun b26 a w S H => ?_)
 refine ZAF (ZAV (wn rfl) rfl rfl S (ZAi rfl call42 S rfl) (concatBx_spec _ [(L.iv, L.aisles), (L.pv, L.pillars)] _ (H.slb b26 _ ZAo 1 rfl rfl (by intro x _; rfl) (by simp)) (by intro p hp; simp only [List.mem_cons, List.not_mem_nil, or_false] at hp; rcases hp with rfl | rfl; exact H.sl L.iv; exact H.sl L.pv) (by simp [catO]; omega)) fun u27 w hc a S => ?_)
 have H1 := hc
 have H := H.call1 H1 rfl
 refine q_as S rfl fun a S => gnt ?_
 have S := S.sel [6, 5, 4, 0, 1] rfl
 refine ZAD <| gsr <| q_mv S rfl fun a S => q_mv S rfl fun a S => q_bn S rfl fun a S => q_as S rfl fun a S => gnt <| c_if S rfl (fun h1 => ?_) (fun h1 => ?_)
 ·have h1p := h1; try simp only [DL] at h1p
  refine ZAZ (loud := [12]) (tails := [12]) (free := []) [0, 1, 2, 3, 4, 5, 6, 7, 8, 9, 10, 11, 12] [] Fmo (by kernel_rfl) (by kernel_rfl) rfl H ?_
  refine m_q rfl S (fun w H => ZAL rfl S rfl) fun a S => m_q rfl S (fun w H => ZAC rfl Ffo79_7 S rfl) fun a S => m_q rfl S (fun w H => ZAJ rfl ZAN S H rfl rfl) fun a S => m_q rfl S (fun w H => ZAL rfl S rfl) fun a S => m_q rfl S (fun w H => ZAR rfl S rfl) fun a S => m_q rfl S (fun w H => ZAC rfl Ffo83_0 S rfl) fun a S => m_q rfl S (fun w H => ZAC rfl ZBi S rfl) fun a S => m_q rfl S (fun w H => ZAJ rfl Fsca24 S H rfl rfl) fun a S => ?_
  refine m_q rfl S (fun w H => ZAL rfl S rfl) fun a S => m_q rfl S (fun w H => ZAI rfl underlying24 Fsiz79 S H rfl rfl (by omega)) fun a S => ?_
  refine m_q rfl S (fun w H => ZAq rfl Ffo79_7 S rfl) fun a S => ZA3 _ rfl rfl (wn rfl) rfl rfl S rfl ZAN rfl (by omega) rfl fun a S => ?_
  refine m_l rfl rfl (fun w H => ZAV (wn rfl) rfl rfl S (ZAi rfl call24 S rfl) (ZBd b h z (9) (L.at_) (h.levels[j].at_) _ (H.front (ChkA b h z)) (by omega)) fun v w hc a S => ?_)
  obtain ⟨z2, hz2, H⟩ := hc
  refine m_tail H rfl <| ZBY (fun w H => ZAK ?_)
  refine ZB1 rfl S ?_
  exact ⟨z2, false, by rw [hz2]; rfl, by rw [hLn]; exact ⟨fun hq => absurd hq (by simp), fun hh => absurd (of_decide_eq_true hpj) (hh.first j hj (by omega))⟩, H.takeT [ChkA b h z2, ZAU h] l⟩
 have h1p := h1; try simp only [DL] at h1p
 refine gsr <| q_mv S rfl fun a S => q_bn S rfl fun a S => q_mv S rfl fun a S => ?_
 refine' ZBH 18 48 rfl S H rfl rfl rfl rfl rfl rfl rfl (fun _ S => (wn rfl)) (fun h2 kk => ?yh2) (fun a w S H => ?_)
 case yh2 =>
  have h2p := h2; try simp only [DL] at h2p
  refine gz 48 h2 S rfl rfl rfl rfl rfl rfl (ZAC rfl Ffo79_2 S rfl) fun a S => gz 48 h2 S rfl rfl rfl rfl rfl rfl (ZAJ rfl Fsca74 S H rfl rfl) fun a S => gz 48 h2 S rfl rfl rfl rfl rfl rfl (ZAT rfl underlying74 S H rfl) fun a S => gz 48 h2 S rfl rfl rfl rfl rfl rfl (ZAC rfl Ffo79_3 S rfl) fun a S => gz 48 h2 S rfl rfl rfl rfl rfl rfl (ZAJ rfl Fsca75 S H rfl rfl) fun a S => gz 48 h2 S rfl rfl rfl rfl rfl rfl (ZAT rfl underlying75 S H rfl) fun a S => gz 48 h2 S rfl rfl rfl rfl rfl rfl (y_add rfl S rfl rfl (by omega)) fun a S => ?_
  refine gz 48 h2 S rfl rfl rfl rfl rfl rfl (ZAC rfl Ffo79_4 S rfl) fun a S => gz 48 h2 S rfl rfl rfl rfl rfl rfl (ZAJ rfl Fsca76 S H rfl rfl) fun a S => gz 48 h2 S rfl rfl rfl rfl rfl rfl (ZAT rfl underlying76 S H rfl) fun a S => gz 48 h2 S rfl rfl rfl rfl rfl rfl (ZAC rfl Ffo79_5 S rfl) fun a S => gz 48 h2 S rfl rfl rfl rfl rfl rfl (ZAJ rfl Fsca76 S H rfl rfl) fun a S => gz 48 h2 S rfl rfl rfl rfl rfl rfl (ZAT rfl underlying76 S H rfl) fun a S => gz 48 h2 S rfl rfl rfl rfl rfl rfl (ZAC rfl Ffo79_6 S rfl) fun a S => gz 48 h2 S rfl rfl rfl rfl rfl rfl (ZAJ rfl Fsca77 S H rfl rfl) fun a S => ?_
  exact gz 48 h2 S rfl rfl rfl rfl rfl rfl (ZAT rfl underlying77 S H rfl) fun a S => gz 48 h2 S rfl rfl rfl rfl rfl rfl ((y_max4 rfl S rfl rfl rfl rfl)) fun a S => gz 48 h2 S rfl rfl rfl rfl rfl rfl (ZAn rfl S rfl rfl rfl) fun a S => gq rfl S (ZAz rfl h2 S rfl rfl) fun a S => kk _ _ (S.join 19 67 rfl rfl) H
 refine q_as S rfl fun a S => gnt ?_
 have S := S.sel [45, 6, 4, 0] rfl
 refine c_if S rfl (fun h3 => ?_) (fun h3 => ?_)
 ·have h3p := h3; try simp only [DL] at h3p
  refine ZAB <| q_mv S rfl fun a S => q_fa S Ffo79_7 rfl fun a S => q_ld S H ZAN rfl rfl fun a S => q_cl S rfl call24 (ZBd b h z (3) (L.at_) (-1) _ (H.front (ChkA b h z)) (by omega)) fun v w hc a S => ?_
  obtain ⟨z2, hz2, H⟩ := hc
  refine ZAj ?_
  refine ZAK ?_
  refine ZB1 rfl S ?_
  exact ⟨z2, false, by rw [hz2]; rfl, by rw [hLn]; exact ⟨fun hq => absurd hq (by simp), fun hh => by have := hh.lim; have := h3p; omega⟩, H.takeT [ChkA b h z2, ZAU h] l⟩
 have h3p := h3; try simp only [DL] at h3p
 refine gsr <| q_fa S Ffo79_1 rfl fun a S => q_ld S H ZAN rfl rfl fun a S => ZAF (ZAP (wn rfl) rfl rfl rfl underlying37 Finf3 S H (idx := [0]) rfl rfl rfl (z := [.int .i64 0]) (by kernel_rfl) (cs := [.int .i64 L.height]) rfl fun b75 a w S H => ?_)
 refine q_cl S rfl call23 (crd_spec _ [L.height] _ (H.slb b75 [L.height] encI 1 rfl rfl (by intro x _; rfl) (by simp))) fun v w hc a S => ?_
 obtain ⟨rfl, he⟩ := hc
 have H := H.ext he
 refine gq rfl S (ZBV rfl S rfl) fun a S => q_mv S rfl fun a S => ?_
 refine' ZBH 2 78 rfl S H rfl rfl rfl rfl rfl rfl rfl (fun _ S => (wn rfl)) (fun h4 kk => ?yh4) (fun a w S H => ?_)
 case yh4 =>
  refine gz 78 h4 S rfl rfl rfl rfl rfl rfl (ZAL rfl S rfl) fun a S => ZAF (ZAV (wg' 78 rfl rfl S rfl h4 rfl) rfl rfl S (ZAi rfl call43 S rfl) (contBx_spec u27 (catO [(L.iv, L.aisles), (L.pv, L.pillars)]) 44 [] call44 (fun b => !boxB b) _ (H.sl u27) (fun x hx w hw => bxP_spec x w)) fun v w hc a S => ?_)
  obtain ⟨rfl, he⟩ := hc
  have H := H.ext he
  exact gq rfl S (ZAz rfl h4 S rfl rfl) fun a S => kk _ _ (S.join 3 81 rfl rfl) H
 refine q_mv S rfl fun a S => ?_
 refine' ZBH 3 82 rfl S H rfl rfl rfl rfl rfl rfl rfl (fun _ S => (wn rfl)) (fun h5 kk => ?yh5) (fun a w S H => ?_)
 case yh5 =>
  refine gz 82 h5 S rfl rfl rfl rfl rfl rfl (ZAC rfl Ffo79_6 S rfl) fun a S => gz 82 h5 S rfl rfl rfl rfl rfl rfl (ZAJ rfl Fsca77 S H rfl rfl) fun a S => ZAF (ZAV (wg' 82 rfl rfl S rfl h5 rfl) rfl rfl S (ZAi rfl call46 S rfl) (contPt_spec L.dv L.doors 47 [] call47 (fun p => !crdL [p.x, p.y]) _ (H.sl L.dv) (fun x hx w hw => ptP_spec x w)) fun v w hc a S => ?_)
  obtain ⟨rfl, he⟩ := hc
  have H := H.ext he
  exact gq rfl S (ZAz rfl h5 S rfl rfl) fun a S => kk _ _ (S.join 4 86 rfl rfl) H
 refine q_as S rfl fun a S => gnt ?_
 have S := S.sel [72, 4, 0] rfl
 refine c_if S rfl (fun h6 => ?_) (fun h6 => ?_)
 ·have h6p := h6; try simp only [DL] at h6p
  refine ZAB <| q_mv S rfl fun a S => q_fa S Ffo79_7 rfl fun a S => q_ld S H ZAN rfl rfl fun a S => q_cl S rfl call24 (ZBd b h z (2) (L.at_) (-1) _ (H.front (ChkA b h z)) (by omega)) fun v w hc a S => ?_
  obtain ⟨z2, hz2, H⟩ := hc
  refine ZAj <| ZAK <| ZB1 rfl S ?_
  have hcat : catO [(L.iv, L.aisles), (L.pv, L.pillars)] = L.aisles ++ L.pillars := by simp [catO]
  have hno2 : ¬ LevOK h n L := fun hh => by
    have h9 := h6p
    rw [hcat, hh.boxes, hh.doors] at h9
    simp [crdL, hh.hgt] at h9
  exact ⟨z2, false, by rw [hz2]; rfl, by rw [hLn]; exact ⟨fun hq => absurd hq (by simp), fun hh => absurd hh hno2⟩, H.takeT [ChkA b h z2, ZAU h] l⟩
 have h6p := h6; try simp only [DL] at h6p
 refine ZAM <| ZAK <| ZB1 rfl S ?_
 have hcat : catO [(L.iv, L.aisles), (L.pv, L.pillars)] = L.aisles ++ L.pillars := by simp [catO]
 have h9 := h6p
 rw [hcat] at h9
 have h8 := h3p
 have h7 := h1p
 have hyes : LevOK h n L := ⟨fun i hi hlt he => by (have hq := hqj i hi (by omega)); simp [he] at hq, by omega, by have := h9.1.1; simpa [crdL] using this, h9.1.2, h9.2⟩
 exact ⟨z, true, by rfl, by rw [hLn]; exact ⟨fun _ => hyes, fun _ => rfl⟩, H.takeT [ChkA b h z, ZAU h] l⟩
end
end Go.Proofs.YtjdlllacomgaoaaGreatDoor
