/- Strings as bytes, parts of strings, slices made with room, bytes as a string. No condition. -/
import Derived.Test.YtngocpdmlijnfaaDoorGwStrApp
import Derived.Laws.MakeOwn
namespace Go.Gw
set_option linter.unusedVariables false
set_option linter.unusedSimpArgs false
section
variable {P : Program} {o : Oper} {n : Sz} {fl : Slots} {a : Act} {w w0 : World} {v : Value} {M : Nat → Prop} {l : List Atom} {ops : Array Oper} {d : Nat} {K : Act → World → Prop}
theorem HSat.allocF (H : HSat M w0 l w) (ob : Obj) : HSat M w0 (Blk w.heap.size ob :: l) (w.alloc ob) := by
  have H' : HSat No w [Blk w.heap.size ob] (w.alloc ob) := ⟨⟨rfl, rfl, rfl, by simp, fun k hk _ => RowKit.Below.heap_alloc w ob k hk, fun k hk ht => by rw [RowKit.Below.heap_alloc w ob k hk]; exact ht⟩, by intro x hx; simp at hx; subst hx; exact heap_new w ob, by intro x hx ho b hb; simp at hx; subst hx; simp [Blk] at hb; exact .inr (by omega), List.pairwise_singleton _ _⟩
  exact H.call H' (by simp [Blk])
theorem size_toList (s : ByteArray) : s.data.toList.length = s.size := Array.length_toList
/-- the bytes of a string, to be read -/
theorem op_strBytes {T D E : TypeId} {x : Operand} {s : ByteArray} (hw : Region.wanted o (yielded ops a.tmps) = true) (hd : o.dst = some d) (hn : Nat.blt d n.n = true) (ho : o.op = .convert T D x) (hT : P.underlying T = some .string) (hD : P.underlying D = some (.slice E)) (hE : P.underlying E = some (.int .u8))
    (S : St n fl a) (H : HSat M w0 l w) (hx : ev fl x = some (.string s)) (hs : s.size ≤ 9223372036854775807)
    (k : ∀ v' a' w', St n ((d, v') :: fl) a' → HSat M w0 (Sl v' 1 encB s.data.toList :: l) w' → K a' w') : opw P ops o a w K := by
  have hr := run_bytes_of_string (P := P) w T D E s hT hD hE
  have hrun : (execOp a.eval o).run P w = .ok (.value (.slice (some ⟨w.heap.size, 0, none⟩) s.size (grownCap w s.size 0 E))) (w.drew.alloc (.cells (bytesRow s (grownCap w s.size 0 E)) E ((bytesRow s (grownCap w s.size 0 E)).size, (bytesRow s (grownCap w s.size 0 E)).size + 1))) := by
    unfold execOp; rw [ho]; simp only [S.ev hx]
    simp only [Sem.run_bind, hr, Result.andThen_ok, Sem.run_pure]
  refine opw_val hw hrun ?_
  rw [hd]
  refine k _ _ _ (S.put hn _) ?_
  have h1 := (H.ext (Ext.drew w)).allocF (.cells (bytesRow s (grownCap w s.size 0 E)) E ((bytesRow s (grownCap w s.size 0 E)).size, (bytesRow s (grownCap w s.size 0 E)).size + 1))
  have e0 : (w.drew).heap.size = w.heap.size := rfl
  rw [e0] at h1
  refine h1.conv (fun h => by cases h) (fun b hb => ?_) (fun hok => ?_)
  · have hb := hb.1
    simp only [Value.ownBlock, Option.some.injEq] at hb
    exact hb.symm
  · have hl := size_toList s
    refine ⟨by omega, ⟨_, _, by rw [hl]⟩, fun x _ => rfl, fun i hi => ⟨w.heap.size, 0, grownCap w s.size 0 E, by rw [hl], fun j u hu => ?_⟩⟩
    have hj : j = 0 := by have := (List.getElem?_eq_some_iff.1 hu).1; simp [encB] at this; omega
    subst hj
    rw [cell_of_row _ _ _ _ _ _ hok]
    simp only [encB, List.getElem?_cons_zero, Option.some.injEq] at hu
    subst hu
    have hi' : i < s.data.size := by rw [hl] at hi; exact hi
    have hi2 : i < s.size := by rw [hl] at hi; exact hi
    simp [bytesRow, Array.getElem?_append, hi', hi2]
/-- a part of a string -/
theorem y_slicestr {T : TypeId} {x lo hi : Operand} {k k2 : IntKind} {i j : Nat} {s r : ByteArray} (ho : o.op = .slice T x (some lo) (some hi) none) (hT : P.underlying T = some .string) (S : St n fl a) (hx : ev fl x = some (.string s)) (hl : ev fl lo = some (.int k (i : Int))) (hh : ev fl hi = some (.int k2 (j : Int))) (hij : i ≤ j) (hj : j ≤ s.size) (hr : s.extract i j = r) : Yld P o a w (.string r) := by
  subst hr
  unfold Yld execOp; rw [ho]
  simp only [Option.map_some, Option.map_none, S.ev hx, S.ev hl, S.ev hh]
  have h := run_slice_string (P := P) w T s k k2 (i : Int) (j : Int) hT (by omega) (by omega) (by omega)
  simp only [Int.toNat_natCast] at h
  simp only [Sem.run_bind, run_sliceAt_string (P := P) w T _ _ _ _ hT, h, Result.andThen_ok, Sem.run_pure]
/-- make([]T, 0, m) -/
theorem op_make0 {T E : TypeId} {x y : Operand} {z : Value} {sz by_ m : Nat} {k1 k2 : IntKind} {α : Type} (enc : α → List Value) (hw : Region.wanted o (yielded ops a.tmps) = true) (hd : o.dst = some d) (hn : Nat.blt d n.n = true) (ho : o.op = .makeSlice T x y) (hT : P.underlying T = some (.slice E)) (hE : infoB P E = some (z, sz, by_)) (hz : z.cells.size = sz)
    (S : St n fl a) (H : HSat M w0 l w) (hx : ev fl x = some (.int k1 0)) (hy : ev fl y = some (.int k2 (m : Int))) (hb : by_ * m ≤ 281474976710656) (hm : m ≤ 9223372036854775807)
    (k : ∀ v' a' w', v' ≠ .slice none 0 0 → St n ((d, v') :: fl) a' → HSat M w0 (OSl E v' sz enc [] :: l) w' → K a' w') : opw P ops o a w K := by
  obtain ⟨i, hinf, hzi, hsi, hbi⟩ := infoB_parts hE
  have hr := run_make (P := P) w T E i z hT hinf hzi k1 k2 0 (m : Int) (by omega) (by omega) (by rw [hbi, ← Int.natCast_mul]; omega) (by omega)
  simp only [Int.toNat_natCast, Int.toNat_zero] at hr
  have hrun : (execOp a.eval o).run P w = .ok (.value (.slice (some ⟨w.heap.size, 0, none⟩) 0 m)) (w.alloc (.cells (madeCells z.cells (m * i.size)) E)) := by
    unfold execOp; rw [ho]; simp only [S.ev hx, S.ev hy]; simp [hr]
  refine opw_val hw hrun ?_
  rw [hd]
  refine k _ _ _ (by simp) (S.put hn _) ?_
  have h1 := H.alloc (.cells (madeCells z.cells (m * i.size)) E) (Nat.le_refl 0)
  refine h1.conv (fun _ => rfl) (fun b hb => ?_) (fun hok => ?_)
  · simp only [OSl, Value.ownBlock, Option.some.injEq] at hb; exact hb.symm
  · exact ⟨⟨by simp, .inr ⟨w.heap.size, m, madeCells z.cells (m * i.size), rfl, Nat.zero_le _, hok, Nat.zero_le _, by simpa [maxLen] using hm, by rw [hsi]; simp [madeCells], by simp⟩⟩, by simp, by simp⟩
/-- the bytes of a slice as a string -/
theorem y_slstr {T D E : TypeId} {x : Operand} {t : List UInt8} (ho : o.op = .convert T D x) (hs : P.underlying T = some (.slice E)) (he : P.underlying E = some (.int .u8)) (hd : P.underlying D = some .string) (S : St n fl a) (H : HSat M w0 l w)
    (hx : ev fl x = some v) [h : HasSl l v 1 UInt8 encB t] : Yld P o a w (.string ⟨t.toArray⟩) := by
  have hsl := H.sl v (h := h)
  unfold Yld execOp; rw [ho]; simp only [S.ev hx]
  by_cases hne : t = []
  · subst hne
    obtain ⟨p, c, hv⟩ := hsl.shape
    rw [hv]
    cases p with
    | none =>
      have hz := run_convert_bytes_string (P := P) w T D E none 0 c hs he hd
      simp only [List.length_nil, Sem.run_bind, hz]
      simp [Conv.bytesToString]
      rfl
    | some p =>
      have hz := run_convert_bytes_back (P := P) w T D E p c [] hs he hd (by simp)
      simp only [List.length_nil] at hz
      simp only [List.length_nil, Sem.run_bind, hz, Result.andThen_ok, Sem.run_pure]
  · obtain ⟨b, off, c, hv, hc⟩ := hsl.flat (by omega) hne
    have hh := run_convert_bytes_back (P := P) w T D E ⟨b, off, none⟩ c t hs he hd (fun j hj => by
      rw [add_plain]
      refine hc j _ ?_
      have e : (t.flatMap encB)[j * 1 + 0]? = (encB t[j])[0]? := flatMap_at (sz := 1) (fun _ _ => rfl) j hj 0 (by omega)
      simpa [encB] using e)
    rw [hv]
    simp only [Sem.run_bind, hh, Result.andThen_ok, Sem.run_pure]
/-- a result that lies in a block; the function holds loops over functions -/
theorem retcsM {fn : Func} {R : Value → World → Prop} {t T b : Nat} {cs : List Value} {T' : TypeId} {fz : Nat × Nat} {m : Nat} {ds : List Nat} (hr : fn.results = #[.cell t T]) (S : St ⟨m, ds⟩ fl a) (H : HSat M w0 (DefsA ds :: l) w) (hv : fl.lookup t = some (.pointer (some ⟨b, 0, none⟩)))
    [h : HasRd l b (.cells cs.toArray T' fz)] (hT : scalarB P T = true) (hc : cs[0]? = some v) (hR : ∀ w, HSat M w0 l w → R v w) : endP P fn R .ret a w := by
  show LeavesInM Fence.wide 0 P fn a.tmps _ a.defers .returning w
  rw [S.defers]
  refine leavesM (fun w H => ?_) hR ds w H
  have hl := run_loadVar_scalar (P := P) (w := w) (p := ⟨b, 0, none⟩) hT (by rw [H.cell h]; exact hc)
  have hv' : a.tmps[t]?.getD undef = .pointer (some ⟨b, 0, none⟩) := by rw [← Array.getD_eq_getD_getElem?]; exact S.get t _ hv
  simp [results, hr, hv', asAddr, hl]
end
end Go.Gw
