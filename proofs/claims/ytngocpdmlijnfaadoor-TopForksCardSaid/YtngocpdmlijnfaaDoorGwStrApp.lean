/- A string's bytes appended to a slice of the call's own. No condition. -/
import Derived.Test.YtngocpdmlijnfaaDoorGwWord
import Derived.Lib.AppendStr
namespace Go.Gw
open Go.Lib Go.RowKit
set_option linter.unusedVariables false
set_option linter.unusedSimpArgs false
section
variable {P : Program} {o : Oper} {n : Sz} {fl : Slots} {a : Act} {w w0 : World} {v : Value} {M : Nat → Prop} {l : List Atom} {ops : Array Oper} {d : Nat} {K : Act → World → Prop}
def encB (c : UInt8) : List Value := [.int .u8 (c.toNat : Int)]
theorem strCells_flat (s : ByteArray) : strCells s = s.data.toList.flatMap encB := by
  unfold strCells
  rw [List.map_eq_flatMap]
  rfl
theorem run_append_str_at {T U ty E : TypeId} {z : Value} (hT : P.underlying T = some (.slice E)) (hU : P.underlying U = some .string) (hE : infoB P E = some (z, 1, 1)) (hz : z = .int .u8 0)
    {xs : List UInt8} (ho : IsOSl w E v 1 encB xs) (s : ByteArray) (hb : xs.length + s.size ≤ 140737488355328) (hne : s.size ≠ 0 ∨ v ≠ .slice none 0 0) :
    ∃ v' w', (Builtin.append_ #[T, U] ty #[v, .string s]).run P w = .ok v' w' ∧ IsOSl w' E v' 1 encB (xs ++ s.data.toList) ∧ Fr (fun k => v.ownBlock = some k) w w' ∧ (∀ b, v'.ownBlock = some b → v.ownBlock = some b ∨ w.heap.size ≤ b) ∧ v' ≠ .slice none 0 0 := by
  subst hz
  obtain ⟨i, hi, hzi, hsi, hbi⟩ := infoB_parts hE
  have hsl : s.data.toList.length = s.size := Array.length_toList
  obtain ⟨v', w', hr, hown, hgr, hnil⟩ := run_append_own_string (P := P) w 0 T U ty E i hT hU hi hzi hsi hbi v xs.length (xs.flatMap encB) ho.row s (by unfold maxLen; omega) hb (Nat.zero_le _)
  have hrow : IsOSl w' E v' 1 encB (xs ++ s.data.toList) := ⟨by rw [List.length_append, hsl, List.flatMap_append, ← strCells_flat]; exact hown, by rw [List.length_append, hsl]; omega, fun x hx => rfl⟩
  have hcase : (∀ k, k < w.heap.size → ThawO w.heap[k]? → ThawO w'.heap[k]?) ∧ (∀ b, v'.ownBlock = some b → v.ownBlock = some b ∨ w.heap.size ≤ b) := by
    rcases ho.row.2 with ⟨rfl, hn⟩ | ⟨g, cap, cur, rfl, _, hg, hnc, hcm, hcs, ht⟩
    · have h0 : 0 < s.size := by rcases hne with h | h; omega; exact absurd rfl h
      have hr2 := run_append_nil_string (P := P) w T U ty E i _ hT hU hi hzi s h0 (by omega) (by rw [hbi]; omega)
      rw [hr2] at hr
      cases hr
      refine ⟨((Ext.drew w).trans (Ext.alloc_cells _ _ _)).thaw, fun b hb' => ?_⟩
      simp only [Value.ownBlock, Option.some.injEq] at hb'
      exact .inr (by omega)
    · by_cases hroom : xs.length + s.size ≤ cap
      · have hr2 := run_append_room_string (P := P) w T U ty E i hT hU hi hsi g xs.length cap cur hg s hroom (by rw [hcs]; omega)
        rw [hr2] at hr
        cases hr
        refine ⟨fun k _ hk => ?_, fun b hb' => .inl hb'⟩
        by_cases hkg : k = g
        · subst hkg; rw [setRow_heap w k _ _ _ _ hg]; exact Nat.le_refl 0
        · rw [setRow_other w g k _ hkg]; exact hk
      · have holds : ∀ j u, (xs.flatMap encB)[j]? = some u → w.cell? ((⟨g, 0, none⟩ : Addr).add j) = some u := ho.row.cells (g := g) rfl
        have hr2 := run_append_grow_string (P := P) w T U ty E i _ hT hU hi hzi ⟨g, 0, none⟩ xs.length cap (xs.flatMap encB) (by rw [hsi]; exact flatMap_len ho.sizes) holds s (by omega) (by omega) (by rw [hbi]; exact growslice_fits (by omega) (by omega))
        rw [hr2] at hr
        cases hr
        refine ⟨((Ext.drew w).trans (Ext.alloc_cells _ _ _)).thaw, fun b hb' => ?_⟩
        simp only [Value.ownBlock, Option.some.injEq] at hb'
        exact .inr (by omega)
  refine ⟨v', w', hr, hrow, ⟨hgr.os, hgr.tape, hgr.output, hgr.size, fun k hk hM => hgr.block k hk (fun e => hM e.symm), hcase.1⟩, hcase.2, fun e => ?_⟩
  obtain ⟨e1, e2⟩ := hnil.1 e
  rcases hne with h | h
  · exact h e2
  · exact h e1
theorem op_appendStr {T U E : TypeId} {s x : Operand} {z : Value} {xs : List UInt8} {l' : Atom → List Atom} (t : ByteArray)
    (hw : Region.wanted o (yielded ops a.tmps) = true) (hd : o.dst = some d) (hn : Nat.blt d n.n = true) (ho : o.op = .call { callee := .builtin .append, args := #[s, x], argTypes := #[T, U] }) (hT : P.underlying T = some (.slice E)) (hU : P.underlying U = some .string) (hE : infoB P E = some (z, 1, 1)) (hz : z = .int .u8 0)
    (S : St n fl a) (H : HSat M w0 l w) (hs : ev fl s = some v) (hx : ev fl x = some (.string t)) [hO : HasO l v E 1 UInt8 encB xs l'] (hb : xs.length + t.size ≤ 140737488355328) (hne : t.size ≠ 0 ∨ v ≠ .slice none 0 0)
    (k : ∀ v' a' w', v' ≠ .slice none 0 0 → St n ((d, v') :: fl) a' → HSat M w0 (l' (OSl E v' 1 encB (xs ++ t.data.toList))) w' → K a' w') : opw P ops o a w K := by
  obtain ⟨l1, l2, e1, e2⟩ := hO.at_
  have hok : IsOSl w E v 1 encB xs := H.ok (OSl E v 1 encB xs) (by rw [e1]; simp)
  obtain ⟨v', w', hr, hown, hfr, hnew, hnn⟩ := run_append_str_at (P := P) (ty := o.type) hT hU hE hz hok t hb hne
  have hrun : (execOp a.eval o).run P w = .ok (.value v') w' := by
    unfold execOp; rw [ho]
    simp only [resolve, invoke, builtin, Sem.run_bind, Sem.run_pure, Result.andThen_ok, List.map_toArray, List.map_cons, List.map_nil, S.ev hs, S.ev hx, hr]
  refine opw_val hw hrun ?_
  rw [hd]
  refine k v' _ w' hnn (S.put hn v') ?_
  rw [e2]
  rw [e1] at H
  exact HSat.swap H rfl rfl hfr hown hnew
end
end Go.Gw
