/- Slices of slices that are read. No condition. -/
import Derived.Test.YtngocpdmlijnfaaDoorGwRows
namespace Go.Gw
set_option linter.unusedVariables false
set_option linter.unusedSimpArgs false
/-- v[i:j] of a slice whose elements take sz cells -/
def subV (v : Value) (i j sz : Nat) : Value := match v with
  | .slice p n c => .slice (if c = i then p else p.map (·.add (i * sz))) (min j n - i) (c - i)
  | _ => .slice none 0 0
def capOK : Value → Prop
  | .slice _ n c => n ≤ c
  | _ => False
class HasCap (l : List Atom) (v : Value) : Prop where
  at_ : ∀ w, (∀ x ∈ l, x.ok w) → capOK v
theorem IsOSl.cap {w : World} {e : TypeId} {v : Value} {sz : Nat} {α : Type} {enc : α → List Value} {xs : List α} (h : IsOSl w e v sz enc xs) : capOK v := by
  rcases h.row.2 with ⟨rfl, hn⟩ | ⟨g, cap, cur, rfl, _, _, hc, _⟩
  · exact Nat.le_refl 0
  · exact hc
instance (priority := 2000) HasCap.own (l : List Atom) (e : TypeId) (v : Value) (sz : Nat) (α : Type) (enc : α → List Value) (xs : List α) : HasCap (OSl e v sz enc xs :: l) v := ⟨fun w h => IsOSl.cap (h (OSl e v sz enc xs) (List.mem_cons_self ..))⟩
instance (priority := 2000) HasCap.ownRo (l : List Atom) (e : TypeId) (v : Value) (sz : Nat) (α : Type) (enc : α → List Value) (xs : List α) : HasCap (Atom.ro (OSl e v sz enc xs) :: l) v := ⟨fun w h => IsOSl.cap (h (Atom.ro (OSl e v sz enc xs)) (List.mem_cons_self ..))⟩
instance HasCap.there (l : List Atom) (x : Atom) (v : Value) [h : HasCap l v] : HasCap (x :: l) v := ⟨fun w hw => h.at_ w (fun y hy => hw y (List.mem_cons_of_mem _ hy))⟩
/-- a slice's length does not exceed its capacity -/
def CapA (v : Value) : Atom := ⟨false, fun _ => False, fun _ => capOK v, fun _ _ _ h => h, fun _ _ _ h => h.elim⟩
def CapS {β : Type} (ps : List (Value × β)) : Atom := ⟨false, fun _ => False, fun _ => ∀ p ∈ ps, capOK p.1, fun _ _ _ h => h, fun _ _ _ h => h.elim⟩
instance (priority := 2000) HasCap.a (l : List Atom) (v : Value) : HasCap (CapA v :: l) v := ⟨fun w h => h (CapA v) (List.mem_cons_self ..)⟩
instance (priority := 2000) HasCap.s (l : List Atom) (β : Type) (ps : List (Value × β)) (i : Nat) (h : i < ps.length) : HasCap (CapS ps :: l) (ps[i]'h).1 := ⟨fun w hw => hw (CapS ps) (List.mem_cons_self ..) _ (List.getElem_mem h)⟩
instance (priority := 2000) HasCap.sRo (l : List Atom) (β : Type) (ps : List (Value × β)) (i : Nat) (h : i < ps.length) : HasCap (Atom.ro (CapS ps) :: l) (ps[i]'h).1 := ⟨fun w hw => hw (Atom.ro (CapS ps)) (List.mem_cons_self ..) _ (List.getElem_mem h)⟩
instance ROs.capA (v : Value) (r : List Atom) [h : ROs r] : ROs (CapA v :: r) := ⟨by simpa [CapA] using h.all⟩
instance ROs.capS (β : Type) (ps : List (Value × β)) (r : List Atom) [h : ROs r] : ROs (CapS ps :: r) := ⟨by simpa [CapS] using h.all⟩
instance HasCap.app (l1 l : List Atom) (v : Value) [h : HasCap l v] : HasCap (l1 ++ l) v := ⟨fun w hw => h.at_ w (fun y hy => hw y (List.mem_append_right _ hy))⟩
theorem IsSl.sub {w : World} {v : Value} {sz : Nat} {α : Type} {enc : α → List Value} {xs : List α} (h : IsSl w v sz enc xs) (hc : capOK v) (i j : Nat) : IsSl w (subV v i j sz) sz enc ((xs.take j).drop i) := by
  obtain ⟨p, c, rfl⟩ := h.shape
  have hc' : xs.length ≤ c := hc
  have hl : ((xs.take j).drop i).length = min j xs.length - i := by simp
  refine ⟨by rw [hl]; have := h.len; omega, ⟨_, _, by rw [hl]; rfl⟩, fun x hx => h.sizes x (List.mem_of_mem_take (List.mem_of_mem_drop hx)), fun k hk => ?_⟩
  rw [hl] at hk
  obtain ⟨b, off, c1, he, hcell⟩ := h.cells (i + k) (by omega)
  simp only [Value.slice.injEq, true_and] at he
  obtain ⟨rfl, rfl⟩ := he
  refine ⟨b, off + i * sz, c - i, ?_, fun q u hu => ?_⟩
  · rw [hl]
    have : c ≠ i := by omega
    simp [subV, this, add_plain]
  · have e : ((xs.take j).drop i)[k]'(by rw [hl]; exact hk) = xs[i + k]'(by omega) := by simp
    rw [e] at hu
    rw [← hcell q u hu]
    have : (i + k) * sz = i * sz + k * sz := Nat.add_mul ..
    rw [show off + i * sz + k * sz + q = off + (i + k) * sz + q by omega]
theorem capOK_sub {v : Value} (h : capOK v) (i j sz : Nat) : capOK (subV v i j sz) := by
  cases v <;> simp only [capOK, subV] at h ⊢ <;> omega
instance HasSl.sub (l : List Atom) (v : Value) (sz : Nat) (α : Type) (enc : α → List Value) (xs : List α) (i j : Nat) [h : HasSl l v sz α enc xs] [hc : HasCap l v] : HasSl l (subV v i j sz) sz α enc ((xs.take j).drop i) := ⟨fun w hw => (h.at_ w hw).sub (hc.at_ w hw) i j⟩
section
variable {P : Program} {o : Oper} {n : Sz} {fl : Slots} {a : Act} {w w0 : World} {v : Value} {M : Nat → Prop} {l : List Atom}
theorem elem_of {T E : TypeId} (hT : P.underlying T = some (.slice E)) : P.elem T = E := by simp [Program.elem, hT]
theorem run_sub {T E : TypeId} {sz : Nat} {α : Type} {enc : α → List Value} {xs : List α} (hT : P.underlying T = some (.slice E)) (hE : sizeB P E sz = true) (hs : IsSl w v sz enc xs) (hc : capOK v) (i j : Nat) (hi : i ≤ j) (hj : j ≤ xs.length) (lo hi' : Option Value)
    (hlo : (lo = none ∧ i = 0) ∨ ∃ k, lo = some (.int k (i : Int))) (hhi : (hi' = none ∧ j = xs.length) ∨ ∃ k, hi' = some (.int k (j : Int))) : (Instr.sliceAt T v lo hi' none).run P w = .ok (subV v i j sz) w := by
  obtain ⟨p, c, rfl⟩ := hs.shape
  have hc' : xs.length ≤ c := hc
  have hT' : P.underlying T = some (.slice (P.elem T)) := by rw [elem_of hT]; exact hT
  rw [run_sliceAt_slice (P := P) w T _ lo hi' none hT']
  have hsz : (sizeOf (P.elem T)).run P w = .ok sz w := by rw [elem_of hT]; exact run_sizeOf_agg (sizeB_size hE)
  have fin : ∀ (i' j' : Nat), i' = i → j' = j → (Result.ok (sliced p i' j' c sz) w : Result Value) = .ok (subV (.slice p xs.length c) i j sz) w := by
    rintro _ _ rfl rfl
    simp only [sliced, subV]
    rw [Nat.min_eq_left hj]
  rcases hlo with ⟨rfl, rfl⟩ | ⟨k, rfl⟩ <;> rcases hhi with ⟨rfl, rfl⟩ | ⟨k2, rfl⟩
  · rw [run_slice_all (P := P) w T p xs.length c hT', hsz]; exact fin _ _ rfl rfl
  · rw [run_slice_h (P := P) w T p xs.length c hT' k2 _ (by omega) (by omega), hsz]; exact fin _ _ rfl (by simp)
  · rw [run_slice_l (P := P) w T p xs.length c hT' k _ (by omega) (by omega), hsz]; exact fin _ _ (by simp) rfl
  · rw [run_slice_lh (P := P) w T p xs.length c hT' k k2 _ _ (by omega) (by omega) (by omega), hsz]; exact fin _ _ (by simp) (by simp)
theorem y_sliceH {T E : TypeId} {x hi : Operand} {k : IntKind} {j : Nat} {sz : Nat} {α : Type} {enc : α → List Value} {xs : List α} (ho : o.op = .slice T x none (some hi) none) (hT : P.underlying T = some (.slice E)) (hE : sizeB P E sz = true) (S : St n fl a) (H : HSat M w0 l w)
    (hx : ev fl x = some v) (hh : ev fl hi = some (.int k (j : Int))) [h : HasSl l v sz α enc xs] [hc : HasCap l v] (hb : j ≤ xs.length) : Yld P o a w (subV v 0 j sz) := by
  unfold Yld execOp; rw [ho]
  simp only [Option.map_some, Option.map_none, S.ev hx, S.ev hh]
  simp only [Sem.run_bind, run_sub hT hE (H.sl v) (hc.at_ w H.ok) 0 j (by omega) hb none _ (.inl ⟨rfl, rfl⟩) (.inr ⟨k, rfl⟩), Result.andThen_ok, Sem.run_pure]
end
section
variable {w w' w0 : World} {M : Nat → Prop} {l : List Atom}
theorem HSat.cap (H : HSat M w0 l w) (v : Value) [h : HasCap l v] : capOK v := h.at_ w H.ok
end
end Go.Gw
