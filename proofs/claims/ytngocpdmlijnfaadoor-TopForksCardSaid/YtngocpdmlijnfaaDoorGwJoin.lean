/- Where the ways through an if meet again; loops over whatever says what the world holds; max, min, / and % of numbers that are not negative. No condition. -/
import Derived.Test.YtngocpdmlijnfaaDoorGwOwn
namespace Go.Gw
set_option linter.unusedVariables false
set_option linter.unusedSimpArgs false
section
variable {r : Option Nat} {P : Program} {o : Oper} {n : Sz} {fl flU : Slots} {a : Act} {w w0 : World} {v : Value} {M : Nat → Prop} {l : List Atom} {ops : Array Oper} {d : Nat} {K : Act → World → Prop} {Q : Exit → Act → World → Prop}
theorem y_max {x y : Operand} {k k' : IntKind} {m q : Int} {ts : Array TypeId} (ho : o.op = .call { callee := .builtin .max, args := #[x, y], argTypes := ts }) (S : St n fl a) (hx : ev fl x = some (.int k m)) (hy : ev fl y = some (.int k' q)) : Yld P o a w (.int k (max m q)) := by
  unfold Yld execOp; rw [ho]; simp [resolve, invoke, builtin, S.ev hx, S.ev hy, Builtin.max_, Builtin.max2]; omega
theorem y_min {x y : Operand} {k k' : IntKind} {m q : Int} {ts : Array TypeId} (ho : o.op = .call { callee := .builtin .min, args := #[x, y], argTypes := ts }) (S : St n fl a) (hx : ev fl x = some (.int k m)) (hy : ev fl y = some (.int k' q)) : Yld P o a w (.int k (min m q)) := by
  unfold Yld execOp; rw [ho]; simp [resolve, invoke, builtin, S.ev hx, S.ev hy, Builtin.min_, Builtin.min2]; omega
theorem y_quon {T U : TypeId} {x y : Operand} {m q : Int} (ho : o.op = .binOp .quo T x y U) (S : St n fl a) (hx : ev fl x = some (.int .i64 m)) (hy : ev fl y = some (.int .i64 q)) (hm : 0 ≤ m) (hq : 0 < q) (hb : m ≤ 9223372036854775807) : Yld P o a w (.int .i64 (m / q)) := by
  have h1 : m.tdiv q = m / q := Int.tdiv_eq_ediv_of_nonneg hm
  rw [← h1]
  refine y_quo ho S hx hy (by omega) ?_
  rw [h1]
  have h2 := Int.ediv_le_self q hm
  have h3 := Int.ediv_nonneg hm (Int.le_of_lt hq)
  omega
theorem y_remn {T U : TypeId} {x y : Operand} {k : IntKind} {m q : Int} (ho : o.op = .binOp .rem T x y U) (S : St n fl a) (hx : ev fl x = some (.int k m)) (hy : ev fl y = some (.int k q)) (hm : 0 ≤ m) (hq : 0 < q) : Yld P o a w (.int k (m % q)) := by
  rw [← Int.tmod_eq_emod_of_nonneg hm]
  exact y_rem ho S hx hy (by omega)
theorem HSat.now {sz : Nat} {α : Type} {enc : α → List Value} {xs : List α} (h : IsSl w v sz enc xs) : HSat (fun _ => True) w [Sl v sz enc xs] w :=
  ⟨Fr.refl _ _, by simpa [Sl] using h, by intro x hx ho; simp at hx; subst hx; simp [Sl] at ho, List.pairwise_singleton _ _⟩
theorem HSat.any (w : World) : HSat (fun _ => True) w [] w := ⟨Fr.refl _ _, by simp, by simp, .nil⟩
/-- a literal slice is a slice -/
theorem HSat.slb (H : HSat M w0 l w) (b : Nat) {cs : List Value} {T : TypeId} {fz : Nat × Nat} [h : HasRd l b (.cells cs.toArray T fz)] {α : Type} (xs : List α) (enc : α → List Value) (sz : Nat) {m c : Nat} (hcs : cs = xs.flatMap enc) (hm : xs.length = m) (hs : ∀ x ∈ xs, (enc x).length = sz) (hl : m ≤ 9223372036854775807) :
    IsSl w (.slice (some ⟨b, 0, none⟩) m c) sz enc xs := by
  subst hm
  refine ⟨hl, ⟨_, _, rfl⟩, hs, fun i hi => ⟨b, 0, c, rfl, fun j u hu => ?_⟩⟩
  have hj : j < sz := by rw [← hs _ (List.getElem_mem hi)]; exact (List.getElem?_eq_some_iff.1 hu).1
  rw [H.cell h, hcs, Nat.zero_add, flatMap_at hs i hi j hj, hu]
/-- a slice is one cell -/
theorem HSat.sl1 (H : HSat M w0 l w) (v : Value) {sz : Nat} {α : Type} {enc : α → List Value} {xs : List α} [h : HasSl l v sz α enc xs] : v.oneCell' = true := by
  obtain ⟨p, c, hv⟩ := (H.sl v (h := h)).shape
  rw [hv]; rfl
/-- a loop: what the world holds is said by W -/
theorem loopW {X : Type} {c : Code} (SU : St n flU a) (mods : X → Slots) (W : X → World → Prop) (μ : X → Nat) (x0 : X) (S0 : St n (mods x0) a) (h0 : W x0 w)
    (body : ∀ x a w, St n (mods x ++ flU) a → W x w →
      gp r P c (Exit.then (fun a' w' => ∃ y, St n (mods y) a' ∧ St n flU a' ∧ W y w' ∧ μ y < μ x) Q) a w) : gp r P (Code.loop c) Q a w := by
  refine g_loop (fun m a w => ∃ x, μ x = m ∧ St n (mods x) a ∧ St n flU a ∧ W x w) (μ x0) ⟨x0, rfl, S0, SU, h0⟩ ?_
  rintro m a w ⟨x, rfl, S1, S2, H⟩
  refine g_mono (body x a w (S1.append S2) H) ?_
  intro e a' w' hq
  cases e with
  | normal =>
    obtain ⟨y, h1, h2, h3, h5⟩ := hq
    exact ⟨μ y, h5, y, rfl, h1, h2, h3⟩
  | _ => exact hq
end
end Go.Gw
