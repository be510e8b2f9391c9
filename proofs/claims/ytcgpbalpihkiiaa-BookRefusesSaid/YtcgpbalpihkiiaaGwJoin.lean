/- Where the ways through an if meet again; loops over whatever says what the world holds; max, min, / and % of numbers that are not negative. No condition. -/
import Derived.Test.YtcgpbalpihkiiaaGwOwn
namespace Go.Gw
set_option linter.unusedVariables false
set_option linter.unusedSimpArgs false
section
variable {r : Option Nat} {P : Program} {o : Oper} {n : Sz} {fl flU : Slots} {a : Act} {w w0 : World} {v : Value} {M : Nat → Prop} {l : List Atom} {ops : Array Oper} {d : Nat} {K : Act → World → Prop} {Q : Exit → Act → World → Prop}
theorem c_join {c : Operand} {x y : Code} {B : Bool} {m1 m2 mj : Slots} (S : St n fl a) (hc : ev fl c = some (.bool B))
    (ht : B = true → gp r P x (Exit.then (fun a w => St n m1 a ∧ St n flU a ∧ HSat M w0 l w) Q) a w) (hf : B = false → gp r P y (Exit.then (fun a w => St n m2 a ∧ St n flU a ∧ HSat M w0 l w) Q) a w)
    (h1 : B = true → mj = m1) (h2 : B = false → mj = m2) (k : ∀ a w, St n (mj ++ flU) a → HSat M w0 l w → K a w) : gp r P (Code.cond c x y) (Exit.then K Q) a w := by
  refine c_if S hc (fun h => ?_) (fun h => ?_)
  · refine cut _ (ht h) (fun a' w' ⟨s1, s2, hh⟩ => k a' w' (by rw [h1 h]; exact s1.append s2) hh)
  · refine cut _ (hf h) (fun a' w' ⟨s1, s2, hh⟩ => k a' w' (by rw [h2 h]; exact s1.append s2) hh)
theorem c_ji {c : Operand} {x y : Code} {B : Bool} {s : Nat} {kd : IntKind} {e1 e2 : Int} (S : St n fl a) (hc : ev fl c = some (.bool B))
    (ht : B = true → gp r P x (Exit.then (fun a w => St n [(s, .int kd e1)] a ∧ St n flU a ∧ HSat M w0 l w) Q) a w) (hf : B = false → gp r P y (Exit.then (fun a w => St n [(s, .int kd e2)] a ∧ St n flU a ∧ HSat M w0 l w) Q) a w)
    (k : ∀ a w, St n ((s, .int kd (if B = true then e1 else e2)) :: flU) a → HSat M w0 l w → K a w) : gp r P (Code.cond c x y) (Exit.then K Q) a w :=
  c_join (mj := [(s, .int kd (if B = true then e1 else e2))]) S hc ht hf (fun h => by simp [h]) (fun h => by simp [h]) k
theorem c_jb {c : Operand} {x y : Code} {B : Bool} {s : Nat} {e1 e2 : Bool} (S : St n fl a) (hc : ev fl c = some (.bool B))
    (ht : B = true → gp r P x (Exit.then (fun a w => St n [(s, .bool e1)] a ∧ St n flU a ∧ HSat M w0 l w) Q) a w) (hf : B = false → gp r P y (Exit.then (fun a w => St n [(s, .bool e2)] a ∧ St n flU a ∧ HSat M w0 l w) Q) a w)
    (k : ∀ a w, St n ((s, .bool (if B = true then e1 else e2)) :: flU) a → HSat M w0 l w → K a w) : gp r P (Code.cond c x y) (Exit.then K Q) a w :=
  c_join (mj := [(s, .bool (if B = true then e1 else e2))]) S hc ht hf (fun h => by simp [h]) (fun h => by simp [h]) k
theorem HSat.now {sz : Nat} {α : Type} {enc : α → List Value} {xs : List α} (h : IsSl w v sz enc xs) : HSat (fun _ => True) w [Sl v sz enc xs] w :=
  ⟨Fr.refl _ _, by simpa [Sl] using h, by intro x hx ho; simp at hx; subst hx; simp [Sl] at ho, List.pairwise_singleton _ _⟩
theorem HSat.any (w : World) : HSat (fun _ => True) w [] w := ⟨Fr.refl _ _, by simp, by simp, .nil⟩
/-- a slice is one cell -/
theorem HSat.sl1 (H : HSat M w0 l w) (v : Value) {sz : Nat} {α : Type} {enc : α → List Value} {xs : List α} [h : HasSl l v sz α enc xs] : v.oneCell' = true := by
  obtain ⟨p, c, hv⟩ := (H.sl v (h := h)).shape
  rw [hv]; rfl
/-- a loop: what the world holds is said by W -/
theorem loopW {X : Type} {c : Code} (SU : St n flU a) (mods : X → Slots) (W : X → World → Prop) (μ : X → Nat) (x0 : X) (S0 : St n (mods x0) a) (h0 : W x0 w)
    (body : ∀ x a w, St n (mods x ++ flU) a → W x w →
      gp r P c (Exit.then (fun a' w' => ∃ y, St n (mods y) a' ∧ St n flU a' ∧ W y w' ∧ μ y < μ x) Q) a w) : gp r P (Code.loop c) Q a w := by
  refine g_loop (fun m a w => ∃ x, μ x = m ∧ St n (mods x) a ∧ St n flU a ∧ W x w) (μ x0) ⟨x0, rfl, S0, SU, h0⟩ ?_
  rintro m a w ⟨x, rfl, S1, S2, H⟩
  refine g_mono (body x a w (S1.append S2) H) ?_
  intro e a' w' hq
  cases e with
  | normal =>
    obtain ⟨y, h1, h2, h3, h5⟩ := hq
    exact ⟨μ y, h5, y, rfl, h1, h2, h3⟩
  | _ => exact hq
end
end Go.Gw
