/- One element, or some, taken out of an own slice in place: append(s[:i], s[j:]...), and the places behind the end cleared. No condition. -/
import Derived.Test.YtngocpdmlijnfaaDoorGwStr
namespace Go.Gw
set_option linter.unusedVariables false
set_option linter.unusedSimpArgs false
theorem flat_drop {α : Type} {enc : α → List Value} {sz : Nat} {xs : List α} (hs : ∀ x ∈ xs, (enc x).length = sz) (i : Nat) (hi : i ≤ xs.length) : (xs.flatMap enc).drop (i * sz) = (xs.drop i).flatMap enc := by
  have e : xs.flatMap enc = (xs.take i).flatMap enc ++ (xs.drop i).flatMap enc := by rw [← List.flatMap_append, List.take_append_drop]
  have h2 := flatMap_len (enc := enc) (sz := sz) (xs := xs.take i) (fun x hx => hs x (List.mem_of_mem_take hx))
  rw [List.length_take, Nat.min_eq_left hi] at h2
  rw [e, List.drop_append_of_le_length (by omega), List.drop_of_length_le (by omega), List.nil_append]
section
variable {P : Program} {o : Oper} {n : Sz} {fl : Slots} {a : Act} {w w0 : World} {v : Value} {M : Nat → Prop} {l : List Atom} {ops : Array Oper} {d : Nat} {K : Act → World → Prop}
theorem HSat.takeT {rest : List Atom} (H : HSat M w0 l w) (tgt : List Atom) (t : List Atom) [h : HasPick l tgt rest] [hs : SubL t rest] : HSat M w0 (tgt ++ t) w := (H.perm h.perm).sub (hs.sub.append_left tgt)
end
end Go.Gw
