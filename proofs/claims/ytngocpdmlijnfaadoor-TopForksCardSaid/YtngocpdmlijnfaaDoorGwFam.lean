/- Families of atoms, bags of slices that are only read, facts as atoms; interface values and calls through them. No condition. -/
import Derived.Test.YtngocpdmlijnfaaDoorGwIns
import Derived.ChangeKeysEq
namespace Go.Gw
set_option linter.unusedVariables false
set_option linter.unusedSimpArgs false
set_option linter.unusedSectionVars false
/-- a fact as an atom -/
def PureA (p : Prop) : Atom := ⟨true, fun _ => False, fun _ => p, fun _ _ _ h => h, fun _ _ _ h => h.elim⟩
section
variable {w w0 : World} {M : Nat → Prop} {l : List Atom}
theorem HSat.fact {p : Prop} (H : HSat M w0 (PureA p :: l) w) : p := H.ok (PureA p) (List.mem_cons_self ..)
theorem HSat.laid {p : Prop} (H : HSat M w0 l w) (h : p) : HSat M w0 (PureA p :: l) w :=
  ⟨H.fr, fun x hx => (List.mem_cons.1 hx).elim (fun e => e ▸ h) (H.ok x), fun x hx ho b hb => (List.mem_cons.1 hx).elim (fun e => by subst e; exact (hb : False).elim) (fun hx => H.mine x hx ho b hb), List.pairwise_cons.2 ⟨fun y hy ho b hb => (hb : False).elim, H.sep⟩⟩
end
end Go.Gw
