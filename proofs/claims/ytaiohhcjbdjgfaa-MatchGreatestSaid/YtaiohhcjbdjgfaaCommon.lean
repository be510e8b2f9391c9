/- How a graph's and a cover's cells read, and closed facts. No condition. -/
import Derived.Test.YtaiohhcjbdjgfaaW9
import Derived.Test.YtaiohhcjbdjgfaaW10
import Derived.Test.YtaiohhcjbdjgfaaW11
import Derived.Test.YtaiohhcjbdjgfaaW12
import Derived.Test.YtaiohhcjbdjgfaaW13
import Derived.Test.YtaiohhcjbdjgfaaW14
import Derived.Test.YtaiohhcjbdjgfaaW15
import Derived.Test.YtaiohhcjbdjgfaaW16
import Derived.Test.YtaiohhcjbdjgfaaGwArg
namespace Go.Proofs.Ytaiohhcjbdjgfaa
open Go Go.Gw Go.RowKit
theorem Try.ownLaw : ownKnob Try.prog.godebug = none := by kernel_rfl
theorem Try.laid : laidOutB Try.prog = true := by kernel_rfl
theorem readsI : ReadsAs Try.prog 3 encI (fun n => (Lit.int .i64 n).wf = true) := readsInt Try.underlying3
theorem readsBool : ReadsAs Try.prog 4 encB (fun _ => True) := fun h => by
  obtain ⟨q, h1, _⟩ := DataW.trod_bool Try.underlying4 h
  exact ⟨q, h1, trivial⟩
/-- a row of a graph -/
theorem readsRow (W : World) : ReadsAt Try.prog W 23 (encRow (α := Int)) (fun y => IsSl W y.1 1 encI y.2 ∧ capOK y.1 ∧ ∀ x ∈ y.2, (Lit.int .i64 x).wf = true) := reads_slice Try.underlying23 (by kernel_rfl) (by decide) readsI.at_
/-- a cover -/
def encC (y : (Value × List Int) × (Value × List Int)) : List Value := [y.1.1, y.2.1]
theorem readsC (W : World) : ReadsAt Try.prog W 25 encC (fun y => (IsSl W y.1.1 1 encI y.1.2 ∧ capOK y.1.1) ∧ (IsSl W y.2.1 1 encI y.2.2 ∧ capOK y.2.1)) :=
  ReadsAt.mono (reads_struct (ts := [23, 23]) Try.underlying25 (by kernel_rfl) (readsL_cons (readsRow W) (readsL_cons (readsRow W) readsL_nil))) (fun y => (y.1, y.2.1)) (fun y _ => rfl) (fun y h => ⟨⟨h.1.1, h.1.2.1⟩, ⟨h.2.1.1, h.2.1.2.1⟩⟩)
end Go.Proofs.Ytaiohhcjbdjgfaa
