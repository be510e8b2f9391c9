/- How a reading's cells read, and two closed facts. No condition. -/
import Derived.Test.YtfblnfkphdimjaaW3
import Derived.Test.YtfblnfkphdimjaaGwLaw
namespace Go.Proofs.Ytfblnfkphdimjaa
open Go Go.Gw Go.RowKit
theorem Try.ownLaw : ownKnob Try.prog.godebug = none := by kernel_rfl
theorem Try.laid : laidOutB Try.prog = true := by kernel_rfl
theorem readsRd : ReadsAs Try.prog 23 Rd.enc (fun _ => True) := fun h => by
  obtain ⟨ns, h1, h2, h3⟩ := readsInts (n := 3) Try.underlying23 (by kernel_rfl) (by kernel_rfl) (by kernel_rfl) h
  match ns, h2 with
  | [a, b, c], _ => exact ⟨⟨a, b, c⟩, h1, trivial⟩
end Go.Proofs.Ytfblnfkphdimjaa
