/- How a place's cells read, and closed facts. No condition. -/
import Derived.Test.YtbncnncpeiiliaaW5
import Derived.Test.YtbncnncpeiiliaaGwLaw
namespace Go.Proofs.Ytbncnncpeiiliaa
open Go Go.Gw Go.RowKit
theorem Try.ownLaw : ownKnob Try.prog.godebug = none := by kernel_rfl
theorem Try.laid : laidOutB Try.prog = true := by kernel_rfl
theorem readsPl : ReadsAs Try.prog 26 Pl.enc (fun _ => True) := fun h => by
  obtain ⟨ns, h1, h2, h3⟩ := readsInts (n := 9) Try.underlying26 (by kernel_rfl) (by kernel_rfl) (by kernel_rfl) h
  match ns, h2 with
  | [a, b, c, d, e, f, g, i, j], _ => exact ⟨⟨a, b, c, d, e, f, g, i, j⟩, h1, trivial⟩
end Go.Proofs.Ytbncnncpeiiliaa
