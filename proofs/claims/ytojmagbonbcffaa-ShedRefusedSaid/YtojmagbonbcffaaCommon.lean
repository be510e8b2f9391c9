/- How an ask's cells read, and closed facts. No condition. -/
import Derived.Test.YtojmagbonbcffaaW12
import Derived.Test.YtojmagbonbcffaaGwLaw
namespace Go.Proofs.Ytojmagbonbcffaa
open Go Go.Gw Go.RowKit
theorem Try.ownLaw : ownKnob Try.prog.godebug = none := by kernel_rfl
theorem Try.laid : laidOutB Try.prog = true := by kernel_rfl
theorem readsAsk : ReadsAs Try.prog 34 Ask.enc (fun _ => True) := fun h => by
  obtain ⟨ns, h1, h2, h3⟩ := readsInts (n := 3) Try.underlying34 (by kernel_rfl) (by kernel_rfl) (by kernel_rfl) h
  match ns, h2 with
  | [a, b, c], _ => exact ⟨⟨a, b, c⟩, h1, trivial⟩
theorem readsI : ReadsAs Try.prog 3 encI (fun n => (Lit.int .i64 n).wf = true) := readsInt Try.underlying3
theorem readsU : ReadsAs Try.prog 5 encU8 (fun n => (Lit.int .u8 n).wf = true) := readsInt Try.underlying5
end Go.Proofs.Ytojmagbonbcffaa
