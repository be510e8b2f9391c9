/- How wishes' cells read, and closed facts. No condition. -/
import Derived.Test.YtoghkehlmibniaaW11
import Derived.Test.YtoghkehlmibniaaW12
import Derived.Test.YtoghkehlmibniaaW13
import Derived.Test.YtoghkehlmibniaaW14
import Derived.Test.YtoghkehlmibniaaW15
import Derived.Test.YtoghkehlmibniaaW16
import Derived.Test.YtoghkehlmibniaaW17
import Derived.Test.YtoghkehlmibniaaW18
import Derived.Test.YtoghkehlmibniaaGwArg
namespace Go.Proofs.Ytoghkehlmibniaa
open Go Go.Gw Go.RowKit
theorem Try.ownLaw : ownKnob Try.prog.godebug = none := by kernel_rfl
theorem Try.laid : laidOutB Try.prog = true := by kernel_rfl
theorem readsI : ReadsAs Try.prog 3 encI (fun n => (Lit.int .i64 n).wf = true) := readsInt Try.underlying3
/-- a row of wishes -/
theorem readsRow (W : World) : ReadsAt Try.prog W 23 (encRow (α := Int)) (fun y => IsSl W y.1 1 encI y.2 ∧ capOK y.1 ∧ ∀ x ∈ y.2, (Lit.int .i64 x).wf = true) := reads_slice Try.underlying23 (by kernel_rfl) (by decide) readsI.at_
end Go.Proofs.Ytoghkehlmibniaa
