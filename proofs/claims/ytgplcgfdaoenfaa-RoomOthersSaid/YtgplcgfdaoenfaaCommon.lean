/- How an operation's cells read, and closed facts. No condition. -/
import Derived.Test.YtgplcgfdaoenfaaW16
import Derived.Test.YtgplcgfdaoenfaaGwLaw
namespace Go.Proofs.Ytgplcgfdaoenfaa
open Go Go.Gw Go.RowKit
theorem Try.ownLaw : ownKnob Try.prog.godebug = none := by kernel_rfl
theorem Try.laid : laidOutB Try.prog = true := by kernel_rfl
theorem readsOp : ReadsAs Try.prog 35 Op.enc (fun _ => True) := fun h => by
  obtain ⟨vs, h1, h2, h3⟩ := readsScal (n := 3) [.b, .i .i64, .i .i64] Try.underlying35 (by kernel_rfl) (by kernel_rfl) rfl (by kernel_rfl) h
  rw [h1]
  match vs, h2 with
  | [a, b, c], _ =>
    obtain ⟨_, e1, x, rfl⟩ := h3 0 .b rfl
    obtain ⟨_, e2, y, rfl, _⟩ := h3 1 (.i .i64) rfl
    obtain ⟨_, e3, z, rfl, _⟩ := h3 2 (.i .i64) rfl
    simp only [List.getElem?_cons_zero, List.getElem?_cons_succ, Option.some.injEq] at e1 e2 e3
    subst e1; subst e2; subst e3
    exact ⟨⟨x, y, z⟩, rfl, trivial⟩
theorem readsI : ReadsAs Try.prog 3 encI (fun n => (Lit.int .i64 n).wf = true) := readsInt Try.underlying3
end Go.Proofs.Ytgplcgfdaoenfaa
