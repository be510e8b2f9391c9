/- How operations and texts read, and closed facts. No condition. -/
import Derived.Test.YtbjknckddoegfaaPlainP
import Derived.Test.YtbjknckddoegfaaChecked
import Derived.Test.YtbjknckddoegfaaGwArg
import Derived.ChangeMaps5
namespace Go.Proofs.Ytbjknckddoegfaa
open Go Go.Gw Go.RowKit
theorem Try.ownLaw : ownKnob Try.prog.godebug = none := by kernel_rfl
theorem Try.laid : laidOutB Try.prog = true := by kernel_rfl
theorem u8b {n : Int} (h : (Lit.int .u8 n).wf = true) : 0 ≤ n ∧ n ≤ 255 := by
  have h : IntKind.u8.min ≤ n ∧ n ≤ IntKind.u8.max := by simpa [Lit.wf] using h
  exact h
theorem readsU : ReadsAs Try.prog 5 (fun n : Int => [.int .u8 n]) (fun n => (Lit.int .u8 n).wf = true) := readsInt Try.underlying5
theorem readsS (W : World) : ReadsAt Try.prog W 9 (fun s : ByteArray => [Value.string s]) (fun s => s.size ≤ 9223372036854775807) := fun h => by
  obtain ⟨s, h1, _, h2⟩ := DataW.trod_string Try.underlying9 h
  exact ⟨s, h1, h2⟩
theorem readsOp (W : World) : ReadsAt Try.prog W 33 OpR.enc OpR.ok :=
  ReadsAt.mono (reads_struct (ts := [5, 5, 5, 9]) Try.underlying33 (by kernel_rfl)
    (readsL_cons readsU.at_ (readsL_cons readsU.at_ (readsL_cons readsU.at_ (readsL_cons (readsS W) readsL_nil)))))
    (fun y => ⟨y.1.toNat, y.2.1.toNat, y.2.2.1.toNat, y.2.2.2.1⟩)
    (fun y h => by
      have h1 := u8b h.1
      have h2 := u8b h.2.1
      have h3 := u8b h.2.2.1
      show [Value.int .u8 y.1, .int .u8 y.2.1, .int .u8 y.2.2.1, .string y.2.2.2.1] = [Value.int .u8 (y.1.toNat : Int), .int .u8 (y.2.1.toNat : Int), .int .u8 (y.2.2.1.toNat : Int), .string y.2.2.2.1]
      rw [Int.toNat_of_nonneg h1.1, Int.toNat_of_nonneg h2.1, Int.toNat_of_nonneg h3.1])
    (fun y h => by
      have h1 := u8b h.1
      have h2 := u8b h.2.1
      have h3 := u8b h.2.2.1
      exact ⟨by show y.1.toNat < 256; omega, by show y.2.1.toNat < 256; omega, by show y.2.2.1.toNat < 256; omega, h.2.2.2.1⟩)
end Go.Proofs.Ytbjknckddoegfaa
