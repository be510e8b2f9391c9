/- How orders and operations read, and closed facts. No condition. -/
import Derived.Test.YtcgpbalpihkiiaaPlainB
import Derived.Test.YtcgpbalpihkiiaaChecked
import Derived.Test.YtcgpbalpihkiiaaGwArg
namespace Go.Proofs.Ytcgpbalpihkiiaa
open Go Go.Gw Go.RowKit
theorem Try.ownLaw : ownKnob Try.prog.godebug = none := by kernel_rfl
theorem Try.laid : laidOutB Try.prog = true := by kernel_rfl
theorem readsI : ReadsAs Try.prog 3 encI (fun n => (Lit.int .i64 n).wf = true) := readsInt Try.underlying3
theorem readsB (W : World) : ReadsAt Try.prog W 4 (fun b : Bool => [Value.bool b]) (fun _ => True) := fun h => by
  obtain ⟨b, h1, _⟩ := DataW.trod_bool Try.underlying4 h
  exact ⟨b, h1, trivial⟩
theorem readsS (W : World) : ReadsAt Try.prog W 9 (fun s : ByteArray => [Value.string s]) (fun s => s.size ≤ 9223372036854775807) := fun h => by
  obtain ⟨s, h1, _, h2⟩ := DataW.trod_string Try.underlying9 h
  exact ⟨s, h1, h2⟩
theorem readsOrd (W : World) : ReadsAt Try.prog W 29 Ord.enc Ord.ok :=
  ReadsAt.mono (reads_struct (ts := [3, 3, 4, 9, 3]) Try.underlying29 (by kernel_rfl)
    (readsL_cons readsI.at_ (readsL_cons readsI.at_ (readsL_cons (readsB W) (readsL_cons (readsS W) (readsL_cons readsI.at_ readsL_nil))))))
    (fun y => ⟨y.1, y.2.1, y.2.2.1, y.2.2.2.1, y.2.2.2.2.1⟩) (fun y _ => rfl) (fun y h => h.2.2.2.1)
theorem readsOpn (W : World) : ReadsAt Try.prog W 31 Opn.enc Opn.ok :=
  ReadsAt.mono (reads_struct (ts := [4, 29]) Try.underlying31 (by kernel_rfl) (readsL_cons (readsB W) (readsL_cons (readsOrd W) readsL_nil)))
    (fun y => ⟨y.1, y.2.1⟩) (fun y _ => rfl) (fun y h => h.2.1)
end Go.Proofs.Ytcgpbalpihkiiaa
