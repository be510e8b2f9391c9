/- How titles, places and operations read, and closed facts. No condition. -/
import Derived.Test.YtnnendajegdnhaaT11
import Derived.Test.YtnnendajegdnhaaGwArg
namespace Go.Proofs.Ytnnendajegdnhaa
open Go Go.Gw Go.RowKit
theorem Try.ownLaw : ownKnob Try.prog.godebug = none := by kernel_rfl
theorem Try.laid : laidOutB Try.prog = true := by kernel_rfl
theorem readsI : ReadsAs Try.prog 3 encI (fun n => (Lit.int .i64 n).wf = true) := readsInt Try.underlying3
theorem readsU : ReadsAs Try.prog 5 encU8 (fun n => (Lit.int .u8 n).wf = true) := readsInt Try.underlying5
theorem u8b {n : Int} (h : (Lit.int .u8 n).wf = true) : 0 ≤ n ∧ n ≤ 255 := by
  have h : IntKind.u8.min ≤ n ∧ n ≤ IntKind.u8.max := by simpa [Lit.wf] using h
  exact h
theorem readsPl : ReadsAs Try.prog 85 Pl.enc (fun _ => True) := fun h => by
  obtain ⟨ns, h1, h2, h3⟩ := readsInts (n := 9) Try.underlying85 (by kernel_rfl) (by kernel_rfl) (by kernel_rfl) h
  match ns, h2 with
  | [a, b, c, d, e, f, g, i, j], _ => exact ⟨⟨a, b, c, d, e, f, g, i, j⟩, h1, trivial⟩
def encV (v : Value) : List Value := [v]
theorem readsStr (W : World) : ReadsAt Try.prog W 9 encV (fun v => ∃ s : ByteArray, v = .string s) := fun h => by
  obtain ⟨s, h1, _⟩ := DataW.trod_string Try.underlying9 h
  exact ⟨.string s, h1, s, rfl⟩
theorem readsSl (W : World) {t e : TypeId} (hT : Try.prog.underlying t = some (.slice e)) : ReadsAt Try.prog W t encV (fun v => v.oneCell' = true) := fun h => by
  rcases DataW.trod_slice hT h with ⟨rfl, _⟩ | ⟨a, len, cap, _, _, _, _, rfl, _⟩
  · exact ⟨.slice none 0 0, rfl, rfl⟩
  · exact ⟨.slice (some a) len cap, rfl, rfl⟩
theorem readsRow (W : World) : ReadsAt Try.prog W 39 (encRow (α := Int)) (fun y => IsSl W y.1 1 encI y.2 ∧ capOK y.1 ∧ ∀ x ∈ y.2, (Lit.int .i64 x).wf = true) := reads_slice Try.underlying39 (by kernel_rfl) (by decide) readsI.at_
/-- a title -/
theorem readsOw (W : World) : ReadsAt Try.prog W 66 Ow.enc (fun o => o.ok ∧ (∃ s : ByteArray, o.person = .string s) ∧ ∃ xs, IsSl W o.offers 1 encI xs) :=
  ReadsAt.mono (reads_struct (ts := [60, 9, 63, 64, 3, 39]) Try.underlying66 (by kernel_rfl)
    (readsL_cons (reads_struct (ts := [3, 3, 3, 9, 58]) Try.underlying60 (by kernel_rfl) (readsL_cons readsI.at_ (readsL_cons readsI.at_ (readsL_cons readsI.at_ (readsL_cons (readsStr W) (readsL_cons (readsSl W Try.underlying58) readsL_nil))))))
    (readsL_cons (readsStr W)
    (readsL_cons (reads_struct (ts := [61, 3]) Try.underlying63 (by kernel_rfl) (readsL_cons (readsSl W Try.underlying61) (readsL_cons readsI.at_ readsL_nil)))
    (readsL_cons (readsSl W Try.underlying64) (readsL_cons readsI.at_ (readsL_cons (readsRow W) readsL_nil)))))))
    (fun y => ⟨y.1.1, y.1.2.1, y.1.2.2.1, y.1.2.2.2.1, y.1.2.2.2.2.1, y.2.1, y.2.2.1.1, y.2.2.1.2.1, y.2.2.2.1, y.2.2.2.2.1, y.2.2.2.2.2.1.1⟩) (fun y _ => rfl)
    (fun y h => by
      obtain ⟨s1, e1⟩ := h.1.2.2.2.1
      obtain ⟨s2, e2⟩ := h.2.1
      obtain ⟨p, c, e3⟩ := h.2.2.2.2.2.1.1.shape
      exact ⟨⟨by show (y.1.2.2.2.1).oneCell' = true; rw [e1]; rfl, h.1.2.2.2.2.1, by show (y.2.1).oneCell' = true; rw [e2]; rfl, h.2.2.1.1, h.2.2.2.1, by show (y.2.2.2.2.2.1.1).oneCell' = true; rw [e3]; rfl⟩, ⟨s2, e2⟩, _, h.2.2.2.2.2.1.1⟩)
end Go.Proofs.Ytnnendajegdnhaa
