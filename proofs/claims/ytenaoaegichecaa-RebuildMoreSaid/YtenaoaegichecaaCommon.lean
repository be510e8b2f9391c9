/- How titles, places and changes read, and closed facts. No condition. -/
import Derived.Test.YtenaoaegichecaaW17
import Derived.Test.YtenaoaegichecaaGwArg
namespace Go.Proofs.Ytenaoaegichecaa
open Go Go.Gw Go.RowKit
theorem Try.ownLaw : ownKnob Try.prog.godebug = none := by kernel_rfl
theorem Try.laid : laidOutB Try.prog = true := by kernel_rfl
theorem readsI : ReadsAs Try.prog 3 encI (fun n => (Lit.int .i64 n).wf = true) := readsInt Try.underlying3
theorem readsPl : ReadsAs Try.prog 56 Pl.enc (fun _ => True) := fun h => by
  obtain ⟨ns, h1, h2, h3⟩ := readsInts (n := 9) Try.underlying56 (by kernel_rfl) (by kernel_rfl) (by kernel_rfl) h
  match ns, h2 with
  | [a, b, c, d, e, f, g, i, j], _ => exact ⟨⟨a, b, c, d, e, f, g, i, j⟩, h1, trivial⟩
def encV (v : Value) : List Value := [v]
theorem readsStr (W : World) : ReadsAt Try.prog W 9 encV (fun v => v.oneCell' = true) := fun h => by
  obtain ⟨s, h1, _⟩ := DataW.trod_string Try.underlying9 h
  exact ⟨.string s, h1, rfl⟩
theorem readsSl (W : World) {t e : TypeId} (hT : Try.prog.underlying t = some (.slice e)) : ReadsAt Try.prog W t encV (fun v => v.oneCell' = true) := fun h => by
  rcases DataW.trod_slice hT h with ⟨rfl, _⟩ | ⟨a, len, cap, _, _, _, _, rfl, _⟩
  · exact ⟨.slice none 0 0, rfl, rfl⟩
  · exact ⟨.slice (some a) len cap, rfl, rfl⟩
/-- a title -/
theorem readsOw (W : World) : ReadsAt Try.prog W 47 Ow.enc Ow.ok :=
  ReadsAt.mono (reads_struct (ts := [41, 9, 44, 45, 3, 25]) Try.underlying47 (by kernel_rfl)
    (readsL_cons (reads_struct (ts := [3, 3, 3, 9, 39]) Try.underlying41 (by kernel_rfl) (readsL_cons readsI.at_ (readsL_cons readsI.at_ (readsL_cons readsI.at_ (readsL_cons (readsStr W) (readsL_cons (readsSl W Try.underlying39) readsL_nil))))))
    (readsL_cons (readsStr W)
    (readsL_cons (reads_struct (ts := [42, 3]) Try.underlying44 (by kernel_rfl) (readsL_cons (readsSl W Try.underlying42) (readsL_cons readsI.at_ readsL_nil)))
    (readsL_cons (readsSl W Try.underlying45) (readsL_cons readsI.at_ (readsL_cons (readsSl W Try.underlying25) readsL_nil)))))))
    (fun y => ⟨y.1.1, y.1.2.1, y.1.2.2.1, y.1.2.2.2.1, y.1.2.2.2.2.1, y.2.1, y.2.2.1.1, y.2.2.1.2.1, y.2.2.2.1, y.2.2.2.2.1, y.2.2.2.2.2.1⟩) (fun y _ => rfl)
    (fun y h => ⟨h.1.2.2.2.1, h.1.2.2.2.2.1, h.2.1, h.2.2.1.1, h.2.2.2.1, h.2.2.2.2.2.1⟩)
theorem readsRow (W : World) : ReadsAt Try.prog W 25 (encRow (α := Int)) (fun y => IsSl W y.1 1 encI y.2 ∧ capOK y.1 ∧ ∀ x ∈ y.2, (Lit.int .i64 x).wf = true) := reads_slice Try.underlying25 (by kernel_rfl) (by decide) readsI.at_
theorem readsMv (W : World) : ReadsAt Try.prog W 50 Mv.enc (fun m => IsSl W m.row.1 1 encI m.row.2) :=
  ReadsAt.mono (reads_struct (ts := [3, 3, 25]) Try.underlying50 (by kernel_rfl) (readsL_cons readsI.at_ (readsL_cons readsI.at_ (readsL_cons (readsRow W) readsL_nil)))) (fun y => ⟨y.1, y.2.1, y.2.2.1⟩) (fun y _ => rfl) (fun y h => h.2.2.1.1)
/-- a change -/
def encCh (y : (Value × List Mv) × ((Value × List Int) × (Value × List Int))) : List Value := [y.1.1, y.2.1.1, y.2.2.1]
theorem readsCh (W : World) : ReadsAt Try.prog W 29 encCh (fun y => IsSl W y.1.1 3 Mv.enc y.1.2 ∧ (∀ p ∈ rowsOf y.1.2, IsSl W p.1 1 encI p.2) ∧ IsSl W y.2.1.1 1 encI y.2.1.2 ∧ IsSl W y.2.2.1 1 encI y.2.2.2 ∧ capOK y.2.1.1) :=
  ReadsAt.mono (reads_struct (ts := [24, 27]) Try.underlying29 (by kernel_rfl) (readsL_cons (reads_slice Try.underlying24 (by kernel_rfl) (by decide) (readsMv W))
    (readsL_cons (reads_struct (ts := [25, 25]) Try.underlying27 (by kernel_rfl) (readsL_cons (readsRow W) (readsL_cons (readsRow W) readsL_nil))) readsL_nil)))
    (fun y => (y.1, (y.2.1.1, y.2.1.2.1))) (fun y _ => rfl)
    (fun y h => ⟨h.1.1, fun p hp => by obtain ⟨m, hm, rfl⟩ := List.mem_map.1 hp; exact h.1.2.2 m hm, h.2.1.1.1, h.2.1.2.1.1, h.2.1.1.2.1⟩)
end Go.Proofs.Ytenaoaegichecaa
