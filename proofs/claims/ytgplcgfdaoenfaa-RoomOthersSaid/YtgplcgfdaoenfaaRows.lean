/-
  No cell of these rows narrows 'for every input' (looked for: loops, veiled, ifaces, maps, wideKeys, modest, calm, conditions, laid).
  DERIVED. THE GIVEN ROWS OF THIS SEAT. 6 by the template 'for every input the law returns true; each argument reads behind the call as it read before'; 0 by the template 'total and deterministic' (their statements: YtgplcgfdaoenfaaTotals.lean).
  GIVEN WITH THE SEED: the statements are not yours to turn. If you find one false, say at which input.
  Laid BY PROGRAM, IN A SANDBOX (cutbox-rows.mjs): the forced cells as the released guide's own fill.sh prints them over the translation 8a3aac4d98606d19… (all of the seat's roots in one cut). By AI agents, Wed Nov 11 2026. No macro, syntax, notation, axiom, sorry.
-/
import Derived.Test.YtgplcgfdaoenfaaChecked
import GoSem.Claim
import GoSem.ClaimJoined
import GoSem.ClaimMapViews
import Derived.JoinedTies
import Derived.KernelRfl
namespace Go.Proofs.Ytgplcgfdaoenfaa
/- THE CELL 'sum', in the pinned program and in every row, IS THE sha256 OF THE DUMP (.gsa) THAT YtgplcgfdaoenfaaProg.lean LOADS. Nothing in Lean hashes anything: it is a label: what it is worth is what the hold of that sum in a sandbox is worth. -/
noncomputable def Try.pinned : Pinned := { name := "ytgplcgfdaoenfaa", sum := "8a3aac4d98606d19dc18f98f7c5d5ded10d2aac2b16ee589157001bb9c104216", checked := Try.checked }
namespace Rows
def none {H : Type} : Left H := { results := [], args := [] }

/-- 'foyerlaw21.RoomMatchesReference': WHATEVER THE INPUT: true; the input reads as it did. -/
def roomMatchesReferenceSpec : ChangeSpec := { name := "roomMatchesReference", fn := fun _ => fun
  | [d1, d2, d3, d4, d5] => { results := [.lit (.bool true)], args := [d1, d2, d3, d4, d5] }
  | _ => none }
def roomMatchesReferenceRow : OpenClaim := { program := "ytgplcgfdaoenfaa", sum := "8a3aac4d98606d19dc18f98f7c5d5ded10d2aac2b16ee589157001bb9c104216", func := "foyer/foyerlaw21.RoomMatchesReference", spec := "roomMatchesReference", unfollowed := true, recurses := true, apart := false }
def RoomMatchesReferenceSaid : Prop := roomMatchesReferenceRow.holds Try.pinned (OpenSpec.ofChange roomMatchesReferenceSpec)

/-- ITS FALSE NEIGHBOUR: 'it returns false'. Refute it at one input. -/
def roomMatchesReferenceWrong : ChangeSpec := { name := "roomMatchesReference", fn := fun _ => fun
  | [d1, d2, d3, d4, d5] => { results := [.lit (.bool false)], args := [d1, d2, d3, d4, d5] }
  | _ => none }
def RoomMatchesReferenceWrongFalsely : Prop := roomMatchesReferenceRow.holds Try.pinned (OpenSpec.ofChange roomMatchesReferenceWrong)

/-- 'foyerlaw21.RoomOrder': WHATEVER THE INPUT: true; the input reads as it did. -/
def roomOrderSpec : ChangeSpec := { name := "roomOrder", fn := fun _ => fun
  | [d1, d2, d3, d4, d5, d6, d7] => { results := [.lit (.bool true)], args := [d1, d2, d3, d4, d5, d6, d7] }
  | _ => none }
def roomOrderRow : OpenClaim := { program := "ytgplcgfdaoenfaa", sum := "8a3aac4d98606d19dc18f98f7c5d5ded10d2aac2b16ee589157001bb9c104216", func := "foyer/foyerlaw21.RoomOrder", spec := "roomOrder", unfollowed := true, recurses := true, apart := false }
def RoomOrderSaid : Prop := roomOrderRow.holds Try.pinned (OpenSpec.ofChange roomOrderSpec)

/-- ITS FALSE NEIGHBOUR: 'it returns false'. Refute it at one input. -/
def roomOrderWrong : ChangeSpec := { name := "roomOrder", fn := fun _ => fun
  | [d1, d2, d3, d4, d5, d6, d7] => { results := [.lit (.bool false)], args := [d1, d2, d3, d4, d5, d6, d7] }
  | _ => none }
def RoomOrderWrongFalsely : Prop := roomOrderRow.holds Try.pinned (OpenSpec.ofChange roomOrderWrong)

/-- 'foyerlaw21.RoomServes': WHATEVER THE INPUT: true; the input reads as it did. -/
def roomServesSpec : ChangeSpec := { name := "roomServes", fn := fun _ => fun
  | [d1, d2, d3, d4, d5, d6, d7] => { results := [.lit (.bool true)], args := [d1, d2, d3, d4, d5, d6, d7] }
  | _ => none }
def roomServesRow : OpenClaim := { program := "ytgplcgfdaoenfaa", sum := "8a3aac4d98606d19dc18f98f7c5d5ded10d2aac2b16ee589157001bb9c104216", func := "foyer/foyerlaw21.RoomServes", spec := "roomServes", unfollowed := true, recurses := true, apart := false }
def RoomServesSaid : Prop := roomServesRow.holds Try.pinned (OpenSpec.ofChange roomServesSpec)

/-- ITS FALSE NEIGHBOUR: 'it returns false'. Refute it at one input. -/
def roomServesWrong : ChangeSpec := { name := "roomServes", fn := fun _ => fun
  | [d1, d2, d3, d4, d5, d6, d7] => { results := [.lit (.bool false)], args := [d1, d2, d3, d4, d5, d6, d7] }
  | _ => none }
def RoomServesWrongFalsely : Prop := roomServesRow.holds Try.pinned (OpenSpec.ofChange roomServesWrong)

/-- 'foyerlaw21.RoomWidth': WHATEVER THE INPUT: true; the input reads as it did. -/
def roomWidthSpec : ChangeSpec := { name := "roomWidth", fn := fun _ => fun
  | [d1, d2, d3, d4, d5] => { results := [.lit (.bool true)], args := [d1, d2, d3, d4, d5] }
  | _ => none }
def roomWidthRow : OpenClaim := { program := "ytgplcgfdaoenfaa", sum := "8a3aac4d98606d19dc18f98f7c5d5ded10d2aac2b16ee589157001bb9c104216", func := "foyer/foyerlaw21.RoomWidth", spec := "roomWidth", unfollowed := true, recurses := true, apart := false }
def RoomWidthSaid : Prop := roomWidthRow.holds Try.pinned (OpenSpec.ofChange roomWidthSpec)

/-- ITS FALSE NEIGHBOUR: 'it returns false'. Refute it at one input. -/
def roomWidthWrong : ChangeSpec := { name := "roomWidth", fn := fun _ => fun
  | [d1, d2, d3, d4, d5] => { results := [.lit (.bool false)], args := [d1, d2, d3, d4, d5] }
  | _ => none }
def RoomWidthWrongFalsely : Prop := roomWidthRow.holds Try.pinned (OpenSpec.ofChange roomWidthWrong)

/-- 'foyerlaw21.RoomEnds': WHATEVER THE INPUT: true; the input reads as it did. -/
def roomEndsSpec : ChangeSpec := { name := "roomEnds", fn := fun _ => fun
  | [d1, d2, d3, d4, d5] => { results := [.lit (.bool true)], args := [d1, d2, d3, d4, d5] }
  | _ => none }
def roomEndsRow : OpenClaim := { program := "ytgplcgfdaoenfaa", sum := "8a3aac4d98606d19dc18f98f7c5d5ded10d2aac2b16ee589157001bb9c104216", func := "foyer/foyerlaw21.RoomEnds", spec := "roomEnds", unfollowed := true, recurses := true, apart := false }
def RoomEndsSaid : Prop := roomEndsRow.holds Try.pinned (OpenSpec.ofChange roomEndsSpec)

/-- ITS FALSE NEIGHBOUR: 'it returns false'. Refute it at one input. -/
def roomEndsWrong : ChangeSpec := { name := "roomEnds", fn := fun _ => fun
  | [d1, d2, d3, d4, d5] => { results := [.lit (.bool false)], args := [d1, d2, d3, d4, d5] }
  | _ => none }
def RoomEndsWrongFalsely : Prop := roomEndsRow.holds Try.pinned (OpenSpec.ofChange roomEndsWrong)

/-- 'foyerlaw21.RoomOthers': WHATEVER THE INPUT: true; the input reads as it did. -/
def roomOthersSpec : ChangeSpec := { name := "roomOthers", fn := fun _ => fun
  | [d1, d2, d3, d4, d5, d6] => { results := [.lit (.bool true)], args := [d1, d2, d3, d4, d5, d6] }
  | _ => none }
def roomOthersRow : OpenClaim := { program := "ytgplcgfdaoenfaa", sum := "8a3aac4d98606d19dc18f98f7c5d5ded10d2aac2b16ee589157001bb9c104216", func := "foyer/foyerlaw21.RoomOthers", spec := "roomOthers", unfollowed := true, recurses := true, apart := false }
def RoomOthersSaid : Prop := roomOthersRow.holds Try.pinned (OpenSpec.ofChange roomOthersSpec)

/-- ITS FALSE NEIGHBOUR: 'it returns false'. Refute it at one input. -/
def roomOthersWrong : ChangeSpec := { name := "roomOthers", fn := fun _ => fun
  | [d1, d2, d3, d4, d5, d6] => { results := [.lit (.bool false)], args := [d1, d2, d3, d4, d5, d6] }
  | _ => none }
def RoomOthersWrongFalsely : Prop := roomOthersRow.holds Try.pinned (OpenSpec.ofChange roomOthersWrong)

/- THE SECOND FORM. 'bulk': how many values and letters a reading holds, each counted each time it is reached (what is shared counts as often as it is met; a slice's spare places count too). A statement '..UptoSaid' is the law's where the arguments, and the package variables that the reading takes, are together of bulk at most 1048576: NARROWER than '..Said'. Prove '..Said' where nothing that the law and all that it calls make is longer than what came in: it says more and counts as full. Else prove '..UptoSaid'. A law counts once. -/
mutual
def uptoBulk {H : Type} : DataW H → Nat
  | .lit (.string bytes) => bytes.length + 1
  | .lit _ => 1
  | .nil => 1
  | .ptr d => uptoBulk d + 1
  | .slice elems spare => uptoBulkAll elems + uptoBulkAll spare + 1
  | .agg parts => uptoBulkAll parts + 1
  | .iface _ d => uptoBulk d + 1
  | .map entries => uptoBulkEntries entries + 1
  | .held _ => 1
def uptoBulkAll {H : Type} : List (DataW H) → Nat
  | [] => 0
  | d :: r => uptoBulk d + uptoBulkAll r
def uptoBulkEntries {H : Type} : List (Lit × DataW H) → Nat
  | [] => 0
  | x :: r => uptoBulkEntry x + uptoBulkEntries r
def uptoBulkEntry {H : Type} : Lit × DataW H → Nat
  | (.string bytes, d) => bytes.length + uptoBulk d + 1
  | (_, d) => uptoBulk d + 1
 end
def uptoSmall : (H : Type) → List (DataW H) → Bool := fun _ ds => decide (uptoBulkAll ds ≤ 1048576)
def OpenSpec.upto (s : _root_.Go.ChangeSpec) : _root_.Go.OpenSpec := { _root_.Go.OpenSpec.ofChange s with cond := some uptoSmall }

/-- 'foyerlaw21.RoomMatchesReference', WHERE WHAT IT READS IS OF BULK AT MOST 1048576: true; the input reads as it did. -/
def roomMatchesReferenceUptoRow : OpenClaim := { program := "ytgplcgfdaoenfaa", sum := "8a3aac4d98606d19dc18f98f7c5d5ded10d2aac2b16ee589157001bb9c104216", func := "foyer/foyerlaw21.RoomMatchesReference", spec := "roomMatchesReference", unfollowed := true, recurses := true, apart := false, narrowed := true }
def RoomMatchesReferenceUptoSaid : Prop := roomMatchesReferenceUptoRow.holds Try.pinned (OpenSpec.upto roomMatchesReferenceSpec)

/-- 'foyerlaw21.RoomOrder', WHERE WHAT IT READS IS OF BULK AT MOST 1048576: true; the input reads as it did. -/
def roomOrderUptoRow : OpenClaim := { program := "ytgplcgfdaoenfaa", sum := "8a3aac4d98606d19dc18f98f7c5d5ded10d2aac2b16ee589157001bb9c104216", func := "foyer/foyerlaw21.RoomOrder", spec := "roomOrder", unfollowed := true, recurses := true, apart := false, narrowed := true }
def RoomOrderUptoSaid : Prop := roomOrderUptoRow.holds Try.pinned (OpenSpec.upto roomOrderSpec)

/-- 'foyerlaw21.RoomServes', WHERE WHAT IT READS IS OF BULK AT MOST 1048576: true; the input reads as it did. -/
def roomServesUptoRow : OpenClaim := { program := "ytgplcgfdaoenfaa", sum := "8a3aac4d98606d19dc18f98f7c5d5ded10d2aac2b16ee589157001bb9c104216", func := "foyer/foyerlaw21.RoomServes", spec := "roomServes", unfollowed := true, recurses := true, apart := false, narrowed := true }
def RoomServesUptoSaid : Prop := roomServesUptoRow.holds Try.pinned (OpenSpec.upto roomServesSpec)

/-- 'foyerlaw21.RoomWidth', WHERE WHAT IT READS IS OF BULK AT MOST 1048576: true; the input reads as it did. -/
def roomWidthUptoRow : OpenClaim := { program := "ytgplcgfdaoenfaa", sum := "8a3aac4d98606d19dc18f98f7c5d5ded10d2aac2b16ee589157001bb9c104216", func := "foyer/foyerlaw21.RoomWidth", spec := "roomWidth", unfollowed := true, recurses := true, apart := false, narrowed := true }
def RoomWidthUptoSaid : Prop := roomWidthUptoRow.holds Try.pinned (OpenSpec.upto roomWidthSpec)

/-- 'foyerlaw21.RoomEnds', WHERE WHAT IT READS IS OF BULK AT MOST 1048576: true; the input reads as it did. -/
def roomEndsUptoRow : OpenClaim := { program := "ytgplcgfdaoenfaa", sum := "8a3aac4d98606d19dc18f98f7c5d5ded10d2aac2b16ee589157001bb9c104216", func := "foyer/foyerlaw21.RoomEnds", spec := "roomEnds", unfollowed := true, recurses := true, apart := false, narrowed := true }
def RoomEndsUptoSaid : Prop := roomEndsUptoRow.holds Try.pinned (OpenSpec.upto roomEndsSpec)

/-- 'foyerlaw21.RoomOthers', WHERE WHAT IT READS IS OF BULK AT MOST 1048576: true; the input reads as it did. -/
def roomOthersUptoRow : OpenClaim := { program := "ytgplcgfdaoenfaa", sum := "8a3aac4d98606d19dc18f98f7c5d5ded10d2aac2b16ee589157001bb9c104216", func := "foyer/foyerlaw21.RoomOthers", spec := "roomOthers", unfollowed := true, recurses := true, apart := false, narrowed := true }
def RoomOthersUptoSaid : Prop := roomOthersUptoRow.holds Try.pinned (OpenSpec.upto roomOthersSpec)

end Rows
end Go.Proofs.Ytgplcgfdaoenfaa
