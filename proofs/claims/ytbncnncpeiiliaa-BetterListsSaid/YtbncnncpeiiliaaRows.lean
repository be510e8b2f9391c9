/-
  No cell of these rows narrows 'for every input' (looked for: loops, veiled, ifaces, maps, wideKeys, modest, calm, conditions, laid).
  DERIVED. THE GIVEN ROWS OF THIS SEAT. 5 by the template 'for every input the law returns true; each argument reads behind the call as it read before'; 0 by the template 'total and deterministic' (their statements: YtbncnncpeiiliaaTotals.lean).
  GIVEN WITH THE SEED: the statements are not yours to turn. If you find one false, say at which input.
  Laid BY PROGRAM, IN A SANDBOX (cutbox-rows.mjs): the forced cells as the released guide's own fill.sh prints them over the translation c006fd3ce2ae28a0… (all of the seat's roots in one cut). By AI agents, Wed Nov 11 2026. No macro, syntax, notation, axiom, sorry.
-/
import Derived.Test.YtbncnncpeiiliaaChecked
import GoSem.Claim
import GoSem.ClaimJoined
import GoSem.ClaimMapViews
import Derived.JoinedTies
import Derived.KernelRfl
namespace Go.Proofs.Ytbncnncpeiiliaa
/- THE CELL 'sum', in the pinned program and in every row, IS THE sha256 OF THE DUMP (.gsa) THAT YtbncnncpeiiliaaProg.lean LOADS. Nothing in Lean hashes anything: it is a label: what it is worth is what the hold of that sum in a sandbox is worth. -/
noncomputable def Try.pinned : Pinned := { name := "ytbncnncpeiiliaa", sum := "c006fd3ce2ae28a0675e5f6f49f193f0edcb3f0cd64a4697b756c59c79621d55", checked := Try.checked }
namespace Rows
def none {H : Type} : Left H := { results := [], args := [] }

/-- 'foyerlaw39.BetterMatchesReference': WHATEVER THE INPUT: true; the input reads as it did. -/
def betterMatchesReferenceSpec : ChangeSpec := { name := "betterMatchesReference", fn := fun _ => fun
  | [d1, d2] => { results := [.lit (.bool true)], args := [d1, d2] }
  | _ => none }
def betterMatchesReferenceRow : OpenClaim := { program := "ytbncnncpeiiliaa", sum := "c006fd3ce2ae28a0675e5f6f49f193f0edcb3f0cd64a4697b756c59c79621d55", func := "foyer/foyerlaw39.BetterMatchesReference", spec := "betterMatchesReference", unfollowed := true, recurses := true, apart := false }
def BetterMatchesReferenceSaid : Prop := betterMatchesReferenceRow.holds Try.pinned (OpenSpec.ofChange betterMatchesReferenceSpec)

/-- ITS FALSE NEIGHBOUR: 'it returns false'. Refute it at one input. -/
def betterMatchesReferenceWrong : ChangeSpec := { name := "betterMatchesReference", fn := fun _ => fun
  | [d1, d2] => { results := [.lit (.bool false)], args := [d1, d2] }
  | _ => none }
def BetterMatchesReferenceWrongFalsely : Prop := betterMatchesReferenceRow.holds Try.pinned (OpenSpec.ofChange betterMatchesReferenceWrong)

/-- 'foyerlaw39.BetterOrder': WHATEVER THE INPUT: true; the input reads as it did. -/
def betterOrderSpec : ChangeSpec := { name := "betterOrder", fn := fun _ => fun
  | [d1, d2, d3] => { results := [.lit (.bool true)], args := [d1, d2, d3] }
  | _ => none }
def betterOrderRow : OpenClaim := { program := "ytbncnncpeiiliaa", sum := "c006fd3ce2ae28a0675e5f6f49f193f0edcb3f0cd64a4697b756c59c79621d55", func := "foyer/foyerlaw39.BetterOrder", spec := "betterOrder", unfollowed := true, recurses := true, apart := false }
def BetterOrderSaid : Prop := betterOrderRow.holds Try.pinned (OpenSpec.ofChange betterOrderSpec)

/-- ITS FALSE NEIGHBOUR: 'it returns false'. Refute it at one input. -/
def betterOrderWrong : ChangeSpec := { name := "betterOrder", fn := fun _ => fun
  | [d1, d2, d3] => { results := [.lit (.bool false)], args := [d1, d2, d3] }
  | _ => none }
def BetterOrderWrongFalsely : Prop := betterOrderRow.holds Try.pinned (OpenSpec.ofChange betterOrderWrong)

/-- 'foyerlaw39.BetterEdges': WHATEVER THE INPUT: true; the input reads as it did. -/
def betterEdgesSpec : ChangeSpec := { name := "betterEdges", fn := fun _ => fun
  | [d1, d2] => { results := [.lit (.bool true)], args := [d1, d2] }
  | _ => none }
def betterEdgesRow : OpenClaim := { program := "ytbncnncpeiiliaa", sum := "c006fd3ce2ae28a0675e5f6f49f193f0edcb3f0cd64a4697b756c59c79621d55", func := "foyer/foyerlaw39.BetterEdges", spec := "betterEdges", unfollowed := true, recurses := true, apart := false }
def BetterEdgesSaid : Prop := betterEdgesRow.holds Try.pinned (OpenSpec.ofChange betterEdgesSpec)

/-- ITS FALSE NEIGHBOUR: 'it returns false'. Refute it at one input. -/
def betterEdgesWrong : ChangeSpec := { name := "betterEdges", fn := fun _ => fun
  | [d1, d2] => { results := [.lit (.bool false)], args := [d1, d2] }
  | _ => none }
def BetterEdgesWrongFalsely : Prop := betterEdgesRow.holds Try.pinned (OpenSpec.ofChange betterEdgesWrong)

/-- 'foyerlaw39.BetterImproves': WHATEVER THE INPUT: true; the input reads as it did. -/
def betterImprovesSpec : ChangeSpec := { name := "betterImproves", fn := fun _ => fun
  | [d1, d2, d3] => { results := [.lit (.bool true)], args := [d1, d2, d3] }
  | _ => none }
def betterImprovesRow : OpenClaim := { program := "ytbncnncpeiiliaa", sum := "c006fd3ce2ae28a0675e5f6f49f193f0edcb3f0cd64a4697b756c59c79621d55", func := "foyer/foyerlaw39.BetterImproves", spec := "betterImproves", unfollowed := true, recurses := true, apart := false }
def BetterImprovesSaid : Prop := betterImprovesRow.holds Try.pinned (OpenSpec.ofChange betterImprovesSpec)

/-- ITS FALSE NEIGHBOUR: 'it returns false'. Refute it at one input. -/
def betterImprovesWrong : ChangeSpec := { name := "betterImproves", fn := fun _ => fun
  | [d1, d2, d3] => { results := [.lit (.bool false)], args := [d1, d2, d3] }
  | _ => none }
def BetterImprovesWrongFalsely : Prop := betterImprovesRow.holds Try.pinned (OpenSpec.ofChange betterImprovesWrong)

/-- 'foyerlaw39.BetterLists': WHATEVER THE INPUT: true; the input reads as it did. -/
def betterListsSpec : ChangeSpec := { name := "betterLists", fn := fun _ => fun
  | [d1, d2, d3] => { results := [.lit (.bool true)], args := [d1, d2, d3] }
  | _ => none }
def betterListsRow : OpenClaim := { program := "ytbncnncpeiiliaa", sum := "c006fd3ce2ae28a0675e5f6f49f193f0edcb3f0cd64a4697b756c59c79621d55", func := "foyer/foyerlaw39.BetterLists", spec := "betterLists", unfollowed := true, recurses := true, apart := false }
def BetterListsSaid : Prop := betterListsRow.holds Try.pinned (OpenSpec.ofChange betterListsSpec)

/-- ITS FALSE NEIGHBOUR: 'it returns false'. Refute it at one input. -/
def betterListsWrong : ChangeSpec := { name := "betterLists", fn := fun _ => fun
  | [d1, d2, d3] => { results := [.lit (.bool false)], args := [d1, d2, d3] }
  | _ => none }
def BetterListsWrongFalsely : Prop := betterListsRow.holds Try.pinned (OpenSpec.ofChange betterListsWrong)

/- THE SECOND FORM. 'bulk': how many values and letters a reading holds, each counted each time it is reached (what is shared counts as often as it is met; a slice's spare places count too). A statement '..UptoSaid' is the law's where the arguments, and the package variables that the reading takes, are together of bulk at most 1048576: NARROWER than '..Said'. Prove '..Said' where nothing that the law and all that it calls make is longer than what came in: it says more and counts as full. Else prove '..UptoSaid'. A law counts once. -/
mutual
def uptoBulk {H : Type} : DataW H → Nat
  | .lit (.string bytes) => bytes.length + 1
  | .lit _ => 1
  | .nil => 1
  | .ptr d => uptoBulk d + 1
  | .slice elems spare => uptoBulkAll elems + uptoBulkAll spare + 1
  | .agg parts => uptoBulkAll parts + 1
  | .iface _ d => uptoBulk d + 1
  | .map entries => uptoBulkEntries entries + 1
  | .held _ => 1
def uptoBulkAll {H : Type} : List (DataW H) → Nat
  | [] => 0
  | d :: r => uptoBulk d + uptoBulkAll r
def uptoBulkEntries {H : Type} : List (Lit × DataW H) → Nat
  | [] => 0
  | x :: r => uptoBulkEntry x + uptoBulkEntries r
def uptoBulkEntry {H : Type} : Lit × DataW H → Nat
  | (.string bytes, d) => bytes.length + uptoBulk d + 1
  | (_, d) => uptoBulk d + 1
 end
def uptoSmall : (H : Type) → List (DataW H) → Bool := fun _ ds => decide (uptoBulkAll ds ≤ 1048576)
def OpenSpec.upto (s : _root_.Go.ChangeSpec) : _root_.Go.OpenSpec := { _root_.Go.OpenSpec.ofChange s with cond := some uptoSmall }

/-- 'foyerlaw39.BetterMatchesReference', WHERE WHAT IT READS IS OF BULK AT MOST 1048576: true; the input reads as it did. -/
def betterMatchesReferenceUptoRow : OpenClaim := { program := "ytbncnncpeiiliaa", sum := "c006fd3ce2ae28a0675e5f6f49f193f0edcb3f0cd64a4697b756c59c79621d55", func := "foyer/foyerlaw39.BetterMatchesReference", spec := "betterMatchesReference", unfollowed := true, recurses := true, apart := false, narrowed := true }
def BetterMatchesReferenceUptoSaid : Prop := betterMatchesReferenceUptoRow.holds Try.pinned (OpenSpec.upto betterMatchesReferenceSpec)

/-- 'foyerlaw39.BetterOrder', WHERE WHAT IT READS IS OF BULK AT MOST 1048576: true; the input reads as it did. -/
def betterOrderUptoRow : OpenClaim := { program := "ytbncnncpeiiliaa", sum := "c006fd3ce2ae28a0675e5f6f49f193f0edcb3f0cd64a4697b756c59c79621d55", func := "foyer/foyerlaw39.BetterOrder", spec := "betterOrder", unfollowed := true, recurses := true, apart := false, narrowed := true }
def BetterOrderUptoSaid : Prop := betterOrderUptoRow.holds Try.pinned (OpenSpec.upto betterOrderSpec)

/-- 'foyerlaw39.BetterEdges', WHERE WHAT IT READS IS OF BULK AT MOST 1048576: true; the input reads as it did. -/
def betterEdgesUptoRow : OpenClaim := { program := "ytbncnncpeiiliaa", sum := "c006fd3ce2ae28a0675e5f6f49f193f0edcb3f0cd64a4697b756c59c79621d55", func := "foyer/foyerlaw39.BetterEdges", spec := "betterEdges", unfollowed := true, recurses := true, apart := false, narrowed := true }
def BetterEdgesUptoSaid : Prop := betterEdgesUptoRow.holds Try.pinned (OpenSpec.upto betterEdgesSpec)

/-- 'foyerlaw39.BetterImproves', WHERE WHAT IT READS IS OF BULK AT MOST 1048576: true; the input reads as it did. -/
def betterImprovesUptoRow : OpenClaim := { program := "ytbncnncpeiiliaa", sum := "c006fd3ce2ae28a0675e5f6f49f193f0edcb3f0cd64a4697b756c59c79621d55", func := "foyer/foyerlaw39.BetterImproves", spec := "betterImproves", unfollowed := true, recurses := true, apart := false, narrowed := true }
def BetterImprovesUptoSaid : Prop := betterImprovesUptoRow.holds Try.pinned (OpenSpec.upto betterImprovesSpec)

/-- 'foyerlaw39.BetterLists', WHERE WHAT IT READS IS OF BULK AT MOST 1048576: true; the input reads as it did. -/
def betterListsUptoRow : OpenClaim := { program := "ytbncnncpeiiliaa", sum := "c006fd3ce2ae28a0675e5f6f49f193f0edcb3f0cd64a4697b756c59c79621d55", func := "foyer/foyerlaw39.BetterLists", spec := "betterLists", unfollowed := true, recurses := true, apart := false, narrowed := true }
def BetterListsUptoSaid : Prop := betterListsUptoRow.holds Try.pinned (OpenSpec.upto betterListsSpec)

end Rows
end Go.Proofs.Ytbncnncpeiiliaa
