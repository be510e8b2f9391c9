/-
  No cell of these rows narrows 'for every input' (looked for: loops, veiled, ifaces, maps, wideKeys, modest, calm, conditions, laid).
  DERIVED. THE GIVEN ROWS OF THIS SEAT. 8 by the template 'for every input the law returns true; each argument reads behind the call as it read before'; 0 by the template 'total and deterministic' (their statements: YtenaoaegichecaaTotals.lean).
  GIVEN WITH THE SEED: the statements are not yours to turn. If you find one false, say at which input.
  Laid BY PROGRAM, IN A SANDBOX (cutbox-rows.mjs): the forced cells as the released guide's own fill.sh prints them over the translation ae3cf3216e5cd125… (all of the seat's roots in one cut). By AI agents, Wed Nov 11 2026. No macro, syntax, notation, axiom, sorry.
-/
import Derived.Test.YtenaoaegichecaaChecked
import GoSem.Claim
import GoSem.ClaimJoined
import GoSem.ClaimMapViews
import Derived.JoinedTies
import Derived.KernelRfl
namespace Go.Proofs.Ytenaoaegichecaa
/- THE CELL 'sum', in the pinned program and in every row, IS THE sha256 OF THE DUMP (.gsa) THAT YtenaoaegichecaaProg.lean LOADS. Nothing in Lean hashes anything: it is a label: what it is worth is what the hold of that sum in a sandbox is worth. -/
noncomputable def Try.pinned : Pinned := { name := "ytenaoaegichecaa", sum := "ae3cf3216e5cd125828a6f073d0f1e35de01bdcfcdc5faeb5e1e6b1c9b4a1bf4", checked := Try.checked }
namespace Rows
def none {H : Type} : Left H := { results := [], args := [] }

/-- 'foyerlaw41.RebuildMatchesReference': WHATEVER THE INPUT: true; the input reads as it did. -/
def rebuildMatchesReferenceSpec : ChangeSpec := { name := "rebuildMatchesReference", fn := fun _ => fun
  | [d1, d2, d3, d4] => { results := [.lit (.bool true)], args := [d1, d2, d3, d4] }
  | _ => none }
def rebuildMatchesReferenceRow : OpenClaim := { program := "ytenaoaegichecaa", sum := "ae3cf3216e5cd125828a6f073d0f1e35de01bdcfcdc5faeb5e1e6b1c9b4a1bf4", func := "foyer/foyerlaw41.RebuildMatchesReference", spec := "rebuildMatchesReference", unfollowed := true, recurses := true, plainKeys := false, apart := false }
def RebuildMatchesReferenceSaid : Prop := rebuildMatchesReferenceRow.holds Try.pinned (OpenSpec.ofChange rebuildMatchesReferenceSpec)

/-- ITS FALSE NEIGHBOUR: 'it returns false'. Refute it at one input. -/
def rebuildMatchesReferenceWrong : ChangeSpec := { name := "rebuildMatchesReference", fn := fun _ => fun
  | [d1, d2, d3, d4] => { results := [.lit (.bool false)], args := [d1, d2, d3, d4] }
  | _ => none }
def RebuildMatchesReferenceWrongFalsely : Prop := rebuildMatchesReferenceRow.holds Try.pinned (OpenSpec.ofChange rebuildMatchesReferenceWrong)

/-- 'foyerlaw41.RebuildMany': WHATEVER THE INPUT: true; the input reads as it did. -/
def rebuildManySpec : ChangeSpec := { name := "rebuildMany", fn := fun _ => fun
  | [d1, d2] => { results := [.lit (.bool true)], args := [d1, d2] }
  | _ => none }
def rebuildManyRow : OpenClaim := { program := "ytenaoaegichecaa", sum := "ae3cf3216e5cd125828a6f073d0f1e35de01bdcfcdc5faeb5e1e6b1c9b4a1bf4", func := "foyer/foyerlaw41.RebuildMany", spec := "rebuildMany", unfollowed := true, recurses := true, plainKeys := false, apart := false }
def RebuildManySaid : Prop := rebuildManyRow.holds Try.pinned (OpenSpec.ofChange rebuildManySpec)

/-- ITS FALSE NEIGHBOUR: 'it returns false'. Refute it at one input. -/
def rebuildManyWrong : ChangeSpec := { name := "rebuildMany", fn := fun _ => fun
  | [d1, d2] => { results := [.lit (.bool false)], args := [d1, d2] }
  | _ => none }
def RebuildManyWrongFalsely : Prop := rebuildManyRow.holds Try.pinned (OpenSpec.ofChange rebuildManyWrong)

/-- 'foyerlaw41.RebuildCertified': WHATEVER THE INPUT: true; the input reads as it did. -/
def rebuildCertifiedSpec : ChangeSpec := { name := "rebuildCertified", fn := fun _ => fun
  | [d1, d2, d3] => { results := [.lit (.bool true)], args := [d1, d2, d3] }
  | _ => none }
def rebuildCertifiedRow : OpenClaim := { program := "ytenaoaegichecaa", sum := "ae3cf3216e5cd125828a6f073d0f1e35de01bdcfcdc5faeb5e1e6b1c9b4a1bf4", func := "foyer/foyerlaw41.RebuildCertified", spec := "rebuildCertified", unfollowed := true, recurses := true, plainKeys := false, apart := false }
def RebuildCertifiedSaid : Prop := rebuildCertifiedRow.holds Try.pinned (OpenSpec.ofChange rebuildCertifiedSpec)

/-- ITS FALSE NEIGHBOUR: 'it returns false'. Refute it at one input. -/
def rebuildCertifiedWrong : ChangeSpec := { name := "rebuildCertified", fn := fun _ => fun
  | [d1, d2, d3] => { results := [.lit (.bool false)], args := [d1, d2, d3] }
  | _ => none }
def RebuildCertifiedWrongFalsely : Prop := rebuildCertifiedRow.holds Try.pinned (OpenSpec.ofChange rebuildCertifiedWrong)

/-- 'foyerlaw41.RebuildMost': WHATEVER THE INPUT: true; the input reads as it did. -/
def rebuildMostSpec : ChangeSpec := { name := "rebuildMost", fn := fun _ => fun
  | [d1, d2, d3, d4, d5] => { results := [.lit (.bool true)], args := [d1, d2, d3, d4, d5] }
  | _ => none }
def rebuildMostRow : OpenClaim := { program := "ytenaoaegichecaa", sum := "ae3cf3216e5cd125828a6f073d0f1e35de01bdcfcdc5faeb5e1e6b1c9b4a1bf4", func := "foyer/foyerlaw41.RebuildMost", spec := "rebuildMost", unfollowed := true, recurses := true, plainKeys := false, apart := false }
def RebuildMostSaid : Prop := rebuildMostRow.holds Try.pinned (OpenSpec.ofChange rebuildMostSpec)

/-- ITS FALSE NEIGHBOUR: 'it returns false'. Refute it at one input. -/
def rebuildMostWrong : ChangeSpec := { name := "rebuildMost", fn := fun _ => fun
  | [d1, d2, d3, d4, d5] => { results := [.lit (.bool false)], args := [d1, d2, d3, d4, d5] }
  | _ => none }
def RebuildMostWrongFalsely : Prop := rebuildMostRow.holds Try.pinned (OpenSpec.ofChange rebuildMostWrong)

/-- 'foyerlaw41.RebuildStays': WHATEVER THE INPUT: true; the input reads as it did. -/
def rebuildStaysSpec : ChangeSpec := { name := "rebuildStays", fn := fun _ => fun
  | [d1, d2, d3] => { results := [.lit (.bool true)], args := [d1, d2, d3] }
  | _ => none }
def rebuildStaysRow : OpenClaim := { program := "ytenaoaegichecaa", sum := "ae3cf3216e5cd125828a6f073d0f1e35de01bdcfcdc5faeb5e1e6b1c9b4a1bf4", func := "foyer/foyerlaw41.RebuildStays", spec := "rebuildStays", unfollowed := true, recurses := true, plainKeys := false, apart := false }
def RebuildStaysSaid : Prop := rebuildStaysRow.holds Try.pinned (OpenSpec.ofChange rebuildStaysSpec)

/-- ITS FALSE NEIGHBOUR: 'it returns false'. Refute it at one input. -/
def rebuildStaysWrong : ChangeSpec := { name := "rebuildStays", fn := fun _ => fun
  | [d1, d2, d3] => { results := [.lit (.bool false)], args := [d1, d2, d3] }
  | _ => none }
def RebuildStaysWrongFalsely : Prop := rebuildStaysRow.holds Try.pinned (OpenSpec.ofChange rebuildStaysWrong)

/-- 'foyerlaw41.RebuildWrong': WHATEVER THE INPUT: true; the input reads as it did. -/
def rebuildWrongSpec : ChangeSpec := { name := "rebuildWrong", fn := fun _ => fun
  | [d1, d2, d3, d4, d5] => { results := [.lit (.bool true)], args := [d1, d2, d3, d4, d5] }
  | _ => none }
def rebuildWrongRow : OpenClaim := { program := "ytenaoaegichecaa", sum := "ae3cf3216e5cd125828a6f073d0f1e35de01bdcfcdc5faeb5e1e6b1c9b4a1bf4", func := "foyer/foyerlaw41.RebuildWrong", spec := "rebuildWrong", unfollowed := true, recurses := true, plainKeys := false, apart := false }
def RebuildWrongSaid : Prop := rebuildWrongRow.holds Try.pinned (OpenSpec.ofChange rebuildWrongSpec)

/-- ITS FALSE NEIGHBOUR: 'it returns false'. Refute it at one input. -/
def rebuildWrongWrong : ChangeSpec := { name := "rebuildWrong", fn := fun _ => fun
  | [d1, d2, d3, d4, d5] => { results := [.lit (.bool false)], args := [d1, d2, d3, d4, d5] }
  | _ => none }
def RebuildWrongWrongFalsely : Prop := rebuildWrongRow.holds Try.pinned (OpenSpec.ofChange rebuildWrongWrong)

/-- 'foyerlaw41.RebuildMore': WHATEVER THE INPUT: true; the input reads as it did. -/
def rebuildMoreSpec : ChangeSpec := { name := "rebuildMore", fn := fun _ => fun
  | [d1, d2, d3, d4] => { results := [.lit (.bool true)], args := [d1, d2, d3, d4] }
  | _ => none }
def rebuildMoreRow : OpenClaim := { program := "ytenaoaegichecaa", sum := "ae3cf3216e5cd125828a6f073d0f1e35de01bdcfcdc5faeb5e1e6b1c9b4a1bf4", func := "foyer/foyerlaw41.RebuildMore", spec := "rebuildMore", unfollowed := true, recurses := true, plainKeys := false, apart := false }
def RebuildMoreSaid : Prop := rebuildMoreRow.holds Try.pinned (OpenSpec.ofChange rebuildMoreSpec)

/-- ITS FALSE NEIGHBOUR: 'it returns false'. Refute it at one input. -/
def rebuildMoreWrong : ChangeSpec := { name := "rebuildMore", fn := fun _ => fun
  | [d1, d2, d3, d4] => { results := [.lit (.bool false)], args := [d1, d2, d3, d4] }
  | _ => none }
def RebuildMoreWrongFalsely : Prop := rebuildMoreRow.holds Try.pinned (OpenSpec.ofChange rebuildMoreWrong)

/-- 'foyerlaw41.RebuildMatching': WHATEVER THE INPUT: true; the input reads as it did. -/
def rebuildMatchingSpec : ChangeSpec := { name := "rebuildMatching", fn := fun _ => fun
  | [d1, d2, d3] => { results := [.lit (.bool true)], args := [d1, d2, d3] }
  | _ => none }
def rebuildMatchingRow : OpenClaim := { program := "ytenaoaegichecaa", sum := "ae3cf3216e5cd125828a6f073d0f1e35de01bdcfcdc5faeb5e1e6b1c9b4a1bf4", func := "foyer/foyerlaw41.RebuildMatching", spec := "rebuildMatching", unfollowed := true, recurses := true, plainKeys := false, apart := false }
def RebuildMatchingSaid : Prop := rebuildMatchingRow.holds Try.pinned (OpenSpec.ofChange rebuildMatchingSpec)

/-- ITS FALSE NEIGHBOUR: 'it returns false'. Refute it at one input. -/
def rebuildMatchingWrong : ChangeSpec := { name := "rebuildMatching", fn := fun _ => fun
  | [d1, d2, d3] => { results := [.lit (.bool false)], args := [d1, d2, d3] }
  | _ => none }
def RebuildMatchingWrongFalsely : Prop := rebuildMatchingRow.holds Try.pinned (OpenSpec.ofChange rebuildMatchingWrong)

/- THE SECOND FORM. 'bulk': how many values and letters a reading holds, each counted each time it is reached (what is shared counts as often as it is met; a slice's spare places count too). A statement '..UptoSaid' is the law's where the arguments, and the package variables that the reading takes, are together of bulk at most 1048576: NARROWER than '..Said'. Prove '..Said' where nothing that the law and all that it calls make is longer than what came in: it says more and counts as full. Else prove '..UptoSaid'. A law counts once. -/
mutual
def uptoBulk {H : Type} : DataW H → Nat
  | .lit (.string bytes) => bytes.length + 1
  | .lit _ => 1
  | .nil => 1
  | .ptr d => uptoBulk d + 1
  | .slice elems spare => uptoBulkAll elems + uptoBulkAll spare + 1
  | .agg parts => uptoBulkAll parts + 1
  | .iface _ d => uptoBulk d + 1
  | .map entries => uptoBulkEntries entries + 1
  | .held _ => 1
def uptoBulkAll {H : Type} : List (DataW H) → Nat
  | [] => 0
  | d :: r => uptoBulk d + uptoBulkAll r
def uptoBulkEntries {H : Type} : List (Lit × DataW H) → Nat
  | [] => 0
  | x :: r => uptoBulkEntry x + uptoBulkEntries r
def uptoBulkEntry {H : Type} : Lit × DataW H → Nat
  | (.string bytes, d) => bytes.length + uptoBulk d + 1
  | (_, d) => uptoBulk d + 1
 end
def uptoSmall : (H : Type) → List (DataW H) → Bool := fun _ ds => decide (uptoBulkAll ds ≤ 1048576)
def OpenSpec.upto (s : _root_.Go.ChangeSpec) : _root_.Go.OpenSpec := { _root_.Go.OpenSpec.ofChange s with cond := some uptoSmall }

/-- 'foyerlaw41.RebuildMatchesReference', WHERE WHAT IT READS IS OF BULK AT MOST 1048576: true; the input reads as it did. -/
def rebuildMatchesReferenceUptoRow : OpenClaim := { program := "ytenaoaegichecaa", sum := "ae3cf3216e5cd125828a6f073d0f1e35de01bdcfcdc5faeb5e1e6b1c9b4a1bf4", func := "foyer/foyerlaw41.RebuildMatchesReference", spec := "rebuildMatchesReference", unfollowed := true, recurses := true, plainKeys := false, apart := false, narrowed := true }
def RebuildMatchesReferenceUptoSaid : Prop := rebuildMatchesReferenceUptoRow.holds Try.pinned (OpenSpec.upto rebuildMatchesReferenceSpec)

/-- 'foyerlaw41.RebuildMany', WHERE WHAT IT READS IS OF BULK AT MOST 1048576: true; the input reads as it did. -/
def rebuildManyUptoRow : OpenClaim := { program := "ytenaoaegichecaa", sum := "ae3cf3216e5cd125828a6f073d0f1e35de01bdcfcdc5faeb5e1e6b1c9b4a1bf4", func := "foyer/foyerlaw41.RebuildMany", spec := "rebuildMany", unfollowed := true, recurses := true, plainKeys := false, apart := false, narrowed := true }
def RebuildManyUptoSaid : Prop := rebuildManyUptoRow.holds Try.pinned (OpenSpec.upto rebuildManySpec)

/-- 'foyerlaw41.RebuildCertified', WHERE WHAT IT READS IS OF BULK AT MOST 1048576: true; the input reads as it did. -/
def rebuildCertifiedUptoRow : OpenClaim := { program := "ytenaoaegichecaa", sum := "ae3cf3216e5cd125828a6f073d0f1e35de01bdcfcdc5faeb5e1e6b1c9b4a1bf4", func := "foyer/foyerlaw41.RebuildCertified", spec := "rebuildCertified", unfollowed := true, recurses := true, plainKeys := false, apart := false, narrowed := true }
def RebuildCertifiedUptoSaid : Prop := rebuildCertifiedUptoRow.holds Try.pinned (OpenSpec.upto rebuildCertifiedSpec)

/-- 'foyerlaw41.RebuildMost', WHERE WHAT IT READS IS OF BULK AT MOST 1048576: true; the input reads as it did. -/
def rebuildMostUptoRow : OpenClaim := { program := "ytenaoaegichecaa", sum := "ae3cf3216e5cd125828a6f073d0f1e35de01bdcfcdc5faeb5e1e6b1c9b4a1bf4", func := "foyer/foyerlaw41.RebuildMost", spec := "rebuildMost", unfollowed := true, recurses := true, plainKeys := false, apart := false, narrowed := true }
def RebuildMostUptoSaid : Prop := rebuildMostUptoRow.holds Try.pinned (OpenSpec.upto rebuildMostSpec)

/-- 'foyerlaw41.RebuildStays', WHERE WHAT IT READS IS OF BULK AT MOST 1048576: true; the input reads as it did. -/
def rebuildStaysUptoRow : OpenClaim := { program := "ytenaoaegichecaa", sum := "ae3cf3216e5cd125828a6f073d0f1e35de01bdcfcdc5faeb5e1e6b1c9b4a1bf4", func := "foyer/foyerlaw41.RebuildStays", spec := "rebuildStays", unfollowed := true, recurses := true, plainKeys := false, apart := false, narrowed := true }
def RebuildStaysUptoSaid : Prop := rebuildStaysUptoRow.holds Try.pinned (OpenSpec.upto rebuildStaysSpec)

/-- 'foyerlaw41.RebuildWrong', WHERE WHAT IT READS IS OF BULK AT MOST 1048576: true; the input reads as it did. -/
def rebuildWrongUptoRow : OpenClaim := { program := "ytenaoaegichecaa", sum := "ae3cf3216e5cd125828a6f073d0f1e35de01bdcfcdc5faeb5e1e6b1c9b4a1bf4", func := "foyer/foyerlaw41.RebuildWrong", spec := "rebuildWrong", unfollowed := true, recurses := true, plainKeys := false, apart := false, narrowed := true }
def RebuildWrongUptoSaid : Prop := rebuildWrongUptoRow.holds Try.pinned (OpenSpec.upto rebuildWrongSpec)

/-- 'foyerlaw41.RebuildMore', WHERE WHAT IT READS IS OF BULK AT MOST 1048576: true; the input reads as it did. -/
def rebuildMoreUptoRow : OpenClaim := { program := "ytenaoaegichecaa", sum := "ae3cf3216e5cd125828a6f073d0f1e35de01bdcfcdc5faeb5e1e6b1c9b4a1bf4", func := "foyer/foyerlaw41.RebuildMore", spec := "rebuildMore", unfollowed := true, recurses := true, plainKeys := false, apart := false, narrowed := true }
def RebuildMoreUptoSaid : Prop := rebuildMoreUptoRow.holds Try.pinned (OpenSpec.upto rebuildMoreSpec)

/-- 'foyerlaw41.RebuildMatching', WHERE WHAT IT READS IS OF BULK AT MOST 1048576: true; the input reads as it did. -/
def rebuildMatchingUptoRow : OpenClaim := { program := "ytenaoaegichecaa", sum := "ae3cf3216e5cd125828a6f073d0f1e35de01bdcfcdc5faeb5e1e6b1c9b4a1bf4", func := "foyer/foyerlaw41.RebuildMatching", spec := "rebuildMatching", unfollowed := true, recurses := true, plainKeys := false, apart := false, narrowed := true }
def RebuildMatchingUptoSaid : Prop := rebuildMatchingUptoRow.holds Try.pinned (OpenSpec.upto rebuildMatchingSpec)

end Rows
end Go.Proofs.Ytenaoaegichecaa
