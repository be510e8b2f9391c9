/-
  No cell of these rows narrows 'for every input' (looked for: loops, veiled, ifaces, maps, wideKeys, modest, calm, conditions, laid).
  DERIVED. THE GIVEN ROWS OF THIS SEAT. 5 by the template 'for every input the law returns true; each argument reads behind the call as it read before'; 0 by the template 'total and deterministic' (their statements: YtcgpbalpihkiiaaTotals.lean).
  GIVEN WITH THE SEED: the statements are not yours to turn. If you find one false, say at which input.
  Laid BY PROGRAM, IN A SANDBOX (cutbox-rows.mjs): the forced cells as the released guide's own fill.sh prints them over the translation 73755176dd536612… (all of the seat's roots in one cut). By AI agents, Wed Nov 11 2026. No macro, syntax, notation, axiom, sorry.
-/
import Derived.Test.YtcgpbalpihkiiaaChecked
import GoSem.Claim
import GoSem.ClaimJoined
import GoSem.ClaimMapViews
import Derived.JoinedTies
import Derived.KernelRfl
namespace Go.Proofs.Ytcgpbalpihkiiaa
/- THE CELL 'sum', in the pinned program and in every row, IS THE sha256 OF THE DUMP (.gsa) THAT YtcgpbalpihkiiaaProg.lean LOADS. Nothing in Lean hashes anything: it is a label: what it is worth is what the hold of that sum in a sandbox is worth. -/
noncomputable def Try.pinned : Pinned := { name := "ytcgpbalpihkiiaa", sum := "73755176dd536612bf48cb0302e9607551386bd63eea0703e3c2f5bc67364718", checked := Try.checked }
namespace Rows
def none {H : Type} : Left H := { results := [], args := [] }

/-- 'foyerlaw33.BookMatchesReference': WHATEVER THE INPUT: true; the input reads as it did. -/
def bookMatchesReferenceSpec : ChangeSpec := { name := "bookMatchesReference", fn := fun _ => fun
  | [d] => { results := [.lit (.bool true)], args := [d] }
  | _ => none }
def bookMatchesReferenceRow : OpenClaim := { program := "ytcgpbalpihkiiaa", sum := "73755176dd536612bf48cb0302e9607551386bd63eea0703e3c2f5bc67364718", func := "foyer/foyerlaw33.BookMatchesReference", spec := "bookMatchesReference", inPlace := ["slices.overlaps[foyer/api.Order]"], unfollowed := true, recurses := true, apart := false }
def BookMatchesReferenceSaid : Prop := bookMatchesReferenceRow.holds Try.pinned (OpenSpec.ofChange bookMatchesReferenceSpec)

/-- ITS FALSE NEIGHBOUR: 'it returns false'. Refute it at one input. -/
def bookMatchesReferenceWrong : ChangeSpec := { name := "bookMatchesReference", fn := fun _ => fun
  | [d] => { results := [.lit (.bool false)], args := [d] }
  | _ => none }
def BookMatchesReferenceWrongFalsely : Prop := bookMatchesReferenceRow.holds Try.pinned (OpenSpec.ofChange bookMatchesReferenceWrong)

/-- 'foyerlaw33.BookCrosses': WHATEVER THE INPUT: true; the input reads as it did. -/
def bookCrossesSpec : ChangeSpec := { name := "bookCrosses", fn := fun _ => fun
  | [d] => { results := [.lit (.bool true)], args := [d] }
  | _ => none }
def bookCrossesRow : OpenClaim := { program := "ytcgpbalpihkiiaa", sum := "73755176dd536612bf48cb0302e9607551386bd63eea0703e3c2f5bc67364718", func := "foyer/foyerlaw33.BookCrosses", spec := "bookCrosses", inPlace := ["slices.overlaps[foyer/api.Order]"], unfollowed := true, recurses := true, apart := false }
def BookCrossesSaid : Prop := bookCrossesRow.holds Try.pinned (OpenSpec.ofChange bookCrossesSpec)

/-- ITS FALSE NEIGHBOUR: 'it returns false'. Refute it at one input. -/
def bookCrossesWrong : ChangeSpec := { name := "bookCrosses", fn := fun _ => fun
  | [d] => { results := [.lit (.bool false)], args := [d] }
  | _ => none }
def BookCrossesWrongFalsely : Prop := bookCrossesRow.holds Try.pinned (OpenSpec.ofChange bookCrossesWrong)

/-- 'foyerlaw33.BookTrades': WHATEVER THE INPUT: true; the input reads as it did. -/
def bookTradesSpec : ChangeSpec := { name := "bookTrades", fn := fun _ => fun
  | [d1, d2] => { results := [.lit (.bool true)], args := [d1, d2] }
  | _ => none }
def bookTradesRow : OpenClaim := { program := "ytcgpbalpihkiiaa", sum := "73755176dd536612bf48cb0302e9607551386bd63eea0703e3c2f5bc67364718", func := "foyer/foyerlaw33.BookTrades", spec := "bookTrades", inPlace := ["slices.overlaps[foyer/api.Order]"], unfollowed := true, recurses := true, apart := false }
def BookTradesSaid : Prop := bookTradesRow.holds Try.pinned (OpenSpec.ofChange bookTradesSpec)

/-- ITS FALSE NEIGHBOUR: 'it returns false'. Refute it at one input. -/
def bookTradesWrong : ChangeSpec := { name := "bookTrades", fn := fun _ => fun
  | [d1, d2] => { results := [.lit (.bool false)], args := [d1, d2] }
  | _ => none }
def BookTradesWrongFalsely : Prop := bookTradesRow.holds Try.pinned (OpenSpec.ofChange bookTradesWrong)

/-- 'foyerlaw33.BookCancels': WHATEVER THE INPUT: true; the input reads as it did. -/
def bookCancelsSpec : ChangeSpec := { name := "bookCancels", fn := fun _ => fun
  | [d1, d2, d3] => { results := [.lit (.bool true)], args := [d1, d2, d3] }
  | _ => none }
def bookCancelsRow : OpenClaim := { program := "ytcgpbalpihkiiaa", sum := "73755176dd536612bf48cb0302e9607551386bd63eea0703e3c2f5bc67364718", func := "foyer/foyerlaw33.BookCancels", spec := "bookCancels", inPlace := ["slices.overlaps[foyer/api.Order]"], unfollowed := true, recurses := true, apart := false }
def BookCancelsSaid : Prop := bookCancelsRow.holds Try.pinned (OpenSpec.ofChange bookCancelsSpec)

/-- ITS FALSE NEIGHBOUR: 'it returns false'. Refute it at one input. -/
def bookCancelsWrong : ChangeSpec := { name := "bookCancels", fn := fun _ => fun
  | [d1, d2, d3] => { results := [.lit (.bool false)], args := [d1, d2, d3] }
  | _ => none }
def BookCancelsWrongFalsely : Prop := bookCancelsRow.holds Try.pinned (OpenSpec.ofChange bookCancelsWrong)

/-- 'foyerlaw33.BookRefuses': WHATEVER THE INPUT: true; the input reads as it did. -/
def bookRefusesSpec : ChangeSpec := { name := "bookRefuses", fn := fun _ => fun
  | [d1, d2] => { results := [.lit (.bool true)], args := [d1, d2] }
  | _ => none }
def bookRefusesRow : OpenClaim := { program := "ytcgpbalpihkiiaa", sum := "73755176dd536612bf48cb0302e9607551386bd63eea0703e3c2f5bc67364718", func := "foyer/foyerlaw33.BookRefuses", spec := "bookRefuses", inPlace := ["slices.overlaps[foyer/api.Order]"], unfollowed := true, recurses := true, apart := false }
def BookRefusesSaid : Prop := bookRefusesRow.holds Try.pinned (OpenSpec.ofChange bookRefusesSpec)

/-- ITS FALSE NEIGHBOUR: 'it returns false'. Refute it at one input. -/
def bookRefusesWrong : ChangeSpec := { name := "bookRefuses", fn := fun _ => fun
  | [d1, d2] => { results := [.lit (.bool false)], args := [d1, d2] }
  | _ => none }
def BookRefusesWrongFalsely : Prop := bookRefusesRow.holds Try.pinned (OpenSpec.ofChange bookRefusesWrong)

/- THE SECOND FORM. 'bulk': how many values and letters a reading holds, each counted each time it is reached (what is shared counts as often as it is met; a slice's spare places count too). A statement '..UptoSaid' is the law's where the arguments, and the package variables that the reading takes, are together of bulk at most 1048576: NARROWER than '..Said'. Prove '..Said' where nothing that the law and all that it calls make is longer than what came in: it says more and counts as full. Else prove '..UptoSaid'. A law counts once. -/
mutual
def uptoBulk {H : Type} : DataW H → Nat
  | .lit (.string bytes) => bytes.length + 1
  | .lit _ => 1
  | .nil => 1
  | .ptr d => uptoBulk d + 1
  | .slice elems spare => uptoBulkAll elems + uptoBulkAll spare + 1
  | .agg parts => uptoBulkAll parts + 1
  | .iface _ d => uptoBulk d + 1
  | .map entries => uptoBulkEntries entries + 1
  | .held _ => 1
def uptoBulkAll {H : Type} : List (DataW H) → Nat
  | [] => 0
  | d :: r => uptoBulk d + uptoBulkAll r
def uptoBulkEntries {H : Type} : List (Lit × DataW H) → Nat
  | [] => 0
  | x :: r => uptoBulkEntry x + uptoBulkEntries r
def uptoBulkEntry {H : Type} : Lit × DataW H → Nat
  | (.string bytes, d) => bytes.length + uptoBulk d + 1
  | (_, d) => uptoBulk d + 1
 end
def uptoSmall : (H : Type) → List (DataW H) → Bool := fun _ ds => decide (uptoBulkAll ds ≤ 1048576)
def OpenSpec.upto (s : _root_.Go.ChangeSpec) : _root_.Go.OpenSpec := { _root_.Go.OpenSpec.ofChange s with cond := some uptoSmall }

/-- 'foyerlaw33.BookMatchesReference', WHERE WHAT IT READS IS OF BULK AT MOST 1048576: true; the input reads as it did. -/
def bookMatchesReferenceUptoRow : OpenClaim := { program := "ytcgpbalpihkiiaa", sum := "73755176dd536612bf48cb0302e9607551386bd63eea0703e3c2f5bc67364718", func := "foyer/foyerlaw33.BookMatchesReference", spec := "bookMatchesReference", inPlace := ["slices.overlaps[foyer/api.Order]"], unfollowed := true, recurses := true, apart := false, narrowed := true }
def BookMatchesReferenceUptoSaid : Prop := bookMatchesReferenceUptoRow.holds Try.pinned (OpenSpec.upto bookMatchesReferenceSpec)

/-- 'foyerlaw33.BookCrosses', WHERE WHAT IT READS IS OF BULK AT MOST 1048576: true; the input reads as it did. -/
def bookCrossesUptoRow : OpenClaim := { program := "ytcgpbalpihkiiaa", sum := "73755176dd536612bf48cb0302e9607551386bd63eea0703e3c2f5bc67364718", func := "foyer/foyerlaw33.BookCrosses", spec := "bookCrosses", inPlace := ["slices.overlaps[foyer/api.Order]"], unfollowed := true, recurses := true, apart := false, narrowed := true }
def BookCrossesUptoSaid : Prop := bookCrossesUptoRow.holds Try.pinned (OpenSpec.upto bookCrossesSpec)

/-- 'foyerlaw33.BookTrades', WHERE WHAT IT READS IS OF BULK AT MOST 1048576: true; the input reads as it did. -/
def bookTradesUptoRow : OpenClaim := { program := "ytcgpbalpihkiiaa", sum := "73755176dd536612bf48cb0302e9607551386bd63eea0703e3c2f5bc67364718", func := "foyer/foyerlaw33.BookTrades", spec := "bookTrades", inPlace := ["slices.overlaps[foyer/api.Order]"], unfollowed := true, recurses := true, apart := false, narrowed := true }
def BookTradesUptoSaid : Prop := bookTradesUptoRow.holds Try.pinned (OpenSpec.upto bookTradesSpec)

/-- 'foyerlaw33.BookCancels', WHERE WHAT IT READS IS OF BULK AT MOST 1048576: true; the input reads as it did. -/
def bookCancelsUptoRow : OpenClaim := { program := "ytcgpbalpihkiiaa", sum := "73755176dd536612bf48cb0302e9607551386bd63eea0703e3c2f5bc67364718", func := "foyer/foyerlaw33.BookCancels", spec := "bookCancels", inPlace := ["slices.overlaps[foyer/api.Order]"], unfollowed := true, recurses := true, apart := false, narrowed := true }
def BookCancelsUptoSaid : Prop := bookCancelsUptoRow.holds Try.pinned (OpenSpec.upto bookCancelsSpec)

/-- 'foyerlaw33.BookRefuses', WHERE WHAT IT READS IS OF BULK AT MOST 1048576: true; the input reads as it did. -/
def bookRefusesUptoRow : OpenClaim := { program := "ytcgpbalpihkiiaa", sum := "73755176dd536612bf48cb0302e9607551386bd63eea0703e3c2f5bc67364718", func := "foyer/foyerlaw33.BookRefuses", spec := "bookRefuses", inPlace := ["slices.overlaps[foyer/api.Order]"], unfollowed := true, recurses := true, apart := false, narrowed := true }
def BookRefusesUptoSaid : Prop := bookRefusesUptoRow.holds Try.pinned (OpenSpec.upto bookRefusesSpec)

end Rows
end Go.Proofs.Ytcgpbalpihkiiaa
