/-
  No cell of these rows narrows 'for every input' (looked for: loops, veiled, ifaces, maps, wideKeys, modest, calm, conditions, laid).
  DERIVED. THE GIVEN ROWS OF THIS SEAT. 6 by the template 'for every input the law returns true; each argument reads behind the call as it read before'; 0 by the template 'total and deterministic' (their statements: YtojmagbonbcffaaTotals.lean).
  GIVEN WITH THE SEED: the statements are not yours to turn. If you find one false, say at which input.
  Laid BY PROGRAM, IN A SANDBOX (cutbox-rows.mjs): the forced cells as the released guide's own fill.sh prints them over the translation 923c48850c39630b… (all of the seat's roots in one cut). By AI agents, Wed Nov 11 2026. No macro, syntax, notation, axiom, sorry.
-/
import Derived.Test.YtojmagbonbcffaaChecked
import GoSem.Claim
import GoSem.ClaimJoined
import GoSem.ClaimMapViews
import Derived.JoinedTies
import Derived.KernelRfl
namespace Go.Proofs.Ytojmagbonbcffaa
/- THE CELL 'sum', in the pinned program and in every row, IS THE sha256 OF THE DUMP (.gsa) THAT YtojmagbonbcffaaProg.lean LOADS. Nothing in Lean hashes anything: it is a label: what it is worth is what the hold of that sum in a sandbox is worth. -/
noncomputable def Try.pinned : Pinned := { name := "ytojmagbonbcffaa", sum := "923c48850c39630b3fb3bac1b2f6e3a0a674d3b7adada64dc133c45b73548298", checked := Try.checked }
namespace Rows
def none {H : Type} : Left H := { results := [], args := [] }

/-- 'foyerlaw49.ShedMatchesReference': WHATEVER THE INPUT: true; the input reads as it did. -/
def shedMatchesReferenceSpec : ChangeSpec := { name := "shedMatchesReference", fn := fun _ => fun
  | [d1, d2, d3, d4, d5] => { results := [.lit (.bool true)], args := [d1, d2, d3, d4, d5] }
  | _ => none }
def shedMatchesReferenceRow : OpenClaim := { program := "ytojmagbonbcffaa", sum := "923c48850c39630b3fb3bac1b2f6e3a0a674d3b7adada64dc133c45b73548298", func := "foyer/foyerlaw49.ShedMatchesReference", spec := "shedMatchesReference", unfollowed := true, recurses := true, apart := false }
def ShedMatchesReferenceSaid : Prop := shedMatchesReferenceRow.holds Try.pinned (OpenSpec.ofChange shedMatchesReferenceSpec)

/-- ITS FALSE NEIGHBOUR: 'it returns false'. Refute it at one input. -/
def shedMatchesReferenceWrong : ChangeSpec := { name := "shedMatchesReference", fn := fun _ => fun
  | [d1, d2, d3, d4, d5] => { results := [.lit (.bool false)], args := [d1, d2, d3, d4, d5] }
  | _ => none }
def ShedMatchesReferenceWrongFalsely : Prop := shedMatchesReferenceRow.holds Try.pinned (OpenSpec.ofChange shedMatchesReferenceWrong)

/-- 'foyerlaw49.ShedBaskets': WHATEVER THE INPUT: true; the input reads as it did. -/
def shedBasketsSpec : ChangeSpec := { name := "shedBaskets", fn := fun _ => fun
  | [d1, d2, d3, d4, d5, d6] => { results := [.lit (.bool true)], args := [d1, d2, d3, d4, d5, d6] }
  | _ => none }
def shedBasketsRow : OpenClaim := { program := "ytojmagbonbcffaa", sum := "923c48850c39630b3fb3bac1b2f6e3a0a674d3b7adada64dc133c45b73548298", func := "foyer/foyerlaw49.ShedBaskets", spec := "shedBaskets", unfollowed := true, recurses := true, apart := false }
def ShedBasketsSaid : Prop := shedBasketsRow.holds Try.pinned (OpenSpec.ofChange shedBasketsSpec)

/-- ITS FALSE NEIGHBOUR: 'it returns false'. Refute it at one input. -/
def shedBasketsWrong : ChangeSpec := { name := "shedBaskets", fn := fun _ => fun
  | [d1, d2, d3, d4, d5, d6] => { results := [.lit (.bool false)], args := [d1, d2, d3, d4, d5, d6] }
  | _ => none }
def ShedBasketsWrongFalsely : Prop := shedBasketsRow.holds Try.pinned (OpenSpec.ofChange shedBasketsWrong)

/-- 'foyerlaw49.ShedReserves': WHATEVER THE INPUT: true; the input reads as it did. -/
def shedReservesSpec : ChangeSpec := { name := "shedReserves", fn := fun _ => fun
  | [d1, d2, d3, d4, d5] => { results := [.lit (.bool true)], args := [d1, d2, d3, d4, d5] }
  | _ => none }
def shedReservesRow : OpenClaim := { program := "ytojmagbonbcffaa", sum := "923c48850c39630b3fb3bac1b2f6e3a0a674d3b7adada64dc133c45b73548298", func := "foyer/foyerlaw49.ShedReserves", spec := "shedReserves", unfollowed := true, recurses := true, apart := false }
def ShedReservesSaid : Prop := shedReservesRow.holds Try.pinned (OpenSpec.ofChange shedReservesSpec)

/-- ITS FALSE NEIGHBOUR: 'it returns false'. Refute it at one input. -/
def shedReservesWrong : ChangeSpec := { name := "shedReserves", fn := fun _ => fun
  | [d1, d2, d3, d4, d5] => { results := [.lit (.bool false)], args := [d1, d2, d3, d4, d5] }
  | _ => none }
def ShedReservesWrongFalsely : Prop := shedReservesRow.holds Try.pinned (OpenSpec.ofChange shedReservesWrong)

/-- 'foyerlaw49.ShedApart': WHATEVER THE INPUT: true; the input reads as it did. -/
def shedApartSpec : ChangeSpec := { name := "shedApart", fn := fun _ => fun
  | [d1, d2, d3, d4, d5, d6] => { results := [.lit (.bool true)], args := [d1, d2, d3, d4, d5, d6] }
  | _ => none }
def shedApartRow : OpenClaim := { program := "ytojmagbonbcffaa", sum := "923c48850c39630b3fb3bac1b2f6e3a0a674d3b7adada64dc133c45b73548298", func := "foyer/foyerlaw49.ShedApart", spec := "shedApart", unfollowed := true, recurses := true, apart := false }
def ShedApartSaid : Prop := shedApartRow.holds Try.pinned (OpenSpec.ofChange shedApartSpec)

/-- ITS FALSE NEIGHBOUR: 'it returns false'. Refute it at one input. -/
def shedApartWrong : ChangeSpec := { name := "shedApart", fn := fun _ => fun
  | [d1, d2, d3, d4, d5, d6] => { results := [.lit (.bool false)], args := [d1, d2, d3, d4, d5, d6] }
  | _ => none }
def ShedApartWrongFalsely : Prop := shedApartRow.holds Try.pinned (OpenSpec.ofChange shedApartWrong)

/-- 'foyerlaw49.ShedSpans': WHATEVER THE INPUT: true; the input reads as it did. -/
def shedSpansSpec : ChangeSpec := { name := "shedSpans", fn := fun _ => fun
  | [d1, d2, d3, d4, d5, d6, d7] => { results := [.lit (.bool true)], args := [d1, d2, d3, d4, d5, d6, d7] }
  | _ => none }
def shedSpansRow : OpenClaim := { program := "ytojmagbonbcffaa", sum := "923c48850c39630b3fb3bac1b2f6e3a0a674d3b7adada64dc133c45b73548298", func := "foyer/foyerlaw49.ShedSpans", spec := "shedSpans", unfollowed := true, recurses := true, apart := false }
def ShedSpansSaid : Prop := shedSpansRow.holds Try.pinned (OpenSpec.ofChange shedSpansSpec)

/-- ITS FALSE NEIGHBOUR: 'it returns false'. Refute it at one input. -/
def shedSpansWrong : ChangeSpec := { name := "shedSpans", fn := fun _ => fun
  | [d1, d2, d3, d4, d5, d6, d7] => { results := [.lit (.bool false)], args := [d1, d2, d3, d4, d5, d6, d7] }
  | _ => none }
def ShedSpansWrongFalsely : Prop := shedSpansRow.holds Try.pinned (OpenSpec.ofChange shedSpansWrong)

/-- 'foyerlaw49.ShedRefused': WHATEVER THE INPUT: true; the input reads as it did. -/
def shedRefusedSpec : ChangeSpec := { name := "shedRefused", fn := fun _ => fun
  | [d1, d2, d3, d4, d5, d6] => { results := [.lit (.bool true)], args := [d1, d2, d3, d4, d5, d6] }
  | _ => none }
def shedRefusedRow : OpenClaim := { program := "ytojmagbonbcffaa", sum := "923c48850c39630b3fb3bac1b2f6e3a0a674d3b7adada64dc133c45b73548298", func := "foyer/foyerlaw49.ShedRefused", spec := "shedRefused", unfollowed := true, recurses := true, apart := false }
def ShedRefusedSaid : Prop := shedRefusedRow.holds Try.pinned (OpenSpec.ofChange shedRefusedSpec)

/-- ITS FALSE NEIGHBOUR: 'it returns false'. Refute it at one input. -/
def shedRefusedWrong : ChangeSpec := { name := "shedRefused", fn := fun _ => fun
  | [d1, d2, d3, d4, d5, d6] => { results := [.lit (.bool false)], args := [d1, d2, d3, d4, d5, d6] }
  | _ => none }
def ShedRefusedWrongFalsely : Prop := shedRefusedRow.holds Try.pinned (OpenSpec.ofChange shedRefusedWrong)

/- THE SECOND FORM. 'bulk': how many values and letters a reading holds, each counted each time it is reached (what is shared counts as often as it is met; a slice's spare places count too). A statement '..UptoSaid' is the law's where the arguments, and the package variables that the reading takes, are together of bulk at most 1048576: NARROWER than '..Said'. Prove '..Said' where nothing that the law and all that it calls make is longer than what came in: it says more and counts as full. Else prove '..UptoSaid'. A law counts once. -/
mutual
def uptoBulk {H : Type} : DataW H → Nat
  | .lit (.string bytes) => bytes.length + 1
  | .lit _ => 1
  | .nil => 1
  | .ptr d => uptoBulk d + 1
  | .slice elems spare => uptoBulkAll elems + uptoBulkAll spare + 1
  | .agg parts => uptoBulkAll parts + 1
  | .iface _ d => uptoBulk d + 1
  | .map entries => uptoBulkEntries entries + 1
  | .held _ => 1
def uptoBulkAll {H : Type} : List (DataW H) → Nat
  | [] => 0
  | d :: r => uptoBulk d + uptoBulkAll r
def uptoBulkEntries {H : Type} : List (Lit × DataW H) → Nat
  | [] => 0
  | x :: r => uptoBulkEntry x + uptoBulkEntries r
def uptoBulkEntry {H : Type} : Lit × DataW H → Nat
  | (.string bytes, d) => bytes.length + uptoBulk d + 1
  | (_, d) => uptoBulk d + 1
 end
def uptoSmall : (H : Type) → List (DataW H) → Bool := fun _ ds => decide (uptoBulkAll ds ≤ 1048576)
def OpenSpec.upto (s : _root_.Go.ChangeSpec) : _root_.Go.OpenSpec := { _root_.Go.OpenSpec.ofChange s with cond := some uptoSmall }

/-- 'foyerlaw49.ShedMatchesReference', WHERE WHAT IT READS IS OF BULK AT MOST 1048576: true; the input reads as it did. -/
def shedMatchesReferenceUptoRow : OpenClaim := { program := "ytojmagbonbcffaa", sum := "923c48850c39630b3fb3bac1b2f6e3a0a674d3b7adada64dc133c45b73548298", func := "foyer/foyerlaw49.ShedMatchesReference", spec := "shedMatchesReference", unfollowed := true, recurses := true, apart := false, narrowed := true }
def ShedMatchesReferenceUptoSaid : Prop := shedMatchesReferenceUptoRow.holds Try.pinned (OpenSpec.upto shedMatchesReferenceSpec)

/-- 'foyerlaw49.ShedBaskets', WHERE WHAT IT READS IS OF BULK AT MOST 1048576: true; the input reads as it did. -/
def shedBasketsUptoRow : OpenClaim := { program := "ytojmagbonbcffaa", sum := "923c48850c39630b3fb3bac1b2f6e3a0a674d3b7adada64dc133c45b73548298", func := "foyer/foyerlaw49.ShedBaskets", spec := "shedBaskets", unfollowed := true, recurses := true, apart := false, narrowed := true }
def ShedBasketsUptoSaid : Prop := shedBasketsUptoRow.holds Try.pinned (OpenSpec.upto shedBasketsSpec)

/-- 'foyerlaw49.ShedReserves', WHERE WHAT IT READS IS OF BULK AT MOST 1048576: true; the input reads as it did. -/
def shedReservesUptoRow : OpenClaim := { program := "ytojmagbonbcffaa", sum := "923c48850c39630b3fb3bac1b2f6e3a0a674d3b7adada64dc133c45b73548298", func := "foyer/foyerlaw49.ShedReserves", spec := "shedReserves", unfollowed := true, recurses := true, apart := false, narrowed := true }
def ShedReservesUptoSaid : Prop := shedReservesUptoRow.holds Try.pinned (OpenSpec.upto shedReservesSpec)

/-- 'foyerlaw49.ShedApart', WHERE WHAT IT READS IS OF BULK AT MOST 1048576: true; the input reads as it did. -/
def shedApartUptoRow : OpenClaim := { program := "ytojmagbonbcffaa", sum := "923c48850c39630b3fb3bac1b2f6e3a0a674d3b7adada64dc133c45b73548298", func := "foyer/foyerlaw49.ShedApart", spec := "shedApart", unfollowed := true, recurses := true, apart := false, narrowed := true }
def ShedApartUptoSaid : Prop := shedApartUptoRow.holds Try.pinned (OpenSpec.upto shedApartSpec)

/-- 'foyerlaw49.ShedSpans', WHERE WHAT IT READS IS OF BULK AT MOST 1048576: true; the input reads as it did. -/
def shedSpansUptoRow : OpenClaim := { program := "ytojmagbonbcffaa", sum := "923c48850c39630b3fb3bac1b2f6e3a0a674d3b7adada64dc133c45b73548298", func := "foyer/foyerlaw49.ShedSpans", spec := "shedSpans", unfollowed := true, recurses := true, apart := false, narrowed := true }
def ShedSpansUptoSaid : Prop := shedSpansUptoRow.holds Try.pinned (OpenSpec.upto shedSpansSpec)

/-- 'foyerlaw49.ShedRefused', WHERE WHAT IT READS IS OF BULK AT MOST 1048576: true; the input reads as it did. -/
def shedRefusedUptoRow : OpenClaim := { program := "ytojmagbonbcffaa", sum := "923c48850c39630b3fb3bac1b2f6e3a0a674d3b7adada64dc133c45b73548298", func := "foyer/foyerlaw49.ShedRefused", spec := "shedRefused", unfollowed := true, recurses := true, apart := false, narrowed := true }
def ShedRefusedUptoSaid : Prop := shedRefusedUptoRow.holds Try.pinned (OpenSpec.upto shedRefusedSpec)

end Rows
end Go.Proofs.Ytojmagbonbcffaa
