/-
  No cell of these rows narrows 'for every input' (looked for: loops, veiled, ifaces, maps, wideKeys, modest, calm, conditions, laid).
  DERIVED. THE GIVEN ROWS OF THIS SEAT. 6 by the template 'for every input the law returns true; each argument reads behind the call as it read before'; 0 by the template 'total and deterministic' (their statements: YtfblnfkphdimjaaTotals.lean).
  GIVEN WITH THE SEED: the statements are not yours to turn. If you find one false, say at which input.
  Laid BY PROGRAM, IN A SANDBOX (cutbox-rows.mjs): the forced cells as the released guide's own fill.sh prints them over the translation fd22f15fee40a37c… (all of the seat's roots in one cut). By AI agents, Wed Nov 11 2026. No macro, syntax, notation, axiom, sorry.
-/
import Derived.Test.YtfblnfkphdimjaaChecked
import GoSem.Claim
import GoSem.ClaimJoined
import GoSem.ClaimMapViews
import Derived.JoinedTies
import Derived.KernelRfl
namespace Go.Proofs.Ytfblnfkphdimjaa
/- THE CELL 'sum', in the pinned program and in every row, IS THE sha256 OF THE DUMP (.gsa) THAT YtfblnfkphdimjaaProg.lean LOADS. Nothing in Lean hashes anything: it is a label: what it is worth is what the hold of that sum in a sandbox is worth. -/
noncomputable def Try.pinned : Pinned := { name := "ytfblnfkphdimjaa", sum := "fd22f15fee40a37c428ee24f81f1b892a17882db973117ba975547c408aa82bd", checked := Try.checked }
namespace Rows
def none {H : Type} : Left H := { results := [], args := [] }

/-- 'foyerlaw25.ClockMatchesReference': WHATEVER THE INPUT: true; the input reads as it did. -/
def clockMatchesReferenceSpec : ChangeSpec := { name := "clockMatchesReference", fn := fun _ => fun
  | [d1, d2, d3] => { results := [.lit (.bool true)], args := [d1, d2, d3] }
  | _ => none }
def clockMatchesReferenceRow : OpenClaim := { program := "ytfblnfkphdimjaa", sum := "fd22f15fee40a37c428ee24f81f1b892a17882db973117ba975547c408aa82bd", func := "foyer/foyerlaw25.ClockMatchesReference", spec := "clockMatchesReference", unfollowed := true, recurses := true, apart := false }
def ClockMatchesReferenceSaid : Prop := clockMatchesReferenceRow.holds Try.pinned (OpenSpec.ofChange clockMatchesReferenceSpec)

/-- ITS FALSE NEIGHBOUR: 'it returns false'. Refute it at one input. -/
def clockMatchesReferenceWrong : ChangeSpec := { name := "clockMatchesReference", fn := fun _ => fun
  | [d1, d2, d3] => { results := [.lit (.bool false)], args := [d1, d2, d3] }
  | _ => none }
def ClockMatchesReferenceWrongFalsely : Prop := clockMatchesReferenceRow.holds Try.pinned (OpenSpec.ofChange clockMatchesReferenceWrong)

/-- 'foyerlaw25.ClockTrue': WHATEVER THE INPUT: true; the input reads as it did. -/
def clockTrueSpec : ChangeSpec := { name := "clockTrue", fn := fun _ => fun
  | [d1, d2] => { results := [.lit (.bool true)], args := [d1, d2] }
  | _ => none }
def clockTrueRow : OpenClaim := { program := "ytfblnfkphdimjaa", sum := "fd22f15fee40a37c428ee24f81f1b892a17882db973117ba975547c408aa82bd", func := "foyer/foyerlaw25.ClockTrue", spec := "clockTrue", unfollowed := true, recurses := true, apart := false }
def ClockTrueSaid : Prop := clockTrueRow.holds Try.pinned (OpenSpec.ofChange clockTrueSpec)

/-- ITS FALSE NEIGHBOUR: 'it returns false'. Refute it at one input. -/
def clockTrueWrong : ChangeSpec := { name := "clockTrue", fn := fun _ => fun
  | [d1, d2] => { results := [.lit (.bool false)], args := [d1, d2] }
  | _ => none }
def ClockTrueWrongFalsely : Prop := clockTrueRow.holds Try.pinned (OpenSpec.ofChange clockTrueWrong)

/-- 'foyerlaw25.ClockOver': WHATEVER THE INPUT: true; the input reads as it did. -/
def clockOverSpec : ChangeSpec := { name := "clockOver", fn := fun _ => fun
  | [d1, d2, d3] => { results := [.lit (.bool true)], args := [d1, d2, d3] }
  | _ => none }
def clockOverRow : OpenClaim := { program := "ytfblnfkphdimjaa", sum := "fd22f15fee40a37c428ee24f81f1b892a17882db973117ba975547c408aa82bd", func := "foyer/foyerlaw25.ClockOver", spec := "clockOver", unfollowed := true, recurses := true, apart := false }
def ClockOverSaid : Prop := clockOverRow.holds Try.pinned (OpenSpec.ofChange clockOverSpec)

/-- ITS FALSE NEIGHBOUR: 'it returns false'. Refute it at one input. -/
def clockOverWrong : ChangeSpec := { name := "clockOver", fn := fun _ => fun
  | [d1, d2, d3] => { results := [.lit (.bool false)], args := [d1, d2, d3] }
  | _ => none }
def ClockOverWrongFalsely : Prop := clockOverRow.holds Try.pinned (OpenSpec.ofChange clockOverWrong)

/-- 'foyerlaw25.ClockAgrees': WHATEVER THE INPUT: true; the input reads as it did. -/
def clockAgreesSpec : ChangeSpec := { name := "clockAgrees", fn := fun _ => fun
  | [d1, d2] => { results := [.lit (.bool true)], args := [d1, d2] }
  | _ => none }
def clockAgreesRow : OpenClaim := { program := "ytfblnfkphdimjaa", sum := "fd22f15fee40a37c428ee24f81f1b892a17882db973117ba975547c408aa82bd", func := "foyer/foyerlaw25.ClockAgrees", spec := "clockAgrees", unfollowed := true, recurses := true, apart := false }
def ClockAgreesSaid : Prop := clockAgreesRow.holds Try.pinned (OpenSpec.ofChange clockAgreesSpec)

/-- ITS FALSE NEIGHBOUR: 'it returns false'. Refute it at one input. -/
def clockAgreesWrong : ChangeSpec := { name := "clockAgrees", fn := fun _ => fun
  | [d1, d2] => { results := [.lit (.bool false)], args := [d1, d2] }
  | _ => none }
def ClockAgreesWrongFalsely : Prop := clockAgreesRow.holds Try.pinned (OpenSpec.ofChange clockAgreesWrong)

/-- 'foyerlaw25.ClockLonger': WHATEVER THE INPUT: true; the input reads as it did. -/
def clockLongerSpec : ChangeSpec := { name := "clockLonger", fn := fun _ => fun
  | [d1, d2, d3, d4] => { results := [.lit (.bool true)], args := [d1, d2, d3, d4] }
  | _ => none }
def clockLongerRow : OpenClaim := { program := "ytfblnfkphdimjaa", sum := "fd22f15fee40a37c428ee24f81f1b892a17882db973117ba975547c408aa82bd", func := "foyer/foyerlaw25.ClockLonger", spec := "clockLonger", unfollowed := true, recurses := true, apart := false }
def ClockLongerSaid : Prop := clockLongerRow.holds Try.pinned (OpenSpec.ofChange clockLongerSpec)

/-- ITS FALSE NEIGHBOUR: 'it returns false'. Refute it at one input. -/
def clockLongerWrong : ChangeSpec := { name := "clockLonger", fn := fun _ => fun
  | [d1, d2, d3, d4] => { results := [.lit (.bool false)], args := [d1, d2, d3, d4] }
  | _ => none }
def ClockLongerWrongFalsely : Prop := clockLongerRow.holds Try.pinned (OpenSpec.ofChange clockLongerWrong)

/-- 'foyerlaw25.ClockOne': WHATEVER THE INPUT: true; the input reads as it did. -/
def clockOneSpec : ChangeSpec := { name := "clockOne", fn := fun _ => fun
  | [d1, d2] => { results := [.lit (.bool true)], args := [d1, d2] }
  | _ => none }
def clockOneRow : OpenClaim := { program := "ytfblnfkphdimjaa", sum := "fd22f15fee40a37c428ee24f81f1b892a17882db973117ba975547c408aa82bd", func := "foyer/foyerlaw25.ClockOne", spec := "clockOne", unfollowed := true, recurses := true, apart := false }
def ClockOneSaid : Prop := clockOneRow.holds Try.pinned (OpenSpec.ofChange clockOneSpec)

/-- ITS FALSE NEIGHBOUR: 'it returns false'. Refute it at one input. -/
def clockOneWrong : ChangeSpec := { name := "clockOne", fn := fun _ => fun
  | [d1, d2] => { results := [.lit (.bool false)], args := [d1, d2] }
  | _ => none }
def ClockOneWrongFalsely : Prop := clockOneRow.holds Try.pinned (OpenSpec.ofChange clockOneWrong)

/- THE SECOND FORM. 'bulk': how many values and letters a reading holds, each counted each time it is reached (what is shared counts as often as it is met; a slice's spare places count too). A statement '..UptoSaid' is the law's where the arguments, and the package variables that the reading takes, are together of bulk at most 1048576: NARROWER than '..Said'. Prove '..Said' where nothing that the law and all that it calls make is longer than what came in: it says more and counts as full. Else prove '..UptoSaid'. A law counts once. -/
mutual
def uptoBulk {H : Type} : DataW H → Nat
  | .lit (.string bytes) => bytes.length + 1
  | .lit _ => 1
  | .nil => 1
  | .ptr d => uptoBulk d + 1
  | .slice elems spare => uptoBulkAll elems + uptoBulkAll spare + 1
  | .agg parts => uptoBulkAll parts + 1
  | .iface _ d => uptoBulk d + 1
  | .map entries => uptoBulkEntries entries + 1
  | .held _ => 1
def uptoBulkAll {H : Type} : List (DataW H) → Nat
  | [] => 0
  | d :: r => uptoBulk d + uptoBulkAll r
def uptoBulkEntries {H : Type} : List (Lit × DataW H) → Nat
  | [] => 0
  | x :: r => uptoBulkEntry x + uptoBulkEntries r
def uptoBulkEntry {H : Type} : Lit × DataW H → Nat
  | (.string bytes, d) => bytes.length + uptoBulk d + 1
  | (_, d) => uptoBulk d + 1
 end
def uptoSmall : (H : Type) → List (DataW H) → Bool := fun _ ds => decide (uptoBulkAll ds ≤ 1048576)
def OpenSpec.upto (s : _root_.Go.ChangeSpec) : _root_.Go.OpenSpec := { _root_.Go.OpenSpec.ofChange s with cond := some uptoSmall }

/-- 'foyerlaw25.ClockMatchesReference', WHERE WHAT IT READS IS OF BULK AT MOST 1048576: true; the input reads as it did. -/
def clockMatchesReferenceUptoRow : OpenClaim := { program := "ytfblnfkphdimjaa", sum := "fd22f15fee40a37c428ee24f81f1b892a17882db973117ba975547c408aa82bd", func := "foyer/foyerlaw25.ClockMatchesReference", spec := "clockMatchesReference", unfollowed := true, recurses := true, apart := false, narrowed := true }
def ClockMatchesReferenceUptoSaid : Prop := clockMatchesReferenceUptoRow.holds Try.pinned (OpenSpec.upto clockMatchesReferenceSpec)

/-- 'foyerlaw25.ClockTrue', WHERE WHAT IT READS IS OF BULK AT MOST 1048576: true; the input reads as it did. -/
def clockTrueUptoRow : OpenClaim := { program := "ytfblnfkphdimjaa", sum := "fd22f15fee40a37c428ee24f81f1b892a17882db973117ba975547c408aa82bd", func := "foyer/foyerlaw25.ClockTrue", spec := "clockTrue", unfollowed := true, recurses := true, apart := false, narrowed := true }
def ClockTrueUptoSaid : Prop := clockTrueUptoRow.holds Try.pinned (OpenSpec.upto clockTrueSpec)

/-- 'foyerlaw25.ClockOver', WHERE WHAT IT READS IS OF BULK AT MOST 1048576: true; the input reads as it did. -/
def clockOverUptoRow : OpenClaim := { program := "ytfblnfkphdimjaa", sum := "fd22f15fee40a37c428ee24f81f1b892a17882db973117ba975547c408aa82bd", func := "foyer/foyerlaw25.ClockOver", spec := "clockOver", unfollowed := true, recurses := true, apart := false, narrowed := true }
def ClockOverUptoSaid : Prop := clockOverUptoRow.holds Try.pinned (OpenSpec.upto clockOverSpec)

/-- 'foyerlaw25.ClockAgrees', WHERE WHAT IT READS IS OF BULK AT MOST 1048576: true; the input reads as it did. -/
def clockAgreesUptoRow : OpenClaim := { program := "ytfblnfkphdimjaa", sum := "fd22f15fee40a37c428ee24f81f1b892a17882db973117ba975547c408aa82bd", func := "foyer/foyerlaw25.ClockAgrees", spec := "clockAgrees", unfollowed := true, recurses := true, apart := false, narrowed := true }
def ClockAgreesUptoSaid : Prop := clockAgreesUptoRow.holds Try.pinned (OpenSpec.upto clockAgreesSpec)

/-- 'foyerlaw25.ClockLonger', WHERE WHAT IT READS IS OF BULK AT MOST 1048576: true; the input reads as it did. -/
def clockLongerUptoRow : OpenClaim := { program := "ytfblnfkphdimjaa", sum := "fd22f15fee40a37c428ee24f81f1b892a17882db973117ba975547c408aa82bd", func := "foyer/foyerlaw25.ClockLonger", spec := "clockLonger", unfollowed := true, recurses := true, apart := false, narrowed := true }
def ClockLongerUptoSaid : Prop := clockLongerUptoRow.holds Try.pinned (OpenSpec.upto clockLongerSpec)

/-- 'foyerlaw25.ClockOne', WHERE WHAT IT READS IS OF BULK AT MOST 1048576: true; the input reads as it did. -/
def clockOneUptoRow : OpenClaim := { program := "ytfblnfkphdimjaa", sum := "fd22f15fee40a37c428ee24f81f1b892a17882db973117ba975547c408aa82bd", func := "foyer/foyerlaw25.ClockOne", spec := "clockOne", unfollowed := true, recurses := true, apart := false, narrowed := true }
def ClockOneUptoSaid : Prop := clockOneUptoRow.holds Try.pinned (OpenSpec.upto clockOneSpec)

end Rows
end Go.Proofs.Ytfblnfkphdimjaa
