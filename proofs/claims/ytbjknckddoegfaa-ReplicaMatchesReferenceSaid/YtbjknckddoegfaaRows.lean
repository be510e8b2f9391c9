/-
  No cell of these rows narrows 'for every input' (looked for: loops, veiled, ifaces, maps, wideKeys, modest, calm, conditions, laid).
  DERIVED. THE GIVEN ROWS OF THIS SEAT. 5 by the template 'for every input the law returns true; each argument reads behind the call as it read before'; 0 by the template 'total and deterministic' (their statements: YtbjknckddoegfaaTotals.lean).
  GIVEN WITH THE SEED: the statements are not yours to turn. If you find one false, say at which input.
  Laid BY PROGRAM, IN A SANDBOX (cutbox-rows.mjs): the forced cells as the released guide's own fill.sh prints them over the translation 5af5060d3598d13f… (all of the seat's roots in one cut). By AI agents, Wed Nov 11 2026. No macro, syntax, notation, axiom, sorry.
-/
import Derived.Test.YtbjknckddoegfaaChecked
import GoSem.Claim
import GoSem.ClaimJoined
import GoSem.ClaimMapViews
import Derived.JoinedTies
import Derived.KernelRfl
namespace Go.Proofs.Ytbjknckddoegfaa
/- THE CELL 'sum', in the pinned program and in every row, IS THE sha256 OF THE DUMP (.gsa) THAT YtbjknckddoegfaaProg.lean LOADS. Nothing in Lean hashes anything: it is a label: what it is worth is what the hold of that sum in a sandbox is worth. -/
noncomputable def Try.pinned : Pinned := { name := "ytbjknckddoegfaa", sum := "5af5060d3598d13f8e5642e598d4dfabcd508be315d6abcdf1a6475410f33587", checked := Try.checked }
namespace Rows
def none {H : Type} : Left H := { results := [], args := [] }

/-- 'foyerlaw48.ReplicaMatchesReference': WHATEVER THE INPUT: true; the input reads as it did. -/
def replicaMatchesReferenceSpec : ChangeSpec := { name := "replicaMatchesReference", fn := fun _ => fun
  | [d1, d2, d3] => { results := [.lit (.bool true)], args := [d1, d2, d3] }
  | _ => none }
def replicaMatchesReferenceRow : OpenClaim := { program := "ytbjknckddoegfaa", sum := "5af5060d3598d13f8e5642e598d4dfabcd508be315d6abcdf1a6475410f33587", func := "foyer/foyerlaw48.ReplicaMatchesReference", spec := "replicaMatchesReference", unfollowed := true, recurses := true, plainKeys := false, apart := false }
def ReplicaMatchesReferenceSaid : Prop := replicaMatchesReferenceRow.holds Try.pinned (OpenSpec.ofChange replicaMatchesReferenceSpec)

/-- ITS FALSE NEIGHBOUR: 'it returns false'. Refute it at one input. -/
def replicaMatchesReferenceWrong : ChangeSpec := { name := "replicaMatchesReference", fn := fun _ => fun
  | [d1, d2, d3] => { results := [.lit (.bool false)], args := [d1, d2, d3] }
  | _ => none }
def ReplicaMatchesReferenceWrongFalsely : Prop := replicaMatchesReferenceRow.holds Try.pinned (OpenSpec.ofChange replicaMatchesReferenceWrong)

/-- 'foyerlaw48.ReplicaAgrees': WHATEVER THE INPUT: true; the input reads as it did. -/
def replicaAgreesSpec : ChangeSpec := { name := "replicaAgrees", fn := fun _ => fun
  | [d1, d2] => { results := [.lit (.bool true)], args := [d1, d2] }
  | _ => none }
def replicaAgreesRow : OpenClaim := { program := "ytbjknckddoegfaa", sum := "5af5060d3598d13f8e5642e598d4dfabcd508be315d6abcdf1a6475410f33587", func := "foyer/foyerlaw48.ReplicaAgrees", spec := "replicaAgrees", unfollowed := true, recurses := true, plainKeys := false, apart := false }
def ReplicaAgreesSaid : Prop := replicaAgreesRow.holds Try.pinned (OpenSpec.ofChange replicaAgreesSpec)

/-- ITS FALSE NEIGHBOUR: 'it returns false'. Refute it at one input. -/
def replicaAgreesWrong : ChangeSpec := { name := "replicaAgrees", fn := fun _ => fun
  | [d1, d2] => { results := [.lit (.bool false)], args := [d1, d2] }
  | _ => none }
def ReplicaAgreesWrongFalsely : Prop := replicaAgreesRow.holds Try.pinned (OpenSpec.ofChange replicaAgreesWrong)

/-- 'foyerlaw48.ReplicaProposed': WHATEVER THE INPUT: true; the input reads as it did. -/
def replicaProposedSpec : ChangeSpec := { name := "replicaProposed", fn := fun _ => fun
  | [d1, d2] => { results := [.lit (.bool true)], args := [d1, d2] }
  | _ => none }
def replicaProposedRow : OpenClaim := { program := "ytbjknckddoegfaa", sum := "5af5060d3598d13f8e5642e598d4dfabcd508be315d6abcdf1a6475410f33587", func := "foyer/foyerlaw48.ReplicaProposed", spec := "replicaProposed", unfollowed := true, recurses := true, plainKeys := false, apart := false }
def ReplicaProposedSaid : Prop := replicaProposedRow.holds Try.pinned (OpenSpec.ofChange replicaProposedSpec)

/-- ITS FALSE NEIGHBOUR: 'it returns false'. Refute it at one input. -/
def replicaProposedWrong : ChangeSpec := { name := "replicaProposed", fn := fun _ => fun
  | [d1, d2] => { results := [.lit (.bool false)], args := [d1, d2] }
  | _ => none }
def ReplicaProposedWrongFalsely : Prop := replicaProposedRow.holds Try.pinned (OpenSpec.ofChange replicaProposedWrong)

/-- 'foyerlaw48.ReplicaProgresses': WHATEVER THE INPUT: true; the input reads as it did. -/
def replicaProgressesSpec : ChangeSpec := { name := "replicaProgresses", fn := fun _ => fun
  | [d1, d2, d3] => { results := [.lit (.bool true)], args := [d1, d2, d3] }
  | _ => none }
def replicaProgressesRow : OpenClaim := { program := "ytbjknckddoegfaa", sum := "5af5060d3598d13f8e5642e598d4dfabcd508be315d6abcdf1a6475410f33587", func := "foyer/foyerlaw48.ReplicaProgresses", spec := "replicaProgresses", unfollowed := true, recurses := true, plainKeys := false, apart := false }
def ReplicaProgressesSaid : Prop := replicaProgressesRow.holds Try.pinned (OpenSpec.ofChange replicaProgressesSpec)

/-- ITS FALSE NEIGHBOUR: 'it returns false'. Refute it at one input. -/
def replicaProgressesWrong : ChangeSpec := { name := "replicaProgresses", fn := fun _ => fun
  | [d1, d2, d3] => { results := [.lit (.bool false)], args := [d1, d2, d3] }
  | _ => none }
def ReplicaProgressesWrongFalsely : Prop := replicaProgressesRow.holds Try.pinned (OpenSpec.ofChange replicaProgressesWrong)

/-- 'foyerlaw48.ReplicaMajorities': WHATEVER THE INPUT: true; the input reads as it did. -/
def replicaMajoritiesSpec : ChangeSpec := { name := "replicaMajorities", fn := fun _ => fun
  | [d1, d2, d3, d4] => { results := [.lit (.bool true)], args := [d1, d2, d3, d4] }
  | _ => none }
def replicaMajoritiesRow : OpenClaim := { program := "ytbjknckddoegfaa", sum := "5af5060d3598d13f8e5642e598d4dfabcd508be315d6abcdf1a6475410f33587", func := "foyer/foyerlaw48.ReplicaMajorities", spec := "replicaMajorities", unfollowed := true, recurses := true, plainKeys := false, apart := false }
def ReplicaMajoritiesSaid : Prop := replicaMajoritiesRow.holds Try.pinned (OpenSpec.ofChange replicaMajoritiesSpec)

/-- ITS FALSE NEIGHBOUR: 'it returns false'. Refute it at one input. -/
def replicaMajoritiesWrong : ChangeSpec := { name := "replicaMajorities", fn := fun _ => fun
  | [d1, d2, d3, d4] => { results := [.lit (.bool false)], args := [d1, d2, d3, d4] }
  | _ => none }
def ReplicaMajoritiesWrongFalsely : Prop := replicaMajoritiesRow.holds Try.pinned (OpenSpec.ofChange replicaMajoritiesWrong)

/- THE SECOND FORM. 'bulk': how many values and letters a reading holds, each counted each time it is reached (what is shared counts as often as it is met; a slice's spare places count too). A statement '..UptoSaid' is the law's where the arguments, and the package variables that the reading takes, are together of bulk at most 1048576: NARROWER than '..Said'. Prove '..Said' where nothing that the law and all that it calls make is longer than what came in: it says more and counts as full. Else prove '..UptoSaid'. A law counts once. -/
mutual
def uptoBulk {H : Type} : DataW H → Nat
  | .lit (.string bytes) => bytes.length + 1
  | .lit _ => 1
  | .nil => 1
  | .ptr d => uptoBulk d + 1
  | .slice elems spare => uptoBulkAll elems + uptoBulkAll spare + 1
  | .agg parts => uptoBulkAll parts + 1
  | .iface _ d => uptoBulk d + 1
  | .map entries => uptoBulkEntries entries + 1
  | .held _ => 1
def uptoBulkAll {H : Type} : List (DataW H) → Nat
  | [] => 0
  | d :: r => uptoBulk d + uptoBulkAll r
def uptoBulkEntries {H : Type} : List (Lit × DataW H) → Nat
  | [] => 0
  | x :: r => uptoBulkEntry x + uptoBulkEntries r
def uptoBulkEntry {H : Type} : Lit × DataW H → Nat
  | (.string bytes, d) => bytes.length + uptoBulk d + 1
  | (_, d) => uptoBulk d + 1
 end
def uptoSmall : (H : Type) → List (DataW H) → Bool := fun _ ds => decide (uptoBulkAll ds ≤ 1048576)
def OpenSpec.upto (s : _root_.Go.ChangeSpec) : _root_.Go.OpenSpec := { _root_.Go.OpenSpec.ofChange s with cond := some uptoSmall }

/-- 'foyerlaw48.ReplicaMatchesReference', WHERE WHAT IT READS IS OF BULK AT MOST 1048576: true; the input reads as it did. -/
def replicaMatchesReferenceUptoRow : OpenClaim := { program := "ytbjknckddoegfaa", sum := "5af5060d3598d13f8e5642e598d4dfabcd508be315d6abcdf1a6475410f33587", func := "foyer/foyerlaw48.ReplicaMatchesReference", spec := "replicaMatchesReference", unfollowed := true, recurses := true, plainKeys := false, apart := false, narrowed := true }
def ReplicaMatchesReferenceUptoSaid : Prop := replicaMatchesReferenceUptoRow.holds Try.pinned (OpenSpec.upto replicaMatchesReferenceSpec)

/-- 'foyerlaw48.ReplicaAgrees', WHERE WHAT IT READS IS OF BULK AT MOST 1048576: true; the input reads as it did. -/
def replicaAgreesUptoRow : OpenClaim := { program := "ytbjknckddoegfaa", sum := "5af5060d3598d13f8e5642e598d4dfabcd508be315d6abcdf1a6475410f33587", func := "foyer/foyerlaw48.ReplicaAgrees", spec := "replicaAgrees", unfollowed := true, recurses := true, plainKeys := false, apart := false, narrowed := true }
def ReplicaAgreesUptoSaid : Prop := replicaAgreesUptoRow.holds Try.pinned (OpenSpec.upto replicaAgreesSpec)

/-- 'foyerlaw48.ReplicaProposed', WHERE WHAT IT READS IS OF BULK AT MOST 1048576: true; the input reads as it did. -/
def replicaProposedUptoRow : OpenClaim := { program := "ytbjknckddoegfaa", sum := "5af5060d3598d13f8e5642e598d4dfabcd508be315d6abcdf1a6475410f33587", func := "foyer/foyerlaw48.ReplicaProposed", spec := "replicaProposed", unfollowed := true, recurses := true, plainKeys := false, apart := false, narrowed := true }
def ReplicaProposedUptoSaid : Prop := replicaProposedUptoRow.holds Try.pinned (OpenSpec.upto replicaProposedSpec)

/-- 'foyerlaw48.ReplicaProgresses', WHERE WHAT IT READS IS OF BULK AT MOST 1048576: true; the input reads as it did. -/
def replicaProgressesUptoRow : OpenClaim := { program := "ytbjknckddoegfaa", sum := "5af5060d3598d13f8e5642e598d4dfabcd508be315d6abcdf1a6475410f33587", func := "foyer/foyerlaw48.ReplicaProgresses", spec := "replicaProgresses", unfollowed := true, recurses := true, plainKeys := false, apart := false, narrowed := true }
def ReplicaProgressesUptoSaid : Prop := replicaProgressesUptoRow.holds Try.pinned (OpenSpec.upto replicaProgressesSpec)

/-- 'foyerlaw48.ReplicaMajorities', WHERE WHAT IT READS IS OF BULK AT MOST 1048576: true; the input reads as it did. -/
def replicaMajoritiesUptoRow : OpenClaim := { program := "ytbjknckddoegfaa", sum := "5af5060d3598d13f8e5642e598d4dfabcd508be315d6abcdf1a6475410f33587", func := "foyer/foyerlaw48.ReplicaMajorities", spec := "replicaMajorities", unfollowed := true, recurses := true, plainKeys := false, apart := false, narrowed := true }
def ReplicaMajoritiesUptoSaid : Prop := replicaMajoritiesUptoRow.holds Try.pinned (OpenSpec.upto replicaMajoritiesSpec)

end Rows
end Go.Proofs.Ytbjknckddoegfaa
