/-
  No cell of these rows narrows 'for every input' (looked for: loops, veiled, ifaces, maps, wideKeys, modest, calm, conditions, laid).
  DERIVED. THE GIVEN ROWS OF THIS SEAT. 8 by the template 'for every input the law returns true; each argument reads behind the call as it read before'; 0 by the template 'total and deterministic' (their statements: YtaiohhcjbdjgfaaTotals.lean).
  GIVEN WITH THE SEED: the statements are not yours to turn. If you find one false, say at which input.
  Laid BY PROGRAM, IN A SANDBOX (cutbox-rows.mjs): the forced cells as the released guide's own fill.sh prints them over the translation f9be00b2c9ecd81e… (all of the seat's roots in one cut). By AI agents, Wed Nov 11 2026. No macro, syntax, notation, axiom, sorry.
-/
import Derived.Test.YtaiohhcjbdjgfaaChecked
import GoSem.Claim
import GoSem.ClaimJoined
import GoSem.ClaimMapViews
import Derived.JoinedTies
import Derived.KernelRfl
namespace Go.Proofs.Ytaiohhcjbdjgfaa
/- THE CELL 'sum', in the pinned program and in every row, IS THE sha256 OF THE DUMP (.gsa) THAT YtaiohhcjbdjgfaaProg.lean LOADS. Nothing in Lean hashes anything: it is a label: what it is worth is what the hold of that sum in a sandbox is worth. -/
noncomputable def Try.pinned : Pinned := { name := "ytaiohhcjbdjgfaa", sum := "f9be00b2c9ecd81e675fcc93a8e71de72cc0d118f74c067578c7d673eb618015", checked := Try.checked }
namespace Rows
def none {H : Type} : Left H := { results := [], args := [] }

/-- 'foyerlaw40.MatchChecks': WHATEVER THE INPUT: true; the input reads as it did. -/
def matchChecksSpec : ChangeSpec := { name := "matchChecks", fn := fun _ => fun
  | [d1, d2, d3, d4] => { results := [.lit (.bool true)], args := [d1, d2, d3, d4] }
  | _ => none }
def matchChecksRow : OpenClaim := { program := "ytaiohhcjbdjgfaa", sum := "f9be00b2c9ecd81e675fcc93a8e71de72cc0d118f74c067578c7d673eb618015", func := "foyer/foyerlaw40.MatchChecks", spec := "matchChecks", unfollowed := true, recurses := true, apart := false }
def MatchChecksSaid : Prop := matchChecksRow.holds Try.pinned (OpenSpec.ofChange matchChecksSpec)

/-- ITS FALSE NEIGHBOUR: 'it returns false'. Refute it at one input. -/
def matchChecksWrong : ChangeSpec := { name := "matchChecks", fn := fun _ => fun
  | [d1, d2, d3, d4] => { results := [.lit (.bool false)], args := [d1, d2, d3, d4] }
  | _ => none }
def MatchChecksWrongFalsely : Prop := matchChecksRow.holds Try.pinned (OpenSpec.ofChange matchChecksWrong)

/-- 'foyerlaw40.MatchShows': WHATEVER THE INPUT: true; the input reads as it did. -/
def matchShowsSpec : ChangeSpec := { name := "matchShows", fn := fun _ => fun
  | [d1, d2] => { results := [.lit (.bool true)], args := [d1, d2] }
  | _ => none }
def matchShowsRow : OpenClaim := { program := "ytaiohhcjbdjgfaa", sum := "f9be00b2c9ecd81e675fcc93a8e71de72cc0d118f74c067578c7d673eb618015", func := "foyer/foyerlaw40.MatchShows", spec := "matchShows", unfollowed := true, recurses := true, apart := false }
def MatchShowsSaid : Prop := matchShowsRow.holds Try.pinned (OpenSpec.ofChange matchShowsSpec)

/-- ITS FALSE NEIGHBOUR: 'it returns false'. Refute it at one input. -/
def matchShowsWrong : ChangeSpec := { name := "matchShows", fn := fun _ => fun
  | [d1, d2] => { results := [.lit (.bool false)], args := [d1, d2] }
  | _ => none }
def MatchShowsWrongFalsely : Prop := matchShowsRow.holds Try.pinned (OpenSpec.ofChange matchShowsWrong)

/-- 'foyerlaw40.MatchGreatest': WHATEVER THE INPUT: true; the input reads as it did. -/
def matchGreatestSpec : ChangeSpec := { name := "matchGreatest", fn := fun _ => fun
  | [d1, d2, d3, d4, d5, d6] => { results := [.lit (.bool true)], args := [d1, d2, d3, d4, d5, d6] }
  | _ => none }
def matchGreatestRow : OpenClaim := { program := "ytaiohhcjbdjgfaa", sum := "f9be00b2c9ecd81e675fcc93a8e71de72cc0d118f74c067578c7d673eb618015", func := "foyer/foyerlaw40.MatchGreatest", spec := "matchGreatest", unfollowed := true, recurses := true, apart := false }
def MatchGreatestSaid : Prop := matchGreatestRow.holds Try.pinned (OpenSpec.ofChange matchGreatestSpec)

/-- ITS FALSE NEIGHBOUR: 'it returns false'. Refute it at one input. -/
def matchGreatestWrong : ChangeSpec := { name := "matchGreatest", fn := fun _ => fun
  | [d1, d2, d3, d4, d5, d6] => { results := [.lit (.bool false)], args := [d1, d2, d3, d4, d5, d6] }
  | _ => none }
def MatchGreatestWrongFalsely : Prop := matchGreatestRow.holds Try.pinned (OpenSpec.ofChange matchGreatestWrong)

/-- 'foyerlaw40.MatchBest': WHATEVER THE INPUT: true; the input reads as it did. -/
def matchBestSpec : ChangeSpec := { name := "matchBest", fn := fun _ => fun
  | [d1, d2] => { results := [.lit (.bool true)], args := [d1, d2] }
  | _ => none }
def matchBestRow : OpenClaim := { program := "ytaiohhcjbdjgfaa", sum := "f9be00b2c9ecd81e675fcc93a8e71de72cc0d118f74c067578c7d673eb618015", func := "foyer/foyerlaw40.MatchBest", spec := "matchBest", unfollowed := true, recurses := true, apart := false }
def MatchBestSaid : Prop := matchBestRow.holds Try.pinned (OpenSpec.ofChange matchBestSpec)

/-- ITS FALSE NEIGHBOUR: 'it returns false'. Refute it at one input. -/
def matchBestWrong : ChangeSpec := { name := "matchBest", fn := fun _ => fun
  | [d1, d2] => { results := [.lit (.bool false)], args := [d1, d2] }
  | _ => none }
def MatchBestWrongFalsely : Prop := matchBestRow.holds Try.pinned (OpenSpec.ofChange matchBestWrong)

/-- 'foyerlaw40.MatchHall': WHATEVER THE INPUT: true; the input reads as it did. -/
def matchHallSpec : ChangeSpec := { name := "matchHall", fn := fun _ => fun
  | [d1, d2, d3] => { results := [.lit (.bool true)], args := [d1, d2, d3] }
  | _ => none }
def matchHallRow : OpenClaim := { program := "ytaiohhcjbdjgfaa", sum := "f9be00b2c9ecd81e675fcc93a8e71de72cc0d118f74c067578c7d673eb618015", func := "foyer/foyerlaw40.MatchHall", spec := "matchHall", unfollowed := true, recurses := true, apart := false }
def MatchHallSaid : Prop := matchHallRow.holds Try.pinned (OpenSpec.ofChange matchHallSpec)

/-- ITS FALSE NEIGHBOUR: 'it returns false'. Refute it at one input. -/
def matchHallWrong : ChangeSpec := { name := "matchHall", fn := fun _ => fun
  | [d1, d2, d3] => { results := [.lit (.bool false)], args := [d1, d2, d3] }
  | _ => none }
def MatchHallWrongFalsely : Prop := matchHallRow.holds Try.pinned (OpenSpec.ofChange matchHallWrong)

/-- 'foyerlaw40.MatchFurther': WHATEVER THE INPUT: true; the input reads as it did. -/
def matchFurtherSpec : ChangeSpec := { name := "matchFurther", fn := fun _ => fun
  | [d1, d2, d3, d4] => { results := [.lit (.bool true)], args := [d1, d2, d3, d4] }
  | _ => none }
def matchFurtherRow : OpenClaim := { program := "ytaiohhcjbdjgfaa", sum := "f9be00b2c9ecd81e675fcc93a8e71de72cc0d118f74c067578c7d673eb618015", func := "foyer/foyerlaw40.MatchFurther", spec := "matchFurther", unfollowed := true, recurses := true, apart := false }
def MatchFurtherSaid : Prop := matchFurtherRow.holds Try.pinned (OpenSpec.ofChange matchFurtherSpec)

/-- ITS FALSE NEIGHBOUR: 'it returns false'. Refute it at one input. -/
def matchFurtherWrong : ChangeSpec := { name := "matchFurther", fn := fun _ => fun
  | [d1, d2, d3, d4] => { results := [.lit (.bool false)], args := [d1, d2, d3, d4] }
  | _ => none }
def MatchFurtherWrongFalsely : Prop := matchFurtherRow.holds Try.pinned (OpenSpec.ofChange matchFurtherWrong)

/-- 'foyerlaw40.MatchTurned': WHATEVER THE INPUT: true; the input reads as it did. -/
def matchTurnedSpec : ChangeSpec := { name := "matchTurned", fn := fun _ => fun
  | [d1, d2] => { results := [.lit (.bool true)], args := [d1, d2] }
  | _ => none }
def matchTurnedRow : OpenClaim := { program := "ytaiohhcjbdjgfaa", sum := "f9be00b2c9ecd81e675fcc93a8e71de72cc0d118f74c067578c7d673eb618015", func := "foyer/foyerlaw40.MatchTurned", spec := "matchTurned", unfollowed := true, recurses := true, apart := false }
def MatchTurnedSaid : Prop := matchTurnedRow.holds Try.pinned (OpenSpec.ofChange matchTurnedSpec)

/-- ITS FALSE NEIGHBOUR: 'it returns false'. Refute it at one input. -/
def matchTurnedWrong : ChangeSpec := { name := "matchTurned", fn := fun _ => fun
  | [d1, d2] => { results := [.lit (.bool false)], args := [d1, d2] }
  | _ => none }
def MatchTurnedWrongFalsely : Prop := matchTurnedRow.holds Try.pinned (OpenSpec.ofChange matchTurnedWrong)

/-- 'foyerlaw40.MatchParts': WHATEVER THE INPUT: true; the input reads as it did. -/
def matchPartsSpec : ChangeSpec := { name := "matchParts", fn := fun _ => fun
  | [d1, d2, d3, d4] => { results := [.lit (.bool true)], args := [d1, d2, d3, d4] }
  | _ => none }
def matchPartsRow : OpenClaim := { program := "ytaiohhcjbdjgfaa", sum := "f9be00b2c9ecd81e675fcc93a8e71de72cc0d118f74c067578c7d673eb618015", func := "foyer/foyerlaw40.MatchParts", spec := "matchParts", unfollowed := true, recurses := true, apart := false }
def MatchPartsSaid : Prop := matchPartsRow.holds Try.pinned (OpenSpec.ofChange matchPartsSpec)

/-- ITS FALSE NEIGHBOUR: 'it returns false'. Refute it at one input. -/
def matchPartsWrong : ChangeSpec := { name := "matchParts", fn := fun _ => fun
  | [d1, d2, d3, d4] => { results := [.lit (.bool false)], args := [d1, d2, d3, d4] }
  | _ => none }
def MatchPartsWrongFalsely : Prop := matchPartsRow.holds Try.pinned (OpenSpec.ofChange matchPartsWrong)

/- THE SECOND FORM. 'bulk': how many values and letters a reading holds, each counted each time it is reached (what is shared counts as often as it is met; a slice's spare places count too). A statement '..UptoSaid' is the law's where the arguments, and the package variables that the reading takes, are together of bulk at most 1048576: NARROWER than '..Said'. Prove '..Said' where nothing that the law and all that it calls make is longer than what came in: it says more and counts as full. Else prove '..UptoSaid'. A law counts once. -/
mutual
def uptoBulk {H : Type} : DataW H → Nat
  | .lit (.string bytes) => bytes.length + 1
  | .lit _ => 1
  | .nil => 1
  | .ptr d => uptoBulk d + 1
  | .slice elems spare => uptoBulkAll elems + uptoBulkAll spare + 1
  | .agg parts => uptoBulkAll parts + 1
  | .iface _ d => uptoBulk d + 1
  | .map entries => uptoBulkEntries entries + 1
  | .held _ => 1
def uptoBulkAll {H : Type} : List (DataW H) → Nat
  | [] => 0
  | d :: r => uptoBulk d + uptoBulkAll r
def uptoBulkEntries {H : Type} : List (Lit × DataW H) → Nat
  | [] => 0
  | x :: r => uptoBulkEntry x + uptoBulkEntries r
def uptoBulkEntry {H : Type} : Lit × DataW H → Nat
  | (.string bytes, d) => bytes.length + uptoBulk d + 1
  | (_, d) => uptoBulk d + 1
 end
def uptoSmall : (H : Type) → List (DataW H) → Bool := fun _ ds => decide (uptoBulkAll ds ≤ 1048576)
def OpenSpec.upto (s : _root_.Go.ChangeSpec) : _root_.Go.OpenSpec := { _root_.Go.OpenSpec.ofChange s with cond := some uptoSmall }

/-- 'foyerlaw40.MatchChecks', WHERE WHAT IT READS IS OF BULK AT MOST 1048576: true; the input reads as it did. -/
def matchChecksUptoRow : OpenClaim := { program := "ytaiohhcjbdjgfaa", sum := "f9be00b2c9ecd81e675fcc93a8e71de72cc0d118f74c067578c7d673eb618015", func := "foyer/foyerlaw40.MatchChecks", spec := "matchChecks", unfollowed := true, recurses := true, apart := false, narrowed := true }
def MatchChecksUptoSaid : Prop := matchChecksUptoRow.holds Try.pinned (OpenSpec.upto matchChecksSpec)

/-- 'foyerlaw40.MatchShows', WHERE WHAT IT READS IS OF BULK AT MOST 1048576: true; the input reads as it did. -/
def matchShowsUptoRow : OpenClaim := { program := "ytaiohhcjbdjgfaa", sum := "f9be00b2c9ecd81e675fcc93a8e71de72cc0d118f74c067578c7d673eb618015", func := "foyer/foyerlaw40.MatchShows", spec := "matchShows", unfollowed := true, recurses := true, apart := false, narrowed := true }
def MatchShowsUptoSaid : Prop := matchShowsUptoRow.holds Try.pinned (OpenSpec.upto matchShowsSpec)

/-- 'foyerlaw40.MatchGreatest', WHERE WHAT IT READS IS OF BULK AT MOST 1048576: true; the input reads as it did. -/
def matchGreatestUptoRow : OpenClaim := { program := "ytaiohhcjbdjgfaa", sum := "f9be00b2c9ecd81e675fcc93a8e71de72cc0d118f74c067578c7d673eb618015", func := "foyer/foyerlaw40.MatchGreatest", spec := "matchGreatest", unfollowed := true, recurses := true, apart := false, narrowed := true }
def MatchGreatestUptoSaid : Prop := matchGreatestUptoRow.holds Try.pinned (OpenSpec.upto matchGreatestSpec)

/-- 'foyerlaw40.MatchBest', WHERE WHAT IT READS IS OF BULK AT MOST 1048576: true; the input reads as it did. -/
def matchBestUptoRow : OpenClaim := { program := "ytaiohhcjbdjgfaa", sum := "f9be00b2c9ecd81e675fcc93a8e71de72cc0d118f74c067578c7d673eb618015", func := "foyer/foyerlaw40.MatchBest", spec := "matchBest", unfollowed := true, recurses := true, apart := false, narrowed := true }
def MatchBestUptoSaid : Prop := matchBestUptoRow.holds Try.pinned (OpenSpec.upto matchBestSpec)

/-- 'foyerlaw40.MatchHall', WHERE WHAT IT READS IS OF BULK AT MOST 1048576: true; the input reads as it did. -/
def matchHallUptoRow : OpenClaim := { program := "ytaiohhcjbdjgfaa", sum := "f9be00b2c9ecd81e675fcc93a8e71de72cc0d118f74c067578c7d673eb618015", func := "foyer/foyerlaw40.MatchHall", spec := "matchHall", unfollowed := true, recurses := true, apart := false, narrowed := true }
def MatchHallUptoSaid : Prop := matchHallUptoRow.holds Try.pinned (OpenSpec.upto matchHallSpec)

/-- 'foyerlaw40.MatchFurther', WHERE WHAT IT READS IS OF BULK AT MOST 1048576: true; the input reads as it did. -/
def matchFurtherUptoRow : OpenClaim := { program := "ytaiohhcjbdjgfaa", sum := "f9be00b2c9ecd81e675fcc93a8e71de72cc0d118f74c067578c7d673eb618015", func := "foyer/foyerlaw40.MatchFurther", spec := "matchFurther", unfollowed := true, recurses := true, apart := false, narrowed := true }
def MatchFurtherUptoSaid : Prop := matchFurtherUptoRow.holds Try.pinned (OpenSpec.upto matchFurtherSpec)

/-- 'foyerlaw40.MatchTurned', WHERE WHAT IT READS IS OF BULK AT MOST 1048576: true; the input reads as it did. -/
def matchTurnedUptoRow : OpenClaim := { program := "ytaiohhcjbdjgfaa", sum := "f9be00b2c9ecd81e675fcc93a8e71de72cc0d118f74c067578c7d673eb618015", func := "foyer/foyerlaw40.MatchTurned", spec := "matchTurned", unfollowed := true, recurses := true, apart := false, narrowed := true }
def MatchTurnedUptoSaid : Prop := matchTurnedUptoRow.holds Try.pinned (OpenSpec.upto matchTurnedSpec)

/-- 'foyerlaw40.MatchParts', WHERE WHAT IT READS IS OF BULK AT MOST 1048576: true; the input reads as it did. -/
def matchPartsUptoRow : OpenClaim := { program := "ytaiohhcjbdjgfaa", sum := "f9be00b2c9ecd81e675fcc93a8e71de72cc0d118f74c067578c7d673eb618015", func := "foyer/foyerlaw40.MatchParts", spec := "matchParts", unfollowed := true, recurses := true, apart := false, narrowed := true }
def MatchPartsUptoSaid : Prop := matchPartsUptoRow.holds Try.pinned (OpenSpec.upto matchPartsSpec)

end Rows
end Go.Proofs.Ytaiohhcjbdjgfaa
