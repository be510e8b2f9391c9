/-
  No cell of these rows narrows 'for every input' (looked for: loops, veiled, ifaces, maps, wideKeys, modest, calm, conditions, laid).
  DERIVED. THE GIVEN ROWS OF THIS SEAT. 8 by the template 'for every input the law returns true; each argument reads behind the call as it read before'; 0 by the template 'total and deterministic' (their statements: YtoghkehlmibniaaTotals.lean).
  GIVEN WITH THE SEED: the statements are not yours to turn. If you find one false, say at which input.
  Laid BY PROGRAM, IN A SANDBOX (cutbox-rows.mjs): the forced cells as the released guide's own fill.sh prints them over the translation 5f8e5c3c6e1b31d6… (all of the seat's roots in one cut). By AI agents, Wed Nov 11 2026. No macro, syntax, notation, axiom, sorry.
-/
import Derived.Test.YtoghkehlmibniaaChecked
import GoSem.Claim
import GoSem.ClaimJoined
import GoSem.ClaimMapViews
import Derived.JoinedTies
import Derived.KernelRfl
namespace Go.Proofs.Ytoghkehlmibniaa
/- THE CELL 'sum', in the pinned program and in every row, IS THE sha256 OF THE DUMP (.gsa) THAT YtoghkehlmibniaaProg.lean LOADS. Nothing in Lean hashes anything: it is a label: what it is worth is what the hold of that sum in a sandbox is worth. -/
noncomputable def Try.pinned : Pinned := { name := "ytoghkehlmibniaa", sum := "5f8e5c3c6e1b31d64bc8c35619cc30ddf70a6e6a788b8305056289e515fb9d29", checked := Try.checked }
namespace Rows
def none {H : Type} : Left H := { results := [], args := [] }

/-- 'foyerlaw35.PoolMatchesReference': WHATEVER THE INPUT: true; the input reads as it did. -/
def poolMatchesReferenceSpec : ChangeSpec := { name := "poolMatchesReference", fn := fun _ => fun
  | [d1, d2] => { results := [.lit (.bool true)], args := [d1, d2] }
  | _ => none }
def poolMatchesReferenceRow : OpenClaim := { program := "ytoghkehlmibniaa", sum := "5f8e5c3c6e1b31d64bc8c35619cc30ddf70a6e6a788b8305056289e515fb9d29", func := "foyer/foyerlaw35.PoolMatchesReference", spec := "poolMatchesReference", unfollowed := true, recurses := true, apart := false }
def PoolMatchesReferenceSaid : Prop := poolMatchesReferenceRow.holds Try.pinned (OpenSpec.ofChange poolMatchesReferenceSpec)

/-- ITS FALSE NEIGHBOUR: 'it returns false'. Refute it at one input. -/
def poolMatchesReferenceWrong : ChangeSpec := { name := "poolMatchesReference", fn := fun _ => fun
  | [d1, d2] => { results := [.lit (.bool false)], args := [d1, d2] }
  | _ => none }
def PoolMatchesReferenceWrongFalsely : Prop := poolMatchesReferenceRow.holds Try.pinned (OpenSpec.ofChange poolMatchesReferenceWrong)

/-- 'foyerlaw35.PoolMany': WHATEVER THE INPUT: true; the input reads as it did. -/
def poolManySpec : ChangeSpec := { name := "poolMany", fn := fun _ => fun
  | [d1, d2] => { results := [.lit (.bool true)], args := [d1, d2] }
  | _ => none }
def poolManyRow : OpenClaim := { program := "ytoghkehlmibniaa", sum := "5f8e5c3c6e1b31d64bc8c35619cc30ddf70a6e6a788b8305056289e515fb9d29", func := "foyer/foyerlaw35.PoolMany", spec := "poolMany", unfollowed := true, recurses := true, apart := false }
def PoolManySaid : Prop := poolManyRow.holds Try.pinned (OpenSpec.ofChange poolManySpec)

/-- ITS FALSE NEIGHBOUR: 'it returns false'. Refute it at one input. -/
def poolManyWrong : ChangeSpec := { name := "poolMany", fn := fun _ => fun
  | [d1, d2] => { results := [.lit (.bool false)], args := [d1, d2] }
  | _ => none }
def PoolManyWrongFalsely : Prop := poolManyRow.holds Try.pinned (OpenSpec.ofChange poolManyWrong)

/-- 'foyerlaw35.PoolExchanges': WHATEVER THE INPUT: true; the input reads as it did. -/
def poolExchangesSpec : ChangeSpec := { name := "poolExchanges", fn := fun _ => fun
  | [d] => { results := [.lit (.bool true)], args := [d] }
  | _ => none }
def poolExchangesRow : OpenClaim := { program := "ytoghkehlmibniaa", sum := "5f8e5c3c6e1b31d64bc8c35619cc30ddf70a6e6a788b8305056289e515fb9d29", func := "foyer/foyerlaw35.PoolExchanges", spec := "poolExchanges", unfollowed := true, recurses := true, apart := false }
def PoolExchangesSaid : Prop := poolExchangesRow.holds Try.pinned (OpenSpec.ofChange poolExchangesSpec)

/-- ITS FALSE NEIGHBOUR: 'it returns false'. Refute it at one input. -/
def poolExchangesWrong : ChangeSpec := { name := "poolExchanges", fn := fun _ => fun
  | [d] => { results := [.lit (.bool false)], args := [d] }
  | _ => none }
def PoolExchangesWrongFalsely : Prop := poolExchangesRow.holds Try.pinned (OpenSpec.ofChange poolExchangesWrong)

/-- 'foyerlaw35.PoolStable': WHATEVER THE INPUT: true; the input reads as it did. -/
def poolStableSpec : ChangeSpec := { name := "poolStable", fn := fun _ => fun
  | [d1, d2] => { results := [.lit (.bool true)], args := [d1, d2] }
  | _ => none }
def poolStableRow : OpenClaim := { program := "ytoghkehlmibniaa", sum := "5f8e5c3c6e1b31d64bc8c35619cc30ddf70a6e6a788b8305056289e515fb9d29", func := "foyer/foyerlaw35.PoolStable", spec := "poolStable", unfollowed := true, recurses := true, apart := false }
def PoolStableSaid : Prop := poolStableRow.holds Try.pinned (OpenSpec.ofChange poolStableSpec)

/-- ITS FALSE NEIGHBOUR: 'it returns false'. Refute it at one input. -/
def poolStableWrong : ChangeSpec := { name := "poolStable", fn := fun _ => fun
  | [d1, d2] => { results := [.lit (.bool false)], args := [d1, d2] }
  | _ => none }
def PoolStableWrongFalsely : Prop := poolStableRow.holds Try.pinned (OpenSpec.ofChange poolStableWrong)

/-- 'foyerlaw35.PoolCircles': WHATEVER THE INPUT: true; the input reads as it did. -/
def poolCirclesSpec : ChangeSpec := { name := "poolCircles", fn := fun _ => fun
  | [d1, d2] => { results := [.lit (.bool true)], args := [d1, d2] }
  | _ => none }
def poolCirclesRow : OpenClaim := { program := "ytoghkehlmibniaa", sum := "5f8e5c3c6e1b31d64bc8c35619cc30ddf70a6e6a788b8305056289e515fb9d29", func := "foyer/foyerlaw35.PoolCircles", spec := "poolCircles", unfollowed := true, recurses := true, apart := false }
def PoolCirclesSaid : Prop := poolCirclesRow.holds Try.pinned (OpenSpec.ofChange poolCirclesSpec)

/-- ITS FALSE NEIGHBOUR: 'it returns false'. Refute it at one input. -/
def poolCirclesWrong : ChangeSpec := { name := "poolCircles", fn := fun _ => fun
  | [d1, d2] => { results := [.lit (.bool false)], args := [d1, d2] }
  | _ => none }
def PoolCirclesWrongFalsely : Prop := poolCirclesRow.holds Try.pinned (OpenSpec.ofChange poolCirclesWrong)

/-- 'foyerlaw35.PoolHonest': WHATEVER THE INPUT: true; the input reads as it did. -/
def poolHonestSpec : ChangeSpec := { name := "poolHonest", fn := fun _ => fun
  | [d1, d2, d3] => { results := [.lit (.bool true)], args := [d1, d2, d3] }
  | _ => none }
def poolHonestRow : OpenClaim := { program := "ytoghkehlmibniaa", sum := "5f8e5c3c6e1b31d64bc8c35619cc30ddf70a6e6a788b8305056289e515fb9d29", func := "foyer/foyerlaw35.PoolHonest", spec := "poolHonest", unfollowed := true, recurses := true, apart := false }
def PoolHonestSaid : Prop := poolHonestRow.holds Try.pinned (OpenSpec.ofChange poolHonestSpec)

/-- ITS FALSE NEIGHBOUR: 'it returns false'. Refute it at one input. -/
def poolHonestWrong : ChangeSpec := { name := "poolHonest", fn := fun _ => fun
  | [d1, d2, d3] => { results := [.lit (.bool false)], args := [d1, d2, d3] }
  | _ => none }
def PoolHonestWrongFalsely : Prop := poolHonestRow.holds Try.pinned (OpenSpec.ofChange poolHonestWrong)

/-- 'foyerlaw35.PoolNumbers': WHATEVER THE INPUT: true; the input reads as it did. -/
def poolNumbersSpec : ChangeSpec := { name := "poolNumbers", fn := fun _ => fun
  | [d] => { results := [.lit (.bool true)], args := [d] }
  | _ => none }
def poolNumbersRow : OpenClaim := { program := "ytoghkehlmibniaa", sum := "5f8e5c3c6e1b31d64bc8c35619cc30ddf70a6e6a788b8305056289e515fb9d29", func := "foyer/foyerlaw35.PoolNumbers", spec := "poolNumbers", unfollowed := true, recurses := true, apart := false }
def PoolNumbersSaid : Prop := poolNumbersRow.holds Try.pinned (OpenSpec.ofChange poolNumbersSpec)

/-- ITS FALSE NEIGHBOUR: 'it returns false'. Refute it at one input. -/
def poolNumbersWrong : ChangeSpec := { name := "poolNumbers", fn := fun _ => fun
  | [d] => { results := [.lit (.bool false)], args := [d] }
  | _ => none }
def PoolNumbersWrongFalsely : Prop := poolNumbersRow.holds Try.pinned (OpenSpec.ofChange poolNumbersWrong)

/-- 'foyerlaw35.PoolKeeps': WHATEVER THE INPUT: true; the input reads as it did. -/
def poolKeepsSpec : ChangeSpec := { name := "poolKeeps", fn := fun _ => fun
  | [d] => { results := [.lit (.bool true)], args := [d] }
  | _ => none }
def poolKeepsRow : OpenClaim := { program := "ytoghkehlmibniaa", sum := "5f8e5c3c6e1b31d64bc8c35619cc30ddf70a6e6a788b8305056289e515fb9d29", func := "foyer/foyerlaw35.PoolKeeps", spec := "poolKeeps", unfollowed := true, recurses := true, apart := false }
def PoolKeepsSaid : Prop := poolKeepsRow.holds Try.pinned (OpenSpec.ofChange poolKeepsSpec)

/-- ITS FALSE NEIGHBOUR: 'it returns false'. Refute it at one input. -/
def poolKeepsWrong : ChangeSpec := { name := "poolKeeps", fn := fun _ => fun
  | [d] => { results := [.lit (.bool false)], args := [d] }
  | _ => none }
def PoolKeepsWrongFalsely : Prop := poolKeepsRow.holds Try.pinned (OpenSpec.ofChange poolKeepsWrong)

/- THE SECOND FORM. 'bulk': how many values and letters a reading holds, each counted each time it is reached (what is shared counts as often as it is met; a slice's spare places count too). A statement '..UptoSaid' is the law's where the arguments, and the package variables that the reading takes, are together of bulk at most 1048576: NARROWER than '..Said'. Prove '..Said' where nothing that the law and all that it calls make is longer than what came in: it says more and counts as full. Else prove '..UptoSaid'. A law counts once. -/
mutual
def uptoBulk {H : Type} : DataW H → Nat
  | .lit (.string bytes) => bytes.length + 1
  | .lit _ => 1
  | .nil => 1
  | .ptr d => uptoBulk d + 1
  | .slice elems spare => uptoBulkAll elems + uptoBulkAll spare + 1
  | .agg parts => uptoBulkAll parts + 1
  | .iface _ d => uptoBulk d + 1
  | .map entries => uptoBulkEntries entries + 1
  | .held _ => 1
def uptoBulkAll {H : Type} : List (DataW H) → Nat
  | [] => 0
  | d :: r => uptoBulk d + uptoBulkAll r
def uptoBulkEntries {H : Type} : List (Lit × DataW H) → Nat
  | [] => 0
  | x :: r => uptoBulkEntry x + uptoBulkEntries r
def uptoBulkEntry {H : Type} : Lit × DataW H → Nat
  | (.string bytes, d) => bytes.length + uptoBulk d + 1
  | (_, d) => uptoBulk d + 1
 end
def uptoSmall : (H : Type) → List (DataW H) → Bool := fun _ ds => decide (uptoBulkAll ds ≤ 1048576)
def OpenSpec.upto (s : _root_.Go.ChangeSpec) : _root_.Go.OpenSpec := { _root_.Go.OpenSpec.ofChange s with cond := some uptoSmall }

/-- 'foyerlaw35.PoolMatchesReference', WHERE WHAT IT READS IS OF BULK AT MOST 1048576: true; the input reads as it did. -/
def poolMatchesReferenceUptoRow : OpenClaim := { program := "ytoghkehlmibniaa", sum := "5f8e5c3c6e1b31d64bc8c35619cc30ddf70a6e6a788b8305056289e515fb9d29", func := "foyer/foyerlaw35.PoolMatchesReference", spec := "poolMatchesReference", unfollowed := true, recurses := true, apart := false, narrowed := true }
def PoolMatchesReferenceUptoSaid : Prop := poolMatchesReferenceUptoRow.holds Try.pinned (OpenSpec.upto poolMatchesReferenceSpec)

/-- 'foyerlaw35.PoolMany', WHERE WHAT IT READS IS OF BULK AT MOST 1048576: true; the input reads as it did. -/
def poolManyUptoRow : OpenClaim := { program := "ytoghkehlmibniaa", sum := "5f8e5c3c6e1b31d64bc8c35619cc30ddf70a6e6a788b8305056289e515fb9d29", func := "foyer/foyerlaw35.PoolMany", spec := "poolMany", unfollowed := true, recurses := true, apart := false, narrowed := true }
def PoolManyUptoSaid : Prop := poolManyUptoRow.holds Try.pinned (OpenSpec.upto poolManySpec)

/-- 'foyerlaw35.PoolExchanges', WHERE WHAT IT READS IS OF BULK AT MOST 1048576: true; the input reads as it did. -/
def poolExchangesUptoRow : OpenClaim := { program := "ytoghkehlmibniaa", sum := "5f8e5c3c6e1b31d64bc8c35619cc30ddf70a6e6a788b8305056289e515fb9d29", func := "foyer/foyerlaw35.PoolExchanges", spec := "poolExchanges", unfollowed := true, recurses := true, apart := false, narrowed := true }
def PoolExchangesUptoSaid : Prop := poolExchangesUptoRow.holds Try.pinned (OpenSpec.upto poolExchangesSpec)

/-- 'foyerlaw35.PoolStable', WHERE WHAT IT READS IS OF BULK AT MOST 1048576: true; the input reads as it did. -/
def poolStableUptoRow : OpenClaim := { program := "ytoghkehlmibniaa", sum := "5f8e5c3c6e1b31d64bc8c35619cc30ddf70a6e6a788b8305056289e515fb9d29", func := "foyer/foyerlaw35.PoolStable", spec := "poolStable", unfollowed := true, recurses := true, apart := false, narrowed := true }
def PoolStableUptoSaid : Prop := poolStableUptoRow.holds Try.pinned (OpenSpec.upto poolStableSpec)

/-- 'foyerlaw35.PoolCircles', WHERE WHAT IT READS IS OF BULK AT MOST 1048576: true; the input reads as it did. -/
def poolCirclesUptoRow : OpenClaim := { program := "ytoghkehlmibniaa", sum := "5f8e5c3c6e1b31d64bc8c35619cc30ddf70a6e6a788b8305056289e515fb9d29", func := "foyer/foyerlaw35.PoolCircles", spec := "poolCircles", unfollowed := true, recurses := true, apart := false, narrowed := true }
def PoolCirclesUptoSaid : Prop := poolCirclesUptoRow.holds Try.pinned (OpenSpec.upto poolCirclesSpec)

/-- 'foyerlaw35.PoolHonest', WHERE WHAT IT READS IS OF BULK AT MOST 1048576: true; the input reads as it did. -/
def poolHonestUptoRow : OpenClaim := { program := "ytoghkehlmibniaa", sum := "5f8e5c3c6e1b31d64bc8c35619cc30ddf70a6e6a788b8305056289e515fb9d29", func := "foyer/foyerlaw35.PoolHonest", spec := "poolHonest", unfollowed := true, recurses := true, apart := false, narrowed := true }
def PoolHonestUptoSaid : Prop := poolHonestUptoRow.holds Try.pinned (OpenSpec.upto poolHonestSpec)

/-- 'foyerlaw35.PoolNumbers', WHERE WHAT IT READS IS OF BULK AT MOST 1048576: true; the input reads as it did. -/
def poolNumbersUptoRow : OpenClaim := { program := "ytoghkehlmibniaa", sum := "5f8e5c3c6e1b31d64bc8c35619cc30ddf70a6e6a788b8305056289e515fb9d29", func := "foyer/foyerlaw35.PoolNumbers", spec := "poolNumbers", unfollowed := true, recurses := true, apart := false, narrowed := true }
def PoolNumbersUptoSaid : Prop := poolNumbersUptoRow.holds Try.pinned (OpenSpec.upto poolNumbersSpec)

/-- 'foyerlaw35.PoolKeeps', WHERE WHAT IT READS IS OF BULK AT MOST 1048576: true; the input reads as it did. -/
def poolKeepsUptoRow : OpenClaim := { program := "ytoghkehlmibniaa", sum := "5f8e5c3c6e1b31d64bc8c35619cc30ddf70a6e6a788b8305056289e515fb9d29", func := "foyer/foyerlaw35.PoolKeeps", spec := "poolKeeps", unfollowed := true, recurses := true, apart := false, narrowed := true }
def PoolKeepsUptoSaid : Prop := poolKeepsUptoRow.holds Try.pinned (OpenSpec.upto poolKeepsSpec)

end Rows
end Go.Proofs.Ytoghkehlmibniaa
