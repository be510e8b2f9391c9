/-
  No cell of these rows narrows 'for every input' (looked for: loops, veiled, ifaces, maps, wideKeys, modest, calm, conditions, laid).
  DERIVED. THE GIVEN ROWS OF THIS SEAT. 4 by the template 'for every input the law returns true; each argument reads behind the call as it read before'; 0 by the template 'total and deterministic' (their statements: YtnnendajegdnhaaTotals.lean).
  GIVEN WITH THE SEED: the statements are not yours to turn. If you find one false, say at which input.
  Laid BY PROGRAM, IN A SANDBOX (cutbox-rows.mjs): the forced cells as the released guide's own fill.sh prints them over the translation 7645892759bf033b… (all of the seat's roots in one cut). By AI agents, Wed Nov 11 2026. No macro, syntax, notation, axiom, sorry.
-/
import Derived.Test.YtnnendajegdnhaaChecked
import GoSem.Claim
import GoSem.ClaimJoined
import GoSem.ClaimMapViews
import Derived.JoinedTies
import Derived.KernelRfl
namespace Go.Proofs.Ytnnendajegdnhaa
/- THE CELL 'sum', in the pinned program and in every row, IS THE sha256 OF THE DUMP (.gsa) THAT YtnnendajegdnhaaProg.lean LOADS. Nothing in Lean hashes anything: it is a label: what it is worth is what the hold of that sum in a sandbox is worth. -/
noncomputable def Try.pinned : Pinned := { name := "ytnnendajegdnhaa", sum := "7645892759bf033bcfbc658a33b48cc61fda7e1d61d4fb1e44b5413e9adf8550", checked := Try.checked }
namespace Rows
def none {H : Type} : Left H := { results := [], args := [] }

/-- 'foyerlaw42.TwinMatchesReference': WHATEVER THE INPUT: true; the input reads as it did. -/
def twinMatchesReferenceSpec : ChangeSpec := { name := "twinMatchesReference", fn := fun _ => fun
  | [d1, d2, d3, d4, d5] => { results := [.lit (.bool true)], args := [d1, d2, d3, d4, d5] }
  | _ => none }
def twinMatchesReferenceRow : OpenClaim := { program := "ytnnendajegdnhaa", sum := "7645892759bf033bcfbc658a33b48cc61fda7e1d61d4fb1e44b5413e9adf8550", func := "foyer/foyerlaw42.TwinMatchesReference", spec := "twinMatchesReference", unfollowed := true, recurses := true, plainKeys := false, apart := false }
def TwinMatchesReferenceSaid : Prop := twinMatchesReferenceRow.holds Try.pinned (OpenSpec.ofChange twinMatchesReferenceSpec)

/-- ITS FALSE NEIGHBOUR: 'it returns false'. Refute it at one input. -/
def twinMatchesReferenceWrong : ChangeSpec := { name := "twinMatchesReference", fn := fun _ => fun
  | [d1, d2, d3, d4, d5] => { results := [.lit (.bool false)], args := [d1, d2, d3, d4, d5] }
  | _ => none }
def TwinMatchesReferenceWrongFalsely : Prop := twinMatchesReferenceRow.holds Try.pinned (OpenSpec.ofChange twinMatchesReferenceWrong)

/-- 'foyerlaw42.TwinPermits': WHATEVER THE INPUT: true; the input reads as it did. -/
def twinPermitsSpec : ChangeSpec := { name := "twinPermits", fn := fun _ => fun
  | [d1, d2, d3, d4, d5, d6] => { results := [.lit (.bool true)], args := [d1, d2, d3, d4, d5, d6] }
  | _ => none }
def twinPermitsRow : OpenClaim := { program := "ytnnendajegdnhaa", sum := "7645892759bf033bcfbc658a33b48cc61fda7e1d61d4fb1e44b5413e9adf8550", func := "foyer/foyerlaw42.TwinPermits", spec := "twinPermits", unfollowed := true, recurses := true, plainKeys := false, apart := false }
def TwinPermitsSaid : Prop := twinPermitsRow.holds Try.pinned (OpenSpec.ofChange twinPermitsSpec)

/-- ITS FALSE NEIGHBOUR: 'it returns false'. Refute it at one input. -/
def twinPermitsWrong : ChangeSpec := { name := "twinPermits", fn := fun _ => fun
  | [d1, d2, d3, d4, d5, d6] => { results := [.lit (.bool false)], args := [d1, d2, d3, d4, d5, d6] }
  | _ => none }
def TwinPermitsWrongFalsely : Prop := twinPermitsRow.holds Try.pinned (OpenSpec.ofChange twinPermitsWrong)

/-- 'foyerlaw42.TwinDrops': WHATEVER THE INPUT: true; the input reads as it did. -/
def twinDropsSpec : ChangeSpec := { name := "twinDrops", fn := fun _ => fun
  | [d1, d2, d3, d4, d5] => { results := [.lit (.bool true)], args := [d1, d2, d3, d4, d5] }
  | _ => none }
def twinDropsRow : OpenClaim := { program := "ytnnendajegdnhaa", sum := "7645892759bf033bcfbc658a33b48cc61fda7e1d61d4fb1e44b5413e9adf8550", func := "foyer/foyerlaw42.TwinDrops", spec := "twinDrops", unfollowed := true, recurses := true, plainKeys := false, apart := false }
def TwinDropsSaid : Prop := twinDropsRow.holds Try.pinned (OpenSpec.ofChange twinDropsSpec)

/-- ITS FALSE NEIGHBOUR: 'it returns false'. Refute it at one input. -/
def twinDropsWrong : ChangeSpec := { name := "twinDrops", fn := fun _ => fun
  | [d1, d2, d3, d4, d5] => { results := [.lit (.bool false)], args := [d1, d2, d3, d4, d5] }
  | _ => none }
def TwinDropsWrongFalsely : Prop := twinDropsRow.holds Try.pinned (OpenSpec.ofChange twinDropsWrong)

/-- 'foyerlaw42.TwinOrder': WHATEVER THE INPUT: true; the input reads as it did. -/
def twinOrderSpec : ChangeSpec := { name := "twinOrder", fn := fun _ => fun
  | [d1, d2, d3, d4, d5] => { results := [.lit (.bool true)], args := [d1, d2, d3, d4, d5] }
  | _ => none }
def twinOrderRow : OpenClaim := { program := "ytnnendajegdnhaa", sum := "7645892759bf033bcfbc658a33b48cc61fda7e1d61d4fb1e44b5413e9adf8550", func := "foyer/foyerlaw42.TwinOrder", spec := "twinOrder", unfollowed := true, recurses := true, plainKeys := false, apart := false }
def TwinOrderSaid : Prop := twinOrderRow.holds Try.pinned (OpenSpec.ofChange twinOrderSpec)

/-- ITS FALSE NEIGHBOUR: 'it returns false'. Refute it at one input. -/
def twinOrderWrong : ChangeSpec := { name := "twinOrder", fn := fun _ => fun
  | [d1, d2, d3, d4, d5] => { results := [.lit (.bool false)], args := [d1, d2, d3, d4, d5] }
  | _ => none }
def TwinOrderWrongFalsely : Prop := twinOrderRow.holds Try.pinned (OpenSpec.ofChange twinOrderWrong)

/- THE SECOND FORM. 'bulk': how many values and letters a reading holds, each counted each time it is reached (what is shared counts as often as it is met; a slice's spare places count too). A statement '..UptoSaid' is the law's where the arguments, and the package variables that the reading takes, are together of bulk at most 1048576: NARROWER than '..Said'. Prove '..Said' where nothing that the law and all that it calls make is longer than what came in: it says more and counts as full. Else prove '..UptoSaid'. A law counts once. -/
mutual
def uptoBulk {H : Type} : DataW H → Nat
  | .lit (.string bytes) => bytes.length + 1
  | .lit _ => 1
  | .nil => 1
  | .ptr d => uptoBulk d + 1
  | .slice elems spare => uptoBulkAll elems + uptoBulkAll spare + 1
  | .agg parts => uptoBulkAll parts + 1
  | .iface _ d => uptoBulk d + 1
  | .map entries => uptoBulkEntries entries + 1
  | .held _ => 1
def uptoBulkAll {H : Type} : List (DataW H) → Nat
  | [] => 0
  | d :: r => uptoBulk d + uptoBulkAll r
def uptoBulkEntries {H : Type} : List (Lit × DataW H) → Nat
  | [] => 0
  | x :: r => uptoBulkEntry x + uptoBulkEntries r
def uptoBulkEntry {H : Type} : Lit × DataW H → Nat
  | (.string bytes, d) => bytes.length + uptoBulk d + 1
  | (_, d) => uptoBulk d + 1
 end
def uptoSmall : (H : Type) → List (DataW H) → Bool := fun _ ds => decide (uptoBulkAll ds ≤ 1048576)
def OpenSpec.upto (s : _root_.Go.ChangeSpec) : _root_.Go.OpenSpec := { _root_.Go.OpenSpec.ofChange s with cond := some uptoSmall }

/-- 'foyerlaw42.TwinMatchesReference', WHERE WHAT IT READS IS OF BULK AT MOST 1048576: true; the input reads as it did. -/
def twinMatchesReferenceUptoRow : OpenClaim := { program := "ytnnendajegdnhaa", sum := "7645892759bf033bcfbc658a33b48cc61fda7e1d61d4fb1e44b5413e9adf8550", func := "foyer/foyerlaw42.TwinMatchesReference", spec := "twinMatchesReference", unfollowed := true, recurses := true, plainKeys := false, apart := false, narrowed := true }
def TwinMatchesReferenceUptoSaid : Prop := twinMatchesReferenceUptoRow.holds Try.pinned (OpenSpec.upto twinMatchesReferenceSpec)

/-- 'foyerlaw42.TwinPermits', WHERE WHAT IT READS IS OF BULK AT MOST 1048576: true; the input reads as it did. -/
def twinPermitsUptoRow : OpenClaim := { program := "ytnnendajegdnhaa", sum := "7645892759bf033bcfbc658a33b48cc61fda7e1d61d4fb1e44b5413e9adf8550", func := "foyer/foyerlaw42.TwinPermits", spec := "twinPermits", unfollowed := true, recurses := true, plainKeys := false, apart := false, narrowed := true }
def TwinPermitsUptoSaid : Prop := twinPermitsUptoRow.holds Try.pinned (OpenSpec.upto twinPermitsSpec)

/-- 'foyerlaw42.TwinDrops', WHERE WHAT IT READS IS OF BULK AT MOST 1048576: true; the input reads as it did. -/
def twinDropsUptoRow : OpenClaim := { program := "ytnnendajegdnhaa", sum := "7645892759bf033bcfbc658a33b48cc61fda7e1d61d4fb1e44b5413e9adf8550", func := "foyer/foyerlaw42.TwinDrops", spec := "twinDrops", unfollowed := true, recurses := true, plainKeys := false, apart := false, narrowed := true }
def TwinDropsUptoSaid : Prop := twinDropsUptoRow.holds Try.pinned (OpenSpec.upto twinDropsSpec)

/-- 'foyerlaw42.TwinOrder', WHERE WHAT IT READS IS OF BULK AT MOST 1048576: true; the input reads as it did. -/
def twinOrderUptoRow : OpenClaim := { program := "ytnnendajegdnhaa", sum := "7645892759bf033bcfbc658a33b48cc61fda7e1d61d4fb1e44b5413e9adf8550", func := "foyer/foyerlaw42.TwinOrder", spec := "twinOrder", unfollowed := true, recurses := true, plainKeys := false, apart := false, narrowed := true }
def TwinOrderUptoSaid : Prop := twinOrderUptoRow.holds Try.pinned (OpenSpec.upto twinOrderSpec)

end Rows
end Go.Proofs.Ytnnendajegdnhaa
