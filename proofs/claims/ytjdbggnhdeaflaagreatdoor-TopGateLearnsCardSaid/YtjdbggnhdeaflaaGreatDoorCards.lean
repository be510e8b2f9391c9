/-
  DERIVED. GIVEN WITH THE SEED: THE CARDS: each row of YtjdbggnhdeaflaaGreatDoorRows.lean that lists a variable, with what it lists TIED to the program's text (the seventh form; the later family's looks); each row that meets fmt, with fmt's text TOLD by the authors' own Lean function (tested against real Go, not proved from fmt's source: count such statements apart). THE CARD IS WHAT COUNTS. Prove the row's statement (the work); the ties are given (YtjdbggnhdeaflaaGreatDoorTie.lean); close each card by the builder's one call (the guide's Derived/Test/ToyasCard.lean, 'card_holds'). Laid BY PROGRAM, IN A SANDBOX (cutbox-door.mjs). By AI agents, Wed Nov 11 2026. No macro, syntax, notation, axiom, sorry.
-/
import Derived.Test.YtjdbggnhdeaflaaGreatDoorRows
import GoSem.ClaimSeven
namespace Go.Proofs.YtjdbggnhdeaflaaGreatDoor
namespace Rows

/-- THE TIED CARD OF 'foyertop.TopGateLearns'. -/
def topGateLearnsCard : Claim7 := { stood := { row := topGateLearnsRow, standIns := [], harness := (true, "f5a249661bfc30dcfe81518bec1716f463145a2d9881e0efb2ac1e4cde44b4b9"), looks := true }, kinds := [], alts := [], laidByText := true, laidKinds := [.data, .data, .data, .data, .sentinel, .sentinel, .data, .pinned], laidTests := true, laidLooks := .later }
def TopGateLearnsCardSaid : Prop := Claim7.holds Tryz.pinned (.plain (OpenSpec.ofChange topGateLearnsSpec)) topGateLearnsCard

/-- THE SECOND FORM's CARD OF 'foyertop.TopGateLearns'. -/
def topGateLearnsUptoCard : Claim7 := { stood := { row := topGateLearnsUptoRow, standIns := [], harness := (true, "f5a249661bfc30dcfe81518bec1716f463145a2d9881e0efb2ac1e4cde44b4b9"), looks := true }, kinds := [], alts := [], laidByText := true, laidKinds := [.data, .data, .data, .data, .sentinel, .sentinel, .data, .pinned], laidTests := true, laidLooks := .later }
def TopGateLearnsUptoCardSaid : Prop := Claim7.holds Tryz.pinned (.plain (OpenSpec.upto topGateLearnsSpec)) topGateLearnsUptoCard
end Rows
end Go.Proofs.YtjdbggnhdeaflaaGreatDoor
