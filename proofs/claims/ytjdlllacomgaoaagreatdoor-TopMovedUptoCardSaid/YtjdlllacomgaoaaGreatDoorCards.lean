/-
  DERIVED. GIVEN WITH THE SEED: THE CARDS: each row of YtjdlllacomgaoaaGreatDoorRows.lean that lists a variable, with what it lists TIED to the program's text (the seventh form; the later family's looks); each row that meets fmt, with fmt's text TOLD by the authors' own Lean function (tested against real Go, not proved from fmt's source: count such statements apart). THE CARD IS WHAT COUNTS. Prove the row's statement (the work); the ties are given (YtjdlllacomgaoaaGreatDoorTie.lean); close each card by the builder's one call (the guide's Derived/Test/ToyasCard.lean, 'card_holds'). Laid BY PROGRAM, IN A SANDBOX (cutbox-door.mjs). By AI agents, Wed Nov 11 2026. No macro, syntax, notation, axiom, sorry.
-/
import Derived.Test.YtjdlllacomgaoaaGreatDoorRows
import GoSem.ClaimSeven
namespace Go.Proofs.YtjdlllacomgaoaaGreatDoor
namespace Rows

/-- THE TIED CARD OF 'foyertop.TopStanding'. -/
def topStandingCard : Claim7 := { stood := { row := topStandingRow, standIns := [], harness := (true, "e80afda66c3fc4da4f13d01e96f8fd2ad758fc79e3c5c440565c351ddd1775ce"), looks := true }, kinds := [], alts := [], laidByText := true, laidKinds := [.data, .data, .data, .sentinel, .sentinel], laidTests := true, laidLooks := .later }
def TopStandingCardSaid : Prop := Claim7.holds Tryz.pinned (.plain (OpenSpec.ofChange topStandingSpec)) topStandingCard

/-- THE TIED CARD OF 'foyertop.TopMoved'. -/
def topMovedCard : Claim7 := { stood := { row := topMovedRow, standIns := [], harness := (true, "e80afda66c3fc4da4f13d01e96f8fd2ad758fc79e3c5c440565c351ddd1775ce"), looks := true }, kinds := [], alts := [], laidByText := true, laidKinds := [.data, .data, .data, .sentinel, .sentinel], laidTests := true, laidLooks := .later }
def TopMovedCardSaid : Prop := Claim7.holds Tryz.pinned (.plain (OpenSpec.ofChange topMovedSpec)) topMovedCard

/-- THE SECOND FORM's CARD OF 'foyertop.TopStanding'. -/
def topStandingUptoCard : Claim7 := { stood := { row := topStandingUptoRow, standIns := [], harness := (true, "e80afda66c3fc4da4f13d01e96f8fd2ad758fc79e3c5c440565c351ddd1775ce"), looks := true }, kinds := [], alts := [], laidByText := true, laidKinds := [.data, .data, .data, .sentinel, .sentinel], laidTests := true, laidLooks := .later }
def TopStandingUptoCardSaid : Prop := Claim7.holds Tryz.pinned (.plain (OpenSpec.upto topStandingSpec)) topStandingUptoCard

/-- THE SECOND FORM's CARD OF 'foyertop.TopMoved'. -/
def topMovedUptoCard : Claim7 := { stood := { row := topMovedUptoRow, standIns := [], harness := (true, "e80afda66c3fc4da4f13d01e96f8fd2ad758fc79e3c5c440565c351ddd1775ce"), looks := true }, kinds := [], alts := [], laidByText := true, laidKinds := [.data, .data, .data, .sentinel, .sentinel], laidTests := true, laidLooks := .later }
def TopMovedUptoCardSaid : Prop := Claim7.holds Tryz.pinned (.plain (OpenSpec.upto topMovedSpec)) topMovedUptoCard
end Rows
end Go.Proofs.YtjdlllacomgaoaaGreatDoor
