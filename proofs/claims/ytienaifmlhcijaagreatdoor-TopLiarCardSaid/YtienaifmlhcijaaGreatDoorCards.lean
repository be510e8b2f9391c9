/-
  DERIVED. GIVEN WITH THE SEED: THE CARDS: each row of YtienaifmlhcijaaGreatDoorRows.lean that lists a variable, with what it lists TIED to the program's text (the seventh form; the later family's looks); each row that meets fmt, with fmt's text TOLD by the authors' own Lean function (tested against real Go, not proved from fmt's source: count such statements apart). THE CARD IS WHAT COUNTS. Prove the row's statement (the work); the ties are given (YtienaifmlhcijaaGreatDoorTie.lean); close each card by the builder's one call (the guide's Derived/Test/ToyasCard.lean, 'card_holds'). Laid BY PROGRAM, IN A SANDBOX (cutbox-door.mjs). By AI agents, Wed Nov 11 2026. No macro, syntax, notation, axiom, sorry.
-/
import Derived.Test.YtienaifmlhcijaaGreatDoorRows
import GoSem.ClaimSeven
namespace Go.Proofs.YtienaifmlhcijaaGreatDoor
namespace Rows

/-- THE TIED CARD OF 'foyertop.TopStaleness'. -/
def topStalenessCard : Claim7 := { stood := { row := topStalenessRow, standIns := [], harness := (true, "36225134683106ea05b2ffd9f0755730baf3969bfa02c1344b66237d0bc2af68"), looks := true }, kinds := [], alts := [], laidByText := true, laidKinds := [.data, .data, .data, .data, .sentinel, .sentinel, .data, .pinned], laidTests := true, laidLooks := .later }
def TopStalenessCardSaid : Prop := Claim7.holds Tryz.pinned (.plain (OpenSpec.ofChange topStalenessSpec)) topStalenessCard

/-- THE TIED CARD OF 'foyertop.TopBlamed'. -/
def topBlamedCard : Claim7 := { stood := { row := topBlamedRow, standIns := [], harness := (true, "36225134683106ea05b2ffd9f0755730baf3969bfa02c1344b66237d0bc2af68"), looks := true }, kinds := [], alts := [], laidByText := true, laidKinds := [.data, .data, .data, .data, .sentinel, .sentinel, .data, .pinned], laidTests := true, laidLooks := .later }
def TopBlamedCardSaid : Prop := Claim7.holds Tryz.pinned (.plain (OpenSpec.ofChange topBlamedSpec)) topBlamedCard

/-- THE TIED CARD OF 'foyertop.TopLiar'. -/
def topLiarCard : Claim7 := { stood := { row := topLiarRow, standIns := [], harness := (true, "36225134683106ea05b2ffd9f0755730baf3969bfa02c1344b66237d0bc2af68"), looks := true }, kinds := [], alts := [], laidByText := true, laidKinds := [.data, .data, .data, .data, .sentinel, .sentinel, .data, .pinned], laidTests := true, laidLooks := .later }
def TopLiarCardSaid : Prop := Claim7.holds Tryz.pinned (.plain (OpenSpec.ofChange topLiarSpec)) topLiarCard

/-- THE SECOND FORM's CARD OF 'foyertop.TopStaleness'. -/
def topStalenessUptoCard : Claim7 := { stood := { row := topStalenessUptoRow, standIns := [], harness := (true, "36225134683106ea05b2ffd9f0755730baf3969bfa02c1344b66237d0bc2af68"), looks := true }, kinds := [], alts := [], laidByText := true, laidKinds := [.data, .data, .data, .data, .sentinel, .sentinel, .data, .pinned], laidTests := true, laidLooks := .later }
def TopStalenessUptoCardSaid : Prop := Claim7.holds Tryz.pinned (.plain (OpenSpec.upto topStalenessSpec)) topStalenessUptoCard

/-- THE SECOND FORM's CARD OF 'foyertop.TopBlamed'. -/
def topBlamedUptoCard : Claim7 := { stood := { row := topBlamedUptoRow, standIns := [], harness := (true, "36225134683106ea05b2ffd9f0755730baf3969bfa02c1344b66237d0bc2af68"), looks := true }, kinds := [], alts := [], laidByText := true, laidKinds := [.data, .data, .data, .data, .sentinel, .sentinel, .data, .pinned], laidTests := true, laidLooks := .later }
def TopBlamedUptoCardSaid : Prop := Claim7.holds Tryz.pinned (.plain (OpenSpec.upto topBlamedSpec)) topBlamedUptoCard

/-- THE SECOND FORM's CARD OF 'foyertop.TopLiar'. -/
def topLiarUptoCard : Claim7 := { stood := { row := topLiarUptoRow, standIns := [], harness := (true, "36225134683106ea05b2ffd9f0755730baf3969bfa02c1344b66237d0bc2af68"), looks := true }, kinds := [], alts := [], laidByText := true, laidKinds := [.data, .data, .data, .data, .sentinel, .sentinel, .data, .pinned], laidTests := true, laidLooks := .later }
def TopLiarUptoCardSaid : Prop := Claim7.holds Tryz.pinned (.plain (OpenSpec.upto topLiarSpec)) topLiarUptoCard
end Rows
end Go.Proofs.YtienaifmlhcijaaGreatDoor
