/-
  DERIVED. GIVEN WITH THE SEED: THE CARDS: each row of YtngocpdmlijnfaaDoorRows.lean that lists a variable, with what it lists TIED to the program's text (the seventh form; the later family's looks); each row that meets fmt, with fmt's text TOLD by the authors' own Lean function (tested against real Go, not proved from fmt's source: count such statements apart). THE CARD IS WHAT COUNTS. Prove the row's statement (the work); the ties are given (YtngocpdmlijnfaaDoorTie.lean); close each card by the builder's one call (the guide's Derived/Test/ToyasCard.lean, 'card_holds'). Laid BY PROGRAM, IN A SANDBOX (cutbox-door.mjs). By AI agents, Wed Nov 11 2026. No macro, syntax, notation, axiom, sorry.
-/
import Derived.Test.YtngocpdmlijnfaaDoorRows
import GoSem.ClaimSeven
namespace Go.Proofs.YtngocpdmlijnfaaDoor
namespace Rows

/-- THE TIED CARD OF 'foyertop.TopForks'. -/
def topForksCard : Claim7 := { stood := { row := topForksRow, standIns := [], harness := (true, "113396c7159f7dbf5bd0bd47b6b0c9433bc90ee19addbb3c49bcf3b6bc50d748"), looks := false }, kinds := [], alts := [], laidByText := true, laidKinds := [.data, .data, .data, .data, .data, .pinned], laidTests := true, laidLooks := .later }
def TopForksCardSaid : Prop := Claim7.holds Tryd.pinned (.plain (OpenSpec.ofChange topForksSpec)) topForksCard

/-- THE SECOND FORM's CARD OF 'foyertop.TopForks'. -/
def topForksUptoCard : Claim7 := { stood := { row := topForksUptoRow, standIns := [], harness := (true, "113396c7159f7dbf5bd0bd47b6b0c9433bc90ee19addbb3c49bcf3b6bc50d748"), looks := false }, kinds := [], alts := [], laidByText := true, laidKinds := [.data, .data, .data, .data, .data, .pinned], laidTests := true, laidLooks := .later }
def TopForksUptoCardSaid : Prop := Claim7.holds Tryd.pinned (.plain (OpenSpec.upto topForksSpec)) topForksUptoCard
end Rows
end Go.Proofs.YtngocpdmlijnfaaDoor
