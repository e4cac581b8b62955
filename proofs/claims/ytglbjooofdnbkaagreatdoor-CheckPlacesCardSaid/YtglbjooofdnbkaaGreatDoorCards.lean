/-
  DERIVED. GIVEN WITH THE SEED: THE CARDS: each row of YtglbjooofdnbkaaGreatDoorRows.lean that lists a variable, with what it lists TIED to the program's text (the seventh form; the later family's looks); each row that meets fmt, with fmt's text TOLD by the authors' own Lean function (tested against real Go, not proved from fmt's source: count such statements apart). THE CARD IS WHAT COUNTS. Prove the row's statement (the work); the ties are given (YtglbjooofdnbkaaGreatDoorTie.lean); close each card by the builder's one call (the guide's Derived/Test/ToyasCard.lean, 'card_holds'). Laid BY PROGRAM, IN A SANDBOX (cutbox-door.mjs). By AI agents, Wed Nov 11 2026. No macro, syntax, notation, axiom, sorry.
-/
import Derived.Test.YtglbjooofdnbkaaGreatDoorRows
import GoSem.ClaimSeven
namespace Go.Proofs.YtglbjooofdnbkaaGreatDoor
namespace Rows

/-- THE TIED CARD OF 'ropewalklaw08.CheckPlaces'. -/
def checkPlacesCard : Claim7 := { stood := { row := checkPlacesRow, standIns := [], harness := (true, "640606b665a4220f17bbb563d6b8487153beedd2951cf72bcb405bdc69b76ea0"), looks := true }, kinds := [], alts := [], laidByText := true, laidKinds := [.data, .sentinel, .listed, .data, .pinned], laidTests := true, laidLooks := .later }
def CheckPlacesCardSaid : Prop := Claim7.holds Tryz.pinned (.plain (OpenSpec.ofChange checkPlacesSpec)) checkPlacesCard

/-- THE SECOND FORM's CARD OF 'ropewalklaw08.CheckPlaces'. -/
def checkPlacesUptoCard : Claim7 := { stood := { row := checkPlacesUptoRow, standIns := [], harness := (true, "640606b665a4220f17bbb563d6b8487153beedd2951cf72bcb405bdc69b76ea0"), looks := true }, kinds := [], alts := [], laidByText := true, laidKinds := [.data, .sentinel, .listed, .data, .pinned], laidTests := true, laidLooks := .later }
def CheckPlacesUptoCardSaid : Prop := Claim7.holds Tryz.pinned (.plain (OpenSpec.upto checkPlacesSpec)) checkPlacesUptoCard
end Rows
end Go.Proofs.YtglbjooofdnbkaaGreatDoor
