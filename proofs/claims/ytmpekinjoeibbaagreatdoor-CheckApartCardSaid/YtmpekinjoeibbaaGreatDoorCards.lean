/-
  DERIVED. GIVEN WITH THE SEED: THE CARDS: each row of YtmpekinjoeibbaaGreatDoorRows.lean that lists a variable, with what it lists TIED to the program's text (the seventh form; the later family's looks); each row that meets fmt, with fmt's text TOLD by the authors' own Lean function (tested against real Go, not proved from fmt's source: count such statements apart). THE CARD IS WHAT COUNTS. Prove the row's statement (the work); the ties are given (YtmpekinjoeibbaaGreatDoorTie.lean); close each card by the builder's one call (the guide's Derived/Test/ToyasCard.lean, 'card_holds'). Laid BY PROGRAM, IN A SANDBOX (cutbox-door.mjs). By AI agents, Wed Nov 11 2026. No macro, syntax, notation, axiom, sorry.
-/
import Derived.Test.YtmpekinjoeibbaaGreatDoorRows
import GoSem.ClaimSeven
namespace Go.Proofs.YtmpekinjoeibbaaGreatDoor
namespace Rows

/-- THE TIED CARD OF 'ropewalklaw08.CheckApart'. -/
def checkApartCard : Claim7 := { stood := { row := checkApartRow, standIns := [], harness := (true, "294d1af95b90e401b7cf99ea205841834856e096d9c30b868b42d6fc1db37d56"), looks := true }, kinds := [], alts := [], laidByText := true, laidKinds := [.data, .sentinel, .listed, .data, .pinned], laidTests := true, laidLooks := .later }
def CheckApartCardSaid : Prop := Claim7.holds Tryz.pinned (.plain (OpenSpec.ofChange checkApartSpec)) checkApartCard

/-- THE SECOND FORM's CARD OF 'ropewalklaw08.CheckApart'. -/
def checkApartUptoCard : Claim7 := { stood := { row := checkApartUptoRow, standIns := [], harness := (true, "294d1af95b90e401b7cf99ea205841834856e096d9c30b868b42d6fc1db37d56"), looks := true }, kinds := [], alts := [], laidByText := true, laidKinds := [.data, .sentinel, .listed, .data, .pinned], laidTests := true, laidLooks := .later }
def CheckApartUptoCardSaid : Prop := Claim7.holds Tryz.pinned (.plain (OpenSpec.upto checkApartSpec)) checkApartUptoCard
end Rows
end Go.Proofs.YtmpekinjoeibbaaGreatDoor
