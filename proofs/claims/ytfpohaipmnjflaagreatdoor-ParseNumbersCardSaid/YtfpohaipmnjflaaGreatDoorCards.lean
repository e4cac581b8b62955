/-
  DERIVED. GIVEN WITH THE SEED: THE CARDS: each row of YtfpohaipmnjflaaGreatDoorRows.lean that lists a variable, with what it lists TIED to the program's text (the seventh form; the later family's looks); each row that meets fmt, with fmt's text TOLD by the authors' own Lean function (tested against real Go, not proved from fmt's source: count such statements apart). THE CARD IS WHAT COUNTS. Prove the row's statement (the work); the ties are given (YtfpohaipmnjflaaGreatDoorTie.lean); close each card by the builder's one call (the guide's Derived/Test/ToyasCard.lean, 'card_holds'). Laid BY PROGRAM, IN A SANDBOX (cutbox-door.mjs). By AI agents, Wed Nov 11 2026. No macro, syntax, notation, axiom, sorry.
-/
import Derived.Test.YtfpohaipmnjflaaGreatDoorRows
import GoSem.ClaimSeven
namespace Go.Proofs.YtfpohaipmnjflaaGreatDoor
namespace Rows

/-- THE TIED CARD OF 'ropewalklaw05.NodeNumbers'. -/
def nodeNumbersCard : Claim7 := { stood := { row := nodeNumbersRow, standIns := [], harness := (true, "fae8dcd7b2ae49c4ef2e159d3f505c7b3634a0dd31c389107be57b1579ba9b97"), looks := false }, kinds := [], alts := [], laidByText := true, laidKinds := [.sentinel, .listed, .data], laidTests := true, laidLooks := .later }
def NodeNumbersCardSaid : Prop := Claim7.holds Tryz.pinned (.plain (OpenSpec.ofChange nodeNumbersSpec)) nodeNumbersCard

/-- THE TIED CARD OF 'ropewalklaw06.ParseNumbers'. -/
def parseNumbersCard : Claim7 := { stood := { row := parseNumbersRow, standIns := [], harness := (true, "fae8dcd7b2ae49c4ef2e159d3f505c7b3634a0dd31c389107be57b1579ba9b97"), looks := false }, kinds := [], alts := [], laidByText := true, laidKinds := [.data, .sentinel, .listed, .data, .pinned], laidTests := true, laidLooks := .later }
def ParseNumbersCardSaid : Prop := Claim7.holds Tryz.pinned (.plain (OpenSpec.ofChange parseNumbersSpec)) parseNumbersCard

/-- THE SECOND FORM's CARD OF 'ropewalklaw05.NodeNumbers'. -/
def nodeNumbersUptoCard : Claim7 := { stood := { row := nodeNumbersUptoRow, standIns := [], harness := (true, "fae8dcd7b2ae49c4ef2e159d3f505c7b3634a0dd31c389107be57b1579ba9b97"), looks := false }, kinds := [], alts := [], laidByText := true, laidKinds := [.sentinel, .listed, .data], laidTests := true, laidLooks := .later }
def NodeNumbersUptoCardSaid : Prop := Claim7.holds Tryz.pinned (.plain (OpenSpec.upto nodeNumbersSpec)) nodeNumbersUptoCard

/-- THE SECOND FORM's CARD OF 'ropewalklaw06.ParseNumbers'. -/
def parseNumbersUptoCard : Claim7 := { stood := { row := parseNumbersUptoRow, standIns := [], harness := (true, "fae8dcd7b2ae49c4ef2e159d3f505c7b3634a0dd31c389107be57b1579ba9b97"), looks := false }, kinds := [], alts := [], laidByText := true, laidKinds := [.data, .sentinel, .listed, .data, .pinned], laidTests := true, laidLooks := .later }
def ParseNumbersUptoCardSaid : Prop := Claim7.holds Tryz.pinned (.plain (OpenSpec.upto parseNumbersSpec)) parseNumbersUptoCard
end Rows
end Go.Proofs.YtfpohaipmnjflaaGreatDoor
