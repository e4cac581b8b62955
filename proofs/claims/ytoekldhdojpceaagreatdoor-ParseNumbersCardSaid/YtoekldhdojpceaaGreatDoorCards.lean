/-
  DERIVED. GIVEN WITH THE SEED: THE CARDS: each row of YtoekldhdojpceaaGreatDoorRows.lean that lists a variable, with what it lists TIED to the program's text (the seventh form; the later family's looks); each row that meets fmt, with fmt's text TOLD by the authors' own Lean function (tested against real Go, not proved from fmt's source: count such statements apart). THE CARD IS WHAT COUNTS. Prove the row's statement (the work); the ties are given (YtoekldhdojpceaaGreatDoorTie.lean); close each card by the builder's one call (the guide's Derived/Test/ToyasCard.lean, 'card_holds'). Laid BY PROGRAM, IN A SANDBOX (cutbox-door.mjs). By AI agents, Wed Nov 11 2026. No macro, syntax, notation, axiom, sorry.
-/
import Derived.Test.YtoekldhdojpceaaGreatDoorRows
import GoSem.ClaimSeven
namespace Go.Proofs.YtoekldhdojpceaaGreatDoor
namespace Rows

/-- THE TIED CARD OF 'ropewalklaw05.NodeNumbers'. -/
def nodeNumbersCard : Claim7 := { stood := { row := nodeNumbersRow, standIns := [], harness := (true, "55c71a64bfbdeddb550242faa1b6f2e04606838e2b0e20c1bd18c2579cbd0061"), looks := false }, kinds := [], alts := [], laidByText := true, laidKinds := [.sentinel, .listed, .data], laidTests := true, laidLooks := .later }
def NodeNumbersCardSaid : Prop := Claim7.holds Tryz.pinned (.plain (OpenSpec.ofChange nodeNumbersSpec)) nodeNumbersCard

/-- THE TIED CARD OF 'ropewalklaw06.ParseTells'. -/
def parseTellsCard : Claim7 := { stood := { row := parseTellsRow, standIns := [], harness := (true, "55c71a64bfbdeddb550242faa1b6f2e04606838e2b0e20c1bd18c2579cbd0061"), looks := false }, kinds := [], alts := [], laidByText := true, laidKinds := [.sentinel, .listed, .data], laidTests := true, laidLooks := .later }
def ParseTellsCardSaid : Prop := Claim7.holds Tryz.pinned (.plain (OpenSpec.ofChange parseTellsSpec)) parseTellsCard

/-- THE TIED CARD OF 'ropewalklaw07.ShowNumbers'. -/
def showNumbersCard : Claim7 := { stood := { row := showNumbersRow, standIns := [], harness := (true, "55c71a64bfbdeddb550242faa1b6f2e04606838e2b0e20c1bd18c2579cbd0061"), looks := false }, kinds := [], alts := [], laidByText := true, laidKinds := [.data, .data, .data, .sentinel, .listed, .data], laidTests := true, laidLooks := .later }
def ShowNumbersCardSaid : Prop := Claim7.holds Tryz.pinned (.plain (OpenSpec.ofChange showNumbersSpec)) showNumbersCard

/-- THE TIED CARD OF 'ropewalklaw06.ParseNumbers'. -/
def parseNumbersCard : Claim7 := { stood := { row := parseNumbersRow, standIns := [], harness := (true, "55c71a64bfbdeddb550242faa1b6f2e04606838e2b0e20c1bd18c2579cbd0061"), looks := false }, kinds := [], alts := [], laidByText := true, laidKinds := [.data, .sentinel, .listed, .data, .pinned], laidTests := true, laidLooks := .later }
def ParseNumbersCardSaid : Prop := Claim7.holds Tryz.pinned (.plain (OpenSpec.ofChange parseNumbersSpec)) parseNumbersCard

/-- THE SECOND FORM's CARD OF 'ropewalklaw05.NodeNumbers'. -/
def nodeNumbersUptoCard : Claim7 := { stood := { row := nodeNumbersUptoRow, standIns := [], harness := (true, "55c71a64bfbdeddb550242faa1b6f2e04606838e2b0e20c1bd18c2579cbd0061"), looks := false }, kinds := [], alts := [], laidByText := true, laidKinds := [.sentinel, .listed, .data], laidTests := true, laidLooks := .later }
def NodeNumbersUptoCardSaid : Prop := Claim7.holds Tryz.pinned (.plain (OpenSpec.upto nodeNumbersSpec)) nodeNumbersUptoCard

/-- THE SECOND FORM's CARD OF 'ropewalklaw06.ParseTells'. -/
def parseTellsUptoCard : Claim7 := { stood := { row := parseTellsUptoRow, standIns := [], harness := (true, "55c71a64bfbdeddb550242faa1b6f2e04606838e2b0e20c1bd18c2579cbd0061"), looks := false }, kinds := [], alts := [], laidByText := true, laidKinds := [.sentinel, .listed, .data], laidTests := true, laidLooks := .later }
def ParseTellsUptoCardSaid : Prop := Claim7.holds Tryz.pinned (.plain (OpenSpec.upto parseTellsSpec)) parseTellsUptoCard

/-- THE SECOND FORM's CARD OF 'ropewalklaw07.ShowNumbers'. -/
def showNumbersUptoCard : Claim7 := { stood := { row := showNumbersUptoRow, standIns := [], harness := (true, "55c71a64bfbdeddb550242faa1b6f2e04606838e2b0e20c1bd18c2579cbd0061"), looks := false }, kinds := [], alts := [], laidByText := true, laidKinds := [.data, .data, .data, .sentinel, .listed, .data], laidTests := true, laidLooks := .later }
def ShowNumbersUptoCardSaid : Prop := Claim7.holds Tryz.pinned (.plain (OpenSpec.upto showNumbersSpec)) showNumbersUptoCard

/-- THE SECOND FORM's CARD OF 'ropewalklaw06.ParseNumbers'. -/
def parseNumbersUptoCard : Claim7 := { stood := { row := parseNumbersUptoRow, standIns := [], harness := (true, "55c71a64bfbdeddb550242faa1b6f2e04606838e2b0e20c1bd18c2579cbd0061"), looks := false }, kinds := [], alts := [], laidByText := true, laidKinds := [.data, .sentinel, .listed, .data, .pinned], laidTests := true, laidLooks := .later }
def ParseNumbersUptoCardSaid : Prop := Claim7.holds Tryz.pinned (.plain (OpenSpec.upto parseNumbersSpec)) parseNumbersUptoCard
end Rows
end Go.Proofs.YtoekldhdojpceaaGreatDoor
