/-
  DERIVED. GIVEN WITH THE SEED: THE CARDS: each row of YtineejjdbjdliaaGreatDoorRows.lean that lists a variable, with what it lists TIED to the program's text (the seventh form; the later family's looks); each row that meets fmt, with fmt's text TOLD by the authors' own Lean function (tested against real Go, not proved from fmt's source: count such statements apart). THE CARD IS WHAT COUNTS. Prove the row's statement (the work); the ties are given (YtineejjdbjdliaaGreatDoorTie.lean); close each card by the builder's one call (the guide's Derived/Test/ToyasCard.lean, 'card_holds'). Laid BY PROGRAM, IN A SANDBOX (cutbox-door.mjs). By AI agents, Wed Nov 11 2026. No macro, syntax, notation, axiom, sorry.
-/
import Derived.Test.YtineejjdbjdliaaGreatDoorRows
import GoSem.ClaimSeven
namespace Go.Proofs.YtineejjdbjdliaaGreatDoor
namespace Rows

/-- THE TIED CARD OF 'ropewalklaw06.ParseTells'. -/
def parseTellsCard : Claim7 := { stood := { row := parseTellsRow, standIns := [], harness := (true, "750ddf4c27ab52a54793b21702c8f75411c526f3595ffa363d05ffedb77ebf6a"), looks := false }, kinds := [], alts := [], laidByText := true, laidKinds := [.sentinel, .listed, .data], laidTests := true, laidLooks := .later }
def ParseTellsCardSaid : Prop := Claim7.holds Tryz.pinned (.plain (OpenSpec.ofChange parseTellsSpec)) parseTellsCard

/-- THE TIED CARD OF 'ropewalklaw07.ShowBack'. -/
def showBackCard : Claim7 := { stood := { row := showBackRow, standIns := [], harness := (true, "750ddf4c27ab52a54793b21702c8f75411c526f3595ffa363d05ffedb77ebf6a"), looks := false }, kinds := [], alts := [], laidByText := true, laidKinds := [.data, .data, .data, .sentinel, .listed, .data], laidTests := true, laidLooks := .later }
def ShowBackCardSaid : Prop := Claim7.holds Tryz.pinned (.plain (OpenSpec.ofChange showBackSpec)) showBackCard

/-- THE TIED CARD OF 'ropewalklaw07.ShowSource'. -/
def showSourceCard : Claim7 := { stood := { row := showSourceRow, standIns := [], harness := (true, "750ddf4c27ab52a54793b21702c8f75411c526f3595ffa363d05ffedb77ebf6a"), looks := false }, kinds := [], alts := [], laidByText := true, laidKinds := [.data, .data, .data, .sentinel, .listed, .data], laidTests := true, laidLooks := .later }
def ShowSourceCardSaid : Prop := Claim7.holds Tryz.pinned (.plain (OpenSpec.ofChange showSourceSpec)) showSourceCard

/-- THE SECOND FORM's CARD OF 'ropewalklaw06.ParseTells'. -/
def parseTellsUptoCard : Claim7 := { stood := { row := parseTellsUptoRow, standIns := [], harness := (true, "750ddf4c27ab52a54793b21702c8f75411c526f3595ffa363d05ffedb77ebf6a"), looks := false }, kinds := [], alts := [], laidByText := true, laidKinds := [.sentinel, .listed, .data], laidTests := true, laidLooks := .later }
def ParseTellsUptoCardSaid : Prop := Claim7.holds Tryz.pinned (.plain (OpenSpec.upto parseTellsSpec)) parseTellsUptoCard

/-- THE SECOND FORM's CARD OF 'ropewalklaw07.ShowBack'. -/
def showBackUptoCard : Claim7 := { stood := { row := showBackUptoRow, standIns := [], harness := (true, "750ddf4c27ab52a54793b21702c8f75411c526f3595ffa363d05ffedb77ebf6a"), looks := false }, kinds := [], alts := [], laidByText := true, laidKinds := [.data, .data, .data, .sentinel, .listed, .data], laidTests := true, laidLooks := .later }
def ShowBackUptoCardSaid : Prop := Claim7.holds Tryz.pinned (.plain (OpenSpec.upto showBackSpec)) showBackUptoCard

/-- THE SECOND FORM's CARD OF 'ropewalklaw07.ShowSource'. -/
def showSourceUptoCard : Claim7 := { stood := { row := showSourceUptoRow, standIns := [], harness := (true, "750ddf4c27ab52a54793b21702c8f75411c526f3595ffa363d05ffedb77ebf6a"), looks := false }, kinds := [], alts := [], laidByText := true, laidKinds := [.data, .data, .data, .sentinel, .listed, .data], laidTests := true, laidLooks := .later }
def ShowSourceUptoCardSaid : Prop := Claim7.holds Tryz.pinned (.plain (OpenSpec.upto showSourceSpec)) showSourceUptoCard
end Rows
end Go.Proofs.YtineejjdbjdliaaGreatDoor
