/-
  DERIVED. GIVEN WITH THE SEED: THE CARDS: each row of YtkdkbhdodlcbaaaDoorRows.lean that lists a variable, with what it lists TIED to the program's text (the seventh form; the later family's looks); each row that meets fmt, with fmt's text TOLD by the authors' own Lean function (tested against real Go, not proved from fmt's source: count such statements apart). THE CARD IS WHAT COUNTS. Prove the row's statement (the work); the ties are given (YtkdkbhdodlcbaaaDoorTie.lean); close each card by the builder's one call (the guide's Derived/Test/ToyasCard.lean, 'card_holds'). Laid BY PROGRAM, IN A SANDBOX (cutbox-door.mjs). By AI agents, Wed Nov 11 2026. No macro, syntax, notation, axiom, sorry.
-/
import Derived.Test.YtkdkbhdodlcbaaaDoorRows
import GoSem.ClaimSeven
namespace Go.Proofs.YtkdkbhdodlcbaaaDoor
namespace Rows

/-- THE TIED CARD OF 'ropewalklaw06.ParseRight'. -/
def parseRightCard : Claim7 := { stood := { row := parseRightRow, standIns := [], harness := (true, "9b60c42e51978c91607e1cbfc74e40f4775171d2ee5b8fb68f3406f449514c4b"), looks := false }, kinds := [], alts := [], laidByText := true, laidKinds := [.sentinel, .listed, .data], laidTests := true, laidLooks := .later }
def ParseRightCardSaid : Prop := Claim7.holds Tryd.pinned (.plain (OpenSpec.ofChange parseRightSpec)) parseRightCard

/-- THE TIED CARD OF 'ropewalklaw06.ParseParts'. -/
def parsePartsCard : Claim7 := { stood := { row := parsePartsRow, standIns := [], harness := (true, "9b60c42e51978c91607e1cbfc74e40f4775171d2ee5b8fb68f3406f449514c4b"), looks := false }, kinds := [], alts := [], laidByText := true, laidKinds := [.sentinel, .listed, .data], laidTests := true, laidLooks := .later }
def ParsePartsCardSaid : Prop := Claim7.holds Tryd.pinned (.plain (OpenSpec.ofChange parsePartsSpec)) parsePartsCard

/-- THE SECOND FORM's CARD OF 'ropewalklaw06.ParseRight'. -/
def parseRightUptoCard : Claim7 := { stood := { row := parseRightUptoRow, standIns := [], harness := (true, "9b60c42e51978c91607e1cbfc74e40f4775171d2ee5b8fb68f3406f449514c4b"), looks := false }, kinds := [], alts := [], laidByText := true, laidKinds := [.sentinel, .listed, .data], laidTests := true, laidLooks := .later }
def ParseRightUptoCardSaid : Prop := Claim7.holds Tryd.pinned (.plain (OpenSpec.upto parseRightSpec)) parseRightUptoCard

/-- THE SECOND FORM's CARD OF 'ropewalklaw06.ParseParts'. -/
def parsePartsUptoCard : Claim7 := { stood := { row := parsePartsUptoRow, standIns := [], harness := (true, "9b60c42e51978c91607e1cbfc74e40f4775171d2ee5b8fb68f3406f449514c4b"), looks := false }, kinds := [], alts := [], laidByText := true, laidKinds := [.sentinel, .listed, .data], laidTests := true, laidLooks := .later }
def ParsePartsUptoCardSaid : Prop := Claim7.holds Tryd.pinned (.plain (OpenSpec.upto parsePartsSpec)) parsePartsUptoCard
end Rows
end Go.Proofs.YtkdkbhdodlcbaaaDoor
