/-
  DERIVED. GIVEN WITH THE SEED: THE CARDS: each row of YtoahnjkclckodaaGreatDoorRows.lean that lists a variable, with what it lists TIED to the program's text (the seventh form; the later family's looks); each row that meets fmt, with fmt's text TOLD by the authors' own Lean function (tested against real Go, not proved from fmt's source: count such statements apart). THE CARD IS WHAT COUNTS. Prove the row's statement (the work); the ties are given (YtoahnjkclckodaaGreatDoorTie.lean); close each card by the builder's one call (the guide's Derived/Test/ToyasCard.lean, 'card_holds'). Laid BY PROGRAM, IN A SANDBOX (cutbox-door.mjs). By AI agents, Wed Nov 11 2026. No macro, syntax, notation, axiom, sorry.
-/
import Derived.Test.YtoahnjkclckodaaGreatDoorRows
import GoSem.ClaimSeven
namespace Go.Proofs.YtoahnjkclckodaaGreatDoor
namespace Rows

/-- THE TIED CARD OF 'ropewalklaw16.ImageBack'. -/
def imageBackCard : Claim7 := { stood := { row := imageBackRow, standIns := [], harness := (true, "9f0dcb4a6faba85013a77a9235cdc854228f65e636326901e6e46621152702f3"), looks := true }, kinds := [], alts := [], laidByText := true, laidKinds := [.data, .sentinel, .listed, .sentinel, .data, .pinned], laidTests := true, laidLooks := .later }
def ImageBackCardSaid : Prop := Claim7.holds Tryz.pinned (.plain (OpenSpec.ofChange imageBackSpec)) imageBackCard

/-- THE TIED CARD OF 'ropewalklaw16.ImageOne'. -/
def imageOneCard : Claim7 := { stood := { row := imageOneRow, standIns := [], harness := (true, "9f0dcb4a6faba85013a77a9235cdc854228f65e636326901e6e46621152702f3"), looks := true }, kinds := [], alts := [], laidByText := true, laidKinds := [.data, .sentinel, .listed, .sentinel, .data, .pinned], laidTests := true, laidLooks := .later }
def ImageOneCardSaid : Prop := Claim7.holds Tryz.pinned (.plain (OpenSpec.ofChange imageOneSpec)) imageOneCard

/-- THE SECOND FORM's CARD OF 'ropewalklaw16.ImageBack'. -/
def imageBackUptoCard : Claim7 := { stood := { row := imageBackUptoRow, standIns := [], harness := (true, "9f0dcb4a6faba85013a77a9235cdc854228f65e636326901e6e46621152702f3"), looks := true }, kinds := [], alts := [], laidByText := true, laidKinds := [.data, .sentinel, .listed, .sentinel, .data, .pinned], laidTests := true, laidLooks := .later }
def ImageBackUptoCardSaid : Prop := Claim7.holds Tryz.pinned (.plain (OpenSpec.upto imageBackSpec)) imageBackUptoCard

/-- THE SECOND FORM's CARD OF 'ropewalklaw16.ImageOne'. -/
def imageOneUptoCard : Claim7 := { stood := { row := imageOneUptoRow, standIns := [], harness := (true, "9f0dcb4a6faba85013a77a9235cdc854228f65e636326901e6e46621152702f3"), looks := true }, kinds := [], alts := [], laidByText := true, laidKinds := [.data, .sentinel, .listed, .sentinel, .data, .pinned], laidTests := true, laidLooks := .later }
def ImageOneUptoCardSaid : Prop := Claim7.holds Tryz.pinned (.plain (OpenSpec.upto imageOneSpec)) imageOneUptoCard
end Rows
end Go.Proofs.YtoahnjkclckodaaGreatDoor
