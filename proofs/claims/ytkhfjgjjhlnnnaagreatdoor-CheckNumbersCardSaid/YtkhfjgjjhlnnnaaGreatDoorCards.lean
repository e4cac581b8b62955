/-
  DERIVED. GIVEN WITH THE SEED: THE CARDS: each row of YtkhfjgjjhlnnnaaGreatDoorRows.lean that lists a variable, with what it lists TIED to the program's text (the seventh form; the later family's looks); each row that meets fmt, with fmt's text TOLD by the authors' own Lean function (tested against real Go, not proved from fmt's source: count such statements apart). THE CARD IS WHAT COUNTS. Prove the row's statement (the work); the ties are given (YtkhfjgjjhlnnnaaGreatDoorTie.lean); close each card by the builder's one call (the guide's Derived/Test/ToyasCard.lean, 'card_holds'). Laid BY PROGRAM, IN A SANDBOX (cutbox-door.mjs). By AI agents, Wed Nov 11 2026. No macro, syntax, notation, axiom, sorry.
-/
import Derived.Test.YtkhfjgjjhlnnnaaGreatDoorRows
import GoSem.ClaimSeven
namespace Go.Proofs.YtkhfjgjjhlnnnaaGreatDoor
namespace Rows

/-- THE TIED CARD OF 'ropewalklaw08.CheckMakes'. -/
def checkMakesCard : Claim7 := { stood := { row := checkMakesRow, standIns := [], harness := (true, "c17394d5e93320b6e500b2dee2cd08424dec011412c9296d9296b48c3ec535c8"), looks := true }, kinds := [], alts := [], laidByText := true, laidKinds := [.data, .sentinel, .listed, .data, .pinned], laidTests := true, laidLooks := .later }
def CheckMakesCardSaid : Prop := Claim7.holds Tryz.pinned (.plain (OpenSpec.ofChange checkMakesSpec)) checkMakesCard

/-- THE TIED CARD OF 'ropewalklaw08.CheckNumbers'. -/
def checkNumbersCard : Claim7 := { stood := { row := checkNumbersRow, standIns := [], harness := (true, "c17394d5e93320b6e500b2dee2cd08424dec011412c9296d9296b48c3ec535c8"), looks := true }, kinds := [], alts := [], laidByText := true, laidKinds := [.data, .sentinel, .listed, .data, .pinned], laidTests := true, laidLooks := .later }
def CheckNumbersCardSaid : Prop := Claim7.holds Tryz.pinned (.plain (OpenSpec.ofChange checkNumbersSpec)) checkNumbersCard

/-- THE TIED CARD OF 'ropewalklaw08.CheckApart'. -/
def checkApartCard : Claim7 := { stood := { row := checkApartRow, standIns := [], harness := (true, "c17394d5e93320b6e500b2dee2cd08424dec011412c9296d9296b48c3ec535c8"), looks := true }, kinds := [], alts := [], laidByText := true, laidKinds := [.data, .sentinel, .listed, .data, .pinned], laidTests := true, laidLooks := .later }
def CheckApartCardSaid : Prop := Claim7.holds Tryz.pinned (.plain (OpenSpec.ofChange checkApartSpec)) checkApartCard

/-- THE SECOND FORM's CARD OF 'ropewalklaw08.CheckMakes'. -/
def checkMakesUptoCard : Claim7 := { stood := { row := checkMakesUptoRow, standIns := [], harness := (true, "c17394d5e93320b6e500b2dee2cd08424dec011412c9296d9296b48c3ec535c8"), looks := true }, kinds := [], alts := [], laidByText := true, laidKinds := [.data, .sentinel, .listed, .data, .pinned], laidTests := true, laidLooks := .later }
def CheckMakesUptoCardSaid : Prop := Claim7.holds Tryz.pinned (.plain (OpenSpec.upto checkMakesSpec)) checkMakesUptoCard

/-- THE SECOND FORM's CARD OF 'ropewalklaw08.CheckNumbers'. -/
def checkNumbersUptoCard : Claim7 := { stood := { row := checkNumbersUptoRow, standIns := [], harness := (true, "c17394d5e93320b6e500b2dee2cd08424dec011412c9296d9296b48c3ec535c8"), looks := true }, kinds := [], alts := [], laidByText := true, laidKinds := [.data, .sentinel, .listed, .data, .pinned], laidTests := true, laidLooks := .later }
def CheckNumbersUptoCardSaid : Prop := Claim7.holds Tryz.pinned (.plain (OpenSpec.upto checkNumbersSpec)) checkNumbersUptoCard

/-- THE SECOND FORM's CARD OF 'ropewalklaw08.CheckApart'. -/
def checkApartUptoCard : Claim7 := { stood := { row := checkApartUptoRow, standIns := [], harness := (true, "c17394d5e93320b6e500b2dee2cd08424dec011412c9296d9296b48c3ec535c8"), looks := true }, kinds := [], alts := [], laidByText := true, laidKinds := [.data, .sentinel, .listed, .data, .pinned], laidTests := true, laidLooks := .later }
def CheckApartUptoCardSaid : Prop := Claim7.holds Tryz.pinned (.plain (OpenSpec.upto checkApartSpec)) checkApartUptoCard
end Rows
end Go.Proofs.YtkhfjgjjhlnnnaaGreatDoor
