/-
  DERIVED. GIVEN WITH THE SEED: THE CARDS: each row of YtlkfaliomdbaoaaGreatDoorRows.lean that lists a variable, with what it lists TIED to the program's text (the seventh form; the later family's looks); each row that meets fmt, with fmt's text TOLD by the authors' own Lean function (tested against real Go, not proved from fmt's source: count such statements apart). THE CARD IS WHAT COUNTS. Prove the row's statement (the work); the ties are given (YtlkfaliomdbaoaaGreatDoorTie.lean); close each card by the builder's one call (the guide's Derived/Test/ToyasCard.lean, 'card_holds'). Laid BY PROGRAM, IN A SANDBOX (cutbox-door.mjs). By AI agents, Wed Nov 11 2026. No macro, syntax, notation, axiom, sorry.
-/
import Derived.Test.YtlkfaliomdbaoaaGreatDoorRows
import GoSem.ClaimSeven
namespace Go.Proofs.YtlkfaliomdbaoaaGreatDoor
namespace Rows

/-- THE TIED CARD OF 'wicketgatelaw3.CheckTypes'. -/
def checkTypesCard : Claim7 := { stood := { row := checkTypesRow, standIns := [], harness := (true, "aa6f7fddf0cd0d730ef543a270d8ed9ee18f54b41cd8c50e4ea1678702383f29"), looks := true }, kinds := [], alts := [], laidByText := true, laidKinds := [.handle], laidTests := true, laidLooks := .later }
def CheckTypesCardSaid : Prop := Claim7.holds Tryz.pinned (.plain (OpenSpec.ofChange checkTypesSpec)) checkTypesCard

/-- THE TIED CARD OF 'wicketgatelaw3.CheckValues'. -/
def checkValuesCard : Claim7 := { stood := { row := checkValuesRow, standIns := [], harness := (true, "aa6f7fddf0cd0d730ef543a270d8ed9ee18f54b41cd8c50e4ea1678702383f29"), looks := true }, kinds := [], alts := [], laidByText := true, laidKinds := [.handle], laidTests := true, laidLooks := .later }
def CheckValuesCardSaid : Prop := Claim7.holds Tryz.pinned (.plain (OpenSpec.ofChange checkValuesSpec)) checkValuesCard

/-- THE SECOND FORM's CARD OF 'wicketgatelaw3.CheckTypes'. -/
def checkTypesUptoCard : Claim7 := { stood := { row := checkTypesUptoRow, standIns := [], harness := (true, "aa6f7fddf0cd0d730ef543a270d8ed9ee18f54b41cd8c50e4ea1678702383f29"), looks := true }, kinds := [], alts := [], laidByText := true, laidKinds := [.handle], laidTests := true, laidLooks := .later }
def CheckTypesUptoCardSaid : Prop := Claim7.holds Tryz.pinned (.plain (OpenSpec.upto checkTypesSpec)) checkTypesUptoCard

/-- THE SECOND FORM's CARD OF 'wicketgatelaw3.CheckValues'. -/
def checkValuesUptoCard : Claim7 := { stood := { row := checkValuesUptoRow, standIns := [], harness := (true, "aa6f7fddf0cd0d730ef543a270d8ed9ee18f54b41cd8c50e4ea1678702383f29"), looks := true }, kinds := [], alts := [], laidByText := true, laidKinds := [.handle], laidTests := true, laidLooks := .later }
def CheckValuesUptoCardSaid : Prop := Claim7.holds Tryz.pinned (.plain (OpenSpec.upto checkValuesSpec)) checkValuesUptoCard
end Rows
end Go.Proofs.YtlkfaliomdbaoaaGreatDoor
