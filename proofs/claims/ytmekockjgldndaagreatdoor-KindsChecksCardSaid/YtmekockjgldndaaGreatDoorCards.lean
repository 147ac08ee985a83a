/-
  DERIVED. GIVEN WITH THE SEED: THE CARDS: each row of YtmekockjgldndaaGreatDoorRows.lean that lists a variable, with what it lists TIED to the program's text (the seventh form; the later family's looks); each row that meets fmt, with fmt's text TOLD by the authors' own Lean function (tested against real Go, not proved from fmt's source: count such statements apart). THE CARD IS WHAT COUNTS. Prove the row's statement (the work); the ties are given (YtmekockjgldndaaGreatDoorTie.lean); close each card by the builder's one call (the guide's Derived/Test/ToyasCard.lean, 'card_holds'). Laid BY PROGRAM, IN A SANDBOX (cutbox-door.mjs). By AI agents, Wed Nov 11 2026. No macro, syntax, notation, axiom, sorry.
-/
import Derived.Test.YtmekockjgldndaaGreatDoorRows
import GoSem.ClaimSeven
namespace Go.Proofs.YtmekockjgldndaaGreatDoor
namespace Rows

/-- THE TIED CARD OF 'wicketgatelaw3.KindsChecks'. -/
def kindsChecksCard : Claim7 := { stood := { row := kindsChecksRow, standIns := [], harness := (true, "540c000ddda7e38e78873cd9f4553a46b48831ee0f52f8a047796fb8be4f759d"), looks := true }, kinds := [], alts := [], laidByText := true, laidKinds := [.handle], laidTests := true, laidLooks := .later }
def KindsChecksCardSaid : Prop := Claim7.holds Tryz.pinned (.plain (OpenSpec.ofChange kindsChecksSpec)) kindsChecksCard

/-- THE TIED CARD OF 'wicketgatelaw3.SchemaWider'. -/
def schemaWiderCard : Claim7 := { stood := { row := schemaWiderRow, standIns := [], harness := (true, "540c000ddda7e38e78873cd9f4553a46b48831ee0f52f8a047796fb8be4f759d"), looks := true }, kinds := [], alts := [], laidByText := true, laidKinds := [.handle], laidTests := true, laidLooks := .later }
def SchemaWiderCardSaid : Prop := Claim7.holds Tryz.pinned (.plain (OpenSpec.ofChange schemaWiderSpec)) schemaWiderCard

/-- THE TIED CARD OF 'wicketgatelaw3.SchemaChecks'. -/
def schemaChecksCard : Claim7 := { stood := { row := schemaChecksRow, standIns := [], harness := (true, "540c000ddda7e38e78873cd9f4553a46b48831ee0f52f8a047796fb8be4f759d"), looks := true }, kinds := [], alts := [], laidByText := true, laidKinds := [.handle], laidTests := true, laidLooks := .later }
def SchemaChecksCardSaid : Prop := Claim7.holds Tryz.pinned (.plain (OpenSpec.ofChange schemaChecksSpec)) schemaChecksCard

/-- THE TIED CARD OF 'wicketgatelaw3.SchemaParts'. -/
def schemaPartsCard : Claim7 := { stood := { row := schemaPartsRow, standIns := [], harness := (true, "540c000ddda7e38e78873cd9f4553a46b48831ee0f52f8a047796fb8be4f759d"), looks := true }, kinds := [], alts := [], laidByText := true, laidKinds := [.handle], laidTests := true, laidLooks := .later }
def SchemaPartsCardSaid : Prop := Claim7.holds Tryz.pinned (.plain (OpenSpec.ofChange schemaPartsSpec)) schemaPartsCard

/-- THE TIED CARD OF 'wicketgatelaw3.CheckTypes'. -/
def checkTypesCard : Claim7 := { stood := { row := checkTypesRow, standIns := [], harness := (true, "540c000ddda7e38e78873cd9f4553a46b48831ee0f52f8a047796fb8be4f759d"), looks := true }, kinds := [], alts := [], laidByText := true, laidKinds := [.handle], laidTests := true, laidLooks := .later }
def CheckTypesCardSaid : Prop := Claim7.holds Tryz.pinned (.plain (OpenSpec.ofChange checkTypesSpec)) checkTypesCard

/-- THE TIED CARD OF 'wicketgatelaw3.CheckValues'. -/
def checkValuesCard : Claim7 := { stood := { row := checkValuesRow, standIns := [], harness := (true, "540c000ddda7e38e78873cd9f4553a46b48831ee0f52f8a047796fb8be4f759d"), looks := true }, kinds := [], alts := [], laidByText := true, laidKinds := [.handle], laidTests := true, laidLooks := .later }
def CheckValuesCardSaid : Prop := Claim7.holds Tryz.pinned (.plain (OpenSpec.ofChange checkValuesSpec)) checkValuesCard

/-- THE TIED CARD OF 'wicketgatelaw3.EvalConstant'. -/
def evalConstantCard : Claim7 := { stood := { row := evalConstantRow, standIns := [], harness := (true, "540c000ddda7e38e78873cd9f4553a46b48831ee0f52f8a047796fb8be4f759d"), looks := true }, kinds := [], alts := [], laidByText := true, laidKinds := [.handle], laidTests := true, laidLooks := .later }
def EvalConstantCardSaid : Prop := Claim7.holds Tryz.pinned (.plain (OpenSpec.ofChange evalConstantSpec)) evalConstantCard

/-- THE TIED CARD OF 'wicketgatelaw3.EvalAsks'. -/
def evalAsksCard : Claim7 := { stood := { row := evalAsksRow, standIns := [], harness := (true, "540c000ddda7e38e78873cd9f4553a46b48831ee0f52f8a047796fb8be4f759d"), looks := true }, kinds := [], alts := [], laidByText := true, laidKinds := [.handle], laidTests := true, laidLooks := .later }
def EvalAsksCardSaid : Prop := Claim7.holds Tryz.pinned (.plain (OpenSpec.ofChange evalAsksSpec)) evalAsksCard

/-- THE TIED CARD OF 'wicketgatelaw3.EvalValues'. -/
def evalValuesCard : Claim7 := { stood := { row := evalValuesRow, standIns := [], harness := (true, "540c000ddda7e38e78873cd9f4553a46b48831ee0f52f8a047796fb8be4f759d"), looks := true }, kinds := [], alts := [], laidByText := true, laidKinds := [.handle], laidTests := true, laidLooks := .later }
def EvalValuesCardSaid : Prop := Claim7.holds Tryz.pinned (.plain (OpenSpec.ofChange evalValuesSpec)) evalValuesCard

/-- THE TIED CARD OF 'wicketgatelaw3.EvalMorgan'. -/
def evalMorganCard : Claim7 := { stood := { row := evalMorganRow, standIns := [], harness := (true, "540c000ddda7e38e78873cd9f4553a46b48831ee0f52f8a047796fb8be4f759d"), looks := true }, kinds := [], alts := [], laidByText := true, laidKinds := [.handle], laidTests := true, laidLooks := .later }
def EvalMorganCardSaid : Prop := Claim7.holds Tryz.pinned (.plain (OpenSpec.ofChange evalMorganSpec)) evalMorganCard

/-- THE TIED CARD OF 'wicketgatelaw3.EvalShort'. -/
def evalShortCard : Claim7 := { stood := { row := evalShortRow, standIns := [], harness := (true, "540c000ddda7e38e78873cd9f4553a46b48831ee0f52f8a047796fb8be4f759d"), looks := true }, kinds := [], alts := [], laidByText := true, laidKinds := [.handle], laidTests := true, laidLooks := .later }
def EvalShortCardSaid : Prop := Claim7.holds Tryz.pinned (.plain (OpenSpec.ofChange evalShortSpec)) evalShortCard

/-- THE SECOND FORM's CARD OF 'wicketgatelaw3.KindsChecks'. -/
def kindsChecksUptoCard : Claim7 := { stood := { row := kindsChecksUptoRow, standIns := [], harness := (true, "540c000ddda7e38e78873cd9f4553a46b48831ee0f52f8a047796fb8be4f759d"), looks := true }, kinds := [], alts := [], laidByText := true, laidKinds := [.handle], laidTests := true, laidLooks := .later }
def KindsChecksUptoCardSaid : Prop := Claim7.holds Tryz.pinned (.plain (OpenSpec.upto kindsChecksSpec)) kindsChecksUptoCard

/-- THE SECOND FORM's CARD OF 'wicketgatelaw3.SchemaWider'. -/
def schemaWiderUptoCard : Claim7 := { stood := { row := schemaWiderUptoRow, standIns := [], harness := (true, "540c000ddda7e38e78873cd9f4553a46b48831ee0f52f8a047796fb8be4f759d"), looks := true }, kinds := [], alts := [], laidByText := true, laidKinds := [.handle], laidTests := true, laidLooks := .later }
def SchemaWiderUptoCardSaid : Prop := Claim7.holds Tryz.pinned (.plain (OpenSpec.upto schemaWiderSpec)) schemaWiderUptoCard

/-- THE SECOND FORM's CARD OF 'wicketgatelaw3.SchemaChecks'. -/
def schemaChecksUptoCard : Claim7 := { stood := { row := schemaChecksUptoRow, standIns := [], harness := (true, "540c000ddda7e38e78873cd9f4553a46b48831ee0f52f8a047796fb8be4f759d"), looks := true }, kinds := [], alts := [], laidByText := true, laidKinds := [.handle], laidTests := true, laidLooks := .later }
def SchemaChecksUptoCardSaid : Prop := Claim7.holds Tryz.pinned (.plain (OpenSpec.upto schemaChecksSpec)) schemaChecksUptoCard

/-- THE SECOND FORM's CARD OF 'wicketgatelaw3.SchemaParts'. -/
def schemaPartsUptoCard : Claim7 := { stood := { row := schemaPartsUptoRow, standIns := [], harness := (true, "540c000ddda7e38e78873cd9f4553a46b48831ee0f52f8a047796fb8be4f759d"), looks := true }, kinds := [], alts := [], laidByText := true, laidKinds := [.handle], laidTests := true, laidLooks := .later }
def SchemaPartsUptoCardSaid : Prop := Claim7.holds Tryz.pinned (.plain (OpenSpec.upto schemaPartsSpec)) schemaPartsUptoCard

/-- THE SECOND FORM's CARD OF 'wicketgatelaw3.CheckTypes'. -/
def checkTypesUptoCard : Claim7 := { stood := { row := checkTypesUptoRow, standIns := [], harness := (true, "540c000ddda7e38e78873cd9f4553a46b48831ee0f52f8a047796fb8be4f759d"), looks := true }, kinds := [], alts := [], laidByText := true, laidKinds := [.handle], laidTests := true, laidLooks := .later }
def CheckTypesUptoCardSaid : Prop := Claim7.holds Tryz.pinned (.plain (OpenSpec.upto checkTypesSpec)) checkTypesUptoCard

/-- THE SECOND FORM's CARD OF 'wicketgatelaw3.CheckValues'. -/
def checkValuesUptoCard : Claim7 := { stood := { row := checkValuesUptoRow, standIns := [], harness := (true, "540c000ddda7e38e78873cd9f4553a46b48831ee0f52f8a047796fb8be4f759d"), looks := true }, kinds := [], alts := [], laidByText := true, laidKinds := [.handle], laidTests := true, laidLooks := .later }
def CheckValuesUptoCardSaid : Prop := Claim7.holds Tryz.pinned (.plain (OpenSpec.upto checkValuesSpec)) checkValuesUptoCard

/-- THE SECOND FORM's CARD OF 'wicketgatelaw3.EvalConstant'. -/
def evalConstantUptoCard : Claim7 := { stood := { row := evalConstantUptoRow, standIns := [], harness := (true, "540c000ddda7e38e78873cd9f4553a46b48831ee0f52f8a047796fb8be4f759d"), looks := true }, kinds := [], alts := [], laidByText := true, laidKinds := [.handle], laidTests := true, laidLooks := .later }
def EvalConstantUptoCardSaid : Prop := Claim7.holds Tryz.pinned (.plain (OpenSpec.upto evalConstantSpec)) evalConstantUptoCard

/-- THE SECOND FORM's CARD OF 'wicketgatelaw3.EvalAsks'. -/
def evalAsksUptoCard : Claim7 := { stood := { row := evalAsksUptoRow, standIns := [], harness := (true, "540c000ddda7e38e78873cd9f4553a46b48831ee0f52f8a047796fb8be4f759d"), looks := true }, kinds := [], alts := [], laidByText := true, laidKinds := [.handle], laidTests := true, laidLooks := .later }
def EvalAsksUptoCardSaid : Prop := Claim7.holds Tryz.pinned (.plain (OpenSpec.upto evalAsksSpec)) evalAsksUptoCard

/-- THE SECOND FORM's CARD OF 'wicketgatelaw3.EvalValues'. -/
def evalValuesUptoCard : Claim7 := { stood := { row := evalValuesUptoRow, standIns := [], harness := (true, "540c000ddda7e38e78873cd9f4553a46b48831ee0f52f8a047796fb8be4f759d"), looks := true }, kinds := [], alts := [], laidByText := true, laidKinds := [.handle], laidTests := true, laidLooks := .later }
def EvalValuesUptoCardSaid : Prop := Claim7.holds Tryz.pinned (.plain (OpenSpec.upto evalValuesSpec)) evalValuesUptoCard

/-- THE SECOND FORM's CARD OF 'wicketgatelaw3.EvalMorgan'. -/
def evalMorganUptoCard : Claim7 := { stood := { row := evalMorganUptoRow, standIns := [], harness := (true, "540c000ddda7e38e78873cd9f4553a46b48831ee0f52f8a047796fb8be4f759d"), looks := true }, kinds := [], alts := [], laidByText := true, laidKinds := [.handle], laidTests := true, laidLooks := .later }
def EvalMorganUptoCardSaid : Prop := Claim7.holds Tryz.pinned (.plain (OpenSpec.upto evalMorganSpec)) evalMorganUptoCard

/-- THE SECOND FORM's CARD OF 'wicketgatelaw3.EvalShort'. -/
def evalShortUptoCard : Claim7 := { stood := { row := evalShortUptoRow, standIns := [], harness := (true, "540c000ddda7e38e78873cd9f4553a46b48831ee0f52f8a047796fb8be4f759d"), looks := true }, kinds := [], alts := [], laidByText := true, laidKinds := [.handle], laidTests := true, laidLooks := .later }
def EvalShortUptoCardSaid : Prop := Claim7.holds Tryz.pinned (.plain (OpenSpec.upto evalShortSpec)) evalShortUptoCard
end Rows
end Go.Proofs.YtmekockjgldndaaGreatDoor
