/-
  DERIVED. GIVEN WITH THE SEED: THE CARDS: each row of YtnolmlhcikcceaaGreatDoorRows.lean that lists a variable, with what it lists TIED to the program's text (the seventh form; the later family's looks); each row that meets fmt, with fmt's text TOLD by the authors' own Lean function (tested against real Go, not proved from fmt's source: count such statements apart). THE CARD IS WHAT COUNTS. Prove the row's statement (the work); the ties are given (YtnolmlhcikcceaaGreatDoorTie.lean); close each card by the builder's one call (the guide's Derived/Test/ToyasCard.lean, 'card_holds'). Laid BY PROGRAM, IN A SANDBOX (cutbox-door.mjs). By AI agents, Wed Nov 11 2026. No macro, syntax, notation, axiom, sorry.
-/
import Derived.Test.YtnolmlhcikcceaaGreatDoorRows
import GoSem.ClaimSeven
namespace Go.Proofs.YtnolmlhcikcceaaGreatDoor
namespace Rows

/-- THE TIED CARD OF 'wicketgatelaw3.SchemaWider'. -/
def schemaWiderCard : Claim7 := { stood := { row := schemaWiderRow, standIns := [], harness := (true, "b4890cc7ca88d7733ff88bab85e79cf9de054c4b073550074b2d9f642b357f85"), looks := true }, kinds := [], alts := [], laidByText := true, laidKinds := [.handle], laidTests := true, laidLooks := .later }
def SchemaWiderCardSaid : Prop := Claim7.holds Tryz.pinned (.plain (OpenSpec.ofChange schemaWiderSpec)) schemaWiderCard

/-- THE TIED CARD OF 'wicketgatelaw3.SchemaChecks'. -/
def schemaChecksCard : Claim7 := { stood := { row := schemaChecksRow, standIns := [], harness := (true, "b4890cc7ca88d7733ff88bab85e79cf9de054c4b073550074b2d9f642b357f85"), looks := true }, kinds := [], alts := [], laidByText := true, laidKinds := [.handle], laidTests := true, laidLooks := .later }
def SchemaChecksCardSaid : Prop := Claim7.holds Tryz.pinned (.plain (OpenSpec.ofChange schemaChecksSpec)) schemaChecksCard

/-- THE TIED CARD OF 'wicketgatelaw3.SchemaParts'. -/
def schemaPartsCard : Claim7 := { stood := { row := schemaPartsRow, standIns := [], harness := (true, "b4890cc7ca88d7733ff88bab85e79cf9de054c4b073550074b2d9f642b357f85"), looks := true }, kinds := [], alts := [], laidByText := true, laidKinds := [.handle], laidTests := true, laidLooks := .later }
def SchemaPartsCardSaid : Prop := Claim7.holds Tryz.pinned (.plain (OpenSpec.ofChange schemaPartsSpec)) schemaPartsCard

/-- THE TIED CARD OF 'wicketgatelaw3.CheckTypes'. -/
def checkTypesCard : Claim7 := { stood := { row := checkTypesRow, standIns := [], harness := (true, "b4890cc7ca88d7733ff88bab85e79cf9de054c4b073550074b2d9f642b357f85"), looks := true }, kinds := [], alts := [], laidByText := true, laidKinds := [.handle], laidTests := true, laidLooks := .later }
def CheckTypesCardSaid : Prop := Claim7.holds Tryz.pinned (.plain (OpenSpec.ofChange checkTypesSpec)) checkTypesCard

/-- THE TIED CARD OF 'wicketgatelaw3.CheckValues'. -/
def checkValuesCard : Claim7 := { stood := { row := checkValuesRow, standIns := [], harness := (true, "b4890cc7ca88d7733ff88bab85e79cf9de054c4b073550074b2d9f642b357f85"), looks := true }, kinds := [], alts := [], laidByText := true, laidKinds := [.handle], laidTests := true, laidLooks := .later }
def CheckValuesCardSaid : Prop := Claim7.holds Tryz.pinned (.plain (OpenSpec.ofChange checkValuesSpec)) checkValuesCard

/-- THE SECOND FORM's CARD OF 'wicketgatelaw3.SchemaWider'. -/
def schemaWiderUptoCard : Claim7 := { stood := { row := schemaWiderUptoRow, standIns := [], harness := (true, "b4890cc7ca88d7733ff88bab85e79cf9de054c4b073550074b2d9f642b357f85"), looks := true }, kinds := [], alts := [], laidByText := true, laidKinds := [.handle], laidTests := true, laidLooks := .later }
def SchemaWiderUptoCardSaid : Prop := Claim7.holds Tryz.pinned (.plain (OpenSpec.upto schemaWiderSpec)) schemaWiderUptoCard

/-- THE SECOND FORM's CARD OF 'wicketgatelaw3.SchemaChecks'. -/
def schemaChecksUptoCard : Claim7 := { stood := { row := schemaChecksUptoRow, standIns := [], harness := (true, "b4890cc7ca88d7733ff88bab85e79cf9de054c4b073550074b2d9f642b357f85"), looks := true }, kinds := [], alts := [], laidByText := true, laidKinds := [.handle], laidTests := true, laidLooks := .later }
def SchemaChecksUptoCardSaid : Prop := Claim7.holds Tryz.pinned (.plain (OpenSpec.upto schemaChecksSpec)) schemaChecksUptoCard

/-- THE SECOND FORM's CARD OF 'wicketgatelaw3.SchemaParts'. -/
def schemaPartsUptoCard : Claim7 := { stood := { row := schemaPartsUptoRow, standIns := [], harness := (true, "b4890cc7ca88d7733ff88bab85e79cf9de054c4b073550074b2d9f642b357f85"), looks := true }, kinds := [], alts := [], laidByText := true, laidKinds := [.handle], laidTests := true, laidLooks := .later }
def SchemaPartsUptoCardSaid : Prop := Claim7.holds Tryz.pinned (.plain (OpenSpec.upto schemaPartsSpec)) schemaPartsUptoCard

/-- THE SECOND FORM's CARD OF 'wicketgatelaw3.CheckTypes'. -/
def checkTypesUptoCard : Claim7 := { stood := { row := checkTypesUptoRow, standIns := [], harness := (true, "b4890cc7ca88d7733ff88bab85e79cf9de054c4b073550074b2d9f642b357f85"), looks := true }, kinds := [], alts := [], laidByText := true, laidKinds := [.handle], laidTests := true, laidLooks := .later }
def CheckTypesUptoCardSaid : Prop := Claim7.holds Tryz.pinned (.plain (OpenSpec.upto checkTypesSpec)) checkTypesUptoCard

/-- THE SECOND FORM's CARD OF 'wicketgatelaw3.CheckValues'. -/
def checkValuesUptoCard : Claim7 := { stood := { row := checkValuesUptoRow, standIns := [], harness := (true, "b4890cc7ca88d7733ff88bab85e79cf9de054c4b073550074b2d9f642b357f85"), looks := true }, kinds := [], alts := [], laidByText := true, laidKinds := [.handle], laidTests := true, laidLooks := .later }
def CheckValuesUptoCardSaid : Prop := Claim7.holds Tryz.pinned (.plain (OpenSpec.upto checkValuesSpec)) checkValuesUptoCard
end Rows
end Go.Proofs.YtnolmlhcikcceaaGreatDoor
