/-
  DERIVED. GIVEN WITH THE SEED: THE CARDS: each row of YtcdpoamiejompaaGreatDoorRows.lean that lists a variable, with what it lists TIED to the program's text (the seventh form; the later family's looks); each row that meets fmt, with fmt's text TOLD by the authors' own Lean function (tested against real Go, not proved from fmt's source: count such statements apart). THE CARD IS WHAT COUNTS. Prove the row's statement (the work); the ties are given (YtcdpoamiejompaaGreatDoorTie.lean); close each card by the builder's one call (the guide's Derived/Test/ToyasCard.lean, 'card_holds'). Laid BY PROGRAM, IN A SANDBOX (cutbox-door.mjs). By AI agents, Wed Nov 11 2026. No macro, syntax, notation, axiom, sorry.
-/
import Derived.Test.YtcdpoamiejompaaGreatDoorRows
import GoSem.ClaimSeven
namespace Go.Proofs.YtcdpoamiejompaaGreatDoor
namespace Rows

/-- THE TIED CARD OF 'wicketgatelaw3.EvalConstant'. -/
def evalConstantCard : Claim7 := { stood := { row := evalConstantRow, standIns := [], harness := (true, "7ee4e621b74dd54fd205e846364532a23733073249101a589f10a08b3875595b"), looks := true }, kinds := [], alts := [], laidByText := true, laidKinds := [.handle], laidTests := true, laidLooks := .later }
def EvalConstantCardSaid : Prop := Claim7.holds Tryz.pinned (.plain (OpenSpec.ofChange evalConstantSpec)) evalConstantCard

/-- THE TIED CARD OF 'wicketgatelaw3.EvalBelow'. -/
def evalBelowCard : Claim7 := { stood := { row := evalBelowRow, standIns := [], harness := (true, "7ee4e621b74dd54fd205e846364532a23733073249101a589f10a08b3875595b"), looks := true }, kinds := [], alts := [], laidByText := true, laidKinds := [.handle], laidTests := true, laidLooks := .later }
def EvalBelowCardSaid : Prop := Claim7.holds Tryz.pinned (.plain (OpenSpec.ofChange evalBelowSpec)) evalBelowCard

/-- THE TIED CARD OF 'wicketgatelaw3.EvalAsks'. -/
def evalAsksCard : Claim7 := { stood := { row := evalAsksRow, standIns := [], harness := (true, "7ee4e621b74dd54fd205e846364532a23733073249101a589f10a08b3875595b"), looks := true }, kinds := [], alts := [], laidByText := true, laidKinds := [.handle], laidTests := true, laidLooks := .later }
def EvalAsksCardSaid : Prop := Claim7.holds Tryz.pinned (.plain (OpenSpec.ofChange evalAsksSpec)) evalAsksCard

/-- THE TIED CARD OF 'wicketgatelaw3.EvalValues'. -/
def evalValuesCard : Claim7 := { stood := { row := evalValuesRow, standIns := [], harness := (true, "7ee4e621b74dd54fd205e846364532a23733073249101a589f10a08b3875595b"), looks := true }, kinds := [], alts := [], laidByText := true, laidKinds := [.handle], laidTests := true, laidLooks := .later }
def EvalValuesCardSaid : Prop := Claim7.holds Tryz.pinned (.plain (OpenSpec.ofChange evalValuesSpec)) evalValuesCard

/-- THE TIED CARD OF 'wicketgatelaw3.EvalMorgan'. -/
def evalMorganCard : Claim7 := { stood := { row := evalMorganRow, standIns := [], harness := (true, "7ee4e621b74dd54fd205e846364532a23733073249101a589f10a08b3875595b"), looks := true }, kinds := [], alts := [], laidByText := true, laidKinds := [.handle], laidTests := true, laidLooks := .later }
def EvalMorganCardSaid : Prop := Claim7.holds Tryz.pinned (.plain (OpenSpec.ofChange evalMorganSpec)) evalMorganCard

/-- THE TIED CARD OF 'wicketgatelaw3.EvalShort'. -/
def evalShortCard : Claim7 := { stood := { row := evalShortRow, standIns := [], harness := (true, "7ee4e621b74dd54fd205e846364532a23733073249101a589f10a08b3875595b"), looks := true }, kinds := [], alts := [], laidByText := true, laidKinds := [.handle], laidTests := true, laidLooks := .later }
def EvalShortCardSaid : Prop := Claim7.holds Tryz.pinned (.plain (OpenSpec.ofChange evalShortSpec)) evalShortCard

/-- THE TIED CARD OF 'wicketgatelaw3.EvalSets'. -/
def evalSetsCard : Claim7 := { stood := { row := evalSetsRow, standIns := [], harness := (true, "7ee4e621b74dd54fd205e846364532a23733073249101a589f10a08b3875595b"), looks := true }, kinds := [], alts := [], laidByText := true, laidKinds := [.handle], laidTests := true, laidLooks := .later }
def EvalSetsCardSaid : Prop := Claim7.holds Tryz.pinned (.plain (OpenSpec.ofChange evalSetsSpec)) evalSetsCard

/-- THE TIED CARD OF 'wicketgatelaw3.EvalPuts'. -/
def evalPutsCard : Claim7 := { stood := { row := evalPutsRow, standIns := [], harness := (true, "7ee4e621b74dd54fd205e846364532a23733073249101a589f10a08b3875595b"), looks := true }, kinds := [], alts := [], laidByText := true, laidKinds := [.handle], laidTests := true, laidLooks := .later }
def EvalPutsCardSaid : Prop := Claim7.holds Tryz.pinned (.plain (OpenSpec.ofChange evalPutsSpec)) evalPutsCard

/-- THE SECOND FORM's CARD OF 'wicketgatelaw3.EvalConstant'. -/
def evalConstantUptoCard : Claim7 := { stood := { row := evalConstantUptoRow, standIns := [], harness := (true, "7ee4e621b74dd54fd205e846364532a23733073249101a589f10a08b3875595b"), looks := true }, kinds := [], alts := [], laidByText := true, laidKinds := [.handle], laidTests := true, laidLooks := .later }
def EvalConstantUptoCardSaid : Prop := Claim7.holds Tryz.pinned (.plain (OpenSpec.upto evalConstantSpec)) evalConstantUptoCard

/-- THE SECOND FORM's CARD OF 'wicketgatelaw3.EvalBelow'. -/
def evalBelowUptoCard : Claim7 := { stood := { row := evalBelowUptoRow, standIns := [], harness := (true, "7ee4e621b74dd54fd205e846364532a23733073249101a589f10a08b3875595b"), looks := true }, kinds := [], alts := [], laidByText := true, laidKinds := [.handle], laidTests := true, laidLooks := .later }
def EvalBelowUptoCardSaid : Prop := Claim7.holds Tryz.pinned (.plain (OpenSpec.upto evalBelowSpec)) evalBelowUptoCard

/-- THE SECOND FORM's CARD OF 'wicketgatelaw3.EvalAsks'. -/
def evalAsksUptoCard : Claim7 := { stood := { row := evalAsksUptoRow, standIns := [], harness := (true, "7ee4e621b74dd54fd205e846364532a23733073249101a589f10a08b3875595b"), looks := true }, kinds := [], alts := [], laidByText := true, laidKinds := [.handle], laidTests := true, laidLooks := .later }
def EvalAsksUptoCardSaid : Prop := Claim7.holds Tryz.pinned (.plain (OpenSpec.upto evalAsksSpec)) evalAsksUptoCard

/-- THE SECOND FORM's CARD OF 'wicketgatelaw3.EvalValues'. -/
def evalValuesUptoCard : Claim7 := { stood := { row := evalValuesUptoRow, standIns := [], harness := (true, "7ee4e621b74dd54fd205e846364532a23733073249101a589f10a08b3875595b"), looks := true }, kinds := [], alts := [], laidByText := true, laidKinds := [.handle], laidTests := true, laidLooks := .later }
def EvalValuesUptoCardSaid : Prop := Claim7.holds Tryz.pinned (.plain (OpenSpec.upto evalValuesSpec)) evalValuesUptoCard

/-- THE SECOND FORM's CARD OF 'wicketgatelaw3.EvalMorgan'. -/
def evalMorganUptoCard : Claim7 := { stood := { row := evalMorganUptoRow, standIns := [], harness := (true, "7ee4e621b74dd54fd205e846364532a23733073249101a589f10a08b3875595b"), looks := true }, kinds := [], alts := [], laidByText := true, laidKinds := [.handle], laidTests := true, laidLooks := .later }
def EvalMorganUptoCardSaid : Prop := Claim7.holds Tryz.pinned (.plain (OpenSpec.upto evalMorganSpec)) evalMorganUptoCard

/-- THE SECOND FORM's CARD OF 'wicketgatelaw3.EvalShort'. -/
def evalShortUptoCard : Claim7 := { stood := { row := evalShortUptoRow, standIns := [], harness := (true, "7ee4e621b74dd54fd205e846364532a23733073249101a589f10a08b3875595b"), looks := true }, kinds := [], alts := [], laidByText := true, laidKinds := [.handle], laidTests := true, laidLooks := .later }
def EvalShortUptoCardSaid : Prop := Claim7.holds Tryz.pinned (.plain (OpenSpec.upto evalShortSpec)) evalShortUptoCard

/-- THE SECOND FORM's CARD OF 'wicketgatelaw3.EvalSets'. -/
def evalSetsUptoCard : Claim7 := { stood := { row := evalSetsUptoRow, standIns := [], harness := (true, "7ee4e621b74dd54fd205e846364532a23733073249101a589f10a08b3875595b"), looks := true }, kinds := [], alts := [], laidByText := true, laidKinds := [.handle], laidTests := true, laidLooks := .later }
def EvalSetsUptoCardSaid : Prop := Claim7.holds Tryz.pinned (.plain (OpenSpec.upto evalSetsSpec)) evalSetsUptoCard

/-- THE SECOND FORM's CARD OF 'wicketgatelaw3.EvalPuts'. -/
def evalPutsUptoCard : Claim7 := { stood := { row := evalPutsUptoRow, standIns := [], harness := (true, "7ee4e621b74dd54fd205e846364532a23733073249101a589f10a08b3875595b"), looks := true }, kinds := [], alts := [], laidByText := true, laidKinds := [.handle], laidTests := true, laidLooks := .later }
def EvalPutsUptoCardSaid : Prop := Claim7.holds Tryz.pinned (.plain (OpenSpec.upto evalPutsSpec)) evalPutsUptoCard
end Rows
end Go.Proofs.YtcdpoamiejompaaGreatDoor
