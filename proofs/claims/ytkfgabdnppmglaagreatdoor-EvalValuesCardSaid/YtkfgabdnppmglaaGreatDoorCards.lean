/-
  DERIVED. GIVEN WITH THE SEED: THE CARDS: each row of YtkfgabdnppmglaaGreatDoorRows.lean that lists a variable, with what it lists TIED to the program's text (the seventh form; the later family's looks); each row that meets fmt, with fmt's text TOLD by the authors' own Lean function (tested against real Go, not proved from fmt's source: count such statements apart). THE CARD IS WHAT COUNTS. Prove the row's statement (the work); the ties are given (YtkfgabdnppmglaaGreatDoorTie.lean); close each card by the builder's one call (the guide's Derived/Test/ToyasCard.lean, 'card_holds'). Laid BY PROGRAM, IN A SANDBOX (cutbox-door.mjs). By AI agents, Wed Nov 11 2026. No macro, syntax, notation, axiom, sorry.
-/
import Derived.Test.YtkfgabdnppmglaaGreatDoorRows
import GoSem.ClaimSeven
namespace Go.Proofs.YtkfgabdnppmglaaGreatDoor
namespace Rows

/-- THE TIED CARD OF 'wicketgatelaw3.EvalValues'. -/
def evalValuesCard : Claim7 := { stood := { row := evalValuesRow, standIns := [], harness := (true, "66956baa680056eeecea11f34c9ae7a386c718b4787a3483b8da0290ff3e6242"), looks := true }, kinds := [], alts := [], laidByText := true, laidKinds := [.handle], laidTests := true, laidLooks := .later }
def EvalValuesCardSaid : Prop := Claim7.holds Tryz.pinned (.plain (OpenSpec.ofChange evalValuesSpec)) evalValuesCard

/-- THE SECOND FORM's CARD OF 'wicketgatelaw3.EvalValues'. -/
def evalValuesUptoCard : Claim7 := { stood := { row := evalValuesUptoRow, standIns := [], harness := (true, "66956baa680056eeecea11f34c9ae7a386c718b4787a3483b8da0290ff3e6242"), looks := true }, kinds := [], alts := [], laidByText := true, laidKinds := [.handle], laidTests := true, laidLooks := .later }
def EvalValuesUptoCardSaid : Prop := Claim7.holds Tryz.pinned (.plain (OpenSpec.upto evalValuesSpec)) evalValuesUptoCard
end Rows
end Go.Proofs.YtkfgabdnppmglaaGreatDoor
