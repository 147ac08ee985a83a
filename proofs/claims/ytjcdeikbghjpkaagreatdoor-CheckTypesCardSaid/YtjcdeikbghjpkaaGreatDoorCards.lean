/-
  DERIVED. GIVEN WITH THE SEED: THE CARDS: each row of YtjcdeikbghjpkaaGreatDoorRows.lean that lists a variable, with what it lists TIED to the program's text (the seventh form; the later family's looks); each row that meets fmt, with fmt's text TOLD by the authors' own Lean function (tested against real Go, not proved from fmt's source: count such statements apart). THE CARD IS WHAT COUNTS. Prove the row's statement (the work); the ties are given (YtjcdeikbghjpkaaGreatDoorTie.lean); close each card by the builder's one call (the guide's Derived/Test/ToyasCard.lean, 'card_holds'). Laid BY PROGRAM, IN A SANDBOX (cutbox-door.mjs). By AI agents, Wed Nov 11 2026. No macro, syntax, notation, axiom, sorry.
-/
import Derived.Test.YtjcdeikbghjpkaaGreatDoorRows
import GoSem.ClaimSeven
namespace Go.Proofs.YtjcdeikbghjpkaaGreatDoor
namespace Rows

/-- THE TIED CARD OF 'wicketgatelaw3.CheckTypes'. -/
def checkTypesCard : Claim7 := { stood := { row := checkTypesRow, standIns := [], harness := (true, "3cc526b42b086d6611be9f3c8c1998b6800a31e50a3dc5208d83dc72f5ac931f"), looks := true }, kinds := [], alts := [], laidByText := true, laidKinds := [.handle], laidTests := true, laidLooks := .later }
def CheckTypesCardSaid : Prop := Claim7.holds Tryz.pinned (.plain (OpenSpec.ofChange checkTypesSpec)) checkTypesCard

/-- THE SECOND FORM's CARD OF 'wicketgatelaw3.CheckTypes'. -/
def checkTypesUptoCard : Claim7 := { stood := { row := checkTypesUptoRow, standIns := [], harness := (true, "3cc526b42b086d6611be9f3c8c1998b6800a31e50a3dc5208d83dc72f5ac931f"), looks := true }, kinds := [], alts := [], laidByText := true, laidKinds := [.handle], laidTests := true, laidLooks := .later }
def CheckTypesUptoCardSaid : Prop := Claim7.holds Tryz.pinned (.plain (OpenSpec.upto checkTypesSpec)) checkTypesUptoCard
end Rows
end Go.Proofs.YtjcdeikbghjpkaaGreatDoor
