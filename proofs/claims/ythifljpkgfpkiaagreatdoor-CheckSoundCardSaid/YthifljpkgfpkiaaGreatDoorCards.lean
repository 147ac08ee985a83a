/-
  DERIVED. GIVEN WITH THE SEED: THE CARDS: each row of YthifljpkgfpkiaaGreatDoorRows.lean that lists a variable, with what it lists TIED to the program's text (the seventh form; the later family's looks); each row that meets fmt, with fmt's text TOLD by the authors' own Lean function (tested against real Go, not proved from fmt's source: count such statements apart). THE CARD IS WHAT COUNTS. Prove the row's statement (the work); the ties are given (YthifljpkgfpkiaaGreatDoorTie.lean); close each card by the builder's one call (the guide's Derived/Test/ToyasCard.lean, 'card_holds'). Laid BY PROGRAM, IN A SANDBOX (cutbox-door.mjs). By AI agents, Wed Nov 11 2026. No macro, syntax, notation, axiom, sorry.
-/
import Derived.Test.YthifljpkgfpkiaaGreatDoorRows
import GoSem.ClaimSeven
namespace Go.Proofs.YthifljpkgfpkiaaGreatDoor
namespace Rows

/-- THE TIED CARD OF 'wicketgatelaw3.CheckSound'. -/
def checkSoundCard : Claim7 := { stood := { row := checkSoundRow, standIns := [], harness := (true, "45fed2f3cbd168b961d8b3cf7093bd27c07f40dfa620c1d1b2c829cc83c63367"), looks := true }, kinds := [], alts := [], laidByText := true, laidKinds := [.handle], laidTests := true, laidLooks := .later }
def CheckSoundCardSaid : Prop := Claim7.holds Tryz.pinned (.plain (OpenSpec.ofChange checkSoundSpec)) checkSoundCard

/-- THE SECOND FORM's CARD OF 'wicketgatelaw3.CheckSound'. -/
def checkSoundUptoCard : Claim7 := { stood := { row := checkSoundUptoRow, standIns := [], harness := (true, "45fed2f3cbd168b961d8b3cf7093bd27c07f40dfa620c1d1b2c829cc83c63367"), looks := true }, kinds := [], alts := [], laidByText := true, laidKinds := [.handle], laidTests := true, laidLooks := .later }
def CheckSoundUptoCardSaid : Prop := Claim7.holds Tryz.pinned (.plain (OpenSpec.upto checkSoundSpec)) checkSoundUptoCard
end Rows
end Go.Proofs.YthifljpkgfpkiaaGreatDoor
