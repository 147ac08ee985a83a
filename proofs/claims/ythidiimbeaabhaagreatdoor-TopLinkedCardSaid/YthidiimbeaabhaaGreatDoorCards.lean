/-
  DERIVED. GIVEN WITH THE SEED: THE CARDS: each row of YthidiimbeaabhaaGreatDoorRows.lean that lists a variable, with what it lists TIED to the program's text (the seventh form; the later family's looks); each row that meets fmt, with fmt's text TOLD by the authors' own Lean function (tested against real Go, not proved from fmt's source: count such statements apart). THE CARD IS WHAT COUNTS. Prove the row's statement (the work); the ties are given (YthidiimbeaabhaaGreatDoorTie.lean); close each card by the builder's one call (the guide's Derived/Test/ToyasCard.lean, 'card_holds'). Laid BY PROGRAM, IN A SANDBOX (cutbox-door.mjs). By AI agents, Wed Nov 11 2026. No macro, syntax, notation, axiom, sorry.
-/
import Derived.Test.YthidiimbeaabhaaGreatDoorRows
import GoSem.ClaimSeven
namespace Go.Proofs.YthidiimbeaabhaaGreatDoor
namespace Rows

/-- THE TIED CARD OF 'wicketgatetop.TopLinked'. -/
def topLinkedCard : Claim7 := { stood := { row := topLinkedRow, standIns := [], harness := (true, "2486269b4844552bfbfbda75ca16efce137b847f6629cbb80a2ffb2f8b64ad76"), looks := true }, kinds := [], alts := [], laidByText := true, laidKinds := [.handle], laidTests := true, laidLooks := .later }
def TopLinkedCardSaid : Prop := Claim7.holds Tryz.pinned (.plain (OpenSpec.ofChange topLinkedSpec)) topLinkedCard

/-- THE TIED CARD OF 'wicketgatetop.TopTruth'. -/
def topTruthCard : Claim7 := { stood := { row := topTruthRow, standIns := [], harness := (true, "2486269b4844552bfbfbda75ca16efce137b847f6629cbb80a2ffb2f8b64ad76"), looks := true }, kinds := [], alts := [], laidByText := true, laidKinds := [.handle], laidTests := true, laidLooks := .later }
def TopTruthCardSaid : Prop := Claim7.holds Tryz.pinned (.plain (OpenSpec.ofChange topTruthSpec)) topTruthCard

/-- THE TIED CARD OF 'wicketgatetop.TopMoved'. -/
def topMovedCard : Claim7 := { stood := { row := topMovedRow, standIns := [], harness := (true, "2486269b4844552bfbfbda75ca16efce137b847f6629cbb80a2ffb2f8b64ad76"), looks := true }, kinds := [], alts := [], laidByText := true, laidKinds := [.handle], laidTests := true, laidLooks := .later }
def TopMovedCardSaid : Prop := Claim7.holds Tryz.pinned (.plain (OpenSpec.ofChange topMovedSpec)) topMovedCard

/-- THE SECOND FORM's CARD OF 'wicketgatetop.TopLinked'. -/
def topLinkedUptoCard : Claim7 := { stood := { row := topLinkedUptoRow, standIns := [], harness := (true, "2486269b4844552bfbfbda75ca16efce137b847f6629cbb80a2ffb2f8b64ad76"), looks := true }, kinds := [], alts := [], laidByText := true, laidKinds := [.handle], laidTests := true, laidLooks := .later }
def TopLinkedUptoCardSaid : Prop := Claim7.holds Tryz.pinned (.plain (OpenSpec.upto topLinkedSpec)) topLinkedUptoCard

/-- THE SECOND FORM's CARD OF 'wicketgatetop.TopTruth'. -/
def topTruthUptoCard : Claim7 := { stood := { row := topTruthUptoRow, standIns := [], harness := (true, "2486269b4844552bfbfbda75ca16efce137b847f6629cbb80a2ffb2f8b64ad76"), looks := true }, kinds := [], alts := [], laidByText := true, laidKinds := [.handle], laidTests := true, laidLooks := .later }
def TopTruthUptoCardSaid : Prop := Claim7.holds Tryz.pinned (.plain (OpenSpec.upto topTruthSpec)) topTruthUptoCard

/-- THE SECOND FORM's CARD OF 'wicketgatetop.TopMoved'. -/
def topMovedUptoCard : Claim7 := { stood := { row := topMovedUptoRow, standIns := [], harness := (true, "2486269b4844552bfbfbda75ca16efce137b847f6629cbb80a2ffb2f8b64ad76"), looks := true }, kinds := [], alts := [], laidByText := true, laidKinds := [.handle], laidTests := true, laidLooks := .later }
def TopMovedUptoCardSaid : Prop := Claim7.holds Tryz.pinned (.plain (OpenSpec.upto topMovedSpec)) topMovedUptoCard
end Rows
end Go.Proofs.YthidiimbeaabhaaGreatDoor
