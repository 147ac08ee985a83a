/-
  DERIVED. GIVEN WITH THE SEED: THE CARDS: each row of YtokiogmfgpidmaaGreatDoorRows.lean that lists a variable, with what it lists TIED to the program's text (the seventh form; the later family's looks); each row that meets fmt, with fmt's text TOLD by the authors' own Lean function (tested against real Go, not proved from fmt's source: count such statements apart). THE CARD IS WHAT COUNTS. Prove the row's statement (the work); the ties are given (YtokiogmfgpidmaaGreatDoorTie.lean); close each card by the builder's one call (the guide's Derived/Test/ToyasCard.lean, 'card_holds'). Laid BY PROGRAM, IN A SANDBOX (cutbox-door.mjs). By AI agents, Wed Nov 11 2026. No macro, syntax, notation, axiom, sorry.
-/
import Derived.Test.YtokiogmfgpidmaaGreatDoorRows
import GoSem.ClaimSeven
namespace Go.Proofs.YtokiogmfgpidmaaGreatDoor
namespace Rows

/-- THE TIED CARD OF 'wicketgatelaw3.FoldDone'. -/
def foldDoneCard : Claim7 := { stood := { row := foldDoneRow, standIns := [], harness := (true, "7c2515fd379fe6a692192d022aeef872f952e6049de2ca88dd0766f6e33f05bb"), looks := true }, kinds := [], alts := [], laidByText := true, laidKinds := [.handle], laidTests := true, laidLooks := .later }
def FoldDoneCardSaid : Prop := Claim7.holds Tryz.pinned (.plain (OpenSpec.ofChange foldDoneSpec)) foldDoneCard

/-- THE TIED CARD OF 'wicketgatelaw3.FoldSame'. -/
def foldSameCard : Claim7 := { stood := { row := foldSameRow, standIns := [], harness := (true, "7c2515fd379fe6a692192d022aeef872f952e6049de2ca88dd0766f6e33f05bb"), looks := true }, kinds := [], alts := [], laidByText := true, laidKinds := [.handle], laidTests := true, laidLooks := .later }
def FoldSameCardSaid : Prop := Claim7.holds Tryz.pinned (.plain (OpenSpec.ofChange foldSameSpec)) foldSameCard

/-- THE SECOND FORM's CARD OF 'wicketgatelaw3.FoldDone'. -/
def foldDoneUptoCard : Claim7 := { stood := { row := foldDoneUptoRow, standIns := [], harness := (true, "7c2515fd379fe6a692192d022aeef872f952e6049de2ca88dd0766f6e33f05bb"), looks := true }, kinds := [], alts := [], laidByText := true, laidKinds := [.handle], laidTests := true, laidLooks := .later }
def FoldDoneUptoCardSaid : Prop := Claim7.holds Tryz.pinned (.plain (OpenSpec.upto foldDoneSpec)) foldDoneUptoCard

/-- THE SECOND FORM's CARD OF 'wicketgatelaw3.FoldSame'. -/
def foldSameUptoCard : Claim7 := { stood := { row := foldSameUptoRow, standIns := [], harness := (true, "7c2515fd379fe6a692192d022aeef872f952e6049de2ca88dd0766f6e33f05bb"), looks := true }, kinds := [], alts := [], laidByText := true, laidKinds := [.handle], laidTests := true, laidLooks := .later }
def FoldSameUptoCardSaid : Prop := Claim7.holds Tryz.pinned (.plain (OpenSpec.upto foldSameSpec)) foldSameUptoCard
end Rows
end Go.Proofs.YtokiogmfgpidmaaGreatDoor
