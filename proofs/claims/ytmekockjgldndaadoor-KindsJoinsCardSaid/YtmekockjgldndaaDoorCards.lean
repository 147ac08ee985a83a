/-
  DERIVED. GIVEN WITH THE SEED: THE CARDS: each row of YtmekockjgldndaaDoorRows.lean that lists a variable, with what it lists TIED to the program's text (the seventh form; the later family's looks); each row that meets fmt, with fmt's text TOLD by the authors' own Lean function (tested against real Go, not proved from fmt's source: count such statements apart). THE CARD IS WHAT COUNTS. Prove the row's statement (the work); the ties are given (YtmekockjgldndaaDoorTie.lean); close each card by the builder's one call (the guide's Derived/Test/ToyasCard.lean, 'card_holds'). Laid BY PROGRAM, IN A SANDBOX (cutbox-door.mjs). By AI agents, Wed Nov 11 2026. No macro, syntax, notation, axiom, sorry.
-/
import Derived.Test.YtmekockjgldndaaDoorRows
import GoSem.ClaimSeven
namespace Go.Proofs.YtmekockjgldndaaDoor
namespace Rows

/-- THE TIED CARD OF 'wicketgatelaw3.KindsJoins'. -/
def kindsJoinsCard : Claim7 := { stood := { row := kindsJoinsRow, standIns := [], harness := (true, "c4c3e4c760b63c04c34c4e72920b893130b32dcb273f2fc92494a33601aaa4d4"), looks := true }, kinds := [], alts := [], laidByText := true, laidKinds := [.handle], laidTests := true, laidLooks := .later }
def KindsJoinsCardSaid : Prop := Claim7.holds Tryd.pinned (.plain (OpenSpec.ofChange kindsJoinsSpec)) kindsJoinsCard

/-- THE SECOND FORM's CARD OF 'wicketgatelaw3.KindsJoins'. -/
def kindsJoinsUptoCard : Claim7 := { stood := { row := kindsJoinsUptoRow, standIns := [], harness := (true, "c4c3e4c760b63c04c34c4e72920b893130b32dcb273f2fc92494a33601aaa4d4"), looks := true }, kinds := [], alts := [], laidByText := true, laidKinds := [.handle], laidTests := true, laidLooks := .later }
def KindsJoinsUptoCardSaid : Prop := Claim7.holds Tryd.pinned (.plain (OpenSpec.upto kindsJoinsSpec)) kindsJoinsUptoCard
end Rows
end Go.Proofs.YtmekockjgldndaaDoor
