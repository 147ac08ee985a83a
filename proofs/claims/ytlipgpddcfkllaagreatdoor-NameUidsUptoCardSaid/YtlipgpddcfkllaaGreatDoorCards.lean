/-
  DERIVED. GIVEN WITH THE SEED: THE CARDS: each row of YtlipgpddcfkllaaGreatDoorRows.lean that lists a variable, with what it lists TIED to the program's text (the seventh form; the later family's looks); each row that meets fmt, with fmt's text TOLD by the authors' own Lean function (tested against real Go, not proved from fmt's source: count such statements apart). THE CARD IS WHAT COUNTS. Prove the row's statement (the work); the ties are given (YtlipgpddcfkllaaGreatDoorTie.lean); close each card by the builder's one call (the guide's Derived/Test/ToyasCard.lean, 'card_holds'). Laid BY PROGRAM, IN A SANDBOX (cutbox-door.mjs). By AI agents, Wed Nov 11 2026. No macro, syntax, notation, axiom, sorry.
-/
import Derived.Test.YtlipgpddcfkllaaGreatDoorRows
import GoSem.ClaimSeven
namespace Go.Proofs.YtlipgpddcfkllaaGreatDoor
namespace Rows

/-- THE TIED CARD OF 'wicketgatelaw1.NameQuotes'. -/
def nameQuotesCard : Claim7 := { stood := { row := nameQuotesRow, standIns := [], harness := (true, "de35a5573b22fae887cd5ce22408dfe352d733cc5bb2f8fe8ae3717e00f88869"), looks := true }, kinds := [], alts := [], laidByText := true, laidKinds := [.handle], laidTests := true, laidLooks := .later }
def NameQuotesCardSaid : Prop := Claim7.holds Tryz.pinned (.plain (OpenSpec.ofChange nameQuotesSpec)) nameQuotesCard

/-- THE TIED CARD OF 'wicketgatelaw1.NameUids'. -/
def nameUidsCard : Claim7 := { stood := { row := nameUidsRow, standIns := [], harness := (true, "de35a5573b22fae887cd5ce22408dfe352d733cc5bb2f8fe8ae3717e00f88869"), looks := true }, kinds := [], alts := [], laidByText := true, laidKinds := [.handle], laidTests := true, laidLooks := .later }
def NameUidsCardSaid : Prop := Claim7.holds Tryz.pinned (.plain (OpenSpec.ofChange nameUidsSpec)) nameUidsCard

/-- THE TIED CARD OF 'wicketgatelaw1.EntChecks'. -/
def entChecksCard : Claim7 := { stood := { row := entChecksRow, standIns := [], harness := (true, "de35a5573b22fae887cd5ce22408dfe352d733cc5bb2f8fe8ae3717e00f88869"), looks := true }, kinds := [], alts := [], laidByText := true, laidKinds := [.handle], laidTests := true, laidLooks := .later }
def EntChecksCardSaid : Prop := Claim7.holds Tryz.pinned (.plain (OpenSpec.ofChange entChecksSpec)) entChecksCard

/-- THE TIED CARD OF 'wicketgatelaw1.EntAbove'. -/
def entAboveCard : Claim7 := { stood := { row := entAboveRow, standIns := [], harness := (true, "de35a5573b22fae887cd5ce22408dfe352d733cc5bb2f8fe8ae3717e00f88869"), looks := true }, kinds := [], alts := [], laidByText := true, laidKinds := [.handle], laidTests := true, laidLooks := .later }
def EntAboveCardSaid : Prop := Claim7.holds Tryz.pinned (.plain (OpenSpec.ofChange entAboveSpec)) entAboveCard

/-- THE SECOND FORM's CARD OF 'wicketgatelaw1.NameQuotes'. -/
def nameQuotesUptoCard : Claim7 := { stood := { row := nameQuotesUptoRow, standIns := [], harness := (true, "de35a5573b22fae887cd5ce22408dfe352d733cc5bb2f8fe8ae3717e00f88869"), looks := true }, kinds := [], alts := [], laidByText := true, laidKinds := [.handle], laidTests := true, laidLooks := .later }
def NameQuotesUptoCardSaid : Prop := Claim7.holds Tryz.pinned (.plain (OpenSpec.upto nameQuotesSpec)) nameQuotesUptoCard

/-- THE SECOND FORM's CARD OF 'wicketgatelaw1.NameUids'. -/
def nameUidsUptoCard : Claim7 := { stood := { row := nameUidsUptoRow, standIns := [], harness := (true, "de35a5573b22fae887cd5ce22408dfe352d733cc5bb2f8fe8ae3717e00f88869"), looks := true }, kinds := [], alts := [], laidByText := true, laidKinds := [.handle], laidTests := true, laidLooks := .later }
def NameUidsUptoCardSaid : Prop := Claim7.holds Tryz.pinned (.plain (OpenSpec.upto nameUidsSpec)) nameUidsUptoCard

/-- THE SECOND FORM's CARD OF 'wicketgatelaw1.EntChecks'. -/
def entChecksUptoCard : Claim7 := { stood := { row := entChecksUptoRow, standIns := [], harness := (true, "de35a5573b22fae887cd5ce22408dfe352d733cc5bb2f8fe8ae3717e00f88869"), looks := true }, kinds := [], alts := [], laidByText := true, laidKinds := [.handle], laidTests := true, laidLooks := .later }
def EntChecksUptoCardSaid : Prop := Claim7.holds Tryz.pinned (.plain (OpenSpec.upto entChecksSpec)) entChecksUptoCard

/-- THE SECOND FORM's CARD OF 'wicketgatelaw1.EntAbove'. -/
def entAboveUptoCard : Claim7 := { stood := { row := entAboveUptoRow, standIns := [], harness := (true, "de35a5573b22fae887cd5ce22408dfe352d733cc5bb2f8fe8ae3717e00f88869"), looks := true }, kinds := [], alts := [], laidByText := true, laidKinds := [.handle], laidTests := true, laidLooks := .later }
def EntAboveUptoCardSaid : Prop := Claim7.holds Tryz.pinned (.plain (OpenSpec.upto entAboveSpec)) entAboveUptoCard
end Rows
end Go.Proofs.YtlipgpddcfkllaaGreatDoor
