/-
  DERIVED. GIVEN WITH THE SEED: THE CARDS: each row of YtbjbimabgfpdoaaGreatDoorRows.lean that lists a variable, with what it lists TIED to the program's text (the seventh form; the later family's looks); each row that meets fmt, with fmt's text TOLD by the authors' own Lean function (tested against real Go, not proved from fmt's source: count such statements apart). THE CARD IS WHAT COUNTS. Prove the row's statement (the work); the ties are given (YtbjbimabgfpdoaaGreatDoorTie.lean); close each card by the builder's one call (the guide's Derived/Test/ToyasCard.lean, 'card_holds'). Laid BY PROGRAM, IN A SANDBOX (cutbox-door.mjs). By AI agents, Wed Nov 11 2026. No macro, syntax, notation, axiom, sorry.
-/
import Derived.Test.YtbjbimabgfpdoaaGreatDoorRows
import GoSem.ClaimSeven
namespace Go.Proofs.YtbjbimabgfpdoaaGreatDoor
namespace Rows

/-- THE TIED CARD OF 'wicketgatelaw1.EntChecks'. -/
def entChecksCard : Claim7 := { stood := { row := entChecksRow, standIns := [], harness := (true, "f14f73e0a34faee36a34473745e4c2b1e6e6fdc689f206c4e9636759c24345b0"), looks := true }, kinds := [], alts := [], laidByText := true, laidKinds := [.handle], laidTests := true, laidLooks := .later }
def EntChecksCardSaid : Prop := Claim7.holds Tryz.pinned (.plain (OpenSpec.ofChange entChecksSpec)) entChecksCard

/-- THE TIED CARD OF 'wicketgatelaw3.KindsChecks'. -/
def kindsChecksCard : Claim7 := { stood := { row := kindsChecksRow, standIns := [], harness := (true, "f14f73e0a34faee36a34473745e4c2b1e6e6fdc689f206c4e9636759c24345b0"), looks := true }, kinds := [], alts := [], laidByText := true, laidKinds := [.handle], laidTests := true, laidLooks := .later }
def KindsChecksCardSaid : Prop := Claim7.holds Tryz.pinned (.plain (OpenSpec.ofChange kindsChecksSpec)) kindsChecksCard

/-- THE TIED CARD OF 'wicketgatelaw1.EntAbove'. -/
def entAboveCard : Claim7 := { stood := { row := entAboveRow, standIns := [], harness := (true, "f14f73e0a34faee36a34473745e4c2b1e6e6fdc689f206c4e9636759c24345b0"), looks := true }, kinds := [], alts := [], laidByText := true, laidKinds := [.handle], laidTests := true, laidLooks := .later }
def EntAboveCardSaid : Prop := Claim7.holds Tryz.pinned (.plain (OpenSpec.ofChange entAboveSpec)) entAboveCard

/-- THE SECOND FORM's CARD OF 'wicketgatelaw1.EntChecks'. -/
def entChecksUptoCard : Claim7 := { stood := { row := entChecksUptoRow, standIns := [], harness := (true, "f14f73e0a34faee36a34473745e4c2b1e6e6fdc689f206c4e9636759c24345b0"), looks := true }, kinds := [], alts := [], laidByText := true, laidKinds := [.handle], laidTests := true, laidLooks := .later }
def EntChecksUptoCardSaid : Prop := Claim7.holds Tryz.pinned (.plain (OpenSpec.upto entChecksSpec)) entChecksUptoCard

/-- THE SECOND FORM's CARD OF 'wicketgatelaw3.KindsChecks'. -/
def kindsChecksUptoCard : Claim7 := { stood := { row := kindsChecksUptoRow, standIns := [], harness := (true, "f14f73e0a34faee36a34473745e4c2b1e6e6fdc689f206c4e9636759c24345b0"), looks := true }, kinds := [], alts := [], laidByText := true, laidKinds := [.handle], laidTests := true, laidLooks := .later }
def KindsChecksUptoCardSaid : Prop := Claim7.holds Tryz.pinned (.plain (OpenSpec.upto kindsChecksSpec)) kindsChecksUptoCard

/-- THE SECOND FORM's CARD OF 'wicketgatelaw1.EntAbove'. -/
def entAboveUptoCard : Claim7 := { stood := { row := entAboveUptoRow, standIns := [], harness := (true, "f14f73e0a34faee36a34473745e4c2b1e6e6fdc689f206c4e9636759c24345b0"), looks := true }, kinds := [], alts := [], laidByText := true, laidKinds := [.handle], laidTests := true, laidLooks := .later }
def EntAboveUptoCardSaid : Prop := Claim7.holds Tryz.pinned (.plain (OpenSpec.upto entAboveSpec)) entAboveUptoCard
end Rows
end Go.Proofs.YtbjbimabgfpdoaaGreatDoor
