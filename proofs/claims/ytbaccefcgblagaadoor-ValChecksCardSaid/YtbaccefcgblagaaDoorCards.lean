/-
  DERIVED. GIVEN WITH THE SEED: THE CARDS: each row of YtbaccefcgblagaaDoorRows.lean that lists a variable, with what it lists TIED to the program's text (the seventh form; the later family's looks); each row that meets fmt, with fmt's text TOLD by the authors' own Lean function (tested against real Go, not proved from fmt's source: count such statements apart). THE CARD IS WHAT COUNTS. Prove the row's statement (the work); the ties are given (YtbaccefcgblagaaDoorTie.lean); close each card by the builder's one call (the guide's Derived/Test/ToyasCard.lean, 'card_holds'). Laid BY PROGRAM, IN A SANDBOX (cutbox-door.mjs). By AI agents, Wed Nov 11 2026. No macro, syntax, notation, axiom, sorry.
-/
import Derived.Test.YtbaccefcgblagaaDoorRows
import GoSem.ClaimSeven
namespace Go.Proofs.YtbaccefcgblagaaDoor
namespace Rows

/-- THE TIED CARD OF 'wicketgatelaw1.NameChecks'. -/
def nameChecksCard : Claim7 := { stood := { row := nameChecksRow, standIns := [], harness := (true, "b730842afac53ed86194272a3fdf1a1c677af88fd200bc0945a0dc53951e431e"), looks := true }, kinds := [], alts := [], laidByText := true, laidKinds := [.handle], laidTests := true, laidLooks := .later }
def NameChecksCardSaid : Prop := Claim7.holds Tryd.pinned (.plain (OpenSpec.ofChange nameChecksSpec)) nameChecksCard

/-- THE TIED CARD OF 'wicketgatelaw1.NumDoes'. -/
def numDoesCard : Claim7 := { stood := { row := numDoesRow, standIns := [], harness := (true, "b730842afac53ed86194272a3fdf1a1c677af88fd200bc0945a0dc53951e431e"), looks := true }, kinds := [], alts := [], laidByText := true, laidKinds := [.handle], laidTests := true, laidLooks := .later }
def NumDoesCardSaid : Prop := Claim7.holds Tryd.pinned (.plain (OpenSpec.ofChange numDoesSpec)) numDoesCard

/-- THE TIED CARD OF 'wicketgatelaw1.NumRing'. -/
def numRingCard : Claim7 := { stood := { row := numRingRow, standIns := [], harness := (true, "b730842afac53ed86194272a3fdf1a1c677af88fd200bc0945a0dc53951e431e"), looks := true }, kinds := [], alts := [], laidByText := true, laidKinds := [.handle], laidTests := true, laidLooks := .later }
def NumRingCardSaid : Prop := Claim7.holds Tryd.pinned (.plain (OpenSpec.ofChange numRingSpec)) numRingCard

/-- THE TIED CARD OF 'wicketgatelaw1.LikeMatches'. -/
def likeMatchesCard : Claim7 := { stood := { row := likeMatchesRow, standIns := [], harness := (true, "b730842afac53ed86194272a3fdf1a1c677af88fd200bc0945a0dc53951e431e"), looks := true }, kinds := [], alts := [], laidByText := true, laidKinds := [.handle], laidTests := true, laidLooks := .later }
def LikeMatchesCardSaid : Prop := Claim7.holds Tryd.pinned (.plain (OpenSpec.ofChange likeMatchesSpec)) likeMatchesCard

/-- THE TIED CARD OF 'wicketgatelaw1.LikeShort'. -/
def likeShortCard : Claim7 := { stood := { row := likeShortRow, standIns := [], harness := (true, "b730842afac53ed86194272a3fdf1a1c677af88fd200bc0945a0dc53951e431e"), looks := true }, kinds := [], alts := [], laidByText := true, laidKinds := [.handle], laidTests := true, laidLooks := .later }
def LikeShortCardSaid : Prop := Claim7.holds Tryd.pinned (.plain (OpenSpec.ofChange likeShortSpec)) likeShortCard

/-- THE TIED CARD OF 'wicketgatelaw1.ValChecks'. -/
def valChecksCard : Claim7 := { stood := { row := valChecksRow, standIns := [], harness := (true, "b730842afac53ed86194272a3fdf1a1c677af88fd200bc0945a0dc53951e431e"), looks := true }, kinds := [], alts := [], laidByText := true, laidKinds := [.handle], laidTests := true, laidLooks := .later }
def ValChecksCardSaid : Prop := Claim7.holds Tryd.pinned (.plain (OpenSpec.ofChange valChecksSpec)) valChecksCard

/-- THE TIED CARD OF 'wicketgatelaw1.LikeJust'. -/
def likeJustCard : Claim7 := { stood := { row := likeJustRow, standIns := [], harness := (true, "b730842afac53ed86194272a3fdf1a1c677af88fd200bc0945a0dc53951e431e"), looks := true }, kinds := [], alts := [], laidByText := true, laidKinds := [.data, .pinned], laidTests := true, laidLooks := .later }
def LikeJustCardSaid : Prop := Claim7.holds Tryd.pinned (.plain (OpenSpec.ofChange likeJustSpec)) likeJustCard

/-- THE TIED CARD OF 'wicketgatelaw1.LikeBegins'. -/
def likeBeginsCard : Claim7 := { stood := { row := likeBeginsRow, standIns := [], harness := (true, "b730842afac53ed86194272a3fdf1a1c677af88fd200bc0945a0dc53951e431e"), looks := true }, kinds := [], alts := [], laidByText := true, laidKinds := [.data, .pinned], laidTests := true, laidLooks := .later }
def LikeBeginsCardSaid : Prop := Claim7.holds Tryd.pinned (.plain (OpenSpec.ofChange likeBeginsSpec)) likeBeginsCard

/-- THE SECOND FORM's CARD OF 'wicketgatelaw1.NameChecks'. -/
def nameChecksUptoCard : Claim7 := { stood := { row := nameChecksUptoRow, standIns := [], harness := (true, "b730842afac53ed86194272a3fdf1a1c677af88fd200bc0945a0dc53951e431e"), looks := true }, kinds := [], alts := [], laidByText := true, laidKinds := [.handle], laidTests := true, laidLooks := .later }
def NameChecksUptoCardSaid : Prop := Claim7.holds Tryd.pinned (.plain (OpenSpec.upto nameChecksSpec)) nameChecksUptoCard

/-- THE SECOND FORM's CARD OF 'wicketgatelaw1.NumDoes'. -/
def numDoesUptoCard : Claim7 := { stood := { row := numDoesUptoRow, standIns := [], harness := (true, "b730842afac53ed86194272a3fdf1a1c677af88fd200bc0945a0dc53951e431e"), looks := true }, kinds := [], alts := [], laidByText := true, laidKinds := [.handle], laidTests := true, laidLooks := .later }
def NumDoesUptoCardSaid : Prop := Claim7.holds Tryd.pinned (.plain (OpenSpec.upto numDoesSpec)) numDoesUptoCard

/-- THE SECOND FORM's CARD OF 'wicketgatelaw1.NumRing'. -/
def numRingUptoCard : Claim7 := { stood := { row := numRingUptoRow, standIns := [], harness := (true, "b730842afac53ed86194272a3fdf1a1c677af88fd200bc0945a0dc53951e431e"), looks := true }, kinds := [], alts := [], laidByText := true, laidKinds := [.handle], laidTests := true, laidLooks := .later }
def NumRingUptoCardSaid : Prop := Claim7.holds Tryd.pinned (.plain (OpenSpec.upto numRingSpec)) numRingUptoCard

/-- THE SECOND FORM's CARD OF 'wicketgatelaw1.LikeMatches'. -/
def likeMatchesUptoCard : Claim7 := { stood := { row := likeMatchesUptoRow, standIns := [], harness := (true, "b730842afac53ed86194272a3fdf1a1c677af88fd200bc0945a0dc53951e431e"), looks := true }, kinds := [], alts := [], laidByText := true, laidKinds := [.handle], laidTests := true, laidLooks := .later }
def LikeMatchesUptoCardSaid : Prop := Claim7.holds Tryd.pinned (.plain (OpenSpec.upto likeMatchesSpec)) likeMatchesUptoCard

/-- THE SECOND FORM's CARD OF 'wicketgatelaw1.LikeShort'. -/
def likeShortUptoCard : Claim7 := { stood := { row := likeShortUptoRow, standIns := [], harness := (true, "b730842afac53ed86194272a3fdf1a1c677af88fd200bc0945a0dc53951e431e"), looks := true }, kinds := [], alts := [], laidByText := true, laidKinds := [.handle], laidTests := true, laidLooks := .later }
def LikeShortUptoCardSaid : Prop := Claim7.holds Tryd.pinned (.plain (OpenSpec.upto likeShortSpec)) likeShortUptoCard

/-- THE SECOND FORM's CARD OF 'wicketgatelaw1.ValChecks'. -/
def valChecksUptoCard : Claim7 := { stood := { row := valChecksUptoRow, standIns := [], harness := (true, "b730842afac53ed86194272a3fdf1a1c677af88fd200bc0945a0dc53951e431e"), looks := true }, kinds := [], alts := [], laidByText := true, laidKinds := [.handle], laidTests := true, laidLooks := .later }
def ValChecksUptoCardSaid : Prop := Claim7.holds Tryd.pinned (.plain (OpenSpec.upto valChecksSpec)) valChecksUptoCard

/-- THE SECOND FORM's CARD OF 'wicketgatelaw1.LikeJust'. -/
def likeJustUptoCard : Claim7 := { stood := { row := likeJustUptoRow, standIns := [], harness := (true, "b730842afac53ed86194272a3fdf1a1c677af88fd200bc0945a0dc53951e431e"), looks := true }, kinds := [], alts := [], laidByText := true, laidKinds := [.data, .pinned], laidTests := true, laidLooks := .later }
def LikeJustUptoCardSaid : Prop := Claim7.holds Tryd.pinned (.plain (OpenSpec.upto likeJustSpec)) likeJustUptoCard

/-- THE SECOND FORM's CARD OF 'wicketgatelaw1.LikeBegins'. -/
def likeBeginsUptoCard : Claim7 := { stood := { row := likeBeginsUptoRow, standIns := [], harness := (true, "b730842afac53ed86194272a3fdf1a1c677af88fd200bc0945a0dc53951e431e"), looks := true }, kinds := [], alts := [], laidByText := true, laidKinds := [.data, .pinned], laidTests := true, laidLooks := .later }
def LikeBeginsUptoCardSaid : Prop := Claim7.holds Tryd.pinned (.plain (OpenSpec.upto likeBeginsSpec)) likeBeginsUptoCard
end Rows
end Go.Proofs.YtbaccefcgblagaaDoor
