/-
  DERIVED. GIVEN WITH THE SEED: THE CARDS: each row of YtfbgaefbalbohaaDoorRows.lean that lists a variable, with what it lists TIED to the program's text (the seventh form; the later family's looks); each row that meets fmt, with fmt's text TOLD by the authors' own Lean function (tested against real Go, not proved from fmt's source: count such statements apart). THE CARD IS WHAT COUNTS. Prove the row's statement (the work); the ties are given (YtfbgaefbalbohaaDoorTie.lean); close each card by the builder's one call (the guide's Derived/Test/ToyasCard.lean, 'card_holds'). Laid BY PROGRAM, IN A SANDBOX (cutbox-door.mjs). By AI agents, Wed Nov 11 2026. No macro, syntax, notation, axiom, sorry.
-/
import Derived.Test.YtfbgaefbalbohaaDoorRows
import GoSem.ClaimSeven
namespace Go.Proofs.YtfbgaefbalbohaaDoor
namespace Rows

/-- THE TIED CARD OF 'wicketgatelaw1.LikeShort'. -/
def likeShortCard : Claim7 := { stood := { row := likeShortRow, standIns := [], harness := (true, "cfd2b8b3aec37dbdcec9f2e388dca6f636726687871ff99bf1ac1debe8ecd00b"), looks := true }, kinds := [], alts := [], laidByText := true, laidKinds := [.handle], laidTests := true, laidLooks := .later }
def LikeShortCardSaid : Prop := Claim7.holds Tryd.pinned (.plain (OpenSpec.ofChange likeShortSpec)) likeShortCard

/-- THE TIED CARD OF 'wicketgatelaw1.ValSets'. -/
def valSetsCard : Claim7 := { stood := { row := valSetsRow, standIns := [], harness := (true, "cfd2b8b3aec37dbdcec9f2e388dca6f636726687871ff99bf1ac1debe8ecd00b"), looks := true }, kinds := [], alts := [], laidByText := true, laidKinds := [.handle], laidTests := true, laidLooks := .later }
def ValSetsCardSaid : Prop := Claim7.holds Tryd.pinned (.plain (OpenSpec.ofChange valSetsSpec)) valSetsCard

/-- THE TIED CARD OF 'wicketgatelaw1.ValRecs'. -/
def valRecsCard : Claim7 := { stood := { row := valRecsRow, standIns := [], harness := (true, "cfd2b8b3aec37dbdcec9f2e388dca6f636726687871ff99bf1ac1debe8ecd00b"), looks := true }, kinds := [], alts := [], laidByText := true, laidKinds := [.handle], laidTests := true, laidLooks := .later }
def ValRecsCardSaid : Prop := Claim7.holds Tryd.pinned (.plain (OpenSpec.ofChange valRecsSpec)) valRecsCard

/-- THE TIED CARD OF 'wicketgatelaw1.BagChain'. -/
def bagChainCard : Claim7 := { stood := { row := bagChainRow, standIns := [], harness := (true, "cfd2b8b3aec37dbdcec9f2e388dca6f636726687871ff99bf1ac1debe8ecd00b"), looks := true }, kinds := [], alts := [], laidByText := true, laidKinds := [.handle], laidTests := true, laidLooks := .later }
def BagChainCardSaid : Prop := Claim7.holds Tryd.pinned (.plain (OpenSpec.ofChange bagChainSpec)) bagChainCard

/-- THE TIED CARD OF 'wicketgatelaw1.BagMakes'. -/
def bagMakesCard : Claim7 := { stood := { row := bagMakesRow, standIns := [], harness := (true, "cfd2b8b3aec37dbdcec9f2e388dca6f636726687871ff99bf1ac1debe8ecd00b"), looks := true }, kinds := [], alts := [], laidByText := true, laidKinds := [.handle], laidTests := true, laidLooks := .later }
def BagMakesCardSaid : Prop := Claim7.holds Tryd.pinned (.plain (OpenSpec.ofChange bagMakesSpec)) bagMakesCard

/-- THE TIED CARD OF 'wicketgatelaw1.BagAlgebra'. -/
def bagAlgebraCard : Claim7 := { stood := { row := bagAlgebraRow, standIns := [], harness := (true, "cfd2b8b3aec37dbdcec9f2e388dca6f636726687871ff99bf1ac1debe8ecd00b"), looks := true }, kinds := [], alts := [], laidByText := true, laidKinds := [.handle], laidTests := true, laidLooks := .later }
def BagAlgebraCardSaid : Prop := Claim7.holds Tryd.pinned (.plain (OpenSpec.ofChange bagAlgebraSpec)) bagAlgebraCard

/-- THE TIED CARD OF 'wicketgatelaw1.LikeWrites'. -/
def likeWritesCard : Claim7 := { stood := { row := likeWritesRow, standIns := [], harness := (true, "cfd2b8b3aec37dbdcec9f2e388dca6f636726687871ff99bf1ac1debe8ecd00b"), looks := true }, kinds := [], alts := [], laidByText := true, laidKinds := [.data, .handle, .pinned], laidTests := true, laidLooks := .later }
def LikeWritesCardSaid : Prop := Claim7.holds Tryd.pinned (.plain (OpenSpec.ofChange likeWritesSpec)) likeWritesCard

/-- THE SECOND FORM's CARD OF 'wicketgatelaw1.LikeShort'. -/
def likeShortUptoCard : Claim7 := { stood := { row := likeShortUptoRow, standIns := [], harness := (true, "cfd2b8b3aec37dbdcec9f2e388dca6f636726687871ff99bf1ac1debe8ecd00b"), looks := true }, kinds := [], alts := [], laidByText := true, laidKinds := [.handle], laidTests := true, laidLooks := .later }
def LikeShortUptoCardSaid : Prop := Claim7.holds Tryd.pinned (.plain (OpenSpec.upto likeShortSpec)) likeShortUptoCard

/-- THE SECOND FORM's CARD OF 'wicketgatelaw1.ValSets'. -/
def valSetsUptoCard : Claim7 := { stood := { row := valSetsUptoRow, standIns := [], harness := (true, "cfd2b8b3aec37dbdcec9f2e388dca6f636726687871ff99bf1ac1debe8ecd00b"), looks := true }, kinds := [], alts := [], laidByText := true, laidKinds := [.handle], laidTests := true, laidLooks := .later }
def ValSetsUptoCardSaid : Prop := Claim7.holds Tryd.pinned (.plain (OpenSpec.upto valSetsSpec)) valSetsUptoCard

/-- THE SECOND FORM's CARD OF 'wicketgatelaw1.ValRecs'. -/
def valRecsUptoCard : Claim7 := { stood := { row := valRecsUptoRow, standIns := [], harness := (true, "cfd2b8b3aec37dbdcec9f2e388dca6f636726687871ff99bf1ac1debe8ecd00b"), looks := true }, kinds := [], alts := [], laidByText := true, laidKinds := [.handle], laidTests := true, laidLooks := .later }
def ValRecsUptoCardSaid : Prop := Claim7.holds Tryd.pinned (.plain (OpenSpec.upto valRecsSpec)) valRecsUptoCard

/-- THE SECOND FORM's CARD OF 'wicketgatelaw1.BagChain'. -/
def bagChainUptoCard : Claim7 := { stood := { row := bagChainUptoRow, standIns := [], harness := (true, "cfd2b8b3aec37dbdcec9f2e388dca6f636726687871ff99bf1ac1debe8ecd00b"), looks := true }, kinds := [], alts := [], laidByText := true, laidKinds := [.handle], laidTests := true, laidLooks := .later }
def BagChainUptoCardSaid : Prop := Claim7.holds Tryd.pinned (.plain (OpenSpec.upto bagChainSpec)) bagChainUptoCard

/-- THE SECOND FORM's CARD OF 'wicketgatelaw1.BagMakes'. -/
def bagMakesUptoCard : Claim7 := { stood := { row := bagMakesUptoRow, standIns := [], harness := (true, "cfd2b8b3aec37dbdcec9f2e388dca6f636726687871ff99bf1ac1debe8ecd00b"), looks := true }, kinds := [], alts := [], laidByText := true, laidKinds := [.handle], laidTests := true, laidLooks := .later }
def BagMakesUptoCardSaid : Prop := Claim7.holds Tryd.pinned (.plain (OpenSpec.upto bagMakesSpec)) bagMakesUptoCard

/-- THE SECOND FORM's CARD OF 'wicketgatelaw1.BagAlgebra'. -/
def bagAlgebraUptoCard : Claim7 := { stood := { row := bagAlgebraUptoRow, standIns := [], harness := (true, "cfd2b8b3aec37dbdcec9f2e388dca6f636726687871ff99bf1ac1debe8ecd00b"), looks := true }, kinds := [], alts := [], laidByText := true, laidKinds := [.handle], laidTests := true, laidLooks := .later }
def BagAlgebraUptoCardSaid : Prop := Claim7.holds Tryd.pinned (.plain (OpenSpec.upto bagAlgebraSpec)) bagAlgebraUptoCard

/-- THE SECOND FORM's CARD OF 'wicketgatelaw1.LikeWrites'. -/
def likeWritesUptoCard : Claim7 := { stood := { row := likeWritesUptoRow, standIns := [], harness := (true, "cfd2b8b3aec37dbdcec9f2e388dca6f636726687871ff99bf1ac1debe8ecd00b"), looks := true }, kinds := [], alts := [], laidByText := true, laidKinds := [.data, .handle, .pinned], laidTests := true, laidLooks := .later }
def LikeWritesUptoCardSaid : Prop := Claim7.holds Tryd.pinned (.plain (OpenSpec.upto likeWritesSpec)) likeWritesUptoCard
end Rows
end Go.Proofs.YtfbgaefbalbohaaDoor
