/-
  DERIVED. GIVEN WITH THE SEED: THE CARDS: each row of YtminmokalmgjdaaDoorRows.lean that lists a variable, with what it lists TIED to the program's text (the seventh form; the later family's looks); each row that meets fmt, with fmt's text TOLD by the authors' own Lean function (tested against real Go, not proved from fmt's source: count such statements apart). THE CARD IS WHAT COUNTS. Prove the row's statement (the work); the ties are given (YtminmokalmgjdaaDoorTie.lean); close each card by the builder's one call (the guide's Derived/Test/ToyasCard.lean, 'card_holds'). Laid BY PROGRAM, IN A SANDBOX (cutbox-door.mjs). By AI agents, Wed Nov 11 2026. No macro, syntax, notation, axiom, sorry.
-/
import Derived.Test.YtminmokalmgjdaaDoorRows
import GoSem.ClaimSeven
namespace Go.Proofs.YtminmokalmgjdaaDoor
namespace Rows

/-- THE TIED CARD OF 'wicketgatelaw1.ValParts'. -/
def valPartsCard : Claim7 := { stood := { row := valPartsRow, standIns := [], harness := (true, "e1aaba072d6c6d49c7120fb23caf3630fa4a5403dc58919cb8837920dd1974e7"), looks := true }, kinds := [], alts := [], laidByText := true, laidKinds := [.handle], laidTests := true, laidLooks := .later }
def ValPartsCardSaid : Prop := Claim7.holds Tryd.pinned (.plain (OpenSpec.ofChange valPartsSpec)) valPartsCard

/-- THE TIED CARD OF 'wicketgatelaw1.BagAsks'. -/
def bagAsksCard : Claim7 := { stood := { row := bagAsksRow, standIns := [], harness := (true, "e1aaba072d6c6d49c7120fb23caf3630fa4a5403dc58919cb8837920dd1974e7"), looks := true }, kinds := [], alts := [], laidByText := true, laidKinds := [.handle], laidTests := true, laidLooks := .later }
def BagAsksCardSaid : Prop := Claim7.holds Tryd.pinned (.plain (OpenSpec.ofChange bagAsksSpec)) bagAsksCard

/-- THE TIED CARD OF 'wicketgatelaw1.ValSets'. -/
def valSetsCard : Claim7 := { stood := { row := valSetsRow, standIns := [], harness := (true, "e1aaba072d6c6d49c7120fb23caf3630fa4a5403dc58919cb8837920dd1974e7"), looks := true }, kinds := [], alts := [], laidByText := true, laidKinds := [.handle], laidTests := true, laidLooks := .later }
def ValSetsCardSaid : Prop := Claim7.holds Tryd.pinned (.plain (OpenSpec.ofChange valSetsSpec)) valSetsCard

/-- THE TIED CARD OF 'wicketgatelaw1.ValRecs'. -/
def valRecsCard : Claim7 := { stood := { row := valRecsRow, standIns := [], harness := (true, "e1aaba072d6c6d49c7120fb23caf3630fa4a5403dc58919cb8837920dd1974e7"), looks := true }, kinds := [], alts := [], laidByText := true, laidKinds := [.handle], laidTests := true, laidLooks := .later }
def ValRecsCardSaid : Prop := Claim7.holds Tryd.pinned (.plain (OpenSpec.ofChange valRecsSpec)) valRecsCard

/-- THE TIED CARD OF 'wicketgatelaw1.BagChain'. -/
def bagChainCard : Claim7 := { stood := { row := bagChainRow, standIns := [], harness := (true, "e1aaba072d6c6d49c7120fb23caf3630fa4a5403dc58919cb8837920dd1974e7"), looks := true }, kinds := [], alts := [], laidByText := true, laidKinds := [.handle], laidTests := true, laidLooks := .later }
def BagChainCardSaid : Prop := Claim7.holds Tryd.pinned (.plain (OpenSpec.ofChange bagChainSpec)) bagChainCard

/-- THE TIED CARD OF 'wicketgatelaw1.BagMakes'. -/
def bagMakesCard : Claim7 := { stood := { row := bagMakesRow, standIns := [], harness := (true, "e1aaba072d6c6d49c7120fb23caf3630fa4a5403dc58919cb8837920dd1974e7"), looks := true }, kinds := [], alts := [], laidByText := true, laidKinds := [.handle], laidTests := true, laidLooks := .later }
def BagMakesCardSaid : Prop := Claim7.holds Tryd.pinned (.plain (OpenSpec.ofChange bagMakesSpec)) bagMakesCard

/-- THE TIED CARD OF 'wicketgatelaw1.BagAlgebra'. -/
def bagAlgebraCard : Claim7 := { stood := { row := bagAlgebraRow, standIns := [], harness := (true, "e1aaba072d6c6d49c7120fb23caf3630fa4a5403dc58919cb8837920dd1974e7"), looks := true }, kinds := [], alts := [], laidByText := true, laidKinds := [.handle], laidTests := true, laidLooks := .later }
def BagAlgebraCardSaid : Prop := Claim7.holds Tryd.pinned (.plain (OpenSpec.ofChange bagAlgebraSpec)) bagAlgebraCard

/-- THE TIED CARD OF 'wicketgatelaw1.LikeWrites'. -/
def likeWritesCard : Claim7 := { stood := { row := likeWritesRow, standIns := [], harness := (true, "e1aaba072d6c6d49c7120fb23caf3630fa4a5403dc58919cb8837920dd1974e7"), looks := true }, kinds := [], alts := [], laidByText := true, laidKinds := [.data, .handle, .pinned], laidTests := true, laidLooks := .later }
def LikeWritesCardSaid : Prop := Claim7.holds Tryd.pinned (.plain (OpenSpec.ofChange likeWritesSpec)) likeWritesCard

/-- THE SECOND FORM's CARD OF 'wicketgatelaw1.ValParts'. -/
def valPartsUptoCard : Claim7 := { stood := { row := valPartsUptoRow, standIns := [], harness := (true, "e1aaba072d6c6d49c7120fb23caf3630fa4a5403dc58919cb8837920dd1974e7"), looks := true }, kinds := [], alts := [], laidByText := true, laidKinds := [.handle], laidTests := true, laidLooks := .later }
def ValPartsUptoCardSaid : Prop := Claim7.holds Tryd.pinned (.plain (OpenSpec.upto valPartsSpec)) valPartsUptoCard

/-- THE SECOND FORM's CARD OF 'wicketgatelaw1.BagAsks'. -/
def bagAsksUptoCard : Claim7 := { stood := { row := bagAsksUptoRow, standIns := [], harness := (true, "e1aaba072d6c6d49c7120fb23caf3630fa4a5403dc58919cb8837920dd1974e7"), looks := true }, kinds := [], alts := [], laidByText := true, laidKinds := [.handle], laidTests := true, laidLooks := .later }
def BagAsksUptoCardSaid : Prop := Claim7.holds Tryd.pinned (.plain (OpenSpec.upto bagAsksSpec)) bagAsksUptoCard

/-- THE SECOND FORM's CARD OF 'wicketgatelaw1.ValSets'. -/
def valSetsUptoCard : Claim7 := { stood := { row := valSetsUptoRow, standIns := [], harness := (true, "e1aaba072d6c6d49c7120fb23caf3630fa4a5403dc58919cb8837920dd1974e7"), looks := true }, kinds := [], alts := [], laidByText := true, laidKinds := [.handle], laidTests := true, laidLooks := .later }
def ValSetsUptoCardSaid : Prop := Claim7.holds Tryd.pinned (.plain (OpenSpec.upto valSetsSpec)) valSetsUptoCard

/-- THE SECOND FORM's CARD OF 'wicketgatelaw1.ValRecs'. -/
def valRecsUptoCard : Claim7 := { stood := { row := valRecsUptoRow, standIns := [], harness := (true, "e1aaba072d6c6d49c7120fb23caf3630fa4a5403dc58919cb8837920dd1974e7"), looks := true }, kinds := [], alts := [], laidByText := true, laidKinds := [.handle], laidTests := true, laidLooks := .later }
def ValRecsUptoCardSaid : Prop := Claim7.holds Tryd.pinned (.plain (OpenSpec.upto valRecsSpec)) valRecsUptoCard

/-- THE SECOND FORM's CARD OF 'wicketgatelaw1.BagChain'. -/
def bagChainUptoCard : Claim7 := { stood := { row := bagChainUptoRow, standIns := [], harness := (true, "e1aaba072d6c6d49c7120fb23caf3630fa4a5403dc58919cb8837920dd1974e7"), looks := true }, kinds := [], alts := [], laidByText := true, laidKinds := [.handle], laidTests := true, laidLooks := .later }
def BagChainUptoCardSaid : Prop := Claim7.holds Tryd.pinned (.plain (OpenSpec.upto bagChainSpec)) bagChainUptoCard

/-- THE SECOND FORM's CARD OF 'wicketgatelaw1.BagMakes'. -/
def bagMakesUptoCard : Claim7 := { stood := { row := bagMakesUptoRow, standIns := [], harness := (true, "e1aaba072d6c6d49c7120fb23caf3630fa4a5403dc58919cb8837920dd1974e7"), looks := true }, kinds := [], alts := [], laidByText := true, laidKinds := [.handle], laidTests := true, laidLooks := .later }
def BagMakesUptoCardSaid : Prop := Claim7.holds Tryd.pinned (.plain (OpenSpec.upto bagMakesSpec)) bagMakesUptoCard

/-- THE SECOND FORM's CARD OF 'wicketgatelaw1.BagAlgebra'. -/
def bagAlgebraUptoCard : Claim7 := { stood := { row := bagAlgebraUptoRow, standIns := [], harness := (true, "e1aaba072d6c6d49c7120fb23caf3630fa4a5403dc58919cb8837920dd1974e7"), looks := true }, kinds := [], alts := [], laidByText := true, laidKinds := [.handle], laidTests := true, laidLooks := .later }
def BagAlgebraUptoCardSaid : Prop := Claim7.holds Tryd.pinned (.plain (OpenSpec.upto bagAlgebraSpec)) bagAlgebraUptoCard

/-- THE SECOND FORM's CARD OF 'wicketgatelaw1.LikeWrites'. -/
def likeWritesUptoCard : Claim7 := { stood := { row := likeWritesUptoRow, standIns := [], harness := (true, "e1aaba072d6c6d49c7120fb23caf3630fa4a5403dc58919cb8837920dd1974e7"), looks := true }, kinds := [], alts := [], laidByText := true, laidKinds := [.data, .handle, .pinned], laidTests := true, laidLooks := .later }
def LikeWritesUptoCardSaid : Prop := Claim7.holds Tryd.pinned (.plain (OpenSpec.upto likeWritesSpec)) likeWritesUptoCard
end Rows
end Go.Proofs.YtminmokalmgjdaaDoor
