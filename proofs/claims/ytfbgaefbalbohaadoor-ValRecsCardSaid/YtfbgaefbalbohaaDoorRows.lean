/-
  NARROWER THAN 'FOR EVERY INPUT', by the rows' own cells (each row's printed sentence says how): LikeShort: laid · ValSets: laid · ValRecs: laid · BagChain: laid · BagMakes: laid · BagAlgebra: laid · LikeWrites: laid.
  DERIVED. THE GIVEN ROWS OF THIS SEAT. 7 by the template 'for every input the law returns true; each argument reads behind the call as it read before'; 0 by the template 'total and deterministic' (their statements: YtfbgaefbalbohaaDoorTotals.lean).
  GIVEN WITH THE SEED: the statements are not yours to turn. If you find one false, say at which input.
  Laid BY PROGRAM, IN A SANDBOX (cutbox-rows.mjs): the forced cells as the released guide's own fill.sh prints them over the translation 7b7c41b375e85357… (all of the seat's roots in one cut). By AI agents, Wed Nov 11 2026. No macro, syntax, notation, axiom, sorry.
-/
import Derived.Test.YtfbgaefbalbohaaDoorChecked
import GoSem.PinnedTables
import GoSem.Claim
import GoSem.ClaimJoined
import GoSem.ClaimMapViews
import Derived.JoinedTies
import Derived.KernelRfl
namespace Go.Proofs.YtfbgaefbalbohaaDoor
/- THE CELL 'sum', in the pinned program and in every row, IS THE sha256 OF THE DUMP (.gsa) THAT YtfbgaefbalbohaaDoorProg.lean LOADS. Nothing in Lean hashes anything: it is a label: what it is worth is what the hold of that sum in a sandbox is worth. -/
noncomputable def Tryd.pinned : Pinned := { name := "ytfbgaefbalbohaadoor", sum := "7b7c41b375e8535741873f1fdefe71df39930b97f1837bf7c2e6493c2cb1fb0b", checked := Tryd.checked }
namespace Rows
def none {H : Type} : Left H := { results := [], args := [] }

/- WHAT THE LISTED PACKAGE-LEVEL VARIABLES READ AS WHEN THE CALL BEGINS. Each datum BY PROGRAM (the guide's laid-datum.mjs) off the statement by which the dump's own 'gosem.cut.vars' lays the variable. In a bare row this is a premise. The card (YtfbgaefbalbohaaDoorCards.lean) ties it to the program's text. -/
def laid_errors_errorType {H : Type} : DataW H := .iface "internal/reflectlite.rtype" (.agg [.ptr (.lit (.string [101, 114, 114, 111, 114]))])
def laid_unicode_utf8_acceptRanges {H : Type} : DataW H := .agg [.agg [.lit (.int .u8 128), .lit (.int .u8 191)], .agg [.lit (.int .u8 160), .lit (.int .u8 191)], .agg [.lit (.int .u8 128), .lit (.int .u8 159)], .agg [.lit (.int .u8 144), .lit (.int .u8 191)], .agg [.lit (.int .u8 128), .lit (.int .u8 143)], .agg [.lit (.int .u8 0), .lit (.int .u8 0)], .agg [.lit (.int .u8 0), .lit (.int .u8 0)], .agg [.lit (.int .u8 0), .lit (.int .u8 0)], .agg [.lit (.int .u8 0), .lit (.int .u8 0)], .agg [.lit (.int .u8 0), .lit (.int .u8 0)], .agg [.lit (.int .u8 0), .lit (.int .u8 0)], .agg [.lit (.int .u8 0), .lit (.int .u8 0)], .agg [.lit (.int .u8 0), .lit (.int .u8 0)], .agg [.lit (.int .u8 0), .lit (.int .u8 0)], .agg [.lit (.int .u8 0), .lit (.int .u8 0)], .agg [.lit (.int .u8 0), .lit (.int .u8 0)]]
/-- One of Go's own tables, pinned by name: the form's constant. -/
def laid_unicode_utf8_first : DataW Unit := Go.Pinned.utf8First

/-- 'wicketgatelaw1.LikeShort': WHATEVER THE INPUT: true; the input reads as it did. -/
def likeShortSpec : ChangeSpec := { name := "likeShort", fn := fun _ => fun
  | [d1, d2] => { results := [.lit (.bool true)], args := [d1, d2] }
  | _ => none }
def likeShortRow : OpenClaim := { program := "ytfbgaefbalbohaadoor", sum := "7b7c41b375e8535741873f1fdefe71df39930b97f1837bf7c2e6493c2cb1fb0b", func := "wicketgate/wicketgatelaw1.LikeShort", spec := "likeShort", inPlace := ["internal/abi.NoEscape", "internal/reflectlite.ValueOf", "(internal/reflectlite.Value).Type", "(internal/reflectlite.Value).IsNil", "internal/reflectlite.TypeOf", "(internal/reflectlite.Value).Elem", "(internal/reflectlite.Value).Set"], unfollowed := true, recurses := true, named := ["errors.errorType"], apart := false, laid := [("errors.errorType", laid_errors_errorType)] }
def LikeShortSaid : Prop := likeShortRow.holds Tryd.pinned (OpenSpec.ofChange likeShortSpec)

/-- ITS FALSE NEIGHBOUR: 'it returns false'. Refute it at one input. -/
def likeShortWrong : ChangeSpec := { name := "likeShort", fn := fun _ => fun
  | [d1, d2] => { results := [.lit (.bool false)], args := [d1, d2] }
  | _ => none }
def LikeShortWrongFalsely : Prop := likeShortRow.holds Tryd.pinned (OpenSpec.ofChange likeShortWrong)

/-- 'wicketgatelaw1.ValSets': WHATEVER THE INPUT: true; the input reads as it did. -/
def valSetsSpec : ChangeSpec := { name := "valSets", fn := fun _ => fun
  | [d] => { results := [.lit (.bool true)], args := [d] }
  | _ => none }
def valSetsRow : OpenClaim := { program := "ytfbgaefbalbohaadoor", sum := "7b7c41b375e8535741873f1fdefe71df39930b97f1837bf7c2e6493c2cb1fb0b", func := "wicketgate/wicketgatelaw1.ValSets", spec := "valSets", inPlace := ["internal/bytealg.abigen_runtime_cmpstring", "internal/reflectlite.ValueOf", "(internal/reflectlite.Value).Type", "(internal/reflectlite.Value).IsNil", "internal/reflectlite.TypeOf", "(internal/reflectlite.Value).Elem", "(internal/reflectlite.Value).Set"], unfollowed := true, recurses := true, named := ["errors.errorType"], apart := false, laid := [("errors.errorType", laid_errors_errorType)] }
def ValSetsSaid : Prop := valSetsRow.holds Tryd.pinned (OpenSpec.ofChange valSetsSpec)

/-- ITS FALSE NEIGHBOUR: 'it returns false'. Refute it at one input. -/
def valSetsWrong : ChangeSpec := { name := "valSets", fn := fun _ => fun
  | [d] => { results := [.lit (.bool false)], args := [d] }
  | _ => none }
def ValSetsWrongFalsely : Prop := valSetsRow.holds Tryd.pinned (OpenSpec.ofChange valSetsWrong)

/-- 'wicketgatelaw1.ValRecs': WHATEVER THE INPUT: true; the input reads as it did. -/
def valRecsSpec : ChangeSpec := { name := "valRecs", fn := fun _ => fun
  | [d1, d2] => { results := [.lit (.bool true)], args := [d1, d2] }
  | _ => none }
def valRecsRow : OpenClaim := { program := "ytfbgaefbalbohaadoor", sum := "7b7c41b375e8535741873f1fdefe71df39930b97f1837bf7c2e6493c2cb1fb0b", func := "wicketgate/wicketgatelaw1.ValRecs", spec := "valRecs", inPlace := ["internal/bytealg.abigen_runtime_cmpstring", "internal/reflectlite.ValueOf", "(internal/reflectlite.Value).Type", "(internal/reflectlite.Value).IsNil", "internal/reflectlite.TypeOf", "(internal/reflectlite.Value).Elem", "(internal/reflectlite.Value).Set"], unfollowed := true, recurses := true, named := ["errors.errorType"], apart := false, laid := [("errors.errorType", laid_errors_errorType)] }
def ValRecsSaid : Prop := valRecsRow.holds Tryd.pinned (OpenSpec.ofChange valRecsSpec)

/-- ITS FALSE NEIGHBOUR: 'it returns false'. Refute it at one input. -/
def valRecsWrong : ChangeSpec := { name := "valRecs", fn := fun _ => fun
  | [d1, d2] => { results := [.lit (.bool false)], args := [d1, d2] }
  | _ => none }
def ValRecsWrongFalsely : Prop := valRecsRow.holds Tryd.pinned (OpenSpec.ofChange valRecsWrong)

/-- 'wicketgatelaw1.BagChain': WHATEVER THE INPUT: true; the input reads as it did. -/
def bagChainSpec : ChangeSpec := { name := "bagChain", fn := fun _ => fun
  | [d1, d2, d3] => { results := [.lit (.bool true)], args := [d1, d2, d3] }
  | _ => none }
def bagChainRow : OpenClaim := { program := "ytfbgaefbalbohaadoor", sum := "7b7c41b375e8535741873f1fdefe71df39930b97f1837bf7c2e6493c2cb1fb0b", func := "wicketgate/wicketgatelaw1.BagChain", spec := "bagChain", inPlace := ["internal/bytealg.abigen_runtime_cmpstring", "internal/reflectlite.ValueOf", "(internal/reflectlite.Value).Type", "(internal/reflectlite.Value).IsNil", "internal/reflectlite.TypeOf", "(internal/reflectlite.Value).Elem", "(internal/reflectlite.Value).Set"], unfollowed := true, recurses := true, named := ["errors.errorType"], apart := false, laid := [("errors.errorType", laid_errors_errorType)] }
def BagChainSaid : Prop := bagChainRow.holds Tryd.pinned (OpenSpec.ofChange bagChainSpec)

/-- ITS FALSE NEIGHBOUR: 'it returns false'. Refute it at one input. -/
def bagChainWrong : ChangeSpec := { name := "bagChain", fn := fun _ => fun
  | [d1, d2, d3] => { results := [.lit (.bool false)], args := [d1, d2, d3] }
  | _ => none }
def BagChainWrongFalsely : Prop := bagChainRow.holds Tryd.pinned (OpenSpec.ofChange bagChainWrong)

/-- 'wicketgatelaw1.BagMakes': WHATEVER THE INPUT: true; the input reads as it did. -/
def bagMakesSpec : ChangeSpec := { name := "bagMakes", fn := fun _ => fun
  | [d1, d2] => { results := [.lit (.bool true)], args := [d1, d2] }
  | _ => none }
def bagMakesRow : OpenClaim := { program := "ytfbgaefbalbohaadoor", sum := "7b7c41b375e8535741873f1fdefe71df39930b97f1837bf7c2e6493c2cb1fb0b", func := "wicketgate/wicketgatelaw1.BagMakes", spec := "bagMakes", inPlace := ["internal/bytealg.abigen_runtime_cmpstring", "internal/reflectlite.ValueOf", "(internal/reflectlite.Value).Type", "(internal/reflectlite.Value).IsNil", "internal/reflectlite.TypeOf", "(internal/reflectlite.Value).Elem", "(internal/reflectlite.Value).Set"], unfollowed := true, recurses := true, named := ["errors.errorType"], apart := false, laid := [("errors.errorType", laid_errors_errorType)] }
def BagMakesSaid : Prop := bagMakesRow.holds Tryd.pinned (OpenSpec.ofChange bagMakesSpec)

/-- ITS FALSE NEIGHBOUR: 'it returns false'. Refute it at one input. -/
def bagMakesWrong : ChangeSpec := { name := "bagMakes", fn := fun _ => fun
  | [d1, d2] => { results := [.lit (.bool false)], args := [d1, d2] }
  | _ => none }
def BagMakesWrongFalsely : Prop := bagMakesRow.holds Tryd.pinned (OpenSpec.ofChange bagMakesWrong)

/-- 'wicketgatelaw1.BagAlgebra': WHATEVER THE INPUT: true; the input reads as it did. -/
def bagAlgebraSpec : ChangeSpec := { name := "bagAlgebra", fn := fun _ => fun
  | [d1, d2, d3] => { results := [.lit (.bool true)], args := [d1, d2, d3] }
  | _ => none }
def bagAlgebraRow : OpenClaim := { program := "ytfbgaefbalbohaadoor", sum := "7b7c41b375e8535741873f1fdefe71df39930b97f1837bf7c2e6493c2cb1fb0b", func := "wicketgate/wicketgatelaw1.BagAlgebra", spec := "bagAlgebra", inPlace := ["internal/bytealg.abigen_runtime_cmpstring", "internal/reflectlite.ValueOf", "(internal/reflectlite.Value).Type", "(internal/reflectlite.Value).IsNil", "internal/reflectlite.TypeOf", "(internal/reflectlite.Value).Elem", "(internal/reflectlite.Value).Set"], unfollowed := true, recurses := true, named := ["errors.errorType"], apart := false, laid := [("errors.errorType", laid_errors_errorType)] }
def BagAlgebraSaid : Prop := bagAlgebraRow.holds Tryd.pinned (OpenSpec.ofChange bagAlgebraSpec)

/-- ITS FALSE NEIGHBOUR: 'it returns false'. Refute it at one input. -/
def bagAlgebraWrong : ChangeSpec := { name := "bagAlgebra", fn := fun _ => fun
  | [d1, d2, d3] => { results := [.lit (.bool false)], args := [d1, d2, d3] }
  | _ => none }
def BagAlgebraWrongFalsely : Prop := bagAlgebraRow.holds Tryd.pinned (OpenSpec.ofChange bagAlgebraWrong)

/-- 'wicketgatelaw1.LikeWrites': WHATEVER THE INPUT: true; the input reads as it did. -/
def likeWritesSpec : ChangeSpec := { name := "likeWrites", fn := fun _ => fun
  | [d] => { results := [.lit (.bool true)], args := [d] }
  | _ => none }
def likeWritesRow : OpenClaim := { program := "ytfbgaefbalbohaadoor", sum := "7b7c41b375e8535741873f1fdefe71df39930b97f1837bf7c2e6493c2cb1fb0b", func := "wicketgate/wicketgatelaw1.LikeWrites", spec := "likeWrites", inPlace := ["internal/abi.NoEscape", "internal/bytealg.CountString", "internal/bytealg.IndexByteString", "internal/bytealg.IndexString", "internal/bytealg.MakeNoZero", "internal/reflectlite.ValueOf", "(internal/reflectlite.Value).Type", "(internal/reflectlite.Value).IsNil", "internal/reflectlite.TypeOf", "(internal/reflectlite.Value).Elem", "(internal/reflectlite.Value).Set"], unfollowed := true, recurses := true, named := ["internal/bytealg.MaxLen", "unicode/utf8.first", "unicode/utf8.acceptRanges", "errors.errorType"], apart := false, laid := [("unicode/utf8.acceptRanges", laid_unicode_utf8_acceptRanges), ("errors.errorType", laid_errors_errorType), ("unicode/utf8.first", laid_unicode_utf8_first)] }
def LikeWritesSaid : Prop := likeWritesRow.holds Tryd.pinned (OpenSpec.ofChange likeWritesSpec)

/-- ITS FALSE NEIGHBOUR: 'it returns false'. Refute it at one input. -/
def likeWritesWrong : ChangeSpec := { name := "likeWrites", fn := fun _ => fun
  | [d] => { results := [.lit (.bool false)], args := [d] }
  | _ => none }
def LikeWritesWrongFalsely : Prop := likeWritesRow.holds Tryd.pinned (OpenSpec.ofChange likeWritesWrong)

/- THE SECOND FORM. 'bulk': how many values and letters a reading holds, each counted each time it is reached (what is shared counts as often as it is met; a slice's spare places count too). A statement '..UptoSaid' is the law's where the arguments, and the package variables that the reading takes, are together of bulk at most 1048576: NARROWER than '..Said'. Prove '..Said' where nothing that the law and all that it calls make is longer than what came in: it says more and counts as full. Else prove '..UptoSaid'. A law counts once. -/
mutual
def uptoBulk {H : Type} : DataW H → Nat
  | .lit (.string bytes) => bytes.length + 1
  | .lit _ => 1
  | .nil => 1
  | .ptr d => uptoBulk d + 1
  | .slice elems spare => uptoBulkAll elems + uptoBulkAll spare + 1
  | .agg parts => uptoBulkAll parts + 1
  | .iface _ d => uptoBulk d + 1
  | .map entries => uptoBulkEntries entries + 1
  | .held _ => 1
def uptoBulkAll {H : Type} : List (DataW H) → Nat
  | [] => 0
  | d :: r => uptoBulk d + uptoBulkAll r
def uptoBulkEntries {H : Type} : List (Lit × DataW H) → Nat
  | [] => 0
  | x :: r => uptoBulkEntry x + uptoBulkEntries r
def uptoBulkEntry {H : Type} : Lit × DataW H → Nat
  | (.string bytes, d) => bytes.length + uptoBulk d + 1
  | (_, d) => uptoBulk d + 1
 end
def uptoSmall : (H : Type) → List (DataW H) → Bool := fun _ ds => decide (uptoBulkAll ds ≤ 1048576)
def OpenSpec.upto (s : _root_.Go.ChangeSpec) : _root_.Go.OpenSpec := { _root_.Go.OpenSpec.ofChange s with cond := some uptoSmall }

/-- 'wicketgatelaw1.LikeShort', WHERE WHAT IT READS IS OF BULK AT MOST 1048576: true; the input reads as it did. -/
def likeShortUptoRow : OpenClaim := { program := "ytfbgaefbalbohaadoor", sum := "7b7c41b375e8535741873f1fdefe71df39930b97f1837bf7c2e6493c2cb1fb0b", func := "wicketgate/wicketgatelaw1.LikeShort", spec := "likeShort", inPlace := ["internal/abi.NoEscape", "internal/reflectlite.ValueOf", "(internal/reflectlite.Value).Type", "(internal/reflectlite.Value).IsNil", "internal/reflectlite.TypeOf", "(internal/reflectlite.Value).Elem", "(internal/reflectlite.Value).Set"], unfollowed := true, recurses := true, named := ["errors.errorType"], apart := false, laid := [("errors.errorType", laid_errors_errorType)], narrowed := true }
def LikeShortUptoSaid : Prop := likeShortUptoRow.holds Tryd.pinned (OpenSpec.upto likeShortSpec)

/-- 'wicketgatelaw1.ValSets', WHERE WHAT IT READS IS OF BULK AT MOST 1048576: true; the input reads as it did. -/
def valSetsUptoRow : OpenClaim := { program := "ytfbgaefbalbohaadoor", sum := "7b7c41b375e8535741873f1fdefe71df39930b97f1837bf7c2e6493c2cb1fb0b", func := "wicketgate/wicketgatelaw1.ValSets", spec := "valSets", inPlace := ["internal/bytealg.abigen_runtime_cmpstring", "internal/reflectlite.ValueOf", "(internal/reflectlite.Value).Type", "(internal/reflectlite.Value).IsNil", "internal/reflectlite.TypeOf", "(internal/reflectlite.Value).Elem", "(internal/reflectlite.Value).Set"], unfollowed := true, recurses := true, named := ["errors.errorType"], apart := false, laid := [("errors.errorType", laid_errors_errorType)], narrowed := true }
def ValSetsUptoSaid : Prop := valSetsUptoRow.holds Tryd.pinned (OpenSpec.upto valSetsSpec)

/-- 'wicketgatelaw1.ValRecs', WHERE WHAT IT READS IS OF BULK AT MOST 1048576: true; the input reads as it did. -/
def valRecsUptoRow : OpenClaim := { program := "ytfbgaefbalbohaadoor", sum := "7b7c41b375e8535741873f1fdefe71df39930b97f1837bf7c2e6493c2cb1fb0b", func := "wicketgate/wicketgatelaw1.ValRecs", spec := "valRecs", inPlace := ["internal/bytealg.abigen_runtime_cmpstring", "internal/reflectlite.ValueOf", "(internal/reflectlite.Value).Type", "(internal/reflectlite.Value).IsNil", "internal/reflectlite.TypeOf", "(internal/reflectlite.Value).Elem", "(internal/reflectlite.Value).Set"], unfollowed := true, recurses := true, named := ["errors.errorType"], apart := false, laid := [("errors.errorType", laid_errors_errorType)], narrowed := true }
def ValRecsUptoSaid : Prop := valRecsUptoRow.holds Tryd.pinned (OpenSpec.upto valRecsSpec)

/-- 'wicketgatelaw1.BagChain', WHERE WHAT IT READS IS OF BULK AT MOST 1048576: true; the input reads as it did. -/
def bagChainUptoRow : OpenClaim := { program := "ytfbgaefbalbohaadoor", sum := "7b7c41b375e8535741873f1fdefe71df39930b97f1837bf7c2e6493c2cb1fb0b", func := "wicketgate/wicketgatelaw1.BagChain", spec := "bagChain", inPlace := ["internal/bytealg.abigen_runtime_cmpstring", "internal/reflectlite.ValueOf", "(internal/reflectlite.Value).Type", "(internal/reflectlite.Value).IsNil", "internal/reflectlite.TypeOf", "(internal/reflectlite.Value).Elem", "(internal/reflectlite.Value).Set"], unfollowed := true, recurses := true, named := ["errors.errorType"], apart := false, laid := [("errors.errorType", laid_errors_errorType)], narrowed := true }
def BagChainUptoSaid : Prop := bagChainUptoRow.holds Tryd.pinned (OpenSpec.upto bagChainSpec)

/-- 'wicketgatelaw1.BagMakes', WHERE WHAT IT READS IS OF BULK AT MOST 1048576: true; the input reads as it did. -/
def bagMakesUptoRow : OpenClaim := { program := "ytfbgaefbalbohaadoor", sum := "7b7c41b375e8535741873f1fdefe71df39930b97f1837bf7c2e6493c2cb1fb0b", func := "wicketgate/wicketgatelaw1.BagMakes", spec := "bagMakes", inPlace := ["internal/bytealg.abigen_runtime_cmpstring", "internal/reflectlite.ValueOf", "(internal/reflectlite.Value).Type", "(internal/reflectlite.Value).IsNil", "internal/reflectlite.TypeOf", "(internal/reflectlite.Value).Elem", "(internal/reflectlite.Value).Set"], unfollowed := true, recurses := true, named := ["errors.errorType"], apart := false, laid := [("errors.errorType", laid_errors_errorType)], narrowed := true }
def BagMakesUptoSaid : Prop := bagMakesUptoRow.holds Tryd.pinned (OpenSpec.upto bagMakesSpec)

/-- 'wicketgatelaw1.BagAlgebra', WHERE WHAT IT READS IS OF BULK AT MOST 1048576: true; the input reads as it did. -/
def bagAlgebraUptoRow : OpenClaim := { program := "ytfbgaefbalbohaadoor", sum := "7b7c41b375e8535741873f1fdefe71df39930b97f1837bf7c2e6493c2cb1fb0b", func := "wicketgate/wicketgatelaw1.BagAlgebra", spec := "bagAlgebra", inPlace := ["internal/bytealg.abigen_runtime_cmpstring", "internal/reflectlite.ValueOf", "(internal/reflectlite.Value).Type", "(internal/reflectlite.Value).IsNil", "internal/reflectlite.TypeOf", "(internal/reflectlite.Value).Elem", "(internal/reflectlite.Value).Set"], unfollowed := true, recurses := true, named := ["errors.errorType"], apart := false, laid := [("errors.errorType", laid_errors_errorType)], narrowed := true }
def BagAlgebraUptoSaid : Prop := bagAlgebraUptoRow.holds Tryd.pinned (OpenSpec.upto bagAlgebraSpec)

/-- 'wicketgatelaw1.LikeWrites', WHERE WHAT IT READS IS OF BULK AT MOST 1048576: true; the input reads as it did. -/
def likeWritesUptoRow : OpenClaim := { program := "ytfbgaefbalbohaadoor", sum := "7b7c41b375e8535741873f1fdefe71df39930b97f1837bf7c2e6493c2cb1fb0b", func := "wicketgate/wicketgatelaw1.LikeWrites", spec := "likeWrites", inPlace := ["internal/abi.NoEscape", "internal/bytealg.CountString", "internal/bytealg.IndexByteString", "internal/bytealg.IndexString", "internal/bytealg.MakeNoZero", "internal/reflectlite.ValueOf", "(internal/reflectlite.Value).Type", "(internal/reflectlite.Value).IsNil", "internal/reflectlite.TypeOf", "(internal/reflectlite.Value).Elem", "(internal/reflectlite.Value).Set"], unfollowed := true, recurses := true, named := ["internal/bytealg.MaxLen", "unicode/utf8.first", "unicode/utf8.acceptRanges", "errors.errorType"], apart := false, laid := [("unicode/utf8.acceptRanges", laid_unicode_utf8_acceptRanges), ("errors.errorType", laid_errors_errorType), ("unicode/utf8.first", laid_unicode_utf8_first)], narrowed := true }
def LikeWritesUptoSaid : Prop := likeWritesUptoRow.holds Tryd.pinned (OpenSpec.upto likeWritesSpec)

end Rows
end Go.Proofs.YtfbgaefbalbohaaDoor
