/-
  NARROWER THAN 'FOR EVERY INPUT', by the rows' own cells (each row's printed sentence says how): NameChecks: laid · NumDoes: laid · NumRing: laid · LikeMatches: laid · LikeShort: laid · ValChecks: laid · LikeJust: laid · LikeBegins: laid.
  DERIVED. THE GIVEN ROWS OF THIS SEAT. 8 by the template 'for every input the law returns true; each argument reads behind the call as it read before'; 0 by the template 'total and deterministic' (their statements: YtbaccefcgblagaaDoorTotals.lean).
  GIVEN WITH THE SEED: the statements are not yours to turn. If you find one false, say at which input.
  Laid BY PROGRAM, IN A SANDBOX (cutbox-rows.mjs): the forced cells as the released guide's own fill.sh prints them over the translation 0fea8a504445f347… (all of the seat's roots in one cut). By AI agents, Wed Nov 11 2026. No macro, syntax, notation, axiom, sorry.
-/
import Derived.Test.YtbaccefcgblagaaDoorChecked
import GoSem.PinnedTables
import GoSem.Claim
import GoSem.ClaimJoined
import GoSem.ClaimMapViews
import Derived.JoinedTies
import Derived.KernelRfl
namespace Go.Proofs.YtbaccefcgblagaaDoor
/- THE CELL 'sum', in the pinned program and in every row, IS THE sha256 OF THE DUMP (.gsa) THAT YtbaccefcgblagaaDoorProg.lean LOADS. Nothing in Lean hashes anything: it is a label: what it is worth is what the hold of that sum in a sandbox is worth. -/
noncomputable def Tryd.pinned : Pinned := { name := "ytbaccefcgblagaadoor", sum := "0fea8a504445f347fc293fcdf310a39404b1a41a389e16f05de5fd459617ffea", checked := Tryd.checked }
namespace Rows
def none {H : Type} : Left H := { results := [], args := [] }

/- WHAT THE LISTED PACKAGE-LEVEL VARIABLES READ AS WHEN THE CALL BEGINS. Each datum BY PROGRAM (the guide's laid-datum.mjs) off the statement by which the dump's own 'gosem.cut.vars' lays the variable. In a bare row this is a premise. The card (YtbaccefcgblagaaDoorCards.lean) ties it to the program's text. -/
def laid_errors_errorType {H : Type} : DataW H := .iface "internal/reflectlite.rtype" (.agg [.ptr (.lit (.string [101, 114, 114, 111, 114]))])
def laid_unicode_utf8_acceptRanges {H : Type} : DataW H := .agg [.agg [.lit (.int .u8 128), .lit (.int .u8 191)], .agg [.lit (.int .u8 160), .lit (.int .u8 191)], .agg [.lit (.int .u8 128), .lit (.int .u8 159)], .agg [.lit (.int .u8 144), .lit (.int .u8 191)], .agg [.lit (.int .u8 128), .lit (.int .u8 143)], .agg [.lit (.int .u8 0), .lit (.int .u8 0)], .agg [.lit (.int .u8 0), .lit (.int .u8 0)], .agg [.lit (.int .u8 0), .lit (.int .u8 0)], .agg [.lit (.int .u8 0), .lit (.int .u8 0)], .agg [.lit (.int .u8 0), .lit (.int .u8 0)], .agg [.lit (.int .u8 0), .lit (.int .u8 0)], .agg [.lit (.int .u8 0), .lit (.int .u8 0)], .agg [.lit (.int .u8 0), .lit (.int .u8 0)], .agg [.lit (.int .u8 0), .lit (.int .u8 0)], .agg [.lit (.int .u8 0), .lit (.int .u8 0)], .agg [.lit (.int .u8 0), .lit (.int .u8 0)]]
/-- One of Go's own tables, pinned by name: the form's constant. -/
def laid_unicode_utf8_first : DataW Unit := Go.Pinned.utf8First

/-- 'wicketgatelaw1.NameChecks': WHATEVER THE INPUT: true; the input reads as it did. -/
def nameChecksSpec : ChangeSpec := { name := "nameChecks", fn := fun _ => fun
  | [d] => { results := [.lit (.bool true)], args := [d] }
  | _ => none }
def nameChecksRow : OpenClaim := { program := "ytbaccefcgblagaadoor", sum := "0fea8a504445f347fc293fcdf310a39404b1a41a389e16f05de5fd459617ffea", func := "wicketgate/wicketgatelaw1.NameChecks", spec := "nameChecks", inPlace := ["internal/reflectlite.ValueOf", "(internal/reflectlite.Value).Type", "(internal/reflectlite.Value).IsNil", "internal/reflectlite.TypeOf", "(internal/reflectlite.Value).Elem", "(internal/reflectlite.Value).Set"], unfollowed := true, recurses := true, named := ["errors.errorType"], apart := false, laid := [("errors.errorType", laid_errors_errorType)] }
def NameChecksSaid : Prop := nameChecksRow.holds Tryd.pinned (OpenSpec.ofChange nameChecksSpec)

/-- ITS FALSE NEIGHBOUR: 'it returns false'. Refute it at one input. -/
def nameChecksWrong : ChangeSpec := { name := "nameChecks", fn := fun _ => fun
  | [d] => { results := [.lit (.bool false)], args := [d] }
  | _ => none }
def NameChecksWrongFalsely : Prop := nameChecksRow.holds Tryd.pinned (OpenSpec.ofChange nameChecksWrong)

/-- 'wicketgatelaw1.NumDoes': WHATEVER THE INPUT: true; the input reads as it did. -/
def numDoesSpec : ChangeSpec := { name := "numDoes", fn := fun _ => fun
  | [d1, d2, d3] => { results := [.lit (.bool true)], args := [d1, d2, d3] }
  | _ => none }
def numDoesRow : OpenClaim := { program := "ytbaccefcgblagaadoor", sum := "0fea8a504445f347fc293fcdf310a39404b1a41a389e16f05de5fd459617ffea", func := "wicketgate/wicketgatelaw1.NumDoes", spec := "numDoes", inPlace := ["internal/reflectlite.ValueOf", "(internal/reflectlite.Value).Type", "(internal/reflectlite.Value).IsNil", "internal/reflectlite.TypeOf", "(internal/reflectlite.Value).Elem", "(internal/reflectlite.Value).Set"], unfollowed := true, recurses := true, named := ["errors.errorType"], apart := false, laid := [("errors.errorType", laid_errors_errorType)] }
def NumDoesSaid : Prop := numDoesRow.holds Tryd.pinned (OpenSpec.ofChange numDoesSpec)

/-- ITS FALSE NEIGHBOUR: 'it returns false'. Refute it at one input. -/
def numDoesWrong : ChangeSpec := { name := "numDoes", fn := fun _ => fun
  | [d1, d2, d3] => { results := [.lit (.bool false)], args := [d1, d2, d3] }
  | _ => none }
def NumDoesWrongFalsely : Prop := numDoesRow.holds Tryd.pinned (OpenSpec.ofChange numDoesWrong)

/-- 'wicketgatelaw1.NumRing': WHATEVER THE INPUT: true; the input reads as it did. -/
def numRingSpec : ChangeSpec := { name := "numRing", fn := fun _ => fun
  | [d1, d2, d3] => { results := [.lit (.bool true)], args := [d1, d2, d3] }
  | _ => none }
def numRingRow : OpenClaim := { program := "ytbaccefcgblagaadoor", sum := "0fea8a504445f347fc293fcdf310a39404b1a41a389e16f05de5fd459617ffea", func := "wicketgate/wicketgatelaw1.NumRing", spec := "numRing", inPlace := ["internal/reflectlite.ValueOf", "(internal/reflectlite.Value).Type", "(internal/reflectlite.Value).IsNil", "internal/reflectlite.TypeOf", "(internal/reflectlite.Value).Elem", "(internal/reflectlite.Value).Set"], unfollowed := true, recurses := true, named := ["errors.errorType"], apart := false, laid := [("errors.errorType", laid_errors_errorType)] }
def NumRingSaid : Prop := numRingRow.holds Tryd.pinned (OpenSpec.ofChange numRingSpec)

/-- ITS FALSE NEIGHBOUR: 'it returns false'. Refute it at one input. -/
def numRingWrong : ChangeSpec := { name := "numRing", fn := fun _ => fun
  | [d1, d2, d3] => { results := [.lit (.bool false)], args := [d1, d2, d3] }
  | _ => none }
def NumRingWrongFalsely : Prop := numRingRow.holds Tryd.pinned (OpenSpec.ofChange numRingWrong)

/-- 'wicketgatelaw1.LikeMatches': WHATEVER THE INPUT: true; the input reads as it did. -/
def likeMatchesSpec : ChangeSpec := { name := "likeMatches", fn := fun _ => fun
  | [d1, d2] => { results := [.lit (.bool true)], args := [d1, d2] }
  | _ => none }
def likeMatchesRow : OpenClaim := { program := "ytbaccefcgblagaadoor", sum := "0fea8a504445f347fc293fcdf310a39404b1a41a389e16f05de5fd459617ffea", func := "wicketgate/wicketgatelaw1.LikeMatches", spec := "likeMatches", inPlace := ["internal/reflectlite.ValueOf", "(internal/reflectlite.Value).Type", "(internal/reflectlite.Value).IsNil", "internal/reflectlite.TypeOf", "(internal/reflectlite.Value).Elem", "(internal/reflectlite.Value).Set"], unfollowed := true, recurses := true, named := ["errors.errorType"], apart := false, laid := [("errors.errorType", laid_errors_errorType)] }
def LikeMatchesSaid : Prop := likeMatchesRow.holds Tryd.pinned (OpenSpec.ofChange likeMatchesSpec)

/-- ITS FALSE NEIGHBOUR: 'it returns false'. Refute it at one input. -/
def likeMatchesWrong : ChangeSpec := { name := "likeMatches", fn := fun _ => fun
  | [d1, d2] => { results := [.lit (.bool false)], args := [d1, d2] }
  | _ => none }
def LikeMatchesWrongFalsely : Prop := likeMatchesRow.holds Tryd.pinned (OpenSpec.ofChange likeMatchesWrong)

/-- 'wicketgatelaw1.LikeShort': WHATEVER THE INPUT: true; the input reads as it did. -/
def likeShortSpec : ChangeSpec := { name := "likeShort", fn := fun _ => fun
  | [d1, d2] => { results := [.lit (.bool true)], args := [d1, d2] }
  | _ => none }
def likeShortRow : OpenClaim := { program := "ytbaccefcgblagaadoor", sum := "0fea8a504445f347fc293fcdf310a39404b1a41a389e16f05de5fd459617ffea", func := "wicketgate/wicketgatelaw1.LikeShort", spec := "likeShort", inPlace := ["internal/abi.NoEscape", "internal/reflectlite.ValueOf", "(internal/reflectlite.Value).Type", "(internal/reflectlite.Value).IsNil", "internal/reflectlite.TypeOf", "(internal/reflectlite.Value).Elem", "(internal/reflectlite.Value).Set"], unfollowed := true, recurses := true, named := ["errors.errorType"], apart := false, laid := [("errors.errorType", laid_errors_errorType)] }
def LikeShortSaid : Prop := likeShortRow.holds Tryd.pinned (OpenSpec.ofChange likeShortSpec)

/-- ITS FALSE NEIGHBOUR: 'it returns false'. Refute it at one input. -/
def likeShortWrong : ChangeSpec := { name := "likeShort", fn := fun _ => fun
  | [d1, d2] => { results := [.lit (.bool false)], args := [d1, d2] }
  | _ => none }
def LikeShortWrongFalsely : Prop := likeShortRow.holds Tryd.pinned (OpenSpec.ofChange likeShortWrong)

/-- 'wicketgatelaw1.ValChecks': WHATEVER THE INPUT: true; the input reads as it did. -/
def valChecksSpec : ChangeSpec := { name := "valChecks", fn := fun _ => fun
  | [d1, d2] => { results := [.lit (.bool true)], args := [d1, d2] }
  | _ => none }
def valChecksRow : OpenClaim := { program := "ytbaccefcgblagaadoor", sum := "0fea8a504445f347fc293fcdf310a39404b1a41a389e16f05de5fd459617ffea", func := "wicketgate/wicketgatelaw1.ValChecks", spec := "valChecks", inPlace := ["internal/bytealg.abigen_runtime_cmpstring", "internal/reflectlite.ValueOf", "(internal/reflectlite.Value).Type", "(internal/reflectlite.Value).IsNil", "internal/reflectlite.TypeOf", "(internal/reflectlite.Value).Elem", "(internal/reflectlite.Value).Set"], unfollowed := true, recurses := true, named := ["errors.errorType"], apart := false, laid := [("errors.errorType", laid_errors_errorType)] }
def ValChecksSaid : Prop := valChecksRow.holds Tryd.pinned (OpenSpec.ofChange valChecksSpec)

/-- ITS FALSE NEIGHBOUR: 'it returns false'. Refute it at one input. -/
def valChecksWrong : ChangeSpec := { name := "valChecks", fn := fun _ => fun
  | [d1, d2] => { results := [.lit (.bool false)], args := [d1, d2] }
  | _ => none }
def ValChecksWrongFalsely : Prop := valChecksRow.holds Tryd.pinned (OpenSpec.ofChange valChecksWrong)

/-- 'wicketgatelaw1.LikeJust': WHATEVER THE INPUT: true; the input reads as it did. -/
def likeJustSpec : ChangeSpec := { name := "likeJust", fn := fun _ => fun
  | [d1, d2] => { results := [.lit (.bool true)], args := [d1, d2] }
  | _ => none }
def likeJustRow : OpenClaim := { program := "ytbaccefcgblagaadoor", sum := "0fea8a504445f347fc293fcdf310a39404b1a41a389e16f05de5fd459617ffea", func := "wicketgate/wicketgatelaw1.LikeJust", spec := "likeJust", inPlace := ["internal/bytealg.CountString", "internal/bytealg.IndexByteString", "internal/bytealg.IndexString", "internal/abi.NoEscape", "internal/bytealg.MakeNoZero"], named := ["internal/bytealg.MaxLen", "unicode/utf8.first", "unicode/utf8.acceptRanges"], apart := false, laid := [("unicode/utf8.acceptRanges", laid_unicode_utf8_acceptRanges), ("unicode/utf8.first", laid_unicode_utf8_first)] }
def LikeJustSaid : Prop := likeJustRow.holds Tryd.pinned (OpenSpec.ofChange likeJustSpec)

/-- ITS FALSE NEIGHBOUR: 'it returns false'. Refute it at one input. -/
def likeJustWrong : ChangeSpec := { name := "likeJust", fn := fun _ => fun
  | [d1, d2] => { results := [.lit (.bool false)], args := [d1, d2] }
  | _ => none }
def LikeJustWrongFalsely : Prop := likeJustRow.holds Tryd.pinned (OpenSpec.ofChange likeJustWrong)

/-- 'wicketgatelaw1.LikeBegins': WHATEVER THE INPUT: true; the input reads as it did. -/
def likeBeginsSpec : ChangeSpec := { name := "likeBegins", fn := fun _ => fun
  | [d1, d2] => { results := [.lit (.bool true)], args := [d1, d2] }
  | _ => none }
def likeBeginsRow : OpenClaim := { program := "ytbaccefcgblagaadoor", sum := "0fea8a504445f347fc293fcdf310a39404b1a41a389e16f05de5fd459617ffea", func := "wicketgate/wicketgatelaw1.LikeBegins", spec := "likeBegins", inPlace := ["internal/bytealg.CountString", "internal/bytealg.IndexByteString", "internal/bytealg.IndexString", "internal/abi.NoEscape", "internal/bytealg.MakeNoZero"], named := ["internal/bytealg.MaxLen", "unicode/utf8.first", "unicode/utf8.acceptRanges"], apart := false, laid := [("unicode/utf8.acceptRanges", laid_unicode_utf8_acceptRanges), ("unicode/utf8.first", laid_unicode_utf8_first)] }
def LikeBeginsSaid : Prop := likeBeginsRow.holds Tryd.pinned (OpenSpec.ofChange likeBeginsSpec)

/-- ITS FALSE NEIGHBOUR: 'it returns false'. Refute it at one input. -/
def likeBeginsWrong : ChangeSpec := { name := "likeBegins", fn := fun _ => fun
  | [d1, d2] => { results := [.lit (.bool false)], args := [d1, d2] }
  | _ => none }
def LikeBeginsWrongFalsely : Prop := likeBeginsRow.holds Tryd.pinned (OpenSpec.ofChange likeBeginsWrong)

/- THE SECOND FORM. 'bulk': how many values and letters a reading holds, each counted each time it is reached (what is shared counts as often as it is met; a slice's spare places count too). A statement '..UptoSaid' is the law's where the arguments, and the package variables that the reading takes, are together of bulk at most 1048576: NARROWER than '..Said'. Prove '..Said' where nothing that the law and all that it calls make is longer than what came in: it says more and counts as full. Else prove '..UptoSaid'. A law counts once. -/
mutual
def uptoBulk {H : Type} : DataW H → Nat
  | .lit (.string bytes) => bytes.length + 1
  | .lit _ => 1
  | .nil => 1
  | .ptr d => uptoBulk d + 1
  | .slice elems spare => uptoBulkAll elems + uptoBulkAll spare + 1
  | .agg parts => uptoBulkAll parts + 1
  | .iface _ d => uptoBulk d + 1
  | .map entries => uptoBulkEntries entries + 1
  | .held _ => 1
def uptoBulkAll {H : Type} : List (DataW H) → Nat
  | [] => 0
  | d :: r => uptoBulk d + uptoBulkAll r
def uptoBulkEntries {H : Type} : List (Lit × DataW H) → Nat
  | [] => 0
  | x :: r => uptoBulkEntry x + uptoBulkEntries r
def uptoBulkEntry {H : Type} : Lit × DataW H → Nat
  | (.string bytes, d) => bytes.length + uptoBulk d + 1
  | (_, d) => uptoBulk d + 1
 end
def uptoSmall : (H : Type) → List (DataW H) → Bool := fun _ ds => decide (uptoBulkAll ds ≤ 1048576)
def OpenSpec.upto (s : _root_.Go.ChangeSpec) : _root_.Go.OpenSpec := { _root_.Go.OpenSpec.ofChange s with cond := some uptoSmall }

/-- 'wicketgatelaw1.NameChecks', WHERE WHAT IT READS IS OF BULK AT MOST 1048576: true; the input reads as it did. -/
def nameChecksUptoRow : OpenClaim := { program := "ytbaccefcgblagaadoor", sum := "0fea8a504445f347fc293fcdf310a39404b1a41a389e16f05de5fd459617ffea", func := "wicketgate/wicketgatelaw1.NameChecks", spec := "nameChecks", inPlace := ["internal/reflectlite.ValueOf", "(internal/reflectlite.Value).Type", "(internal/reflectlite.Value).IsNil", "internal/reflectlite.TypeOf", "(internal/reflectlite.Value).Elem", "(internal/reflectlite.Value).Set"], unfollowed := true, recurses := true, named := ["errors.errorType"], apart := false, laid := [("errors.errorType", laid_errors_errorType)], narrowed := true }
def NameChecksUptoSaid : Prop := nameChecksUptoRow.holds Tryd.pinned (OpenSpec.upto nameChecksSpec)

/-- 'wicketgatelaw1.NumDoes', WHERE WHAT IT READS IS OF BULK AT MOST 1048576: true; the input reads as it did. -/
def numDoesUptoRow : OpenClaim := { program := "ytbaccefcgblagaadoor", sum := "0fea8a504445f347fc293fcdf310a39404b1a41a389e16f05de5fd459617ffea", func := "wicketgate/wicketgatelaw1.NumDoes", spec := "numDoes", inPlace := ["internal/reflectlite.ValueOf", "(internal/reflectlite.Value).Type", "(internal/reflectlite.Value).IsNil", "internal/reflectlite.TypeOf", "(internal/reflectlite.Value).Elem", "(internal/reflectlite.Value).Set"], unfollowed := true, recurses := true, named := ["errors.errorType"], apart := false, laid := [("errors.errorType", laid_errors_errorType)], narrowed := true }
def NumDoesUptoSaid : Prop := numDoesUptoRow.holds Tryd.pinned (OpenSpec.upto numDoesSpec)

/-- 'wicketgatelaw1.NumRing', WHERE WHAT IT READS IS OF BULK AT MOST 1048576: true; the input reads as it did. -/
def numRingUptoRow : OpenClaim := { program := "ytbaccefcgblagaadoor", sum := "0fea8a504445f347fc293fcdf310a39404b1a41a389e16f05de5fd459617ffea", func := "wicketgate/wicketgatelaw1.NumRing", spec := "numRing", inPlace := ["internal/reflectlite.ValueOf", "(internal/reflectlite.Value).Type", "(internal/reflectlite.Value).IsNil", "internal/reflectlite.TypeOf", "(internal/reflectlite.Value).Elem", "(internal/reflectlite.Value).Set"], unfollowed := true, recurses := true, named := ["errors.errorType"], apart := false, laid := [("errors.errorType", laid_errors_errorType)], narrowed := true }
def NumRingUptoSaid : Prop := numRingUptoRow.holds Tryd.pinned (OpenSpec.upto numRingSpec)

/-- 'wicketgatelaw1.LikeMatches', WHERE WHAT IT READS IS OF BULK AT MOST 1048576: true; the input reads as it did. -/
def likeMatchesUptoRow : OpenClaim := { program := "ytbaccefcgblagaadoor", sum := "0fea8a504445f347fc293fcdf310a39404b1a41a389e16f05de5fd459617ffea", func := "wicketgate/wicketgatelaw1.LikeMatches", spec := "likeMatches", inPlace := ["internal/reflectlite.ValueOf", "(internal/reflectlite.Value).Type", "(internal/reflectlite.Value).IsNil", "internal/reflectlite.TypeOf", "(internal/reflectlite.Value).Elem", "(internal/reflectlite.Value).Set"], unfollowed := true, recurses := true, named := ["errors.errorType"], apart := false, laid := [("errors.errorType", laid_errors_errorType)], narrowed := true }
def LikeMatchesUptoSaid : Prop := likeMatchesUptoRow.holds Tryd.pinned (OpenSpec.upto likeMatchesSpec)

/-- 'wicketgatelaw1.LikeShort', WHERE WHAT IT READS IS OF BULK AT MOST 1048576: true; the input reads as it did. -/
def likeShortUptoRow : OpenClaim := { program := "ytbaccefcgblagaadoor", sum := "0fea8a504445f347fc293fcdf310a39404b1a41a389e16f05de5fd459617ffea", func := "wicketgate/wicketgatelaw1.LikeShort", spec := "likeShort", inPlace := ["internal/abi.NoEscape", "internal/reflectlite.ValueOf", "(internal/reflectlite.Value).Type", "(internal/reflectlite.Value).IsNil", "internal/reflectlite.TypeOf", "(internal/reflectlite.Value).Elem", "(internal/reflectlite.Value).Set"], unfollowed := true, recurses := true, named := ["errors.errorType"], apart := false, laid := [("errors.errorType", laid_errors_errorType)], narrowed := true }
def LikeShortUptoSaid : Prop := likeShortUptoRow.holds Tryd.pinned (OpenSpec.upto likeShortSpec)

/-- 'wicketgatelaw1.ValChecks', WHERE WHAT IT READS IS OF BULK AT MOST 1048576: true; the input reads as it did. -/
def valChecksUptoRow : OpenClaim := { program := "ytbaccefcgblagaadoor", sum := "0fea8a504445f347fc293fcdf310a39404b1a41a389e16f05de5fd459617ffea", func := "wicketgate/wicketgatelaw1.ValChecks", spec := "valChecks", inPlace := ["internal/bytealg.abigen_runtime_cmpstring", "internal/reflectlite.ValueOf", "(internal/reflectlite.Value).Type", "(internal/reflectlite.Value).IsNil", "internal/reflectlite.TypeOf", "(internal/reflectlite.Value).Elem", "(internal/reflectlite.Value).Set"], unfollowed := true, recurses := true, named := ["errors.errorType"], apart := false, laid := [("errors.errorType", laid_errors_errorType)], narrowed := true }
def ValChecksUptoSaid : Prop := valChecksUptoRow.holds Tryd.pinned (OpenSpec.upto valChecksSpec)

/-- 'wicketgatelaw1.LikeJust', WHERE WHAT IT READS IS OF BULK AT MOST 1048576: true; the input reads as it did. -/
def likeJustUptoRow : OpenClaim := { program := "ytbaccefcgblagaadoor", sum := "0fea8a504445f347fc293fcdf310a39404b1a41a389e16f05de5fd459617ffea", func := "wicketgate/wicketgatelaw1.LikeJust", spec := "likeJust", inPlace := ["internal/bytealg.CountString", "internal/bytealg.IndexByteString", "internal/bytealg.IndexString", "internal/abi.NoEscape", "internal/bytealg.MakeNoZero"], named := ["internal/bytealg.MaxLen", "unicode/utf8.first", "unicode/utf8.acceptRanges"], apart := false, laid := [("unicode/utf8.acceptRanges", laid_unicode_utf8_acceptRanges), ("unicode/utf8.first", laid_unicode_utf8_first)], narrowed := true }
def LikeJustUptoSaid : Prop := likeJustUptoRow.holds Tryd.pinned (OpenSpec.upto likeJustSpec)

/-- 'wicketgatelaw1.LikeBegins', WHERE WHAT IT READS IS OF BULK AT MOST 1048576: true; the input reads as it did. -/
def likeBeginsUptoRow : OpenClaim := { program := "ytbaccefcgblagaadoor", sum := "0fea8a504445f347fc293fcdf310a39404b1a41a389e16f05de5fd459617ffea", func := "wicketgate/wicketgatelaw1.LikeBegins", spec := "likeBegins", inPlace := ["internal/bytealg.CountString", "internal/bytealg.IndexByteString", "internal/bytealg.IndexString", "internal/abi.NoEscape", "internal/bytealg.MakeNoZero"], named := ["internal/bytealg.MaxLen", "unicode/utf8.first", "unicode/utf8.acceptRanges"], apart := false, laid := [("unicode/utf8.acceptRanges", laid_unicode_utf8_acceptRanges), ("unicode/utf8.first", laid_unicode_utf8_first)], narrowed := true }
def LikeBeginsUptoSaid : Prop := likeBeginsUptoRow.holds Tryd.pinned (OpenSpec.upto likeBeginsSpec)

end Rows
end Go.Proofs.YtbaccefcgblagaaDoor
