/-
  No cell of these rows narrows 'for every input' (looked for: loops, veiled, ifaces, maps, wideKeys, modest, calm, conditions, laid).
  DERIVED. THE GIVEN ROWS OF THIS SEAT. 5 by the template 'for every input the law returns true; each argument reads behind the call as it read before'; 0 by the template 'total and deterministic' (their statements: YtocchkmhnneiiaaTotals.lean).
  GIVEN WITH THE SEED: the statements are not yours to turn. If you find one false, say at which input.
  Laid BY PROGRAM, IN A SANDBOX (cutbox-rows.mjs): the forced cells as the released guide's own fill.sh prints them over the translation 4a88f8fdf64c792e… (all of the seat's roots in one cut). By AI agents, Wed Nov 11 2026. No macro, syntax, notation, axiom, sorry.
-/
import Derived.Test.YtocchkmhnneiiaaChecked
import GoSem.Claim
import GoSem.ClaimJoined
import GoSem.ClaimMapViews
import Derived.JoinedTies
import Derived.KernelRfl
namespace Go.Proofs.Ytocchkmhnneiiaa
/- THE CELL 'sum', in the pinned program and in every row, IS THE sha256 OF THE DUMP (.gsa) THAT YtocchkmhnneiiaaProg.lean LOADS. Nothing in Lean hashes anything: it is a label: what it is worth is what the hold of that sum in a sandbox is worth. -/
noncomputable def Try.pinned : Pinned := { name := "ytocchkmhnneiiaa", sum := "4a88f8fdf64c792e631a1239f90f83d0239950fa4c2f096831233d3830fb79e4", checked := Try.checked }
namespace Rows
def none {H : Type} : Left H := { results := [], args := [] }

/-- 'wicketgatelaw3.KindsLeast': WHATEVER THE INPUT: true; the input reads as it did. -/
def kindsLeastSpec : ChangeSpec := { name := "kindsLeast", fn := fun _ => fun
  | [d1, d2, d3] => { results := [.lit (.bool true)], args := [d1, d2, d3] }
  | _ => none }
def kindsLeastRow : OpenClaim := { program := "ytocchkmhnneiiaa", sum := "4a88f8fdf64c792e631a1239f90f83d0239950fa4c2f096831233d3830fb79e4", func := "wicketgate/wicketgatelaw3.KindsLeast", spec := "kindsLeast", inPlace := ["internal/bytealg.abigen_runtime_cmpstring"], unfollowed := true, recurses := true, apart := false }
def KindsLeastSaid : Prop := kindsLeastRow.holds Try.pinned (OpenSpec.ofChange kindsLeastSpec)

/-- ITS FALSE NEIGHBOUR: 'it returns false'. Refute it at one input. -/
def kindsLeastWrong : ChangeSpec := { name := "kindsLeast", fn := fun _ => fun
  | [d1, d2, d3] => { results := [.lit (.bool false)], args := [d1, d2, d3] }
  | _ => none }
def KindsLeastWrongFalsely : Prop := kindsLeastRow.holds Try.pinned (OpenSpec.ofChange kindsLeastWrong)

/-- 'wicketgatelaw3.KindsJoined': WHATEVER THE INPUT: true; the input reads as it did. -/
def kindsJoinedSpec : ChangeSpec := { name := "kindsJoined", fn := fun _ => fun
  | [d1, d2, d3] => { results := [.lit (.bool true)], args := [d1, d2, d3] }
  | _ => none }
def kindsJoinedRow : OpenClaim := { program := "ytocchkmhnneiiaa", sum := "4a88f8fdf64c792e631a1239f90f83d0239950fa4c2f096831233d3830fb79e4", func := "wicketgate/wicketgatelaw3.KindsJoined", spec := "kindsJoined", inPlace := ["internal/bytealg.abigen_runtime_cmpstring"], unfollowed := true, recurses := true, apart := false }
def KindsJoinedSaid : Prop := kindsJoinedRow.holds Try.pinned (OpenSpec.ofChange kindsJoinedSpec)

/-- ITS FALSE NEIGHBOUR: 'it returns false'. Refute it at one input. -/
def kindsJoinedWrong : ChangeSpec := { name := "kindsJoined", fn := fun _ => fun
  | [d1, d2, d3] => { results := [.lit (.bool false)], args := [d1, d2, d3] }
  | _ => none }
def KindsJoinedWrongFalsely : Prop := kindsJoinedRow.holds Try.pinned (OpenSpec.ofChange kindsJoinedWrong)

/-- 'wicketgatelaw3.KindsOrder': WHATEVER THE INPUT: true; the input reads as it did. -/
def kindsOrderSpec : ChangeSpec := { name := "kindsOrder", fn := fun _ => fun
  | [d1, d2, d3] => { results := [.lit (.bool true)], args := [d1, d2, d3] }
  | _ => none }
def kindsOrderRow : OpenClaim := { program := "ytocchkmhnneiiaa", sum := "4a88f8fdf64c792e631a1239f90f83d0239950fa4c2f096831233d3830fb79e4", func := "wicketgate/wicketgatelaw3.KindsOrder", spec := "kindsOrder", inPlace := ["internal/bytealg.abigen_runtime_cmpstring"], unfollowed := true, recurses := true, apart := false }
def KindsOrderSaid : Prop := kindsOrderRow.holds Try.pinned (OpenSpec.ofChange kindsOrderSpec)

/-- ITS FALSE NEIGHBOUR: 'it returns false'. Refute it at one input. -/
def kindsOrderWrong : ChangeSpec := { name := "kindsOrder", fn := fun _ => fun
  | [d1, d2, d3] => { results := [.lit (.bool false)], args := [d1, d2, d3] }
  | _ => none }
def KindsOrderWrongFalsely : Prop := kindsOrderRow.holds Try.pinned (OpenSpec.ofChange kindsOrderWrong)

/-- 'wicketgatelaw3.KindsFits': WHATEVER THE INPUT: true; the input reads as it did. -/
def kindsFitsSpec : ChangeSpec := { name := "kindsFits", fn := fun _ => fun
  | [d1, d2, d3] => { results := [.lit (.bool true)], args := [d1, d2, d3] }
  | _ => none }
def kindsFitsRow : OpenClaim := { program := "ytocchkmhnneiiaa", sum := "4a88f8fdf64c792e631a1239f90f83d0239950fa4c2f096831233d3830fb79e4", func := "wicketgate/wicketgatelaw3.KindsFits", spec := "kindsFits", inPlace := ["internal/bytealg.abigen_runtime_cmpstring"], unfollowed := true, recurses := true, apart := false }
def KindsFitsSaid : Prop := kindsFitsRow.holds Try.pinned (OpenSpec.ofChange kindsFitsSpec)

/-- ITS FALSE NEIGHBOUR: 'it returns false'. Refute it at one input. -/
def kindsFitsWrong : ChangeSpec := { name := "kindsFits", fn := fun _ => fun
  | [d1, d2, d3] => { results := [.lit (.bool false)], args := [d1, d2, d3] }
  | _ => none }
def KindsFitsWrongFalsely : Prop := kindsFitsRow.holds Try.pinned (OpenSpec.ofChange kindsFitsWrong)

/-- 'wicketgatelaw3.KindsOwn': WHATEVER THE INPUT: true; the input reads as it did. -/
def kindsOwnSpec : ChangeSpec := { name := "kindsOwn", fn := fun _ => fun
  | [d1, d2] => { results := [.lit (.bool true)], args := [d1, d2] }
  | _ => none }
def kindsOwnRow : OpenClaim := { program := "ytocchkmhnneiiaa", sum := "4a88f8fdf64c792e631a1239f90f83d0239950fa4c2f096831233d3830fb79e4", func := "wicketgate/wicketgatelaw3.KindsOwn", spec := "kindsOwn", inPlace := ["internal/bytealg.abigen_runtime_cmpstring"], unfollowed := true, recurses := true, apart := false }
def KindsOwnSaid : Prop := kindsOwnRow.holds Try.pinned (OpenSpec.ofChange kindsOwnSpec)

/-- ITS FALSE NEIGHBOUR: 'it returns false'. Refute it at one input. -/
def kindsOwnWrong : ChangeSpec := { name := "kindsOwn", fn := fun _ => fun
  | [d1, d2] => { results := [.lit (.bool false)], args := [d1, d2] }
  | _ => none }
def KindsOwnWrongFalsely : Prop := kindsOwnRow.holds Try.pinned (OpenSpec.ofChange kindsOwnWrong)

/- THE SECOND FORM. 'bulk': how many values and letters a reading holds, each counted each time it is reached (what is shared counts as often as it is met; a slice's spare places count too). A statement '..UptoSaid' is the law's where the arguments, and the package variables that the reading takes, are together of bulk at most 1048576: NARROWER than '..Said'. Prove '..Said' where nothing that the law and all that it calls make is longer than what came in: it says more and counts as full. Else prove '..UptoSaid'. A law counts once. -/
mutual
def uptoBulk {H : Type} : DataW H → Nat
  | .lit (.string bytes) => bytes.length + 1
  | .lit _ => 1
  | .nil => 1
  | .ptr d => uptoBulk d + 1
  | .slice elems spare => uptoBulkAll elems + uptoBulkAll spare + 1
  | .agg parts => uptoBulkAll parts + 1
  | .iface _ d => uptoBulk d + 1
  | .map entries => uptoBulkEntries entries + 1
  | .held _ => 1
def uptoBulkAll {H : Type} : List (DataW H) → Nat
  | [] => 0
  | d :: r => uptoBulk d + uptoBulkAll r
def uptoBulkEntries {H : Type} : List (Lit × DataW H) → Nat
  | [] => 0
  | x :: r => uptoBulkEntry x + uptoBulkEntries r
def uptoBulkEntry {H : Type} : Lit × DataW H → Nat
  | (.string bytes, d) => bytes.length + uptoBulk d + 1
  | (_, d) => uptoBulk d + 1
 end
def uptoSmall : (H : Type) → List (DataW H) → Bool := fun _ ds => decide (uptoBulkAll ds ≤ 1048576)
def OpenSpec.upto (s : _root_.Go.ChangeSpec) : _root_.Go.OpenSpec := { _root_.Go.OpenSpec.ofChange s with cond := some uptoSmall }

/-- 'wicketgatelaw3.KindsLeast', WHERE WHAT IT READS IS OF BULK AT MOST 1048576: true; the input reads as it did. -/
def kindsLeastUptoRow : OpenClaim := { program := "ytocchkmhnneiiaa", sum := "4a88f8fdf64c792e631a1239f90f83d0239950fa4c2f096831233d3830fb79e4", func := "wicketgate/wicketgatelaw3.KindsLeast", spec := "kindsLeast", inPlace := ["internal/bytealg.abigen_runtime_cmpstring"], unfollowed := true, recurses := true, apart := false, narrowed := true }
def KindsLeastUptoSaid : Prop := kindsLeastUptoRow.holds Try.pinned (OpenSpec.upto kindsLeastSpec)

/-- 'wicketgatelaw3.KindsJoined', WHERE WHAT IT READS IS OF BULK AT MOST 1048576: true; the input reads as it did. -/
def kindsJoinedUptoRow : OpenClaim := { program := "ytocchkmhnneiiaa", sum := "4a88f8fdf64c792e631a1239f90f83d0239950fa4c2f096831233d3830fb79e4", func := "wicketgate/wicketgatelaw3.KindsJoined", spec := "kindsJoined", inPlace := ["internal/bytealg.abigen_runtime_cmpstring"], unfollowed := true, recurses := true, apart := false, narrowed := true }
def KindsJoinedUptoSaid : Prop := kindsJoinedUptoRow.holds Try.pinned (OpenSpec.upto kindsJoinedSpec)

/-- 'wicketgatelaw3.KindsOrder', WHERE WHAT IT READS IS OF BULK AT MOST 1048576: true; the input reads as it did. -/
def kindsOrderUptoRow : OpenClaim := { program := "ytocchkmhnneiiaa", sum := "4a88f8fdf64c792e631a1239f90f83d0239950fa4c2f096831233d3830fb79e4", func := "wicketgate/wicketgatelaw3.KindsOrder", spec := "kindsOrder", inPlace := ["internal/bytealg.abigen_runtime_cmpstring"], unfollowed := true, recurses := true, apart := false, narrowed := true }
def KindsOrderUptoSaid : Prop := kindsOrderUptoRow.holds Try.pinned (OpenSpec.upto kindsOrderSpec)

/-- 'wicketgatelaw3.KindsFits', WHERE WHAT IT READS IS OF BULK AT MOST 1048576: true; the input reads as it did. -/
def kindsFitsUptoRow : OpenClaim := { program := "ytocchkmhnneiiaa", sum := "4a88f8fdf64c792e631a1239f90f83d0239950fa4c2f096831233d3830fb79e4", func := "wicketgate/wicketgatelaw3.KindsFits", spec := "kindsFits", inPlace := ["internal/bytealg.abigen_runtime_cmpstring"], unfollowed := true, recurses := true, apart := false, narrowed := true }
def KindsFitsUptoSaid : Prop := kindsFitsUptoRow.holds Try.pinned (OpenSpec.upto kindsFitsSpec)

/-- 'wicketgatelaw3.KindsOwn', WHERE WHAT IT READS IS OF BULK AT MOST 1048576: true; the input reads as it did. -/
def kindsOwnUptoRow : OpenClaim := { program := "ytocchkmhnneiiaa", sum := "4a88f8fdf64c792e631a1239f90f83d0239950fa4c2f096831233d3830fb79e4", func := "wicketgate/wicketgatelaw3.KindsOwn", spec := "kindsOwn", inPlace := ["internal/bytealg.abigen_runtime_cmpstring"], unfollowed := true, recurses := true, apart := false, narrowed := true }
def KindsOwnUptoSaid : Prop := kindsOwnUptoRow.holds Try.pinned (OpenSpec.upto kindsOwnSpec)

end Rows
end Go.Proofs.Ytocchkmhnneiiaa
