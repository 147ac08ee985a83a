/-
  The reference's ValueEnd outright; ValueFault and Faults.
-/
import Derived.Test.YtlipgpddcfkllaaRefEnd2
import Derived.Test.YtlipgpddcfkllaaSls
import Derived.Test.YtlipgpddcfkllaaPartsLaw
namespace Go.Proofs.Ytlipgpddcfkllaa
open Go.RowKit Go.Wk Go.Sort
set_option maxRecDepth 100000

def slFaults (V : List Sl) : Int := faults (V.map (·.P))
theorem slFaults_at {V : List Sl} {k : Nat} (h : k < V.length) : slFaults (V.drop k) = or2 (valFault V[k].P) (slFaults (V.drop (k + 1))) := by
  unfold slFaults; rw [List.drop_eq_getElem_cons h]; rfl
theorem slFaults_end {V : List Sl} {k : Nat} (h : V.length ≤ k) : slFaults (V.drop k) = 0 := by
  unfold slFaults; rw [List.drop_of_length_le h]; rfl

end Go.Proofs.Ytlipgpddcfkllaa
