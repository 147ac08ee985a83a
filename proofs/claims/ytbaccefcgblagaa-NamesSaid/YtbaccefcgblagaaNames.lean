/-
  Names: the walk of the law.
-/
import Derived.Test.YtbaccefcgblagaaBase
namespace Go.Proofs.Ytbaccefcgblagaa
open Go.RowKit
theorem Names_walk (w : World) : Calls Try.prog 4 #[] w fun e w' => e = .returned (.bool true) ∧ Below w.heap.size w w' := by
  go_enter Try.func4, Try.ntmps4
  go_wp2
  go_ret
  exact ⟨rfl, Below.refl _ _⟩
end Go.Proofs.Ytbaccefcgblagaa
