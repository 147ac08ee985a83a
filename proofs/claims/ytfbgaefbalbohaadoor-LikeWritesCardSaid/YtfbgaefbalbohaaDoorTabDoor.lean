/-
  A world that meets the condition on the listed tables (unicode/utf8's) and on errors.errorType; the walk's fact on its cell.
-/
import Derived.Test.YtfbgaefbalbohaaDoorDoor
import Derived.Test.YtfbgaefbalbohaaDoorTabs
namespace Go.Proofs.YtfbgaefbalbohaaDoor
open Go.ChangeShapes Go.WideShapes Go.RowKit

def bothList : List (String × DataW Unit) := [("unicode/utf8.acceptRanges", Rows.laid_unicode_utf8_acceptRanges), ("errors.errorType", laidOne), ("unicode/utf8.first", Rows.laid_unicode_utf8_first)]
theorem handle_of_both {W : World} (h : laidMetH Tryd.prog bothList W) : Door W := by
  obtain ⟨-, h2⟩ := h
  refine handle_of_laid ⟨laidMet_nil _ _, fun x hx => h2 x ?_⟩
  have hx' : x = ("errors.errorType", laidOne) := List.mem_singleton.1 hx
  subst hx'
  exact List.mem_cons_self ..
noncomputable def bothWorld (os : Os) : World :=
  let w0 := tabWorld os
  { w0 with heap := w0.heap.modify 0 fun
      | .cells _ t frozen => .cells #[.iface 156 (.agg #[.pointer (some ⟨4, 23, none⟩)])] t frozen
      | o => o }
theorem bothWorld_met (os : Os) (args : Array Value) : laidMetH Tryd.prog bothList ((bothWorld os).forCall (fun _ _ => 0) ⟨#[], args, []⟩).memory :=
  laidMetH_of_parts (laidMet_of_run' 8 (by kernel_rfl) (by kernel_rfl)) (by kernel_rfl)
end Go.Proofs.YtfbgaefbalbohaaDoor
