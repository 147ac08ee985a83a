/-
  The library's variable internal/bytealg.MaxLen: it holds some number.
-/
import Derived.Test.YtbjbimabgfpdoaaGreatDoorBase
import Derived.Shelf.Vars
namespace Go.Proofs.YtbjbimabgfpdoaaGreatDoor
open Go.RowKit

/-- internal/bytealg.MaxLen holds some number. -/
def Max (w : World) : Prop := ∃ m : Int, w.cell? ⟨1, 0, none⟩ = some (.int .i64 m)
theorem Max.keep {w w' : World} (h : Max w) (hb : Below w.heap.size w w') : Max w' := let ⟨m, hm⟩ := h; ⟨m, cell_keep hb hm⟩
theorem max_of_shaped {w : World} (h : w.ShapedOpen Tryz.prog) : Max w :=
  cell_of_shapedOpen_int (t := 3) (zero := #[.int .i64 0]) h (of_decide_eq_true (by kernel_rfl)) (by kernel_rfl) rfl (by kernel_rfl) (by kernel_rfl) Tryz.underlying3
end Go.Proofs.YtbjbimabgfpdoaaGreatDoor
