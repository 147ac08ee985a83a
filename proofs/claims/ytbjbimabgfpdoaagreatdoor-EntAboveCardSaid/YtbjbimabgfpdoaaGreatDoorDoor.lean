/-
  From the condition on the one listed variable (errors.errorType) to the walk's fact on its cell; a world that meets it.
-/
import Derived.Test.YtbjbimabgfpdoaaGreatDoorTold
import Derived.ChangeSame
import Derived.ChangeVars
import Derived.JoinedOf
import Derived.LaidLaws
import Derived.LaidHandle
import Derived.Stop.Joined
namespace Go.Proofs.YtbjbimabgfpdoaaGreatDoor
open Go.ChangeShapes Go.WideShapes Go.RowKit

def laidOne : DataW Unit := Rows.laid_errors_errorType
def rtName : String := match laidOne with | .iface n _ => n | _ => ""
theorem rt_found : (Tryz.prog.cutTypes.find? (·.1 == rtName)).map (·.2) = some 166 := by kernel_rfl
theorem et_found : Tryz.prog.globalNamed "errors.errorType" = some 0 := by kernel_rfl
theorem oneRow : ((List.range 314).filter fun t => Tryz.prog.rowNamed t [101, 114, 114, 111, 114]) = [25] := by kernel_rfl
theorem typesSize : Tryz.prog.types.size = 314 := by kernel_rfl

def laidList : List (String × DataW Unit) := [("errors.errorType", laidOne)]
theorem handle_of_laid {W : World} (h : laidMetH Tryz.prog laidList W) : Door W := by
  have h' : laidMet Tryz.prog [] W ∧ handlesMet Tryz.prog laidList W := h
  obtain ⟨name, u, ty, e1, e2, e3, e4, e5⟩ := h'.2 _ (List.mem_singleton.2 rfl)
  have en : name = [101, 114, 114, 111, 114] := (Option.some.inj e1).symm
  subst en
  obtain rfl := Option.some.inj (rt_found.symm.trans e2)
  have hm : ty ∈ (List.range 314).filter fun t => Tryz.prog.rowNamed t [101, 114, 114, 111, 114] := List.mem_filter.2 ⟨List.mem_range.2 (by rw [← typesSize]; exact e3), e4⟩
  rw [oneRow] at hm
  obtain rfl := List.mem_singleton.1 hm
  have hh : typeHandle Tryz.prog 25 = .pointer (some ⟨2, 25, none⟩) := by kernel_rfl
  rw [hh] at e5
  have := World.var?_cell et_found e5 0
  exact this

noncomputable def laidWorld (os : Os) : World :=
  let w0 := World.holding Tryz.prog os ⟨#[], #[], []⟩
  { w0 with heap := w0.heap.modify 0 fun
      | .cells _ t frozen => .cells #[.iface 166 (.agg #[.pointer (some ⟨2, 25, none⟩)])] t frozen
      | o => o }
theorem laidWorld_met (os : Os) (args : Array Value) : laidMetH Tryz.prog laidList ((laidWorld os).forCall (fun _ _ => 0) ⟨#[], args, []⟩).memory :=
  laidMetH_of_parts (laidMet_nil _ _) (by kernel_rfl)
end Go.Proofs.YtbjbimabgfpdoaaGreatDoor
