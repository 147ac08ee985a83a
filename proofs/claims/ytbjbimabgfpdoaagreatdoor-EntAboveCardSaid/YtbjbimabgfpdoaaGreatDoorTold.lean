/-
  plain.Told, and the statements' Error and Told: the number of an error, nil's is 0.
-/
import Derived.Test.YtbjbimabgfpdoaaGreatDoorAs
namespace Go.Proofs.YtbjbimabgfpdoaaGreatDoor
open Go.RowKit

/-- The one package-level variable that errors.As reads, as the program's text lays it. -/
def Door (w : World) : Prop := w.cell? ⟨0, 0, none⟩ = some (.iface 166 (.agg #[.pointer (some ⟨2, 25, none⟩)]))
theorem Door.keep {w w' : World} (h : Door w) (hb : Below w.heap.size w w') : Door w' := cell_keep hb h
theorem Door.pos {w : World} (h : Door w) : 0 < w.heap.size := block_lt_of_cell h
theorem Door.alloc {w : World} (h : Door w) (o : Obj) : Door (w.alloc o) := h.keep ((Below.refl _ _).alloc (Nat.le_refl _) _)
theorem Door.drewN {w : World} (h : Door w) (n : Nat) : Door (w.drewN n) := h
theorem Door.drew {w : World} (h : Door w) : Door w.drew := h

theorem Told_nil (w : World) : Calls Tryz.prog 24 #[.nilIface] w fun e w' => e = .returned (.int .i64 0) ∧ Below w.heap.size w w' := by
  go_enter Tryz.func24, Tryz.ntmps24
  go_wp2
  go_ret
  exact ⟨rfl, Below.refl _ _⟩

set_option maxHeartbeats 1000000 in
theorem Told_err (n : Int) (w : World) (hg : Door w) : Calls Tryz.prog 24 #[.iface 27 (.int .i64 n)] w fun e w' => e = .returned (.int .i64 n) ∧ Below w.heap.size w w' := by
  have h1 := hg.alloc (.cells #[.int .i64 0] 27)
  have c1 := as_hit n ⟨w.heap.size, 0, none⟩ (.int .i64 0) (w.alloc (.cells #[.int .i64 0] 27)) h1 (by simp) (by simp)
  have C1 := Lib.hid c1
  clear c1 h1
  go_enter Tryz.func24, Tryz.ntmps24
  go_wp2_with (go_at_call 52; refine C1.out.mono ?_; rintro e w' ⟨rfl, rfl⟩)
  go_ret
  refine ⟨rfl, ?_⟩
  exact (by (repeat' (first | exact Below.refl _ _ | refine Below.alloc ?_ ?_ _ | refine Below.setCell ?_ ?_ _ | refine Below.drew ?_ | refine Below.drewN ?_ _)) <;> (try simp) <;> omega)

theorem plain_Told (n : Int) (w : World) (hg : Door w) : Calls Tryz.prog 24 #[errV n] w fun e w' => e = .returned (.int .i64 n) ∧ Below w.heap.size w w' := by
  by_cases h : n = 0
  · subst h; exact Told_nil w
  · rw [errV_ne h]; exact Told_err n w hg

theorem same_Error (n k : Int) (w : World) (hg : Door w) : Calls Tryz.prog 6 #[errV n, .int .i64 k] w fun e w' => e = .returned (.bool (n == k)) ∧ Below w.heap.size w w' := by
  have C1 := Lib.hid (plain_Told n w hg)
  go_enter Tryz.func6, Tryz.ntmps6
  go_wp2_with (go_at_call 24; refine C1.out.mono ?_; rintro e w' ⟨rfl, hb⟩)
  go_ret
  exact ⟨rfl, hb⟩

end Go.Proofs.YtbjbimabgfpdoaaGreatDoor
