/-
  NumDoes: the walk of the law.
-/
import Derived.Test.YtbaccefcgblagaaDoorNum
import Derived.Test.YtbaccefcgblagaaDoorTold
namespace Go.Proofs.YtbaccefcgblagaaDoor
open Go.RowKit Go.Wk

theorem fact_NumDoesV : numV 19 3 (-4) = -12 := by decide +kernel
theorem fact_NumDoesE : numE 19 3 (-4) = 0 := by decide +kernel

set_option maxHeartbeats 1000000 in
theorem NumDoes_walk (op a b : Int) (w : World) (_o1 : -9223372036854775808 ≤ op) (_o2 : op ≤ 9223372036854775807) (a1 : -9223372036854775808 ≤ a) (a2 : a ≤ 9223372036854775807) (b1 : -9223372036854775808 ≤ b) (b2 : b ≤ 9223372036854775807) (hg : Door w) :
    Calls Tryd.prog 4 #[.int .i64 op, .int .i64 a, .int .i64 b] w fun e w' => e = .returned (.bool true) ∧ Below w.heap.size w w' := by
  have K0 := Lib.hid (fun w => num_Do 19 3 (-4) w (by unfold I64; omega) (by unfold I64; omega))
  rw [fact_NumDoesV, fact_NumDoesE] at K0
  have K1 := Lib.hid (fun w => ref_Done op a b w ⟨a1, a2⟩ ⟨b1, b2⟩)
  have K2 := Lib.hid (fun w => num_Do op a b w ⟨a1, a2⟩ ⟨b1, b2⟩)
  have K3 := Lib.hid (fun w => ref_Done 18 0 a w (by unfold I64; omega) ⟨a1, a2⟩)
  have K4 := Lib.hid (fun w => num_Neg a w ⟨a1, a2⟩)
  generalize numV op a b = x at *
  generalize numE op a b = y at *
  generalize numV 18 0 a = u at *
  generalize numE 18 0 a = v at *
  go_enter Tryd.func4, Tryd.ntmps4
  go_wp2_with fail
  refine (K0.out _).mono ?_
  rintro e w1 ⟨rfl, rfl⟩
  rw [errV_zero]
  go_wp2_with fail
  refine (K1.out _).mono ?_
  rintro e w1 ⟨rfl, rfl⟩
  go_wp2_with fail
  refine (K2.out _).mono ?_
  rintro e w1 ⟨rfl, rfl⟩
  go_wp2_with fail
  refine (same_Error _ _ _ hg).mono ?_
  rintro e w1 ⟨rfl, hb1⟩
  have g1 := hg.keep hb1
  rw [beq_self_eq_true]
  go_wp2_with fail
  refine (K3.out _).mono ?_
  rintro e w2 ⟨rfl, rfl⟩
  go_wp2_with fail
  refine (K4.out _).mono ?_
  rintro e w2 ⟨rfl, rfl⟩
  go_wp2_with fail
  refine (same_Error _ _ _ g1).mono ?_
  rintro e w2 ⟨rfl, hb2⟩
  rw [beq_self_eq_true]
  go_wp2
  go_ret
  exact ⟨rfl, hb1.trans (hb2.mono hb1.size)⟩
end Go.Proofs.YtbaccefcgblagaaDoor
