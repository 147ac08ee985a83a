/-
  NameChecks: the walk of the law.
-/
import Derived.Test.YtbaccefcgblagaaDoorNameRef
import Derived.Test.YtbaccefcgblagaaDoorTold
namespace Go.Proofs.YtbaccefcgblagaaDoor
open Go.RowKit Go.Wk

theorem fact_NameChecks : nameFault ⟨#[57]⟩ = 1 := by decide +kernel

set_option maxHeartbeats 1000000 in
theorem NameChecks_walk (s : ByteArray) (w : World) (hs : s.size ≤ maxLen) (hg : Door w) :
    Calls Tryd.prog 3 #[.string s] w fun e w' => e = .returned (.bool true) ∧ Below w.heap.size w w' := by
  go_enter Tryd.func3, Tryd.ntmps3
  go_wp2_with fail
  refine (name_Check s _ hs).mono ?_
  rintro e1 w1 ⟨rfl, hb1⟩
  have g1 := hg.keep hb1
  go_wp2_with fail
  refine (ref_NameFault s _ hs).mono ?_
  rintro e2 w2 ⟨rfl, rfl⟩
  go_wp2_with fail
  refine (same_Error _ _ _ g1).mono ?_
  rintro e3 w3 ⟨rfl, hb3⟩
  have g3 := g1.keep hb3
  rw [beq_self_eq_true]
  go_wp2_with fail
  refine (name_Check _ _ (by decide)).mono ?_
  rintro e4 w4 ⟨rfl, hb4⟩
  have g4 := g3.keep hb4
  rw [fact_NameChecks]
  go_wp2_with fail
  refine (same_Error 1 1 _ g4).mono ?_
  rintro e5 w5 ⟨rfl, hb5⟩
  go_wp2
  go_ret
  exact ⟨rfl, hb1.trans ((hb3.trans ((hb4.trans (hb5.mono hb4.size)).mono hb3.size)).mono hb1.size)⟩
end Go.Proofs.YtbaccefcgblagaaDoor
