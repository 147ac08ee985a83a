/-
  LikeMatches: the walk of the law.
-/
import Derived.Test.YtbaccefcgblagaaDoorFits
import Derived.Test.YtbaccefcgblagaaDoorNameRef
import Derived.Test.YtbaccefcgblagaaDoorTold
namespace Go.Proofs.YtbaccefcgblagaaDoor
open Go.RowKit Go.Wk

theorem fact_LikeMatchesE : likeE ⟨#[97, 42]⟩ ⟨#[97, 98, 99]⟩ = 0 := by decide +kernel
theorem fact_LikeMatchesV : likeV ⟨#[97, 42]⟩ ⟨#[97, 98, 99]⟩ = true := by decide +kernel

set_option maxRecDepth 100000 in
set_option maxHeartbeats 4000000 in
theorem LikeMatches_walk (p s : ByteArray) (w : World) (hp : p.size ≤ maxLen) (hs : s.size ≤ maxLen) (hg : Door w) :
    Calls Tryd.prog 6 #[.string p, .string s] w fun e w' => e = .returned (.bool true) ∧ Below w.heap.size w w' := by
  have F := Lib.hid (fun w => like_Match ⟨#[97, 42]⟩ ⟨#[97, 98, 99]⟩ w (by decide) (by decide))
  rw [fact_LikeMatchesV, fact_LikeMatchesE, errV_zero] at F
  have T1 := Lib.hid (fun w => ref_TextFault p w hp)
  have T2 := Lib.hid (fun w => ref_TextFault s w hs)
  have M := Lib.hid (fun w => like_Match p s w hp hs)
  by_cases h1 : textFault p = 0
  · by_cases h2 : textFault s = 0
    · have hE : likeE p s = 0 := by unfold likeE; rw [if_pos h1]; exact h2
      have hV : likeV p s = fitsS (signs p.data.toList) s.data.toList := by unfold likeV; rw [hE]; simp
      have R := Lib.hid (fun w => ref_Fits p s w (textFault_zero h1) (textFault_zero h2))
      rw [hE, hV] at M
      rw [h1] at T1
      rw [h2] at T2
      clear h1 h2 hE hV hp hs
      generalize fitsS (signs p.data.toList) s.data.toList = v at *
      go_enter Tryd.func6, Tryd.ntmps6
      go_wp2_with fail
      refine (F.out _).mono ?_
      rintro e w1 ⟨rfl, hb1⟩
      have g1 := hg.keep hb1
      go_wp2_with fail
      refine (T1.out _).mono ?_
      rintro e w2 ⟨rfl, hb2⟩
      have g2 := g1.keep hb2
      go_wp2_with fail
      refine (T2.out _).mono ?_
      rintro e w3 ⟨rfl, hb3⟩
      have g3 := g2.keep hb3
      go_wp2_with fail
      refine (R.out _).mono ?_
      rintro e w4 ⟨rfl, hb4⟩
      have g4 := g3.keep hb4
      go_wp2_with fail
      refine (M.out _).mono ?_
      rintro e w5 ⟨rfl, hb5⟩
      have g5 := g4.keep hb5
      go_wp2_with fail
      refine (same_Error _ _ _ g5).mono ?_
      rintro e w6 ⟨rfl, hb6⟩
      rw [beq_self_eq_true]
      have B := Lib.hid (hb1.trans ((hb2.trans ((hb3.trans ((hb4.trans ((hb5.trans (hb6.mono hb5.size)).mono hb4.size)).mono hb3.size)).mono hb2.size)).mono hb1.size))
      clear hb1 hb2 hb3 hb4 hb5 hb6 g1 g2 g3 g4 g5
      go_wp2
      go_ret
      exact ⟨by simp, B.out⟩
    · have hE : likeE p s = textFault s := by unfold likeE; rw [if_pos h1]
      have hV : likeV p s = false := by unfold likeV; rw [hE]; simp [h2]
      rw [hE, hV] at M
      rw [h1] at T1
      have hn : (textFault s == 0) = false := beq_eq_false_iff_ne.2 h2
      clear h1 h2 hE hV hp hs
      generalize textFault s = v at *
      go_enter Tryd.func6, Tryd.ntmps6
      go_wp2_with fail
      refine (F.out _).mono ?_
      rintro e w1 ⟨rfl, hb1⟩
      have g1 := hg.keep hb1
      go_wp2_with fail
      refine (T1.out _).mono ?_
      rintro e w2 ⟨rfl, hb2⟩
      have g2 := g1.keep hb2
      go_wp2_with fail
      refine (T2.out _).mono ?_
      rintro e w3 ⟨rfl, hb3⟩
      have g3 := g2.keep hb3
      go_wp2_with fail
      refine (M.out _).mono ?_
      rintro e w5 ⟨rfl, hb5⟩
      have g5 := g3.keep hb5
      go_wp2_with fail
      refine (same_Error _ _ _ g5).mono ?_
      rintro e w6 ⟨rfl, hb6⟩
      rw [beq_self_eq_true]
      have B := Lib.hid (hb1.trans ((hb2.trans ((hb3.trans ((hb5.trans (hb6.mono hb5.size)).mono hb3.size)).mono hb2.size)).mono hb1.size))
      clear hb1 hb2 hb3 hb5 hb6 g1 g2 g3 g5
      go_wp2
      go_ret
      exact ⟨rfl, B.out⟩
  · have hE : likeE p s = textFault p := by unfold likeE; rw [if_neg h1]
    have hV : likeV p s = false := by unfold likeV; rw [hE]; simp [h1]
    rw [hE, hV] at M
    have hn : (textFault p == 0) = false := beq_eq_false_iff_ne.2 h1
    clear h1 hE hV hp hs
    generalize textFault p = v at *
    go_enter Tryd.func6, Tryd.ntmps6
    go_wp2_with fail
    refine (F.out _).mono ?_
    rintro e w1 ⟨rfl, hb1⟩
    have g1 := hg.keep hb1
    go_wp2_with fail
    refine (T1.out _).mono ?_
    rintro e w2 ⟨rfl, hb2⟩
    have g2 := g1.keep hb2
    go_wp2_with fail
    refine (M.out _).mono ?_
    rintro e w5 ⟨rfl, hb5⟩
    have g5 := g2.keep hb5
    go_wp2_with fail
    refine (same_Error _ _ _ g5).mono ?_
    rintro e w6 ⟨rfl, hb6⟩
    rw [beq_self_eq_true]
    have B := Lib.hid (hb1.trans ((hb2.trans ((hb5.trans (hb6.mono hb5.size)).mono hb2.size)).mono hb1.size))
    clear hb1 hb2 hb5 hb6 g1 g2 g5
    go_wp2
    go_ret
    exact ⟨rfl, B.out⟩
end Go.Proofs.YtbaccefcgblagaaDoor
