/-
  LikeShort: the walk of the law.
-/
import Derived.Test.YtfbgaefbalbohaaDoorShort
import Derived.Test.YtfbgaefbalbohaaDoorTold
namespace Go.Proofs.YtfbgaefbalbohaaDoor
open Go.RowKit Go.Wk Go.Sort
set_option maxRecDepth 100000

theorem likeShort_factE : textFault ⟨#[42, 42]⟩ = 0 := by decide +kernel
theorem likeShort_factV : shortV ⟨#[42, 42]⟩ = ⟨#[42]⟩ := by
  refine bytes_ext ?_
  rw [shortV_ok likeShort_factE]
  decide +kernel
set_option maxHeartbeats 2000000 in
theorem LikeShort_walk (p s : ByteArray) (w : World) (hp : p.size ≤ maxLen) (hs : s.size ≤ maxLen) (hg : Door w) :
    Calls Tryd.prog 3 #[.string p, .string s] w fun e w' => e = .returned (.bool true) ∧ Below w.heap.size w w' := by
  have F := Lib.hid (like_Short ⟨#[42, 42]⟩ w (by decide))
  rw [likeShort_factE, likeShort_factV, errV_zero] at F
  have C1 := Lib.hid (fun w => like_Short p w hp)
  by_cases h0 : textFault p = 0
  · have hq := short_size h0
    have C2 := Lib.hid (fun w => like_Match p s w hp hs)
    have C3 := Lib.hid (fun w => like_Match (shortV p) s w (by omega) hs)
    have C4 := Lib.hid (fun w => like_Short (shortV p) w (by omega))
    rw [short_again h0, short_fault h0, errV_zero] at C4
    rw [h0, errV_zero] at C1
    have hE : likeE (shortV p) s = likeE p s := by unfold likeE; rw [if_pos h0, if_pos (short_fault h0)]
    have hV : likeV (shortV p) s = likeV p s := by unfold likeV; rw [hE, short_fits h0]
    rw [hE, hV] at C3
    generalize likeE p s = x at *
    generalize likeV p s = y at *
    have HG := Lib.hid hg
    generalize shortV p = q at *
    clear h0 hE hV hg hp hs
    go_enter Tryd.func3, Tryd.ntmps3
    go_wp2_with fail
    refine (F.out).mono ?_
    rintro e w1 ⟨rfl, b1⟩
    have B1 := Lib.hid b1
    clear b1
    go_wp2_with fail
    refine (C1.out _).mono ?_
    rintro e w2 ⟨rfl, b2⟩
    have B2 := bs B1 b2
    clear b2 B1
    go_wp2_with fail
    refine (C2.out _).mono ?_
    rintro e w3 ⟨rfl, b3⟩
    have B3 := bs B2 b3
    clear b3 B2
    go_wp2_with fail
    refine (C3.out _).mono ?_
    rintro e w4 ⟨rfl, b4⟩
    have B4 := bs B3 b4
    clear b4 B3
    go_wp2_with fail
    refine (C4.out _).mono ?_
    rintro e w5 ⟨rfl, b5⟩
    have B5 := bs B4 b5
    clear b5 B4
    go_wp2_with fail
    refine (same_Told x x _ (HG.out.keep B5.out)).mono ?_
    rintro e w6 ⟨rfl, b6⟩
    have B6 := bs B5 b6
    clear b6 B5
    rw [beq_self_eq_true]
    go_wp2_with fail
    go_ret
    exact ⟨ret_bool (by simp), B6.out⟩
  · rw [errV_ne h0] at C1
    clear h0 hg hp hs
    go_enter Tryd.func3, Tryd.ntmps3
    go_wp2_with fail
    refine (F.out).mono ?_
    rintro e w1 ⟨rfl, b1⟩
    have B1 := Lib.hid b1
    clear b1
    go_wp2_with fail
    refine (C1.out _).mono ?_
    rintro e w2 ⟨rfl, b2⟩
    go_wp2_with fail
    go_ret
    exact ⟨rfl, (bs B1 b2).out⟩
end Go.Proofs.YtfbgaefbalbohaaDoor
