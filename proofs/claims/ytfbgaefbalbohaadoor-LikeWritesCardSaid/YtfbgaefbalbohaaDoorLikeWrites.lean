/-
  LikeWrites: the walk of the law.
-/
import Derived.Test.YtfbgaefbalbohaaDoorShort
import Derived.Test.YtfbgaefbalbohaaDoorRefLike
import Derived.Test.YtfbgaefbalbohaaDoorJust
import Derived.Test.YtfbgaefbalbohaaDoorTold
import Derived.Test.YtfbgaefbalbohaaDoorNameRef
namespace Go.Proofs.YtfbgaefbalbohaaDoor
open Go.RowKit Go.Wk Go.Sort
set_option maxRecDepth 100000

theorem likeWrites_factE : textFault ⟨#[97, 42, 42]⟩ = 0 := by decide +kernel
theorem likeWrites_factV : shortV ⟨#[97, 42, 42]⟩ = ⟨#[97, 42]⟩ := by
  refine bytes_ext ?_
  rw [shortV_ok likeWrites_factE]
  decide +kernel
set_option maxHeartbeats 4000000 in
theorem LikeWrites_walk (s : ByteArray) (w : World) (hs : s.size ≤ maxLen) (hg : Door w) (hm : Max w) :
    Calls Tryd.prog 9 #[.string s] w fun e w' => e = .returned (.bool true) ∧ Below w.heap.size w w' := by
  have F := Lib.hid (like_Short ⟨#[97, 42, 42]⟩ w (by decide))
  rw [likeWrites_factE, likeWrites_factV, errV_zero] at F
  have C1 := Lib.hid (fun w => ref_TextFault s w hs)
  have C3 := Lib.hid (fun w' (hb : Below w.heap.size w w') => like_Just s w' hs (hm.keep hb))
  have C5 := Lib.hid (fun w => like_Short s w hs)
  have HG := Lib.hid hg
  by_cases h0 : textFault s = 0
  · have z := textFault_zero h0
    have C2 := Lib.hid (fun w => ref_Escaped s w z)
    have C4 := Lib.hid (fun w => ref_Shortened s w z)
    have hV : shortV s = ⟨(shortS false (signs s.data.toList)).toArray⟩ := by unfold shortV; rw [if_pos h0]
    rw [hV, h0, errV_zero] at C5
    rw [h0] at C1
    have hj : justE s = if 60 < (esc s.data.toList).length then 4 else 0 := by unfold justE; rw [if_pos h0]
    have hX : (⟨(esc s.data.toList).toArray⟩ : ByteArray).size = (esc s.data.toList).length := by show (esc s.data.toList).toArray.size = _; simp
    by_cases h60 : 60 < (esc s.data.toList).length
    · rw [if_pos h60] at hj
      have hjv : justV s = ⟨#[]⟩ := by unfold justV; rw [hj, if_neg (by decide)]
      rw [hj, hjv] at C3
      rw [← hX] at h60
      generalize (⟨(esc s.data.toList).toArray⟩ : ByteArray) = X at *
      generalize (⟨(shortS false (signs s.data.toList)).toArray⟩ : ByteArray) = Y at *
      clear hj hjv hX hV h0 hg hm hs
      go_enter Tryd.func9, Tryd.ntmps9
      go_wp2_with fail
      refine (F.out).mono ?_
      rintro e w1 ⟨rfl, b1⟩
      have B1 := Lib.hid b1
      clear b1
      go_wp2_with fail
      refine (C1.out _).mono ?_
      rintro e w2 ⟨rfl, b2⟩
      have B2 := bs B1 b2
      clear b2 B1
      go_wp2_with fail
      refine (C2.out _).mono ?_
      rintro e w3 ⟨rfl, rfl⟩
      have B3 := B2
      clear B2
      go_wp2_with fail
      refine (C3.out _ B3.out).mono ?_
      rintro e w4 ⟨rfl, b4⟩
      have B4 := bs B3 b4
      clear b4 B3
      go_wp2_with fail
      refine (same_Error 4 4 _ (HG.out.keep B4.out)).mono ?_
      rintro e w5 ⟨rfl, b5⟩
      have B5 := bs B4 b5
      rw [beq_self_eq_true]
      clear b5 B4
      go_wp2_with fail
      refine (C1.out _).mono ?_
      rintro e w6 ⟨rfl, b6⟩
      have B6 := bs B5 b6
      clear b6 B5
      go_wp2_with fail
      refine (C4.out _).mono ?_
      rintro e w7 ⟨rfl, b7⟩
      have B7 := bs B6 b7
      clear b7 B6
      go_wp2_with fail
      refine (C5.out _).mono ?_
      rintro e w8 ⟨rfl, b8⟩
      have B8 := bs B7 b8
      clear b8 B7
      have K := Lib.hid (same_Error 0 0 _ (HG.out.keep B8.out))
      rw [errV_zero] at K
      go_wp2_with fail
      refine (K.out).mono ?_
      rintro e w9 ⟨rfl, b9⟩
      have B9 := bs B8 b9
      rw [beq_self_eq_true]
      clear b9 B8
      go_wp2_with fail
      go_ret
      exact ⟨ret_bool (by simp), B9.out⟩
    · rw [if_neg h60] at hj
      have hjv : justV s = ⟨(esc s.data.toList).toArray⟩ := by unfold justV; rw [hj, if_pos rfl]
      rw [hj, hjv, errV_zero] at C3
      rw [← hX] at h60
      generalize (⟨(esc s.data.toList).toArray⟩ : ByteArray) = X at *
      generalize (⟨(shortS false (signs s.data.toList)).toArray⟩ : ByteArray) = Y at *
      clear hj hjv hX hV h0 hg hm hs
      have K0 := Lib.hid (fun w' hb => same_Error 0 0 w' (HG.out.keep (w' := w') hb))
      rw [errV_zero] at K0
      go_enter Tryd.func9, Tryd.ntmps9
      go_wp2_with fail
      refine (F.out).mono ?_
      rintro e w1 ⟨rfl, b1⟩
      have B1 := Lib.hid b1
      clear b1
      go_wp2_with fail
      refine (C1.out _).mono ?_
      rintro e w2 ⟨rfl, b2⟩
      have B2 := bs B1 b2
      clear b2 B1
      go_wp2_with fail
      refine (C2.out _).mono ?_
      rintro e w3 ⟨rfl, rfl⟩
      have B3 := B2
      clear B2
      go_wp2_with fail
      refine (C3.out _ B3.out).mono ?_
      rintro e w4 ⟨rfl, b4⟩
      have B4 := bs B3 b4
      clear b4 B3
      go_wp2_with fail
      refine (K0.out _ B4.out).mono ?_
      rintro e w5 ⟨rfl, b5⟩
      have B5 := bs B4 b5
      rw [beq_self_eq_true]
      clear b5 B4
      go_wp2_with fail
      refine (C1.out _).mono ?_
      rintro e w6 ⟨rfl, b6⟩
      have B6 := bs B5 b6
      clear b6 B5
      go_wp2_with fail
      refine (C4.out _).mono ?_
      rintro e w7 ⟨rfl, b7⟩
      have B7 := bs B6 b7
      clear b7 B6
      go_wp2_with fail
      refine (C5.out _).mono ?_
      rintro e w8 ⟨rfl, b8⟩
      have B8 := bs B7 b8
      clear b8 B7
      have K := Lib.hid (same_Error 0 0 _ (HG.out.keep B8.out))
      rw [errV_zero] at K
      go_wp2_with fail
      refine (K.out).mono ?_
      rintro e w9 ⟨rfl, b9⟩
      have B9 := bs B8 b9
      rw [beq_self_eq_true]
      clear b9 B8
      go_wp2_with fail
      go_ret
      exact ⟨ret_bool (by simp), B9.out⟩
  · have hx : (textFault s == 0) = false := beq_eq_false_iff_ne.2 h0
    have hj : justE s = textFault s := by unfold justE; rw [if_neg h0]
    have hjv : justV s = ⟨#[]⟩ := by unfold justV; rw [hj, if_neg h0]
    have hV : shortV s = ⟨#[]⟩ := by unfold shortV; rw [if_neg h0]
    rw [hj, hjv] at C3
    rw [hV] at C5
    generalize textFault s = x at *
    clear hj hjv hV h0 hg hm hs
    go_enter Tryd.func9, Tryd.ntmps9
    go_wp2_with fail
    refine (F.out).mono ?_
    rintro e w1 ⟨rfl, b1⟩
    have B1 := Lib.hid b1
    clear b1
    go_wp2_with fail
    refine (C1.out _).mono ?_
    rintro e w2 ⟨rfl, b2⟩
    have B2 := bs B1 b2
    clear b2 B1
    have B3 := B2
    clear B2
    go_wp2_with fail
    refine (C3.out _ B3.out).mono ?_
    rintro e w4 ⟨rfl, b4⟩
    have B4 := bs B3 b4
    clear b4 B3
    go_wp2_with fail
    refine (same_Error x x _ (HG.out.keep B4.out)).mono ?_
    rintro e w5 ⟨rfl, b5⟩
    have B5 := bs B4 b5
    rw [beq_self_eq_true]
    clear b5 B4
    go_wp2_with fail
    refine (C1.out _).mono ?_
    rintro e w6 ⟨rfl, b6⟩
    have B6 := bs B5 b6
    clear b6 B5
    go_wp2_with fail
    refine (C5.out _).mono ?_
    rintro e w8 ⟨rfl, b8⟩
    have B8 := bs B6 b8
    clear b8 B6
    go_wp2_with fail
    refine (same_Error x x _ (HG.out.keep B8.out)).mono ?_
    rintro e w9 ⟨rfl, b9⟩
    have B9 := bs B8 b9
    rw [beq_self_eq_true]
    clear b9 B8
    go_wp2_with fail
    go_ret
    exact ⟨ret_bool (by simp), B9.out⟩
end Go.Proofs.YtfbgaefbalbohaaDoor
