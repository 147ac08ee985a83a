/-
  NameQuotes: the walk of the law.
-/
import Derived.Test.YtlipgpddcfkllaaGreatDoorQuote
import Derived.Test.YtlipgpddcfkllaaGreatDoorUnquote
import Derived.Test.YtlipgpddcfkllaaGreatDoorRefQuo
import Derived.Test.YtlipgpddcfkllaaGreatDoorTold
namespace Go.Proofs.YtlipgpddcfkllaaGreatDoor
open Go.RowKit Go.Wk
set_option maxRecDepth 100000

theorem quotes_fact : quoV ⟨#[97, 34, 98]⟩ = ⟨#[34, 97, 92, 34, 98, 34]⟩ := by decide +kernel
theorem quotes_factE : textFault ⟨#[97, 34, 98]⟩ = 0 := by decide +kernel
theorem told_nil (w : World) (hg : Door w) : Calls Tryz.prog 10 #[.nilIface, .int .i64 0] w fun e w' => e = .returned (.bool true) ∧ Below w.heap.size w w' := same_Error 0 0 w hg
theorem told_err (n : Int) (w : World) (h : n ≠ 0) (hg : Door w) : Calls Tryz.prog 10 #[.iface 26 (.int .i64 n), .int .i64 n] w fun e w' => e = .returned (.bool true) ∧ Below w.heap.size w w' := by
  have := same_Error n n w hg
  rwa [errV_ne h, beq_self_eq_true] at this
set_option maxHeartbeats 4000000 in
theorem NameQuotes_walk (s : ByteArray) (w : World) (hs : s.size ≤ 140737488355328) (hg : Door w) :
    Calls Tryz.prog 3 #[.string s] w fun e w' => e = .returned (.bool true) ∧ Below w.heap.size w w' := by
  have hml : s.size ≤ maxLen := by unfold maxLen; omega
  have F := Lib.hid (name_Quote ⟨#[97, 34, 98]⟩ w (by decide))
  rw [quotes_fact, quotes_factE, errV_zero] at F
  have HG := Lib.hid hg
  clear hg
  by_cases h0 : textFault s = 0
  · have KT := Lib.hid (fun w' => ref_TextFault s w' hml)
    have KQ := Lib.hid (fun w' => name_Quote s w' hml)
    have KR := Lib.hid (fun w' => ref_Quoted s w' (text_le0 h0))
    unfold quoV at KQ
    rw [h0] at KT
    rw [h0, errV_zero, if_pos rfl] at KQ
    clear h0
    go_enter Tryz.func3, Tryz.ntmps3
    go_wp2_with fail
    refine (F.out).mono ?_
    rintro e w1 ⟨rfl, b1⟩
    have B1 := Lib.hid b1
    clear b1 F
    go_wp2_with fail
    refine (KT.out w1).mono ?_
    rintro e w2 ⟨rfl, b2⟩
    have B2 := bh B1 b2
    clear b2 KT B1
    go_wp2_with fail
    refine (KR.out w2).mono ?_
    rintro e w3 ⟨rfl, b3⟩
    have B3 := bh B2 b3
    clear b3 KR B2
    go_wp2_with fail
    refine (KQ.out w3).mono ?_
    rintro e w4 ⟨rfl, b4⟩
    have B4 := bh B3 b4
    clear b4 KQ B3
    go_wp2_with fail
    refine (told_nil w4 (HG.out.keep B4.out)).mono ?_
    rintro e w5 ⟨rfl, b5⟩
    have B5 := bh B4 b5
    clear b5 B4
    go_wp2_with fail
    rcases hb : bare s with _ | u
    · have K5 := Lib.hid (fun w' => law_Bare_none s w' hb hs)
      have K6 := Lib.hid (fun w' => name_Unquote s w' hs)
      rw [(bareV_none hb).1, (bareV_none hb).2, errV_ne (by decide)] at K6
      clear hb
      refine (K5.out w5).mono ?_
      rintro e w6 ⟨⟨o, rfl⟩, b6⟩
      have B6 := bh B5 b6
      clear b6 K5 B5
      go_wp2_with fail
      refine (K6.out w6).mono ?_
      rintro e w7 ⟨rfl, b7⟩
      have B7 := bh B6 b7
      clear b7 K6 B6
      go_wp2_with fail
      refine (told_err 1 w7 (by decide) (HG.out.keep B7.out)).mono ?_
      rintro e w8 ⟨rfl, b8⟩
      have B8 := bh B7 b8
      clear b8 B7
      go_wp2_with fail
      go_ret
      exact ⟨rfl, B8.out⟩
    · have K5 := Lib.hid (fun w' => law_Bare_some s u w' hb hs)
      have K6 := Lib.hid (fun w' => name_Unquote s w' hs)
      rw [(bareV_some hb).1, (bareV_some hb).2, errV_zero] at K6
      clear hb
      refine (K5.out w5).mono ?_
      rintro e w6 ⟨rfl, b6⟩
      have B6 := bh B5 b6
      clear b6 K5 B5
      go_wp2_with fail
      refine (K6.out w6).mono ?_
      rintro e w7 ⟨rfl, b7⟩
      have B7 := bh B6 b7
      clear b7 K6 B6
      go_wp2_with fail
      refine (told_nil w7 (HG.out.keep B7.out)).mono ?_
      rintro e w8 ⟨rfl, b8⟩
      have B8 := bh B7 b8
      clear b8 B7
      go_wp2_with fail
      go_ret
      exact ⟨rfl, B8.out⟩
  · have KT := Lib.hid (fun w' => ref_TextFault s w' hml)
    have KQ := Lib.hid (fun w' => name_Quote s w' hml)
    unfold quoV at KQ
    rw [errV_ne h0, if_neg h0] at KQ
    have KE := Lib.hid (fun w' hg => told_err (textFault s) w' h0 hg)
    have h0i : (textFault s == 0) = false := by simp; exact h0
    clear h0
    generalize textFault s = tf at *
    go_enter Tryz.func3, Tryz.ntmps3
    go_wp2_with fail
    refine (F.out).mono ?_
    rintro e w1 ⟨rfl, b1⟩
    have B1 := Lib.hid b1
    clear b1 F
    go_wp2_with fail
    refine (KT.out w1).mono ?_
    rintro e w2 ⟨rfl, b2⟩
    have B2 := bh B1 b2
    clear b2 KT B1
    go_wp2_with fail
    refine (KQ.out w2).mono ?_
    rintro e w4 ⟨rfl, b4⟩
    have B4 := bh B2 b4
    clear b4 KQ B2
    go_wp2_with fail
    refine (KE.out w4 (HG.out.keep B4.out)).mono ?_
    rintro e w5 ⟨rfl, b5⟩
    have B5 := bh B4 b5
    clear b5 B4 KE
    go_wp2_with fail
    rcases hb : bare s with _ | u
    · have K5 := Lib.hid (fun w' => law_Bare_none s w' hb hs)
      have K6 := Lib.hid (fun w' => name_Unquote s w' hs)
      rw [(bareV_none hb).1, (bareV_none hb).2, errV_ne (by decide)] at K6
      clear hb
      refine (K5.out w5).mono ?_
      rintro e w6 ⟨⟨o, rfl⟩, b6⟩
      have B6 := bh B5 b6
      clear b6 K5 B5
      go_wp2_with fail
      refine (K6.out w6).mono ?_
      rintro e w7 ⟨rfl, b7⟩
      have B7 := bh B6 b7
      clear b7 K6 B6
      go_wp2_with fail
      refine (told_err 1 w7 (by decide) (HG.out.keep B7.out)).mono ?_
      rintro e w8 ⟨rfl, b8⟩
      have B8 := bh B7 b8
      clear b8 B7
      go_wp2_with fail
      go_ret
      exact ⟨rfl, B8.out⟩
    · have K5 := Lib.hid (fun w' => law_Bare_some s u w' hb hs)
      have K6 := Lib.hid (fun w' => name_Unquote s w' hs)
      rw [(bareV_some hb).1, (bareV_some hb).2, errV_zero] at K6
      clear hb
      refine (K5.out w5).mono ?_
      rintro e w6 ⟨rfl, b6⟩
      have B6 := bh B5 b6
      clear b6 K5 B5
      go_wp2_with fail
      refine (K6.out w6).mono ?_
      rintro e w7 ⟨rfl, b7⟩
      have B7 := bh B6 b7
      clear b7 K6 B6
      go_wp2_with fail
      refine (told_nil w7 (HG.out.keep B7.out)).mono ?_
      rintro e w8 ⟨rfl, b8⟩
      have B8 := bh B7 b8
      clear b8 B7
      go_wp2_with fail
      go_ret
      exact ⟨rfl, B8.out⟩
end Go.Proofs.YtlipgpddcfkllaaGreatDoor
