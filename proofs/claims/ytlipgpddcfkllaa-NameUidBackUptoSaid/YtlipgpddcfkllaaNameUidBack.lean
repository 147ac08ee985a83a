/-
  NameUidBack: the walk of the law.
-/
import Derived.Test.YtlipgpddcfkllaaUidRw
namespace Go.Proofs.Ytlipgpddcfkllaa
open Go.RowKit Go.Wk
set_option maxRecDepth 100000

theorem uid_fact : rdU ⟨#[85, 115, 101, 114, 58, 58, 34, 97, 34]⟩ = some (⟨#[85, 115, 101, 114]⟩, ⟨#[97]⟩) := rdU_some.2 ⟨by decide +kernel, by decide +kernel⟩
theorem law_Read (s : ByteArray) (u : Ud) (w : World) (hm : Max w) (h : rdU s = some u) (hs : s.size < 4294967281) : Calls Try.prog 8 #[.string s] w fun e w' => e = .returned (.tuple #[.agg #[.string u.1, .string u.2], .nilIface]) ∧ Below w.heap.size w w' := by
  have := name_Read s w hm hs
  rwa [(rd_some h).1, (rd_some h).2, errV_zero] at this
theorem law_Write (u : Ud) (w : World) (h : uidFault u = 0) : Calls Try.prog 9 #[.agg #[.string u.1, .string u.2]] w fun e w' => e = .returned (.tuple #[.string (wrt u), .nilIface]) ∧ Below w.heap.size w w' := by
  have h1 := name_le (uidFault_zero.1 h).1
  have h2 := text_le (uidFault_zero.1 h).2
  have := name_Write u.1 u.2 w (by unfold maxLen; omega) (by unfold maxLen; omega)
  have e : ((u.1, u.2) : Ud) = u := rfl
  rw [e, h, errV_zero] at this
  unfold wrtV at this
  rwa [if_pos h] at this
set_option maxHeartbeats 4000000 in
theorem NameUidBack_walk (a b s : ByteArray) (w : World) (ha : a.size ≤ maxLen) (hb : b.size ≤ maxLen) (hs : s.size < 4294967281) (hm : Max w) :
    Calls Try.prog 4 #[.agg #[.string a, .string b], .string s] w fun e w' => e = .returned (.bool true) ∧ Below w.heap.size w w' := by
  have F := Lib.hid (fun w hm => law_Read _ _ w hm uid_fact (by decide))
  have KW := Lib.hid (fun w' => name_Write a b w' ha hb)
  have KR := Lib.hid (fun w' hm => name_Read s w' hm hs)
  have HM := Lib.hid hm
  clear hm
  go_enter Try.func4, Try.ntmps4
  have V0 := Lib.hid (vr2_new w (.string a) (.string b) 28)
  have B0 := Lib.hid (below_box w (.cells #[.string a, .string b] 28))
  go_wp2_with fail
  obtain ⟨w0, hw0⟩ : ∃ w0, w.alloc (.cells #[.string a, .string b] 28) = w0 := ⟨_, rfl⟩
  rw [hw0] at V0 B0 ⊢
  clear hw0
  refine (F.out w0 (HM.out.keep B0.out)).mono ?_
  rintro e w1 ⟨rfl, b1⟩
  have B1 := bh B0 b1
  have V1 := Lib.hid (V0.out.keep b1)
  clear b1 B0 V0 F
  obtain ⟨c0, c1, -, -⟩ := V1.out
  have hl := block_lt_of_cell c0
  have hl2 : ¬ w1.heap.size = w.heap.size := by simp only at hl; omega
  go_wp2_with fail
  have V2 := Lib.hid (V1.out.keep (below_box w1 (.cells #[.string ⟨#[85, 115, 101, 114]⟩, .string ⟨#[97]⟩] 28)))
  have B2 := bh B1 (below_box w1 (.cells #[.string ⟨#[85, 115, 101, 114]⟩, .string ⟨#[97]⟩] 28))
  obtain ⟨w2, hw2⟩ : ∃ w2, w1.alloc (.cells #[.string ⟨#[85, 115, 101, 114]⟩, .string ⟨#[97]⟩] 28) = w2 := ⟨_, rfl⟩
  rw [hw2] at V2 B2 ⊢
  clear hw2 c0 c1 hl hl2 V1 B1
  by_cases h0 : uidFault (a, b) = 0
  · have K3 := Lib.hid (law_Write (a, b) w2 h0)
    have K4 := Lib.hid (fun w' hm => law_Read (wrt (a, b)) (a, b) w' hm (rdU_some.2 ⟨h0, rfl⟩) (Nat.lt_of_le_of_lt (wrt_le h0) (by decide)))
    clear h0 KW
    generalize wrt (a, b) = q at *
    refine (K3.out).mono ?_
    rintro e w3 ⟨rfl, b3⟩
    have B3 := bh B2 b3
    have V3 := Lib.hid (V2.out.keep b3)
    clear b3 K3 B2 V2
    go_wp2_with fail
    refine (K4.out w3 (HM.out.keep B3.out)).mono ?_
    rintro e w4 ⟨rfl, b4⟩
    have B4 := bh B3 b4
    have V4 := Lib.hid (V3.out.keep b4)
    clear b4 K4 B3 V3
    obtain ⟨c0, c1, -, -⟩ := V4.out
    have hl := block_lt_of_cell c0
    have hl2 : ¬ w4.heap.size = w.heap.size := by simp only at hl; omega
    go_wp2_with fail
    have B5 := bh B4 (below_box w4 (.cells #[.string a, .string b] 28))
    obtain ⟨w5, hw5⟩ : ∃ w5, w4.alloc (.cells #[.string a, .string b] 28) = w5 := ⟨_, rfl⟩
    rw [hw5] at B5 ⊢
    clear hw5 c0 c1 hl hl2 V4 B4
    rcases hr : rdU s with _ | u
    · have K5 := Lib.hid (KR.out w5 (HM.out.keep B5.out))
      rw [(rd_none hr).1, (rd_none hr).2, errV_ne (by decide)] at K5
      clear hr
      refine (K5.out).mono ?_
      rintro e w6 ⟨rfl, b6⟩
      have B6 := bh B5 b6
      clear b6 K5 B5
      go_wp2_with fail
      go_ret
      exact ⟨rfl, B6.out.alloc B6.out.size _⟩
    · have K5 := Lib.hid (law_Read s u w5 (HM.out.keep B5.out) hr hs)
      obtain ⟨h1, h2⟩ := rdU_some.1 hr
      have K6 := Lib.hid (fun w' => law_Write u w' h1)
      rw [← h2] at K6
      clear hr h1 h2
      refine (K5.out).mono ?_
      rintro e w6 ⟨rfl, b6⟩
      have B6 := bh B5 b6
      clear b6 K5 B5
      go_wp2_with fail
      have B7 := bh B6 (below_box w6 (.cells #[.string u.1, .string u.2] 28))
      refine (K6.out _).mono ?_
      rintro e w8 ⟨rfl, b8⟩
      have B8 := bh B7 b8
      clear b8 K6 B7 B6
      go_wp2_with fail
      go_ret
      exact ⟨rfl, B8.out⟩
  · have K3 := Lib.hid (KW.out w2)
    rw [errV_ne h0] at K3
    clear h0 KW
    refine (K3.out).mono ?_
    rintro e w3 ⟨rfl, b3⟩
    have B3 := bh B2 b3
    clear b3 K3 B2 V2
    go_wp2_with fail
    rcases hr : rdU s with _ | u
    · have K5 := Lib.hid (KR.out w3 (HM.out.keep B3.out))
      rw [(rd_none hr).1, (rd_none hr).2, errV_ne (by decide)] at K5
      clear hr
      refine (K5.out).mono ?_
      rintro e w6 ⟨rfl, b6⟩
      have B6 := bh B3 b6
      clear b6 K5 B3
      go_wp2_with fail
      go_ret
      exact ⟨rfl, B6.out.alloc B6.out.size _⟩
    · have K5 := Lib.hid (law_Read s u w3 (HM.out.keep B3.out) hr hs)
      obtain ⟨h1, h2⟩ := rdU_some.1 hr
      have K6 := Lib.hid (fun w' => law_Write u w' h1)
      rw [← h2] at K6
      clear hr h1 h2
      refine (K5.out).mono ?_
      rintro e w6 ⟨rfl, b6⟩
      have B6 := bh B3 b6
      clear b6 K5 B3
      go_wp2_with fail
      have B7 := bh B6 (below_box w6 (.cells #[.string u.1, .string u.2] 28))
      refine (K6.out _).mono ?_
      rintro e w8 ⟨rfl, b8⟩
      have B8 := bh B7 b8
      clear b8 K6 B7 B6
      go_wp2_with fail
      go_ret
      exact ⟨rfl, B8.out⟩
end Go.Proofs.Ytlipgpddcfkllaa
