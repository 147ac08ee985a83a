/-
  NameUids: the walk of the law.
-/
import Derived.Test.YtlipgpddcfkllaaGreatDoorRefUid
import Derived.Test.YtlipgpddcfkllaaGreatDoorNameQuotes
import Derived.Test.YtlipgpddcfkllaaGreatDoorAid
namespace Go.Proofs.YtlipgpddcfkllaaGreatDoor
open Go.RowKit Go.Wk
set_option maxRecDepth 100000

theorem uids_fact : wrtV (⟨#[85, 115, 101, 114]⟩, ⟨#[97]⟩) = ⟨#[85, 115, 101, 114, 58, 58, 34, 97, 34]⟩ := by decide +kernel
theorem uids_factE : uidFault (⟨#[85, 115, 101, 114]⟩, ⟨#[97]⟩) = 0 := by decide +kernel
theorem law_UidOf (s : ByteArray) (r : Option Ud) (w : World) (h : rdU s = r) (hs : s.size < 4294967281) :
    Calls Tryz.prog 15 #[.string s] w fun e w' => e = .returned (.tuple #[.agg #[.string (r.getD (⟨#[]⟩, ⟨#[]⟩)).1, .string (r.getD (⟨#[]⟩, ⟨#[]⟩)).2], .bool r.isSome]) ∧ Below w.heap.size w w' := by
  subst h
  exact ref_UidOf s w (by omega)
theorem law_Read_none (s : ByteArray) (w : World) (hm : Max w) (h : rdU s = none) (hs : s.size < 4294967281) :
    Calls Tryz.prog 16 #[.string s] w fun e w' => e = .returned (.tuple #[.agg #[.string ⟨#[]⟩, .string ⟨#[]⟩], .iface 26 (.int .i64 1)]) ∧ Below w.heap.size w w' := by
  have := name_Read s w hm hs
  rwa [(rd_none h).1, (rd_none h).2, errV_ne (by decide)] at this
theorem law_Read_some (s : ByteArray) (u : Ud) (w : World) (hm : Max w) (h : rdU s = some u) (hs : s.size < 4294967281) :
    Calls Tryz.prog 16 #[.string s] w fun e w' => e = .returned (.tuple #[.agg #[.string u.1, .string u.2], .nilIface]) ∧ Below w.heap.size w w' := by
  have := name_Read s w hm hs
  rwa [(rd_some h).1, (rd_some h).2, errV_zero] at this
set_option maxHeartbeats 4000000 in
theorem NameUids_walk (a b s : ByteArray) (w : World) (ha : a.size ≤ maxLen) (hb : b.size ≤ maxLen) (hs : s.size < 4294967281) (hm : Max w) (hg : Door w) :
    Calls Tryz.prog 4 #[.agg #[.string a, .string b], .string s] w fun e w' => e = .returned (.bool true) ∧ Below w.heap.size w w' := by
  have F := Lib.hid (fun w => name_Write ⟨#[85, 115, 101, 114]⟩ ⟨#[97]⟩ w (by decide) (by decide))
  rw [uids_fact, uids_factE, errV_zero] at F
  have KF := Lib.hid (fun w' => ref_UidFault a b w' ha hb)
  have KW := Lib.hid (fun w' => name_Write a b w' ha hb)
  have HM := Lib.hid hm
  have HG := Lib.hid hg
  clear hm hg
  have V0 := Lib.hid (vr2_new w (.string a) (.string b) 34)
  have B0 := Lib.hid (below_box w (.cells #[.string a, .string b] 34))
  go_enter Tryz.func4, Tryz.ntmps4
  go_wp2_with fail
  obtain ⟨w0, hw0⟩ : ∃ w0, w.alloc (.cells #[.string a, .string b] 34) = w0 := ⟨_, rfl⟩
  rw [hw0] at V0 B0 ⊢
  clear hw0
  refine (F.out w0).mono ?_
  rintro e w1 ⟨rfl, b1⟩
  have B1 := bh B0 b1
  have V1 := Lib.hid (V0.out.keep b1)
  clear b1 B0 V0 F
  obtain ⟨c0, c1, -, -⟩ := V1.out
  by_cases h0 : uidFault (a, b) = 0
  · obtain ⟨hn, ht⟩ := uidFault_zero.1 h0
    have hna : a.size ≤ 20 := name_le hn
    have htb : b.size ≤ 60 := text_le ht
    have hqs : (Wk.quoted b).size ≤ 122 := by
      have hq := quo_length b.data.toList
      rw [quoted_size]; rw [size_toList] at hq; omega
    have KR := Lib.hid (fun w' => ref_Quoted b w' htb)
    have HS := Lib.hid (wrt_sum (a, b))
    unfold wrtV at KW
    rw [h0, errV_zero, if_pos rfl, ← HS.out] at KW
    rw [h0] at KF
    clear h0 hn ht HS
    generalize Wk.quoted b = q at *
    go_wp2_with fail
    refine (KF.out w1).mono ?_
    rintro e w2 ⟨rfl, b2⟩
    have B2 := bh B1 b2
    have V2 := Lib.hid (V1.out.keep b2)
    clear b2 B1 V1 KF c0 c1
    obtain ⟨c0, c1, -, -⟩ := V2.out
    have K := rq (w := w2) (fun w' _ => KR.out w')
    have k0 := cell_regrown c0
    have k1 := cell_regrown c1
    go_wp2_with fail
    refine wp_region_quiet_below (by kernel_rfl) (by kernel_rfl) ?_
    repeat (first | go_big_quiet_step (exact K _ _) | quiet_step (exact K _ _))
    refine wpQuiet_nil ?_
    intro w3 hw'
    have b3 := Lib.hid (show Below w2.heap.size w2 w3 by obtain ⟨⟨d, os⟩, rfl⟩ := hw'; exact below_regrown _ _ _)
    clear hw'
    have B3 := bh B2 b3.out
    have V3 := Lib.hid (V2.out.keep b3.out)
    clear b3 B2 V2 KR c0 c1 K k0 k1
    obtain ⟨c0, c1, -, -⟩ := V3.out
    go_wp2_with fail
    refine (KW.out w3).mono ?_
    rintro e w4 ⟨rfl, b4⟩
    have B4 := bh B3 b4
    clear b4 B3 V3 KW c0 c1
    go_wp2_with fail
    refine (told_nil w4 (HG.out.keep B4.out)).mono ?_
    rintro e w5 ⟨rfl, b5⟩
    have B5 := bh B4 b5
    clear b5 B4
    go_wp2_with fail
    rcases hr : rdU s with _ | u
    · have K5 := Lib.hid (fun w' => law_UidOf s none w' hr hs)
      have K6 := Lib.hid (fun w' hm => law_Read_none s w' hm hr hs)
      clear hr
      refine (K5.out w5).mono ?_
      rintro e w6 ⟨rfl, b6⟩
      have B6 := bh B5 b6
      clear b6 K5 B5
      simp only [Option.getD_none, Option.isSome_none]
      obtain ⟨c0, c1, z0, z1⟩ := vr2_new w6 (.string ⟨#[]⟩) (.string ⟨#[]⟩) 34
      have B7 := bh B6 (below_box w6 (.cells #[.string ⟨#[]⟩, .string ⟨#[]⟩] 34))
      have V7 := Lib.hid (vr2_new w6 (.string ⟨#[]⟩) (.string ⟨#[]⟩) 34)
      go_wp2_with fail
      obtain ⟨w7, hw7⟩ : ∃ w7, w6.alloc (.cells #[.string ⟨#[]⟩, .string ⟨#[]⟩] 34) = w7 := ⟨_, rfl⟩
      rw [hw7] at V7 B7 ⊢
      clear hw7
      refine (K6.out w7 (HM.out.keep B7.out)).mono ?_
      rintro e w8 ⟨rfl, b8⟩
      have B8 := bh B7 b8
      have V8 := Lib.hid (V7.out.keep b8)
      have B9 := bh B8 (below_box w8 (.cells #[.string ⟨#[]⟩, .string ⟨#[]⟩] 34))
      have V9 := Lib.hid (V8.out.keep (below_box w8 (.cells #[.string ⟨#[]⟩, .string ⟨#[]⟩] 34)))
      have X9 := Lib.hid (vr2_new w8 (.string ⟨#[]⟩) (.string ⟨#[]⟩) 34)
      clear b8 K6 B7 V7 B8 V8
      go_wp2_with fail
      obtain ⟨w9, hw9⟩ : ∃ w9, w8.alloc (.cells #[.string ⟨#[]⟩, .string ⟨#[]⟩] 34) = w9 := ⟨_, rfl⟩
      rw [hw9] at V9 B9 X9 ⊢
      clear hw9
      refine (told_err 1 w9 (by decide) (HG.out.keep B9.out)).mono ?_
      rintro e w10 ⟨rfl, b10⟩
      have B10 := bh B9 b10
      obtain ⟨v0, v1, -, -⟩ := V9.out.keep b10
      obtain ⟨x0, x1, -, -⟩ := X9.out.keep b10
      clear b10 B9 V9 X9
      go_wp2_with fail
      go_ret
      exact ⟨rfl, B10.out⟩
    · have K5 := Lib.hid (fun w' => law_UidOf s (some u) w' hr hs)
      have K6 := Lib.hid (fun w' hm => law_Read_some s u w' hm hr hs)
      clear hr
      refine (K5.out w5).mono ?_
      rintro e w6 ⟨rfl, b6⟩
      have B6 := bh B5 b6
      clear b6 K5 B5
      simp only [Option.getD_some, Option.isSome_some]
      have B7 := bh B6 (below_box w6 (.cells #[.string u.1, .string u.2] 34))
      have V7 := Lib.hid (vr2_new w6 (.string u.1) (.string u.2) 34)
      go_wp2_with fail
      obtain ⟨w7, hw7⟩ : ∃ w7, w6.alloc (.cells #[.string u.1, .string u.2] 34) = w7 := ⟨_, rfl⟩
      rw [hw7] at V7 B7 ⊢
      clear hw7
      refine (K6.out w7 (HM.out.keep B7.out)).mono ?_
      rintro e w8 ⟨rfl, b8⟩
      have B8 := bh B7 b8
      have V8 := Lib.hid (V7.out.keep b8)
      have B9 := bh B8 (below_box w8 (.cells #[.string u.1, .string u.2] 34))
      have V9 := Lib.hid (V8.out.keep (below_box w8 (.cells #[.string u.1, .string u.2] 34)))
      have X9 := Lib.hid (vr2_new w8 (.string u.1) (.string u.2) 34)
      clear b8 K6 B7 V7 B8 V8
      go_wp2_with fail
      obtain ⟨w9, hw9⟩ : ∃ w9, w8.alloc (.cells #[.string u.1, .string u.2] 34) = w9 := ⟨_, rfl⟩
      rw [hw9] at V9 B9 X9 ⊢
      clear hw9
      refine (told_nil w9 (HG.out.keep B9.out)).mono ?_
      rintro e w10 ⟨rfl, b10⟩
      have B10 := bh B9 b10
      obtain ⟨v0, v1, -, -⟩ := V9.out.keep b10
      obtain ⟨x0, x1, -, -⟩ := X9.out.keep b10
      clear b10 B9 V9 X9
      go_wp2_with fail
      go_ret
      exact ⟨rfl, B10.out⟩
  · unfold wrtV at KW
    rw [errV_ne h0, if_neg h0] at KW
    have KE := Lib.hid (fun w' hg => told_err (uidFault (a, b)) w' h0 hg)
    have h0i : (uidFault (a, b) == 0) = false := by simp; exact h0
    clear h0
    generalize uidFault (a, b) = uf at *
    go_wp2_with fail
    refine (KF.out w1).mono ?_
    rintro e w2 ⟨rfl, b2⟩
    have B2 := bh B1 b2
    have V2 := Lib.hid (V1.out.keep b2)
    clear b2 B1 V1 KF c0 c1
    obtain ⟨c0, c1, -, -⟩ := V2.out
    go_wp2_with fail
    refine (KW.out w2).mono ?_
    rintro e w4 ⟨rfl, b4⟩
    have B4 := bh B2 b4
    clear b4 B2 V2 KW c0 c1
    go_wp2_with fail
    refine (KE.out w4 (HG.out.keep B4.out)).mono ?_
    rintro e w5 ⟨rfl, b5⟩
    have B5 := bh B4 b5
    clear b5 B4 KE
    go_wp2_with fail
    rcases hr : rdU s with _ | u
    · have K5 := Lib.hid (fun w' => law_UidOf s none w' hr hs)
      have K6 := Lib.hid (fun w' hm => law_Read_none s w' hm hr hs)
      clear hr
      refine (K5.out w5).mono ?_
      rintro e w6 ⟨rfl, b6⟩
      have B6 := bh B5 b6
      clear b6 K5 B5
      simp only [Option.getD_none, Option.isSome_none]
      obtain ⟨c0, c1, z0, z1⟩ := vr2_new w6 (.string ⟨#[]⟩) (.string ⟨#[]⟩) 34
      have B7 := bh B6 (below_box w6 (.cells #[.string ⟨#[]⟩, .string ⟨#[]⟩] 34))
      have V7 := Lib.hid (vr2_new w6 (.string ⟨#[]⟩) (.string ⟨#[]⟩) 34)
      go_wp2_with fail
      obtain ⟨w7, hw7⟩ : ∃ w7, w6.alloc (.cells #[.string ⟨#[]⟩, .string ⟨#[]⟩] 34) = w7 := ⟨_, rfl⟩
      rw [hw7] at V7 B7 ⊢
      clear hw7
      refine (K6.out w7 (HM.out.keep B7.out)).mono ?_
      rintro e w8 ⟨rfl, b8⟩
      have B8 := bh B7 b8
      have V8 := Lib.hid (V7.out.keep b8)
      have B9 := bh B8 (below_box w8 (.cells #[.string ⟨#[]⟩, .string ⟨#[]⟩] 34))
      have V9 := Lib.hid (V8.out.keep (below_box w8 (.cells #[.string ⟨#[]⟩, .string ⟨#[]⟩] 34)))
      have X9 := Lib.hid (vr2_new w8 (.string ⟨#[]⟩) (.string ⟨#[]⟩) 34)
      clear b8 K6 B7 V7 B8 V8
      go_wp2_with fail
      obtain ⟨w9, hw9⟩ : ∃ w9, w8.alloc (.cells #[.string ⟨#[]⟩, .string ⟨#[]⟩] 34) = w9 := ⟨_, rfl⟩
      rw [hw9] at V9 B9 X9 ⊢
      clear hw9
      refine (told_err 1 w9 (by decide) (HG.out.keep B9.out)).mono ?_
      rintro e w10 ⟨rfl, b10⟩
      have B10 := bh B9 b10
      obtain ⟨v0, v1, -, -⟩ := V9.out.keep b10
      obtain ⟨x0, x1, -, -⟩ := X9.out.keep b10
      clear b10 B9 V9 X9
      go_wp2_with fail
      go_ret
      exact ⟨rfl, B10.out⟩
    · have K5 := Lib.hid (fun w' => law_UidOf s (some u) w' hr hs)
      have K6 := Lib.hid (fun w' hm => law_Read_some s u w' hm hr hs)
      clear hr
      refine (K5.out w5).mono ?_
      rintro e w6 ⟨rfl, b6⟩
      have B6 := bh B5 b6
      clear b6 K5 B5
      simp only [Option.getD_some, Option.isSome_some]
      have B7 := bh B6 (below_box w6 (.cells #[.string u.1, .string u.2] 34))
      have V7 := Lib.hid (vr2_new w6 (.string u.1) (.string u.2) 34)
      go_wp2_with fail
      obtain ⟨w7, hw7⟩ : ∃ w7, w6.alloc (.cells #[.string u.1, .string u.2] 34) = w7 := ⟨_, rfl⟩
      rw [hw7] at V7 B7 ⊢
      clear hw7
      refine (K6.out w7 (HM.out.keep B7.out)).mono ?_
      rintro e w8 ⟨rfl, b8⟩
      have B8 := bh B7 b8
      have V8 := Lib.hid (V7.out.keep b8)
      have B9 := bh B8 (below_box w8 (.cells #[.string u.1, .string u.2] 34))
      have V9 := Lib.hid (V8.out.keep (below_box w8 (.cells #[.string u.1, .string u.2] 34)))
      have X9 := Lib.hid (vr2_new w8 (.string u.1) (.string u.2) 34)
      clear b8 K6 B7 V7 B8 V8
      go_wp2_with fail
      obtain ⟨w9, hw9⟩ : ∃ w9, w8.alloc (.cells #[.string u.1, .string u.2] 34) = w9 := ⟨_, rfl⟩
      rw [hw9] at V9 B9 X9 ⊢
      clear hw9
      refine (told_nil w9 (HG.out.keep B9.out)).mono ?_
      rintro e w10 ⟨rfl, b10⟩
      have B10 := bh B9 b10
      obtain ⟨v0, v1, -, -⟩ := V9.out.keep b10
      obtain ⟨x0, x1, -, -⟩ := X9.out.keep b10
      clear b10 B9 V9 X9
      go_wp2_with fail
      go_ret
      exact ⟨rfl, B10.out⟩
end Go.Proofs.YtlipgpddcfkllaaGreatDoor
