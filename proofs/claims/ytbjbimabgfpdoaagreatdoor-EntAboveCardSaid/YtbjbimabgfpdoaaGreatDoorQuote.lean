/-
  name.Quote: a text between quotes.
-/
import Derived.Test.YtbjbimabgfpdoaaGreatDoorReplAt
namespace Go.Proofs.YtbjbimabgfpdoaaGreatDoor
open Go.RowKit Go.Wk
set_option maxRecDepth 100000

/-- (*Replacer).Replace at a replacer that has not been built. -/
theorem repl_replace (b G C : Nat) (s : ByteArray) (w : World) (h : NewRep w b G C) (hbG : b ≠ G) (hs : s.size ≤ 60) :
    Calls Tryz.prog 82 #[.pointer (some ⟨b, 0, none⟩), .string s] w fun e w' => e = .returned (.string (bytesOf (quo s.data.toList))) ∧ ∃ w1, w.grownBy w1 (some b) ∧ Below w1.heap.size w1 w' := by
  have K := Lib.hid (repl_do b G C w h hbG)
  clear h
  go_enter Tryz.func82, Tryz.ntmps82
  go_wp2_with fail
  refine (K.out).mono ?_
  rintro e w1 ⟨X, f, T, c, rfl, hX, R, h3, hg⟩
  have KR := Lib.hid (repl_at X T c f s w1 R hs)
  have HG := Lib.hid hg
  clear R hg K
  go_wp2_with fail
  refine (KR.out).mono ?_
  rintro e w2 ⟨rfl, b2⟩
  go_wp2_with fail
  go_ret
  exact ⟨rfl, w1, HG.out, b2⟩

theorem quoted_sum (s : ByteArray) : (⟨#[34]⟩ : ByteArray) ++ bytesOf (quo s.data.toList) ++ ⟨#[34]⟩ = Wk.quoted s := by
  refine bytes_ext ?_
  rw [quoted_data]
  simp [ByteArray.data_append, bytesOf]
theorem name_Quote (s : ByteArray) (w : World) (hs : s.size ≤ maxLen) :
    Calls Tryz.prog 54 #[.string s] w fun e w' => e = .returned (.tuple #[.string (quoV s), errV (textFault s)]) ∧ Below w.heap.size w w' := by
  have K := Lib.hid (name_Plain s w hs)
  by_cases h0 : textFault s = 0
  · rw [h0, errV_zero] at K
    have h60 : s.size ≤ 60 := by
      unfold textFault at h0
      by_cases h : 60 < s.size
      · rw [if_pos h] at h0; cases h0
      · omega
    have HV := Lib.hid (show quoV s = Wk.quoted s from if_pos h0)
    rw [h0, errV_zero, HV.out]
    clear h0
    go_enter Tryz.func54, Tryz.ntmps54
    go_wp2_with fail
    refine (K.out).mono ?_
    rintro e w1 ⟨rfl, b1⟩
    have B1 := Lib.hid b1
    clear b1 K
    go_wp2_with fail
    have T2 := Lib.hid (cells_new w1 [.string ⟨#[92]⟩, .string ⟨#[92, 92]⟩, .string ⟨#[34]⟩, .string ⟨#[92, 34]⟩] 9)
    have B2 := bh B1 (below_box w1 (.cells #[.string ⟨#[92]⟩, .string ⟨#[92, 92]⟩, .string ⟨#[34]⟩, .string ⟨#[92, 34]⟩] 9))
    obtain ⟨w2, hw2⟩ : ∃ w2, w1.alloc (.cells #[.string ⟨#[92]⟩, .string ⟨#[92, 92]⟩, .string ⟨#[34]⟩, .string ⟨#[92, 34]⟩] 9) = w2 := ⟨_, rfl⟩
    have e2 : w1.alloc (.cells [Value.string ⟨#[92]⟩, .string ⟨#[92, 92]⟩, .string ⟨#[34]⟩, .string ⟨#[92, 34]⟩].toArray 9) = w2 := hw2
    rw [e2] at T2
    rw [hw2] at B2 ⊢
    clear hw2 e2
    refine (repl_new w1.heap.size w2 (by simpa [Addr.add] using T2.out 0 _ rfl) (by simpa [Addr.add] using T2.out 1 _ rfl) (by simpa [Addr.add] using T2.out 2 _ rfl) (by simpa [Addr.add] using T2.out 3 _ rfl)).mono ?_
    rintro e w3 ⟨b, G, C, rfl, hN, hbG, hb, b3⟩
    have B3 := bh B2 b3
    have KR := Lib.hid (repl_replace b G C s w3 hN hbG h60)
    have HB := Lib.hid (show w.heap.size ≤ b from Nat.le_trans B2.out.size hb)
    clear T2 hN b3 B2 hb hbG B1
    go_wp2_with fail
    refine (KR.out).mono ?_
    rintro e w4 ⟨rfl, w5, hg, b4⟩
    have B4 := Lib.hid ((B3.out.trans (below_of_grown hg HB.out B3.out.size)).trans (b4.mono (Nat.le_trans B3.out.size hg.size)))
    clear KR hg b4
    have hz : (bytesOf (quo s.data.toList)).size ≤ 120 := by
      rw [bytesOf_size]
      have := (quo_length s.data.toList).2
      rw [size_toList] at this
      omega
    have HS := Lib.hid (quoted_sum s)
    generalize bytesOf (quo s.data.toList) = q at *
    go_wp2_with fail
    go_ret2
    exact ⟨by rw [← HS.out]; rfl, B4.out⟩
  · have HE := Lib.hid (errV_ne h0)
    have HV := Lib.hid (show quoV s = ⟨#[]⟩ from if_neg h0)
    rw [HE.out] at K
    rw [HE.out, HV.out]
    clear h0
    go_enter Tryz.func54, Tryz.ntmps54
    go_wp2_with fail
    refine (K.out).mono ?_
    rintro e w1 ⟨rfl, b1⟩
    have B1 := Lib.hid b1
    clear b1 K
    go_wp2_with fail
    go_ret2
    exact ⟨rfl, B1.out⟩
end Go.Proofs.YtbjbimabgfpdoaaGreatDoor
