/-
  NameBack: the walk of the law.
-/
import Derived.Test.YtlipgpddcfkllaaQuote
import Derived.Test.YtlipgpddcfkllaaUnquote
namespace Go.Proofs.Ytlipgpddcfkllaa
open Go.RowKit Go.Wk
set_option maxRecDepth 100000

theorem back_fact : Wk.quoted ⟨#[97, 92]⟩ = ⟨#[34, 97, 92, 92, 34]⟩ := by decide +kernel
theorem back_factE : textFault ⟨#[97, 92]⟩ = 0 := by decide +kernel
theorem quoted_le {s : ByteArray} (h : textFault s = 0) : (Wk.quoted s).size ≤ 122 := by
  have h60 : s.size ≤ 60 := by
    unfold textFault at h
    by_cases h6 : 60 < s.size
    · rw [if_pos h6] at h; cases h
    · omega
  rw [quoted_size]
  have := (quo_length s.data.toList).2
  rw [size_toList] at this
  omega
theorem law_Quote (s : ByteArray) (w : World) (h : textFault s = 0) (hs : s.size ≤ maxLen) : Calls Try.prog 7 #[.string s] w fun e w' => e = .returned (.tuple #[.string (Wk.quoted s), .nilIface]) ∧ Below w.heap.size w w' := by
  have := name_Quote s w hs
  unfold quoV at this
  rwa [h, errV_zero] at this
theorem law_Unquote (s u : ByteArray) (w : World) (h : bare s = some u) (hs : s.size ≤ 140737488355328) : Calls Try.prog 6 #[.string s] w fun e w' => e = .returned (.tuple #[.string u, .nilIface]) ∧ Below w.heap.size w w' := by
  have := name_Unquote s w hs
  rwa [(bareV_some h).1, (bareV_some h).2, errV_zero] at this
set_option maxHeartbeats 2000000 in
theorem NameBack_walk (s : ByteArray) (w : World) (hs : s.size ≤ 140737488355328) :
    Calls Try.prog 3 #[.string s] w fun e w' => e = .returned (.bool true) ∧ Below w.heap.size w w' := by
  have hml : s.size ≤ maxLen := by unfold maxLen; omega
  have F := Lib.hid (law_Unquote ⟨#[34, 97, 92, 92, 34]⟩ ⟨#[97, 92]⟩ w (bare_some.2 ⟨back_factE, back_fact.symm⟩) (by decide))
  have KQ := Lib.hid (fun w' => name_Quote s w' hml)
  have KU := Lib.hid (fun w' => name_Unquote s w' hs)
  go_enter Try.func3, Try.ntmps3
  go_wp2_with fail
  refine (F.out).mono ?_
  rintro e w1 ⟨rfl, b1⟩
  have B1 := Lib.hid b1
  clear b1 F
  by_cases h0 : textFault s = 0
  · have K1 := Lib.hid (law_Quote s w1 h0 hml)
    have K2 := Lib.hid (fun w' => law_Unquote (Wk.quoted s) s w' (bare_some.2 ⟨h0, rfl⟩) (Nat.le_trans (quoted_le h0) (by decide)))
    clear h0
    generalize Wk.quoted s = q at *
    go_wp2_with fail
    refine (K1.out).mono ?_
    rintro e w2 ⟨rfl, b2⟩
    have B2 := bh B1 b2
    clear b2 K1 B1
    go_wp2_with fail
    refine (K2.out _).mono ?_
    rintro e w3 ⟨rfl, b3⟩
    have B3 := bh B2 b3
    clear b3 K2 B2
    rcases hb : bare s with _ | u
    · have K4 := Lib.hid (KU.out w3)
      rw [(bareV_none hb).1, (bareV_none hb).2, errV_ne (by decide)] at K4
      clear hb
      go_wp2_with fail
      refine (K4.out).mono ?_
      rintro e w4 ⟨rfl, b4⟩
      have B4 := bh B3 b4
      go_wp2_with fail
      go_ret
      exact ⟨rfl, B4.out⟩
    · have K4 := Lib.hid (law_Unquote s u w3 hb hs)
      obtain ⟨h1, h2⟩ := bare_some.1 hb
      have hu : u.size ≤ maxLen := by
        unfold textFault at h1
        by_cases h6 : 60 < u.size
        · rw [if_pos h6] at h1; cases h1
        · unfold maxLen; omega
      have K5 := Lib.hid (fun w' => law_Quote u w' h1 hu)
      rw [← h2] at K5
      clear hb h1 h2
      go_wp2_with fail
      refine (K4.out).mono ?_
      rintro e w4 ⟨rfl, b4⟩
      have B4 := bh B3 b4
      clear b4 K4 B3
      go_wp2_with fail
      refine (K5.out _).mono ?_
      rintro e w5 ⟨rfl, b5⟩
      have B5 := bh B4 b5
      go_wp2_with fail
      go_ret
      exact ⟨rfl, B5.out⟩
  · have K1 := Lib.hid (KQ.out w1)
    rw [errV_ne h0] at K1
    have hb0 : ∀ u, bare s = some u → False → False := fun _ _ h => h
    go_wp2_with fail
    refine (K1.out).mono ?_
    rintro e w2 ⟨rfl, b2⟩
    have B2 := bh B1 b2
    clear b2 K1 B1 hb0
    rcases hb : bare s with _ | u
    · have K4 := Lib.hid (KU.out w2)
      rw [(bareV_none hb).1, (bareV_none hb).2, errV_ne (by decide)] at K4
      clear hb
      go_wp2_with fail
      refine (K4.out).mono ?_
      rintro e w4 ⟨rfl, b4⟩
      have B4 := bh B2 b4
      go_wp2_with fail
      go_ret
      exact ⟨rfl, B4.out⟩
    · have K4 := Lib.hid (law_Unquote s u w2 hb hs)
      obtain ⟨h1, h2⟩ := bare_some.1 hb
      have hu : u.size ≤ maxLen := by
        unfold textFault at h1
        by_cases h6 : 60 < u.size
        · rw [if_pos h6] at h1; cases h1
        · unfold maxLen; omega
      have K5 := Lib.hid (fun w' => law_Quote u w' h1 hu)
      rw [← h2] at K5
      clear hb h1 h2
      go_wp2_with fail
      refine (K4.out).mono ?_
      rintro e w4 ⟨rfl, b4⟩
      have B4 := bh B2 b4
      clear b4 K4 B2
      go_wp2_with fail
      refine (K5.out _).mono ?_
      rintro e w5 ⟨rfl, b5⟩
      have B5 := bh B4 b5
      go_wp2_with fail
      go_ret
      exact ⟨rfl, B5.out⟩
end Go.Proofs.Ytlipgpddcfkllaa
