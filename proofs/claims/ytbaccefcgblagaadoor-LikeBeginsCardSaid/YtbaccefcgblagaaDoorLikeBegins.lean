/-
  LikeBegins: the walk of the law.
-/
import Derived.Test.YtbaccefcgblagaaDoorLikeJust
import Derived.Test.YtbaccefcgblagaaDoorNameRef
namespace Go.Proofs.YtbaccefcgblagaaDoor
open Go.RowKit Go.Wk

theorem fact_LikeBeginsE : likeE ⟨#[97, 98, 42]⟩ ⟨#[97, 98, 99]⟩ = 0 := by decide +kernel
theorem fact_LikeBeginsV : likeV ⟨#[97, 98, 42]⟩ ⟨#[97, 98, 99]⟩ = true := by decide +kernel

theorem data_append (a b : ByteArray) : (a ++ b).data.toList = a.data.toList ++ b.data.toList := by
  rw [ByteArray.data_append, Array.toList_append]
theorem extract_take (s : ByteArray) (i : Nat) : (s.extract 0 i).data.toList = s.data.toList.take i := by
  rw [ByteArray.data_extract, Array.toList_extract]; simp [List.extract]

/-- The pattern and a star behind it. -/
theorem begins_match {s : ByteArray} (h : justE s = 0) (h60 : (justV s).size < 60) (hlast : ∀ q : s.data.toList ≠ [], s.data.toList.getLast q ≠ 92) (t : ByteArray) :
    likeE (justV s ++ ⟨#[42]⟩) t = textFault t ∧ (textFault t = 0 → (likeV (justV s ++ ⟨#[42]⟩) t = true ↔ s.size ≤ t.size ∧ (t.extract 0 s.size) = s)) := by
  obtain ⟨a1, a2⟩ := (textFault_iff _).1 (just_fault h)
  have hp : textFault (justV s ++ ⟨#[42]⟩) = 0 := by
    rw [textFault_iff, ByteArray.size_append, data_append, List.all_append, a2]
    exact ⟨by rw [show (⟨#[42]⟩ : ByteArray).size = 1 from rfl]; omega, by decide⟩
  have hE : likeE (justV s ++ ⟨#[42]⟩) t = textFault t := by unfold likeE; rw [if_pos hp]
  refine ⟨hE, fun ht => ?_⟩
  unfold likeV
  rw [hE, ht, data_append, (justE_zero h).2.2]
  simp only [decide_true, Bool.true_and]
  rw [just_begins hlast]
  have l1 : s.data.toList.length = s.size := Array.length_toList
  have l2 : t.data.toList.length = t.size := Array.length_toList
  constructor
  · rintro ⟨u, e⟩
    have hl := congrArg List.length e
    rw [List.length_append, l1, l2] at hl
    refine ⟨by omega, bytes_ext ?_⟩
    rw [extract_take, e, ← l1]; simp
  · rintro ⟨h1, h2⟩
    refine ⟨t.data.toList.drop s.size, ?_⟩
    have := congrArg (fun b : ByteArray => b.data.toList) h2
    simp only [extract_take] at this
    conv => lhs; rw [← List.take_append_drop s.size t.data.toList, this]

set_option maxRecDepth 100000 in
set_option maxHeartbeats 8000000 in
theorem LikeBegins_core (s t p : ByteArray) (w : World) (hp : p.size < 60) (hs : s.size ≤ maxLen) (ht : t.size ≤ maxLen) (hm : Max w)
    (J : Hid (∀ w, Max w → Calls Tryd.prog 27 #[.string s] w fun e w' => e = .returned (.tuple #[.string p, .nilIface]) ∧ Below w.heap.size w w'))
    (hlast : s.size ≤ 0 ∨ ∃ h : 0 < s.size, ((s[s.size - 1].toNat : Int) == 92) = false) (v : Bool)
    (hE : likeE (p ++ ⟨#[42]⟩) t = textFault t) (hV : textFault t = 0 → likeV (p ++ ⟨#[42]⟩) t = v ∧ (v = true ↔ s.size ≤ t.size ∧ (t.extract 0 s.size) = s)) :
    Calls Tryd.prog 10 #[.string s, .string t] w fun e w' => e = .returned (.bool true) ∧ Below w.heap.size w w' := by
  have F := Lib.hid (fun w => like_Match ⟨#[97, 98, 42]⟩ ⟨#[97, 98, 99]⟩ w (by decide) (by decide))
  rw [fact_LikeBeginsV, fact_LikeBeginsE, errV_zero] at F
  have M := Lib.hid (fun w => like_Match (p ++ ⟨#[42]⟩) t w (by rw [ByteArray.size_append, show (⟨#[42]⟩ : ByteArray).size = 1 from rfl]; unfold maxLen; omega) ht)
  have T := Lib.hid (fun w => ref_TextFault t w ht)
  rw [hE] at M
  unfold maxLen at hs ht
  by_cases h1 : textFault t = 0
  · obtain ⟨v1, v2⟩ := hV h1
    rw [v1, h1, errV_zero] at M
    clear T hE hV h1 v1
    by_cases h2 : s.size ≤ t.size
    · by_cases h3 : t.extract 0 s.size = s
      · have hv : v = true := v2.2 ⟨h2, h3⟩
        subst hv
        have h4 : (t.extract 0 s.size).toList = s.toList := by rw [h3]
        clear v2 h3
        rcases hlast with hl | ⟨hl, hl2⟩
        all_goals
          go_enter Tryd.func10, Tryd.ntmps10
          go_wp2_with fail
          refine (F.out _).mono ?_
          rintro e w1 ⟨rfl, hb1⟩
          have m1 := hm.keep hb1
          go_wp2_with fail
          refine (J.out _ m1).mono ?_
          rintro e w2 ⟨rfl, hb2⟩
          go_wp2_with fail
          refine (M.out _).mono ?_
          rintro e w3 ⟨rfl, hb3⟩
          have B := Lib.hid (hb1.trans ((hb2.trans (hb3.mono hb2.size)).mono hb1.size))
          clear hb1 hb2 hb3 m1
          go_wp2
          go_ret
          exact ⟨by simp, B.out⟩
      · have hv : v = false := by rw [Bool.eq_false_iff]; exact fun q => h3 (v2.1 q).2
        subst hv
        have h4 : ¬ (t.extract 0 s.size).toList = s.toList := fun q => h3 (toList_inj q)
        clear v2 h3
        rcases hlast with hl | ⟨hl, hl2⟩
        all_goals
          go_enter Tryd.func10, Tryd.ntmps10
          go_wp2_with fail
          refine (F.out _).mono ?_
          rintro e w1 ⟨rfl, hb1⟩
          have m1 := hm.keep hb1
          go_wp2_with fail
          refine (J.out _ m1).mono ?_
          rintro e w2 ⟨rfl, hb2⟩
          go_wp2_with fail
          refine (M.out _).mono ?_
          rintro e w3 ⟨rfl, hb3⟩
          have B := Lib.hid (hb1.trans ((hb2.trans (hb3.mono hb2.size)).mono hb1.size))
          clear hb1 hb2 hb3 m1
          go_wp2
          go_ret
          exact ⟨by simp [h4], B.out⟩
    · have hv : v = false := by rw [Bool.eq_false_iff]; exact fun q => h2 (v2.1 q).1
      subst hv
      clear v2
      obtain ⟨hl, hl2⟩ := hlast.resolve_left (by omega)
      all_goals
        go_enter Tryd.func10, Tryd.ntmps10
        go_wp2_with fail
        refine (F.out _).mono ?_
        rintro e w1 ⟨rfl, hb1⟩
        have m1 := hm.keep hb1
        go_wp2_with fail
        refine (J.out _ m1).mono ?_
        rintro e w2 ⟨rfl, hb2⟩
        go_wp2_with fail
        refine (M.out _).mono ?_
        rintro e w3 ⟨rfl, hb3⟩
        have B := Lib.hid (hb1.trans ((hb2.trans (hb3.mono hb2.size)).mono hb1.size))
        clear hb1 hb2 hb3 m1
        go_wp2
        go_ret
        exact ⟨by simp, B.out⟩
  · rw [errV_ne h1] at M
    have h2 : (textFault t != 0) = true := by rw [bne_iff_ne]; exact h1
    clear hE hV h1
    generalize likeV (p ++ ⟨#[42]⟩) t = u at *
    generalize textFault t = x at *
    rcases hlast with hl | ⟨hl, hl2⟩
    all_goals
      go_enter Tryd.func10, Tryd.ntmps10
      go_wp2_with fail
      refine (F.out _).mono ?_
      rintro e w1 ⟨rfl, hb1⟩
      have m1 := hm.keep hb1
      go_wp2_with fail
      refine (J.out _ m1).mono ?_
      rintro e w2 ⟨rfl, hb2⟩
      go_wp2_with fail
      refine (M.out _).mono ?_
      rintro e w3 ⟨rfl, hb3⟩
      go_wp2_with fail
      refine (T.out _).mono ?_
      rintro e w4 ⟨rfl, hb4⟩
      have B := Lib.hid (hb1.trans ((hb2.trans ((hb3.trans (hb4.mono hb3.size)).mono hb2.size)).mono hb1.size))
      clear hb1 hb2 hb3 hb4 m1
      go_wp2
      go_ret
      exact ⟨rfl, B.out⟩

set_option maxRecDepth 100000 in
set_option maxHeartbeats 8000000 in
theorem LikeBegins_out (s t p : ByteArray) (w : World) (hp : p.size ≤ 60) (hs : s.size ≤ maxLen) (hm : Max w)
    (J : Hid (∀ w, Max w → Calls Tryd.prog 27 #[.string s] w fun e w' => e = .returned (.tuple #[.string p, .nilIface]) ∧ Below w.heap.size w w'))
    (h : 60 ≤ p.size ∨ p.size < 60 ∧ ∃ h : 0 < s.size, (s[s.size - 1].toNat : Int) = 92) :
    Calls Tryd.prog 10 #[.string s, .string t] w fun e w' => e = .returned (.bool true) ∧ Below w.heap.size w w' := by
  have F := Lib.hid (fun w => like_Match ⟨#[97, 98, 42]⟩ ⟨#[97, 98, 99]⟩ w (by decide) (by decide))
  rw [fact_LikeBeginsV, fact_LikeBeginsE, errV_zero] at F
  unfold maxLen at hs
  rcases h with h | ⟨h1, h2, h3⟩
  all_goals
    go_enter Tryd.func10, Tryd.ntmps10
    go_wp2_with fail
    refine (F.out _).mono ?_
    rintro e w1 ⟨rfl, hb1⟩
    have m1 := hm.keep hb1
    go_wp2_with fail
    refine (J.out _ m1).mono ?_
    rintro e w2 ⟨rfl, hb2⟩
    go_wp2
    go_ret
    exact ⟨rfl, hb1.trans (hb2.mono hb1.size)⟩

set_option maxRecDepth 100000 in
set_option maxHeartbeats 8000000 in
theorem LikeBegins_walk (s t : ByteArray) (w : World) (hs : s.size ≤ maxLen) (ht : t.size ≤ maxLen) (hm : Max w) :
    Calls Tryd.prog 10 #[.string s, .string t] w fun e w' => e = .returned (.bool true) ∧ Below w.heap.size w w' := by
  have J := Lib.hid (fun w hm => like_Just s w hs hm)
  by_cases h1 : justE s = 0
  · rw [h1, errV_zero] at J
    have hl := textFault_zero (just_fault h1)
    by_cases h2 : 60 ≤ (justV s).size ∨ (justV s).size < 60 ∧ ∃ h : 0 < s.size, (s[s.size - 1].toNat : Int) = 92
    · exact LikeBegins_out s t _ w hl hs hm J h2
    · have h3 : (justV s).size < 60 := by omega
      have h4 : s.size ≤ 0 ∨ ∃ h : 0 < s.size, ((s[s.size - 1].toNat : Int) == 92) = false := by
        by_cases h0 : 0 < s.size
        · exact .inr ⟨h0, beq_eq_false_iff_ne.2 fun e => h2 (.inr ⟨h3, h0, e⟩)⟩
        · exact .inl (by omega)
      have hlast : ∀ q : s.data.toList ≠ [], s.data.toList.getLast q ≠ 92 := by
        intro hh e
        have hl : 0 < s.size := by
          rcases Nat.eq_zero_or_pos s.size with h0 | h0
          · exact absurd (List.eq_nil_of_length_eq_zero (by rw [Array.length_toList]; exact h0)) hh
          · exact h0
        refine h2 (.inr ⟨h3, hl, ?_⟩)
        rw [List.getLast_eq_getElem] at e
        have e' : s[s.size - 1] = 92 := e
        rw [e']; rfl
      obtain ⟨m1, m2⟩ := begins_match h1 h3 hlast t
      exact LikeBegins_core s t _ w h3 hs ht hm J h4 _ m1 (fun q => ⟨rfl, m2 q⟩)
  · have F := Lib.hid (fun w => like_Match ⟨#[97, 98, 42]⟩ ⟨#[97, 98, 99]⟩ w (by decide) (by decide))
    rw [fact_LikeBeginsV, fact_LikeBeginsE, errV_zero] at F
    rw [errV_ne h1] at J
    clear h1
    go_enter Tryd.func10, Tryd.ntmps10
    go_wp2_with fail
    refine (F.out _).mono ?_
    rintro e w1 ⟨rfl, hb1⟩
    have m1 := hm.keep hb1
    go_wp2_with fail
    refine (J.out _ m1).mono ?_
    rintro e w2 ⟨rfl, hb2⟩
    go_wp2
    go_ret
    exact ⟨rfl, hb1.trans (hb2.mono hb1.size)⟩
end Go.Proofs.YtbaccefcgblagaaDoor
