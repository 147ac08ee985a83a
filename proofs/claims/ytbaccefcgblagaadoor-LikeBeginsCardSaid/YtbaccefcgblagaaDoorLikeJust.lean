/-
  LikeJust: the walk of the law.
-/
import Derived.Test.YtbaccefcgblagaaDoorJust
namespace Go.Proofs.YtbaccefcgblagaaDoor
open Go.RowKit Go.Wk

theorem fact_LikeJustE : justE ⟨#[97, 42]⟩ = 0 := by decide +kernel
theorem fact_LikeJustV : justV ⟨#[97, 42]⟩ = ⟨#[97, 92, 42]⟩ := by decide +kernel

/-- Where the pattern of a text is told, the text is what it fits. -/
theorem justE_zero {s : ByteArray} (h : justE s = 0) : textFault s = 0 ∧ (esc s.data.toList).length ≤ 60 ∧ (justV s).data.toList = esc s.data.toList := by
  have hV : (justV s).data.toList = esc s.data.toList := by unfold justV; rw [if_pos h]
  unfold justE at h
  by_cases h1 : textFault s = 0
  · rw [if_pos h1] at h
    by_cases h2 : 60 < (esc s.data.toList).length
    · rw [if_pos h2] at h; cases h
    · exact ⟨h1, by omega, hV⟩
  · rw [if_neg h1] at h; exact absurd h h1
theorem all_esc (l : List UInt8) (h : l.all isPrtB = true) : (esc l).all isPrtB = true := by
  induction l with
  | nil => rfl
  | cons b l ih =>
    simp only [List.all_cons, Bool.and_eq_true] at h
    by_cases hb : b = 42
    · subst hb
      simp only [esc, if_true, List.all_cons, ih h.2, Bool.and_true, Bool.and_eq_true]
      exact ⟨by decide, by decide⟩
    · simp only [esc, if_neg hb, List.all_cons, ih h.2, h.1, Bool.and_self]
theorem textFault_iff (s : ByteArray) : textFault s = 0 ↔ s.size ≤ 60 ∧ s.data.toList.all isPrtB = true := by
  unfold textFault
  by_cases h : 60 < s.size
  · rw [if_pos h]; constructor
    · intro h; cases h
    · rintro ⟨h1, _⟩; omega
  · rw [if_neg h]
    cases s.data.toList.all isPrtB <;> simp <;> omega
theorem just_fault {s : ByteArray} (h : justE s = 0) : textFault (justV s) = 0 := by
  obtain ⟨h1, h2, h3⟩ := justE_zero h
  rw [textFault_iff] at h1 ⊢
  refine ⟨?_, by rw [h3]; exact all_esc _ h1.2⟩
  rw [← h3] at h2
  rwa [show (justV s).data.toList.length = (justV s).size from Array.length_toList] at h2
theorem just_match {s : ByteArray} (h : justE s = 0) (t : ByteArray) : likeE (justV s) t = textFault t ∧ (textFault t = 0 → likeV (justV s) t = decide (t = s)) := by
  have hE : likeE (justV s) t = textFault t := by unfold likeE; rw [if_pos (just_fault h)]
  refine ⟨hE, fun ht => ?_⟩
  unfold likeV
  rw [hE, ht, (justE_zero h).2.2, Bool.eq_iff_iff]
  simp only [decide_true, Bool.true_and, decide_eq_true_eq]
  rw [just_alone]
  exact ⟨fun q => bytes_ext q, fun q => by rw [q]⟩

set_option maxRecDepth 100000 in
set_option maxHeartbeats 4000000 in
theorem LikeJust_walk (s t : ByteArray) (w : World) (hs : s.size ≤ maxLen) (ht : t.size ≤ maxLen) (hm : Max w) :
    Calls Tryd.prog 9 #[.string s, .string t] w fun e w' => e = .returned (.bool true) ∧ Below w.heap.size w w' := by
  have F := Lib.hid (fun w hm => like_Just ⟨#[97, 42]⟩ w (by decide) hm)
  rw [fact_LikeJustV, fact_LikeJustE, errV_zero] at F
  have J := Lib.hid (fun w hm => like_Just s w hs hm)
  by_cases h1 : justE s = 0
  · rw [h1, errV_zero] at J
    have hl : (justV s).size ≤ maxLen := by have := textFault_zero (just_fault h1); unfold maxLen; omega
    have M1 := Lib.hid (fun w => like_Match (justV s) s w hl hs)
    have M2 := Lib.hid (fun w => like_Match (justV s) t w hl ht)
    obtain ⟨a1, a2⟩ := just_match h1 s
    obtain ⟨b1, b2⟩ := just_match h1 t
    have hts := (justE_zero h1).1
    rw [a1, a2 hts, hts, errV_zero] at M1
    rw [b1] at M2
    simp only [decide_true] at M1
    clear hl a1 a2 b1 hts h1 hs ht
    generalize justV s = p at *
    by_cases h2 : textFault t = 0
    · rw [b2 h2, h2, errV_zero] at M2
      clear b2 h2
      go_enter Tryd.func9, Tryd.ntmps9
      go_wp2_with fail
      refine (F.out _ hm).mono ?_
      rintro e w1 ⟨rfl, hb1⟩
      have m1 := hm.keep hb1
      go_wp2_with fail
      refine (J.out _ m1).mono ?_
      rintro e w2 ⟨rfl, hb2⟩
      go_wp2_with fail
      refine (M1.out _).mono ?_
      rintro e w3 ⟨rfl, hb3⟩
      go_wp2_with fail
      refine (M2.out _).mono ?_
      rintro e w4 ⟨rfl, hb4⟩
      have B := Lib.hid (hb1.trans ((hb2.trans ((hb3.trans (hb4.mono hb3.size)).mono hb2.size)).mono hb1.size))
      clear hb1 hb2 hb3 hb4 m1
      by_cases hst : t = s
      · subst hst
        go_wp2
        go_ret
        exact ⟨by simp, B.out⟩
      · have hst2 : ¬ s.toList = t.toList := fun q => hst (toList_inj q).symm
        have hd : decide (t = s) = false := by simp [hst]
        rw [hd]
        clear hd hst
        go_wp2
        go_ret
        exact ⟨by simp [hst2], B.out⟩
    · rw [errV_ne h2] at M2
      clear b2 h2
      generalize likeV p t = v at *
      go_enter Tryd.func9, Tryd.ntmps9
      go_wp2_with fail
      refine (F.out _ hm).mono ?_
      rintro e w1 ⟨rfl, hb1⟩
      have m1 := hm.keep hb1
      go_wp2_with fail
      refine (J.out _ m1).mono ?_
      rintro e w2 ⟨rfl, hb2⟩
      go_wp2_with fail
      refine (M1.out _).mono ?_
      rintro e w3 ⟨rfl, hb3⟩
      go_wp2_with fail
      refine (M2.out _).mono ?_
      rintro e w4 ⟨rfl, hb4⟩
      have B := Lib.hid (hb1.trans ((hb2.trans ((hb3.trans (hb4.mono hb3.size)).mono hb2.size)).mono hb1.size))
      clear hb1 hb2 hb3 hb4 m1
      go_wp2
      go_ret
      exact ⟨rfl, B.out⟩
  · rw [errV_ne h1] at J
    clear h1
    go_enter Tryd.func9, Tryd.ntmps9
    go_wp2_with fail
    refine (F.out _ hm).mono ?_
    rintro e w1 ⟨rfl, hb1⟩
    have m1 := hm.keep hb1
    go_wp2_with fail
    refine (J.out _ m1).mono ?_
    rintro e w2 ⟨rfl, hb2⟩
    go_wp2
    go_ret
    exact ⟨rfl, hb1.trans (hb2.mono hb1.size)⟩
end Go.Proofs.YtbaccefcgblagaaDoor
