/-
  Plain: the pattern of a text. No program in sight.
-/
import Derived.Test.YtfbgaefbalbohaaDoorLikeLaw
import Derived.Lib.Replace
namespace Go.Wk

/-- A text as the pattern of itself: a star bears a sign ahead. -/
def esc : List UInt8 → List UInt8
  | [] => []
  | b :: r => if b = 42 then 92 :: 42 :: esc r else b :: esc r

theorem replaceK_other (k : Nat) {b : UInt8} (hb : b ≠ 42) (l : List UInt8) : Lib.replaceK [42] [92, 42] k (b :: l) = b :: Lib.replaceK [42] [92, 42] k l := by
  cases k with
  | zero => rfl
  | succ k =>
    have h1 : Lib.index (b :: l) [42] = Lib.indexByte (b :: l) 42 := Lib.index_one _ _
    have h2 : Lib.index l [42] = Lib.indexByte l 42 := Lib.index_one _ _
    have hge := Lib.indexByte_ge l 42
    have h3 : Lib.indexByte (b :: l) 42 = if Lib.indexByte l 42 == -1 then -1 else Lib.indexByte l 42 + 1 := by
      conv => lhs; unfold Lib.indexByte
      have : (b == 42) = false := beq_eq_false_iff_ne.2 hb
      simp [this]
    unfold Lib.replaceK
    rw [h1, h2, h3]
    by_cases e : Lib.indexByte l 42 = -1
    · simp [e]
    · have e1 : (Lib.indexByte l 42 == -1) = false := beq_eq_false_iff_ne.2 e
      have e2 : (Lib.indexByte l 42 + 1 == -1) = false := beq_eq_false_iff_ne.2 (by omega)
      simp only [e1, Bool.false_eq_true, if_false]
      rw [if_neg (by simp; omega)]
      have e3 : (Lib.indexByte l 42 + 1).toNat = (Lib.indexByte l 42).toNat + 1 := by omega
      rw [e3]
      simp
theorem replaceK_star (k : Nat) (l : List UInt8) : Lib.replaceK [42] [92, 42] (k + 1) (42 :: l) = 92 :: 42 :: Lib.replaceK [42] [92, 42] k l := by
  have h1 : Lib.index (42 :: l) [42] = 0 := by rw [Lib.index_one]; unfold Lib.indexByte; simp
  conv => lhs; unfold Lib.replaceK
  rw [h1]
  simp
theorem replaceK_esc : ∀ l : List UInt8, Lib.replaceK [42] [92, 42] (l.count 42) l = esc l
  | [] => rfl
  | b :: l => by
    by_cases hb : b = 42
    · subst hb
      rw [List.count_cons_self, replaceK_star, replaceK_esc l]; simp [esc]
    · rw [List.count_cons_of_ne (fun e => hb e), replaceK_other _ hb, replaceK_esc l]; simp [esc, hb]
theorem replaceAll_esc (l : List UInt8) : Lib.replaceAll l [42] [92, 42] = esc l := by
  unfold Lib.replaceAll Lib.replace Lib.replaceNum
  rw [if_neg (by decide), if_pos (.inl (by decide)), Lib.count_one]
  exact replaceK_esc l

theorem esc_length (l : List UInt8) : (esc l).length = l.length + l.count 42 := by
  induction l with
  | nil => rfl
  | cons b l ih =>
    by_cases hb : b = 42
    · subst hb; simp [esc, ih]; omega
    · rw [List.count_cons_of_ne (fun e => hb e)]; simp [esc, hb, ih]; omega

/-- The signs of the pattern of a text are its bytes. -/
theorem signs_esc_map : ∀ l : List UInt8, signs (esc l) = l.map some
  | [] => signs_nil
  | b :: l => by
    have ih := signs_esc_map l
    by_cases hb : b = 42
    · subst hb
      simp only [esc, if_true, signs_esc, ih, List.map_cons]
    · simp only [esc, if_neg hb, List.map_cons]
      cases l with
      | nil => simp only [esc]; exact signs_one hb
      | cons c l =>
        by_cases hc : c = 42
        · subst hc
          simp only [esc, if_true] at ih ⊢
          rw [signs_cons _ hb (fun q => by have := q.2; cases this), ih]
        · simp only [esc, if_neg hc] at ih ⊢
          rw [signs_cons _ hb (fun q => hc q.2), ih]

theorem fitsS_map (l s : List UInt8) : fitsS (l.map some) s = true ↔ s = l := by
  have := fitsS_bytes l [] s
  rw [List.append_nil] at this
  rw [this]
  constructor
  · rintro ⟨t, rfl, h⟩
    rw [fitsS_nil, List.isEmpty_iff] at h
    rw [h, List.append_nil]
  · rintro rfl; exact ⟨[], by simp, by rw [fitsS_nil]; rfl⟩
/-- ONE TEXT ALONE. -/
theorem just_alone (l s : List UInt8) : fitsS (signs (esc l)) s = true ↔ s = l := by rw [signs_esc_map, fitsS_map]

theorem esc_last {l : List UInt8} (h : ∀ q : l ≠ [], l.getLast q ≠ 92) : ∀ q : esc l ≠ [], (esc l).getLast q ≠ 92 := by
  induction l with
  | nil => intro q; exact absurd rfl q
  | cons b l ih =>
    intro q
    cases l with
    | nil =>
      by_cases hb : b = 42
      · subst hb; simp [esc]
      · have := h (by simp)
        simp only [List.getLast_singleton] at this
        simp only [esc, if_neg hb, List.getLast_singleton]; exact this
    | cons c l =>
      have hne : esc (c :: l) ≠ [] := by
        simp only [esc]; split <;> simp
      have ih' := ih (fun q => by have := h (by simp); rwa [List.getLast_cons q] at this) hne
      by_cases hb : b = 42
      · subst hb
        simp only [show esc (42 :: c :: l) = 92 :: 42 :: esc (c :: l) from by simp [esc]]
        rw [List.getLast_cons (by simp), List.getLast_cons hne]; exact ih'
      · simp only [show esc (b :: c :: l) = b :: esc (c :: l) from by simp [esc, hb]]
        rw [List.getLast_cons hne]; exact ih'
/-- WHAT BEGINS SO. -/
theorem just_begins {l s : List UInt8} (h : ∀ q : l ≠ [], l.getLast q ≠ 92) : fitsS (signs (esc l ++ [42])) s = true ↔ ∃ t, s = l ++ t := by
  rw [signs_append_star [] _ (esc l) rfl (esc_last h), signs_esc_map, fitsS_bytes, signs_nil]
  constructor
  · rintro ⟨t, e, _⟩; exact ⟨t, e⟩
  · rintro ⟨t, e⟩
    exact ⟨t, e, (fitsS_star _ _).2 ⟨t.length, Nat.le_refl _, by rw [List.drop_length, fitsS_nil]; rfl⟩⟩
end Go.Wk
