/-
  Plain: a pattern without needless stars. No program in sight.
-/
import Derived.Test.YtfbgaefbalbohaaDoorLikeLaw
import Derived.Test.YtfbgaefbalbohaaDoorNameLaw
namespace Go.Wk

/-- What is written of signs, where the last one was a star, or was none. -/
def shortS : Bool → List (Option UInt8) → List UInt8
  | _, [] => []
  | last, none :: r => if last then shortS true r else 42 :: shortS true r
  | _, some b :: r => if b = 42 then 92 :: 42 :: shortS false r else b :: shortS false r
def squeeze : Bool → List (Option UInt8) → List (Option UInt8)
  | _, [] => []
  | last, none :: r => if last then squeeze true r else none :: squeeze true r
  | _, some b :: r => some b :: squeeze false r
/-- No star stands behind a bare backslash. -/
def okS : List (Option UInt8) → Prop
  | [] => True
  | x :: r => (x = some 92 → r.head? ≠ some none) ∧ okS r
theorem signs_ok : ∀ (n : Nat) (l : List UInt8), l.length = n → okS (signs l) := by
  intro n
  induction n using Nat.strongRecOn with
  | ind n ih =>
    intro l hl
    rcases l with _ | ⟨b, r⟩
    · rw [signs_nil]; trivial
    · by_cases h1 : b = 42
      · subst h1
        rw [signs_c42]
        exact ⟨(fun q => by cases q), ih r.length (by simp at hl; omega) r rfl⟩
      · rcases r with _ | ⟨c, r⟩
        · rw [signs_one h1]; exact ⟨(fun _ => by simp), trivial⟩
        · by_cases h2 : b = 92 ∧ c = 42
          · obtain ⟨rfl, rfl⟩ := h2
            rw [signs_esc]
            exact ⟨(fun q => by simp at q), ih r.length (by simp at hl; omega) r rfl⟩
          · rw [signs_cons r h1 h2]
            refine ⟨fun q => ?_, ih (c :: r).length (by simp at hl ⊢; omega) (c :: r) rfl⟩
            simp only [Option.some.injEq] at q
            have hc : c ≠ 42 := fun e => h2 ⟨q, e⟩
            rcases r with _ | ⟨d, r⟩
            · rw [signs_one hc]; simp
            · by_cases h3 : c = 92 ∧ d = 42
              · obtain ⟨rfl, rfl⟩ := h3
                rw [signs_esc]; simp
              · rw [signs_cons r hc h3]; simp
theorem short_head {r : List (Option UInt8)} (h : r.head? ≠ some none) {c : UInt8} {t : List UInt8} (e : shortS false r = c :: t) : c ≠ 42 := by
  rcases r with _ | ⟨_ | b, r⟩
  · simp [shortS] at e
  · simp at h
  · simp only [shortS] at e
    split at e
    · injection e with e _; subst e; decide
    · injection e with e _; subst e; assumption
theorem signs_short : ∀ (G : List (Option UInt8)) (last : Bool), okS G → signs (shortS last G) = squeeze last G := by
  intro G
  induction G with
  | nil => intro last _; cases last <;> simp [shortS, squeeze, signs_nil]
  | cons x r ih =>
    intro last h
    rcases x with _ | b
    · cases last
      · simp only [shortS, squeeze, Bool.false_eq_true, if_false, signs_c42, ih true h.2]
      · simp only [shortS, squeeze, if_true, ih true h.2]
    · have hi := ih false h.2
      simp only [shortS, squeeze]
      split
      · rename_i hb; subst hb
        rw [signs_esc, hi]
      · rename_i hb
        rcases hs : shortS false r with _ | ⟨c, t⟩
        · rw [hs, signs_nil] at hi
          rw [signs_one hb, ← hi]
        · rw [signs_cons t hb (fun q => short_head (h.1 (by rw [q.1])) hs q.2), ← hs, hi]
theorem fits_star_congr {P Q : List (Option UInt8)} (h : ∀ s, fitsS P s = fitsS Q s) (s : List UInt8) : fitsS (none :: P) s = fitsS (none :: Q) s := by
  rw [Bool.eq_iff_iff, fitsS_star, fitsS_star]
  constructor
  · rintro ⟨k, hk, q⟩; exact ⟨k, hk, by rw [← h]; exact q⟩
  · rintro ⟨k, hk, q⟩; exact ⟨k, hk, by rw [h]; exact q⟩
theorem fits_star_star (P : List (Option UInt8)) (s : List UInt8) : fitsS (none :: none :: P) s = fitsS (none :: P) s := by
  rw [Bool.eq_iff_iff, fitsS_star (none :: P)]
  constructor
  · rintro ⟨k, hk, q⟩; exact fitsS_star_drop hk q
  · intro q; exact ⟨0, Nat.zero_le _, by simpa using q⟩
theorem fits_squeeze : ∀ (G : List (Option UInt8)), (∀ s, fitsS (squeeze false G) s = fitsS G s) ∧ (∀ s, fitsS (none :: squeeze true G) s = fitsS (none :: G) s) := by
  intro G
  induction G with
  | nil => exact ⟨fun _ => rfl, fun _ => rfl⟩
  | cons x r ih =>
    rcases x with _ | b
    · refine ⟨fun s => ?_, fun s => ?_⟩
      · simp only [squeeze, Bool.false_eq_true, if_false]; exact ih.2 s
      · simp only [squeeze, if_true]; rw [ih.2 s, fits_star_star]
    · have h1 : ∀ s, fitsS (some b :: squeeze false r) s = fitsS (some b :: r) s := by
        intro s
        rcases s with _ | ⟨c, s⟩
        · rw [fitsS_some_nil, fitsS_some_nil]
        · rw [fitsS_some_cons, fitsS_some_cons, ih.1]
      exact ⟨fun s => by simp only [squeeze]; exact h1 s, fun s => by simp only [squeeze]; exact fits_star_congr h1 s⟩
theorem short_squeeze : ∀ (G : List (Option UInt8)) (last : Bool), shortS last (squeeze last G) = shortS last G := by
  intro G
  induction G with
  | nil => intro last; cases last <;> rfl
  | cons x r ih =>
    intro last
    rcases x with _ | b
    · cases last
      · simp only [shortS, squeeze, Bool.false_eq_true, if_false, ih true]
      · simp only [shortS, squeeze, if_true, ih true]
    · simp only [shortS, squeeze, ih false]
theorem short_length : ∀ (n : Nat) (l : List UInt8) (last : Bool), l.length = n → (shortS last (signs l)).length ≤ l.length := by
  intro n
  induction n using Nat.strongRecOn with
  | ind n ih =>
    intro l last hl
    rcases l with _ | ⟨b, r⟩
    · rw [signs_nil]; cases last <;> simp [shortS]
    · by_cases h1 : b = 42
      · subst h1
        rw [signs_c42]
        have := ih r.length (by simp at hl; omega) r true rfl
        cases last
        · simp only [shortS, Bool.false_eq_true, if_false, List.length_cons]; omega
        · simp only [shortS, if_true, List.length_cons]; omega
      · rcases r with _ | ⟨c, r⟩
        · rw [signs_one h1]
          simp [shortS, h1]
        · by_cases h2 : b = 92 ∧ c = 42
          · obtain ⟨rfl, rfl⟩ := h2
            rw [signs_esc]
            have := ih r.length (by simp at hl; omega) r false rfl
            simp only [shortS, if_true, List.length_cons]; omega
          · rw [signs_cons r h1 h2]
            have := ih (c :: r).length (by simp at hl ⊢; omega) (c :: r) false rfl
            simp only [shortS, h1, if_false, List.length_cons] at this ⊢; omega
theorem signs_mem : ∀ (n : Nat) (l : List UInt8) (b : UInt8), l.length = n → some b ∈ signs l → b ∈ l := by
  intro n
  induction n using Nat.strongRecOn with
  | ind n ih =>
    intro l x hl h
    rcases l with _ | ⟨b, r⟩
    · rw [signs_nil] at h; cases h
    · by_cases h1 : b = 42
      · subst h1
        rw [signs_c42] at h
        rcases List.mem_cons.1 h with q | q
        · cases q
        · exact List.mem_cons_of_mem _ (ih r.length (by simp at hl; omega) r x rfl q)
      · rcases r with _ | ⟨c, r⟩
        · rw [signs_one h1] at h
          simp at h; simp [h]
        · by_cases h2 : b = 92 ∧ c = 42
          · obtain ⟨rfl, rfl⟩ := h2
            rw [signs_esc] at h
            rcases List.mem_cons.1 h with q | q
            · injection q with q; subst q; simp
            · exact List.mem_cons_of_mem _ (List.mem_cons_of_mem _ (ih r.length (by simp at hl; omega) r x rfl q))
          · rw [signs_cons r h1 h2] at h
            rcases List.mem_cons.1 h with q | q
            · injection q with q; subst q; simp
            · exact List.mem_cons_of_mem _ (ih (c :: r).length (by simp at hl ⊢; omega) (c :: r) x rfl q)
theorem short_mem : ∀ (G : List (Option UInt8)) (last : Bool) (c : UInt8), c ∈ shortS last G → c = 42 ∨ c = 92 ∨ some c ∈ G := by
  intro G
  induction G with
  | nil => intro last c h; cases last <;> simp [shortS] at h
  | cons x r ih =>
    intro last c h
    rcases x with _ | b
    · cases last
      · simp only [shortS, Bool.false_eq_true, if_false] at h
        rcases List.mem_cons.1 h with q | q
        · exact .inl q
        · rcases ih true c q with q | q | q
          · exact .inl q
          · exact .inr (.inl q)
          · exact .inr (.inr (List.mem_cons_of_mem _ q))
      · simp only [shortS, if_true] at h
        rcases ih true c h with q | q | q
        · exact .inl q
        · exact .inr (.inl q)
        · exact .inr (.inr (List.mem_cons_of_mem _ q))
    · simp only [shortS] at h
      split at h
      · rcases List.mem_cons.1 h with q | q
        · exact .inr (.inl q)
        · rcases List.mem_cons.1 q with q | q
          · exact .inl q
          · rcases ih false c q with q | q | q
            · exact .inl q
            · exact .inr (.inl q)
            · exact .inr (.inr (List.mem_cons_of_mem _ q))
      · rcases List.mem_cons.1 h with q | q
        · exact .inr (.inr (by rw [q]; simp))
        · rcases ih false c q with q | q | q
          · exact .inl q
          · exact .inr (.inl q)
          · exact .inr (.inr (List.mem_cons_of_mem _ q))
/-- What like.Short tells. -/
def shortV (p : ByteArray) : ByteArray := if textFault p = 0 then ⟨(shortS false (signs p.data.toList)).toArray⟩ else ⟨#[]⟩
theorem shortV_ok {p : ByteArray} (h : textFault p = 0) : (shortV p).data.toList = shortS false (signs p.data.toList) := by unfold shortV; rw [if_pos h]
theorem short_size {p : ByteArray} (h : textFault p = 0) : (shortV p).size ≤ p.size := by
  have h1 : (shortV p).size = (shortV p).data.toList.length := by rw [Array.length_toList]; rfl
  have h2 : p.size = p.data.toList.length := by rw [Array.length_toList]; rfl
  rw [h1, h2, shortV_ok h]
  exact short_length _ _ _ rfl
theorem short_fault {p : ByteArray} (h : textFault p = 0) : textFault (shortV p) = 0 := by
  have hs := short_size h
  unfold textFault at h
  split at h
  · cases h
  · split at h
    · rename_i h60 hall
      unfold textFault
      rw [if_neg (by omega), if_pos]
      rw [shortV_ok (by unfold textFault; rw [if_neg h60, if_pos hall]), List.all_eq_true]
      intro c hc
      rcases short_mem _ _ _ hc with rfl | rfl | q
      · decide
      · decide
      · exact List.all_eq_true.1 hall c (signs_mem _ _ _ rfl q)
    · cases h
theorem short_signs {p : ByteArray} (h : textFault p = 0) : signs (shortV p).data.toList = squeeze false (signs p.data.toList) := by
  rw [shortV_ok h]; exact signs_short _ _ (signs_ok _ _ rfl)
theorem short_again {p : ByteArray} (h : textFault p = 0) : shortV (shortV p) = shortV p := by
  have h2 := short_fault h
  have e : (shortV (shortV p)).data.toList = (shortV p).data.toList := by
    rw [shortV_ok h2, short_signs h, short_squeeze, ← shortV_ok h]
  exact bytes_ext e
theorem short_fits {p : ByteArray} (h : textFault p = 0) (s : List UInt8) : fitsS (signs (shortV p).data.toList) s = fitsS (signs p.data.toList) s := by
  rw [short_signs h]; exact (fits_squeeze _).1 s
end Go.Wk
