/-
  EntOrder: to be one, or below it, is an order. The walk of the law.
-/
import Derived.Test.YtlipgpddcfkllaaGreatEntFact
namespace Go.Proofs.YtlipgpddcfkllaaGreat
open Go.RowKit Go.Wk
set_option maxRecDepth 100000

theorem abv_src {G : List (Ud × List Ud)} {u q : Ud} (h : Abv G u q) : ∃ e ∈ G, e.1 = u := by
  cases h with
  | one s => obtain ⟨e, he, h1, _⟩ := s; exact ⟨e, he, h1⟩
  | more s _ => obtain ⟨e, he, h1, _⟩ := s; exact ⟨e, he, h1⟩
theorem in_refl {E : List En} (h : storeF E = 0) (a : Ud) : inB E a a = true := inB_true h (.inl rfl)
theorem in_iff {E : List En} (h : storeF E = 0) {a b : Ud} : inB E a b = true ↔ b = a ∨ Abv (graphE E) a b := by
  constructor
  · intro hb
    by_cases hc : b = a ∨ Abv (graphE E) a b
    · exact hc
    · rw [inB_false hc] at hb; cases hb
  · exact inB_true h
theorem in_anti {E : List En} (h : storeF E = 0) {a b : Ud} (h1 : inB E a b = true) (h2 : inB E b a = true) : a = b := by
  rcases (in_iff h).1 h1 with e | h1
  · exact e.symm
  · rcases (in_iff h).1 h2 with e | h2
    · exact e
    · have hc := h1.trans h2
      obtain ⟨e, he, h3⟩ := abv_src hc
      obtain ⟨x, hx, rfl⟩ := List.mem_map.1 he
      subst h3
      exact absurd hc ((store_ok h).2.2 x hx)
theorem in_trans {E : List En} (h : storeF E = 0) {a b c : Ud} (h1 : inB E a b = true) (h2 : inB E b c = true) : inB E a c = true := by
  rcases (in_iff h).1 h1 with rfl | h1
  · exact h2
  · rcases (in_iff h).1 h2 with rfl | h2
    · exact (in_iff h).2 (.inr h1)
    · exact (in_iff h).2 (.inr (h1.trans h2))

/-- Three uids, boxed one behind the other. -/
structure Tri (n : Nat) (a b c d e f : ByteArray) (w : World) : Prop where
  p1 : w.cell? ⟨n, 0, none⟩ = some (.string a)
  p2 : w.cell? ⟨n, 1, none⟩ = some (.string b)
  p3 : w.cell? ⟨n + 1, 0, none⟩ = some (.string c)
  p4 : w.cell? ⟨n + 1, 1, none⟩ = some (.string d)
  p5 : w.cell? ⟨n + 1 + 1, 0, none⟩ = some (.string e)
  p6 : w.cell? ⟨n + 1 + 1, 1, none⟩ = some (.string f)
theorem Tri.keep {n : Nat} {a b c d e f : ByteArray} {w w' : World} (h : Tri n a b c d e f w) (hb : Below w.heap.size w w') : Tri n a b c d e f w' :=
  ⟨cell_keep hb h.1, cell_keep hb h.2, cell_keep hb h.3, cell_keep hb h.4, cell_keep hb h.5, cell_keep hb h.6⟩
theorem in_law {E : List En} (h : storeF E = 0) (a b c : Ud) : (!(inB E a b && inB E b a) || decide (a = b)) = true ∧ (!(inB E a b && inB E b c) || inB E a c) = true := by
  refine ⟨?_, ?_⟩
  · rcases h1 : inB E a b with _ | _
    · rfl
    · rcases h2 : inB E b a with _ | _
      · rfl
      · simp [in_anti h h1 h2]
  · rcases h1 : inB E a b with _ | _
    · rfl
    · rcases h2 : inB E b c with _ | _
      · rfl
      · simp [in_trans h h1 h2]
set_option maxHeartbeats 4000000 in
theorem EntOrder_walk (A : Option Addr) (n c : Nat) (E : List En) (x1 y1 x2 y2 x3 y3 : ByteArray) (w : World) (h : Es w A n c E) (h1 : x1.size ≤ maxLen) (h2 : y1.size ≤ maxLen) (h3 : x2.size ≤ maxLen) (h4 : y2.size ≤ maxLen) (h5 : x3.size ≤ maxLen) (h6 : y3.size ≤ maxLen) :
    Calls Tryz.prog 3 #[.slice A n c, .agg #[.string x1, .string y1], .agg #[.string x2, .string y2], .agg #[.string x3, .string y3]] w fun e w' => e = .returned (.bool true) ∧ Below w.heap.size w w' := by
  have K := Lib.hid (fun (a b : Ud) (ha : UOk a) (hb : UOk b) w' hw => ent_In A n c E a b w' (h.keep (w' := w') hw) ha hb)
  have KF := Lib.hid law_above
  have U1 := Lib.hid (show UOk (x1, y1) from ⟨h1, h2⟩)
  have U2 := Lib.hid (show UOk (x2, y2) from ⟨h3, h4⟩)
  have U3 := Lib.hid (show UOk (x3, y3) from ⟨h5, h6⟩)
  clear h h1 h2 h3 h4 h5 h6
  unfold udV at K
  go_enter Tryz.func3, Tryz.ntmps3
  go_wp2_with fail
  have T0 : Hid (Tri w.heap.size x1 y1 x2 y2 x3 y3 (((w.alloc (.cells #[.string x1, .string y1] 24)).alloc (.cells #[.string x2, .string y2] 24)).alloc (.cells #[.string x3, .string y3] 24))) := Lib.hid (by
    refine ⟨?_, ?_, ?_, ?_, ?_, ?_⟩ <;> go_simp)
  have B0 := Lib.hid ((((Below.refl w.heap.size w).alloc (Nat.le_refl _) (.cells #[.string x1, .string y1] 24)).alloc (by simp) (.cells #[.string x2, .string y2] 24)).alloc (by simp; omega) (.cells #[.string x3, .string y3] 24))
  generalize ((w.alloc (.cells #[.string x1, .string y1] 24)).alloc (.cells #[.string x2, .string y2] 24)).alloc (.cells #[.string x3, .string y3] 24) = w0 at *
  refine (KF.out w0).mono ?_
  rintro e w1 ⟨rfl, b1⟩
  have T1 := Lib.hid (T0.out.keep b1)
  have B1 := bh B0 b1
  clear T0 B0 b1 KF
  obtain ⟨p1, p2, p3, p4, p5, p6⟩ := T1.out
  go_wp2_with fail
  refine (K.out (x1, y1) (x1, y1) U1.out U1.out w1 B1.out).mono ?_
  rintro e w2 ⟨rfl, b2⟩
  have T2 := Lib.hid (T1.out.keep b2)
  have B2 := bh B1 b2
  clear T1 B1 b2 p1 p2 p3 p4 p5 p6
  obtain ⟨p1, p2, p3, p4, p5, p6⟩ := T2.out
  by_cases hs : storeF E = 0
  · have HL := Lib.hid (in_law hs (x1, y1) (x2, y2) (x3, y3))
    have HE := Lib.hid (show errV (storeF E) = .nilIface by rw [hs, errV_zero])
    rw [in_refl hs, HE.out]
    clear hs
    go_wp2_with fail
    refine (K.out (x1, y1) (x2, y2) U1.out U2.out w2 B2.out).mono ?_
    rintro e w3 ⟨rfl, b3⟩
    rw [HE.out]
    have T3 := Lib.hid (T2.out.keep b3)
    have B3 := bh B2 b3
    clear T2 B2 b3 p1 p2 p3 p4 p5 p6
    obtain ⟨p1, p2, p3, p4, p5, p6⟩ := T3.out
    go_wp2_with fail
    refine (K.out (x2, y2) (x1, y1) U2.out U1.out w3 B3.out).mono ?_
    rintro e w4 ⟨rfl, b4⟩
    rw [HE.out]
    have T4 := Lib.hid (T3.out.keep b4)
    have B4 := bh B3 b4
    clear T3 B3 b4 p1 p2 p3 p4 p5 p6
    obtain ⟨p1, p2, p3, p4, p5, p6⟩ := T4.out
    go_wp2_with fail
    refine (K.out (x2, y2) (x3, y3) U2.out U3.out w4 B4.out).mono ?_
    rintro e w5 ⟨rfl, b5⟩
    rw [HE.out]
    have T5 := Lib.hid (T4.out.keep b5)
    have B5 := bh B4 b5
    clear T4 B4 b5 p1 p2 p3 p4 p5 p6
    obtain ⟨p1, p2, p3, p4, p5, p6⟩ := T5.out
    go_wp2_with fail
    refine (K.out (x1, y1) (x3, y3) U1.out U3.out w5 B5.out).mono ?_
    rintro e w6 ⟨rfl, b6⟩
    rw [HE.out]
    have T6 := Lib.hid (T5.out.keep b6)
    have B6 := bh B5 b6
    clear T5 B5 b6 p1 p2 p3 p4 p5 p6 K
    obtain ⟨p1, p2, p3, p4, p5, p6⟩ := T6.out
    generalize inB E (x1, y1) (x2, y2) = i1 at *
    generalize inB E (x2, y2) (x1, y1) = i2 at *
    generalize inB E (x2, y2) (x3, y3) = i3 at *
    generalize inB E (x1, y1) (x3, y3) = i4 at *
    have HD := Lib.hid (show decide ((x1, y1) = (x2, y2)) = (x1.toList == x2.toList && y1.toList == y2.toList) by
      by_cases he : (x1, y1) = (x2, y2)
      · injection he with h1 h2; subst h1; subst h2; simp
      · rcases uid_ne he with h1 | ⟨h1, h2⟩
        · rw [decide_eq_false he, h1]; rfl
        · rw [decide_eq_false he, h1, h2]; rfl)
    rw [HD.out] at HL
    clear HD
    rcases i1 with _ | _
    · go_wp2_with fail
      go_ret
      exact ⟨rfl, B6.out⟩
    · obtain ⟨l1, l2⟩ := HL.out
      clear HL
      have l3 : i3 = false ∨ (i3 = true ∧ i4 = true) := by cases i3 <;> cases i4 <;> simp_all
      have l4 : i2 = false ∨ (i2 = true ∧ (x1.toList == x2.toList) = true ∧ (y1.toList == y2.toList) = true) := by
        rcases i2 with _ | _
        · exact .inl rfl
        · have : (x1.toList == x2.toList && y1.toList == y2.toList) = true := by simpa using l1
          rw [Bool.and_eq_true] at this
          exact .inr ⟨rfl, this⟩
      clear l1 l2
      rcases l4 with rfl | ⟨rfl, q1, q2⟩
      · rcases l3 with rfl | ⟨rfl, rfl⟩
        · go_wp2_with fail
          go_ret
          exact ⟨rfl, B6.out⟩
        · go_wp2_with fail
          go_ret
          exact ⟨rfl, B6.out⟩
      · rcases l3 with rfl | ⟨rfl, rfl⟩
        · go_wp2_with fail
          go_ret
          exact ⟨rfl, B6.out⟩
        · go_wp2_with fail
          go_ret
          exact ⟨rfl, B6.out⟩
  · rw [errV_ne hs]
    generalize storeF E = f at *
    clear hs
    go_wp2_with fail
    go_ret
    exact ⟨rfl, B2.out⟩
end Go.Proofs.YtlipgpddcfkllaaGreat
