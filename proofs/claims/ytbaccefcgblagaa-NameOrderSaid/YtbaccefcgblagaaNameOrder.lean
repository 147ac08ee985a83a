/-
  NameOrder: uids are in a row. The walk of the law.
-/
import Derived.Test.YtbaccefcgblagaaOrd
namespace Go.Proofs.Ytbaccefcgblagaa
open Go.RowKit Go.Wk

theorem fact_NameOrder : cmpUid ⟨#[65]⟩ ⟨#[98]⟩ ⟨#[65]⟩ ⟨#[97]⟩ = 1 := by decide +kernel

/-- Three uids, boxed one behind the other. -/
def Three (n : Nat) (a b c d e f : ByteArray) (w : World) : Prop :=
  w.cell? ⟨n, 0, none⟩ = some (.string a) ∧ w.cell? ⟨n, 1, none⟩ = some (.string b) ∧ w.cell? ⟨n + 1, 0, none⟩ = some (.string c) ∧ w.cell? ⟨n + 1, 1, none⟩ = some (.string d) ∧
  w.cell? ⟨n + 1 + 1, 0, none⟩ = some (.string e) ∧ w.cell? ⟨n + 1 + 1, 1, none⟩ = some (.string f)
theorem Three.keep {n : Nat} {a b c d e f : ByteArray} {w w' : World} (h : Three n a b c d e f w) (hb : Below w.heap.size w w') : Three n a b c d e f w' :=
  ⟨cell_keep hb h.1, cell_keep hb h.2.1, cell_keep hb h.2.2.1, cell_keep hb h.2.2.2.1, cell_keep hb h.2.2.2.2.1, cell_keep hb h.2.2.2.2.2⟩

set_option maxHeartbeats 1000000 in
theorem NameOrder_walk (a b c d e f : ByteArray) (w : World) (ha : a.size ≤ maxLen) (hb : b.size ≤ maxLen) (hc : c.size ≤ maxLen) (hd : d.size ≤ maxLen) (_he : e.size ≤ maxLen) (_hf : f.size ≤ maxLen) :
    Calls Try.prog 3 #[.agg #[.string a, .string b], .agg #[.string c, .string d], .agg #[.string e, .string f]] w fun e w' => e = .returned (.bool true) ∧ Below w.heap.size w w' := by
  go_enter Try.func3, Try.ntmps3
  go_wp2_with fail
  have T0 : Three w.heap.size a b c d e f (((w.alloc (.cells #[.string a, .string b] 23)).alloc (.cells #[.string c, .string d] 23)).alloc (.cells #[.string e, .string f] 23)) := by
    unfold Three; refine ⟨?_, ?_, ?_, ?_, ?_, ?_⟩ <;> go_simp
  have B0 := (((Below.refl w.heap.size w).alloc (Nat.le_refl _) (.cells #[.string a, .string b] 23)).alloc (by simp) (.cells #[.string c, .string d] 23)).alloc (by simp; omega) (.cells #[.string e, .string f] 23)
  refine (name_Compare _ _ _ _ _).mono ?_
  rintro e1 w1 ⟨rfl, hb1⟩
  rw [fact_NameOrder]
  have T1 := T0.keep hb1
  have B1 := B0.trans (hb1.mono (by simp; omega))
  clear T0 B0 hb1
  obtain ⟨p1, p2, p3, p4, p5, p6⟩ := id T1
  go_wp2_with fail
  refine (name_Compare _ _ _ _ _).mono ?_
  rintro e2 w2 ⟨rfl, hb2⟩
  have T2 := T1.keep hb2
  have B2 := B1.trans (hb2.mono B1.size)
  clear T1 B1 hb2 p1 p2 p3 p4 p5 p6
  obtain ⟨p1, p2, p3, p4, p5, p6⟩ := id T2
  go_wp2_with fail
  refine (name_Compare _ _ _ _ _).mono ?_
  rintro e3 w3 ⟨rfl, hb3⟩
  have T3 := T2.keep hb3
  have B3 := B2.trans (hb3.mono B2.size)
  clear T2 B2 hb3 p1 p2 p3 p4 p5 p6
  obtain ⟨p1, p2, p3, p4, p5, p6⟩ := id T3
  go_wp2_with fail
  refine (name_Compare _ _ _ _ _).mono ?_
  rintro e4 w4 ⟨rfl, hb4⟩
  have T4 := T3.keep hb4
  have B4 := B3.trans (hb4.mono B3.size)
  clear T3 B3 hb4 p1 p2 p3 p4 p5 p6
  obtain ⟨p1, p2, p3, p4, p5, p6⟩ := id T4
  go_wp2_with fail
  refine (name_Compare _ _ _ _ _).mono ?_
  rintro e5 w5 ⟨rfl, hb5⟩
  have T5 := T4.keep hb5
  have B5 := B4.trans (hb5.mono B4.size)
  clear T4 B4 hb5 p1 p2 p3 p4 p5 p6
  obtain ⟨p1, p2, p3, p4, p5, p6⟩ := id T5
  have hu := cmpUid_cmp
  have anti : cmpUid c d a b = - cmpUid a b c d := hu.anti (a, b) (c, d)
  rw [anti]
  have hr : -1 ≤ cmpUid a b c d ∧ cmpUid a b c d ≤ 1 := by have := hu.rng (a, b) (c, d); simp only at this; omega
  have hz : cmpUid a b c d = 0 ↔ a = c ∧ b = d := by have := hu.zero (a, b) (c, d); simpa using this
  have ht : cmpUid a b c d ≤ 0 → cmpUid c d e f ≤ 0 → cmpUid a b e f ≤ 0 := hu.trans (a, b) (c, d) (e, f)
  have hcall := ref_Uids a b c d w5 ha hb hc hd
  generalize cmpUid a b c d = x at *
  generalize cmpUid c d e f = y at *
  generalize cmpUid a b e f = z at *
  clear hu anti
  have Hc := Lib.hid hcall; clear hcall
  have Ht := Lib.hid ht; clear ht
  have Hz := Lib.hid hz; clear hz
  obtain ⟨hr1, hr2⟩ := hr
  have t1 : decide (x < -1) = false := by simp; omega
  have t2 : decide (1 < x) = false := by simp; omega
  have fin : ∀ w6, Below w5.heap.size w5 w6 → Below w.heap.size w w6 := fun w6 hb6 => B5.trans (hb6.mono B5.size)
  have Fin := Lib.hid fin; clear fin B5 T5
  have key : ∀ v : Bool, (x = 0 ∧ a = c ∧ b = d) ∨ (x ≠ 0 ∧ a ≠ c) ∨ (x ≠ 0 ∧ a = c ∧ b ≠ d) := by
    intro _
    by_cases h0 : x = 0
    · exact .inl ⟨h0, Hz.out.1 h0⟩
    · by_cases h1 : a = c
      · exact .inr (.inr ⟨h0, h1, fun h2 => h0 (Hz.out.2 ⟨h1, h2⟩)⟩)
      · exact .inr (.inl ⟨h0, h1⟩)
  rcases key true with ⟨h0, rfl, rfl⟩ | ⟨h0, h1⟩ | ⟨h0, rfl, h1⟩
  · subst h0
    clear Hz key
    go_wp2_with fail
    refine Hc.out.mono ?_
    rintro e6 w6 ⟨rfl, hb6⟩
    by_cases hy : y ≤ 0
    · have hz := Ht.out (by omega) hy
      clear Ht
      go_wp2
      go_ret
      exact ⟨rfl, Fin.out _ hb6⟩
    · clear Ht
      go_wp2
      go_ret
      exact ⟨rfl, Fin.out _ hb6⟩
  · clear Hz key
    have h2 : ¬ a.toList = c.toList := fun h => h1 (toList_inj h)
    clear h1
    have h3 : (x == 0) = false := by simpa using h0
    go_wp2_with (go_at_call 8; refine Hc.out.mono ?_; rintro e6 w6 ⟨rfl, hb6⟩; have H6 := Lib.hid (Fin.out _ hb6); clear hb6; by_cases hx : x ≤ 0 <;> by_cases hy : y ≤ 0 <;> (have hz : x ≤ 0 → y ≤ 0 → decide (z ≤ 0) = true := (fun q1 q2 => decide_eq_true (Ht.out q1 q2))))
    all_goals (go_ret; exact ⟨rfl, H6.out⟩)
  · clear Hz key
    have h2 : ¬ b.toList = d.toList := fun h => h1 (toList_inj h)
    clear h1
    have h3 : (x == 0) = false := by simpa using h0
    go_wp2_with (go_at_call 8; refine Hc.out.mono ?_; rintro e6 w6 ⟨rfl, hb6⟩; have H6 := Lib.hid (Fin.out _ hb6); clear hb6; by_cases hx : x ≤ 0 <;> by_cases hy : y ≤ 0 <;> (have hz : x ≤ 0 → y ≤ 0 → decide (z ≤ 0) = true := (fun q1 q2 => decide_eq_true (Ht.out q1 q2))))
    all_goals (go_ret; exact ⟨rfl, H6.out⟩)
end Go.Proofs.Ytbaccefcgblagaa
