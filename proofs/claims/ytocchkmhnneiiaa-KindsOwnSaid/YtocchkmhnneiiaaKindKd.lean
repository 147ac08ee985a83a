/-
  kinds' reader: a type.
-/
import Derived.Test.YtocchkmhnneiiaaKindFld
import Derived.Test.YtocchkmhnneiiaaKdRow
namespace Go.Proofs.Ytocchkmhnneiiaa
open Go.RowKit Go.Wk Go.Sort
set_option maxRecDepth 100000

theorem grown_set6 (w : World) (b : Nat) (y0 y1 y2 y3 y4 y5 : Value) : w.grownBy ((((((w.setCell ⟨b, 0, none⟩ y0).setCell ⟨b, 1, none⟩ y1).setCell ⟨b, 2, none⟩ y2).setCell ⟨b, 3, none⟩ y3).setCell ⟨b, 4, none⟩ y4).setCell ⟨b, 5, none⟩ y5) (some b) :=
  grown_trans (grown_trans (grown_trans (grown_trans (grown_trans (grown_trans (grown_refl w (some b)) (grown_setCell _ ⟨b, 0, none⟩ _)) (grown_setCell _ ⟨b, 1, none⟩ _)) (grown_setCell _ ⟨b, 2, none⟩ _)) (grown_setCell _ ⟨b, 3, none⟩ _)) (grown_setCell _ ⟨b, 4, none⟩ _)) (grown_setCell _ ⟨b, 5, none⟩ _)
theorem heap_set6 (w : World) (b : Nat) (y0 y1 y2 y3 y4 y5 : Value) {g : Nat} (h : g ≠ b) : ((((((w.setCell ⟨b, 0, none⟩ y0).setCell ⟨b, 1, none⟩ y1).setCell ⟨b, 2, none⟩ y2).setCell ⟨b, 3, none⟩ y3).setCell ⟨b, 4, none⟩ y4).setCell ⟨b, 5, none⟩ y5).heap[g]? = w.heap[g]? := by
  iterate 6 rw [Below.heap_setCell _ _ _ g h]
/-- The text is empty, or the walk sees that it is not. -/
theorem emp_or (s : ByteArray) : s = ⟨#[]⟩ ∨ s ≠ emp ∧ (s.toList == []) = false ∧ (s.toList != []) = true := by
  rcases empty_or s with h | ⟨h1, h2, h3⟩
  · exact .inl h
  · exact .inr ⟨fun e => h2 (by rw [e, toList_emp]), beq_eq_false_iff_ne.2 h2, by rw [bne_iff_ne]; exact h2⟩
set_option maxHeartbeats 8000000 in
theorem kind_base (R m : Nat) (x : Nd) (r : List Nd) (w : World) (h : RdK w R (x :: r)) (hb : baseOp x.op) :
    Calls Try.prog 28 #[.pointer (some ⟨R, 0, none⟩)] w (KindPost w R (parseK (m + 1) (x :: r))) := by
  have HR := Lib.hid h
  have HPP := Lib.hid (show parseK (m + 1) (x :: r) = if x.n = 0 ∧ x.s = emp ∧ x.t = emp then some (.base x.op, r) else none by simp only [parseK, if_pos hb])
  generalize parseK (m + 1) (x :: r) = PP at *
  clear h
  go_enter Try.func28, Try.ntmps28
  go_wp2_with fail
  have G0 := Lib.hid (grown_of_below (below_box w (.cells #[.int .i64 0, .int .i64 0, .string ⟨#[]⟩, .string ⟨#[]⟩, .pointer none, .slice none 0 0] 39)) (some R))
  have X0 := Lib.hid (bx6_new w (.int .i64 0) (.int .i64 0) (.string ⟨#[]⟩) (.string ⟨#[]⟩) (.pointer none) (.slice none 0 0) 39)
  have R0 := Lib.hid (HR.out.keep (below_box w (.cells #[.int .i64 0, .int .i64 0, .string ⟨#[]⟩, .string ⟨#[]⟩, .pointer none, .slice none 0 0] 39)))
  have HRL := Lib.hid (show R < w.heap.size by obtain ⟨⟨_, _, _, h1, _⟩, _⟩ := HR.out; exact block_lt_of_cell h1)
  have HNE := Lib.hid (show some w.heap.size ≠ some R from fun e => by injection e with e; have := HRL.out; omega)
  obtain ⟨w0, hw0⟩ : ∃ w0, w.alloc (.cells #[.int .i64 0, .int .i64 0, .string ⟨#[]⟩, .string ⟨#[]⟩, .pointer none, .slice none 0 0] 39) = w0 := ⟨_, rfl⟩
  have HS0 := Lib.hid (show w.heap.size ≤ w0.heap.size by rw [← hw0]; simp)
  rw [hw0] at G0 X0 R0 ⊢
  clear hw0 HR
  refine (kind_node R (x :: r) w0 R0.out).mono ?_
  rintro e w1 ⟨rfl, r1, g1⟩
  have G1 := Lib.hid (G0.out.trans g1)
  have X1 := Lib.hid (X0.out.but g1 HNE.out)
  have R1 := Lib.hid r1
  have HS1 := Lib.hid (Nat.le_trans HS0.out g1.size)
  clear r1 g1 G0 X0 R0 HS0
  unfold ndV
  have hl : w.heap.size < w1.heap.size := block_lt_of_cell X1.out.c0
  obtain ⟨o, ho⟩ : ∃ o, o = x.op := ⟨_, rfl⟩
  rw [← ho] at hb HPP ⊢
  clear ho
  by_cases hn : x.n = 0
  · rcases emp_or x.s with hs | ⟨hs, s1, s2⟩
    · rcases emp_or x.t with ht | ⟨ht, t1, t2⟩
      · have HP := Lib.hid (show PP = some (.base o, r) by rw [HPP.out, if_pos ⟨hn, hs, ht⟩])
        rw [hn, hs, ht]
        clear hn hs ht HPP
        rcases hb with rfl | rfl | rfl | rfl | rfl
        · obtain ⟨c0, c1, c2, c3, c4, c5, z0, z1, z2, z3, z4, z5⟩ := X1.out
          go_wp2_with fail
          have Y := X1.out.set (.int .i64 41) (.int .i64 0) (.string ⟨#[]⟩) (.string ⟨#[]⟩) (.pointer none) (.slice none 0 0)
          have gs := grown_set6 w1 w.heap.size (.int .i64 41) (.int .i64 0) (.string ⟨#[]⟩) (.string ⟨#[]⟩) (.pointer none) (.slice none 0 0)
          have R4 := R1.out.but gs HRL.out
          have G4 := grown_new G1.out gs (Nat.le_refl _)
          obtain ⟨S, hS⟩ : ∃ S, ((((((w1.setCell ⟨w.heap.size, 0, none⟩ (.int .i64 41)).setCell ⟨w.heap.size, 1, none⟩ (.int .i64 0)).setCell ⟨w.heap.size, 2, none⟩ (.string ⟨#[]⟩)).setCell ⟨w.heap.size, 3, none⟩ (.string ⟨#[]⟩)).setCell ⟨w.heap.size, 4, none⟩ (.pointer none)).setCell ⟨w.heap.size, 5, none⟩ (.slice none 0 0)) = S := ⟨_, rfl⟩
          rw [hS] at Y gs R4 G4 ⊢
          clear hS gs
          have Y5 := (Y.keep (below_box _ (.cells #[.int .i64 41, .int .i64 0, .string ⟨#[]⟩, .string ⟨#[]⟩, .pointer none, .slice none 0 0] 39))).keep (below_box _ (.cells #[.int .i64 41, .int .i64 0, .string ⟨#[]⟩, .string ⟨#[]⟩] 34))
          obtain ⟨j0, j1, j2, j3, j4, j5, -, -, -, -, -, -⟩ := Y5
          refine bodyPost_ret (v := .agg #[.int .i64 41, .int .i64 0, .string ⟨#[]⟩, .string ⟨#[]⟩, .pointer none, .slice none 0 0]) (by simp [results, Try.results28, go_sem, j0, j1, j2, j3, j4, j5]) rfl ?_
          rw [HP.out]
          exact ⟨[.int .i64 41, .int .i64 0, .string ⟨#[]⟩, .string ⟨#[]⟩, .pointer none, .slice none 0 0], rfl, ⟨0, rfl⟩, (R4.keep (below_box _ _)).keep (below_box _ _), grown_trans (grown_trans G4 (grown_of_below (below_box _ _) _)) (grown_of_below (below_box _ _) _)⟩
        · obtain ⟨c0, c1, c2, c3, c4, c5, z0, z1, z2, z3, z4, z5⟩ := X1.out
          go_wp2_with fail
          have Y := X1.out.set (.int .i64 42) (.int .i64 0) (.string ⟨#[]⟩) (.string ⟨#[]⟩) (.pointer none) (.slice none 0 0)
          have gs := grown_set6 w1 w.heap.size (.int .i64 42) (.int .i64 0) (.string ⟨#[]⟩) (.string ⟨#[]⟩) (.pointer none) (.slice none 0 0)
          have R4 := R1.out.but gs HRL.out
          have G4 := grown_new G1.out gs (Nat.le_refl _)
          obtain ⟨S, hS⟩ : ∃ S, ((((((w1.setCell ⟨w.heap.size, 0, none⟩ (.int .i64 42)).setCell ⟨w.heap.size, 1, none⟩ (.int .i64 0)).setCell ⟨w.heap.size, 2, none⟩ (.string ⟨#[]⟩)).setCell ⟨w.heap.size, 3, none⟩ (.string ⟨#[]⟩)).setCell ⟨w.heap.size, 4, none⟩ (.pointer none)).setCell ⟨w.heap.size, 5, none⟩ (.slice none 0 0)) = S := ⟨_, rfl⟩
          rw [hS] at Y gs R4 G4 ⊢
          clear hS gs
          have Y5 := (Y.keep (below_box _ (.cells #[.int .i64 42, .int .i64 0, .string ⟨#[]⟩, .string ⟨#[]⟩, .pointer none, .slice none 0 0] 39))).keep (below_box _ (.cells #[.int .i64 42, .int .i64 0, .string ⟨#[]⟩, .string ⟨#[]⟩] 34))
          obtain ⟨j0, j1, j2, j3, j4, j5, -, -, -, -, -, -⟩ := Y5
          refine bodyPost_ret (v := .agg #[.int .i64 42, .int .i64 0, .string ⟨#[]⟩, .string ⟨#[]⟩, .pointer none, .slice none 0 0]) (by simp [results, Try.results28, go_sem, j0, j1, j2, j3, j4, j5]) rfl ?_
          rw [HP.out]
          exact ⟨[.int .i64 42, .int .i64 0, .string ⟨#[]⟩, .string ⟨#[]⟩, .pointer none, .slice none 0 0], rfl, ⟨0, rfl⟩, (R4.keep (below_box _ _)).keep (below_box _ _), grown_trans (grown_trans G4 (grown_of_below (below_box _ _) _)) (grown_of_below (below_box _ _) _)⟩
        · obtain ⟨c0, c1, c2, c3, c4, c5, z0, z1, z2, z3, z4, z5⟩ := X1.out
          go_wp2_with fail
          have Y := X1.out.set (.int .i64 43) (.int .i64 0) (.string ⟨#[]⟩) (.string ⟨#[]⟩) (.pointer none) (.slice none 0 0)
          have gs := grown_set6 w1 w.heap.size (.int .i64 43) (.int .i64 0) (.string ⟨#[]⟩) (.string ⟨#[]⟩) (.pointer none) (.slice none 0 0)
          have R4 := R1.out.but gs HRL.out
          have G4 := grown_new G1.out gs (Nat.le_refl _)
          obtain ⟨S, hS⟩ : ∃ S, ((((((w1.setCell ⟨w.heap.size, 0, none⟩ (.int .i64 43)).setCell ⟨w.heap.size, 1, none⟩ (.int .i64 0)).setCell ⟨w.heap.size, 2, none⟩ (.string ⟨#[]⟩)).setCell ⟨w.heap.size, 3, none⟩ (.string ⟨#[]⟩)).setCell ⟨w.heap.size, 4, none⟩ (.pointer none)).setCell ⟨w.heap.size, 5, none⟩ (.slice none 0 0)) = S := ⟨_, rfl⟩
          rw [hS] at Y gs R4 G4 ⊢
          clear hS gs
          have Y5 := (Y.keep (below_box _ (.cells #[.int .i64 43, .int .i64 0, .string ⟨#[]⟩, .string ⟨#[]⟩, .pointer none, .slice none 0 0] 39))).keep (below_box _ (.cells #[.int .i64 43, .int .i64 0, .string ⟨#[]⟩, .string ⟨#[]⟩] 34))
          obtain ⟨j0, j1, j2, j3, j4, j5, -, -, -, -, -, -⟩ := Y5
          refine bodyPost_ret (v := .agg #[.int .i64 43, .int .i64 0, .string ⟨#[]⟩, .string ⟨#[]⟩, .pointer none, .slice none 0 0]) (by simp [results, Try.results28, go_sem, j0, j1, j2, j3, j4, j5]) rfl ?_
          rw [HP.out]
          exact ⟨[.int .i64 43, .int .i64 0, .string ⟨#[]⟩, .string ⟨#[]⟩, .pointer none, .slice none 0 0], rfl, ⟨0, rfl⟩, (R4.keep (below_box _ _)).keep (below_box _ _), grown_trans (grown_trans G4 (grown_of_below (below_box _ _) _)) (grown_of_below (below_box _ _) _)⟩
        · obtain ⟨c0, c1, c2, c3, c4, c5, z0, z1, z2, z3, z4, z5⟩ := X1.out
          go_wp2_with fail
          have Y := X1.out.set (.int .i64 48) (.int .i64 0) (.string ⟨#[]⟩) (.string ⟨#[]⟩) (.pointer none) (.slice none 0 0)
          have gs := grown_set6 w1 w.heap.size (.int .i64 48) (.int .i64 0) (.string ⟨#[]⟩) (.string ⟨#[]⟩) (.pointer none) (.slice none 0 0)
          have R4 := R1.out.but gs HRL.out
          have G4 := grown_new G1.out gs (Nat.le_refl _)
          obtain ⟨S, hS⟩ : ∃ S, ((((((w1.setCell ⟨w.heap.size, 0, none⟩ (.int .i64 48)).setCell ⟨w.heap.size, 1, none⟩ (.int .i64 0)).setCell ⟨w.heap.size, 2, none⟩ (.string ⟨#[]⟩)).setCell ⟨w.heap.size, 3, none⟩ (.string ⟨#[]⟩)).setCell ⟨w.heap.size, 4, none⟩ (.pointer none)).setCell ⟨w.heap.size, 5, none⟩ (.slice none 0 0)) = S := ⟨_, rfl⟩
          rw [hS] at Y gs R4 G4 ⊢
          clear hS gs
          have Y5 := (Y.keep (below_box _ (.cells #[.int .i64 48, .int .i64 0, .string ⟨#[]⟩, .string ⟨#[]⟩, .pointer none, .slice none 0 0] 39))).keep (below_box _ (.cells #[.int .i64 48, .int .i64 0, .string ⟨#[]⟩, .string ⟨#[]⟩] 34))
          obtain ⟨j0, j1, j2, j3, j4, j5, -, -, -, -, -, -⟩ := Y5
          refine bodyPost_ret (v := .agg #[.int .i64 48, .int .i64 0, .string ⟨#[]⟩, .string ⟨#[]⟩, .pointer none, .slice none 0 0]) (by simp [results, Try.results28, go_sem, j0, j1, j2, j3, j4, j5]) rfl ?_
          rw [HP.out]
          exact ⟨[.int .i64 48, .int .i64 0, .string ⟨#[]⟩, .string ⟨#[]⟩, .pointer none, .slice none 0 0], rfl, ⟨0, rfl⟩, (R4.keep (below_box _ _)).keep (below_box _ _), grown_trans (grown_trans G4 (grown_of_below (below_box _ _) _)) (grown_of_below (below_box _ _) _)⟩
        · obtain ⟨c0, c1, c2, c3, c4, c5, z0, z1, z2, z3, z4, z5⟩ := X1.out
          go_wp2_with fail
          have Y := X1.out.set (.int .i64 49) (.int .i64 0) (.string ⟨#[]⟩) (.string ⟨#[]⟩) (.pointer none) (.slice none 0 0)
          have gs := grown_set6 w1 w.heap.size (.int .i64 49) (.int .i64 0) (.string ⟨#[]⟩) (.string ⟨#[]⟩) (.pointer none) (.slice none 0 0)
          have R4 := R1.out.but gs HRL.out
          have G4 := grown_new G1.out gs (Nat.le_refl _)
          obtain ⟨S, hS⟩ : ∃ S, ((((((w1.setCell ⟨w.heap.size, 0, none⟩ (.int .i64 49)).setCell ⟨w.heap.size, 1, none⟩ (.int .i64 0)).setCell ⟨w.heap.size, 2, none⟩ (.string ⟨#[]⟩)).setCell ⟨w.heap.size, 3, none⟩ (.string ⟨#[]⟩)).setCell ⟨w.heap.size, 4, none⟩ (.pointer none)).setCell ⟨w.heap.size, 5, none⟩ (.slice none 0 0)) = S := ⟨_, rfl⟩
          rw [hS] at Y gs R4 G4 ⊢
          clear hS gs
          have Y5 := (Y.keep (below_box _ (.cells #[.int .i64 49, .int .i64 0, .string ⟨#[]⟩, .string ⟨#[]⟩, .pointer none, .slice none 0 0] 39))).keep (below_box _ (.cells #[.int .i64 49, .int .i64 0, .string ⟨#[]⟩, .string ⟨#[]⟩] 34))
          obtain ⟨j0, j1, j2, j3, j4, j5, -, -, -, -, -, -⟩ := Y5
          refine bodyPost_ret (v := .agg #[.int .i64 49, .int .i64 0, .string ⟨#[]⟩, .string ⟨#[]⟩, .pointer none, .slice none 0 0]) (by simp [results, Try.results28, go_sem, j0, j1, j2, j3, j4, j5]) rfl ?_
          rw [HP.out]
          exact ⟨[.int .i64 49, .int .i64 0, .string ⟨#[]⟩, .string ⟨#[]⟩, .pointer none, .slice none 0 0], rfl, ⟨0, rfl⟩, (R4.keep (below_box _ _)).keep (below_box _ _), grown_trans (grown_trans G4 (grown_of_below (below_box _ _) _)) (grown_of_below (below_box _ _) _)⟩
      · have HP := Lib.hid (show PP = none by rw [HPP.out, if_neg (fun h => ht h.2.2)])
        rw [hn, hs]
        clear hn hs ht HPP
        rcases hb with rfl | rfl | rfl | rfl | rfl
        all_goals
          go_wp2_with fail
          exact ⟨rfl, by rw [HP.out]; exact ⟨rfl, grown_trans (grown_trans G1.out (grown_of_below (below_box _ _) _)) (grown_of_below (below_box _ _) _)⟩⟩
    · have HP := Lib.hid (show PP = none by rw [HPP.out, if_neg (fun h => hs h.2.1)])
      rw [hn]
      clear hn hs HPP
      rcases hb with rfl | rfl | rfl | rfl | rfl
      all_goals
        go_wp2_with fail
        exact ⟨rfl, by rw [HP.out]; exact ⟨rfl, grown_trans (grown_trans G1.out (grown_of_below (below_box _ _) _)) (grown_of_below (below_box _ _) _)⟩⟩
  · have HP := Lib.hid (show PP = none by rw [HPP.out, if_neg (fun h => hn h.1)])
    have e0 : (x.n == 0) = false := beq_eq_false_iff_ne.2 hn
    have e1 : (x.n != 0) = true := by rw [bne_iff_ne]; exact hn
    clear HPP
    rcases hb with rfl | rfl | rfl | rfl | rfl
    all_goals
      go_wp2_with fail
      exact ⟨rfl, by rw [HP.out]; exact ⟨rfl, grown_trans (grown_trans G1.out (grown_of_below (below_box _ _) _)) (grown_of_below (below_box _ _) _)⟩⟩
end Go.Proofs.Ytocchkmhnneiiaa
