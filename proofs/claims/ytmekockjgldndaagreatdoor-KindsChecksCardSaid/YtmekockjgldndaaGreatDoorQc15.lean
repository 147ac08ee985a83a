/-
  kinds' reader: a type.
  kinds' reader: a type of entities.
  kinds' reader: a type of sets.
  The order of nodes once more: what was there is as it was, and draws are only added.
  DERIVED: THE SHELF's CONTRACTS AT THIS DUMP, IN PLAIN WORDS (tools/lay-plain.mjs out of 'TryzSortK.lean', which tools/lay-shelf.mjs wrote): THE SAME DECLARATIONS UNDER THE SAME NAMES: 'import', 'namespace', 'open', 'def', 'theorem' AND NOTHING ELSE: no command of the shelf's: FOR A HAND-IN. Each laying: the table of numbers ('.._ren') and one theorem, a field a fact of the dump's own or the kernel's comparison; each contract: ONE APPLICATION.
  Fields of types in a row of the call's own, and slices.SortFunc over them by their names.
-/
import Derived.Shelf.SlSortCmp.WholeK
import Derived.Shelf.SlSortCmp.NoneTotal
import Derived.Test.YtmekockjgldndaaGreatDoorProg
import Derived.Test.YtmekockjgldndaaGreatDoorQc14
namespace Go.Proofs.YtmekockjgldndaaGreatDoor
open Go.RowKit Go.Wk Go.Sort
set_option maxRecDepth 100000

theorem grown_set6 (w : World) (b : Nat) (y0 y1 y2 y3 y4 y5 : Value) : w.grownBy ((((((w.setCell ⟨b, 0, none⟩ y0).setCell ⟨b, 1, none⟩ y1).setCell ⟨b, 2, none⟩ y2).setCell ⟨b, 3, none⟩ y3).setCell ⟨b, 4, none⟩ y4).setCell ⟨b, 5, none⟩ y5) (some b) :=
  grown_trans (grown_trans (grown_trans (grown_trans (grown_trans (grown_trans (grown_refl w (some b)) (grown_setCell _ ⟨b, 0, none⟩ _)) (grown_setCell _ ⟨b, 1, none⟩ _)) (grown_setCell _ ⟨b, 2, none⟩ _)) (grown_setCell _ ⟨b, 3, none⟩ _)) (grown_setCell _ ⟨b, 4, none⟩ _)) (grown_setCell _ ⟨b, 5, none⟩ _)
theorem heap_set6 (w : World) (b : Nat) (y0 y1 y2 y3 y4 y5 : Value) {g : Nat} (h : g ≠ b) : ((((((w.setCell ⟨b, 0, none⟩ y0).setCell ⟨b, 1, none⟩ y1).setCell ⟨b, 2, none⟩ y2).setCell ⟨b, 3, none⟩ y3).setCell ⟨b, 4, none⟩ y4).setCell ⟨b, 5, none⟩ y5).heap[g]? = w.heap[g]? := by
  iterate 6 rw [Below.heap_setCell _ _ _ g h]
/-- The text is empty, or the walk sees that it is not. -/
theorem emp_or (s : ByteArray) : s = ⟨#[]⟩ ∨ s ≠ emp ∧ (s.toList == []) = false ∧ (s.toList != []) = true := by
  rcases empty_or s with h | ⟨h1, h2, h3⟩
  · exact .inl h
  · exact .inr ⟨fun e => h2 (by rw [e, toList_emp]), beq_eq_false_iff_ne.2 h2, by rw [bne_iff_ne]; exact h2⟩
set_option maxHeartbeats 8000000 in
theorem kind_base (R m : Nat) (x : Nd) (r : List Nd) (w : World) (h : RdK w R (x :: r)) (hb : baseOp x.op) :
    Calls Tryz.prog 98 #[.pointer (some ⟨R, 0, none⟩)] w (KindPost w R (parseK (m + 1) (x :: r))) := by
  have HR := Lib.hid h
  have HPP := Lib.hid (show parseK (m + 1) (x :: r) = if x.n = 0 ∧ x.s = emp ∧ x.t = emp then some (.base x.op, r) else none by simp only [parseK, if_pos hb])
  generalize parseK (m + 1) (x :: r) = PP at *
  clear h
  go_enter Tryz.func98, Tryz.ntmps98
  go_wp2_with fail
  have G0 := Lib.hid (grown_of_below (below_box w (.cells #[.int .i64 0, .int .i64 0, .string ⟨#[]⟩, .string ⟨#[]⟩, .pointer none, .slice none 0 0] 85)) (some R))
  have X0 := Lib.hid (bx6_new w (.int .i64 0) (.int .i64 0) (.string ⟨#[]⟩) (.string ⟨#[]⟩) (.pointer none) (.slice none 0 0) 85)
  have R0 := Lib.hid (HR.out.keep (below_box w (.cells #[.int .i64 0, .int .i64 0, .string ⟨#[]⟩, .string ⟨#[]⟩, .pointer none, .slice none 0 0] 85)))
  have HRL := Lib.hid (show R < w.heap.size by obtain ⟨⟨_, _, _, h1, _⟩, _⟩ := HR.out; exact block_lt_of_cell h1)
  have HNE := Lib.hid (show some w.heap.size ≠ some R from fun e => by injection e with e; have := HRL.out; omega)
  obtain ⟨w0, hw0⟩ : ∃ w0, w.alloc (.cells #[.int .i64 0, .int .i64 0, .string ⟨#[]⟩, .string ⟨#[]⟩, .pointer none, .slice none 0 0] 85) = w0 := ⟨_, rfl⟩
  have HS0 := Lib.hid (show w.heap.size ≤ w0.heap.size by rw [← hw0]; simp)
  rw [hw0] at G0 X0 R0 ⊢
  clear hw0 HR
  refine (kind_node R (x :: r) w0 R0.out).mono ?_
  rintro e w1 ⟨rfl, r1, g1⟩
  have G1 := Lib.hid (G0.out.trans g1)
  have X1 := Lib.hid (X0.out.but g1 HNE.out)
  have R1 := Lib.hid r1
  have HS1 := Lib.hid (Nat.le_trans HS0.out g1.size)
  clear r1 g1 G0 X0 R0 HS0
  unfold ndV
  have hl : w.heap.size < w1.heap.size := block_lt_of_cell X1.out.c0
  obtain ⟨o, ho⟩ : ∃ o, o = x.op := ⟨_, rfl⟩
  rw [← ho] at hb HPP ⊢
  clear ho
  by_cases hn : x.n = 0
  · rcases emp_or x.s with hs | ⟨hs, s1, s2⟩
    · rcases emp_or x.t with ht | ⟨ht, t1, t2⟩
      · have HP := Lib.hid (show PP = some (.base o, r) by rw [HPP.out, if_pos ⟨hn, hs, ht⟩])
        rw [hn, hs, ht]
        clear hn hs ht HPP
        rcases hb with rfl | rfl | rfl | rfl | rfl
        · obtain ⟨c0, c1, c2, c3, c4, c5, z0, z1, z2, z3, z4, z5⟩ := X1.out
          go_wp2_with fail
          have Y := X1.out.set (.int .i64 41) (.int .i64 0) (.string ⟨#[]⟩) (.string ⟨#[]⟩) (.pointer none) (.slice none 0 0)
          have gs := grown_set6 w1 w.heap.size (.int .i64 41) (.int .i64 0) (.string ⟨#[]⟩) (.string ⟨#[]⟩) (.pointer none) (.slice none 0 0)
          have R4 := R1.out.but gs HRL.out
          have G4 := grown_new G1.out gs (Nat.le_refl _)
          obtain ⟨S, hS⟩ : ∃ S, ((((((w1.setCell ⟨w.heap.size, 0, none⟩ (.int .i64 41)).setCell ⟨w.heap.size, 1, none⟩ (.int .i64 0)).setCell ⟨w.heap.size, 2, none⟩ (.string ⟨#[]⟩)).setCell ⟨w.heap.size, 3, none⟩ (.string ⟨#[]⟩)).setCell ⟨w.heap.size, 4, none⟩ (.pointer none)).setCell ⟨w.heap.size, 5, none⟩ (.slice none 0 0)) = S := ⟨_, rfl⟩
          rw [hS] at Y gs R4 G4 ⊢
          clear hS gs
          have Y5 := (Y.keep (below_box _ (.cells #[.int .i64 41, .int .i64 0, .string ⟨#[]⟩, .string ⟨#[]⟩, .pointer none, .slice none 0 0] 85))).keep (below_box _ (.cells #[.int .i64 41, .int .i64 0, .string ⟨#[]⟩, .string ⟨#[]⟩] 44))
          obtain ⟨j0, j1, j2, j3, j4, j5, -, -, -, -, -, -⟩ := Y5
          refine bodyPost_ret (v := .agg #[.int .i64 41, .int .i64 0, .string ⟨#[]⟩, .string ⟨#[]⟩, .pointer none, .slice none 0 0]) (by simp [results, Tryz.results98, go_sem, j0, j1, j2, j3, j4, j5]) rfl ?_
          rw [HP.out]
          exact ⟨[.int .i64 41, .int .i64 0, .string ⟨#[]⟩, .string ⟨#[]⟩, .pointer none, .slice none 0 0], rfl, ⟨0, rfl⟩, (R4.keep (below_box _ _)).keep (below_box _ _), grown_trans (grown_trans G4 (grown_of_below (below_box _ _) _)) (grown_of_below (below_box _ _) _)⟩
        · obtain ⟨c0, c1, c2, c3, c4, c5, z0, z1, z2, z3, z4, z5⟩ := X1.out
          go_wp2_with fail
          have Y := X1.out.set (.int .i64 42) (.int .i64 0) (.string ⟨#[]⟩) (.string ⟨#[]⟩) (.pointer none) (.slice none 0 0)
          have gs := grown_set6 w1 w.heap.size (.int .i64 42) (.int .i64 0) (.string ⟨#[]⟩) (.string ⟨#[]⟩) (.pointer none) (.slice none 0 0)
          have R4 := R1.out.but gs HRL.out
          have G4 := grown_new G1.out gs (Nat.le_refl _)
          obtain ⟨S, hS⟩ : ∃ S, ((((((w1.setCell ⟨w.heap.size, 0, none⟩ (.int .i64 42)).setCell ⟨w.heap.size, 1, none⟩ (.int .i64 0)).setCell ⟨w.heap.size, 2, none⟩ (.string ⟨#[]⟩)).setCell ⟨w.heap.size, 3, none⟩ (.string ⟨#[]⟩)).setCell ⟨w.heap.size, 4, none⟩ (.pointer none)).setCell ⟨w.heap.size, 5, none⟩ (.slice none 0 0)) = S := ⟨_, rfl⟩
          rw [hS] at Y gs R4 G4 ⊢
          clear hS gs
          have Y5 := (Y.keep (below_box _ (.cells #[.int .i64 42, .int .i64 0, .string ⟨#[]⟩, .string ⟨#[]⟩, .pointer none, .slice none 0 0] 85))).keep (below_box _ (.cells #[.int .i64 42, .int .i64 0, .string ⟨#[]⟩, .string ⟨#[]⟩] 44))
          obtain ⟨j0, j1, j2, j3, j4, j5, -, -, -, -, -, -⟩ := Y5
          refine bodyPost_ret (v := .agg #[.int .i64 42, .int .i64 0, .string ⟨#[]⟩, .string ⟨#[]⟩, .pointer none, .slice none 0 0]) (by simp [results, Tryz.results98, go_sem, j0, j1, j2, j3, j4, j5]) rfl ?_
          rw [HP.out]
          exact ⟨[.int .i64 42, .int .i64 0, .string ⟨#[]⟩, .string ⟨#[]⟩, .pointer none, .slice none 0 0], rfl, ⟨0, rfl⟩, (R4.keep (below_box _ _)).keep (below_box _ _), grown_trans (grown_trans G4 (grown_of_below (below_box _ _) _)) (grown_of_below (below_box _ _) _)⟩
        · obtain ⟨c0, c1, c2, c3, c4, c5, z0, z1, z2, z3, z4, z5⟩ := X1.out
          go_wp2_with fail
          have Y := X1.out.set (.int .i64 43) (.int .i64 0) (.string ⟨#[]⟩) (.string ⟨#[]⟩) (.pointer none) (.slice none 0 0)
          have gs := grown_set6 w1 w.heap.size (.int .i64 43) (.int .i64 0) (.string ⟨#[]⟩) (.string ⟨#[]⟩) (.pointer none) (.slice none 0 0)
          have R4 := R1.out.but gs HRL.out
          have G4 := grown_new G1.out gs (Nat.le_refl _)
          obtain ⟨S, hS⟩ : ∃ S, ((((((w1.setCell ⟨w.heap.size, 0, none⟩ (.int .i64 43)).setCell ⟨w.heap.size, 1, none⟩ (.int .i64 0)).setCell ⟨w.heap.size, 2, none⟩ (.string ⟨#[]⟩)).setCell ⟨w.heap.size, 3, none⟩ (.string ⟨#[]⟩)).setCell ⟨w.heap.size, 4, none⟩ (.pointer none)).setCell ⟨w.heap.size, 5, none⟩ (.slice none 0 0)) = S := ⟨_, rfl⟩
          rw [hS] at Y gs R4 G4 ⊢
          clear hS gs
          have Y5 := (Y.keep (below_box _ (.cells #[.int .i64 43, .int .i64 0, .string ⟨#[]⟩, .string ⟨#[]⟩, .pointer none, .slice none 0 0] 85))).keep (below_box _ (.cells #[.int .i64 43, .int .i64 0, .string ⟨#[]⟩, .string ⟨#[]⟩] 44))
          obtain ⟨j0, j1, j2, j3, j4, j5, -, -, -, -, -, -⟩ := Y5
          refine bodyPost_ret (v := .agg #[.int .i64 43, .int .i64 0, .string ⟨#[]⟩, .string ⟨#[]⟩, .pointer none, .slice none 0 0]) (by simp [results, Tryz.results98, go_sem, j0, j1, j2, j3, j4, j5]) rfl ?_
          rw [HP.out]
          exact ⟨[.int .i64 43, .int .i64 0, .string ⟨#[]⟩, .string ⟨#[]⟩, .pointer none, .slice none 0 0], rfl, ⟨0, rfl⟩, (R4.keep (below_box _ _)).keep (below_box _ _), grown_trans (grown_trans G4 (grown_of_below (below_box _ _) _)) (grown_of_below (below_box _ _) _)⟩
        · obtain ⟨c0, c1, c2, c3, c4, c5, z0, z1, z2, z3, z4, z5⟩ := X1.out
          go_wp2_with fail
          have Y := X1.out.set (.int .i64 48) (.int .i64 0) (.string ⟨#[]⟩) (.string ⟨#[]⟩) (.pointer none) (.slice none 0 0)
          have gs := grown_set6 w1 w.heap.size (.int .i64 48) (.int .i64 0) (.string ⟨#[]⟩) (.string ⟨#[]⟩) (.pointer none) (.slice none 0 0)
          have R4 := R1.out.but gs HRL.out
          have G4 := grown_new G1.out gs (Nat.le_refl _)
          obtain ⟨S, hS⟩ : ∃ S, ((((((w1.setCell ⟨w.heap.size, 0, none⟩ (.int .i64 48)).setCell ⟨w.heap.size, 1, none⟩ (.int .i64 0)).setCell ⟨w.heap.size, 2, none⟩ (.string ⟨#[]⟩)).setCell ⟨w.heap.size, 3, none⟩ (.string ⟨#[]⟩)).setCell ⟨w.heap.size, 4, none⟩ (.pointer none)).setCell ⟨w.heap.size, 5, none⟩ (.slice none 0 0)) = S := ⟨_, rfl⟩
          rw [hS] at Y gs R4 G4 ⊢
          clear hS gs
          have Y5 := (Y.keep (below_box _ (.cells #[.int .i64 48, .int .i64 0, .string ⟨#[]⟩, .string ⟨#[]⟩, .pointer none, .slice none 0 0] 85))).keep (below_box _ (.cells #[.int .i64 48, .int .i64 0, .string ⟨#[]⟩, .string ⟨#[]⟩] 44))
          obtain ⟨j0, j1, j2, j3, j4, j5, -, -, -, -, -, -⟩ := Y5
          refine bodyPost_ret (v := .agg #[.int .i64 48, .int .i64 0, .string ⟨#[]⟩, .string ⟨#[]⟩, .pointer none, .slice none 0 0]) (by simp [results, Tryz.results98, go_sem, j0, j1, j2, j3, j4, j5]) rfl ?_
          rw [HP.out]
          exact ⟨[.int .i64 48, .int .i64 0, .string ⟨#[]⟩, .string ⟨#[]⟩, .pointer none, .slice none 0 0], rfl, ⟨0, rfl⟩, (R4.keep (below_box _ _)).keep (below_box _ _), grown_trans (grown_trans G4 (grown_of_below (below_box _ _) _)) (grown_of_below (below_box _ _) _)⟩
        · obtain ⟨c0, c1, c2, c3, c4, c5, z0, z1, z2, z3, z4, z5⟩ := X1.out
          go_wp2_with fail
          have Y := X1.out.set (.int .i64 49) (.int .i64 0) (.string ⟨#[]⟩) (.string ⟨#[]⟩) (.pointer none) (.slice none 0 0)
          have gs := grown_set6 w1 w.heap.size (.int .i64 49) (.int .i64 0) (.string ⟨#[]⟩) (.string ⟨#[]⟩) (.pointer none) (.slice none 0 0)
          have R4 := R1.out.but gs HRL.out
          have G4 := grown_new G1.out gs (Nat.le_refl _)
          obtain ⟨S, hS⟩ : ∃ S, ((((((w1.setCell ⟨w.heap.size, 0, none⟩ (.int .i64 49)).setCell ⟨w.heap.size, 1, none⟩ (.int .i64 0)).setCell ⟨w.heap.size, 2, none⟩ (.string ⟨#[]⟩)).setCell ⟨w.heap.size, 3, none⟩ (.string ⟨#[]⟩)).setCell ⟨w.heap.size, 4, none⟩ (.pointer none)).setCell ⟨w.heap.size, 5, none⟩ (.slice none 0 0)) = S := ⟨_, rfl⟩
          rw [hS] at Y gs R4 G4 ⊢
          clear hS gs
          have Y5 := (Y.keep (below_box _ (.cells #[.int .i64 49, .int .i64 0, .string ⟨#[]⟩, .string ⟨#[]⟩, .pointer none, .slice none 0 0] 85))).keep (below_box _ (.cells #[.int .i64 49, .int .i64 0, .string ⟨#[]⟩, .string ⟨#[]⟩] 44))
          obtain ⟨j0, j1, j2, j3, j4, j5, -, -, -, -, -, -⟩ := Y5
          refine bodyPost_ret (v := .agg #[.int .i64 49, .int .i64 0, .string ⟨#[]⟩, .string ⟨#[]⟩, .pointer none, .slice none 0 0]) (by simp [results, Tryz.results98, go_sem, j0, j1, j2, j3, j4, j5]) rfl ?_
          rw [HP.out]
          exact ⟨[.int .i64 49, .int .i64 0, .string ⟨#[]⟩, .string ⟨#[]⟩, .pointer none, .slice none 0 0], rfl, ⟨0, rfl⟩, (R4.keep (below_box _ _)).keep (below_box _ _), grown_trans (grown_trans G4 (grown_of_below (below_box _ _) _)) (grown_of_below (below_box _ _) _)⟩
      · have HP := Lib.hid (show PP = none by rw [HPP.out, if_neg (fun h => ht h.2.2)])
        rw [hn, hs]
        clear hn hs ht HPP
        rcases hb with rfl | rfl | rfl | rfl | rfl
        all_goals
          go_wp2_with fail
          exact ⟨rfl, by rw [HP.out]; exact ⟨rfl, grown_trans (grown_trans G1.out (grown_of_below (below_box _ _) _)) (grown_of_below (below_box _ _) _)⟩⟩
    · have HP := Lib.hid (show PP = none by rw [HPP.out, if_neg (fun h => hs h.2.1)])
      rw [hn]
      clear hn hs HPP
      rcases hb with rfl | rfl | rfl | rfl | rfl
      all_goals
        go_wp2_with fail
        exact ⟨rfl, by rw [HP.out]; exact ⟨rfl, grown_trans (grown_trans G1.out (grown_of_below (below_box _ _) _)) (grown_of_below (below_box _ _) _)⟩⟩
  · have HP := Lib.hid (show PP = none by rw [HPP.out, if_neg (fun h => hn h.1)])
    have e0 : (x.n == 0) = false := beq_eq_false_iff_ne.2 hn
    have e1 : (x.n != 0) = true := by rw [bne_iff_ne]; exact hn
    clear HPP
    rcases hb with rfl | rfl | rfl | rfl | rfl
    all_goals
      go_wp2_with fail
      exact ⟨rfl, by rw [HP.out]; exact ⟨rfl, grown_trans (grown_trans G1.out (grown_of_below (below_box _ _) _)) (grown_of_below (below_box _ _) _)⟩⟩
end Go.Proofs.YtmekockjgldndaaGreatDoor
namespace Go.Proofs.YtmekockjgldndaaGreatDoor
open Go.RowKit Go.Wk Go.Sort
set_option maxRecDepth 100000

set_option maxHeartbeats 8000000 in
theorem kind_ent (R m : Nat) (x : Nd) (r : List Nd) (w : World) (h : RdK w R (x :: r)) (hb : x.op = 44) :
    Calls Tryz.prog 98 #[.pointer (some ⟨R, 0, none⟩)] w (KindPost w R (parseK (m + 1) (x :: r))) := by
  have HR := Lib.hid h
  have HPP := Lib.hid (show parseK (m + 1) (x :: r) = if x.n = 0 ∧ nameFault x.s = 0 ∧ x.t = emp then some (.ent x.s, r) else none by simp only [parseK, if_neg (not_base (.inl hb)), if_pos hb])
  generalize parseK (m + 1) (x :: r) = PP at *
  clear h
  go_enter Tryz.func98, Tryz.ntmps98
  go_wp2_with fail
  have G0 := Lib.hid (grown_of_below (below_box w (.cells #[.int .i64 0, .int .i64 0, .string ⟨#[]⟩, .string ⟨#[]⟩, .pointer none, .slice none 0 0] 85)) (some R))
  have X0 := Lib.hid (bx6_new w (.int .i64 0) (.int .i64 0) (.string ⟨#[]⟩) (.string ⟨#[]⟩) (.pointer none) (.slice none 0 0) 85)
  have R0 := Lib.hid (HR.out.keep (below_box w (.cells #[.int .i64 0, .int .i64 0, .string ⟨#[]⟩, .string ⟨#[]⟩, .pointer none, .slice none 0 0] 85)))
  have HRL := Lib.hid (show R < w.heap.size by obtain ⟨⟨_, _, _, h1, _⟩, _⟩ := HR.out; exact block_lt_of_cell h1)
  have HNE := Lib.hid (show some w.heap.size ≠ some R from fun e => by injection e with e; have := HRL.out; omega)
  obtain ⟨w0, hw0⟩ : ∃ w0, w.alloc (.cells #[.int .i64 0, .int .i64 0, .string ⟨#[]⟩, .string ⟨#[]⟩, .pointer none, .slice none 0 0] 85) = w0 := ⟨_, rfl⟩
  have HS0 := Lib.hid (show w.heap.size ≤ w0.heap.size by rw [← hw0]; simp)
  rw [hw0] at G0 X0 R0 ⊢
  clear hw0 HR
  refine (kind_node R (x :: r) w0 R0.out).mono ?_
  rintro e w1 ⟨rfl, r1, g1⟩
  have G1 := Lib.hid (G0.out.trans g1)
  have X1 := Lib.hid (X0.out.but g1 HNE.out)
  have R1 := Lib.hid r1
  have HYO := Lib.hid (show NdOk x by obtain ⟨⟨_, _, _, _, h2, _⟩, _⟩ := R0.out; exact h2.ok x (by simp))
  have KN := Lib.hid (fun w => name_Check x.s w HYO.out.s)
  have HS1 := Lib.hid (Nat.le_trans HS0.out g1.size)
  clear r1 g1 G0 X0 R0 HS0
  unfold ndV
  have hl : w.heap.size < w1.heap.size := block_lt_of_cell X1.out.c0
  rw [hb]
  clear hb
  have B2 := Lib.hid ((below_box w1 (.cells #[.int .i64 44, .int .i64 x.n, .string x.s, .string x.t, .pointer none, .slice none 0 0] 85)).trans ((below_box _ (.cells #[.int .i64 44, .int .i64 0, .string x.s, .string ⟨#[]⟩] 44)).mono (by simp)))
  have hsz : (w1.alloc (.cells #[.int .i64 44, .int .i64 x.n, .string x.s, .string x.t, .pointer none, .slice none 0 0] 85)).heap.size = w1.heap.size + 1 := by simp
  have K2 := (bx6_new w1 (.int .i64 44) (.int .i64 x.n) (.string x.s) (.string x.t) (.pointer none) (.slice none 0 0) 85).keep (below_box _ (.cells #[.int .i64 44, .int .i64 0, .string x.s, .string ⟨#[]⟩] 44))
  have N2 := bx4_new (w1.alloc (.cells #[.int .i64 44, .int .i64 x.n, .string x.s, .string x.t, .pointer none, .slice none 0 0] 85)) (.int .i64 44) (.int .i64 0) (.string x.s) (.string ⟨#[]⟩) 44
  rw [hsz] at N2
  clear hsz
  go_wp2_with fail
  obtain ⟨w2, hw2⟩ : ∃ w2, (w1.alloc (.cells #[.int .i64 44, .int .i64 x.n, .string x.s, .string x.t, .pointer none, .slice none 0 0] 85)).alloc (.cells #[.int .i64 44, .int .i64 0, .string x.s, .string ⟨#[]⟩] 44) = w2 := ⟨_, rfl⟩
  rw [hw2] at B2 K2 N2 ⊢
  clear hw2
  refine (KN.out w2).mono ?_
  rintro e w3 ⟨rfl, b3⟩
  have B3 := bh B2 b3
  have K3 := Lib.hid (K2.keep b3)
  have N3 := Lib.hid (N2.keep b3)
  have X3 := Lib.hid (X1.out.keep B3.out)
  have R3 := Lib.hid (R1.out.keep B3.out)
  have G3 := Lib.hid (grown_trans G1.out (grown_of_below B3.out (some R)))
  clear b3 B2 K2 N2 X1 R1 G1 B3 KN hl HS1
  obtain ⟨k0, k1, k2, k3, k4, k5, -, -, -, -, -, -⟩ := K3.out
  obtain ⟨n0, n1, n2, n3, -, -, -, -⟩ := N3.out
  by_cases hf : nameFault x.s = 0
  · have HF := Lib.hid hf
    rw [hf, errV_zero]
    clear hf
    by_cases hn : x.n = 0
    · rcases emp_or x.t with ht | ⟨ht, t1, t2⟩
      · have HP := Lib.hid (show PP = some (.ent x.s, r) by rw [HPP.out, if_pos ⟨hn, HF.out, ht⟩])
        rw [hn, ht] at K3
        rw [hn] at k1
        rw [ht] at k3
        rw [hn, ht]
        clear hn ht HPP
        obtain ⟨c0, c1, c2, c3, c4, c5, z0, z1, z2, z3, z4, z5⟩ := X3.out
        go_wp2_with fail
        have Y := X3.out.set (.int .i64 44) (.int .i64 0) (.string x.s) (.string ⟨#[]⟩) (.pointer none) (.slice none 0 0)
        have gs := grown_set6 w3 w.heap.size (.int .i64 44) (.int .i64 0) (.string x.s) (.string ⟨#[]⟩) (.pointer none) (.slice none 0 0)
        have R4 := R3.out.but gs HRL.out
        have G4 := grown_new G3.out gs (Nat.le_refl _)
        obtain ⟨S, hS⟩ : ∃ S, ((((((w3.setCell ⟨w.heap.size, 0, none⟩ (.int .i64 44)).setCell ⟨w.heap.size, 1, none⟩ (.int .i64 0)).setCell ⟨w.heap.size, 2, none⟩ (.string x.s)).setCell ⟨w.heap.size, 3, none⟩ (.string ⟨#[]⟩)).setCell ⟨w.heap.size, 4, none⟩ (.pointer none)).setCell ⟨w.heap.size, 5, none⟩ (.slice none 0 0)) = S := ⟨_, rfl⟩
        rw [hS] at Y gs R4 G4 ⊢
        clear hS gs
        obtain ⟨j0, j1, j2, j3, j4, j5, -, -, -, -, -, -⟩ := Y
        refine bodyPost_ret (v := .agg #[.int .i64 44, .int .i64 0, .string x.s, .string ⟨#[]⟩, .pointer none, .slice none 0 0]) (by simp [results, Tryz.results98, go_sem, j0, j1, j2, j3, j4, j5]) rfl ?_
        rw [HP.out]
        exact ⟨[.int .i64 44, .int .i64 0, .string x.s, .string ⟨#[]⟩, .pointer none, .slice none 0 0], rfl, ⟨0, rfl⟩, R4, G4⟩
      · have HP := Lib.hid (show PP = none by rw [HPP.out, if_neg (fun h => ht h.2.2)])
        rw [hn] at k1
        rw [hn]
        clear hn ht HPP
        go_wp2_with fail
        exact ⟨rfl, by rw [HP.out]; exact ⟨rfl, G3.out⟩⟩
    · have HP := Lib.hid (show PP = none by rw [HPP.out, if_neg (fun h => hn h.1)])
      have e0 : (x.n == 0) = false := beq_eq_false_iff_ne.2 hn
      have e1 : (x.n != 0) = true := by rw [bne_iff_ne]; exact hn
      clear HPP hn
      go_wp2_with fail
      exact ⟨rfl, by rw [HP.out]; exact ⟨rfl, G3.out⟩⟩
  · have HP := Lib.hid (show PP = none by rw [HPP.out, if_neg (fun h => hf h.2.1)])
    rw [errV_ne hf]
    generalize nameFault x.s = ff at *
    clear hf HPP
    go_wp2_with fail
    exact ⟨rfl, by rw [HP.out]; exact ⟨rfl, G3.out⟩⟩

set_option maxHeartbeats 8000000 in
/-- No nodes are left. -/
theorem kind_nil (R m : Nat) (w : World) (h : RdK w R []) :
    Calls Tryz.prog 98 #[.pointer (some ⟨R, 0, none⟩)] w (KindPost w R (parseK m [])) := by
  have HPP := Lib.hid (show parseK m [] = none by cases m <;> rfl)
  have HR := Lib.hid (h.keep (below_box w (.cells #[.int .i64 0, .int .i64 0, .string ⟨#[]⟩, .string ⟨#[]⟩, .pointer none, .slice none 0 0] 85)))
  have G0 := Lib.hid (grown_of_below (below_box w (.cells #[.int .i64 0, .int .i64 0, .string ⟨#[]⟩, .string ⟨#[]⟩, .pointer none, .slice none 0 0] 85)) (some R))
  generalize parseK m [] = PP at *
  clear h
  go_enter Tryz.func98, Tryz.ntmps98
  go_wp2_with fail
  refine (kind_node R [] _ HR.out).mono ?_
  rintro e w1 ⟨rfl, g1⟩
  go_wp2_with fail
  exact ⟨rfl, by rw [HPP.out]; exact ⟨rfl, G0.out.trans g1⟩⟩
set_option maxHeartbeats 8000000 in
theorem kind_else (R m : Nat) (x : Nd) (r : List Nd) (w : World) (h : RdK w R (x :: r)) (hb : ¬ baseOp x.op) (h4 : x.op ≠ 44) (h5 : x.op ≠ 45) (h6 : x.op ≠ 46) :
    Calls Tryz.prog 98 #[.pointer (some ⟨R, 0, none⟩)] w (KindPost w R (parseK (m + 1) (x :: r))) := by
  have HR := Lib.hid h
  have HPP := Lib.hid (show parseK (m + 1) (x :: r) = none by simp only [parseK, if_neg hb, if_neg h4, if_neg h5, if_neg h6])
  generalize parseK (m + 1) (x :: r) = PP at *
  clear h
  go_enter Tryz.func98, Tryz.ntmps98
  go_wp2_with fail
  have G0 := Lib.hid (grown_of_below (below_box w (.cells #[.int .i64 0, .int .i64 0, .string ⟨#[]⟩, .string ⟨#[]⟩, .pointer none, .slice none 0 0] 85)) (some R))
  have X0 := Lib.hid (bx6_new w (.int .i64 0) (.int .i64 0) (.string ⟨#[]⟩) (.string ⟨#[]⟩) (.pointer none) (.slice none 0 0) 85)
  have R0 := Lib.hid (HR.out.keep (below_box w (.cells #[.int .i64 0, .int .i64 0, .string ⟨#[]⟩, .string ⟨#[]⟩, .pointer none, .slice none 0 0] 85)))
  have HRL := Lib.hid (show R < w.heap.size by obtain ⟨⟨_, _, _, h1, _⟩, _⟩ := HR.out; exact block_lt_of_cell h1)
  have HNE := Lib.hid (show some w.heap.size ≠ some R from fun e => by injection e with e; have := HRL.out; omega)
  obtain ⟨w0, hw0⟩ : ∃ w0, w.alloc (.cells #[.int .i64 0, .int .i64 0, .string ⟨#[]⟩, .string ⟨#[]⟩, .pointer none, .slice none 0 0] 85) = w0 := ⟨_, rfl⟩
  have HS0 := Lib.hid (show w.heap.size ≤ w0.heap.size by rw [← hw0]; simp)
  rw [hw0] at G0 X0 R0 ⊢
  clear hw0 HR
  refine (kind_node R (x :: r) w0 R0.out).mono ?_
  rintro e w1 ⟨rfl, r1, g1⟩
  have G1 := Lib.hid (G0.out.trans g1)
  have X1 := Lib.hid (X0.out.but g1 HNE.out)
  have R1 := Lib.hid r1
  have HS1 := Lib.hid (Nat.le_trans HS0.out g1.size)
  clear r1 g1 G0 X0 R0 HS0
  unfold ndV
  obtain ⟨o, ho⟩ : ∃ o, o = x.op := ⟨_, rfl⟩
  rw [← ho] at hb h4 h5 h6 ⊢
  clear ho
  have e1 : (o == 41) = false := beq_eq_false_iff_ne.2 fun e => hb (.inl e)
  have e2 : (o == 42) = false := beq_eq_false_iff_ne.2 fun e => hb (.inr (.inl e))
  have e3 : (o == 43) = false := beq_eq_false_iff_ne.2 fun e => hb (.inr (.inr (.inl e)))
  have e7 : (o == 48) = false := beq_eq_false_iff_ne.2 fun e => hb (.inr (.inr (.inr (.inl e))))
  have e8 : (o == 49) = false := beq_eq_false_iff_ne.2 fun e => hb (.inr (.inr (.inr (.inr e))))
  have e4 : (o == 44) = false := beq_eq_false_iff_ne.2 h4
  have e5 : (o == 45) = false := beq_eq_false_iff_ne.2 h5
  have e6 : (o == 46) = false := beq_eq_false_iff_ne.2 h6
  clear hb h4 h5 h6
  go_wp2_with fail
  exact ⟨rfl, by rw [HPP.out]; exact ⟨rfl, grown_trans (grown_trans G1.out (grown_of_below (below_box _ _) _)) (grown_of_below (below_box _ _) _)⟩⟩
end Go.Proofs.YtmekockjgldndaaGreatDoor
namespace Go.Proofs.YtmekockjgldndaaGreatDoor
open Go.RowKit Go.Wk Go.Sort
set_option maxRecDepth 100000

theorem row0_new (w : World) (u : List Value) (t : TypeId) : Row0 (w.alloc (.cells u.toArray t)) ⟨w.heap.size, 0, none⟩ u := fun j x hx => by
  have := cell_new w u.toArray t j (v := x) (by simpa using hx)
  unfold Addr.add
  split
  · rename_i h; subst h; exact this
  · simpa using this
set_option maxHeartbeats 8000000 in
theorem kind_set (R m : Nat) (ih : KindC R m) (x : Nd) (r : List Nd) (hl : r.length ≤ m) (w : World) (h : RdK w R (x :: r)) (hb : x.op = 45) :
    Calls Tryz.prog 98 #[.pointer (some ⟨R, 0, none⟩)] w (KindPost w R (parseK (m + 1) (x :: r))) := by
  have HR := Lib.hid h
  have IH := Lib.hid (fun w' (h' : RdK w' R r) => ih r w' h' hl)
  clear ih
  have HPP := Lib.hid (show parseK (m + 1) (x :: r) = (match parseK m r with | none => none | some (p, r') => if x.n = 0 ∧ x.s = emp ∧ x.t = emp then some (.set p, r') else none) by simp only [parseK, if_neg (not_base (.inr (.inl hb))), if_neg (show ¬ x.op = 44 by omega), if_pos hb]; rfl)
  generalize parseK (m + 1) (x :: r) = PP at *
  clear h
  go_enter Tryz.func98, Tryz.ntmps98
  go_wp2_with fail
  have G0 := Lib.hid (grown_of_below (below_box w (.cells #[.int .i64 0, .int .i64 0, .string ⟨#[]⟩, .string ⟨#[]⟩, .pointer none, .slice none 0 0] 85)) (some R))
  have X0 := Lib.hid (bx6_new w (.int .i64 0) (.int .i64 0) (.string ⟨#[]⟩) (.string ⟨#[]⟩) (.pointer none) (.slice none 0 0) 85)
  have R0 := Lib.hid (HR.out.keep (below_box w (.cells #[.int .i64 0, .int .i64 0, .string ⟨#[]⟩, .string ⟨#[]⟩, .pointer none, .slice none 0 0] 85)))
  have HRL := Lib.hid (show R < w.heap.size by obtain ⟨⟨_, _, _, h1, _⟩, _⟩ := HR.out; exact block_lt_of_cell h1)
  have HNE := Lib.hid (show some w.heap.size ≠ some R from fun e => by injection e with e; have := HRL.out; omega)
  obtain ⟨w0, hw0⟩ : ∃ w0, w.alloc (.cells #[.int .i64 0, .int .i64 0, .string ⟨#[]⟩, .string ⟨#[]⟩, .pointer none, .slice none 0 0] 85) = w0 := ⟨_, rfl⟩
  have HS0 := Lib.hid (show w.heap.size ≤ w0.heap.size by rw [← hw0]; simp)
  rw [hw0] at G0 X0 R0 ⊢
  clear hw0 HR
  refine (kind_node R (x :: r) w0 R0.out).mono ?_
  rintro e w1 ⟨rfl, r1, g1⟩
  have G1 := Lib.hid (G0.out.trans g1)
  have X1 := Lib.hid (X0.out.but g1 HNE.out)
  have R1 := Lib.hid r1
  have HS1 := Lib.hid (Nat.le_trans HS0.out g1.size)
  clear r1 g1 G0 X0 R0 HS0
  unfold ndV
  have hl : w.heap.size < w1.heap.size := block_lt_of_cell X1.out.c0
  rw [hb]
  clear hb
  have B2 := Lib.hid ((below_box w1 (.cells #[.int .i64 45, .int .i64 x.n, .string x.s, .string x.t, .pointer none, .slice none 0 0] 85)).trans ((below_box _ (.cells #[.int .i64 45, .int .i64 0, .string ⟨#[]⟩, .string ⟨#[]⟩] 44)).mono (by simp)))
  have hsz : (w1.alloc (.cells #[.int .i64 45, .int .i64 x.n, .string x.s, .string x.t, .pointer none, .slice none 0 0] 85)).heap.size = w1.heap.size + 1 := by simp
  have K2 := (bx6_new w1 (.int .i64 45) (.int .i64 x.n) (.string x.s) (.string x.t) (.pointer none) (.slice none 0 0) 85).keep (below_box _ (.cells #[.int .i64 45, .int .i64 0, .string ⟨#[]⟩, .string ⟨#[]⟩] 44))
  have N2 := bx4_new (w1.alloc (.cells #[.int .i64 45, .int .i64 x.n, .string x.s, .string x.t, .pointer none, .slice none 0 0] 85)) (.int .i64 45) (.int .i64 0) (.string ⟨#[]⟩) (.string ⟨#[]⟩) 44
  rw [hsz] at N2
  clear hsz
  go_wp2_with fail
  obtain ⟨w2, hw2⟩ : ∃ w2, (w1.alloc (.cells #[.int .i64 45, .int .i64 x.n, .string x.s, .string x.t, .pointer none, .slice none 0 0] 85)).alloc (.cells #[.int .i64 45, .int .i64 0, .string ⟨#[]⟩, .string ⟨#[]⟩] 44) = w2 := ⟨_, rfl⟩
  rw [hw2] at B2 K2 N2 ⊢
  clear hw2
  have HR1 := Lib.hid (Nat.lt_of_lt_of_le HRL.out HS1.out)
  refine (IH.out w2 (R1.out.keep B2.out)).mono ?_
  intro e w3 hpost
  rcases hp : parseK m r with _ | ⟨q, r'⟩
  · rw [hp] at hpost
    obtain ⟨rfl, g3⟩ := hpost
    have HP := Lib.hid (show PP = none by rw [HPP.out, hp])
    clear HPP hp
    go_wp2_with fail
    exact ⟨rfl, by rw [HP.out]; exact ⟨rfl, grown_trans G1.out (grown_trans (grown_of_below B2.out (some R)) g3)⟩⟩
  · rw [hp] at hpost
    obtain ⟨v, rfl, hk, hr, g3⟩ := hpost
    obtain ⟨o, n, s0, t0, pp, A, m0, cc, rfl⟩ := kat_shape hk
    have K3 := Lib.hid (K2.but g3 (fun e => by injection e with e; have := HR1.out; omega))
    have N3 := Lib.hid (N2.but g3 (fun e => by injection e with e; have := HR1.out; omega))
    have X3 := Lib.hid ((X1.out.keep B2.out).but g3 HNE.out)
    have G3 := Lib.hid (grown_trans G1.out (grown_trans (grown_of_below B2.out (some R)) g3))
    have HK := Lib.hid (hk.mono (B' := fun b => w2.heap.size ≤ b ∧ b < w3.heap.size) fun b h1 h2 => ⟨h1, h2⟩)
    have HR3 := Lib.hid hr
    have HP := Lib.hid (show PP = if x.n = 0 ∧ x.s = emp ∧ x.t = emp then some (.set q, r') else none by rw [HPP.out, hp])
    have HS2 := Lib.hid (show w1.heap.size < w2.heap.size from block_lt_of_cell K2.c0)
    have HS3 := Lib.hid (show w2.heap.size ≤ w3.heap.size from g3.size)
    have hl3 : w1.heap.size < w3.heap.size := Nat.lt_of_lt_of_le HS2.out HS3.out
    have hl4 : w1.heap.size + 1 < w3.heap.size := block_lt_of_cell N3.out.c0
    have hl5 : w.heap.size < w3.heap.size := block_lt_of_cell X3.out.c0
    clear hk hr g3 HPP hp K2 N2 X1 R1 G1 IH
    obtain ⟨k0, k1, k2, k3, k4, k5, y0, y1, y2, y3, y4, y5⟩ := K3.out
    obtain ⟨n0, n1, n2, n3, -, -, -, -⟩ := N3.out
    by_cases hn : x.n = 0
    · rcases emp_or x.s with hs | ⟨hs, s1, s2⟩
      · rcases emp_or x.t with ht | ⟨ht, t1, t2⟩
        · have HQ := Lib.hid (show PP = some (.set q, r') by rw [HP.out, if_pos ⟨hn, hs, ht⟩])
          rw [hn, hs, ht] at K3
          rw [hn] at k1
          rw [hs] at k2
          rw [ht] at k3
          rw [hn, hs, ht]
          clear hn hs ht HP
          obtain ⟨c0, c1, c2, c3, c4, c5, z0, z1, z2, z3, z4, z5⟩ := X3.out
          go_wp2_with fail
          obtain ⟨w4, hw4⟩ : ∃ w4, w3.setCell ⟨w1.heap.size, 4, none⟩ (.pointer (some ⟨w3.heap.size, 0, none⟩)) = w4 := ⟨_, rfl⟩
          have g4 : w3.grownBy w4 (some w1.heap.size) := by rw [← hw4]; exact grown_setCell w3 ⟨w1.heap.size, 4, none⟩ _
          have e4 : w4.heap.size = w3.heap.size := by rw [← hw4]; simp [World.setCell]
          rw [hw4]
          have X4 := X3.out.but g4 (fun e => by injection e with e; omega)
          have Y := X4.set (.int .i64 45) (.int .i64 0) (.string ⟨#[]⟩) (.string ⟨#[]⟩) (.pointer (some ⟨w3.heap.size, 0, none⟩)) (.slice none 0 0)
          have gs := grown_set6 w4 w.heap.size (.int .i64 45) (.int .i64 0) (.string ⟨#[]⟩) (.string ⟨#[]⟩) (.pointer (some ⟨w3.heap.size, 0, none⟩)) (.slice none 0 0)
          have R5 := (HR3.out.but g4 HR1.out).but gs HRL.out
          have G5 := grown_new (grown_new G3.out g4 HS1.out) gs (Nat.le_refl _)
          have K5 := HK.out.cong (w' := ((((((w4.setCell ⟨w.heap.size, 0, none⟩ (.int .i64 45)).setCell ⟨w.heap.size, 1, none⟩ (.int .i64 0)).setCell ⟨w.heap.size, 2, none⟩ (.string ⟨#[]⟩)).setCell ⟨w.heap.size, 3, none⟩ (.string ⟨#[]⟩)).setCell ⟨w.heap.size, 4, none⟩ (.pointer (some ⟨w3.heap.size, 0, none⟩))).setCell ⟨w.heap.size, 5, none⟩ (.slice none 0 0))) fun b hb => by
            rw [heap_set6 w4 w.heap.size (.int .i64 45) (.int .i64 0) (.string ⟨#[]⟩) (.string ⟨#[]⟩) (.pointer (some ⟨w3.heap.size, 0, none⟩)) (.slice none 0 0) (by have := hb.1; have := HS2.out; omega), ← hw4, Below.heap_setCell _ _ _ b (show b ≠ w1.heap.size by have := hb.1; have := HS2.out; omega)]
          have E5 : (((((((w4.setCell ⟨w.heap.size, 0, none⟩ (.int .i64 45)).setCell ⟨w.heap.size, 1, none⟩ (.int .i64 0)).setCell ⟨w.heap.size, 2, none⟩ (.string ⟨#[]⟩)).setCell ⟨w.heap.size, 3, none⟩ (.string ⟨#[]⟩)).setCell ⟨w.heap.size, 4, none⟩ (.pointer (some ⟨w3.heap.size, 0, none⟩))).setCell ⟨w.heap.size, 5, none⟩ (.slice none 0 0))).heap.size = w3.heap.size := by simp [World.setCell, ← hw4]
          obtain ⟨S, hS⟩ : ∃ S, ((((((w4.setCell ⟨w.heap.size, 0, none⟩ (.int .i64 45)).setCell ⟨w.heap.size, 1, none⟩ (.int .i64 0)).setCell ⟨w.heap.size, 2, none⟩ (.string ⟨#[]⟩)).setCell ⟨w.heap.size, 3, none⟩ (.string ⟨#[]⟩)).setCell ⟨w.heap.size, 4, none⟩ (.pointer (some ⟨w3.heap.size, 0, none⟩))).setCell ⟨w.heap.size, 5, none⟩ (.slice none 0 0)) = S := ⟨_, rfl⟩
          rw [hS] at Y gs R5 G5 K5 E5 ⊢
          clear hS gs hw4 X4 g4
          have Y5 := Y.keep (below_box S (.cells #[.int .i64 o, .int .i64 n, .string s0, .string t0, .pointer pp, .slice A m0 cc] 85))
          obtain ⟨j0, j1, j2, j3, j4, j5, -, -, -, -, -, -⟩ := Y5
          refine bodyPost_ret (v := .agg #[.int .i64 45, .int .i64 0, .string ⟨#[]⟩, .string ⟨#[]⟩, .pointer (some ⟨w3.heap.size, 0, none⟩), .slice none 0 0]) (by simp [results, Tryz.results98, go_sem, j0, j1, j2, j3, j4, j5]) rfl ?_
          rw [HQ.out]
          have r0 := row0_new S [.int .i64 o, .int .i64 n, .string s0, .string t0, .pointer pp, .slice A m0 cc] 85
          rw [E5] at r0
          refine ⟨[.int .i64 45, .int .i64 0, .string ⟨#[]⟩, .string ⟨#[]⟩, .pointer (some ⟨w3.heap.size, 0, none⟩), .slice none 0 0], rfl, ⟨0, w3.heap.size, [.int .i64 o, .int .i64 n, .string s0, .string t0, .pointer pp, .slice A m0 cc], rfl, Nat.le_of_lt hl5, r0, ?_⟩, R5.keep (below_box _ _), grown_trans G5 (grown_of_below (below_box _ _) _)⟩
          refine (K5.cong fun b hb => (below_box S _).block b (by rw [E5]; exact hb.2)).mono fun b hb _ => ?_
          have := hb.1
          have := HS2.out
          have := HS1.out
          omega
        · have HQ := Lib.hid (show PP = none by rw [HP.out, if_neg (fun h => ht h.2.2)])
          rw [hn] at k1
          rw [hs] at k2
          rw [hn, hs]
          clear hn hs ht HP
          go_wp2_with fail
          exact ⟨rfl, by rw [HQ.out]; exact ⟨rfl, grown_trans (grown_new G3.out (grown_setCell w3 ⟨w1.heap.size, 4, none⟩ _) HS1.out) (grown_of_below (below_box _ _) _)⟩⟩
      · have HQ := Lib.hid (show PP = none by rw [HP.out, if_neg (fun h => hs h.2.1)])
        rw [hn] at k1
        rw [hn]
        clear hn hs HP
        go_wp2_with fail
        exact ⟨rfl, by rw [HQ.out]; exact ⟨rfl, grown_trans (grown_new G3.out (grown_setCell w3 ⟨w1.heap.size, 4, none⟩ _) HS1.out) (grown_of_below (below_box _ _) _)⟩⟩
    · have HQ := Lib.hid (show PP = none by rw [HP.out, if_neg (fun h => hn h.1)])
      have e0 : (x.n == 0) = false := beq_eq_false_iff_ne.2 hn
      have e1 : (x.n != 0) = true := by rw [bne_iff_ne]; exact hn
      clear hn HP
      go_wp2_with fail
      exact ⟨rfl, by rw [HQ.out]; exact ⟨rfl, grown_trans (grown_new G3.out (grown_setCell w3 ⟨w1.heap.size, 4, none⟩ _) HS1.out) (grown_of_below (below_box _ _) _)⟩⟩
end Go.Proofs.YtmekockjgldndaaGreatDoor
namespace Go.Proofs.YtmekockjgldndaaGreatDoor
open Go.RowKit Go.Wk Go.Sort
set_option maxRecDepth 100000

/-- What was there is as it was, and draws are only added. -/
structure BelowD (w w' : World) : Prop where
  b : Below w.heap.size w w'
  d : w.drawn ≤ w'.drawn
theorem BelowD.grow {w w' : World} (h : BelowD w w') : ∃ q os, w' = grow (w.drewN q) os := by
  obtain ⟨p, hp⟩ := regrown_of_below h.b
  have e : p.d = w'.drawn := by rw [hp]; rfl
  refine ⟨w'.drawn - w.drawn, p.os, ?_⟩
  have e2 : redrawn w p.d = w.drewN (w'.drawn - w.drawn) := by
    unfold redrawn World.drewN
    rw [e, show w.drawn + (w'.drawn - w.drawn) = w'.drawn by have := h.d; omega]
  rw [← e2]; exact hp

set_option maxHeartbeats 800000 in
theorem val_compareD (x y : Nd) (w : World) :
    Calls Tryz.prog 205 #[ndV x, ndV y] w fun e w' => e = .returned (.int .i64 (cmpNd x y)) ∧ BelowD w w' := by
  unfold ndV
  go_enter Tryz.func205, Tryz.ntmps205
  go_wp2
  refine still_tail 20 (by kernel_rfl) (by kernel_rfl) ?_
  simp only [List.take_succ_cons, List.take_zero, List.drop_succ_cons, List.drop_zero]
  iterate 4 still_step
  still_call (cmp_Compare_int _ _ _)
  iterate 4 still_step
  still_call (cmp_Compare_int _ _ _)
  iterate 4 still_step
  still_call (strings_Compare _ _ _)
  iterate 4 still_step
  still_call (strings_Compare _ _ _)
  refine wpStill_nil ?_
  go_wp2_with (go_at_call 245; refine (cmp_Or4 (cmpI x.op y.op) (cmpI x.n y.n) (cmpB x.s y.s) (cmpB x.t y.t) _ _ (by go_simp) (by go_simp) (by go_simp) (by go_simp)).mono ?_; rintro e w' ⟨rfl, rfl⟩)
  go_ret
  exact ⟨rfl, ((((Below.refl _ _).alloc (Nat.le_refl _) _).alloc (by simp) _).alloc (by simp; omega) _).drew, Nat.le_succ _⟩

set_option maxHeartbeats 1000000 in
theorem val_CompareFuncD (A B : Option Addr) (n m c d : Nat) (P Q : List Nd) (w : World) (hn : n = P.length) (hm : m = Q.length) (hln : n ≤ maxLen) (_hlm : m ≤ maxLen) (hP : NdsAt w A P) (hQ : NdsAt w B Q) :
    Calls Tryz.prog 204 #[.slice A n c, .slice B m d, .func (.func 205) #[] #[]] w fun e w' => e = .returned (.int .i64 (cmpNds P Q)) ∧ BelowD w w' := by
  unfold maxLen at hln _hlm
  have HP := Lib.hid hP
  have HQ := Lib.hid hQ
  have HN := Lib.hid hn
  have HM := Lib.hid hm
  clear hP hQ hn hm
  go_enter Tryz.func204, Tryz.ntmps204
  go_wp2
  go_loopw [7, 8, 9, 10, 13] (fun _ _ _ _ i wr => ∃ k : Nat, k ≤ n ∧ k ≤ m ∧ i = .int .i64 k ∧ Hid (cmpNds P Q = cmpNds (P.drop k) (Q.drop k)) ∧ Hid (w.drawn ≤ wr.drawn) ∧ Below w.heap.size w wr) (fun _ _ _ _ i _ => n - (intOf i).toNat)
  case atStart => exact ⟨0, Nat.zero_le _, Nat.zero_le _, rfl, rfl, Nat.le_refl _, Below.refl _ _⟩
  case round =>
    obtain ⟨k, hkn, hkm, rfl, hc, hdr, hbel⟩ := hrel
    obtain ⟨wo, rfl⟩ : ∃ wo : World, wo = wr := ⟨_, rfl⟩
    by_cases h1 : k < n
    · have h1' : k < P.length := by rw [← HN.out]; exact h1
      obtain ⟨a, rfl, a1, a2, a3, a4⟩ := (HP.out.keep hbel) k P[k] (List.getElem?_eq_getElem h1')
      by_cases h2 : k < m
      · have h2' : k < Q.length := by rw [← HM.out]; exact h2
        obtain ⟨b, rfl, b1, b2, b3, b4⟩ := (HQ.out.keep hbel) k Q[k] (List.getElem?_eq_getElem h2')
        have HA := Lib.hid (hc.out.trans (cmpNds_at h1' h2'))
        have g : ∀ (o : Obj) (x : Addr) (v : Value), wo.cell? x = some v → (wo.alloc o).cell? x = some v := fun o x v h => cell_keep ((Below.refl _ _).alloc (Nat.le_refl _) o) h
        replace b1 := fun o => g o _ _ b1
        replace b2 := fun o => g o _ _ b2
        replace b3 := fun o => g o _ _ b3
        replace b4 := fun o => g o _ _ b4
        clear hc g
        go_wp2_with fail
        refine (val_compareD P[k] Q[k] _).mono ?_
        rintro e w1 ⟨rfl, hb1, hd1⟩
        have hdw := Lib.hid (Nat.le_trans hdr.out hd1)
        clear hd1
        have hbw := Lib.hid ((hbel.alloc (by have := hbel.size; omega) _).alloc (by have := hbel.size; simp; omega) _ |>.trans (hb1.mono (by have := hbel.size; simp; omega)))
        clear hb1 b1 b2 b3 b4 a1 a2 a3 a4
        by_cases h0 : cmpNd P[k] Q[k] = 0
        · have HC := Lib.hid (HA.out.trans (by rw [h0]; rfl : _ = cmpNds (P.drop (k + 1)) (Q.drop (k + 1))))
          rw [h0]
          clear h0 HA
          go_wp2
          go_roundw
          case rel => exact ⟨k + 1, by omega, by omega, by go_num, HC, hdw, hbw.out⟩
          case measure => simp [intOf]; omega
        · have HC := Lib.hid (HA.out.trans (or2_ne h0 _))
          have h0' : (cmpNd P[k] Q[k] == 0) = false := beq_eq_false_iff_ne.2 h0
          clear HA
          go_wp2
          go_ret
          exact ⟨ret_i64 HC.out.symm, hbw.out, hdw.out⟩
      · have HA := Lib.hid (hc.out.trans (cmpNds_end2 h1' (by rw [← HM.out]; omega)))
        clear hc
        go_wp2
        go_ret
        exact ⟨ret_i64 HA.out.symm, hbel.alloc (by have := hbel.size; omega) _, hdr.out⟩
    · obtain rfl : k = n := by omega
      by_cases h2 : k < m
      · have HA := Lib.hid (hc.out.trans (cmpNds_end1 (by rw [← HN.out]; omega) (by rw [← HM.out]; exact h2)))
        clear hc
        go_wp2
        go_ret
        exact ⟨ret_i64 HA.out.symm, hbel, hdr.out⟩
      · have HA := Lib.hid (hc.out.trans (cmpNds_end0 (by rw [← HN.out]; omega) (by rw [← HM.out]; omega)))
        clear hc
        go_wp2
        go_ret
        exact ⟨ret_i64 HA.out.symm, hbel, hdr.out⟩

theorem val_orderD (A B : Option Addr) (n m c d : Nat) (P Q : List Nd) (w : World) (hn : n = P.length) (hm : m = Q.length) (hln : n ≤ maxLen) (hlm : m ≤ maxLen) (hP : NdsAt w A P) (hQ : NdsAt w B Q) :
    Calls Tryz.prog 149 #[.slice A n c, .slice B m d] w fun e w' => e = .returned (.int .i64 (cmpNds P Q)) ∧ BelowD w w' := by
  have H := val_CompareFuncD A B n m c d P Q w hn hm hln hlm hP hQ
  clear hn hm hP hQ
  go_enter Tryz.func149, Tryz.ntmps149
  go_wp2_with fail
  refine H.mono ?_
  rintro e w1 ⟨rfl, hb1⟩
  go_wp2
  go_ret
  exact ⟨rfl, hb1⟩
end Go.Proofs.YtmekockjgldndaaGreatDoor
namespace Go.Proofs
open Go.Shelf
def Tryz.sortK_ren : Go.Shelf.Ren := ⟨fun | 6 => 172 | 15 => 222 | 14 => 221 | 28 => 262 | 29 => 263 | 20 => 254 | 21 => 255 | 22 => 256 | 23 => 257 | 24 => 258 | 25 => 259 | 26 => 260 | 27 => 261 | 46 => 280 | 47 => 281 | 48 => 282 | 49 => 283 | 50 => 284 | 57 => 295 | n => n, fun | 22 => 83 | 24 => 168 | 25 => 244 | 3 => 3 | 39 => 312 | 0 => 0 | 53 => 247 | 55 => 334 | 4 => 4 | 46 => 346 | 45 => 345 | 50 => 109 | 5 => 5 | 9 => 9 | 66 => 381 | 70 => 385 | 76 => 403 | 77 => 404 | n => n, fun | n => n⟩
theorem Tryz.sortK : Go.Proofs.SlLaysF0.n6 Tryz.prog Tryz.sortK_ren := {
  mixed := by kernel_rfl
  f6 := ⟨Tryz.f172.name, by decide, Tryz.func172.trans (congrArg some (by kernel_rfl))⟩
  f14 := ⟨Tryz.f221.name, by decide, Tryz.func221.trans (congrArg some (by kernel_rfl))⟩
  f15 := Tryz.func222.trans (congrArg some (by kernel_rfl))
  f20 := ⟨Tryz.f254.name, by decide, Tryz.func254.trans (congrArg some (by kernel_rfl))⟩
  f21 := ⟨Tryz.f255.name, by decide, Tryz.func255.trans (congrArg some (by kernel_rfl))⟩
  f22 := ⟨Tryz.f256.name, by decide, Tryz.func256.trans (congrArg some (by kernel_rfl))⟩
  f23 := ⟨Tryz.f257.name, by decide, Tryz.func257.trans (congrArg some (by kernel_rfl))⟩
  f24 := ⟨Tryz.f258.name, by decide, Tryz.func258.trans (congrArg some (by kernel_rfl))⟩
  f25 := ⟨Tryz.f259.name, by decide, Tryz.func259.trans (congrArg some (by kernel_rfl))⟩
  f26 := ⟨Tryz.f260.name, by decide, Tryz.func260.trans (congrArg some (by kernel_rfl))⟩
  f27 := ⟨Tryz.f261.name, by decide, Tryz.func261.trans (congrArg some (by kernel_rfl))⟩
  f28 := Tryz.func262.trans (congrArg some (by kernel_rfl))
  f29 := Tryz.func263.trans (congrArg some (by kernel_rfl))
  f46 := ⟨Tryz.f280.name, by decide, Tryz.func280.trans (congrArg some (by kernel_rfl))⟩
  f47 := Tryz.func281.trans (congrArg some (by kernel_rfl))
  f48 := Tryz.func282.trans (congrArg some (by kernel_rfl))
  f49 := ⟨Tryz.f283.name, by decide, Tryz.func283.trans (congrArg some (by kernel_rfl))⟩
  f50 := ⟨Tryz.f284.name, by decide, Tryz.func284.trans (congrArg some (by kernel_rfl))⟩
  f57 := ⟨Tryz.f295.name, by decide, Tryz.func295.trans (congrArg some (by kernel_rfl))⟩
  t0 := Tryz.underlying0
  a0 := Tryz.isAgg0
  z0 := Tryz.sizeOf0
  v0 := Tryz.zeroValue0
  t3 := Tryz.underlying3
  a3 := Tryz.isAgg3
  z3 := Tryz.sizeOf3
  v3 := Tryz.zeroValue3
  t4 := Tryz.underlying4
  a4 := Tryz.isAgg4
  z4 := Tryz.sizeOf4
  v4 := Tryz.zeroValue4
  t5 := Tryz.underlying5
  a5 := Tryz.isAgg5
  z5 := Tryz.sizeOf5
  v5 := Tryz.zeroValue5
  t9 := Tryz.underlying9
  a9 := Tryz.isAgg9
  z9 := Tryz.sizeOf9
  v9 := Tryz.zeroValue9
  t22 := Tryz.underlying83
  a22 := Tryz.isAgg83
  z22 := Tryz.sizeOf83
  v22 := Tryz.zeroValue83
  t25 := Tryz.underlying244
  a25 := Tryz.isAgg244
  z25 := Tryz.sizeOf244
  v25 := Tryz.zeroValue244
  t39 := Tryz.underlying312
  a39 := Tryz.isAgg312
  z39 := Tryz.sizeOf312
  v39 := Tryz.zeroValue312
  t45 := Tryz.underlying345
  a45 := Tryz.isAgg345
  z45 := Tryz.sizeOf345
  v45 := Tryz.zeroValue345
  t46 := Tryz.underlying346
  a46 := Tryz.isAgg346
  z46 := Tryz.sizeOf346
  v46 := Tryz.zeroValue346
  t50 := Tryz.underlying109
  a50 := Tryz.isAgg109
  z50 := Tryz.sizeOf109
  v50 := Tryz.zeroValue109
  t53 := Tryz.underlying247
  a53 := Tryz.isAgg247
  z53 := Tryz.sizeOf247
  v53 := Tryz.zeroValue247
  t55 := Tryz.underlying334
  a55 := Tryz.isAgg334
  z55 := Tryz.sizeOf334
  v55 := Tryz.zeroValue334
  t66 := Tryz.underlying381
  a66 := Tryz.isAgg381
  z66 := Tryz.sizeOf381
  v66 := Tryz.zeroValue381
  t70 := Tryz.underlying385
  a70 := Tryz.isAgg385
  z70 := Tryz.sizeOf385
  v70 := Tryz.zeroValue385
  t76 := Tryz.underlying403
  a76 := Tryz.isAgg403
  z76 := Tryz.sizeOf403
  v76 := Tryz.zeroValue403
  t77 := Tryz.underlying404
  a77 := Tryz.isAgg404
  z77 := Tryz.sizeOf404
  v77 := Tryz.zeroValue404 }
end Go.Proofs
namespace Go.Proofs.YtmekockjgldndaaGreatDoor
open Go.RowKit Go.Wk Go.Sort Go.Shelf
set_option maxRecDepth 100000

instance : Inhabited Fe := ⟨⟨(⟨#[]⟩, false, .base 41), 0, 0, ⟨#[]⟩, ⟨#[]⟩, none, none, 0, 0⟩⟩
/-- A row of the call's own that holds fields; what their types lead to lies in blocks of D that are not the row's. -/
structure RowJ (w : World) (base : Nat) (D : Nat → Prop) (v : Value) (E : List Fe) : Prop where
  own : w.ownsRow base 168 8 v E.length (feCells E)
  ok : ∀ x ∈ E, KAt w (fun b => D b ∧ some b ≠ v.ownBlock) x.y.2.2 x.u
theorem RowJ.nil (w : World) (base : Nat) (D : Nat → Prop) : RowJ w base D (.slice none 0 0) [] := ⟨World.ownsRow_nil _ _ _ _, fun _ h => nomatch h⟩
theorem RowJ.keepN {w w' : World} {base : Nat} {D : Nat → Prop} {v : Value} {E : List Fe} (h : RowJ w base D v E) (hg : w.grownBy w' none) : RowJ w' base D v E := by
  refine ⟨h.own.kept hg ?_, fun x hx => ?_⟩
  · rcases hv : v.ownBlock with _ | k
    · exact .inl rfl
    · exact .inr (fun e => nomatch e)
  · have h1 := ((kat_mono (w := w) (B' := fun b => (D b ∧ some b ≠ v.ownBlock) ∧ b < w.heap.size) (fun b hb hl => ⟨hb, hl⟩) _).1 _ _ (Nat.le_refl _) (h.ok x hx))
    have h2 := h1.cong (w' := w') fun b hb => hg.block b hb.2 (fun e => nomatch e)
    exact h2.mono fun b hb _ => hb.1
theorem RowJ.keep {w w' : World} {base : Nat} {D : Nat → Prop} {v : Value} {E : List Fe} {R : Nat} (h : RowJ w base D v E) (hg : w.grownBy w' (some R)) (hR : R < base) (hD : ¬ D R) : RowJ w' base D v E := by
  refine ⟨h.own.kept hg ?_, fun x hx => ?_⟩
  · rcases hv : v.ownBlock with _ | k
    · exact .inl rfl
    · refine .inr fun e => ?_
      injection e with e
      have := (h.own.lt k hv).1
      omega
  · have h1 := ((kat_mono (w := w) (B' := fun b => (D b ∧ some b ≠ v.ownBlock) ∧ b < w.heap.size) (fun b hb hl => ⟨hb, hl⟩) _).1 _ _ (Nat.le_refl _) (h.ok x hx))
    have h2 := h1.cong (w' := w') fun b hb => hg.block b hb.2 (fun e => by injection e with e; subst e; exact hD hb.1.1)
    exact h2.mono fun b hb _ => hb.1
/-- What the row is as fields of a type. -/
theorem RowJ.fat {w : World} {base : Nat} {D : Nat → Prop} {v : Value} {E : List Fe} (h : RowJ w base D v E) (hD : ∀ b, base ≤ b → D b) : ∃ A c, v = .slice A E.length c ∧ FAt w D A 0 (ofL (E.map Fe.y)) ∧ E.length ≤ c ∧ c ≤ maxLen := by
  obtain ⟨h1, h2⟩ := h
  have h0 := h1
  rcases h1.2 with ⟨rfl, e0⟩ | ⟨g, cap, cur, rfl, hB, hh, hc, hm, hrest⟩
  · have : E = [] := List.eq_nil_of_length_eq_zero e0
    subst this
    exact ⟨none, 0, rfl, trivial, Nat.le_refl _, Nat.zero_le _⟩
  · refine ⟨some ⟨g, 0, none⟩, cap, rfl, ?_, hc, hm⟩
    exact fat_of_cells (B := D) (a := ⟨g, 0, none⟩) (hD g hB) [] E (by simpa using h0.cells (g := g) rfl) fun x hx => (h2 x hx).mono fun b hb _ => hb.1
/-- One more. -/
theorem RowJ.snoc {w w' : World} {base : Nat} {D : Nat → Prop} {v v' : Value} {E : List Fe} {x : Fe} (h : RowJ w base D v E) (hx : KAt w (fun b => D b ∧ some b ≠ v.ownBlock) x.y.2.2 x.u) (hown : w'.ownsRow base 168 8 v' (E.length + 1) (feCells E ++ x.eight)) (hg : w.grownBy w' v.ownBlock)
    (hb : v'.ownBlock = v.ownBlock ∨ v'.ownBlock = some w.heap.size) : RowJ w' base D v' (E ++ [x]) := by
  refine ⟨?_, fun z hz => ?_⟩
  · rw [feCells_append, List.length_append]; exact hown
  · have hz' : KAt w (fun b => D b ∧ some b ≠ v.ownBlock) z.y.2.2 z.u := by
      rcases List.mem_append.1 hz with hz | hz
      · exact h.ok z hz
      · simp only [List.mem_cons, List.not_mem_nil, or_false] at hz; subst hz; exact hx
    have h1 := (kat_mono (w := w) (B' := fun b => (D b ∧ some b ≠ v.ownBlock) ∧ b < w.heap.size) (fun b hb hl => ⟨hb, hl⟩) _).1 _ _ (Nat.le_refl _) hz'
    have h2 := h1.cong (w' := w') fun b hb => hg.block b hb.2 (fun e => hb.1.2 (by rw [← e]))
    refine h2.mono fun b hb _ => ⟨hb.1.1, ?_⟩
    rcases ‹v'.ownBlock = v.ownBlock ∨ v'.ownBlock = some w.heap.size› with e | e
    · rw [e]; exact hb.1.2
    · rw [e]; intro q; injection q with q; have := hb.2; omega
/-- append of one field to such a row. -/
theorem wpList_append_fj {ops : Array Oper} {rest : List Oper} {o : Oper} {a : Act} {w : World} {Q : Exit → Act → World → Prop} (hgd : o.guard = none) (s x : Operand)
    (ho : o.op = .call { callee := .builtin .append, args := #[s, x], argTypes := #[83, 83] })
    (base : Nat) (D : Nat → Prop) (v : Value) (E : List Fe) (hs : a.eval s = v) (hrow : RowJ w base D v E) (z : Fe) (ad : Addr) (m c : Nat) (hx : a.eval x = .slice (some ad) m c) (hm : m = 1)
    (hnews : ∀ j u, z.eight[j]? = some u → w.cell? (ad.add j) = some u) (hz : KAt w (fun b => D b ∧ some b ≠ v.ownBlock) z.y.2.2 z.u) (hl : E.length ≤ 1000000) (hbase : base ≤ w.heap.size)
    (h : ∀ v' w', RowJ w' base D v' (E ++ [z]) → w.grownBy w' v.ownBlock → wpList Tryz.prog ops Q rest (a.put o.dst v') w') : wpList Tryz.prog ops Q (o :: rest) a w := by
  subst hm
  have hi := fdInfo
  cases hq : Tryz.prog.info? 168 with
  | none => rw [hq] at hi; cases hi
  | some i0 =>
    rw [hq] at hi
    simp only [Option.map_some, Option.some.injEq, Prod.mk.injEq] at hi
    refine wpList_append_own_at w hgd s x _ ho base _ i0 _ 8 104 Tryz.underlying83 hq hi.1 hi.2.1 hi.2.2 (by decide) (by decide) v E.length (feCells E) hs hrow.own ad 1 c z.eight hx rfl hnews ?_ (by unfold maxLen; omega) (by omega) hbase ?_
    · intro u hu
      have := feCells_one [z] u (by simpa [feCells, Fe.eight, Fe.u] using hu)
      exact this
    · intro v' w' h1 h2 _ h4
      exact h v' w' (hrow.snoc hz h1 h2 h4) h2

theorem jsrt_heap {w : World} {g n : Nat} {os : Array Obj} {cur : Array Value} {e : TypeId} {fr : Nat × Nat} (d : Array Value) (hb : w.heap[g]? = some (.cells cur e fr)) :
    (grow (putRow id (Sort.ahead w n) g 0 d) os).heap[g]? = some (.cells (putCells id 0 d cur) e fr) := by
  have hg : g < w.heap.size := (Array.getElem?_eq_some_iff.1 hb).1
  rw [heap_grow_old _ _ (by simpa using hg)]
  simp [putRow, mapBlock, Sort.ahead, Array.getElem?_modify, hb, onCells]
theorem jsrt_grown {w : World} {g n : Nat} {os : Array Obj} (d : Array Value) : w.grownBy (grow (putRow id (Sort.ahead w n) g 0 d) os) (some g) := by
  refine ⟨rfl, rfl, rfl, by simp, fun k hk hne => ?_⟩
  rw [heap_grow_old _ _ (by simpa using hk)]
  have : g ≠ k := fun e => hne (by rw [e])
  simp [putRow, mapBlock, Sort.ahead, Array.getElem?_modify, this]
theorem jsrt_take (cur : Array Value) (ts : List Value) (h : ts.length ≤ cur.size) : (putCells id 0 ts.toArray cur).toList.take ts.length = ts := by
  apply List.ext_getElem?
  intro j
  by_cases hj : j < ts.length
  · rw [List.getElem?_take_of_lt hj, Array.getElem?_toList]
    simp [putCells, hj, show j < cur.size by omega]
  · rw [List.getElem?_take_eq_none (by omega), List.getElem?_eq_none (by omega)]
theorem jsrt_holds {w : World} {g : Nat} {cur : Array Value} {e : TypeId} {ts : List Value} (hb : w.heap[g]? = some (.cells cur e (0, 0))) (ht : cur.toList.take ts.length = ts) : Holds id w g 0 ts.toArray := by
  intro j hj
  have hj' : j < ts.length := by simpa using hj
  refine ⟨?_, by simp [World.frozen?, hb]⟩
  have h1 : (cur.toList.take ts.length)[j]? = ts[j]? := by rw [ht]
  rw [List.getElem?_take_of_lt hj'] at h1
  simp only [World.cell?, hb, Nat.zero_add]
  simp only [Option.isSome_none, Bool.false_eq_true, if_false]
  rw [← Array.getElem?_toList, h1]
  simp [hj']
theorem eight_len (x : Fe) : x.eight.length = 8 := rfl
theorem flat_fes (d : Array Fe) : flatK Fe.eight 8 d = (feCells d.toList).toArray := ext_get! (by simp) fun t ht => by
  have h : t < d.size * 8 := by simpa using ht
  rw [get_flatK _ _ _ _ h]
  have hk : t / 8 < d.size := by omega
  have hj : t % 8 < (d[t / 8]'hk).eight.length := by rw [eight_len]; omega
  have := feCells_at d.toList (t / 8) (d[t / 8]'hk) (by simp [hk]) (t % 8) _ (List.getElem?_eq_getElem hj)
  rw [show t / 8 * 8 + t % 8 = t by omega] at this
  rw [getElem!_pos d (t / 8) hk, getElem!_pos _ (t % 8) hj]
  simp [this]
/-- The order of fields. -/
def cfF (x y : Fe) : Int := cmpB x.y.1 y.y.1
theorem cfF_swo : SWO (ltOf cfF) where
  irrefl x := by unfold ltOf cfF; rw [cmpB_cmp.self]; rfl
  trans x y z h1 h2 := by
    unfold ltOf cfF at *
    simp only [decide_eq_true_eq] at *
    exact cmpB_cmp.lt_le h1 (by omega)
  ntrans x y z h1 h2 := by
    unfold ltOf cfF at *
    simp only [decide_eq_false_iff_not] at *
    have a1 := cmpB_cmp.anti x.y.1 y.y.1
    have a2 := cmpB_cmp.anti y.y.1 z.y.1
    have a3 := cmpB_cmp.anti x.y.1 z.y.1
    have := cmpB_cmp.trans z.y.1 y.y.1 x.y.1 (by omega) (by omega)
    omega
set_option maxHeartbeats 1000000 in
theorem join_cmp (x y : Fe) (w : World) :
    Calls Tryz.prog 173 #[.agg x.eight.toArray, .agg y.eight.toArray] w fun e w' => e = .returned (.int .i64 (cfF x y)) ∧ BelowD w w' := by
  obtain ⟨⟨n1, m1, k1⟩, o1, i1, s1, t1, p1, A1, l1, c1⟩ := x
  obtain ⟨⟨n2, m2, k2⟩, o2, i2, s2, t2, p2, A2, l2, c2⟩ := y
  change Calls Tryz.prog 173 #[.agg #[.string n1, .bool m1, .int .i64 o1, .int .i64 i1, .string s1, .string t1, .pointer p1, .slice A1 l1 c1], .agg #[.string n2, .bool m2, .int .i64 o2, .int .i64 i2, .string s2, .string t2, .pointer p2, .slice A2 l2 c2]] w fun e w' => e = .returned (.int .i64 (cmpB n1 n2)) ∧ BelowD w w'
  go_enter Tryz.func173, Tryz.ntmps173
  go_wp2_with fail
  refine (strings_Compare n1 n2 _).mono ?_
  rintro e w1 ⟨rfl, rfl⟩
  go_wp2_with fail
  go_ret
  exact ⟨rfl, (((Below.refl _ _).alloc (Nat.le_refl _) _).alloc (by simp) _), Nat.le_refl _⟩
theorem f_cmp (w : World) (g size : Nat) : CmpLays Tryz.prog 173 #[] Fe.eight 8 cfF g 0 size w := by
  intro m os dk _ x y
  exact (join_cmp x y _).mono fun e w' ⟨h1, h2⟩ => ⟨h1, h2.grow⟩
/-- What the sort of fields tells. -/
def SrtPost (w : World) (base : Nat) (D : Nat → Prop) (v : Value) (E : List Fe) (e : Ending) (w' : World) : Prop :=
  e = .returned (.tuple #[]) ∧ ∃ E' : List Fe, E'.Perm E ∧ (E'.Pairwise fun a b => cmpB a.y.1 b.y.1 ≤ 0) ∧ RowJ w' base D v E' ∧ w.grownBy w' v.ownBlock
theorem fsort_none (w : World) (p : Option Addr) (cap : Nat) (fv : Value) :
    Calls Tryz.prog 172 #[.slice p 0 cap, fv] w fun e w' => e = .returned (.tuple #[]) ∧ w' = w := by
  have hcon := AnyF.slices_SortFunc_none { Tryz.sortK with } p cap fv w
  change Calls Tryz.prog 172 _ _ _ at hcon
  exact hcon
theorem fes_sort (w : World) (base : Nat) (D : Nat → Prop) (v : Value) (E : List Fe) (h : RowJ w base D v E) (hs : E.length ≤ 1000000) :
    Calls Tryz.prog 172 #[v, .func (.func 173) #[] #[]] w (SrtPost w base D v E) := by
  rcases h.own.2 with ⟨rfl, h0⟩ | ⟨g, cap, cur, rfl, hBg, hh, h1, h2, h3, h4⟩
  · have : E = [] := List.eq_nil_of_length_eq_zero h0
    subst this
    exact (fsort_none w none 0 _).mono fun e w' ⟨h1, h2⟩ => ⟨h1, [], List.Perm.refl _, List.Pairwise.nil, by rw [h2]; exact h, by rw [h2]; exact World.grownBy.refl _ _⟩
  · have hH : HoldsK Fe.eight 8 w g 0 E.toArray := by
      unfold HoldsK
      rw [flat_fes]
      exact jsrt_holds hh (by rw [feCells_length]; exact h4)
    have eg : ∀ args w, (callFunc 173 args).run Tryz.prog w = .ok (.enter 173 args) w := enters_of Tryz.func173 (by kernel_rfl) rfl
    have hcon := AnyQ.slices_SortFunc Tryz.sortK 8 Tryz.isAgg168 Tryz.sizeOf168 Fe.eight (fun _ => rfl) (fun x v hv => feCells_one [x] v (by simpa [feCells, Fe.eight, Fe.u] using hv)) cfF cfF_swo 173 #[] g 0 cap E.toArray w eg (f_cmp w g _) hH (Array.getElem?_eq_some_iff.1 hh).1 (by simp; omega)
    change Calls Tryz.prog 172 _ _ _ at hcon
    have hsz : E.toArray.size = E.length := by simp
    rw [hsz] at hcon
    refine hcon.mono ?_
    rintro e w' ⟨he, d', n, os, ⟨hp1, -, hp2⟩, hso, rfl⟩
    have hlen : d'.size = E.length := by rw [hp1, hsz]
    have hperm : d'.toList.Perm E := by
      rw [← hlen] at hp2
      have e1 : E.toArray.extract 0 d'.size = E.toArray := by rw [hlen, ← hsz]; exact Array.extract_size
      rw [Array.extract_size, e1] at hp2
      exact hp2
    have hL : d'.toList.length = E.length := by simpa using hlen
    have hg : w.grownBy (sortWorldK Fe.eight 8 w g 0 n d' os) (some g) := by
      unfold sortWorldK putRowK
      exact jsrt_grown _
    refine ⟨he, d'.toList, hperm, ?_, ⟨?_, fun x hx => ?_⟩, hg⟩
    · rw [List.pairwise_iff_getElem]
      intro i j hi hj hij
      have hi' : i < d'.size := by simpa using hi
      have hj' : j < d'.size := by simpa using hj
      have := hso i j (Nat.zero_le _) hij (by omega)
      rw [getElem!_pos d' j hj', getElem!_pos d' i hi'] at this
      unfold ltOf cfF at this
      have this := of_decide_eq_false this
      have a := cmpB_cmp.anti d'[i].y.1 d'[j].y.1
      simp only [Array.getElem_toList]
      omega
    · unfold sortWorldK putRowK
      rw [flat_fes]
      refine ⟨by simp [hlen], .inr ⟨g, cap, _, by rw [hL], hBg, jsrt_heap _ hh, by rw [hL]; exact h1, h2, by simp [putCells, h3], ?_⟩⟩
      have := jsrt_take cur (feCells d'.toList) (by rw [feCells_length, hL, h3]; exact Nat.mul_le_mul_right _ h1)
      rw [feCells_length] at this
      exact this
    · have hx' := h.ok x (hperm.mem_iff.1 hx)
      have h1 := (kat_mono (w := w) (B' := fun b => (D b ∧ some b ≠ (Value.slice (some ⟨g, 0, none⟩) E.length cap).ownBlock) ∧ b < w.heap.size) (fun b hb hl => ⟨hb, hl⟩) _).1 _ _ (Nat.le_refl _) hx'
      have h2 := h1.cong (w' := sortWorldK Fe.eight 8 w g 0 n d' os) fun b hb => hg.block b hb.2 (fun e => hb.1.2 e)
      exact h2.mono fun b hb _ => hb.1
end Go.Proofs.YtmekockjgldndaaGreatDoor
