/-
  kinds' reader: a type of sets.
-/
import Derived.Test.YtocchkmhnneiiaaKindKe
namespace Go.Proofs.Ytocchkmhnneiiaa
open Go.RowKit Go.Wk Go.Sort
set_option maxRecDepth 100000

theorem row0_new (w : World) (u : List Value) (t : TypeId) : Row0 (w.alloc (.cells u.toArray t)) ⟨w.heap.size, 0, none⟩ u := fun j x hx => by
  have := cell_new w u.toArray t j (v := x) (by simpa using hx)
  unfold Addr.add
  split
  · rename_i h; subst h; exact this
  · simpa using this
set_option maxHeartbeats 8000000 in
theorem kind_set (R m : Nat) (ih : KindC R m) (x : Nd) (r : List Nd) (hl : r.length ≤ m) (w : World) (h : RdK w R (x :: r)) (hb : x.op = 45) :
    Calls Try.prog 28 #[.pointer (some ⟨R, 0, none⟩)] w (KindPost w R (parseK (m + 1) (x :: r))) := by
  have HR := Lib.hid h
  have IH := Lib.hid (fun w' (h' : RdK w' R r) => ih r w' h' hl)
  clear ih
  have HPP := Lib.hid (show parseK (m + 1) (x :: r) = (match parseK m r with | none => none | some (p, r') => if x.n = 0 ∧ x.s = emp ∧ x.t = emp then some (.set p, r') else none) by simp only [parseK, if_neg (not_base (.inr (.inl hb))), if_neg (show ¬ x.op = 44 by omega), if_pos hb]; rfl)
  generalize parseK (m + 1) (x :: r) = PP at *
  clear h
  go_enter Try.func28, Try.ntmps28
  go_wp2_with fail
  have G0 := Lib.hid (grown_of_below (below_box w (.cells #[.int .i64 0, .int .i64 0, .string ⟨#[]⟩, .string ⟨#[]⟩, .pointer none, .slice none 0 0] 39)) (some R))
  have X0 := Lib.hid (bx6_new w (.int .i64 0) (.int .i64 0) (.string ⟨#[]⟩) (.string ⟨#[]⟩) (.pointer none) (.slice none 0 0) 39)
  have R0 := Lib.hid (HR.out.keep (below_box w (.cells #[.int .i64 0, .int .i64 0, .string ⟨#[]⟩, .string ⟨#[]⟩, .pointer none, .slice none 0 0] 39)))
  have HRL := Lib.hid (show R < w.heap.size by obtain ⟨⟨_, _, _, h1, _⟩, _⟩ := HR.out; exact block_lt_of_cell h1)
  have HNE := Lib.hid (show some w.heap.size ≠ some R from fun e => by injection e with e; have := HRL.out; omega)
  obtain ⟨w0, hw0⟩ : ∃ w0, w.alloc (.cells #[.int .i64 0, .int .i64 0, .string ⟨#[]⟩, .string ⟨#[]⟩, .pointer none, .slice none 0 0] 39) = w0 := ⟨_, rfl⟩
  have HS0 := Lib.hid (show w.heap.size ≤ w0.heap.size by rw [← hw0]; simp)
  rw [hw0] at G0 X0 R0 ⊢
  clear hw0 HR
  refine (kind_node R (x :: r) w0 R0.out).mono ?_
  rintro e w1 ⟨rfl, r1, g1⟩
  have G1 := Lib.hid (G0.out.trans g1)
  have X1 := Lib.hid (X0.out.but g1 HNE.out)
  have R1 := Lib.hid r1
  have HS1 := Lib.hid (Nat.le_trans HS0.out g1.size)
  clear r1 g1 G0 X0 R0 HS0
  unfold ndV
  have hl : w.heap.size < w1.heap.size := block_lt_of_cell X1.out.c0
  rw [hb]
  clear hb
  have B2 := Lib.hid ((below_box w1 (.cells #[.int .i64 45, .int .i64 x.n, .string x.s, .string x.t, .pointer none, .slice none 0 0] 39)).trans ((below_box _ (.cells #[.int .i64 45, .int .i64 0, .string ⟨#[]⟩, .string ⟨#[]⟩] 34)).mono (by simp)))
  have hsz : (w1.alloc (.cells #[.int .i64 45, .int .i64 x.n, .string x.s, .string x.t, .pointer none, .slice none 0 0] 39)).heap.size = w1.heap.size + 1 := by simp
  have K2 := (bx6_new w1 (.int .i64 45) (.int .i64 x.n) (.string x.s) (.string x.t) (.pointer none) (.slice none 0 0) 39).keep (below_box _ (.cells #[.int .i64 45, .int .i64 0, .string ⟨#[]⟩, .string ⟨#[]⟩] 34))
  have N2 := bx4_new (w1.alloc (.cells #[.int .i64 45, .int .i64 x.n, .string x.s, .string x.t, .pointer none, .slice none 0 0] 39)) (.int .i64 45) (.int .i64 0) (.string ⟨#[]⟩) (.string ⟨#[]⟩) 34
  rw [hsz] at N2
  clear hsz
  go_wp2_with fail
  obtain ⟨w2, hw2⟩ : ∃ w2, (w1.alloc (.cells #[.int .i64 45, .int .i64 x.n, .string x.s, .string x.t, .pointer none, .slice none 0 0] 39)).alloc (.cells #[.int .i64 45, .int .i64 0, .string ⟨#[]⟩, .string ⟨#[]⟩] 34) = w2 := ⟨_, rfl⟩
  rw [hw2] at B2 K2 N2 ⊢
  clear hw2
  have HR1 := Lib.hid (Nat.lt_of_lt_of_le HRL.out HS1.out)
  refine (IH.out w2 (R1.out.keep B2.out)).mono ?_
  intro e w3 hpost
  rcases hp : parseK m r with _ | ⟨q, r'⟩
  · rw [hp] at hpost
    obtain ⟨rfl, g3⟩ := hpost
    have HP := Lib.hid (show PP = none by rw [HPP.out, hp])
    clear HPP hp
    go_wp2_with fail
    exact ⟨rfl, by rw [HP.out]; exact ⟨rfl, grown_trans G1.out (grown_trans (grown_of_below B2.out (some R)) g3)⟩⟩
  · rw [hp] at hpost
    obtain ⟨v, rfl, hk, hr, g3⟩ := hpost
    obtain ⟨o, n, s0, t0, pp, A, m0, cc, rfl⟩ := kat_shape hk
    have K3 := Lib.hid (K2.but g3 (fun e => by injection e with e; have := HR1.out; omega))
    have N3 := Lib.hid (N2.but g3 (fun e => by injection e with e; have := HR1.out; omega))
    have X3 := Lib.hid ((X1.out.keep B2.out).but g3 HNE.out)
    have G3 := Lib.hid (grown_trans G1.out (grown_trans (grown_of_below B2.out (some R)) g3))
    have HK := Lib.hid (hk.mono (B' := fun b => w2.heap.size ≤ b ∧ b < w3.heap.size) fun b h1 h2 => ⟨h1, h2⟩)
    have HR3 := Lib.hid hr
    have HP := Lib.hid (show PP = if x.n = 0 ∧ x.s = emp ∧ x.t = emp then some (.set q, r') else none by rw [HPP.out, hp])
    have HS2 := Lib.hid (show w1.heap.size < w2.heap.size from block_lt_of_cell K2.c0)
    have HS3 := Lib.hid (show w2.heap.size ≤ w3.heap.size from g3.size)
    have hl3 : w1.heap.size < w3.heap.size := Nat.lt_of_lt_of_le HS2.out HS3.out
    have hl4 : w1.heap.size + 1 < w3.heap.size := block_lt_of_cell N3.out.c0
    have hl5 : w.heap.size < w3.heap.size := block_lt_of_cell X3.out.c0
    clear hk hr g3 HPP hp K2 N2 X1 R1 G1 IH
    obtain ⟨k0, k1, k2, k3, k4, k5, y0, y1, y2, y3, y4, y5⟩ := K3.out
    obtain ⟨n0, n1, n2, n3, -, -, -, -⟩ := N3.out
    by_cases hn : x.n = 0
    · rcases emp_or x.s with hs | ⟨hs, s1, s2⟩
      · rcases emp_or x.t with ht | ⟨ht, t1, t2⟩
        · have HQ := Lib.hid (show PP = some (.set q, r') by rw [HP.out, if_pos ⟨hn, hs, ht⟩])
          rw [hn, hs, ht] at K3
          rw [hn] at k1
          rw [hs] at k2
          rw [ht] at k3
          rw [hn, hs, ht]
          clear hn hs ht HP
          obtain ⟨c0, c1, c2, c3, c4, c5, z0, z1, z2, z3, z4, z5⟩ := X3.out
          go_wp2_with fail
          obtain ⟨w4, hw4⟩ : ∃ w4, w3.setCell ⟨w1.heap.size, 4, none⟩ (.pointer (some ⟨w3.heap.size, 0, none⟩)) = w4 := ⟨_, rfl⟩
          have g4 : w3.grownBy w4 (some w1.heap.size) := by rw [← hw4]; exact grown_setCell w3 ⟨w1.heap.size, 4, none⟩ _
          have e4 : w4.heap.size = w3.heap.size := by rw [← hw4]; simp [World.setCell]
          rw [hw4]
          have X4 := X3.out.but g4 (fun e => by injection e with e; omega)
          have Y := X4.set (.int .i64 45) (.int .i64 0) (.string ⟨#[]⟩) (.string ⟨#[]⟩) (.pointer (some ⟨w3.heap.size, 0, none⟩)) (.slice none 0 0)
          have gs := grown_set6 w4 w.heap.size (.int .i64 45) (.int .i64 0) (.string ⟨#[]⟩) (.string ⟨#[]⟩) (.pointer (some ⟨w3.heap.size, 0, none⟩)) (.slice none 0 0)
          have R5 := (HR3.out.but g4 HR1.out).but gs HRL.out
          have G5 := grown_new (grown_new G3.out g4 HS1.out) gs (Nat.le_refl _)
          have K5 := HK.out.cong (w' := ((((((w4.setCell ⟨w.heap.size, 0, none⟩ (.int .i64 45)).setCell ⟨w.heap.size, 1, none⟩ (.int .i64 0)).setCell ⟨w.heap.size, 2, none⟩ (.string ⟨#[]⟩)).setCell ⟨w.heap.size, 3, none⟩ (.string ⟨#[]⟩)).setCell ⟨w.heap.size, 4, none⟩ (.pointer (some ⟨w3.heap.size, 0, none⟩))).setCell ⟨w.heap.size, 5, none⟩ (.slice none 0 0))) fun b hb => by
            rw [heap_set6 w4 w.heap.size (.int .i64 45) (.int .i64 0) (.string ⟨#[]⟩) (.string ⟨#[]⟩) (.pointer (some ⟨w3.heap.size, 0, none⟩)) (.slice none 0 0) (by have := hb.1; have := HS2.out; omega), ← hw4, Below.heap_setCell _ _ _ b (show b ≠ w1.heap.size by have := hb.1; have := HS2.out; omega)]
          have E5 : (((((((w4.setCell ⟨w.heap.size, 0, none⟩ (.int .i64 45)).setCell ⟨w.heap.size, 1, none⟩ (.int .i64 0)).setCell ⟨w.heap.size, 2, none⟩ (.string ⟨#[]⟩)).setCell ⟨w.heap.size, 3, none⟩ (.string ⟨#[]⟩)).setCell ⟨w.heap.size, 4, none⟩ (.pointer (some ⟨w3.heap.size, 0, none⟩))).setCell ⟨w.heap.size, 5, none⟩ (.slice none 0 0))).heap.size = w3.heap.size := by simp [World.setCell, ← hw4]
          obtain ⟨S, hS⟩ : ∃ S, ((((((w4.setCell ⟨w.heap.size, 0, none⟩ (.int .i64 45)).setCell ⟨w.heap.size, 1, none⟩ (.int .i64 0)).setCell ⟨w.heap.size, 2, none⟩ (.string ⟨#[]⟩)).setCell ⟨w.heap.size, 3, none⟩ (.string ⟨#[]⟩)).setCell ⟨w.heap.size, 4, none⟩ (.pointer (some ⟨w3.heap.size, 0, none⟩))).setCell ⟨w.heap.size, 5, none⟩ (.slice none 0 0)) = S := ⟨_, rfl⟩
          rw [hS] at Y gs R5 G5 K5 E5 ⊢
          clear hS gs hw4 X4 g4
          have Y5 := Y.keep (below_box S (.cells #[.int .i64 o, .int .i64 n, .string s0, .string t0, .pointer pp, .slice A m0 cc] 39))
          obtain ⟨j0, j1, j2, j3, j4, j5, -, -, -, -, -, -⟩ := Y5
          refine bodyPost_ret (v := .agg #[.int .i64 45, .int .i64 0, .string ⟨#[]⟩, .string ⟨#[]⟩, .pointer (some ⟨w3.heap.size, 0, none⟩), .slice none 0 0]) (by simp [results, Try.results28, go_sem, j0, j1, j2, j3, j4, j5]) rfl ?_
          rw [HQ.out]
          have r0 := row0_new S [.int .i64 o, .int .i64 n, .string s0, .string t0, .pointer pp, .slice A m0 cc] 39
          rw [E5] at r0
          refine ⟨[.int .i64 45, .int .i64 0, .string ⟨#[]⟩, .string ⟨#[]⟩, .pointer (some ⟨w3.heap.size, 0, none⟩), .slice none 0 0], rfl, ⟨0, w3.heap.size, [.int .i64 o, .int .i64 n, .string s0, .string t0, .pointer pp, .slice A m0 cc], rfl, Nat.le_of_lt hl5, r0, ?_⟩, R5.keep (below_box _ _), grown_trans G5 (grown_of_below (below_box _ _) _)⟩
          refine (K5.cong fun b hb => (below_box S _).block b (by rw [E5]; exact hb.2)).mono fun b hb _ => ?_
          have := hb.1
          have := HS2.out
          have := HS1.out
          omega
        · have HQ := Lib.hid (show PP = none by rw [HP.out, if_neg (fun h => ht h.2.2)])
          rw [hn] at k1
          rw [hs] at k2
          rw [hn, hs]
          clear hn hs ht HP
          go_wp2_with fail
          exact ⟨rfl, by rw [HQ.out]; exact ⟨rfl, grown_trans (grown_new G3.out (grown_setCell w3 ⟨w1.heap.size, 4, none⟩ _) HS1.out) (grown_of_below (below_box _ _) _)⟩⟩
      · have HQ := Lib.hid (show PP = none by rw [HP.out, if_neg (fun h => hs h.2.1)])
        rw [hn] at k1
        rw [hn]
        clear hn hs HP
        go_wp2_with fail
        exact ⟨rfl, by rw [HQ.out]; exact ⟨rfl, grown_trans (grown_new G3.out (grown_setCell w3 ⟨w1.heap.size, 4, none⟩ _) HS1.out) (grown_of_below (below_box _ _) _)⟩⟩
    · have HQ := Lib.hid (show PP = none by rw [HP.out, if_neg (fun h => hn h.1)])
      have e0 : (x.n == 0) = false := beq_eq_false_iff_ne.2 hn
      have e1 : (x.n != 0) = true := by rw [bne_iff_ne]; exact hn
      clear hn HP
      go_wp2_with fail
      exact ⟨rfl, by rw [HQ.out]; exact ⟨rfl, grown_trans (grown_new G3.out (grown_setCell w3 ⟨w1.heap.size, 4, none⟩ _) HS1.out) (grown_of_below (below_box _ _) _)⟩⟩
end Go.Proofs.Ytocchkmhnneiiaa
