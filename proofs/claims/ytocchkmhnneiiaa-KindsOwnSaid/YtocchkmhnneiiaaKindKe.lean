/-
  kinds' reader: a type of entities.
-/
import Derived.Test.YtocchkmhnneiiaaKindKd
import Derived.Test.YtocchkmhnneiiaaKindPos
namespace Go.Proofs.Ytocchkmhnneiiaa
open Go.RowKit Go.Wk Go.Sort
set_option maxRecDepth 100000

set_option maxHeartbeats 8000000 in
theorem kind_ent (R m : Nat) (x : Nd) (r : List Nd) (w : World) (h : RdK w R (x :: r)) (hb : x.op = 44) :
    Calls Try.prog 28 #[.pointer (some ⟨R, 0, none⟩)] w (KindPost w R (parseK (m + 1) (x :: r))) := by
  have HR := Lib.hid h
  have HPP := Lib.hid (show parseK (m + 1) (x :: r) = if x.n = 0 ∧ nameFault x.s = 0 ∧ x.t = emp then some (.ent x.s, r) else none by simp only [parseK, if_neg (not_base (.inl hb)), if_pos hb])
  generalize parseK (m + 1) (x :: r) = PP at *
  clear h
  go_enter Try.func28, Try.ntmps28
  go_wp2_with fail
  have G0 := Lib.hid (grown_of_below (below_box w (.cells #[.int .i64 0, .int .i64 0, .string ⟨#[]⟩, .string ⟨#[]⟩, .pointer none, .slice none 0 0] 39)) (some R))
  have X0 := Lib.hid (bx6_new w (.int .i64 0) (.int .i64 0) (.string ⟨#[]⟩) (.string ⟨#[]⟩) (.pointer none) (.slice none 0 0) 39)
  have R0 := Lib.hid (HR.out.keep (below_box w (.cells #[.int .i64 0, .int .i64 0, .string ⟨#[]⟩, .string ⟨#[]⟩, .pointer none, .slice none 0 0] 39)))
  have HRL := Lib.hid (show R < w.heap.size by obtain ⟨⟨_, _, _, h1, _⟩, _⟩ := HR.out; exact block_lt_of_cell h1)
  have HNE := Lib.hid (show some w.heap.size ≠ some R from fun e => by injection e with e; have := HRL.out; omega)
  obtain ⟨w0, hw0⟩ : ∃ w0, w.alloc (.cells #[.int .i64 0, .int .i64 0, .string ⟨#[]⟩, .string ⟨#[]⟩, .pointer none, .slice none 0 0] 39) = w0 := ⟨_, rfl⟩
  have HS0 := Lib.hid (show w.heap.size ≤ w0.heap.size by rw [← hw0]; simp)
  rw [hw0] at G0 X0 R0 ⊢
  clear hw0 HR
  refine (kind_node R (x :: r) w0 R0.out).mono ?_
  rintro e w1 ⟨rfl, r1, g1⟩
  have G1 := Lib.hid (G0.out.trans g1)
  have X1 := Lib.hid (X0.out.but g1 HNE.out)
  have R1 := Lib.hid r1
  have HYO := Lib.hid (show NdOk x by obtain ⟨⟨_, _, _, _, h2, _⟩, _⟩ := R0.out; exact h2.ok x (by simp))
  have KN := Lib.hid (fun w => name_Check x.s w HYO.out.s)
  have HS1 := Lib.hid (Nat.le_trans HS0.out g1.size)
  clear r1 g1 G0 X0 R0 HS0
  unfold ndV
  have hl : w.heap.size < w1.heap.size := block_lt_of_cell X1.out.c0
  rw [hb]
  clear hb
  have B2 := Lib.hid ((below_box w1 (.cells #[.int .i64 44, .int .i64 x.n, .string x.s, .string x.t, .pointer none, .slice none 0 0] 39)).trans ((below_box _ (.cells #[.int .i64 44, .int .i64 0, .string x.s, .string ⟨#[]⟩] 34)).mono (by simp)))
  have hsz : (w1.alloc (.cells #[.int .i64 44, .int .i64 x.n, .string x.s, .string x.t, .pointer none, .slice none 0 0] 39)).heap.size = w1.heap.size + 1 := by simp
  have K2 := (bx6_new w1 (.int .i64 44) (.int .i64 x.n) (.string x.s) (.string x.t) (.pointer none) (.slice none 0 0) 39).keep (below_box _ (.cells #[.int .i64 44, .int .i64 0, .string x.s, .string ⟨#[]⟩] 34))
  have N2 := bx4_new (w1.alloc (.cells #[.int .i64 44, .int .i64 x.n, .string x.s, .string x.t, .pointer none, .slice none 0 0] 39)) (.int .i64 44) (.int .i64 0) (.string x.s) (.string ⟨#[]⟩) 34
  rw [hsz] at N2
  clear hsz
  go_wp2_with fail
  obtain ⟨w2, hw2⟩ : ∃ w2, (w1.alloc (.cells #[.int .i64 44, .int .i64 x.n, .string x.s, .string x.t, .pointer none, .slice none 0 0] 39)).alloc (.cells #[.int .i64 44, .int .i64 0, .string x.s, .string ⟨#[]⟩] 34) = w2 := ⟨_, rfl⟩
  rw [hw2] at B2 K2 N2 ⊢
  clear hw2
  refine (KN.out w2).mono ?_
  rintro e w3 ⟨rfl, b3⟩
  have B3 := bh B2 b3
  have K3 := Lib.hid (K2.keep b3)
  have N3 := Lib.hid (N2.keep b3)
  have X3 := Lib.hid (X1.out.keep B3.out)
  have R3 := Lib.hid (R1.out.keep B3.out)
  have G3 := Lib.hid (grown_trans G1.out (grown_of_below B3.out (some R)))
  clear b3 B2 K2 N2 X1 R1 G1 B3 KN hl HS1
  obtain ⟨k0, k1, k2, k3, k4, k5, -, -, -, -, -, -⟩ := K3.out
  obtain ⟨n0, n1, n2, n3, -, -, -, -⟩ := N3.out
  by_cases hf : nameFault x.s = 0
  · have HF := Lib.hid hf
    rw [hf, errV_zero]
    clear hf
    by_cases hn : x.n = 0
    · rcases emp_or x.t with ht | ⟨ht, t1, t2⟩
      · have HP := Lib.hid (show PP = some (.ent x.s, r) by rw [HPP.out, if_pos ⟨hn, HF.out, ht⟩])
        rw [hn, ht] at K3
        rw [hn] at k1
        rw [ht] at k3
        rw [hn, ht]
        clear hn ht HPP
        obtain ⟨c0, c1, c2, c3, c4, c5, z0, z1, z2, z3, z4, z5⟩ := X3.out
        go_wp2_with fail
        have Y := X3.out.set (.int .i64 44) (.int .i64 0) (.string x.s) (.string ⟨#[]⟩) (.pointer none) (.slice none 0 0)
        have gs := grown_set6 w3 w.heap.size (.int .i64 44) (.int .i64 0) (.string x.s) (.string ⟨#[]⟩) (.pointer none) (.slice none 0 0)
        have R4 := R3.out.but gs HRL.out
        have G4 := grown_new G3.out gs (Nat.le_refl _)
        obtain ⟨S, hS⟩ : ∃ S, ((((((w3.setCell ⟨w.heap.size, 0, none⟩ (.int .i64 44)).setCell ⟨w.heap.size, 1, none⟩ (.int .i64 0)).setCell ⟨w.heap.size, 2, none⟩ (.string x.s)).setCell ⟨w.heap.size, 3, none⟩ (.string ⟨#[]⟩)).setCell ⟨w.heap.size, 4, none⟩ (.pointer none)).setCell ⟨w.heap.size, 5, none⟩ (.slice none 0 0)) = S := ⟨_, rfl⟩
        rw [hS] at Y gs R4 G4 ⊢
        clear hS gs
        obtain ⟨j0, j1, j2, j3, j4, j5, -, -, -, -, -, -⟩ := Y
        refine bodyPost_ret (v := .agg #[.int .i64 44, .int .i64 0, .string x.s, .string ⟨#[]⟩, .pointer none, .slice none 0 0]) (by simp [results, Try.results28, go_sem, j0, j1, j2, j3, j4, j5]) rfl ?_
        rw [HP.out]
        exact ⟨[.int .i64 44, .int .i64 0, .string x.s, .string ⟨#[]⟩, .pointer none, .slice none 0 0], rfl, ⟨0, rfl⟩, R4, G4⟩
      · have HP := Lib.hid (show PP = none by rw [HPP.out, if_neg (fun h => ht h.2.2)])
        rw [hn] at k1
        rw [hn]
        clear hn ht HPP
        go_wp2_with fail
        exact ⟨rfl, by rw [HP.out]; exact ⟨rfl, G3.out⟩⟩
    · have HP := Lib.hid (show PP = none by rw [HPP.out, if_neg (fun h => hn h.1)])
      have e0 : (x.n == 0) = false := beq_eq_false_iff_ne.2 hn
      have e1 : (x.n != 0) = true := by rw [bne_iff_ne]; exact hn
      clear HPP hn
      go_wp2_with fail
      exact ⟨rfl, by rw [HP.out]; exact ⟨rfl, G3.out⟩⟩
  · have HP := Lib.hid (show PP = none by rw [HPP.out, if_neg (fun h => hf h.2.1)])
    rw [errV_ne hf]
    generalize nameFault x.s = ff at *
    clear hf HPP
    go_wp2_with fail
    exact ⟨rfl, by rw [HP.out]; exact ⟨rfl, G3.out⟩⟩

set_option maxHeartbeats 8000000 in
/-- No nodes are left. -/
theorem kind_nil (R m : Nat) (w : World) (h : RdK w R []) :
    Calls Try.prog 28 #[.pointer (some ⟨R, 0, none⟩)] w (KindPost w R (parseK m [])) := by
  have HPP := Lib.hid (show parseK m [] = none by cases m <;> rfl)
  have HR := Lib.hid (h.keep (below_box w (.cells #[.int .i64 0, .int .i64 0, .string ⟨#[]⟩, .string ⟨#[]⟩, .pointer none, .slice none 0 0] 39)))
  have G0 := Lib.hid (grown_of_below (below_box w (.cells #[.int .i64 0, .int .i64 0, .string ⟨#[]⟩, .string ⟨#[]⟩, .pointer none, .slice none 0 0] 39)) (some R))
  generalize parseK m [] = PP at *
  clear h
  go_enter Try.func28, Try.ntmps28
  go_wp2_with fail
  refine (kind_node R [] _ HR.out).mono ?_
  rintro e w1 ⟨rfl, g1⟩
  go_wp2_with fail
  exact ⟨rfl, by rw [HPP.out]; exact ⟨rfl, G0.out.trans g1⟩⟩
set_option maxHeartbeats 8000000 in
theorem kind_else (R m : Nat) (x : Nd) (r : List Nd) (w : World) (h : RdK w R (x :: r)) (hb : ¬ baseOp x.op) (h4 : x.op ≠ 44) (h5 : x.op ≠ 45) (h6 : x.op ≠ 46) :
    Calls Try.prog 28 #[.pointer (some ⟨R, 0, none⟩)] w (KindPost w R (parseK (m + 1) (x :: r))) := by
  have HR := Lib.hid h
  have HPP := Lib.hid (show parseK (m + 1) (x :: r) = none by simp only [parseK, if_neg hb, if_neg h4, if_neg h5, if_neg h6])
  generalize parseK (m + 1) (x :: r) = PP at *
  clear h
  go_enter Try.func28, Try.ntmps28
  go_wp2_with fail
  have G0 := Lib.hid (grown_of_below (below_box w (.cells #[.int .i64 0, .int .i64 0, .string ⟨#[]⟩, .string ⟨#[]⟩, .pointer none, .slice none 0 0] 39)) (some R))
  have X0 := Lib.hid (bx6_new w (.int .i64 0) (.int .i64 0) (.string ⟨#[]⟩) (.string ⟨#[]⟩) (.pointer none) (.slice none 0 0) 39)
  have R0 := Lib.hid (HR.out.keep (below_box w (.cells #[.int .i64 0, .int .i64 0, .string ⟨#[]⟩, .string ⟨#[]⟩, .pointer none, .slice none 0 0] 39)))
  have HRL := Lib.hid (show R < w.heap.size by obtain ⟨⟨_, _, _, h1, _⟩, _⟩ := HR.out; exact block_lt_of_cell h1)
  have HNE := Lib.hid (show some w.heap.size ≠ some R from fun e => by injection e with e; have := HRL.out; omega)
  obtain ⟨w0, hw0⟩ : ∃ w0, w.alloc (.cells #[.int .i64 0, .int .i64 0, .string ⟨#[]⟩, .string ⟨#[]⟩, .pointer none, .slice none 0 0] 39) = w0 := ⟨_, rfl⟩
  have HS0 := Lib.hid (show w.heap.size ≤ w0.heap.size by rw [← hw0]; simp)
  rw [hw0] at G0 X0 R0 ⊢
  clear hw0 HR
  refine (kind_node R (x :: r) w0 R0.out).mono ?_
  rintro e w1 ⟨rfl, r1, g1⟩
  have G1 := Lib.hid (G0.out.trans g1)
  have X1 := Lib.hid (X0.out.but g1 HNE.out)
  have R1 := Lib.hid r1
  have HS1 := Lib.hid (Nat.le_trans HS0.out g1.size)
  clear r1 g1 G0 X0 R0 HS0
  unfold ndV
  obtain ⟨o, ho⟩ : ∃ o, o = x.op := ⟨_, rfl⟩
  rw [← ho] at hb h4 h5 h6 ⊢
  clear ho
  have e1 : (o == 41) = false := beq_eq_false_iff_ne.2 fun e => hb (.inl e)
  have e2 : (o == 42) = false := beq_eq_false_iff_ne.2 fun e => hb (.inr (.inl e))
  have e3 : (o == 43) = false := beq_eq_false_iff_ne.2 fun e => hb (.inr (.inr (.inl e)))
  have e7 : (o == 48) = false := beq_eq_false_iff_ne.2 fun e => hb (.inr (.inr (.inr (.inl e))))
  have e8 : (o == 49) = false := beq_eq_false_iff_ne.2 fun e => hb (.inr (.inr (.inr (.inr e))))
  have e4 : (o == 44) = false := beq_eq_false_iff_ne.2 h4
  have e5 : (o == 45) = false := beq_eq_false_iff_ne.2 h5
  have e6 : (o == 46) = false := beq_eq_false_iff_ne.2 h6
  clear hb h4 h5 h6
  go_wp2_with fail
  exact ⟨rfl, by rw [HPP.out]; exact ⟨rfl, grown_trans (grown_trans G1.out (grown_of_below (below_box _ _) _)) (grown_of_below (below_box _ _) _)⟩⟩
end Go.Proofs.Ytocchkmhnneiiaa
