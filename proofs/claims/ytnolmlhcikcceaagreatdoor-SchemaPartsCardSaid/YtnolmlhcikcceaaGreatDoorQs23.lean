/-
  kinds' reader: a type of sets.
  The order of nodes once more: what was there is as it was, and draws are only added.
  DERIVED: THE SHELF's CONTRACTS AT THIS DUMP, IN PLAIN WORDS (tools/lay-plain.mjs out of 'TryzSortK.lean', which tools/lay-shelf.mjs wrote): THE SAME DECLARATIONS UNDER THE SAME NAMES: 'import', 'namespace', 'open', 'def', 'theorem' AND NOTHING ELSE: no command of the shelf's: FOR A HAND-IN. Each laying: the table of numbers ('.._ren') and one theorem, a field a fact of the dump's own or the kernel's comparison; each contract: ONE APPLICATION.
  Fields of types in a row of the call's own, and slices.SortFunc over them by their names.
  kinds' reader: a type of records.
-/
import Derived.Shelf.SlSortCmp.WholeK
import Derived.Shelf.SlSortCmp.NoneTotal
import Derived.Test.YtnolmlhcikcceaaGreatDoorProg
import Derived.Test.YtnolmlhcikcceaaGreatDoorQs22
namespace Go.Proofs.YtnolmlhcikcceaaGreatDoor
open Go.RowKit Go.Wk Go.Sort
set_option maxRecDepth 100000

theorem row0_new (w : World) (u : List Value) (t : TypeId) : Row0 (w.alloc (.cells u.toArray t)) ⟨w.heap.size, 0, none⟩ u := fun j x hx => by
  have := cell_new w u.toArray t j (v := x) (by simpa using hx)
  unfold Addr.add
  split
  · rename_i h; subst h; exact this
  · simpa using this
set_option maxHeartbeats 8000000 in
theorem kind_set (R m : Nat) (ih : KindC R m) (x : Nd) (r : List Nd) (hl : r.length ≤ m) (w : World) (h : RdK w R (x :: r)) (hb : x.op = 45) :
    Calls Tryz.prog 120 #[.pointer (some ⟨R, 0, none⟩)] w (KindPost w R (parseK (m + 1) (x :: r))) := by
  have HR := Lib.hid h
  have IH := Lib.hid (fun w' (h' : RdK w' R r) => ih r w' h' hl)
  clear ih
  have HPP := Lib.hid (show parseK (m + 1) (x :: r) = (match parseK m r with | none => none | some (p, r') => if x.n = 0 ∧ x.s = emp ∧ x.t = emp then some (.set p, r') else none) by simp only [parseK, if_neg (not_base (.inr (.inl hb))), if_neg (show ¬ x.op = 44 by omega), if_pos hb]; rfl)
  generalize parseK (m + 1) (x :: r) = PP at *
  clear h
  go_enter Tryz.func120, Tryz.ntmps120
  go_wp2_with fail
  have G0 := Lib.hid (grown_of_below (below_box w (.cells #[.int .i64 0, .int .i64 0, .string ⟨#[]⟩, .string ⟨#[]⟩, .pointer none, .slice none 0 0] 74)) (some R))
  have X0 := Lib.hid (bx6_new w (.int .i64 0) (.int .i64 0) (.string ⟨#[]⟩) (.string ⟨#[]⟩) (.pointer none) (.slice none 0 0) 74)
  have R0 := Lib.hid (HR.out.keep (below_box w (.cells #[.int .i64 0, .int .i64 0, .string ⟨#[]⟩, .string ⟨#[]⟩, .pointer none, .slice none 0 0] 74)))
  have HRL := Lib.hid (show R < w.heap.size by obtain ⟨⟨_, _, _, h1, _⟩, _⟩ := HR.out; exact block_lt_of_cell h1)
  have HNE := Lib.hid (show some w.heap.size ≠ some R from fun e => by injection e with e; have := HRL.out; omega)
  obtain ⟨w0, hw0⟩ : ∃ w0, w.alloc (.cells #[.int .i64 0, .int .i64 0, .string ⟨#[]⟩, .string ⟨#[]⟩, .pointer none, .slice none 0 0] 74) = w0 := ⟨_, rfl⟩
  have HS0 := Lib.hid (show w.heap.size ≤ w0.heap.size by rw [← hw0]; simp)
  rw [hw0] at G0 X0 R0 ⊢
  clear hw0 HR
  refine (kind_node R (x :: r) w0 R0.out).mono ?_
  rintro e w1 ⟨rfl, r1, g1⟩
  have G1 := Lib.hid (G0.out.trans g1)
  have X1 := Lib.hid (X0.out.but g1 HNE.out)
  have R1 := Lib.hid r1
  have HS1 := Lib.hid (Nat.le_trans HS0.out g1.size)
  clear r1 g1 G0 X0 R0 HS0
  unfold ndV
  have hl : w.heap.size < w1.heap.size := block_lt_of_cell X1.out.c0
  rw [hb]
  clear hb
  have B2 := Lib.hid ((below_box w1 (.cells #[.int .i64 45, .int .i64 x.n, .string x.s, .string x.t, .pointer none, .slice none 0 0] 74)).trans ((below_box _ (.cells #[.int .i64 45, .int .i64 0, .string ⟨#[]⟩, .string ⟨#[]⟩] 35)).mono (by simp)))
  have hsz : (w1.alloc (.cells #[.int .i64 45, .int .i64 x.n, .string x.s, .string x.t, .pointer none, .slice none 0 0] 74)).heap.size = w1.heap.size + 1 := by simp
  have K2 := (bx6_new w1 (.int .i64 45) (.int .i64 x.n) (.string x.s) (.string x.t) (.pointer none) (.slice none 0 0) 74).keep (below_box _ (.cells #[.int .i64 45, .int .i64 0, .string ⟨#[]⟩, .string ⟨#[]⟩] 35))
  have N2 := bx4_new (w1.alloc (.cells #[.int .i64 45, .int .i64 x.n, .string x.s, .string x.t, .pointer none, .slice none 0 0] 74)) (.int .i64 45) (.int .i64 0) (.string ⟨#[]⟩) (.string ⟨#[]⟩) 35
  rw [hsz] at N2
  clear hsz
  go_wp2_with fail
  obtain ⟨w2, hw2⟩ : ∃ w2, (w1.alloc (.cells #[.int .i64 45, .int .i64 x.n, .string x.s, .string x.t, .pointer none, .slice none 0 0] 74)).alloc (.cells #[.int .i64 45, .int .i64 0, .string ⟨#[]⟩, .string ⟨#[]⟩] 35) = w2 := ⟨_, rfl⟩
  rw [hw2] at B2 K2 N2 ⊢
  clear hw2
  have HR1 := Lib.hid (Nat.lt_of_lt_of_le HRL.out HS1.out)
  refine (IH.out w2 (R1.out.keep B2.out)).mono ?_
  intro e w3 hpost
  rcases hp : parseK m r with _ | ⟨q, r'⟩
  · rw [hp] at hpost
    obtain ⟨rfl, g3⟩ := hpost
    have HP := Lib.hid (show PP = none by rw [HPP.out, hp])
    clear HPP hp
    go_wp2_with fail
    exact ⟨rfl, by rw [HP.out]; exact ⟨rfl, grown_trans G1.out (grown_trans (grown_of_below B2.out (some R)) g3)⟩⟩
  · rw [hp] at hpost
    obtain ⟨v, rfl, hk, hr, g3⟩ := hpost
    obtain ⟨o, n, s0, t0, pp, A, m0, cc, rfl⟩ := kat_shape hk
    have K3 := Lib.hid (K2.but g3 (fun e => by injection e with e; have := HR1.out; omega))
    have N3 := Lib.hid (N2.but g3 (fun e => by injection e with e; have := HR1.out; omega))
    have X3 := Lib.hid ((X1.out.keep B2.out).but g3 HNE.out)
    have G3 := Lib.hid (grown_trans G1.out (grown_trans (grown_of_below B2.out (some R)) g3))
    have HK := Lib.hid (hk.mono (B' := fun b => w2.heap.size ≤ b ∧ b < w3.heap.size) fun b h1 h2 => ⟨h1, h2⟩)
    have HR3 := Lib.hid hr
    have HP := Lib.hid (show PP = if x.n = 0 ∧ x.s = emp ∧ x.t = emp then some (.set q, r') else none by rw [HPP.out, hp])
    have HS2 := Lib.hid (show w1.heap.size < w2.heap.size from block_lt_of_cell K2.c0)
    have HS3 := Lib.hid (show w2.heap.size ≤ w3.heap.size from g3.size)
    have hl3 : w1.heap.size < w3.heap.size := Nat.lt_of_lt_of_le HS2.out HS3.out
    have hl4 : w1.heap.size + 1 < w3.heap.size := block_lt_of_cell N3.out.c0
    have hl5 : w.heap.size < w3.heap.size := block_lt_of_cell X3.out.c0
    clear hk hr g3 HPP hp K2 N2 X1 R1 G1 IH
    obtain ⟨k0, k1, k2, k3, k4, k5, y0, y1, y2, y3, y4, y5⟩ := K3.out
    obtain ⟨n0, n1, n2, n3, -, -, -, -⟩ := N3.out
    by_cases hn : x.n = 0
    · rcases emp_or x.s with hs | ⟨hs, s1, s2⟩
      · rcases emp_or x.t with ht | ⟨ht, t1, t2⟩
        · have HQ := Lib.hid (show PP = some (.set q, r') by rw [HP.out, if_pos ⟨hn, hs, ht⟩])
          rw [hn, hs, ht] at K3
          rw [hn] at k1
          rw [hs] at k2
          rw [ht] at k3
          rw [hn, hs, ht]
          clear hn hs ht HP
          obtain ⟨c0, c1, c2, c3, c4, c5, z0, z1, z2, z3, z4, z5⟩ := X3.out
          go_wp2_with fail
          obtain ⟨w4, hw4⟩ : ∃ w4, w3.setCell ⟨w1.heap.size, 4, none⟩ (.pointer (some ⟨w3.heap.size, 0, none⟩)) = w4 := ⟨_, rfl⟩
          have g4 : w3.grownBy w4 (some w1.heap.size) := by rw [← hw4]; exact grown_setCell w3 ⟨w1.heap.size, 4, none⟩ _
          have e4 : w4.heap.size = w3.heap.size := by rw [← hw4]; simp [World.setCell]
          rw [hw4]
          have X4 := X3.out.but g4 (fun e => by injection e with e; omega)
          have Y := X4.set (.int .i64 45) (.int .i64 0) (.string ⟨#[]⟩) (.string ⟨#[]⟩) (.pointer (some ⟨w3.heap.size, 0, none⟩)) (.slice none 0 0)
          have gs := grown_set6 w4 w.heap.size (.int .i64 45) (.int .i64 0) (.string ⟨#[]⟩) (.string ⟨#[]⟩) (.pointer (some ⟨w3.heap.size, 0, none⟩)) (.slice none 0 0)
          have R5 := (HR3.out.but g4 HR1.out).but gs HRL.out
          have G5 := grown_new (grown_new G3.out g4 HS1.out) gs (Nat.le_refl _)
          have K5 := HK.out.cong (w' := ((((((w4.setCell ⟨w.heap.size, 0, none⟩ (.int .i64 45)).setCell ⟨w.heap.size, 1, none⟩ (.int .i64 0)).setCell ⟨w.heap.size, 2, none⟩ (.string ⟨#[]⟩)).setCell ⟨w.heap.size, 3, none⟩ (.string ⟨#[]⟩)).setCell ⟨w.heap.size, 4, none⟩ (.pointer (some ⟨w3.heap.size, 0, none⟩))).setCell ⟨w.heap.size, 5, none⟩ (.slice none 0 0))) fun b hb => by
            rw [heap_set6 w4 w.heap.size (.int .i64 45) (.int .i64 0) (.string ⟨#[]⟩) (.string ⟨#[]⟩) (.pointer (some ⟨w3.heap.size, 0, none⟩)) (.slice none 0 0) (by have := hb.1; have := HS2.out; omega), ← hw4, Below.heap_setCell _ _ _ b (show b ≠ w1.heap.size by have := hb.1; have := HS2.out; omega)]
          have E5 : (((((((w4.setCell ⟨w.heap.size, 0, none⟩ (.int .i64 45)).setCell ⟨w.heap.size, 1, none⟩ (.int .i64 0)).setCell ⟨w.heap.size, 2, none⟩ (.string ⟨#[]⟩)).setCell ⟨w.heap.size, 3, none⟩ (.string ⟨#[]⟩)).setCell ⟨w.heap.size, 4, none⟩ (.pointer (some ⟨w3.heap.size, 0, none⟩))).setCell ⟨w.heap.size, 5, none⟩ (.slice none 0 0))).heap.size = w3.heap.size := by simp [World.setCell, ← hw4]
          obtain ⟨S, hS⟩ : ∃ S, ((((((w4.setCell ⟨w.heap.size, 0, none⟩ (.int .i64 45)).setCell ⟨w.heap.size, 1, none⟩ (.int .i64 0)).setCell ⟨w.heap.size, 2, none⟩ (.string ⟨#[]⟩)).setCell ⟨w.heap.size, 3, none⟩ (.string ⟨#[]⟩)).setCell ⟨w.heap.size, 4, none⟩ (.pointer (some ⟨w3.heap.size, 0, none⟩))).setCell ⟨w.heap.size, 5, none⟩ (.slice none 0 0)) = S := ⟨_, rfl⟩
          rw [hS] at Y gs R5 G5 K5 E5 ⊢
          clear hS gs hw4 X4 g4
          have Y5 := Y.keep (below_box S (.cells #[.int .i64 o, .int .i64 n, .string s0, .string t0, .pointer pp, .slice A m0 cc] 74))
          obtain ⟨j0, j1, j2, j3, j4, j5, -, -, -, -, -, -⟩ := Y5
          refine bodyPost_ret (v := .agg #[.int .i64 45, .int .i64 0, .string ⟨#[]⟩, .string ⟨#[]⟩, .pointer (some ⟨w3.heap.size, 0, none⟩), .slice none 0 0]) (by simp [results, Tryz.results120, go_sem, j0, j1, j2, j3, j4, j5]) rfl ?_
          rw [HQ.out]
          have r0 := row0_new S [.int .i64 o, .int .i64 n, .string s0, .string t0, .pointer pp, .slice A m0 cc] 74
          rw [E5] at r0
          refine ⟨[.int .i64 45, .int .i64 0, .string ⟨#[]⟩, .string ⟨#[]⟩, .pointer (some ⟨w3.heap.size, 0, none⟩), .slice none 0 0], rfl, ⟨0, w3.heap.size, [.int .i64 o, .int .i64 n, .string s0, .string t0, .pointer pp, .slice A m0 cc], rfl, Nat.le_of_lt hl5, r0, ?_⟩, R5.keep (below_box _ _), grown_trans G5 (grown_of_below (below_box _ _) _)⟩
          refine (K5.cong fun b hb => (below_box S _).block b (by rw [E5]; exact hb.2)).mono fun b hb _ => ?_
          have := hb.1
          have := HS2.out
          have := HS1.out
          omega
        · have HQ := Lib.hid (show PP = none by rw [HP.out, if_neg (fun h => ht h.2.2)])
          rw [hn] at k1
          rw [hs] at k2
          rw [hn, hs]
          clear hn hs ht HP
          go_wp2_with fail
          exact ⟨rfl, by rw [HQ.out]; exact ⟨rfl, grown_trans (grown_new G3.out (grown_setCell w3 ⟨w1.heap.size, 4, none⟩ _) HS1.out) (grown_of_below (below_box _ _) _)⟩⟩
      · have HQ := Lib.hid (show PP = none by rw [HP.out, if_neg (fun h => hs h.2.1)])
        rw [hn] at k1
        rw [hn]
        clear hn hs HP
        go_wp2_with fail
        exact ⟨rfl, by rw [HQ.out]; exact ⟨rfl, grown_trans (grown_new G3.out (grown_setCell w3 ⟨w1.heap.size, 4, none⟩ _) HS1.out) (grown_of_below (below_box _ _) _)⟩⟩
    · have HQ := Lib.hid (show PP = none by rw [HP.out, if_neg (fun h => hn h.1)])
      have e0 : (x.n == 0) = false := beq_eq_false_iff_ne.2 hn
      have e1 : (x.n != 0) = true := by rw [bne_iff_ne]; exact hn
      clear hn HP
      go_wp2_with fail
      exact ⟨rfl, by rw [HQ.out]; exact ⟨rfl, grown_trans (grown_new G3.out (grown_setCell w3 ⟨w1.heap.size, 4, none⟩ _) HS1.out) (grown_of_below (below_box _ _) _)⟩⟩
end Go.Proofs.YtnolmlhcikcceaaGreatDoor
namespace Go.Proofs.YtnolmlhcikcceaaGreatDoor
open Go.RowKit Go.Wk Go.Sort
set_option maxRecDepth 100000

/-- What was there is as it was, and draws are only added. -/
structure BelowD (w w' : World) : Prop where
  b : Below w.heap.size w w'
  d : w.drawn ≤ w'.drawn
theorem BelowD.grow {w w' : World} (h : BelowD w w') : ∃ q os, w' = grow (w.drewN q) os := by
  obtain ⟨p, hp⟩ := regrown_of_below h.b
  have e : p.d = w'.drawn := by rw [hp]; rfl
  refine ⟨w'.drawn - w.drawn, p.os, ?_⟩
  have e2 : redrawn w p.d = w.drewN (w'.drawn - w.drawn) := by
    unfold redrawn World.drewN
    rw [e, show w.drawn + (w'.drawn - w.drawn) = w'.drawn by have := h.d; omega]
  rw [← e2]; exact hp

set_option maxHeartbeats 800000 in
theorem val_compareD (x y : Nd) (w : World) :
    Calls Tryz.prog 167 #[ndV x, ndV y] w fun e w' => e = .returned (.int .i64 (cmpNd x y)) ∧ BelowD w w' := by
  unfold ndV
  go_enter Tryz.func167, Tryz.ntmps167
  go_wp2
  refine still_tail 20 (by kernel_rfl) (by kernel_rfl) ?_
  simp only [List.take_succ_cons, List.take_zero, List.drop_succ_cons, List.drop_zero]
  iterate 4 still_step
  still_call (cmp_Compare_int _ _ _)
  iterate 4 still_step
  still_call (cmp_Compare_int _ _ _)
  iterate 4 still_step
  still_call (strings_Compare _ _ _)
  iterate 4 still_step
  still_call (strings_Compare _ _ _)
  refine wpStill_nil ?_
  go_wp2_with (go_at_call 179; refine (cmp_Or4 (cmpI x.op y.op) (cmpI x.n y.n) (cmpB x.s y.s) (cmpB x.t y.t) _ _ (by go_simp) (by go_simp) (by go_simp) (by go_simp)).mono ?_; rintro e w' ⟨rfl, rfl⟩)
  go_ret
  exact ⟨rfl, ((((Below.refl _ _).alloc (Nat.le_refl _) _).alloc (by simp) _).alloc (by simp; omega) _).drew, Nat.le_succ _⟩

set_option maxHeartbeats 1000000 in
theorem val_CompareFuncD (A B : Option Addr) (n m c d : Nat) (P Q : List Nd) (w : World) (hn : n = P.length) (hm : m = Q.length) (hln : n ≤ maxLen) (_hlm : m ≤ maxLen) (hP : NdsAt w A P) (hQ : NdsAt w B Q) :
    Calls Tryz.prog 166 #[.slice A n c, .slice B m d, .func (.func 167) #[] #[]] w fun e w' => e = .returned (.int .i64 (cmpNds P Q)) ∧ BelowD w w' := by
  unfold maxLen at hln _hlm
  have HP := Lib.hid hP
  have HQ := Lib.hid hQ
  have HN := Lib.hid hn
  have HM := Lib.hid hm
  clear hP hQ hn hm
  go_enter Tryz.func166, Tryz.ntmps166
  go_wp2
  go_loopw [7, 8, 9, 10, 13] (fun _ _ _ _ i wr => ∃ k : Nat, k ≤ n ∧ k ≤ m ∧ i = .int .i64 k ∧ Hid (cmpNds P Q = cmpNds (P.drop k) (Q.drop k)) ∧ Hid (w.drawn ≤ wr.drawn) ∧ Below w.heap.size w wr) (fun _ _ _ _ i _ => n - (intOf i).toNat)
  case atStart => exact ⟨0, Nat.zero_le _, Nat.zero_le _, rfl, rfl, Nat.le_refl _, Below.refl _ _⟩
  case round =>
    obtain ⟨k, hkn, hkm, rfl, hc, hdr, hbel⟩ := hrel
    obtain ⟨wo, rfl⟩ : ∃ wo : World, wo = wr := ⟨_, rfl⟩
    by_cases h1 : k < n
    · have h1' : k < P.length := by rw [← HN.out]; exact h1
      obtain ⟨a, rfl, a1, a2, a3, a4⟩ := (HP.out.keep hbel) k P[k] (List.getElem?_eq_getElem h1')
      by_cases h2 : k < m
      · have h2' : k < Q.length := by rw [← HM.out]; exact h2
        obtain ⟨b, rfl, b1, b2, b3, b4⟩ := (HQ.out.keep hbel) k Q[k] (List.getElem?_eq_getElem h2')
        have HA := Lib.hid (hc.out.trans (cmpNds_at h1' h2'))
        have g : ∀ (o : Obj) (x : Addr) (v : Value), wo.cell? x = some v → (wo.alloc o).cell? x = some v := fun o x v h => cell_keep ((Below.refl _ _).alloc (Nat.le_refl _) o) h
        replace b1 := fun o => g o _ _ b1
        replace b2 := fun o => g o _ _ b2
        replace b3 := fun o => g o _ _ b3
        replace b4 := fun o => g o _ _ b4
        clear hc g
        go_wp2_with fail
        refine (val_compareD P[k] Q[k] _).mono ?_
        rintro e w1 ⟨rfl, hb1, hd1⟩
        have hdw := Lib.hid (Nat.le_trans hdr.out hd1)
        clear hd1
        have hbw := Lib.hid ((hbel.alloc (by have := hbel.size; omega) _).alloc (by have := hbel.size; simp; omega) _ |>.trans (hb1.mono (by have := hbel.size; simp; omega)))
        clear hb1 b1 b2 b3 b4 a1 a2 a3 a4
        by_cases h0 : cmpNd P[k] Q[k] = 0
        · have HC := Lib.hid (HA.out.trans (by rw [h0]; rfl : _ = cmpNds (P.drop (k + 1)) (Q.drop (k + 1))))
          rw [h0]
          clear h0 HA
          go_wp2
          go_roundw
          case rel => exact ⟨k + 1, by omega, by omega, by go_num, HC, hdw, hbw.out⟩
          case measure => simp [intOf]; omega
        · have HC := Lib.hid (HA.out.trans (or2_ne h0 _))
          have h0' : (cmpNd P[k] Q[k] == 0) = false := beq_eq_false_iff_ne.2 h0
          clear HA
          go_wp2
          go_ret
          exact ⟨ret_i64 HC.out.symm, hbw.out, hdw.out⟩
      · have HA := Lib.hid (hc.out.trans (cmpNds_end2 h1' (by rw [← HM.out]; omega)))
        clear hc
        go_wp2
        go_ret
        exact ⟨ret_i64 HA.out.symm, hbel.alloc (by have := hbel.size; omega) _, hdr.out⟩
    · obtain rfl : k = n := by omega
      by_cases h2 : k < m
      · have HA := Lib.hid (hc.out.trans (cmpNds_end1 (by rw [← HN.out]; omega) (by rw [← HM.out]; exact h2)))
        clear hc
        go_wp2
        go_ret
        exact ⟨ret_i64 HA.out.symm, hbel, hdr.out⟩
      · have HA := Lib.hid (hc.out.trans (cmpNds_end0 (by rw [← HN.out]; omega) (by rw [← HM.out]; omega)))
        clear hc
        go_wp2
        go_ret
        exact ⟨ret_i64 HA.out.symm, hbel, hdr.out⟩

theorem val_orderD (A B : Option Addr) (n m c d : Nat) (P Q : List Nd) (w : World) (hn : n = P.length) (hm : m = Q.length) (hln : n ≤ maxLen) (hlm : m ≤ maxLen) (hP : NdsAt w A P) (hQ : NdsAt w B Q) :
    Calls Tryz.prog 147 #[.slice A n c, .slice B m d] w fun e w' => e = .returned (.int .i64 (cmpNds P Q)) ∧ BelowD w w' := by
  have H := val_CompareFuncD A B n m c d P Q w hn hm hln hlm hP hQ
  clear hn hm hP hQ
  go_enter Tryz.func147, Tryz.ntmps147
  go_wp2_with fail
  refine H.mono ?_
  rintro e w1 ⟨rfl, hb1⟩
  go_wp2
  go_ret
  exact ⟨rfl, hb1⟩
end Go.Proofs.YtnolmlhcikcceaaGreatDoor
namespace Go.Proofs
open Go.Shelf
def Tryz.sortK_ren : Go.Shelf.Ren := ⟨fun | 6 => 149 | 15 => 170 | 14 => 169 | 28 => 189 | 29 => 190 | 20 => 181 | 21 => 182 | 22 => 183 | 23 => 184 | 24 => 185 | 25 => 186 | 26 => 187 | 27 => 188 | 46 => 198 | 47 => 199 | 48 => 200 | 49 => 201 | 50 => 202 | 57 => 213 | n => n, fun | 22 => 72 | 24 => 124 | 25 => 239 | 3 => 3 | 39 => 255 | 0 => 0 | 53 => 209 | 55 => 291 | 4 => 4 | 46 => 284 | 45 => 283 | 50 => 80 | 5 => 5 | 9 => 9 | 66 => 307 | 70 => 311 | 76 => 323 | 77 => 324 | n => n, fun | n => n⟩
theorem Tryz.sortK : Go.Proofs.SlLaysF0.n6 Tryz.prog Tryz.sortK_ren := {
  mixed := by kernel_rfl
  f6 := ⟨Tryz.f149.name, by decide, Tryz.func149.trans (congrArg some (by kernel_rfl))⟩
  f14 := ⟨Tryz.f169.name, by decide, Tryz.func169.trans (congrArg some (by kernel_rfl))⟩
  f15 := Tryz.func170.trans (congrArg some (by kernel_rfl))
  f20 := ⟨Tryz.f181.name, by decide, Tryz.func181.trans (congrArg some (by kernel_rfl))⟩
  f21 := ⟨Tryz.f182.name, by decide, Tryz.func182.trans (congrArg some (by kernel_rfl))⟩
  f22 := ⟨Tryz.f183.name, by decide, Tryz.func183.trans (congrArg some (by kernel_rfl))⟩
  f23 := ⟨Tryz.f184.name, by decide, Tryz.func184.trans (congrArg some (by kernel_rfl))⟩
  f24 := ⟨Tryz.f185.name, by decide, Tryz.func185.trans (congrArg some (by kernel_rfl))⟩
  f25 := ⟨Tryz.f186.name, by decide, Tryz.func186.trans (congrArg some (by kernel_rfl))⟩
  f26 := ⟨Tryz.f187.name, by decide, Tryz.func187.trans (congrArg some (by kernel_rfl))⟩
  f27 := ⟨Tryz.f188.name, by decide, Tryz.func188.trans (congrArg some (by kernel_rfl))⟩
  f28 := Tryz.func189.trans (congrArg some (by kernel_rfl))
  f29 := Tryz.func190.trans (congrArg some (by kernel_rfl))
  f46 := ⟨Tryz.f198.name, by decide, Tryz.func198.trans (congrArg some (by kernel_rfl))⟩
  f47 := Tryz.func199.trans (congrArg some (by kernel_rfl))
  f48 := Tryz.func200.trans (congrArg some (by kernel_rfl))
  f49 := ⟨Tryz.f201.name, by decide, Tryz.func201.trans (congrArg some (by kernel_rfl))⟩
  f50 := ⟨Tryz.f202.name, by decide, Tryz.func202.trans (congrArg some (by kernel_rfl))⟩
  f57 := ⟨Tryz.f213.name, by decide, Tryz.func213.trans (congrArg some (by kernel_rfl))⟩
  t0 := Tryz.underlying0
  a0 := Tryz.isAgg0
  z0 := Tryz.sizeOf0
  v0 := Tryz.zeroValue0
  t3 := Tryz.underlying3
  a3 := Tryz.isAgg3
  z3 := Tryz.sizeOf3
  v3 := Tryz.zeroValue3
  t4 := Tryz.underlying4
  a4 := Tryz.isAgg4
  z4 := Tryz.sizeOf4
  v4 := Tryz.zeroValue4
  t5 := Tryz.underlying5
  a5 := Tryz.isAgg5
  z5 := Tryz.sizeOf5
  v5 := Tryz.zeroValue5
  t9 := Tryz.underlying9
  a9 := Tryz.isAgg9
  z9 := Tryz.sizeOf9
  v9 := Tryz.zeroValue9
  t22 := Tryz.underlying72
  a22 := Tryz.isAgg72
  z22 := Tryz.sizeOf72
  v22 := Tryz.zeroValue72
  t25 := Tryz.underlying239
  a25 := Tryz.isAgg239
  z25 := Tryz.sizeOf239
  v25 := Tryz.zeroValue239
  t39 := Tryz.underlying255
  a39 := Tryz.isAgg255
  z39 := Tryz.sizeOf255
  v39 := Tryz.zeroValue255
  t45 := Tryz.underlying283
  a45 := Tryz.isAgg283
  z45 := Tryz.sizeOf283
  v45 := Tryz.zeroValue283
  t46 := Tryz.underlying284
  a46 := Tryz.isAgg284
  z46 := Tryz.sizeOf284
  v46 := Tryz.zeroValue284
  t50 := Tryz.underlying80
  a50 := Tryz.isAgg80
  z50 := Tryz.sizeOf80
  v50 := Tryz.zeroValue80
  t53 := Tryz.underlying209
  a53 := Tryz.isAgg209
  z53 := Tryz.sizeOf209
  v53 := Tryz.zeroValue209
  t55 := Tryz.underlying291
  a55 := Tryz.isAgg291
  z55 := Tryz.sizeOf291
  v55 := Tryz.zeroValue291
  t66 := Tryz.underlying307
  a66 := Tryz.isAgg307
  z66 := Tryz.sizeOf307
  v66 := Tryz.zeroValue307
  t70 := Tryz.underlying311
  a70 := Tryz.isAgg311
  z70 := Tryz.sizeOf311
  v70 := Tryz.zeroValue311
  t76 := Tryz.underlying323
  a76 := Tryz.isAgg323
  z76 := Tryz.sizeOf323
  v76 := Tryz.zeroValue323
  t77 := Tryz.underlying324
  a77 := Tryz.isAgg324
  z77 := Tryz.sizeOf324
  v77 := Tryz.zeroValue324 }
end Go.Proofs
namespace Go.Proofs.YtnolmlhcikcceaaGreatDoor
open Go.RowKit Go.Wk Go.Sort Go.Shelf
set_option maxRecDepth 100000

instance : Inhabited Fe := ⟨⟨(⟨#[]⟩, false, .base 41), 0, 0, ⟨#[]⟩, ⟨#[]⟩, none, none, 0, 0⟩⟩
/-- A row of the call's own that holds fields; what their types lead to lies in blocks of D that are not the row's. -/
structure RowJ (w : World) (base : Nat) (D : Nat → Prop) (v : Value) (E : List Fe) : Prop where
  own : w.ownsRow base 124 8 v E.length (feCells E)
  ok : ∀ x ∈ E, KAt w (fun b => D b ∧ some b ≠ v.ownBlock) x.y.2.2 x.u
theorem RowJ.nil (w : World) (base : Nat) (D : Nat → Prop) : RowJ w base D (.slice none 0 0) [] := ⟨World.ownsRow_nil _ _ _ _, fun _ h => nomatch h⟩
theorem RowJ.keepN {w w' : World} {base : Nat} {D : Nat → Prop} {v : Value} {E : List Fe} (h : RowJ w base D v E) (hg : w.grownBy w' none) : RowJ w' base D v E := by
  refine ⟨h.own.kept hg ?_, fun x hx => ?_⟩
  · rcases hv : v.ownBlock with _ | k
    · exact .inl rfl
    · exact .inr (fun e => nomatch e)
  · have h1 := ((kat_mono (w := w) (B' := fun b => (D b ∧ some b ≠ v.ownBlock) ∧ b < w.heap.size) (fun b hb hl => ⟨hb, hl⟩) _).1 _ _ (Nat.le_refl _) (h.ok x hx))
    have h2 := h1.cong (w' := w') fun b hb => hg.block b hb.2 (fun e => nomatch e)
    exact h2.mono fun b hb _ => hb.1
theorem RowJ.keep {w w' : World} {base : Nat} {D : Nat → Prop} {v : Value} {E : List Fe} {R : Nat} (h : RowJ w base D v E) (hg : w.grownBy w' (some R)) (hR : R < base) (hD : ¬ D R) : RowJ w' base D v E := by
  refine ⟨h.own.kept hg ?_, fun x hx => ?_⟩
  · rcases hv : v.ownBlock with _ | k
    · exact .inl rfl
    · refine .inr fun e => ?_
      injection e with e
      have := (h.own.lt k hv).1
      omega
  · have h1 := ((kat_mono (w := w) (B' := fun b => (D b ∧ some b ≠ v.ownBlock) ∧ b < w.heap.size) (fun b hb hl => ⟨hb, hl⟩) _).1 _ _ (Nat.le_refl _) (h.ok x hx))
    have h2 := h1.cong (w' := w') fun b hb => hg.block b hb.2 (fun e => by injection e with e; subst e; exact hD hb.1.1)
    exact h2.mono fun b hb _ => hb.1
/-- What the row is as fields of a type. -/
theorem RowJ.fat {w : World} {base : Nat} {D : Nat → Prop} {v : Value} {E : List Fe} (h : RowJ w base D v E) (hD : ∀ b, base ≤ b → D b) : ∃ A c, v = .slice A E.length c ∧ FAt w D A 0 (ofL (E.map Fe.y)) ∧ E.length ≤ c ∧ c ≤ maxLen := by
  obtain ⟨h1, h2⟩ := h
  have h0 := h1
  rcases h1.2 with ⟨rfl, e0⟩ | ⟨g, cap, cur, rfl, hB, hh, hc, hm, hrest⟩
  · have : E = [] := List.eq_nil_of_length_eq_zero e0
    subst this
    exact ⟨none, 0, rfl, trivial, Nat.le_refl _, Nat.zero_le _⟩
  · refine ⟨some ⟨g, 0, none⟩, cap, rfl, ?_, hc, hm⟩
    exact fat_of_cells (B := D) (a := ⟨g, 0, none⟩) (hD g hB) [] E (by simpa using h0.cells (g := g) rfl) fun x hx => (h2 x hx).mono fun b hb _ => hb.1
/-- One more. -/
theorem RowJ.snoc {w w' : World} {base : Nat} {D : Nat → Prop} {v v' : Value} {E : List Fe} {x : Fe} (h : RowJ w base D v E) (hx : KAt w (fun b => D b ∧ some b ≠ v.ownBlock) x.y.2.2 x.u) (hown : w'.ownsRow base 124 8 v' (E.length + 1) (feCells E ++ x.eight)) (hg : w.grownBy w' v.ownBlock)
    (hb : v'.ownBlock = v.ownBlock ∨ v'.ownBlock = some w.heap.size) : RowJ w' base D v' (E ++ [x]) := by
  refine ⟨?_, fun z hz => ?_⟩
  · rw [feCells_append, List.length_append]; exact hown
  · have hz' : KAt w (fun b => D b ∧ some b ≠ v.ownBlock) z.y.2.2 z.u := by
      rcases List.mem_append.1 hz with hz | hz
      · exact h.ok z hz
      · simp only [List.mem_cons, List.not_mem_nil, or_false] at hz; subst hz; exact hx
    have h1 := (kat_mono (w := w) (B' := fun b => (D b ∧ some b ≠ v.ownBlock) ∧ b < w.heap.size) (fun b hb hl => ⟨hb, hl⟩) _).1 _ _ (Nat.le_refl _) hz'
    have h2 := h1.cong (w' := w') fun b hb => hg.block b hb.2 (fun e => hb.1.2 (by rw [← e]))
    refine h2.mono fun b hb _ => ⟨hb.1.1, ?_⟩
    rcases ‹v'.ownBlock = v.ownBlock ∨ v'.ownBlock = some w.heap.size› with e | e
    · rw [e]; exact hb.1.2
    · rw [e]; intro q; injection q with q; have := hb.2; omega
/-- append of one field to such a row. -/
theorem wpList_append_fj {ops : Array Oper} {rest : List Oper} {o : Oper} {a : Act} {w : World} {Q : Exit → Act → World → Prop} (hgd : o.guard = none) (s x : Operand)
    (ho : o.op = .call { callee := .builtin .append, args := #[s, x], argTypes := #[72, 72] })
    (base : Nat) (D : Nat → Prop) (v : Value) (E : List Fe) (hs : a.eval s = v) (hrow : RowJ w base D v E) (z : Fe) (ad : Addr) (m c : Nat) (hx : a.eval x = .slice (some ad) m c) (hm : m = 1)
    (hnews : ∀ j u, z.eight[j]? = some u → w.cell? (ad.add j) = some u) (hz : KAt w (fun b => D b ∧ some b ≠ v.ownBlock) z.y.2.2 z.u) (hl : E.length ≤ 1000000) (hbase : base ≤ w.heap.size)
    (h : ∀ v' w', RowJ w' base D v' (E ++ [z]) → w.grownBy w' v.ownBlock → wpList Tryz.prog ops Q rest (a.put o.dst v') w') : wpList Tryz.prog ops Q (o :: rest) a w := by
  subst hm
  have hi := fdInfo
  cases hq : Tryz.prog.info? 124 with
  | none => rw [hq] at hi; cases hi
  | some i0 =>
    rw [hq] at hi
    simp only [Option.map_some, Option.some.injEq, Prod.mk.injEq] at hi
    refine wpList_append_own_at w hgd s x _ ho base _ i0 _ 8 104 Tryz.underlying72 hq hi.1 hi.2.1 hi.2.2 (by decide) (by decide) v E.length (feCells E) hs hrow.own ad 1 c z.eight hx rfl hnews ?_ (by unfold maxLen; omega) (by omega) hbase ?_
    · intro u hu
      have := feCells_one [z] u (by simpa [feCells, Fe.eight, Fe.u] using hu)
      exact this
    · intro v' w' h1 h2 _ h4
      exact h v' w' (hrow.snoc hz h1 h2 h4) h2

theorem jsrt_heap {w : World} {g n : Nat} {os : Array Obj} {cur : Array Value} {e : TypeId} {fr : Nat × Nat} (d : Array Value) (hb : w.heap[g]? = some (.cells cur e fr)) :
    (grow (putRow id (Sort.ahead w n) g 0 d) os).heap[g]? = some (.cells (putCells id 0 d cur) e fr) := by
  have hg : g < w.heap.size := (Array.getElem?_eq_some_iff.1 hb).1
  rw [heap_grow_old _ _ (by simpa using hg)]
  simp [putRow, mapBlock, Sort.ahead, Array.getElem?_modify, hb, onCells]
theorem jsrt_grown {w : World} {g n : Nat} {os : Array Obj} (d : Array Value) : w.grownBy (grow (putRow id (Sort.ahead w n) g 0 d) os) (some g) := by
  refine ⟨rfl, rfl, rfl, by simp, fun k hk hne => ?_⟩
  rw [heap_grow_old _ _ (by simpa using hk)]
  have : g ≠ k := fun e => hne (by rw [e])
  simp [putRow, mapBlock, Sort.ahead, Array.getElem?_modify, this]
theorem jsrt_take (cur : Array Value) (ts : List Value) (h : ts.length ≤ cur.size) : (putCells id 0 ts.toArray cur).toList.take ts.length = ts := by
  apply List.ext_getElem?
  intro j
  by_cases hj : j < ts.length
  · rw [List.getElem?_take_of_lt hj, Array.getElem?_toList]
    simp [putCells, hj, show j < cur.size by omega]
  · rw [List.getElem?_take_eq_none (by omega), List.getElem?_eq_none (by omega)]
theorem jsrt_holds {w : World} {g : Nat} {cur : Array Value} {e : TypeId} {ts : List Value} (hb : w.heap[g]? = some (.cells cur e (0, 0))) (ht : cur.toList.take ts.length = ts) : Holds id w g 0 ts.toArray := by
  intro j hj
  have hj' : j < ts.length := by simpa using hj
  refine ⟨?_, by simp [World.frozen?, hb]⟩
  have h1 : (cur.toList.take ts.length)[j]? = ts[j]? := by rw [ht]
  rw [List.getElem?_take_of_lt hj'] at h1
  simp only [World.cell?, hb, Nat.zero_add]
  simp only [Option.isSome_none, Bool.false_eq_true, if_false]
  rw [← Array.getElem?_toList, h1]
  simp [hj']
theorem eight_len (x : Fe) : x.eight.length = 8 := rfl
theorem flat_fes (d : Array Fe) : flatK Fe.eight 8 d = (feCells d.toList).toArray := ext_get! (by simp) fun t ht => by
  have h : t < d.size * 8 := by simpa using ht
  rw [get_flatK _ _ _ _ h]
  have hk : t / 8 < d.size := by omega
  have hj : t % 8 < (d[t / 8]'hk).eight.length := by rw [eight_len]; omega
  have := feCells_at d.toList (t / 8) (d[t / 8]'hk) (by simp [hk]) (t % 8) _ (List.getElem?_eq_getElem hj)
  rw [show t / 8 * 8 + t % 8 = t by omega] at this
  rw [getElem!_pos d (t / 8) hk, getElem!_pos _ (t % 8) hj]
  simp [this]
/-- The order of fields. -/
def cfF (x y : Fe) : Int := cmpB x.y.1 y.y.1
theorem cfF_swo : SWO (ltOf cfF) where
  irrefl x := by unfold ltOf cfF; rw [cmpB_cmp.self]; rfl
  trans x y z h1 h2 := by
    unfold ltOf cfF at *
    simp only [decide_eq_true_eq] at *
    exact cmpB_cmp.lt_le h1 (by omega)
  ntrans x y z h1 h2 := by
    unfold ltOf cfF at *
    simp only [decide_eq_false_iff_not] at *
    have a1 := cmpB_cmp.anti x.y.1 y.y.1
    have a2 := cmpB_cmp.anti y.y.1 z.y.1
    have a3 := cmpB_cmp.anti x.y.1 z.y.1
    have := cmpB_cmp.trans z.y.1 y.y.1 x.y.1 (by omega) (by omega)
    omega
set_option maxHeartbeats 1000000 in
theorem join_cmp (x y : Fe) (w : World) :
    Calls Tryz.prog 150 #[.agg x.eight.toArray, .agg y.eight.toArray] w fun e w' => e = .returned (.int .i64 (cfF x y)) ∧ BelowD w w' := by
  obtain ⟨⟨n1, m1, k1⟩, o1, i1, s1, t1, p1, A1, l1, c1⟩ := x
  obtain ⟨⟨n2, m2, k2⟩, o2, i2, s2, t2, p2, A2, l2, c2⟩ := y
  change Calls Tryz.prog 150 #[.agg #[.string n1, .bool m1, .int .i64 o1, .int .i64 i1, .string s1, .string t1, .pointer p1, .slice A1 l1 c1], .agg #[.string n2, .bool m2, .int .i64 o2, .int .i64 i2, .string s2, .string t2, .pointer p2, .slice A2 l2 c2]] w fun e w' => e = .returned (.int .i64 (cmpB n1 n2)) ∧ BelowD w w'
  go_enter Tryz.func150, Tryz.ntmps150
  go_wp2_with fail
  refine (strings_Compare n1 n2 _).mono ?_
  rintro e w1 ⟨rfl, rfl⟩
  go_wp2_with fail
  go_ret
  exact ⟨rfl, (((Below.refl _ _).alloc (Nat.le_refl _) _).alloc (by simp) _), Nat.le_refl _⟩
theorem f_cmp (w : World) (g size : Nat) : CmpLays Tryz.prog 150 #[] Fe.eight 8 cfF g 0 size w := by
  intro m os dk _ x y
  exact (join_cmp x y _).mono fun e w' ⟨h1, h2⟩ => ⟨h1, h2.grow⟩
/-- What the sort of fields tells. -/
def SrtPost (w : World) (base : Nat) (D : Nat → Prop) (v : Value) (E : List Fe) (e : Ending) (w' : World) : Prop :=
  e = .returned (.tuple #[]) ∧ ∃ E' : List Fe, E'.Perm E ∧ (E'.Pairwise fun a b => cmpB a.y.1 b.y.1 ≤ 0) ∧ RowJ w' base D v E' ∧ w.grownBy w' v.ownBlock
theorem fsort_none (w : World) (p : Option Addr) (cap : Nat) (fv : Value) :
    Calls Tryz.prog 149 #[.slice p 0 cap, fv] w fun e w' => e = .returned (.tuple #[]) ∧ w' = w := by
  have hcon := AnyF.slices_SortFunc_none { Tryz.sortK with } p cap fv w
  change Calls Tryz.prog 149 _ _ _ at hcon
  exact hcon
theorem fes_sort (w : World) (base : Nat) (D : Nat → Prop) (v : Value) (E : List Fe) (h : RowJ w base D v E) (hs : E.length ≤ 1000000) :
    Calls Tryz.prog 149 #[v, .func (.func 150) #[] #[]] w (SrtPost w base D v E) := by
  rcases h.own.2 with ⟨rfl, h0⟩ | ⟨g, cap, cur, rfl, hBg, hh, h1, h2, h3, h4⟩
  · have : E = [] := List.eq_nil_of_length_eq_zero h0
    subst this
    exact (fsort_none w none 0 _).mono fun e w' ⟨h1, h2⟩ => ⟨h1, [], List.Perm.refl _, List.Pairwise.nil, by rw [h2]; exact h, by rw [h2]; exact World.grownBy.refl _ _⟩
  · have hH : HoldsK Fe.eight 8 w g 0 E.toArray := by
      unfold HoldsK
      rw [flat_fes]
      exact jsrt_holds hh (by rw [feCells_length]; exact h4)
    have eg : ∀ args w, (callFunc 150 args).run Tryz.prog w = .ok (.enter 150 args) w := enters_of Tryz.func150 (by kernel_rfl) rfl
    have hcon := AnyQ.slices_SortFunc Tryz.sortK 8 Tryz.isAgg124 Tryz.sizeOf124 Fe.eight (fun _ => rfl) (fun x v hv => feCells_one [x] v (by simpa [feCells, Fe.eight, Fe.u] using hv)) cfF cfF_swo 150 #[] g 0 cap E.toArray w eg (f_cmp w g _) hH (Array.getElem?_eq_some_iff.1 hh).1 (by simp; omega)
    change Calls Tryz.prog 149 _ _ _ at hcon
    have hsz : E.toArray.size = E.length := by simp
    rw [hsz] at hcon
    refine hcon.mono ?_
    rintro e w' ⟨he, d', n, os, ⟨hp1, -, hp2⟩, hso, rfl⟩
    have hlen : d'.size = E.length := by rw [hp1, hsz]
    have hperm : d'.toList.Perm E := by
      rw [← hlen] at hp2
      have e1 : E.toArray.extract 0 d'.size = E.toArray := by rw [hlen, ← hsz]; exact Array.extract_size
      rw [Array.extract_size, e1] at hp2
      exact hp2
    have hL : d'.toList.length = E.length := by simpa using hlen
    have hg : w.grownBy (sortWorldK Fe.eight 8 w g 0 n d' os) (some g) := by
      unfold sortWorldK putRowK
      exact jsrt_grown _
    refine ⟨he, d'.toList, hperm, ?_, ⟨?_, fun x hx => ?_⟩, hg⟩
    · rw [List.pairwise_iff_getElem]
      intro i j hi hj hij
      have hi' : i < d'.size := by simpa using hi
      have hj' : j < d'.size := by simpa using hj
      have := hso i j (Nat.zero_le _) hij (by omega)
      rw [getElem!_pos d' j hj', getElem!_pos d' i hi'] at this
      unfold ltOf cfF at this
      have this := of_decide_eq_false this
      have a := cmpB_cmp.anti d'[i].y.1 d'[j].y.1
      simp only [Array.getElem_toList]
      omega
    · unfold sortWorldK putRowK
      rw [flat_fes]
      refine ⟨by simp [hlen], .inr ⟨g, cap, _, by rw [hL], hBg, jsrt_heap _ hh, by rw [hL]; exact h1, h2, by simp [putCells, h3], ?_⟩⟩
      have := jsrt_take cur (feCells d'.toList) (by rw [feCells_length, hL, h3]; exact Nat.mul_le_mul_right _ h1)
      rw [feCells_length] at this
      exact this
    · have hx' := h.ok x (hperm.mem_iff.1 hx)
      have h1 := (kat_mono (w := w) (B' := fun b => (D b ∧ some b ≠ (Value.slice (some ⟨g, 0, none⟩) E.length cap).ownBlock) ∧ b < w.heap.size) (fun b hb hl => ⟨hb, hl⟩) _).1 _ _ (Nat.le_refl _) hx'
      have h2 := h1.cong (w' := sortWorldK Fe.eight 8 w g 0 n d' os) fun b hb => hg.block b hb.2 (fun e => hb.1.2 e)
      exact h2.mono fun b hb _ => hb.1
end Go.Proofs.YtnolmlhcikcceaaGreatDoor
namespace Go.Proofs.YtnolmlhcikcceaaGreatDoor
open Go.RowKit Go.Wk Go.Sort
set_option maxRecDepth 100000

theorem Bx6.set5 {w : World} {b : Nat} {x0 x1 x2 x3 x4 x5 : Value} (h : Bx6 w b x0 x1 x2 x3 x4 x5) (y : Value) : Bx6 (w.setCell ⟨b, 5, none⟩ y) b x0 x1 x2 x3 x4 y := by
  obtain ⟨c0, c1, c2, c3, c4, c5, z0, z1, z2, z3, z4, z5⟩ := h
  refine ⟨?_, ?_, ?_, ?_, ?_, ?_, ?_, ?_, ?_, ?_, ?_, ?_⟩
  all_goals go_simp
/-- What the loop over the fields keeps. -/
structure KLp (w wr : World) (R b1 : Nat) (x : Nd) (E : List Fe) (Q : List Nd) (v : Value) : Prop where
  K : Bx6 wr b1 (.int .i64 46) (.int .i64 x.n) (.string x.s) (.string x.t) (.pointer none) v
  F : RowF wr (b1 + 2) v E
  N : Bx4 wr (b1 + 1) (.int .i64 46) (.int .i64 x.n) (.string ⟨#[]⟩) (.string ⟨#[]⟩)
  X : Bx6 wr w.heap.size (.int .i64 0) (.int .i64 0) (.string ⟨#[]⟩) (.string ⟨#[]⟩) (.pointer none) (.slice none 0 0)
  D : RdK wr R Q
  G : w.grownBy wr (some R)
  z : b1 + 2 ≤ wr.heap.size
/-- What the nodes that are left have to do with all. -/
def LeftK (m c : Nat) (r : List Nd) (k : Nat) (last : ByteArray) (E : List Fe) (Q : List Nd) : Prop :=
  parseF m c emp r = (match parseF m (c - k) last Q with | none => none | some (f, r') => some (catF (E.map Fe.y) f, r')) ∧ E.length + Q.length ≤ r.length
set_option maxHeartbeats 8000000 in
theorem kind_rec (R m : Nat) (ih : KindC R m) (hm1 : m ≤ 1000) (x : Nd) (r : List Nd) (hl : r.length ≤ m) (w : World) (h : RdK w R (x :: r)) (hb : x.op = 46) :
    Calls Tryz.prog 120 #[.pointer (some ⟨R, 0, none⟩)] w (KindPost w R (parseK (m + 1) (x :: r))) := by
  have HR := Lib.hid h
  have HPP := Lib.hid (show parseK (m + 1) (x :: r) = (match parseF m x.n.toNat emp r with | none => none | some (p, r') => if 0 ≤ x.n ∧ x.s = emp ∧ x.t = emp then some (.fs p, r') else none) by simp only [parseK, if_neg (not_base (.inr (.inr hb))), if_neg (show ¬ x.op = 44 by omega), if_neg (show ¬ x.op = 45 by omega), if_pos hb]; rfl)
  generalize parseK (m + 1) (x :: r) = PP at *
  clear h
  go_enter Tryz.func120, Tryz.ntmps120
  go_wp2_with fail
  have G0 := Lib.hid (grown_of_below (below_box w (.cells #[.int .i64 0, .int .i64 0, .string ⟨#[]⟩, .string ⟨#[]⟩, .pointer none, .slice none 0 0] 74)) (some R))
  have X0 := Lib.hid (bx6_new w (.int .i64 0) (.int .i64 0) (.string ⟨#[]⟩) (.string ⟨#[]⟩) (.pointer none) (.slice none 0 0) 74)
  have R0 := Lib.hid (HR.out.keep (below_box w (.cells #[.int .i64 0, .int .i64 0, .string ⟨#[]⟩, .string ⟨#[]⟩, .pointer none, .slice none 0 0] 74)))
  have HRL := Lib.hid (show R < w.heap.size by obtain ⟨⟨_, _, _, h1, _⟩, _⟩ := HR.out; exact block_lt_of_cell h1)
  have HNE := Lib.hid (show some w.heap.size ≠ some R from fun e => by injection e with e; have := HRL.out; omega)
  obtain ⟨w0, hw0⟩ : ∃ w0, w.alloc (.cells #[.int .i64 0, .int .i64 0, .string ⟨#[]⟩, .string ⟨#[]⟩, .pointer none, .slice none 0 0] 74) = w0 := ⟨_, rfl⟩
  have HS0 := Lib.hid (show w.heap.size ≤ w0.heap.size by rw [← hw0]; simp)
  rw [hw0] at G0 X0 R0 ⊢
  clear hw0 HR
  refine (kind_node R (x :: r) w0 R0.out).mono ?_
  rintro e w1 ⟨rfl, r1, g1⟩
  have G1 := Lib.hid (G0.out.trans g1)
  have X1 := Lib.hid (X0.out.but g1 HNE.out)
  have R1 := Lib.hid r1
  have HYO := Lib.hid (show NdOk x by obtain ⟨⟨_, _, _, _, h2, _⟩, _⟩ := R0.out; exact h2.ok x (by simp))
  have hxn : x.n ≤ 9223372036854775807 := HYO.out.hi
  have HS1 := Lib.hid (Nat.le_trans HS0.out g1.size)
  clear r1 g1 G0 X0 R0 HS0
  unfold ndV
  have hl : w.heap.size < w1.heap.size := block_lt_of_cell X1.out.c0
  have HSL := Lib.hid (show LeftK m x.n.toNat r 0 ⟨#[]⟩ [] r from ⟨by
    show _ = (match parseF m x.n.toNat emp r with | none => none | some (f, r') => some (catF [] f, r'))
    rcases parseF m x.n.toNat emp r with _ | ⟨f, r'⟩
    · rfl
    · simp only [catF_nil], by simp⟩)
  rw [hb]
  clear hb
  have B2 := (below_box w1 (.cells #[.int .i64 46, .int .i64 x.n, .string x.s, .string x.t, .pointer none, .slice none 0 0] 74)).trans ((below_box _ (.cells #[.int .i64 46, .int .i64 x.n, .string ⟨#[]⟩, .string ⟨#[]⟩] 35)).mono (by simp))
  have hsz : (w1.alloc (.cells #[.int .i64 46, .int .i64 x.n, .string x.s, .string x.t, .pointer none, .slice none 0 0] 74)).heap.size = w1.heap.size + 1 := by simp
  have K2 := (bx6_new w1 (.int .i64 46) (.int .i64 x.n) (.string x.s) (.string x.t) (.pointer none) (.slice none 0 0) 74).keep (below_box _ (.cells #[.int .i64 46, .int .i64 x.n, .string ⟨#[]⟩, .string ⟨#[]⟩] 35))
  have N2 := bx4_new (w1.alloc (.cells #[.int .i64 46, .int .i64 x.n, .string x.s, .string x.t, .pointer none, .slice none 0 0] 74)) (.int .i64 46) (.int .i64 x.n) (.string ⟨#[]⟩) (.string ⟨#[]⟩) 35
  rw [hsz] at N2
  have hz2 : ((w1.alloc (.cells #[.int .i64 46, .int .i64 x.n, .string x.s, .string x.t, .pointer none, .slice none 0 0] 74)).alloc (.cells #[.int .i64 46, .int .i64 x.n, .string ⟨#[]⟩, .string ⟨#[]⟩] 35)).heap.size = w1.heap.size + 2 := by simp
  go_wp2_with fail
  obtain ⟨w2, hw2⟩ : ∃ w2, (w1.alloc (.cells #[.int .i64 46, .int .i64 x.n, .string x.s, .string x.t, .pointer none, .slice none 0 0] 74)).alloc (.cells #[.int .i64 46, .int .i64 x.n, .string ⟨#[]⟩, .string ⟨#[]⟩] 35) = w2 := ⟨_, rfl⟩
  rw [hw2] at B2 K2 N2 hz2 ⊢
  have LP := Lib.hid (show KLp w w2 R w1.heap.size x [] r (.slice none 0 0) from ⟨K2, RowF.nil _ _, N2, X1.out.keep B2, R1.out.keep B2, grown_trans G1.out (grown_of_below B2 (some R)), by omega⟩)
  clear hw2 hsz B2 K2 N2 X1 R1 G1 hz2
  obtain ⟨b1, hb1⟩ : ∃ b1, b1 = w1.heap.size := ⟨_, rfl⟩
  rw [← hb1] at hl LP ⊢
  clear hb1 HS1
  go_loopw [6, 53] (fun l i wr => ∃ (k : Nat) (last : ByteArray) (E : List Fe) (Q : List Nd) (v : Value), i = .int .i64 k ∧ l = .string last ∧ k ≤ x.n.toNat ∧ Hid (LeftK m x.n.toNat r k last E Q) ∧ Hid (KLp w wr R b1 x E Q v)) (fun _ i _ => x.n.toNat - (intOf i).toNat)
  case atStart => exact ⟨0, _, [], r, _, rfl, rfl, Nat.zero_le _, HSL, LP⟩
  case round =>
    clear HSL LP
    obtain ⟨k, last, E, Q, v, rfl, rfl, hk, hL, hP⟩ := hrel
    obtain ⟨k0, k1, k2, k3, k4, k5, y0, y1, y2, y3, y4, y5⟩ := hP.out.K
    obtain ⟨n0, n1, n2, n3, -, -, -, -⟩ := hP.out.N
    obtain ⟨c0, c1, c2, c3, c4, c5, z0, z1, z2, z3, z4, z5⟩ := hP.out.X
    have HO := Lib.hid (fun g (hg : v.ownBlock = some g) => hP.out.F.own.lt g hg)
    have HRb := Lib.hid (show R < b1 from Nat.lt_trans HRL.out hl)
    by_cases hlt : k < x.n.toNat
    · have hlt2 : decide ((k : Int) < x.n) = true := decide_eq_true (by omega)
      have hlen := hL.out.2
      go_wp2_with fail
      refine (kind_field R m ih last Q wr hP.out.D (by omega)).mono ?_
      intro e w4 hpost
      have hst := parseF_step (m := m) (c := x.n.toNat - k - 1) (x := last) (Q := Q) (by omega)
      rw [show x.n.toNat - k - 1 + 1 = x.n.toNat - k by omega] at hst
      have HST := Lib.hid hst
      clear hst
      rcases h1 : parse1 m last Q with _ | ⟨s, b, kk, r'⟩
      · rw [h1] at hpost
        obtain ⟨rfl, g4⟩ := hpost
        have HP := Lib.hid (show PP = none by rw [HPP.out, hL.out.1, HST.out, h1])
        go_wp2_with fail
        exact ⟨rfl, by rw [HP.out]; exact ⟨rfl, grown_trans hP.out.G g4⟩⟩
      · rw [h1] at hpost
        obtain ⟨u, rfl, hkat, hrd, g4⟩ := hpost
        obtain ⟨o, n, s0, t0, pp, A, m0, cc, rfl⟩ := kat_shape hkat
        have HL2 := Lib.hid (show LeftK m x.n.toNat r (k + 1) s (E ++ [⟨(s, b, kk), o, n, s0, t0, pp, A, m0, cc⟩]) r' from ⟨by
          rw [hL.out.1, HST.out, h1, List.map_append]
          simp only [List.map_cons, List.map_nil]
          rw [show x.n.toNat - (k + 1) = x.n.toNat - k - 1 by omega]
          rcases parseF m (x.n.toNat - k - 1) s r' with _ | ⟨f, r''⟩
          · rfl
          · simp only [catF_snoc], by have := parse1_shorter h1; rw [List.length_append]; simp only [List.length_cons, List.length_nil]; omega⟩)
        clear HST hL h1 k0 k1 k2 k3 k4 k5 y0 y1 y2 y3 y4 y5 n0 n1 n2 n3 c0 c1 c2 c3 c4 c5 z0 z1 z2 z3 z4 z5
        have hz4 : b1 + 2 ≤ w4.heap.size := Nat.le_trans hP.out.z g4.size
        have hsr := g4.size
        have hzr := hP.out.z
        have K4 := hP.out.K.but g4 (fun e => by injection e with e; have := HRb.out; omega)
        have N4 := hP.out.N.but g4 (fun e => by injection e with e; have := HRb.out; omega)
        have X4 := hP.out.X.but g4 HNE.out
        have F4 := hP.out.F.keep g4 (by have := HRb.out; omega)
        have G4 := grown_trans hP.out.G g4
        have hk4 := hkat.mono (B' := fun g => wr.heap.size ≤ g ∧ g < w4.heap.size) fun b h1 h2 => ⟨h1, h2⟩
        have Ba := below_box w4 (.cells #[.string s, .bool b, .int .i64 o, .int .i64 n, .string s0, .string t0, .pointer pp, .slice A m0 cc] 124)
        have Bb := below_box (w4.alloc (.cells #[.string s, .bool b, .int .i64 o, .int .i64 n, .string s0, .string t0, .pointer pp, .slice A m0 cc] 124)) (.cells #[.string s, .bool b, .int .i64 o, .int .i64 n, .string s0, .string t0, .pointer pp, .slice A m0 cc] 124)
        have Bab := Ba.trans (Bb.mono (by simp))
        have hsa : (w4.alloc (.cells #[.string s, .bool b, .int .i64 o, .int .i64 n, .string s0, .string t0, .pointer pp, .slice A m0 cc] 124)).heap.size = w4.heap.size + 1 := by simp
        have hsb : ((w4.alloc (.cells #[.string s, .bool b, .int .i64 o, .int .i64 n, .string s0, .string t0, .pointer pp, .slice A m0 cc] 124)).alloc (.cells #[.string s, .bool b, .int .i64 o, .int .i64 n, .string s0, .string t0, .pointer pp, .slice A m0 cc] 124)).heap.size = w4.heap.size + 2 := by simp
        have rn := row0_new (w4.alloc (.cells #[.string s, .bool b, .int .i64 o, .int .i64 n, .string s0, .string t0, .pointer pp, .slice A m0 cc] 124)) [.string s, .bool b, .int .i64 o, .int .i64 n, .string s0, .string t0, .pointer pp, .slice A m0 cc] 124
        rw [hsa] at rn
        have K5 := Lib.hid (K4.keep Bab)
        have N5 := Lib.hid (N4.keep Bab)
        have X5 := Lib.hid (X4.keep Bab)
        have D5 := Lib.hid (hrd.keep Bab)
        have F5 := Lib.hid (F4.keepN (grown_of_below Bab none))
        have G5 := Lib.hid (grown_trans G4 (grown_of_below Bab (some R)))
        have RN := Lib.hid rn
        have HSB := Lib.hid hsb
        have KK := Lib.hid (show KAt ((w4.alloc (.cells #[.string s, .bool b, .int .i64 o, .int .i64 n, .string s0, .string t0, .pointer pp, .slice A m0 cc] 124)).alloc (.cells #[.string s, .bool b, .int .i64 o, .int .i64 n, .string s0, .string t0, .pointer pp, .slice A m0 cc] 124)) (fun g => b1 + 2 ≤ g ∧ some g ≠ v.ownBlock) kk [.int .i64 o, .int .i64 n, .string s0, .string t0, .pointer pp, .slice A m0 cc] from
          (hk4.cong fun g hg => Bab.block g hg.2).mono fun g hg _ => ⟨by have := hg.1; omega, fun e => by have := (HO.out g e.symm).2; have := hg.1; omega⟩)
        have HE := Lib.hid (show E.length ≤ 1000000 by omega)
        have hz5 : b1 < w4.heap.size := by omega
        clear N4 X4 F4 G4 hk4 Ba Bb Bab hsa hsb rn hkat hrd g4 hP hz4 hsr hlen
        obtain ⟨k0, k1, k2, k3, k4, k5, y0, y1, y2, y3, y4, y5⟩ := K4
        go_wp2_with (at_builtin; refine wpList_append_fe rfl _ _ rfl (b1 + 2) v E rfl F5.out ⟨(s, b, kk), o, n, s0, t0, pp, A, m0, cc⟩ ⟨w4.heap.size + 1, 0, none⟩ 1 1 rfl rfl RN.out KK.out HE.out ?c1 ?_)
        case c1 => rw [HSB.out]; omega
        intro v' w6 hrow hg
        have hgo : ∀ g, v.ownBlock = some g → b1 + 2 ≤ g := fun g hg => (HO.out g hg).1
        have K6 := Lib.hid (K5.out.but hg (fun e => by have := hgo _ e.symm; omega))
        have N6 := Lib.hid (N5.out.but hg (fun e => by have := hgo _ e.symm; omega))
        have X6 := Lib.hid (X5.out.but hg (fun e => by have := hgo _ e.symm; omega))
        have D6 := Lib.hid (show RdK w6 R r' from by
          rcases hv : v.ownBlock with _ | g
          · rw [hv] at hg
            exact D5.out.but (b := w6.heap.size + b1) ⟨hg.os, hg.tape, hg.output, hg.size, fun i hi _ => hg.block i hi (fun e => nomatch e)⟩ (by have := HRb.out; omega)
          · rw [hv] at hg
            exact D5.out.but hg (by have := hgo g hv; have := HRb.out; omega))
        have G6 := Lib.hid (show w.grownBy w6 (some R) from by
          rcases hv : v.ownBlock with _ | g
          · rw [hv] at hg
            exact grown_trans G5.out ⟨hg.os, hg.tape, hg.output, hg.size, fun i hi _ => hg.block i hi (fun e => nomatch e)⟩
          · rw [hv] at hg
            exact grown_new G5.out hg (by have := hgo g hv; omega))
        have F6 := Lib.hid hrow
        have HZ6 := Lib.hid (show b1 + 2 ≤ w6.heap.size by have := hg.size; rw [HSB.out] at this; omega)
        clear K5 N5 X5 D5 F5 G5 hg hrow k0 k1 k2 k3 k4 k5 y0 y1 y2 y3 y4 y5
        obtain ⟨k0, k1, k2, k3, k4, k5, y0, y1, y2, y3, y4, y5⟩ := K6.out
        obtain ⟨A', cp', hv', -, -, -⟩ := F6.out.fat
        obtain ⟨nl, hnl⟩ : ∃ nl, nl = (E ++ [(⟨(s, b, kk), o, n, s0, t0, pp, A, m0, cc⟩ : Fe)]).length := ⟨_, rfl⟩
        rw [← hnl] at hv'
        subst hv'
        clear hnl hgo
        go_wp2_with fail
        go_roundw
        case rel =>
          have gs : w6.grownBy (w6.setCell ⟨b1, 5, none⟩ (.slice A' nl cp')) (some b1) := grown_setCell w6 ⟨b1, 5, none⟩ (.slice A' nl cp')
          exact ⟨k + 1, s, E ++ [⟨(s, b, kk), o, n, s0, t0, pp, A, m0, cc⟩], r', _, by go_num, rfl, by omega, HL2, Lib.hid ⟨K6.out.set5 _, F6.out.keep gs (by omega), N6.out.but gs (fun e => by injection e with e; omega), X6.out.but gs (fun e => by injection e with e; omega), D6.out.but gs HRb.out, grown_new G6.out gs (by omega), by simpa [World.setCell] using HZ6.out⟩⟩
        case measure => simp [intOf]; omega
    · have hlt2 : decide ((k : Int) < x.n) = false := decide_eq_false (by omega)
      have hkc : x.n.toNat - k = 0 := by omega
      have HPQ := Lib.hid (show PP = if 0 ≤ x.n ∧ x.s = emp ∧ x.t = emp then some (.fs (ofL (E.map Fe.y)), Q) else none by
        rw [HPP.out, hL.out.1, hkc, ← catF_end]
        cases m <;> rfl)
      obtain ⟨A, cp, hv, hfat, hle, hcm⟩ := hP.out.F.fat
      have HFA := Lib.hid hfat
      have HLE := Lib.hid hle
      have HCM := Lib.hid hcm
      obtain ⟨nl, hnl⟩ : ∃ nl, nl = E.length := ⟨_, rfl⟩
      have HNL := Lib.hid hnl
      rw [← hnl] at hv
      subst hv
      have X3 := Lib.hid hP.out.X
      have G3 := Lib.hid hP.out.G
      have D3 := Lib.hid hP.out.D
      have HZ := Lib.hid hP.out.z
      clear hnl hfat hle hcm hkc HPP hL hP ih HO
      rcases emp_or x.s with hs | ⟨hs, s1, s2⟩
      · rcases emp_or x.t with ht | ⟨ht, t1, t2⟩
        · by_cases hn : 0 ≤ x.n
          · have HP := Lib.hid (show PP = some (.fs (ofL (E.map Fe.y)), Q) by rw [HPQ.out, if_pos ⟨hn, hs, ht⟩])
            have hn2 : decide (x.n < 0) = false := decide_eq_false (by omega)
            rw [hs] at k2
            rw [ht] at k3
            clear hs ht HPQ
            go_wp2_with fail
            have Y := X3.out.set (.int .i64 46) (.int .i64 x.n) (.string ⟨#[]⟩) (.string ⟨#[]⟩) (.pointer none) (.slice A nl cp)
            have gs := grown_set6 wr w.heap.size (.int .i64 46) (.int .i64 x.n) (.string ⟨#[]⟩) (.string ⟨#[]⟩) (.pointer none) (.slice A nl cp)
            have R4 := D3.out.but gs HRL.out
            have G4 := grown_new G3.out gs (Nat.le_refl _)
            have K4 := HFA.out.cong (w' := ((((((wr.setCell ⟨w.heap.size, 0, none⟩ (.int .i64 46)).setCell ⟨w.heap.size, 1, none⟩ (.int .i64 x.n)).setCell ⟨w.heap.size, 2, none⟩ (.string ⟨#[]⟩)).setCell ⟨w.heap.size, 3, none⟩ (.string ⟨#[]⟩)).setCell ⟨w.heap.size, 4, none⟩ (.pointer none)).setCell ⟨w.heap.size, 5, none⟩ (.slice A nl cp))) fun b hb => heap_set6 wr w.heap.size (.int .i64 46) (.int .i64 x.n) (.string ⟨#[]⟩) (.string ⟨#[]⟩) (.pointer none) (.slice A nl cp) (by omega)
            obtain ⟨S, hS⟩ : ∃ S, ((((((wr.setCell ⟨w.heap.size, 0, none⟩ (.int .i64 46)).setCell ⟨w.heap.size, 1, none⟩ (.int .i64 x.n)).setCell ⟨w.heap.size, 2, none⟩ (.string ⟨#[]⟩)).setCell ⟨w.heap.size, 3, none⟩ (.string ⟨#[]⟩)).setCell ⟨w.heap.size, 4, none⟩ (.pointer none)).setCell ⟨w.heap.size, 5, none⟩ (.slice A nl cp)) = S := ⟨_, rfl⟩
            rw [hS] at Y gs R4 G4 K4 ⊢
            clear hS gs
            obtain ⟨j0, j1, j2, j3, j4, j5, -, -, -, -, -, -⟩ := Y
            refine bodyPost_ret (v := .agg #[.int .i64 46, .int .i64 x.n, .string ⟨#[]⟩, .string ⟨#[]⟩, .pointer none, .slice A nl cp]) (by simp [results, Tryz.results120, go_sem, j0, j1, j2, j3, j4, j5]) rfl ?_
            rw [HP.out]
            have hlen : (ofL (E.map Fe.y)).len = nl := by rw [ofL_len, List.length_map, HNL.out]
            refine ⟨[.int .i64 46, .int .i64 x.n, .string ⟨#[]⟩, .string ⟨#[]⟩, .pointer none, .slice A nl cp], rfl, ⟨x.n, A, cp, by rw [hlen]; rfl, by rw [hlen, HNL.out]; exact HLE.out, HCM.out, ?_⟩, R4, G4⟩
            exact K4.mono fun b hb _ => by omega
          · have HP := Lib.hid (show PP = none by rw [HPQ.out, if_neg (fun h => hn h.1)])
            have hn2 : decide (x.n < 0) = true := decide_eq_true (by omega)
            rw [hs] at k2
            rw [ht] at k3
            clear hs ht HPQ hn
            go_wp2_with fail
            exact ⟨rfl, by rw [HP.out]; exact ⟨rfl, G3.out⟩⟩
        · have HP := Lib.hid (show PP = none by rw [HPQ.out, if_neg (fun h => ht h.2.2)])
          rw [hs] at k2
          clear hs ht HPQ
          go_wp2_with fail
          exact ⟨rfl, by rw [HP.out]; exact ⟨rfl, G3.out⟩⟩
      · have HP := Lib.hid (show PP = none by rw [HPQ.out, if_neg (fun h => hs h.2.1)])
        clear hs HPQ
        go_wp2_with fail
        exact ⟨rfl, by rw [HP.out]; exact ⟨rfl, G3.out⟩⟩
end Go.Proofs.YtnolmlhcikcceaaGreatDoor
