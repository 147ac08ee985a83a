/-
  kinds' reader: a field.
-/
import Derived.Test.YtocchkmhnneiiaaKindAt
import Derived.Test.YtocchkmhnneiiaaThrow
import Derived.Test.YtocchkmhnneiiaaKindBx
import Derived.Test.YtocchkmhnneiiaaKindPos
import Derived.Test.YtocchkmhnneiiaaPartRec
namespace Go.Proofs.Ytocchkmhnneiiaa
open Go.RowKit Go.Wk Go.Sort
set_option maxRecDepth 100000

/-- What kind tells. -/
def KindPost (w : World) (R : Nat) : Option (Kd × List Nd) → Ending → World → Prop
  | none, e, w' => e = .panicked kwrong ∧ w.grownBy w' (some R)
  | some (k, r), e, w' => ∃ v : List Value, e = .returned (.agg v.toArray) ∧ KAt w' (fun b => w.heap.size ≤ b) k v ∧ RdK w' R r ∧ w.grownBy w' (some R)
/-- The contract of kind, with so much fuel. -/
def KindC (R m : Nat) : Prop := ∀ (Q : List Nd) (w : World), RdK w R Q → Q.length ≤ m → Calls Try.prog 28 #[.pointer (some ⟨R, 0, none⟩)] w (KindPost w R (parseK m Q))
/-- What field tells. -/
def FldPost (w : World) (R : Nat) : Option (ByteArray × Bool × Kd × List Nd) → Ending → World → Prop
  | none, e, w' => e = .panicked kwrong ∧ w.grownBy w' (some R)
  | some (s, b, k, r), e, w' => ∃ u : List Value, e = .returned (.agg (.string s :: .bool b :: u).toArray) ∧ KAt w' (fun b => w.heap.size ≤ b) k u ∧ RdK w' R r ∧ w.grownBy w' (some R)
theorem RdK.but {w w' : World} {R b : Nat} {Q : List Nd} (h : RdK w R Q) (hg : w.grownBy w' (some b)) (hb : R < b) : RdK w' R Q := by
  obtain ⟨⟨A, n, c, h1, h2, h3⟩, h4⟩ := h
  have hne : some R ≠ some b := fun e => by injection e with e; omega
  refine ⟨⟨A, n, c, hg.cell h1 hne, h2.but hg (fun h0 a e => Nat.ne_of_lt (Nat.lt_trans (h3 h0 a e) hb)), h3⟩, ?_⟩
  exact (World.frozen?_of_block (a := ⟨R, 0, none⟩) (hg.block R (block_lt_of_cell h1) hne)).trans h4
theorem grown_set8 (w : World) (b : Nat) (y0 y1 y2 y3 y4 y5 y6 y7 : Value) : w.grownBy ((((((((w.setCell ⟨b, 0, none⟩ y0).setCell ⟨b, 1, none⟩ y1).setCell ⟨b, 2, none⟩ y2).setCell ⟨b, 3, none⟩ y3).setCell ⟨b, 4, none⟩ y4).setCell ⟨b, 5, none⟩ y5).setCell ⟨b, 6, none⟩ y6).setCell ⟨b, 7, none⟩ y7) (some b) :=
  grown_trans (grown_trans (grown_trans (grown_trans (grown_trans (grown_trans (grown_trans (grown_trans (grown_refl w (some b)) (grown_setCell _ ⟨b, 0, none⟩ _)) (grown_setCell _ ⟨b, 1, none⟩ _)) (grown_setCell _ ⟨b, 2, none⟩ _)) (grown_setCell _ ⟨b, 3, none⟩ _)) (grown_setCell _ ⟨b, 4, none⟩ _)) (grown_setCell _ ⟨b, 5, none⟩ _)) (grown_setCell _ ⟨b, 6, none⟩ _)) (grown_setCell _ ⟨b, 7, none⟩ _)
theorem heap_set8 (w : World) (b : Nat) (y0 y1 y2 y3 y4 y5 y6 y7 : Value) {g : Nat} (h : g ≠ b) : ((((((((w.setCell ⟨b, 0, none⟩ y0).setCell ⟨b, 1, none⟩ y1).setCell ⟨b, 2, none⟩ y2).setCell ⟨b, 3, none⟩ y3).setCell ⟨b, 4, none⟩ y4).setCell ⟨b, 5, none⟩ y5).setCell ⟨b, 6, none⟩ y6).setCell ⟨b, 7, none⟩ y7).heap[g]? = w.heap[g]? := by
  iterate 8 rw [Below.heap_setCell _ _ _ g h]
theorem grown_new {w w4 W : World} {R b : Nat} (h : w.grownBy w4 (some R)) (k : w4.grownBy W (some b)) (hb : w.heap.size ≤ b) : w.grownBy W (some R) :=
  ⟨k.os.trans h.os, k.tape.trans h.tape, k.output.trans h.output, Nat.le_trans h.size k.size, fun i hi hn => (k.block i (Nat.lt_of_lt_of_le hi h.size) (fun e => by injection e with e; omega)).trans (h.block i hi hn)⟩
theorem toList_emp : emp.toList = [] := by rw [ByteArray.toList_eq]; rfl
theorem kat_shape {w : World} {B : Nat → Prop} {k : Kd} {v : List Value} (h : KAt w B k v) : ∃ (o n : Int) (s t : ByteArray) (p : Option Addr) (A : Option Addr) (m c : Nat), v = [.int .i64 o, .int .i64 n, .string s, .string t, .pointer p, .slice A m c] := by
  cases k with
  | base x => obtain ⟨_, rfl⟩ := h; exact ⟨_, _, _, _, _, _, _, _, rfl⟩
  | ent s => obtain ⟨_, rfl⟩ := h; exact ⟨_, _, _, _, _, _, _, _, rfl⟩
  | set q => obtain ⟨_, _, _, rfl, _⟩ := h; exact ⟨_, _, _, _, _, _, _, _, rfl⟩
  | fs f => obtain ⟨_, _, _, rfl, _⟩ := h; exact ⟨_, _, _, _, _, _, _, _, rfl⟩
set_option maxHeartbeats 4000000 in
theorem kind_field (R m : Nat) (ih : KindC R m) (x : ByteArray) (Q : List Nd) (w : World) (h : RdK w R Q) (hl : Q.length ≤ m + 1) :
    Calls Try.prog 39 #[.pointer (some ⟨R, 0, none⟩), .string x] w (FldPost w R (parse1 m x Q)) := by
  have HR := Lib.hid h
  have IH := Lib.hid ih
  clear h ih
  go_enter Try.func39, Try.ntmps39
  go_wp2_with fail
  have G0 := Lib.hid (grown_of_below (below_box w (.cells #[.string ⟨#[]⟩, .bool false, .int .i64 0, .int .i64 0, .string ⟨#[]⟩, .string ⟨#[]⟩, .pointer none, .slice none 0 0] 51)) (some R))
  have X0 := Lib.hid (bx8_new w (.string ⟨#[]⟩) (.bool false) (.int .i64 0) (.int .i64 0) (.string ⟨#[]⟩) (.string ⟨#[]⟩) (.pointer none) (.slice none 0 0) 51)
  have R0 := Lib.hid (HR.out.keep (below_box w (.cells #[.string ⟨#[]⟩, .bool false, .int .i64 0, .int .i64 0, .string ⟨#[]⟩, .string ⟨#[]⟩, .pointer none, .slice none 0 0] 51)))
  have HRL := Lib.hid (show R < w.heap.size by obtain ⟨⟨_, _, _, h1, _⟩, _⟩ := HR.out; exact block_lt_of_cell h1)
  have HNE := Lib.hid (show some w.heap.size ≠ some R from fun e => by injection e with e; have := HRL.out; omega)
  obtain ⟨w0, hw0⟩ : ∃ w0, w.alloc (.cells #[.string ⟨#[]⟩, .bool false, .int .i64 0, .int .i64 0, .string ⟨#[]⟩, .string ⟨#[]⟩, .pointer none, .slice none 0 0] 51) = w0 := ⟨_, rfl⟩
  have HS0 := Lib.hid (show w.heap.size ≤ w0.heap.size by rw [← hw0]; simp)
  rw [hw0] at G0 X0 R0 ⊢
  clear hw0 HR
  refine (kind_node R Q w0 R0.out).mono ?_
  cases Q with
  | nil =>
    rintro e w1 ⟨rfl, g1⟩
    go_wp2_with fail
    exact ⟨rfl, rfl, G0.out.trans g1⟩
  | cons y r =>
    rintro e w1 ⟨rfl, r1, g1⟩
    have G1 := Lib.hid (G0.out.trans g1)
    have X1 := Lib.hid (X0.out.but g1 HNE.out)
    have R1 := Lib.hid r1
    have HS1 := Lib.hid (Nat.le_trans HS0.out g1.size)
    have HYO := Lib.hid (show NdOk y by obtain ⟨⟨_, _, _, _, h2, _⟩, _⟩ := R0.out; exact h2.ok y (by simp))
    have HW1 := Lib.hid (show R < w1.heap.size by have := HRL.out; have := HS1.out; omega)
    clear r1 g1 G0 X0 R0 HS0
    unfold ndV
    have HBAD := Lib.hid (show ¬ kfOk x y → parse1 m x (y :: r) = none from fun h => if_neg h)
    have HGOOD := Lib.hid (show kfOk x y → parse1 m x (y :: r) = (match parseK m r with | none => none | some (k, r') => some (y.s, y.n == 1, k, r')) from fun h => if_pos h)
    generalize parse1 m x (y :: r) = PP at *
    by_cases ho : y.op = 47
    · have HO := Lib.hid ho
      have KN := Lib.hid (fun w => name_Check y.s w HYO.out.s)
      rw [ho]
      clear ho
      by_cases hn : y.n = 0
      · have HN := Lib.hid hn
        rw [hn]
        clear hn
        rcases empty_or y.t with ht | ⟨t1, t2, t3⟩
        · have HT := Lib.hid ht
          rw [ht]
          clear ht
          have B2 := Lib.hid (below_box w1 (.cells #[.int .i64 47, .int .i64 0, .string y.s, .string ⟨#[]⟩] 34))
          have V2 := Lib.hid (bx4_new w1 (.int .i64 47) (.int .i64 0) (.string y.s) (.string ⟨#[]⟩) 34)
          go_wp2_with fail
          obtain ⟨w2, hw2⟩ : ∃ w2, w1.alloc (.cells #[.int .i64 47, .int .i64 0, .string y.s, .string ⟨#[]⟩] 34) = w2 := ⟨_, rfl⟩
          rw [hw2] at B2 V2 ⊢
          clear hw2
          refine (KN.out w2).mono ?_
          rintro e w3 ⟨rfl, b3⟩
          have B3 := bh B2 b3
          have V3 := Lib.hid (V2.out.keep b3)
          have G3 := Lib.hid (grown_trans G1.out (grown_of_below B3.out (some R)))
          have R3 := Lib.hid (R1.out.keep B3.out)
          have X3 := Lib.hid (X1.out.keep B3.out)
          have HS3 := Lib.hid (Nat.le_trans HS1.out B3.out.size)
          clear b3 B2 V2 G1 R1 X1 HS1 KN B3
          obtain ⟨c0, c1, c2, c3, -, -, -, -⟩ := V3.out
          by_cases hf : nameFault y.s = 0
          · have HF := Lib.hid hf
            rw [hf, errV_zero]
            clear hf
            rcases leq_ways y.s x with ⟨l0, l1, l2⟩ | hl2
            · have HPG := Lib.hid (HGOOD.out ⟨HO.out, by rw [HN.out]; simp, HT.out, HF.out, l0⟩)
              have bd3 : Below w3.heap.size w3 w3.drew := ⟨rfl, rfl, rfl, Nat.le_refl _, fun _ _ => rfl⟩
              have VD := Lib.hid (V3.out.keep bd3)
              have XD := Lib.hid (X3.out.keep bd3)
              have GD := Lib.hid (grown_trans G3.out (grown_of_below bd3 (some R)))
              have HSD := Lib.hid (show w.heap.size ≤ w3.drew.heap.size from HS3.out)
              have HWD := Lib.hid (show R < w1.heap.size from HW1.out)
              have IK := Lib.hid (IH.out r w3.drew (R3.out.keep bd3) (by simp at hl; omega))
              clear bd3
              obtain ⟨e0, e1, e2, e3, -, -, -, -⟩ := VD.out
              rcases hp : parseK m r with _ | ⟨k, r'⟩
              · have HPN := Lib.hid (show PP = none by rw [HPG.out, hp])
                have IK2 := Lib.hid (fun d os => (IH.out r (grow (redrawn w3 d) os) (R3.out.keep (below_regrown w3 d os)) (by simp at hl; omega)))
                simp only [hp] at IK2
                clear IK hp e0 e1 e2 e3 HPG
                have k0 := cell_regrown c0
                have k1 := cell_regrown c1
                have k2 := cell_regrown c2
                have k3 := cell_regrown c3
                go_wp2_with fail
                refine wp_region_throw (l := [_, _, _, _, _, _]) [0, 1, 2, 3, 4, 5] [6] (by kernel_rfl) (by decide) (by kernel_rfl) rfl (fun w' => ∃ p : Regrown, w' = grow (redrawn w3 p.d) p.os) (fun ch w' => ch = kwrong ∧ w3.grownBy w' (some R)) ⟨⟨w3.drawn + 1, #[]⟩, by rw [grow_empty]; rfl⟩ ?_ ?_
                · rintro a' ch w' hd ⟨rfl, hg⟩
                  exact ⟨hd, by rw [HPN.out]; exact ⟨rfl, grown_trans G3.out hg⟩⟩
                · repeat (first | go_big_quiet_step (fail) | quiet_step (fail))
                  refine wpQuiet_nil ?_
                  refine ⟨fun o ho => ?_, trivial⟩
                  injection ho with ho
                  subst ho
                  refine ⟨by go_simp, ?_⟩
                  rintro w' ⟨⟨d, os⟩, rfl⟩
                  go_wp2_with fail
                  refine (IK2.out d os).mono ?_
                  rintro e w4 ⟨rfl, g4⟩
                  exact ⟨rfl, grown_trans (grown_of_below (below_regrown w3 d os) _) g4⟩
              · have HPN := Lib.hid (show PP = some (y.s, y.n == 1, k, r') by rw [HPG.out, hp])
                rw [hp] at IK
                clear hp
                go_wp2_with fail
                go_region_with (go_at_call 28; (refine IK.out.mono ?_); rintro e w4 ⟨v, rfl, hk, hr, g4⟩; (obtain ⟨o, n, s0, t0, p, A, m0, cc, rfl⟩ := kat_shape hk); (have HK4 := Lib.hid hk); (have HR4 := Lib.hid hr); (have G4 := Lib.hid g4); (obtain ⟨u0, u1, u2, u3, -, -, -, -⟩ := VD.out.but g4 (by intro e; injection e with e; have := HWD.out; omega)); (obtain ⟨d0, d1, d2, d3, d4, d5, d6, d7, z0, z1, z2, z3, z4, z5, z6, z7⟩ := XD.out.but g4 HNE.out); clear hk hr g4)
                all_goals
                  have HPB := Lib.hid (show PP = some (y.s, false, k, r') by rw [HPN.out, HN.out]; rfl)
                  have Y5 := (XD.out.but G4.out HNE.out).set (.string y.s) (.bool false) (.int .i64 o) (.int .i64 n) (.string s0) (.string t0) (.pointer p) (.slice A m0 cc)
                  obtain ⟨j0, j1, j2, j3, j4, j5, j6, j7, -, -, -, -, -, -, -, -⟩ := Y5
                  have gs := grown_set8 w4 w.heap.size (.string y.s) (.bool false) (.int .i64 o) (.int .i64 n) (.string s0) (.string t0) (.pointer p) (.slice A m0 cc)
                  have hRb := HRL.out
                  have R5 := Lib.hid (HR4.out.but gs hRb)
                  have K5 := Lib.hid ((HK4.out.cong (fun g hg => heap_set8 w4 w.heap.size (.string y.s) (.bool false) (.int .i64 o) (.int .i64 n) (.string s0) (.string t0) (.pointer p) (.slice A m0 cc) (by have hq : w.heap.size < w3.drew.heap.size := block_lt_of_cell XD.out.c0; have hg' : w3.drew.heap.size ≤ g := hg; omega))).mono (B' := fun b => w.heap.size ≤ b) (fun b hb _ => Nat.le_trans HSD.out hb))
                  have G5 := Lib.hid (show w.grownBy _ (some R) from grown_new (grown_trans GD.out G4.out) gs (Nat.le_refl _))
                  clear gs
                  go_wp2_with fail
                  refine bodyPost_ret (v := .agg #[.string y.s, .bool false, .int .i64 o, .int .i64 n, .string s0, .string t0, .pointer p, .slice A m0 cc]) (by simp [results, Try.results39, go_sem, j0, j1, j2, j3, j4, j5, j6, j7]) rfl ?_
                  rw [HPB.out]
                  exact ⟨[.int .i64 o, .int .i64 n, .string s0, .string t0, .pointer p, .slice A m0 cc], rfl, K5.out, R5.out, G5.out⟩
            · have HPN := Lib.hid (HBAD.out (fun h => by rcases hl2 with h2 | h2 <;> exact h2.1 h.2.2.2.2))
              have GB := G3
              rcases hl2 with ⟨-, l1⟩ | ⟨-, l1, l2⟩
              · go_wp2_with fail
                refine ⟨rfl, ?_⟩
                rw [HPN.out]
                exact ⟨rfl, GB.out⟩
              · go_wp2_with fail
                refine ⟨rfl, ?_⟩
                rw [HPN.out]
                exact ⟨rfl, GB.out⟩
          · have HPN := Lib.hid (HBAD.out (fun h => hf h.2.2.2.1))
            rw [errV_ne hf]
            generalize nameFault y.s = ff at *
            clear hf
            have GB := G3
            go_wp2_with fail
            refine ⟨rfl, ?_⟩
            rw [HPN.out]
            exact ⟨rfl, GB.out⟩
        · have HPN := Lib.hid (HBAD.out (fun h => t2 (by rw [h.2.2.1]; exact toList_emp)))
          clear HBAD HGOOD
          go_wp2_with fail
          refine ⟨rfl, ?_⟩
          rw [HPN.out]
          exact ⟨rfl, grown_trans G1.out (grown_of_below (below_box _ _) _)⟩
      · by_cases hn1 : y.n = 1
        · have hn := hn1
          clear hn1
          have HN := Lib.hid hn
          rw [hn]
          clear hn
          rcases empty_or y.t with ht | ⟨t1, t2, t3⟩
          · have HT := Lib.hid ht
            rw [ht]
            clear ht
            have B2 := Lib.hid (below_box w1 (.cells #[.int .i64 47, .int .i64 1, .string y.s, .string ⟨#[]⟩] 34))
            have V2 := Lib.hid (bx4_new w1 (.int .i64 47) (.int .i64 1) (.string y.s) (.string ⟨#[]⟩) 34)
            go_wp2_with fail
            obtain ⟨w2, hw2⟩ : ∃ w2, w1.alloc (.cells #[.int .i64 47, .int .i64 1, .string y.s, .string ⟨#[]⟩] 34) = w2 := ⟨_, rfl⟩
            rw [hw2] at B2 V2 ⊢
            clear hw2
            refine (KN.out w2).mono ?_
            rintro e w3 ⟨rfl, b3⟩
            have B3 := bh B2 b3
            have V3 := Lib.hid (V2.out.keep b3)
            have G3 := Lib.hid (grown_trans G1.out (grown_of_below B3.out (some R)))
            have R3 := Lib.hid (R1.out.keep B3.out)
            have X3 := Lib.hid (X1.out.keep B3.out)
            have HS3 := Lib.hid (Nat.le_trans HS1.out B3.out.size)
            clear b3 B2 V2 G1 R1 X1 HS1 KN B3
            obtain ⟨c0, c1, c2, c3, -, -, -, -⟩ := V3.out
            by_cases hf : nameFault y.s = 0
            · have HF := Lib.hid hf
              rw [hf, errV_zero]
              clear hf
              rcases leq_ways y.s x with ⟨l0, l1, l2⟩ | hl2
              · have HPG := Lib.hid (HGOOD.out ⟨HO.out, by rw [HN.out]; simp, HT.out, HF.out, l0⟩)
                have bd3 : Below w3.heap.size w3 w3.drew := ⟨rfl, rfl, rfl, Nat.le_refl _, fun _ _ => rfl⟩
                have VD := Lib.hid (V3.out.keep bd3)
                have XD := Lib.hid (X3.out.keep bd3)
                have GD := Lib.hid (grown_trans G3.out (grown_of_below bd3 (some R)))
                have HSD := Lib.hid (show w.heap.size ≤ w3.drew.heap.size from HS3.out)
                have HWD := Lib.hid (show R < w1.heap.size from HW1.out)
                have IK := Lib.hid (IH.out r w3.drew (R3.out.keep bd3) (by simp at hl; omega))
                clear bd3
                obtain ⟨e0, e1, e2, e3, -, -, -, -⟩ := VD.out
                rcases hp : parseK m r with _ | ⟨k, r'⟩
                · have HPN := Lib.hid (show PP = none by rw [HPG.out, hp])
                  have IK2 := Lib.hid (fun d os => (IH.out r (grow (redrawn w3 d) os) (R3.out.keep (below_regrown w3 d os)) (by simp at hl; omega)))
                  simp only [hp] at IK2
                  clear IK hp e0 e1 e2 e3 HPG
                  have k0 := cell_regrown c0
                  have k1 := cell_regrown c1
                  have k2 := cell_regrown c2
                  have k3 := cell_regrown c3
                  go_wp2_with fail
                  refine wp_region_throw (l := [_, _, _, _, _, _]) [0, 1, 2, 3, 4, 5] [6] (by kernel_rfl) (by decide) (by kernel_rfl) rfl (fun w' => ∃ p : Regrown, w' = grow (redrawn w3 p.d) p.os) (fun ch w' => ch = kwrong ∧ w3.grownBy w' (some R)) ⟨⟨w3.drawn + 1, #[]⟩, by rw [grow_empty]; rfl⟩ ?_ ?_
                  · rintro a' ch w' hd ⟨rfl, hg⟩
                    exact ⟨hd, by rw [HPN.out]; exact ⟨rfl, grown_trans G3.out hg⟩⟩
                  · repeat (first | go_big_quiet_step (fail) | quiet_step (fail))
                    refine wpQuiet_nil ?_
                    refine ⟨fun o ho => ?_, trivial⟩
                    injection ho with ho
                    subst ho
                    refine ⟨by go_simp, ?_⟩
                    rintro w' ⟨⟨d, os⟩, rfl⟩
                    go_wp2_with fail
                    refine (IK2.out d os).mono ?_
                    rintro e w4 ⟨rfl, g4⟩
                    exact ⟨rfl, grown_trans (grown_of_below (below_regrown w3 d os) _) g4⟩
                · have HPN := Lib.hid (show PP = some (y.s, y.n == 1, k, r') by rw [HPG.out, hp])
                  rw [hp] at IK
                  clear hp
                  go_wp2_with fail
                  go_region_with (go_at_call 28; (refine IK.out.mono ?_); rintro e w4 ⟨v, rfl, hk, hr, g4⟩; (obtain ⟨o, n, s0, t0, p, A, m0, cc, rfl⟩ := kat_shape hk); (have HK4 := Lib.hid hk); (have HR4 := Lib.hid hr); (have G4 := Lib.hid g4); (obtain ⟨u0, u1, u2, u3, -, -, -, -⟩ := VD.out.but g4 (by intro e; injection e with e; have := HWD.out; omega)); (obtain ⟨d0, d1, d2, d3, d4, d5, d6, d7, z0, z1, z2, z3, z4, z5, z6, z7⟩ := XD.out.but g4 HNE.out); clear hk hr g4)
                  all_goals
                    have HPB := Lib.hid (show PP = some (y.s, true, k, r') by rw [HPN.out, HN.out]; rfl)
                    have Y5 := (XD.out.but G4.out HNE.out).set (.string y.s) (.bool true) (.int .i64 o) (.int .i64 n) (.string s0) (.string t0) (.pointer p) (.slice A m0 cc)
                    obtain ⟨j0, j1, j2, j3, j4, j5, j6, j7, -, -, -, -, -, -, -, -⟩ := Y5
                    have gs := grown_set8 w4 w.heap.size (.string y.s) (.bool true) (.int .i64 o) (.int .i64 n) (.string s0) (.string t0) (.pointer p) (.slice A m0 cc)
                    have hRb := HRL.out
                    have R5 := Lib.hid (HR4.out.but gs hRb)
                    have K5 := Lib.hid ((HK4.out.cong (fun g hg => heap_set8 w4 w.heap.size (.string y.s) (.bool true) (.int .i64 o) (.int .i64 n) (.string s0) (.string t0) (.pointer p) (.slice A m0 cc) (by have hq : w.heap.size < w3.drew.heap.size := block_lt_of_cell XD.out.c0; have hg' : w3.drew.heap.size ≤ g := hg; omega))).mono (B' := fun b => w.heap.size ≤ b) (fun b hb _ => Nat.le_trans HSD.out hb))
                    have G5 := Lib.hid (show w.grownBy _ (some R) from grown_new (grown_trans GD.out G4.out) gs (Nat.le_refl _))
                    clear gs
                    go_wp2_with fail
                    refine bodyPost_ret (v := .agg #[.string y.s, .bool true, .int .i64 o, .int .i64 n, .string s0, .string t0, .pointer p, .slice A m0 cc]) (by simp [results, Try.results39, go_sem, j0, j1, j2, j3, j4, j5, j6, j7]) rfl ?_
                    rw [HPB.out]
                    exact ⟨[.int .i64 o, .int .i64 n, .string s0, .string t0, .pointer p, .slice A m0 cc], rfl, K5.out, R5.out, G5.out⟩
              · have HPN := Lib.hid (HBAD.out (fun h => by rcases hl2 with h2 | h2 <;> exact h2.1 h.2.2.2.2))
                have GB := G3
                rcases hl2 with ⟨-, l1⟩ | ⟨-, l1, l2⟩
                · go_wp2_with fail
                  refine ⟨rfl, ?_⟩
                  rw [HPN.out]
                  exact ⟨rfl, GB.out⟩
                · go_wp2_with fail
                  refine ⟨rfl, ?_⟩
                  rw [HPN.out]
                  exact ⟨rfl, GB.out⟩
            · have HPN := Lib.hid (HBAD.out (fun h => hf h.2.2.2.1))
              rw [errV_ne hf]
              generalize nameFault y.s = ff at *
              clear hf
              have GB := G3
              go_wp2_with fail
              refine ⟨rfl, ?_⟩
              rw [HPN.out]
              exact ⟨rfl, GB.out⟩
          · have HPN := Lib.hid (HBAD.out (fun h => t2 (by rw [h.2.2.1]; exact toList_emp)))
            clear HBAD HGOOD
            go_wp2_with fail
            refine ⟨rfl, ?_⟩
            rw [HPN.out]
            exact ⟨rfl, grown_trans G1.out (grown_of_below (below_box _ _) _)⟩
        · have HPN := Lib.hid (HBAD.out (fun h => h.2.1.elim hn hn1))
          have e0 : (y.n != 0) = true := by rw [bne_iff_ne]; exact hn
          have e1 : (y.n != 1) = true := by rw [bne_iff_ne]; exact hn1
          clear HBAD HGOOD hn hn1
          go_wp2_with fail
          refine ⟨rfl, ?_⟩
          rw [HPN.out]
          exact ⟨rfl, grown_trans G1.out (grown_of_below (below_box _ _) _)⟩
    · have HPN := Lib.hid (HBAD.out (fun h => ho h.1))
      have h1 : (y.op != 47) = true := by rw [bne_iff_ne]; exact ho
      clear ho HBAD HGOOD
      go_wp2_with fail
      refine ⟨rfl, ?_⟩
      rw [HPN.out]
      exact ⟨rfl, grown_trans G1.out (grown_of_below (below_box _ _) _)⟩
end Go.Proofs.Ytocchkmhnneiiaa
