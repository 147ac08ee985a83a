/-
  kinds' reader: a type of records.
  kinds.read: nodes as a type.
  kinds.first: the first error of two.
-/
import Derived.Test.YtmekockjgldndaaGreatDoorQc15
namespace Go.Proofs.YtmekockjgldndaaGreatDoor
open Go.RowKit Go.Wk Go.Sort
set_option maxRecDepth 100000

theorem Bx6.set5 {w : World} {b : Nat} {x0 x1 x2 x3 x4 x5 : Value} (h : Bx6 w b x0 x1 x2 x3 x4 x5) (y : Value) : Bx6 (w.setCell ⟨b, 5, none⟩ y) b x0 x1 x2 x3 x4 y := by
  obtain ⟨c0, c1, c2, c3, c4, c5, z0, z1, z2, z3, z4, z5⟩ := h
  refine ⟨?_, ?_, ?_, ?_, ?_, ?_, ?_, ?_, ?_, ?_, ?_, ?_⟩
  all_goals go_simp
/-- What the loop over the fields keeps. -/
structure KLp (w wr : World) (R b1 : Nat) (x : Nd) (E : List Fe) (Q : List Nd) (v : Value) : Prop where
  K : Bx6 wr b1 (.int .i64 46) (.int .i64 x.n) (.string x.s) (.string x.t) (.pointer none) v
  F : RowF wr (b1 + 2) v E
  N : Bx4 wr (b1 + 1) (.int .i64 46) (.int .i64 x.n) (.string ⟨#[]⟩) (.string ⟨#[]⟩)
  X : Bx6 wr w.heap.size (.int .i64 0) (.int .i64 0) (.string ⟨#[]⟩) (.string ⟨#[]⟩) (.pointer none) (.slice none 0 0)
  D : RdK wr R Q
  G : w.grownBy wr (some R)
  z : b1 + 2 ≤ wr.heap.size
/-- What the nodes that are left have to do with all. -/
def LeftK (m c : Nat) (r : List Nd) (k : Nat) (last : ByteArray) (E : List Fe) (Q : List Nd) : Prop :=
  parseF m c emp r = (match parseF m (c - k) last Q with | none => none | some (f, r') => some (catF (E.map Fe.y) f, r')) ∧ E.length + Q.length ≤ r.length
set_option maxHeartbeats 8000000 in
theorem kind_rec (R m : Nat) (ih : KindC R m) (hm1 : m ≤ 1000) (x : Nd) (r : List Nd) (hl : r.length ≤ m) (w : World) (h : RdK w R (x :: r)) (hb : x.op = 46) :
    Calls Tryz.prog 98 #[.pointer (some ⟨R, 0, none⟩)] w (KindPost w R (parseK (m + 1) (x :: r))) := by
  have HR := Lib.hid h
  have HPP := Lib.hid (show parseK (m + 1) (x :: r) = (match parseF m x.n.toNat emp r with | none => none | some (p, r') => if 0 ≤ x.n ∧ x.s = emp ∧ x.t = emp then some (.fs p, r') else none) by simp only [parseK, if_neg (not_base (.inr (.inr hb))), if_neg (show ¬ x.op = 44 by omega), if_neg (show ¬ x.op = 45 by omega), if_pos hb]; rfl)
  generalize parseK (m + 1) (x :: r) = PP at *
  clear h
  go_enter Tryz.func98, Tryz.ntmps98
  go_wp2_with fail
  have G0 := Lib.hid (grown_of_below (below_box w (.cells #[.int .i64 0, .int .i64 0, .string ⟨#[]⟩, .string ⟨#[]⟩, .pointer none, .slice none 0 0] 85)) (some R))
  have X0 := Lib.hid (bx6_new w (.int .i64 0) (.int .i64 0) (.string ⟨#[]⟩) (.string ⟨#[]⟩) (.pointer none) (.slice none 0 0) 85)
  have R0 := Lib.hid (HR.out.keep (below_box w (.cells #[.int .i64 0, .int .i64 0, .string ⟨#[]⟩, .string ⟨#[]⟩, .pointer none, .slice none 0 0] 85)))
  have HRL := Lib.hid (show R < w.heap.size by obtain ⟨⟨_, _, _, h1, _⟩, _⟩ := HR.out; exact block_lt_of_cell h1)
  have HNE := Lib.hid (show some w.heap.size ≠ some R from fun e => by injection e with e; have := HRL.out; omega)
  obtain ⟨w0, hw0⟩ : ∃ w0, w.alloc (.cells #[.int .i64 0, .int .i64 0, .string ⟨#[]⟩, .string ⟨#[]⟩, .pointer none, .slice none 0 0] 85) = w0 := ⟨_, rfl⟩
  have HS0 := Lib.hid (show w.heap.size ≤ w0.heap.size by rw [← hw0]; simp)
  rw [hw0] at G0 X0 R0 ⊢
  clear hw0 HR
  refine (kind_node R (x :: r) w0 R0.out).mono ?_
  rintro e w1 ⟨rfl, r1, g1⟩
  have G1 := Lib.hid (G0.out.trans g1)
  have X1 := Lib.hid (X0.out.but g1 HNE.out)
  have R1 := Lib.hid r1
  have HYO := Lib.hid (show NdOk x by obtain ⟨⟨_, _, _, _, h2, _⟩, _⟩ := R0.out; exact h2.ok x (by simp))
  have hxn : x.n ≤ 9223372036854775807 := HYO.out.hi
  have HS1 := Lib.hid (Nat.le_trans HS0.out g1.size)
  clear r1 g1 G0 X0 R0 HS0
  unfold ndV
  have hl : w.heap.size < w1.heap.size := block_lt_of_cell X1.out.c0
  have HSL := Lib.hid (show LeftK m x.n.toNat r 0 ⟨#[]⟩ [] r from ⟨by
    show _ = (match parseF m x.n.toNat emp r with | none => none | some (f, r') => some (catF [] f, r'))
    rcases parseF m x.n.toNat emp r with _ | ⟨f, r'⟩
    · rfl
    · simp only [catF_nil], by simp⟩)
  rw [hb]
  clear hb
  have B2 := (below_box w1 (.cells #[.int .i64 46, .int .i64 x.n, .string x.s, .string x.t, .pointer none, .slice none 0 0] 85)).trans ((below_box _ (.cells #[.int .i64 46, .int .i64 x.n, .string ⟨#[]⟩, .string ⟨#[]⟩] 44)).mono (by simp))
  have hsz : (w1.alloc (.cells #[.int .i64 46, .int .i64 x.n, .string x.s, .string x.t, .pointer none, .slice none 0 0] 85)).heap.size = w1.heap.size + 1 := by simp
  have K2 := (bx6_new w1 (.int .i64 46) (.int .i64 x.n) (.string x.s) (.string x.t) (.pointer none) (.slice none 0 0) 85).keep (below_box _ (.cells #[.int .i64 46, .int .i64 x.n, .string ⟨#[]⟩, .string ⟨#[]⟩] 44))
  have N2 := bx4_new (w1.alloc (.cells #[.int .i64 46, .int .i64 x.n, .string x.s, .string x.t, .pointer none, .slice none 0 0] 85)) (.int .i64 46) (.int .i64 x.n) (.string ⟨#[]⟩) (.string ⟨#[]⟩) 44
  rw [hsz] at N2
  have hz2 : ((w1.alloc (.cells #[.int .i64 46, .int .i64 x.n, .string x.s, .string x.t, .pointer none, .slice none 0 0] 85)).alloc (.cells #[.int .i64 46, .int .i64 x.n, .string ⟨#[]⟩, .string ⟨#[]⟩] 44)).heap.size = w1.heap.size + 2 := by simp
  go_wp2_with fail
  obtain ⟨w2, hw2⟩ : ∃ w2, (w1.alloc (.cells #[.int .i64 46, .int .i64 x.n, .string x.s, .string x.t, .pointer none, .slice none 0 0] 85)).alloc (.cells #[.int .i64 46, .int .i64 x.n, .string ⟨#[]⟩, .string ⟨#[]⟩] 44) = w2 := ⟨_, rfl⟩
  rw [hw2] at B2 K2 N2 hz2 ⊢
  have LP := Lib.hid (show KLp w w2 R w1.heap.size x [] r (.slice none 0 0) from ⟨K2, RowF.nil _ _, N2, X1.out.keep B2, R1.out.keep B2, grown_trans G1.out (grown_of_below B2 (some R)), by omega⟩)
  clear hw2 hsz B2 K2 N2 X1 R1 G1 hz2
  obtain ⟨b1, hb1⟩ : ∃ b1, b1 = w1.heap.size := ⟨_, rfl⟩
  rw [← hb1] at hl LP ⊢
  clear hb1 HS1
  go_loopw [6, 53] (fun l i wr => ∃ (k : Nat) (last : ByteArray) (E : List Fe) (Q : List Nd) (v : Value), i = .int .i64 k ∧ l = .string last ∧ k ≤ x.n.toNat ∧ Hid (LeftK m x.n.toNat r k last E Q) ∧ Hid (KLp w wr R b1 x E Q v)) (fun _ i _ => x.n.toNat - (intOf i).toNat)
  case atStart => exact ⟨0, _, [], r, _, rfl, rfl, Nat.zero_le _, HSL, LP⟩
  case round =>
    clear HSL LP
    obtain ⟨k, last, E, Q, v, rfl, rfl, hk, hL, hP⟩ := hrel
    obtain ⟨k0, k1, k2, k3, k4, k5, y0, y1, y2, y3, y4, y5⟩ := hP.out.K
    obtain ⟨n0, n1, n2, n3, -, -, -, -⟩ := hP.out.N
    obtain ⟨c0, c1, c2, c3, c4, c5, z0, z1, z2, z3, z4, z5⟩ := hP.out.X
    have HO := Lib.hid (fun g (hg : v.ownBlock = some g) => hP.out.F.own.lt g hg)
    have HRb := Lib.hid (show R < b1 from Nat.lt_trans HRL.out hl)
    by_cases hlt : k < x.n.toNat
    · have hlt2 : decide ((k : Int) < x.n) = true := decide_eq_true (by omega)
      have hlen := hL.out.2
      go_wp2_with fail
      refine (kind_field R m ih last Q wr hP.out.D (by omega)).mono ?_
      intro e w4 hpost
      have hst := parseF_step (m := m) (c := x.n.toNat - k - 1) (x := last) (Q := Q) (by omega)
      rw [show x.n.toNat - k - 1 + 1 = x.n.toNat - k by omega] at hst
      have HST := Lib.hid hst
      clear hst
      rcases h1 : parse1 m last Q with _ | ⟨s, b, kk, r'⟩
      · rw [h1] at hpost
        obtain ⟨rfl, g4⟩ := hpost
        have HP := Lib.hid (show PP = none by rw [HPP.out, hL.out.1, HST.out, h1])
        go_wp2_with fail
        exact ⟨rfl, by rw [HP.out]; exact ⟨rfl, grown_trans hP.out.G g4⟩⟩
      · rw [h1] at hpost
        obtain ⟨u, rfl, hkat, hrd, g4⟩ := hpost
        obtain ⟨o, n, s0, t0, pp, A, m0, cc, rfl⟩ := kat_shape hkat
        have HL2 := Lib.hid (show LeftK m x.n.toNat r (k + 1) s (E ++ [⟨(s, b, kk), o, n, s0, t0, pp, A, m0, cc⟩]) r' from ⟨by
          rw [hL.out.1, HST.out, h1, List.map_append]
          simp only [List.map_cons, List.map_nil]
          rw [show x.n.toNat - (k + 1) = x.n.toNat - k - 1 by omega]
          rcases parseF m (x.n.toNat - k - 1) s r' with _ | ⟨f, r''⟩
          · rfl
          · simp only [catF_snoc], by have := parse1_shorter h1; rw [List.length_append]; simp only [List.length_cons, List.length_nil]; omega⟩)
        clear HST hL h1 k0 k1 k2 k3 k4 k5 y0 y1 y2 y3 y4 y5 n0 n1 n2 n3 c0 c1 c2 c3 c4 c5 z0 z1 z2 z3 z4 z5
        have hz4 : b1 + 2 ≤ w4.heap.size := Nat.le_trans hP.out.z g4.size
        have hsr := g4.size
        have hzr := hP.out.z
        have K4 := hP.out.K.but g4 (fun e => by injection e with e; have := HRb.out; omega)
        have N4 := hP.out.N.but g4 (fun e => by injection e with e; have := HRb.out; omega)
        have X4 := hP.out.X.but g4 HNE.out
        have F4 := hP.out.F.keep g4 (by have := HRb.out; omega)
        have G4 := grown_trans hP.out.G g4
        have hk4 := hkat.mono (B' := fun g => wr.heap.size ≤ g ∧ g < w4.heap.size) fun b h1 h2 => ⟨h1, h2⟩
        have Ba := below_box w4 (.cells #[.string s, .bool b, .int .i64 o, .int .i64 n, .string s0, .string t0, .pointer pp, .slice A m0 cc] 168)
        have Bb := below_box (w4.alloc (.cells #[.string s, .bool b, .int .i64 o, .int .i64 n, .string s0, .string t0, .pointer pp, .slice A m0 cc] 168)) (.cells #[.string s, .bool b, .int .i64 o, .int .i64 n, .string s0, .string t0, .pointer pp, .slice A m0 cc] 168)
        have Bab := Ba.trans (Bb.mono (by simp))
        have hsa : (w4.alloc (.cells #[.string s, .bool b, .int .i64 o, .int .i64 n, .string s0, .string t0, .pointer pp, .slice A m0 cc] 168)).heap.size = w4.heap.size + 1 := by simp
        have hsb : ((w4.alloc (.cells #[.string s, .bool b, .int .i64 o, .int .i64 n, .string s0, .string t0, .pointer pp, .slice A m0 cc] 168)).alloc (.cells #[.string s, .bool b, .int .i64 o, .int .i64 n, .string s0, .string t0, .pointer pp, .slice A m0 cc] 168)).heap.size = w4.heap.size + 2 := by simp
        have rn := row0_new (w4.alloc (.cells #[.string s, .bool b, .int .i64 o, .int .i64 n, .string s0, .string t0, .pointer pp, .slice A m0 cc] 168)) [.string s, .bool b, .int .i64 o, .int .i64 n, .string s0, .string t0, .pointer pp, .slice A m0 cc] 168
        rw [hsa] at rn
        have K5 := Lib.hid (K4.keep Bab)
        have N5 := Lib.hid (N4.keep Bab)
        have X5 := Lib.hid (X4.keep Bab)
        have D5 := Lib.hid (hrd.keep Bab)
        have F5 := Lib.hid (F4.keepN (grown_of_below Bab none))
        have G5 := Lib.hid (grown_trans G4 (grown_of_below Bab (some R)))
        have RN := Lib.hid rn
        have HSB := Lib.hid hsb
        have KK := Lib.hid (show KAt ((w4.alloc (.cells #[.string s, .bool b, .int .i64 o, .int .i64 n, .string s0, .string t0, .pointer pp, .slice A m0 cc] 168)).alloc (.cells #[.string s, .bool b, .int .i64 o, .int .i64 n, .string s0, .string t0, .pointer pp, .slice A m0 cc] 168)) (fun g => b1 + 2 ≤ g ∧ some g ≠ v.ownBlock) kk [.int .i64 o, .int .i64 n, .string s0, .string t0, .pointer pp, .slice A m0 cc] from
          (hk4.cong fun g hg => Bab.block g hg.2).mono fun g hg _ => ⟨by have := hg.1; omega, fun e => by have := (HO.out g e.symm).2; have := hg.1; omega⟩)
        have HE := Lib.hid (show E.length ≤ 1000000 by omega)
        have hz5 : b1 < w4.heap.size := by omega
        clear N4 X4 F4 G4 hk4 Ba Bb Bab hsa hsb rn hkat hrd g4 hP hz4 hsr hlen
        obtain ⟨k0, k1, k2, k3, k4, k5, y0, y1, y2, y3, y4, y5⟩ := K4
        go_wp2_with (at_builtin; refine wpList_append_fe rfl _ _ rfl (b1 + 2) v E rfl F5.out ⟨(s, b, kk), o, n, s0, t0, pp, A, m0, cc⟩ ⟨w4.heap.size + 1, 0, none⟩ 1 1 rfl rfl RN.out KK.out HE.out ?c1 ?_)
        case c1 => rw [HSB.out]; omega
        intro v' w6 hrow hg
        have hgo : ∀ g, v.ownBlock = some g → b1 + 2 ≤ g := fun g hg => (HO.out g hg).1
        have K6 := Lib.hid (K5.out.but hg (fun e => by have := hgo _ e.symm; omega))
        have N6 := Lib.hid (N5.out.but hg (fun e => by have := hgo _ e.symm; omega))
        have X6 := Lib.hid (X5.out.but hg (fun e => by have := hgo _ e.symm; omega))
        have D6 := Lib.hid (show RdK w6 R r' from by
          rcases hv : v.ownBlock with _ | g
          · rw [hv] at hg
            exact D5.out.but (b := w6.heap.size + b1) ⟨hg.os, hg.tape, hg.output, hg.size, fun i hi _ => hg.block i hi (fun e => nomatch e)⟩ (by have := HRb.out; omega)
          · rw [hv] at hg
            exact D5.out.but hg (by have := hgo g hv; have := HRb.out; omega))
        have G6 := Lib.hid (show w.grownBy w6 (some R) from by
          rcases hv : v.ownBlock with _ | g
          · rw [hv] at hg
            exact grown_trans G5.out ⟨hg.os, hg.tape, hg.output, hg.size, fun i hi _ => hg.block i hi (fun e => nomatch e)⟩
          · rw [hv] at hg
            exact grown_new G5.out hg (by have := hgo g hv; omega))
        have F6 := Lib.hid hrow
        have HZ6 := Lib.hid (show b1 + 2 ≤ w6.heap.size by have := hg.size; rw [HSB.out] at this; omega)
        clear K5 N5 X5 D5 F5 G5 hg hrow k0 k1 k2 k3 k4 k5 y0 y1 y2 y3 y4 y5
        obtain ⟨k0, k1, k2, k3, k4, k5, y0, y1, y2, y3, y4, y5⟩ := K6.out
        obtain ⟨A', cp', hv', -, -, -⟩ := F6.out.fat
        obtain ⟨nl, hnl⟩ : ∃ nl, nl = (E ++ [(⟨(s, b, kk), o, n, s0, t0, pp, A, m0, cc⟩ : Fe)]).length := ⟨_, rfl⟩
        rw [← hnl] at hv'
        subst hv'
        clear hnl hgo
        go_wp2_with fail
        go_roundw
        case rel =>
          have gs : w6.grownBy (w6.setCell ⟨b1, 5, none⟩ (.slice A' nl cp')) (some b1) := grown_setCell w6 ⟨b1, 5, none⟩ (.slice A' nl cp')
          exact ⟨k + 1, s, E ++ [⟨(s, b, kk), o, n, s0, t0, pp, A, m0, cc⟩], r', _, by go_num, rfl, by omega, HL2, Lib.hid ⟨K6.out.set5 _, F6.out.keep gs (by omega), N6.out.but gs (fun e => by injection e with e; omega), X6.out.but gs (fun e => by injection e with e; omega), D6.out.but gs HRb.out, grown_new G6.out gs (by omega), by simpa [World.setCell] using HZ6.out⟩⟩
        case measure => simp [intOf]; omega
    · have hlt2 : decide ((k : Int) < x.n) = false := decide_eq_false (by omega)
      have hkc : x.n.toNat - k = 0 := by omega
      have HPQ := Lib.hid (show PP = if 0 ≤ x.n ∧ x.s = emp ∧ x.t = emp then some (.fs (ofL (E.map Fe.y)), Q) else none by
        rw [HPP.out, hL.out.1, hkc, ← catF_end]
        cases m <;> rfl)
      obtain ⟨A, cp, hv, hfat, hle, hcm⟩ := hP.out.F.fat
      have HFA := Lib.hid hfat
      have HLE := Lib.hid hle
      have HCM := Lib.hid hcm
      obtain ⟨nl, hnl⟩ : ∃ nl, nl = E.length := ⟨_, rfl⟩
      have HNL := Lib.hid hnl
      rw [← hnl] at hv
      subst hv
      have X3 := Lib.hid hP.out.X
      have G3 := Lib.hid hP.out.G
      have D3 := Lib.hid hP.out.D
      have HZ := Lib.hid hP.out.z
      clear hnl hfat hle hcm hkc HPP hL hP ih HO
      rcases emp_or x.s with hs | ⟨hs, s1, s2⟩
      · rcases emp_or x.t with ht | ⟨ht, t1, t2⟩
        · by_cases hn : 0 ≤ x.n
          · have HP := Lib.hid (show PP = some (.fs (ofL (E.map Fe.y)), Q) by rw [HPQ.out, if_pos ⟨hn, hs, ht⟩])
            have hn2 : decide (x.n < 0) = false := decide_eq_false (by omega)
            rw [hs] at k2
            rw [ht] at k3
            clear hs ht HPQ
            go_wp2_with fail
            have Y := X3.out.set (.int .i64 46) (.int .i64 x.n) (.string ⟨#[]⟩) (.string ⟨#[]⟩) (.pointer none) (.slice A nl cp)
            have gs := grown_set6 wr w.heap.size (.int .i64 46) (.int .i64 x.n) (.string ⟨#[]⟩) (.string ⟨#[]⟩) (.pointer none) (.slice A nl cp)
            have R4 := D3.out.but gs HRL.out
            have G4 := grown_new G3.out gs (Nat.le_refl _)
            have K4 := HFA.out.cong (w' := ((((((wr.setCell ⟨w.heap.size, 0, none⟩ (.int .i64 46)).setCell ⟨w.heap.size, 1, none⟩ (.int .i64 x.n)).setCell ⟨w.heap.size, 2, none⟩ (.string ⟨#[]⟩)).setCell ⟨w.heap.size, 3, none⟩ (.string ⟨#[]⟩)).setCell ⟨w.heap.size, 4, none⟩ (.pointer none)).setCell ⟨w.heap.size, 5, none⟩ (.slice A nl cp))) fun b hb => heap_set6 wr w.heap.size (.int .i64 46) (.int .i64 x.n) (.string ⟨#[]⟩) (.string ⟨#[]⟩) (.pointer none) (.slice A nl cp) (by omega)
            obtain ⟨S, hS⟩ : ∃ S, ((((((wr.setCell ⟨w.heap.size, 0, none⟩ (.int .i64 46)).setCell ⟨w.heap.size, 1, none⟩ (.int .i64 x.n)).setCell ⟨w.heap.size, 2, none⟩ (.string ⟨#[]⟩)).setCell ⟨w.heap.size, 3, none⟩ (.string ⟨#[]⟩)).setCell ⟨w.heap.size, 4, none⟩ (.pointer none)).setCell ⟨w.heap.size, 5, none⟩ (.slice A nl cp)) = S := ⟨_, rfl⟩
            rw [hS] at Y gs R4 G4 K4 ⊢
            clear hS gs
            obtain ⟨j0, j1, j2, j3, j4, j5, -, -, -, -, -, -⟩ := Y
            refine bodyPost_ret (v := .agg #[.int .i64 46, .int .i64 x.n, .string ⟨#[]⟩, .string ⟨#[]⟩, .pointer none, .slice A nl cp]) (by simp [results, Tryz.results98, go_sem, j0, j1, j2, j3, j4, j5]) rfl ?_
            rw [HP.out]
            have hlen : (ofL (E.map Fe.y)).len = nl := by rw [ofL_len, List.length_map, HNL.out]
            refine ⟨[.int .i64 46, .int .i64 x.n, .string ⟨#[]⟩, .string ⟨#[]⟩, .pointer none, .slice A nl cp], rfl, ⟨x.n, A, cp, by rw [hlen]; rfl, by rw [hlen, HNL.out]; exact HLE.out, HCM.out, ?_⟩, R4, G4⟩
            exact K4.mono fun b hb _ => by omega
          · have HP := Lib.hid (show PP = none by rw [HPQ.out, if_neg (fun h => hn h.1)])
            have hn2 : decide (x.n < 0) = true := decide_eq_true (by omega)
            rw [hs] at k2
            rw [ht] at k3
            clear hs ht HPQ hn
            go_wp2_with fail
            exact ⟨rfl, by rw [HP.out]; exact ⟨rfl, G3.out⟩⟩
        · have HP := Lib.hid (show PP = none by rw [HPQ.out, if_neg (fun h => ht h.2.2)])
          rw [hs] at k2
          clear hs ht HPQ
          go_wp2_with fail
          exact ⟨rfl, by rw [HP.out]; exact ⟨rfl, G3.out⟩⟩
      · have HP := Lib.hid (show PP = none by rw [HPQ.out, if_neg (fun h => hs h.2.1)])
        clear hs HPQ
        go_wp2_with fail
        exact ⟨rfl, by rw [HP.out]; exact ⟨rfl, G3.out⟩⟩
end Go.Proofs.YtmekockjgldndaaGreatDoor
namespace Go.Proofs.YtmekockjgldndaaGreatDoor
open Go.RowKit Go.Wk Go.Sort
set_option maxRecDepth 100000

theorem kind_all (R : Nat) : ∀ m : Nat, m ≤ 1000 → KindC R m
  | 0, _ => fun Q w h hl => by
    have : Q = [] := List.eq_nil_of_length_eq_zero (by omega)
    subst this
    exact kind_nil R 0 w h
  | m + 1, hm => fun Q w h hl => by
    have ih := kind_all R m (by omega)
    cases Q with
    | nil => exact kind_nil R _ w h
    | cons x r =>
      have hl' : r.length ≤ m := by simpa using hl
      by_cases hb : baseOp x.op
      · exact kind_base R m x r w h hb
      by_cases h4 : x.op = 44
      · exact kind_ent R m x r w h h4
      by_cases h5 : x.op = 45
      · exact kind_set R m ih x r hl' w h h5
      by_cases h6 : x.op = 46
      · exact kind_rec R m ih (by omega) x r hl' w h h6
      exact kind_else R m x r w h hb h4 h5 h6
set_option maxHeartbeats 4000000 in
theorem read_idle (p q : Addr) (w : World) :
    CallsD Tryz.prog 97 #[.pointer (some p), .pointer (some q)] .returning w fun e u' w' => e = .returned (.tuple #[]) ∧ u' = .returning ∧ w' = w := by
  refine callsD_of_wpS Tryz.func97 rfl fun c₀ cs hu => ?_
  apply wpS_seq
  apply wpS_region
  simp [wpOpsS, go_sem, recoverD, hu, Tryz.ntmps97, Exit.thenS]
  refine wpS_of_wp ?_
  go_wp2_with fail
  cases c₀
  simp_all [bodyPostS, results, Tryz.results97]
set_option maxHeartbeats 4000000 in
theorem read_caught (E F : Nat) (x0 x1 x2 x3 x4 x5 v : Value) (older : List PanicEntry) (w : World) (h : Bx6 w E x0 x1 x2 x3 x4 x5) (hF : w.cell? ⟨F, 0, none⟩ = some v) (zF : w.frozen? ⟨F, 0, none⟩ = false) (hne : E ≠ F) :
    CallsD Tryz.prog 97 #[.pointer (some ⟨E, 0, none⟩), .pointer (some ⟨F, 0, none⟩)] (.panicking ({ v := .iface 159 (.agg #[]), recovered := false } :: older)) w fun e u' w' =>
      e = .returned (.tuple #[]) ∧ u' = .panicking ({ v := .iface 159 (.agg #[]), recovered := true } :: older) ∧ w' = (((((((w.setCell ⟨E, 0, none⟩ (.int .i64 0)).setCell ⟨E, 1, none⟩ (.int .i64 0)).setCell ⟨E, 2, none⟩ (.string ⟨#[]⟩)).setCell ⟨E, 3, none⟩ (.string ⟨#[]⟩)).setCell ⟨E, 4, none⟩ (.pointer none)).setCell ⟨E, 5, none⟩ (.slice none 0 0)).setCell ⟨F, 0, none⟩ (.iface 23 (.int .i64 1))).alloc (.cells #[] 159) := by
  have hl : E < w.heap.size := block_lt_of_cell h.c0
  have hl2 : F < w.heap.size := block_lt_of_cell hF
  have hne2 : F ≠ E := hne.symm
  obtain ⟨c0, c1, c2, c3, c4, c5, z0, z1, z2, z3, z4, z5⟩ := h
  have hta : ∀ w, (Instr.typeAssert (.iface 159 (.agg #[])) 20 159 true).run Tryz.prog w = .ok (.tuple #[.agg #[], .bool true]) w := fun _ => by kernel_rfl
  refine callsD_of_wpS Tryz.func97 rfl fun c₀ cs hu => ?_
  apply wpS_seq
  apply wpS_region
  simp [wpOpsS, go_sem, recoverD, hu, Tryz.ntmps97]
  refine wpS_of_wp ?_
  go_wp2_with fail
  cases c₀
  simp [bodyPostS, results, Tryz.results97]
/-- What read tells. -/
def ReadPost (w : World) (P : List Nd) (e : Ending) (w' : World) : Prop :=
  Below w.heap.size w w' ∧ ∃ (o n : Int) (s t : ByteArray) (p A : Option Addr) (m c : Nat), e = .returned (.tuple #[.agg #[.int .i64 o, .int .i64 n, .string s, .string t, .pointer p, .slice A m c], errV (kindFault P)]) ∧
    (kindFault P = 0 → ∃ k, k.valid ∧ P = k.flat ∧ KAt w' (fun b => w.heap.size ≤ b) k [.int .i64 o, .int .i64 n, .string s, .string t, .pointer p, .slice A m c])
set_option maxHeartbeats 4000000 in
theorem read_full (A : Option Addr) (n c : Nat) (P : List Nd) (w : World) (hn : n = P.length) (hm : n ≤ maxLen) (h : 200 < n) :
    Calls Tryz.prog 45 #[.slice A n c] w (ReadPost w P) := by
  have HF := Lib.hid (show kindFault P = 4 by unfold kindFault; rw [if_pos (by omega)])
  unfold maxLen at hm
  clear hn
  go_enter_defers Tryz.func45, Tryz.ntmps45
  go_wp2_with fail
  simp [bodyPostD, Leaves, results, Tryz.results45, go_sem]
  refine ⟨(below_box w _).trans ((below_box _ _).mono (by simp)), 0, 0, ⟨#[]⟩, ⟨#[]⟩, none, none, 0, 0, by rw [HF.out]; rfl, fun h => ?_⟩
  rw [HF.out] at h
  cases h
/-- The worlds behind kind: k, err and the reader lie there. -/
theorem read_worlds {w w1 : World} (v : Value) (h : (((w.alloc (.cells #[.int .i64 0, .int .i64 0, .string ⟨#[]⟩, .string ⟨#[]⟩, .pointer none, .slice none 0 0] 85)).alloc (.cells #[.nilIface] 27)).alloc (.cells #[v] 162)).grownBy w1 (some (w.heap.size + 2))) :
    Below w.heap.size w w1 ∧ Bx6 w1 w.heap.size (.int .i64 0) (.int .i64 0) (.string ⟨#[]⟩) (.string ⟨#[]⟩) (.pointer none) (.slice none 0 0) ∧ w1.cell? ⟨w.heap.size + 1, 0, none⟩ = some .nilIface ∧ w1.frozen? ⟨w.heap.size + 1, 0, none⟩ = false ∧ w.heap.size + 3 ≤ w1.heap.size := by
  have hX := ((bx6_new w (.int .i64 0) (.int .i64 0) (.string ⟨#[]⟩) (.string ⟨#[]⟩) (.pointer none) (.slice none 0 0) 85).keep (below_box _ (.cells #[.nilIface] 27))).keep (below_box _ (.cells #[v] 162))
  have hz1 : (w.alloc (.cells #[.int .i64 0, .int .i64 0, .string ⟨#[]⟩, .string ⟨#[]⟩, .pointer none, .slice none 0 0] 85)).heap.size = w.heap.size + 1 := by simp
  have hz2 : ((w.alloc (.cells #[.int .i64 0, .int .i64 0, .string ⟨#[]⟩, .string ⟨#[]⟩, .pointer none, .slice none 0 0] 85)).alloc (.cells #[.nilIface] 27)).heap.size = w.heap.size + 2 := by simp
  have hz3 : (((w.alloc (.cells #[.int .i64 0, .int .i64 0, .string ⟨#[]⟩, .string ⟨#[]⟩, .pointer none, .slice none 0 0] 85)).alloc (.cells #[.nilIface] 27)).alloc (.cells #[v] 162)).heap.size = w.heap.size + 3 := by simp
  have hE := cell_keep (below_box _ (.cells #[v] 162)) (cell_new (w.alloc (.cells #[.int .i64 0, .int .i64 0, .string ⟨#[]⟩, .string ⟨#[]⟩, .pointer none, .slice none 0 0] 85)) #[.nilIface] 27 0 (v := .nilIface) rfl)
  rw [hz1] at hE
  have hF : (((w.alloc (.cells #[.int .i64 0, .int .i64 0, .string ⟨#[]⟩, .string ⟨#[]⟩, .pointer none, .slice none 0 0] 85)).alloc (.cells #[.nilIface] 27)).alloc (.cells #[v] 162)).frozen? ⟨w.heap.size + 1, 0, none⟩ = false := by
    rw [(below_box _ _).frozen (p := ⟨w.heap.size + 1, 0, none⟩) (by rw [hz2]; exact Nat.lt_succ_self _)]
    simp
  have hne1 : some w.heap.size ≠ some (w.heap.size + 2) := fun e => by injection e with e; omega
  have hne2 : some (w.heap.size + 1) ≠ some (w.heap.size + 2) := fun e => by injection e with e; omega
  refine ⟨⟨h.os, h.tape, h.output, ?_, fun k hk => ?_⟩, hX.but h hne1, h.cell hE hne2, (World.frozen?_of_block (a := ⟨w.heap.size + 1, 0, none⟩) (h.block (w.heap.size + 1) (by rw [hz3]; omega) hne2)).trans hF, by rw [← hz3]; exact h.size⟩
  · have := h.size; rw [hz3] at this; omega
  · rw [h.block k (by rw [hz3]; omega) (fun e => by injection e with e; omega), (below_box _ _).block k (by rw [hz2]; omega), (below_box _ _).block k (by rw [hz1]; omega), (below_box _ _).block k hk]
set_option maxHeartbeats 4000000 in
theorem read_rest (A : Option Addr) (n c : Nat) (P : List Nd) (w : World) (hns : Ns w A n c P) (h : ¬ 200 < n) :
    Calls Tryz.prog 45 #[.slice A n c] w (ReadPost w P) := by
  have hn : n = P.length := hns.len
  have hm := hns.max
  have hcm := hns.cap
  unfold maxLen at hm
  have HPK := Lib.hid (show kindFault P = if (readK P).isSome then 0 else 1 by unfold kindFault; rw [if_neg (by omega)])
  have HRK := Lib.hid (show readK P = (match parseK 200 P with | some (k, []) => some k | _ => none) by unfold readK; rw [parse_fuel (n := P.length) (n' := 200) (Nat.le_refl _) (by omega)]; rcases parseK 200 P with _ | ⟨k, _ | _⟩ <;> rfl)
  have hz1 : (w.alloc (.cells #[.int .i64 0, .int .i64 0, .string ⟨#[]⟩, .string ⟨#[]⟩, .pointer none, .slice none 0 0] 85)).heap.size = w.heap.size + 1 := by simp
  have hz2 : ((w.alloc (.cells #[.int .i64 0, .int .i64 0, .string ⟨#[]⟩, .string ⟨#[]⟩, .pointer none, .slice none 0 0] 85)).alloc (.cells #[.nilIface] 27)).heap.size = w.heap.size + 2 := by simp
  have hb3 : Below w.heap.size w (((w.alloc (.cells #[.int .i64 0, .int .i64 0, .string ⟨#[]⟩, .string ⟨#[]⟩, .pointer none, .slice none 0 0] 85)).alloc (.cells #[.nilIface] 27)).alloc (.cells #[.slice A n c] 162)) :=
    (below_box w _).trans (((below_box _ _).trans ((below_box _ _).mono (by rw [hz2, hz1]; omega))).mono (by rw [hz1]; omega))
  have hrd : RdK (((w.alloc (.cells #[.int .i64 0, .int .i64 0, .string ⟨#[]⟩, .string ⟨#[]⟩, .pointer none, .slice none 0 0] 85)).alloc (.cells #[.nilIface] 27)).alloc (.cells #[.slice A n c] 162)) (w.heap.size + 2) P := by
    refine ⟨⟨A, n, c, ?_, hns.keep hb3, fun h0 a e => ?_⟩, ?_⟩
    · have := cell_new ((w.alloc (.cells #[.int .i64 0, .int .i64 0, .string ⟨#[]⟩, .string ⟨#[]⟩, .pointer none, .slice none 0 0] 85)).alloc (.cells #[.nilIface] 27)) #[.slice A n c] 162 0 (v := .slice A n c) rfl
      rwa [hz2] at this
    · have := hns.at_.lt h0 a e; omega
    · exact World.frozen?_alloc_at _ _ _ _ hz2.symm
  have C := Lib.hid (kind_all (w.heap.size + 2) 200 (by omega) P _ hrd (by omega))
  have hmf : ∀ (fn : Fn) (first cap : Array Value) (w : World), (Instr.makeFunc fn first cap).run Tryz.prog w = .ok (.func fn first cap) w := fun _ _ _ _ => rfl
  clear hrd hb3 hz1 hz2 hn
  go_enter_defers Tryz.func45, Tryz.ntmps45
  go_wp2_with fail
  refine C.out.mono ?_
  intro e w1 hpost
  rcases hp : parseK 200 P with _ | ⟨k, r⟩
  · rw [hp] at hpost
    obtain ⟨rfl, g1⟩ := hpost
    have HF := Lib.hid (show kindFault P = 1 by rw [HPK.out, HRK.out, hp]; rfl)
    obtain ⟨b1, x1, c1, f1, z1⟩ := read_worlds _ g1
    clear g1 hp HPK HRK C
    go_wp2_with fail
    refine leaves_cons (f := 97) (args := #[.pointer (some ⟨w.heap.size, 0, none⟩), .pointer (some ⟨w.heap.size + 1, 0, none⟩)]) (by simp) (by simp [go_sem]) ?_
    refine (read_caught w.heap.size (w.heap.size + 1) _ _ _ _ _ _ _ [] w1 x1 c1 f1 (by omega)).mono ?_
    rintro e u' w2 ⟨rfl, rfl, rfl⟩
    have hl : w.heap.size < w1.heap.size := by omega
    have hl2 : w.heap.size + 1 < w1.heap.size := by omega
    obtain ⟨y0, y1, y2, y3, y4, y5, -, -, -, -, -, -⟩ := x1.set (.int .i64 0) (.int .i64 0) (.string ⟨#[]⟩) (.string ⟨#[]⟩) (.pointer none) (.slice none 0 0)
    simp [Leaves, settle, results, Tryz.results45, go_sem, c1, x1.c0, x1.c1, x1.c2, x1.c3, x1.c4, x1.c5, hl, hl2]
    refine ⟨((below_set6 b1 (Nat.le_refl _) _ _ _ _ _ _).setCell (p := ⟨w.heap.size + 1, 0, none⟩) (Nat.le_succ _) _).alloc (by simp [World.setCell]; omega) _, 0, 0, ⟨#[]⟩, ⟨#[]⟩, none, none, 0, 0, by rw [HF.out]; rfl, fun h => ?_⟩
    rw [HF.out] at h
    cases h
  · rw [hp] at hpost
    obtain ⟨v, rfl, hk, hr, g1⟩ := hpost
    obtain ⟨o, nn, s0, t0, pp, A1, m1, cc, rfl⟩ := kat_shape hk
    have HV := Lib.hid ((parse_sound _).1 _ _ _ hp)
    obtain ⟨b1, x1, c1, f1, z1⟩ := read_worlds _ g1
    obtain ⟨⟨A2, n2, c2, rc, rns, -⟩, -⟩ := hr
    have hn2 : n2 = r.length := rns.len
    have hl0 : w.heap.size < w1.heap.size := by omega
    have hl1 : w.heap.size + 1 < w1.heap.size := by omega
    have hl2 : w.heap.size + 2 < w1.heap.size := by omega
    have HK := Lib.hid (hk.mono (B' := fun b => w.heap.size + 3 ≤ b) fun b h1 _ => by simpa using h1)
    clear g1 C rns hk
    have HX := Lib.hid x1
    obtain ⟨x0', x1', x2', x3', x4', x5', q0, q1, q2, q3, q4, q5⟩ := x1
    cases r with
    | nil =>
      have HF := Lib.hid (show kindFault P = 0 by rw [HPK.out, HRK.out, hp]; rfl)
      simp only [List.length_nil] at hn2
      subst hn2
      clear hp HPK HRK
      go_wp2_with fail
      refine leaves_cons (f := 97) (args := #[.pointer (some ⟨w.heap.size, 0, none⟩), .pointer (some ⟨w.heap.size + 1, 0, none⟩)]) (by simp) (by simp [go_sem]) ?_
      refine (read_idle ⟨w.heap.size, 0, none⟩ ⟨w.heap.size + 1, 0, none⟩ _).mono ?_
      rintro e u' w2 ⟨rfl, rfl, rfl⟩
      have gg := grown_trans (grown_set6 w1 w.heap.size (.int .i64 o) (.int .i64 nn) (.string s0) (.string t0) (.pointer pp) (.slice A1 m1 cc)) (grown_set6 ((((((w1.setCell ⟨w.heap.size, 0, none⟩ (.int .i64 o)).setCell ⟨w.heap.size, 1, none⟩ (.int .i64 nn)).setCell ⟨w.heap.size, 2, none⟩ (.string s0)).setCell ⟨w.heap.size, 3, none⟩ (.string t0)).setCell ⟨w.heap.size, 4, none⟩ (.pointer pp)).setCell ⟨w.heap.size, 5, none⟩ (.slice A1 m1 cc)) w.heap.size (.int .i64 o) (.int .i64 nn) (.string s0) (.string t0) (.pointer pp) (.slice A1 m1 cc))
      have hne : some (w.heap.size + 1) ≠ some w.heap.size := fun e => by injection e with e; omega
      have Y := ((HX.out.set (.int .i64 o) (.int .i64 nn) (.string s0) (.string t0) (.pointer pp) (.slice A1 m1 cc)).set (.int .i64 o) (.int .i64 nn) (.string s0) (.string t0) (.pointer pp) (.slice A1 m1 cc)).but (grown_setCell _ ⟨w.heap.size + 1, 0, none⟩ .nilIface) (fun e => hne e.symm)
      have eF := World.cell?_setCell_same _ _ .nilIface (gg.cell (a := ⟨w.heap.size + 1, 0, none⟩) c1 hne)
      have BW : Below w.heap.size w (((((((((((((w1.setCell ⟨w.heap.size, 0, none⟩ (.int .i64 o)).setCell ⟨w.heap.size, 1, none⟩ (.int .i64 nn)).setCell ⟨w.heap.size, 2, none⟩ (.string s0)).setCell ⟨w.heap.size, 3, none⟩ (.string t0)).setCell ⟨w.heap.size, 4, none⟩ (.pointer pp)).setCell ⟨w.heap.size, 5, none⟩ (.slice A1 m1 cc)).setCell ⟨w.heap.size, 0, none⟩ (.int .i64 o)).setCell ⟨w.heap.size, 1, none⟩ (.int .i64 nn)).setCell ⟨w.heap.size, 2, none⟩ (.string s0)).setCell ⟨w.heap.size, 3, none⟩ (.string t0)).setCell ⟨w.heap.size, 4, none⟩ (.pointer pp)).setCell ⟨w.heap.size, 5, none⟩ (.slice A1 m1 cc)).setCell ⟨w.heap.size + 1, 0, none⟩ .nilIface) := (below_set6 (below_set6 b1 (Nat.le_refl _) (.int .i64 o) (.int .i64 nn) (.string s0) (.string t0) (.pointer pp) (.slice A1 m1 cc)) (Nat.le_refl _) (.int .i64 o) (.int .i64 nn) (.string s0) (.string t0) (.pointer pp) (.slice A1 m1 cc)).setCell (p := ⟨w.heap.size + 1, 0, none⟩) (Nat.le_succ _) .nilIface
      have KW : ∀ b, w.heap.size + 3 ≤ b → (((((((((((((w1.setCell ⟨w.heap.size, 0, none⟩ (.int .i64 o)).setCell ⟨w.heap.size, 1, none⟩ (.int .i64 nn)).setCell ⟨w.heap.size, 2, none⟩ (.string s0)).setCell ⟨w.heap.size, 3, none⟩ (.string t0)).setCell ⟨w.heap.size, 4, none⟩ (.pointer pp)).setCell ⟨w.heap.size, 5, none⟩ (.slice A1 m1 cc)).setCell ⟨w.heap.size, 0, none⟩ (.int .i64 o)).setCell ⟨w.heap.size, 1, none⟩ (.int .i64 nn)).setCell ⟨w.heap.size, 2, none⟩ (.string s0)).setCell ⟨w.heap.size, 3, none⟩ (.string t0)).setCell ⟨w.heap.size, 4, none⟩ (.pointer pp)).setCell ⟨w.heap.size, 5, none⟩ (.slice A1 m1 cc)).setCell ⟨w.heap.size + 1, 0, none⟩ .nilIface).heap[b]? = w1.heap[b]? := fun b hb => by
        rw [Below.heap_setCell _ _ _ b (show b ≠ w.heap.size + 1 by omega), heap_set6 _ _ _ _ _ _ _ _ (by omega), heap_set6 _ _ _ _ _ _ _ _ (by omega)]
      obtain ⟨W, hW⟩ : ∃ W, (((((((((((((w1.setCell ⟨w.heap.size, 0, none⟩ (.int .i64 o)).setCell ⟨w.heap.size, 1, none⟩ (.int .i64 nn)).setCell ⟨w.heap.size, 2, none⟩ (.string s0)).setCell ⟨w.heap.size, 3, none⟩ (.string t0)).setCell ⟨w.heap.size, 4, none⟩ (.pointer pp)).setCell ⟨w.heap.size, 5, none⟩ (.slice A1 m1 cc)).setCell ⟨w.heap.size, 0, none⟩ (.int .i64 o)).setCell ⟨w.heap.size, 1, none⟩ (.int .i64 nn)).setCell ⟨w.heap.size, 2, none⟩ (.string s0)).setCell ⟨w.heap.size, 3, none⟩ (.string t0)).setCell ⟨w.heap.size, 4, none⟩ (.pointer pp)).setCell ⟨w.heap.size, 5, none⟩ (.slice A1 m1 cc)).setCell ⟨w.heap.size + 1, 0, none⟩ .nilIface) = W := ⟨_, rfl⟩
      rw [hW] at Y eF BW KW ⊢
      clear hW gg
      obtain ⟨y0, y1, y2, y3, y4, y5, -, -, -, -, -, -⟩ := Y
      simp [Leaves, settle, results, Tryz.results45, go_sem, y0, y1, y2, y3, y4, y5, eF]
      refine ⟨BW, o, nn, s0, t0, pp, A1, m1, cc, by rw [HF.out]; rfl, fun _ => ⟨k, HV.out.1, by simpa using HV.out.2, ?_⟩⟩
      exact (HK.out.cong fun b hb => KW b hb).mono fun b hb _ => by omega
    | cons x r =>
      have HF := Lib.hid (show kindFault P = 1 by rw [HPK.out, HRK.out, hp]; rfl)
      have hn3 : 0 < n2 := by rw [hn2, List.length_cons]; omega
      clear hp HPK HRK hn2
      go_wp2_with fail
      refine leaves_cons (f := 97) (args := #[.pointer (some ⟨w.heap.size, 0, none⟩), .pointer (some ⟨w.heap.size + 1, 0, none⟩)]) (by simp) (by simp [go_sem]) ?_
      refine (read_idle ⟨w.heap.size, 0, none⟩ ⟨w.heap.size + 1, 0, none⟩ _).mono ?_
      rintro e u' w2 ⟨rfl, rfl, rfl⟩
      have gg := grown_trans (grown_set6 w1 w.heap.size (.int .i64 o) (.int .i64 nn) (.string s0) (.string t0) (.pointer pp) (.slice A1 m1 cc)) (grown_set6 ((((((w1.setCell ⟨w.heap.size, 0, none⟩ (.int .i64 o)).setCell ⟨w.heap.size, 1, none⟩ (.int .i64 nn)).setCell ⟨w.heap.size, 2, none⟩ (.string s0)).setCell ⟨w.heap.size, 3, none⟩ (.string t0)).setCell ⟨w.heap.size, 4, none⟩ (.pointer pp)).setCell ⟨w.heap.size, 5, none⟩ (.slice A1 m1 cc)) w.heap.size (.int .i64 0) (.int .i64 0) (.string ⟨#[]⟩) (.string ⟨#[]⟩) (.pointer none) (.slice none 0 0))
      have hne : some (w.heap.size + 1) ≠ some w.heap.size := fun e => by injection e with e; omega
      have Y := ((HX.out.set (.int .i64 o) (.int .i64 nn) (.string s0) (.string t0) (.pointer pp) (.slice A1 m1 cc)).set (.int .i64 0) (.int .i64 0) (.string ⟨#[]⟩) (.string ⟨#[]⟩) (.pointer none) (.slice none 0 0)).but (grown_setCell _ ⟨w.heap.size + 1, 0, none⟩ (.iface 23 (.int .i64 1))) (fun e => hne e.symm)
      have eF := World.cell?_setCell_same _ _ (.iface 23 (.int .i64 1)) (gg.cell (a := ⟨w.heap.size + 1, 0, none⟩) c1 hne)
      have BW : Below w.heap.size w (((((((((((((w1.setCell ⟨w.heap.size, 0, none⟩ (.int .i64 o)).setCell ⟨w.heap.size, 1, none⟩ (.int .i64 nn)).setCell ⟨w.heap.size, 2, none⟩ (.string s0)).setCell ⟨w.heap.size, 3, none⟩ (.string t0)).setCell ⟨w.heap.size, 4, none⟩ (.pointer pp)).setCell ⟨w.heap.size, 5, none⟩ (.slice A1 m1 cc)).setCell ⟨w.heap.size, 0, none⟩ (.int .i64 0)).setCell ⟨w.heap.size, 1, none⟩ (.int .i64 0)).setCell ⟨w.heap.size, 2, none⟩ (.string ⟨#[]⟩)).setCell ⟨w.heap.size, 3, none⟩ (.string ⟨#[]⟩)).setCell ⟨w.heap.size, 4, none⟩ (.pointer none)).setCell ⟨w.heap.size, 5, none⟩ (.slice none 0 0)).setCell ⟨w.heap.size + 1, 0, none⟩ (.iface 23 (.int .i64 1))) := (below_set6 (below_set6 b1 (Nat.le_refl _) (.int .i64 o) (.int .i64 nn) (.string s0) (.string t0) (.pointer pp) (.slice A1 m1 cc)) (Nat.le_refl _) (.int .i64 0) (.int .i64 0) (.string ⟨#[]⟩) (.string ⟨#[]⟩) (.pointer none) (.slice none 0 0)).setCell (p := ⟨w.heap.size + 1, 0, none⟩) (Nat.le_succ _) (.iface 23 (.int .i64 1))
      have KW : ∀ b, w.heap.size + 3 ≤ b → (((((((((((((w1.setCell ⟨w.heap.size, 0, none⟩ (.int .i64 o)).setCell ⟨w.heap.size, 1, none⟩ (.int .i64 nn)).setCell ⟨w.heap.size, 2, none⟩ (.string s0)).setCell ⟨w.heap.size, 3, none⟩ (.string t0)).setCell ⟨w.heap.size, 4, none⟩ (.pointer pp)).setCell ⟨w.heap.size, 5, none⟩ (.slice A1 m1 cc)).setCell ⟨w.heap.size, 0, none⟩ (.int .i64 0)).setCell ⟨w.heap.size, 1, none⟩ (.int .i64 0)).setCell ⟨w.heap.size, 2, none⟩ (.string ⟨#[]⟩)).setCell ⟨w.heap.size, 3, none⟩ (.string ⟨#[]⟩)).setCell ⟨w.heap.size, 4, none⟩ (.pointer none)).setCell ⟨w.heap.size, 5, none⟩ (.slice none 0 0)).setCell ⟨w.heap.size + 1, 0, none⟩ (.iface 23 (.int .i64 1))).heap[b]? = w1.heap[b]? := fun b hb => by
        rw [Below.heap_setCell _ _ _ b (show b ≠ w.heap.size + 1 by omega), heap_set6 _ _ _ _ _ _ _ _ (by omega), heap_set6 _ _ _ _ _ _ _ _ (by omega)]
      obtain ⟨W, hW⟩ : ∃ W, (((((((((((((w1.setCell ⟨w.heap.size, 0, none⟩ (.int .i64 o)).setCell ⟨w.heap.size, 1, none⟩ (.int .i64 nn)).setCell ⟨w.heap.size, 2, none⟩ (.string s0)).setCell ⟨w.heap.size, 3, none⟩ (.string t0)).setCell ⟨w.heap.size, 4, none⟩ (.pointer pp)).setCell ⟨w.heap.size, 5, none⟩ (.slice A1 m1 cc)).setCell ⟨w.heap.size, 0, none⟩ (.int .i64 0)).setCell ⟨w.heap.size, 1, none⟩ (.int .i64 0)).setCell ⟨w.heap.size, 2, none⟩ (.string ⟨#[]⟩)).setCell ⟨w.heap.size, 3, none⟩ (.string ⟨#[]⟩)).setCell ⟨w.heap.size, 4, none⟩ (.pointer none)).setCell ⟨w.heap.size, 5, none⟩ (.slice none 0 0)).setCell ⟨w.heap.size + 1, 0, none⟩ (.iface 23 (.int .i64 1))) = W := ⟨_, rfl⟩
      rw [hW] at Y eF BW KW ⊢
      clear hW gg
      obtain ⟨y0, y1, y2, y3, y4, y5, -, -, -, -, -, -⟩ := Y
      simp [Leaves, settle, results, Tryz.results45, go_sem, y0, y1, y2, y3, y4, y5, eF]
      refine ⟨BW, 0, 0, ⟨#[]⟩, ⟨#[]⟩, none, none, 0, 0, by rw [HF.out]; rfl, fun h => ?_⟩
      rw [HF.out] at h
      cases h
/-- Nodes as a type, or what is wrong. -/
theorem kinds_read (A : Option Addr) (n c : Nat) (P : List Nd) (w : World) (hns : Ns w A n c P) : Calls Tryz.prog 45 #[.slice A n c] w (ReadPost w P) := by
  by_cases h : 200 < n
  · exact read_full A n c P w hns.len hns.max h
  · exact read_rest A n c P w hns h
end Go.Proofs.YtmekockjgldndaaGreatDoor
namespace Go.Proofs.YtmekockjgldndaaGreatDoor
open Go.RowKit Go.Wk Go.Sort
set_option maxRecDepth 100000

/-- Two errors beside each other. -/
theorem kind_first (n m : Int) (ad : Addr) (w : World) (h0 : w.cell? ad = some (errV n)) (h1 : w.cell? ⟨ad.block, ad.off + 1, none⟩ = some (errV m)) :
    Calls Tryz.prog 52 #[.slice (some ad) 2 2] w fun e w' => e = .returned (errV (if n = 0 then m else n)) ∧ Below w.heap.size w w' := by
  obtain ⟨f, hf⟩ : ∃ f : Int, f = if n = 0 then m else n := ⟨_, rfl⟩
  rw [← hf]
  have HF := Lib.hid hf
  clear hf
  have H0 := Lib.hid h0
  have H1 := Lib.hid h1
  clear h0 h1
  go_enter Tryz.func52, Tryz.ntmps52
  go_wp2_with fail
  go_loopw [4, 7] (fun _ i wr => wr = w ∧ ((i = .int .i64 0) ∨ (i = .int .i64 1 ∧ n = 0) ∨ (i = .int .i64 2 ∧ n = 0 ∧ m = 0))) (fun _ i _ => 2 - (intOf i).toNat)
  case atStart => exact ⟨rfl, .inl rfl⟩
  case round =>
    obtain ⟨rfl, hrel⟩ := hrel
    rcases hrel with rfl | ⟨rfl, hn⟩ | ⟨rfl, hn, hm⟩
    · have h0 := H0.out
      by_cases hn : n = 0
      · have HN := Lib.hid hn
        rw [hn, errV_zero] at h0
        clear hn
        go_wp2_with fail
        go_roundw
        case rel => exact ⟨trivial, .inr (.inl ⟨rfl, HN.out⟩)⟩
        case measure => simp [intOf]
      · have HN := Lib.hid hn
        rw [errV_ne hn] at h0
        clear hn
        go_wp2_with fail
        go_ret
        exact ⟨by rw [HF.out, if_neg HN.out, errV_ne HN.out]; rfl, Below.refl _ _⟩
    · have h1 := H1.out
      have HN := Lib.hid hn
      clear hn
      by_cases hm : m = 0
      · have HM := Lib.hid hm
        rw [hm, errV_zero] at h1
        clear hm
        go_wp2_with fail
        go_roundw
        case rel => exact ⟨trivial, .inr (.inr ⟨rfl, HN.out, HM.out⟩)⟩
        case measure => simp [intOf]
      · have HM := Lib.hid hm
        rw [errV_ne hm] at h1
        clear hm
        go_wp2_with fail
        go_ret
        exact ⟨by rw [HF.out, if_pos HN.out, errV_ne HM.out]; rfl, Below.refl _ _⟩
    · have HN := Lib.hid hn
      have HM := Lib.hid hm
      clear hn hm
      go_wp2_with fail
      go_ret
      exact ⟨by rw [HF.out, if_pos HN.out, HM.out]; rfl, Below.refl _ _⟩
end Go.Proofs.YtmekockjgldndaaGreatDoor
