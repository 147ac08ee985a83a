/-
  The laws' op, at one, two, three parts.
  EvalMorgan: the walk of the law. (gen_evmor.py)
  EvalMorgan: the closed facts of the frame, one by one.
  EvalMorgan: the frame round the walk: for every input the law returns true, and each argument reads behind the call as it read before. No condition.
-/
import Derived.Deep.RegionHeld3
import Derived.SevenTiedAt
import Derived.Test.YtcdpoamiejompaaGreatDoorRows
import Derived.Test.YtcdpoamiejompaaGreatDoorCards
import Derived.Test.YtcdpoamiejompaaGreatDoorTie
import Derived.Test.YtcdpoamiejompaaGreatDoorQe32
namespace Go.Proofs.YtcdpoamiejompaaGreatDoor
open Go.RowKit Go.Wk Go.Sort
set_option maxRecDepth 100000

/-- What op tells: nodes in new blocks; their number has a name of its own. -/
def OpNs (w : World) (L : List Nd) (e : Ending) (w' : World) : Prop := ∃ A m c, e = .returned (.slice A m c) ∧ Ns w' A m c L ∧ Below w.heap.size w w'
theorem op_one (o : Int) (r : Sl) (w : World) (h : Ns w r.A r.n r.c r.P) (h0 : 0 < r.P.length) (hl : r.P.length ≤ 1000) :
    Calls Tryz.prog 20 #[.int .i64 o, .slice (some ⟨w.heap.size, 0, none⟩) 1 1] (w.alloc (.cells #[.slice r.A r.n r.c] 25)) (OpNs w (opN o :: r.P)) := by
  refine (law_op o (some ⟨w.heap.size, 0, none⟩) 1 1 [r] _ rfl (by omega) (sls_one w r h _) (by intro x hx; simp only [List.mem_cons, List.not_mem_nil, or_false] at hx; subst hx; exact h0) (by simpa using hl)).mono ?_
  rintro e w' ⟨A, c, rfl, hN, -, hb⟩
  rw [show ([r].map Sl.P).flatten = r.P by simp] at hN
  rw [show ([r].map Sl.P).flatten = r.P by simp]
  exact ⟨A, _, c, rfl, hN, (below_box w _).trans (hb.mono (by simp))⟩
theorem op_two (o : Int) (r s : Sl) (w : World) (h : Ns w r.A r.n r.c r.P) (k : Ns w s.A s.n s.c s.P) (h0 : 0 < r.P.length) (k0 : 0 < s.P.length) (hl : r.P.length + s.P.length ≤ 1000) :
    Calls Tryz.prog 20 #[.int .i64 o, .slice (some ⟨w.heap.size, 0, none⟩) 2 2] (w.alloc (.cells #[.slice r.A r.n r.c, .slice s.A s.n s.c] 25)) (OpNs w (opN o :: (r.P ++ s.P))) := by
  refine (law_op o (some ⟨w.heap.size, 0, none⟩) 2 2 [r, s] _ rfl (by omega) (sls_two w r s h k _) (by intro x hx; simp only [List.mem_cons, List.not_mem_nil, or_false] at hx; rcases hx with rfl | rfl <;> assumption) (by simpa using hl)).mono ?_
  rintro e w' ⟨A, c, rfl, hN, -, hb⟩
  rw [show ([r, s].map Sl.P).flatten = r.P ++ s.P by simp] at hN
  rw [show ([r, s].map Sl.P).flatten = r.P ++ s.P by simp]
  exact ⟨A, _, c, rfl, hN, (below_box w _).trans (hb.mono (by simp))⟩
theorem op_three (o : Int) (r s u : Sl) (w : World) (h : Ns w r.A r.n r.c r.P) (k : Ns w s.A s.n s.c s.P) (j : Ns w u.A u.n u.c u.P) (h0 : 0 < r.P.length) (k0 : 0 < s.P.length) (j0 : 0 < u.P.length) (hl : r.P.length + s.P.length + u.P.length ≤ 1000) :
    Calls Tryz.prog 20 #[.int .i64 o, .slice (some ⟨w.heap.size, 0, none⟩) 3 3] (w.alloc (.cells #[.slice r.A r.n r.c, .slice s.A s.n s.c, .slice u.A u.n u.c] 25)) (OpNs w (opN o :: (r.P ++ (s.P ++ u.P)))) := by
  refine (law_op o (some ⟨w.heap.size, 0, none⟩) 3 3 [r, s, u] _ rfl (by omega) (sls_three w r s u h k j _) (by intro x hx; simp only [List.mem_cons, List.not_mem_nil, or_false] at hx; rcases hx with rfl | rfl | rfl <;> assumption) (by simp; omega)).mono ?_
  rintro e w' ⟨A, c, rfl, hN, -, hb⟩
  rw [show ([r, s, u].map Sl.P).flatten = r.P ++ (s.P ++ u.P) by simp] at hN
  rw [show ([r, s, u].map Sl.P).flatten = r.P ++ (s.P ++ u.P) by simp]
  exact ⟨A, _, c, rfl, hN, (below_box w _).trans (hb.mono (by simp))⟩
/-- As op_one, op_two, where the parts lie already. -/
theorem op_sl1 (o : Int) (r : Sl) (A : Option Addr) (w : World) (h : SlsAt w A [r]) (h0 : 0 < r.P.length) (hl : r.P.length ≤ 1000) :
    Calls Tryz.prog 20 #[.int .i64 o, .slice A 1 1] w (OpNs w (opN o :: r.P)) := by
  refine (law_op o A 1 1 [r] w rfl (by omega) h (by intro x hx; simp only [List.mem_cons, List.not_mem_nil, or_false] at hx; subst hx; exact h0) (by simpa using hl)).mono ?_
  rintro e w' ⟨A, c, rfl, hN, -, hb⟩
  rw [show ([r].map Sl.P).flatten = r.P by simp] at hN
  rw [show ([r].map Sl.P).flatten = r.P by simp]
  exact ⟨A, _, c, rfl, hN, hb⟩
theorem op_sl2 (o : Int) (r s : Sl) (A : Option Addr) (w : World) (h : SlsAt w A [r, s]) (h0 : 0 < r.P.length) (k0 : 0 < s.P.length) (hl : r.P.length + s.P.length ≤ 1000) :
    Calls Tryz.prog 20 #[.int .i64 o, .slice A 2 2] w (OpNs w (opN o :: (r.P ++ s.P))) := by
  refine (law_op o A 2 2 [r, s] w rfl (by omega) h (by intro x hx; simp only [List.mem_cons, List.not_mem_nil, or_false] at hx; rcases hx with rfl | rfl <;> assumption) (by simpa using hl)).mono ?_
  rintro e w' ⟨A, c, rfl, hN, -, hb⟩
  rw [show ([r, s].map Sl.P).flatten = r.P ++ s.P by simp] at hN
  rw [show ([r, s].map Sl.P).flatten = r.P ++ s.P by simp]
  exact ⟨A, _, c, rfl, hN, hb⟩
theorem op_sl3 (o : Int) (r s u : Sl) (A : Option Addr) (w : World) (h : SlsAt w A [r, s, u]) (h0 : 0 < r.P.length) (k0 : 0 < s.P.length) (j0 : 0 < u.P.length) (hl : r.P.length + s.P.length + u.P.length ≤ 1000) :
    Calls Tryz.prog 20 #[.int .i64 o, .slice A 3 3] w (OpNs w (opN o :: (r.P ++ (s.P ++ u.P)))) := by
  refine (law_op o A 3 3 [r, s, u] w rfl (by omega) h (by intro x hx; simp only [List.mem_cons, List.not_mem_nil, or_false] at hx; rcases hx with rfl | rfl | rfl <;> assumption) (by simp; omega)).mono ?_
  rintro e w' ⟨A, c, rfl, hN, -, hb⟩
  rw [show ([r, s, u].map Sl.P).flatten = r.P ++ (s.P ++ u.P) by simp] at hN
  rw [show ([r, s, u].map Sl.P).flatten = r.P ++ (s.P ++ u.P) by simp]
  exact ⟨A, _, c, rfl, hN, hb⟩
/-- A request's cells, one by one. -/
theorem vq_and {w : World} {b : Nat} {q : Rq} (h : Vq w b q) : w.cell? ⟨b, 0, none⟩ = some (.string q.who.1) ∧ w.cell? ⟨b, 1, none⟩ = some (.string q.who.2) ∧ w.cell? ⟨b, 2, none⟩ = some (.string q.act.1) ∧ w.cell? ⟨b, 3, none⟩ = some (.string q.act.2) ∧ w.cell? ⟨b, 4, none⟩ = some (.string q.what.1) ∧ w.cell? ⟨b, 5, none⟩ = some (.string q.what.2) ∧ w.cell? ⟨b, 6, none⟩ = some (.slice q.NA q.nn q.nc) :=
  ⟨h.c0, h.c1, h.c2, h.c3, h.c4, h.c5, h.c6⟩
/-- Alike in thing and in fault. -/
theorem law_alike (A B : Option Addr) (n m c d : Nat) (r s : Res) (w : World) (e : r = s) (h : Ns w A n c (valV r)) (k : Ns w B m d (valV s)) (hg : Door w) :
    Calls Tryz.prog 26 #[.slice A n c, errV (valE r), .slice B m d, errV (valE s)] w fun r w' => r = .returned (.bool true) ∧ Below w.heap.size w w' := by
  subst e
  refine (law_same A B n m c d _ _ _ _ w h k hg).mono ?_
  rintro e w' ⟨rfl, hb⟩
  exact ⟨by rw [decide_eq_true (show cmpNds (valV r) (valV r) = 0 from cmpNds_cmp.self _)]; simp, hb⟩
theorem ex_pos {P : List Nd} (h : exFault P = 0) : 0 < P.length := by
  obtain ⟨-, x, -, rfl⟩ := ex_of h
  exact flatX_pos x
end Go.Proofs.YtcdpoamiejompaaGreatDoor
namespace Go.Proofs.YtcdpoamiejompaaGreatDoor
open Go.RowKit Go.Wk Go.Sort
set_option maxRecDepth 100000

set_option maxHeartbeats 16000000 in
theorem EvalMorgan_walk (A0 : Option Addr) (n0 c0 : Nat) (E : List En) (q : Rq) (A2 : Option Addr) (n2 c2 : Nat) (P2 : List Nd) (A3 : Option Addr) (n3 c3 : Nat) (P3 : List Nd) (w : World) (hE : Es w A0 n0 c0 E) (hq : RqOk w q) (h2 : Ns w A2 n2 c2 P2) (h3 : Ns w A3 n3 c3 P3) (hg : Door w) :
    Calls Tryz.prog 7 #[.slice A0 n0 c0, q.v, .slice A2 n2 c2, .slice A3 n3 c3] w fun e w' => e = .returned (.bool true) ∧ Below w.heap.size w w' := by
  have HF := Lib.hid (fun w' (hb : Below w.heap.size w w') => law_fact w' (hg.keep hb))
  have HVl := Lib.hid (fun (A : Option Addr) (n c : Nat) (P : List Nd) (w' : World) (hb : Below w.heap.size w w') (hP : Ns w' A n c P) => eval_Value A0 n0 c0 E q A n c P w' (hE.keep hb) (hq.keep hb) hP (hg.keep hb))
  have C2 := Lib.hid (fun w' (hb : Below w.heap.size w w') => tree_Check A2 n2 c2 P2 w' (h2.keep hb))
  have C3 := Lib.hid (fun w' (hb : Below w.heap.size w w') => tree_Check A3 n3 c3 P3 w' (h3.keep hb))
  have HG := Lib.hid hg
  have H2 := Lib.hid h2
  have H3 := Lib.hid h3
  have W0 := Lib.hid (vq_new w q 27)
  have B0 := Lib.hid (below_box w (.cells #[.string q.who.1, .string q.who.2, .string q.act.1, .string q.act.2, .string q.what.1, .string q.what.2, .slice q.NA q.nn q.nc] 27))
  unfold Rq.v at HVl ⊢
  unfold ValPost at HVl
  have hm2 := h2.max
  have hm3 := h3.max
  unfold maxLen at hm2 hm3
  have hl2 := h2.len
  have hl3 := h3.len
  have HL2 := Lib.hid hl2
  have HL3 := Lib.hid hl3
  clear hE hq h2 h3 hg hl2 hl3
  go_enter Tryz.func7, Tryz.ntmps7
  go_wp2_with fail
  refine (HF.out _ B0.out).mono ?_
  rintro e w1 ⟨rfl, b1⟩
  have B1 := bh B0 b1
  have W1 := Lib.hid (W0.out.keep b1)
  clear b1 B0 W0 HF
  go_wp2_with fail
  refine (C2.out _ B1.out).mono ?_
  rintro e w2 ⟨rfl, b2⟩
  have B2 := bh B1 b2
  have W2 := Lib.hid (W1.out.keep b2)
  clear b2 B1 W1 C2
  by_cases q2 : exFault P2 = 0
  case neg =>
    rw [errV_ne q2]
    clear q2
    go_wp2_with fail
    go_ret
    exact ⟨rfl, B2.out⟩
  rw [q2, errV_zero]
  go_wp2_with fail
  refine (C3.out _ B2.out).mono ?_
  rintro e w3 ⟨rfl, b3⟩
  have B3 := bh B2 b3
  have W3 := Lib.hid (W2.out.keep b3)
  clear b3 B2 W2 C3
  by_cases q3 : exFault P3 = 0
  case neg =>
    rw [errV_ne q3]
    clear q3
    go_wp2_with fail
    go_ret
    exact ⟨rfl, B3.out⟩
  rw [q3, errV_zero]
  have L2 := (ex_of q2).1
  have L3 := (ex_of q3).1
  rw [← HL2.out] at L2
  rw [← HL3.out] at L3
  by_cases hl : n2 + n3 + 3 ≤ 200
  case neg =>
    have f1 : (200 : Int) < (n2 : Int) + (n3 : Int) + 3 := by omega
    clear q2 q3
    go_wp2_with fail
    go_ret
    exact ⟨rfl, B3.out⟩
  have f1 : ¬ (200 : Int) < (n2 : Int) + (n3 : Int) + 3 := by omega
  have p2 : 0 < P2.length := ex_pos q2
  have p3 : 0 < P3.length := ex_pos q3
  have l23 : P2.length + P3.length ≤ 1000 := by rw [HL2.out, HL3.out] at hl; omega
  have l33 : P2.length + P3.length + 3 ≤ 200 := by rw [HL2.out, HL3.out] at hl; exact hl
  have le1 : (opN 9 :: (P2 ++ P3)).length ≤ 1000 := by simp only [List.length_cons, List.length_append]; rw [HL2.out, HL3.out] at hl; omega
  have le2 : (opN 9 :: opN 9 :: (P2 ++ P3)).length ≤ 1000 := by simp only [List.length_cons, List.length_append]; rw [HL2.out, HL3.out] at hl; omega
  have M1 := Lib.hid (show valueX ⟨E, q.who, q.act, q.what, q.P⟩ (opN 9 :: opN 11 :: (P2 ++ P3)) = valueX ⟨E, q.who, q.act, q.what, q.P⟩ (opN 12 :: (opN 9 :: P2 ++ opN 9 :: P3)) from morgan_value _ false q2 q3 l33)
  have M2 := Lib.hid (show valueX ⟨E, q.who, q.act, q.what, q.P⟩ (opN 9 :: opN 12 :: (P2 ++ P3)) = valueX ⟨E, q.who, q.act, q.what, q.P⟩ (opN 11 :: (opN 9 :: P2 ++ opN 9 :: P3)) from morgan_value _ true q2 q3 l33)
  have M3 := Lib.hid (show valueX ⟨E, q.who, q.act, q.what, q.P⟩ (opN 9 :: opN 9 :: opN 14 :: (P2 ++ P3)) = valueX ⟨E, q.who, q.act, q.what, q.P⟩ (opN 14 :: (P2 ++ P3)) from notnot_value _ q2 q3 l33)
  clear q2 q3
  have lp2 : P2.length ≤ 1000 := by omega
  have lp3 : P3.length ≤ 1000 := by omega
  have le4 : (opN 9 :: P2).length + (opN 9 :: P3).length ≤ 1000 := by simp only [List.length_cons]; rw [HL2.out, HL3.out] at hl; omega
  go_wp2_with fail
  have N2 := Lib.hid (H2.out.keep B3.out)
  have N3 := Lib.hid (H3.out.keep B3.out)
  have V3 := Lib.hid (W3.out.keep (below_drew w3))
  have bx : RowKit.Below w3.heap.size w3 (w3.alloc (.cells #[.slice A2 n2 c2, .slice A3 n3 c3] 25)).drew := (below_box w3 _).trans ((below_drew _).mono (below_box w3 _).size)
  have VX := Lib.hid (W3.out.keep bx)
  have BX := bh B3 bx
  have SX : SlsAt (w3.alloc (.cells #[.slice A2 n2 c2, .slice A3 n3 c3] 25)).drew (some ⟨w3.heap.size, 0, none⟩) [⟨A2, n2, c2, P2⟩, ⟨A3, n3, c3, P3⟩] := (sls_two w3 ⟨A2, n2, c2, P2⟩ ⟨A3, n3, c3, P3⟩ N2.out N3.out _).keep (below_drew _)
  have K0 := Lib.hid (op_sl2 11 ⟨A2, n2, c2, P2⟩ ⟨A3, n3, c3, P3⟩ _ _ SX p2 p3 l23)
  clear bx SX
  go_region_held3 (fun w' : World => w'.cell? ⟨w.heap.size, 0, none⟩ = some (.string q.who.1) ∧ w'.cell? ⟨w.heap.size, 1, none⟩ = some (.string q.who.2) ∧ w'.cell? ⟨w.heap.size, 2, none⟩ = some (.string q.act.1) ∧ w'.cell? ⟨w.heap.size, 3, none⟩ = some (.string q.act.2) ∧ w'.cell? ⟨w.heap.size, 4, none⟩ = some (.string q.what.1) ∧ w'.cell? ⟨w.heap.size, 5, none⟩ = some (.string q.what.2) ∧ w'.cell? ⟨w.heap.size, 6, none⟩ = some (.slice q.NA q.nn q.nc)) (first | (with_reducible exact vq_and V6.out) | (with_reducible exact vq_and Y5.out) | (with_reducible exact vq_and V5.out) | (with_reducible exact vq_and Y4.out) | (with_reducible exact vq_and V4.out) | (with_reducible exact vq_and VX.out) | (with_reducible exact vq_and V3.out)) (first
    | (go_at_call 12; refine (HVl.out A5 m5 c5 (opN 9 :: opN 11 :: (P2 ++ P3)) w5 B5.out N5.out).mono ?_; rintro e w6 ⟨A6, m6, c6, rfl, hN, b6⟩; have N6 := Lib.hid hN; have B6 := bh B5 b6; have V6 := Lib.hid (V5.out.keep b6))
    | (go_at_call 20; refine (op_one 9 ⟨A4, m4, c4, opN 11 :: (P2 ++ P3)⟩ w4 N4.out (Nat.succ_pos _) le1).mono ?_; rintro e w5 ⟨A5, m5, c5, rfl, hN, b5⟩; have N5 := Lib.hid hN; have B5 := bh B4 b5; have V5 := Lib.hid (V4.out.keep b5); have Y5 := Lib.hid (V5.out.keep (below_box w5 (.cells #[.slice A5 m5 c5] 25))))
    | (go_at_call 20; (with_reducible refine K0.out.mono ?_); rintro e w4 ⟨A4, m4, c4, rfl, hN, b4⟩; have N4 := Lib.hid hN; have B4 := bh BX b4; have V4 := Lib.hid (VX.out.keep b4); have Y4 := Lib.hid (V4.out.keep (below_box w4 (.cells #[.slice A4 m4 c4] 25)))))
  have W6 := V6
  clear N2 N3 V3 VX V4 Y4 V5 Y5 BX K0 N4 N5
  go_wp2_with fail
  have Q6 := Lib.hid (Below.refl w6.heap.size w6)
  have N2 := Lib.hid (H2.out.keep B6.out)
  have N3 := Lib.hid (H3.out.keep B6.out)
  have V6 := Lib.hid (W6.out.keep (below_drew w6))
  have bx : RowKit.Below w6.heap.size w6 (w6.alloc (.cells #[.slice A2 n2 c2] 25)).drew := (below_box w6 _).trans ((below_drew _).mono (below_box w6 _).size)
  have VX := Lib.hid (W6.out.keep bx)
  have BX := bh B6 bx; have QX := bh Q6 bx
  have SX : SlsAt (w6.alloc (.cells #[.slice A2 n2 c2] 25)).drew (some ⟨w6.heap.size, 0, none⟩) [⟨A2, n2, c2, P2⟩] := (sls_one w6 ⟨A2, n2, c2, P2⟩ N2.out _).keep (below_drew _)
  have K0 := Lib.hid (op_sl1 9 ⟨A2, n2, c2, P2⟩ _ _ SX p2 lp2)
  clear bx SX
  have by2 : RowKit.Below w6.heap.size w6 ((w6.alloc (.cells #[.slice A2 n2 c2] 25)).alloc (.cells #[.slice A3 n3 c3] 25)).drew := ((below_box w6 _).trans ((below_box (w6.alloc (.cells #[.slice A2 n2 c2] 25)) _).mono (below_box w6 _).size)).trans ((below_drew _).mono (Nat.le_trans (below_box w6 _).size (below_box (w6.alloc (.cells #[.slice A2 n2 c2] 25)) _).size))
  have VZ := Lib.hid (W6.out.keep by2)
  have BZ := bh B6 by2; have QZ := bh Q6 by2
  have SX : SlsAt ((w6.alloc (.cells #[.slice A2 n2 c2] 25)).alloc (.cells #[.slice A3 n3 c3] 25)).drew (some ⟨w6.heap.size, 0, none⟩) [⟨A2, n2, c2, P2⟩] := ((sls_one w6 ⟨A2, n2, c2, P2⟩ N2.out _).keep (below_box _ _)).keep (below_drew _)
  have SY : SlsAt ((w6.alloc (.cells #[.slice A2 n2 c2] 25)).alloc (.cells #[.slice A3 n3 c3] 25)).drew (some ⟨w6.heap.size + 1, 0, none⟩) [⟨A3, n3, c3, P3⟩] := by
    have h := sls_one (w6.alloc (.cells #[.slice A2 n2 c2] 25)) ⟨A3, n3, c3, P3⟩ (N3.out.keep (below_box _ _)) 25
    rw [show (w6.alloc (.cells #[.slice A2 n2 c2] 25)).heap.size = w6.heap.size + 1 from by simp [go_sem]] at h
    exact h.keep (below_drew _)
  have K2 := Lib.hid (op_sl1 9 ⟨A2, n2, c2, P2⟩ _ _ SX p2 lp2)
  have K3 := Lib.hid (fun w' hb => op_sl1 9 ⟨A3, n3, c3, P3⟩ _ w' (SY.keep hb) p3 lp3)
  clear by2 SX SY
  have bv : RowKit.Below w6.heap.size w6 (w6.alloc (.cells #[.slice A3 n3 c3] 25)).drew := (below_box w6 _).trans ((below_drew _).mono (below_box w6 _).size)
  have VB := Lib.hid (W6.out.keep bv)
  have bv2 : RowKit.Below w6.heap.size w6 ((w6.alloc (.cells #[.slice A3 n3 c3] 25)).alloc (.cells #[.slice A2 n2 c2] 25)).drew := ((below_box w6 _).trans ((below_box (w6.alloc (.cells #[.slice A3 n3 c3] 25)) _).mono (below_box w6 _).size)).trans ((below_drew _).mono (Nat.le_trans (below_box w6 _).size (below_box (w6.alloc (.cells #[.slice A3 n3 c3] 25)) _).size))
  have VC := Lib.hid (W6.out.keep bv2)
  have BC := bh B6 bv2; have QC := bh Q6 bv2
  have SY : SlsAt ((w6.alloc (.cells #[.slice A3 n3 c3] 25)).alloc (.cells #[.slice A2 n2 c2] 25)).drew (some ⟨w6.heap.size, 0, none⟩) [⟨A3, n3, c3, P3⟩] := ((sls_one w6 ⟨A3, n3, c3, P3⟩ N3.out _).keep (below_box _ _)).keep (below_drew _)
  have SX : SlsAt ((w6.alloc (.cells #[.slice A3 n3 c3] 25)).alloc (.cells #[.slice A2 n2 c2] 25)).drew (some ⟨w6.heap.size + 1, 0, none⟩) [⟨A2, n2, c2, P2⟩] := by
    have h := sls_one (w6.alloc (.cells #[.slice A3 n3 c3] 25)) ⟨A2, n2, c2, P2⟩ (N2.out.keep (below_box _ _)) 25
    rw [show (w6.alloc (.cells #[.slice A3 n3 c3] 25)).heap.size = w6.heap.size + 1 from by simp [go_sem]] at h
    exact h.keep (below_drew _)
  have K4 := Lib.hid (op_sl1 9 ⟨A2, n2, c2, P2⟩ _ _ SX p2 lp2)
  have K5 := Lib.hid (fun w' hb => op_sl1 9 ⟨A3, n3, c3, P3⟩ _ w' (SY.keep hb) p3 lp3)
  clear bv bv2 SX SY
  go_region_held3 (fun w' : World => w'.cell? ⟨w.heap.size, 0, none⟩ = some (.string q.who.1) ∧ w'.cell? ⟨w.heap.size, 1, none⟩ = some (.string q.who.2) ∧ w'.cell? ⟨w.heap.size, 2, none⟩ = some (.string q.act.1) ∧ w'.cell? ⟨w.heap.size, 3, none⟩ = some (.string q.act.2) ∧ w'.cell? ⟨w.heap.size, 4, none⟩ = some (.string q.what.1) ∧ w'.cell? ⟨w.heap.size, 5, none⟩ = some (.string q.what.2) ∧ w'.cell? ⟨w.heap.size, 6, none⟩ = some (.slice q.NA q.nn q.nc)) (first | (with_reducible exact vq_and V10.out) | (with_reducible exact vq_and V9.out) | (with_reducible exact vq_and Y8.out) | (with_reducible exact vq_and V8.out) | (with_reducible exact vq_and V7.out) | (with_reducible exact vq_and Y7.out) | (with_reducible exact vq_and VX.out) | (with_reducible exact vq_and VZ.out) | (with_reducible exact vq_and VC.out) | (with_reducible exact vq_and VB.out) | (with_reducible exact vq_and V6.out)) (first
    | (go_at_call 12; refine (HVl.out A9 m9 c9 (opN 12 :: (opN 9 :: P2 ++ opN 9 :: P3)) w9 B9.out N9.out).mono ?_; rintro e w10 ⟨A10, m10, c10, rfl, hN, b10⟩; have N10 := Lib.hid hN; have B10 := bh B9 b10; have Q10 := bh Q9 b10; have V10 := Lib.hid (V9.out.keep b10))
    | (go_at_call 20; refine (op_two 12 ⟨A7, m7, c7, opN 9 :: P2⟩ ⟨A8, m8, c8, opN 9 :: P3⟩ w8 M7.out N8.out (Nat.succ_pos _) (Nat.succ_pos _) le4).mono ?_; rintro e w9 ⟨A9, m9, c9, rfl, hN, b9⟩; have N9 := Lib.hid hN; have B9 := bh B8 b9; have Q9 := bh Q8 b9; have V9 := Lib.hid (V8.out.keep b9))
    | (go_at_call 20; (with_reducible refine K1.out.mono ?_); rintro e w8 ⟨A8, m8, c8, rfl, hN, b8⟩; have N8 := Lib.hid hN; have M7 := Lib.hid (N7.out.keep b8); have B8 := bh B7 b8; have Q8 := bh Q7 b8; have V8 := Lib.hid (V7.out.keep b8); have Y8 := Lib.hid (V8.out.keep (below_box w8 (.cells #[.slice A7 m7 c7, .slice A8 m8 c8] 25))))
    | (go_at_call 20; (with_reducible refine K4.out.mono ?_); rintro e w7 ⟨A7, m7, c7, rfl, hN, b7⟩; have N7 := Lib.hid hN; have B7 := bh BC b7; have Q7 := bh QC b7; have V7 := Lib.hid (VC.out.keep b7); have Y7 := V7; have K1 := Lib.hid (K5.out _ b7))
    | (go_at_call 20; (with_reducible refine K2.out.mono ?_); rintro e w7 ⟨A7, m7, c7, rfl, hN, b7⟩; have N7 := Lib.hid hN; have B7 := bh BZ b7; have Q7 := bh QZ b7; have V7 := Lib.hid (VZ.out.keep b7); have Y7 := V7; have K1 := Lib.hid (K3.out _ b7))
    | (go_at_call 20; (with_reducible refine K0.out.mono ?_); rintro e w7 ⟨A7, m7, c7, rfl, hN, b7⟩; have N7 := Lib.hid hN; have B7 := bh BX b7; have Q7 := bh QX b7; have V7 := Lib.hid (VX.out.keep b7); have Y7 := Lib.hid (V7.out.keep (below_box w7 (.cells #[.slice A3 n3 c3] 25))); have K1 := Lib.hid (op_one 9 ⟨A3, n3, c3, P3⟩ w7 (H3.out.keep B7.out) p3 lp3)))
  all_goals
    have W10 := V10
    clear N2 N3 V6 VB VC VZ VX Y7 V7 V8 Y8 V9 BX BZ BC K0 K2 K3 K4 K5 N7 K1 N8 M7 N9
    go_wp2_with fail
    refine (law_alike A6 A10 m6 m10 c6 c10 _ _ w10 M1.out (N6.out.keep Q10.out) N10.out (HG.out.keep B10.out)).mono ?_
    rintro e w11 ⟨rfl, b11⟩
    have B11 := bh B10 b11
    have W11 := Lib.hid (W10.out.keep b11)
    clear N6 N10
    go_wp2_with fail
    have N2 := Lib.hid (H2.out.keep B11.out)
    have N3 := Lib.hid (H3.out.keep B11.out)
    have V11 := Lib.hid (W11.out.keep (below_drew w11))
    have bx : RowKit.Below w11.heap.size w11 (w11.alloc (.cells #[.slice A2 n2 c2, .slice A3 n3 c3] 25)).drew := (below_box w11 _).trans ((below_drew _).mono (below_box w11 _).size)
    have VX := Lib.hid (W11.out.keep bx)
    have BX := bh B11 bx
    have SX : SlsAt (w11.alloc (.cells #[.slice A2 n2 c2, .slice A3 n3 c3] 25)).drew (some ⟨w11.heap.size, 0, none⟩) [⟨A2, n2, c2, P2⟩, ⟨A3, n3, c3, P3⟩] := (sls_two w11 ⟨A2, n2, c2, P2⟩ ⟨A3, n3, c3, P3⟩ N2.out N3.out _).keep (below_drew _)
    have K0 := Lib.hid (op_sl2 12 ⟨A2, n2, c2, P2⟩ ⟨A3, n3, c3, P3⟩ _ _ SX p2 p3 l23)
    clear bx SX
    go_region_held3 (fun w' : World => w'.cell? ⟨w.heap.size, 0, none⟩ = some (.string q.who.1) ∧ w'.cell? ⟨w.heap.size, 1, none⟩ = some (.string q.who.2) ∧ w'.cell? ⟨w.heap.size, 2, none⟩ = some (.string q.act.1) ∧ w'.cell? ⟨w.heap.size, 3, none⟩ = some (.string q.act.2) ∧ w'.cell? ⟨w.heap.size, 4, none⟩ = some (.string q.what.1) ∧ w'.cell? ⟨w.heap.size, 5, none⟩ = some (.string q.what.2) ∧ w'.cell? ⟨w.heap.size, 6, none⟩ = some (.slice q.NA q.nn q.nc)) (first | (with_reducible exact vq_and V14.out) | (with_reducible exact vq_and Y13.out) | (with_reducible exact vq_and V13.out) | (with_reducible exact vq_and Y12.out) | (with_reducible exact vq_and V12.out) | (with_reducible exact vq_and VX.out) | (with_reducible exact vq_and V11.out)) (first
      | (go_at_call 12; refine (HVl.out A13 m13 c13 (opN 9 :: opN 12 :: (P2 ++ P3)) w13 B13.out N13.out).mono ?_; rintro e w14 ⟨A14, m14, c14, rfl, hN, b14⟩; have N14 := Lib.hid hN; have B14 := bh B13 b14; have V14 := Lib.hid (V13.out.keep b14))
      | (go_at_call 20; refine (op_one 9 ⟨A12, m12, c12, opN 12 :: (P2 ++ P3)⟩ w12 N12.out (Nat.succ_pos _) le1).mono ?_; rintro e w13 ⟨A13, m13, c13, rfl, hN, b13⟩; have N13 := Lib.hid hN; have B13 := bh B12 b13; have V13 := Lib.hid (V12.out.keep b13); have Y13 := Lib.hid (V13.out.keep (below_box w13 (.cells #[.slice A13 m13 c13] 25))))
      | (go_at_call 20; (with_reducible refine K0.out.mono ?_); rintro e w12 ⟨A12, m12, c12, rfl, hN, b12⟩; have N12 := Lib.hid hN; have B12 := bh BX b12; have V12 := Lib.hid (VX.out.keep b12); have Y12 := Lib.hid (V12.out.keep (below_box w12 (.cells #[.slice A12 m12 c12] 25)))))
    have W14 := V14
    clear N2 N3 V11 VX V12 Y12 V13 Y13 BX K0 N12 N13
    go_wp2_with fail
    have Q14 := Lib.hid (Below.refl w14.heap.size w14)
    have N2 := Lib.hid (H2.out.keep B14.out)
    have N3 := Lib.hid (H3.out.keep B14.out)
    have V14 := Lib.hid (W14.out.keep (below_drew w14))
    have bx : RowKit.Below w14.heap.size w14 (w14.alloc (.cells #[.slice A2 n2 c2] 25)).drew := (below_box w14 _).trans ((below_drew _).mono (below_box w14 _).size)
    have VX := Lib.hid (W14.out.keep bx)
    have BX := bh B14 bx; have QX := bh Q14 bx
    have SX : SlsAt (w14.alloc (.cells #[.slice A2 n2 c2] 25)).drew (some ⟨w14.heap.size, 0, none⟩) [⟨A2, n2, c2, P2⟩] := (sls_one w14 ⟨A2, n2, c2, P2⟩ N2.out _).keep (below_drew _)
    have K0 := Lib.hid (op_sl1 9 ⟨A2, n2, c2, P2⟩ _ _ SX p2 lp2)
    clear bx SX
    have by2 : RowKit.Below w14.heap.size w14 ((w14.alloc (.cells #[.slice A2 n2 c2] 25)).alloc (.cells #[.slice A3 n3 c3] 25)).drew := ((below_box w14 _).trans ((below_box (w14.alloc (.cells #[.slice A2 n2 c2] 25)) _).mono (below_box w14 _).size)).trans ((below_drew _).mono (Nat.le_trans (below_box w14 _).size (below_box (w14.alloc (.cells #[.slice A2 n2 c2] 25)) _).size))
    have VZ := Lib.hid (W14.out.keep by2)
    have BZ := bh B14 by2; have QZ := bh Q14 by2
    have SX : SlsAt ((w14.alloc (.cells #[.slice A2 n2 c2] 25)).alloc (.cells #[.slice A3 n3 c3] 25)).drew (some ⟨w14.heap.size, 0, none⟩) [⟨A2, n2, c2, P2⟩] := ((sls_one w14 ⟨A2, n2, c2, P2⟩ N2.out _).keep (below_box _ _)).keep (below_drew _)
    have SY : SlsAt ((w14.alloc (.cells #[.slice A2 n2 c2] 25)).alloc (.cells #[.slice A3 n3 c3] 25)).drew (some ⟨w14.heap.size + 1, 0, none⟩) [⟨A3, n3, c3, P3⟩] := by
      have h := sls_one (w14.alloc (.cells #[.slice A2 n2 c2] 25)) ⟨A3, n3, c3, P3⟩ (N3.out.keep (below_box _ _)) 25
      rw [show (w14.alloc (.cells #[.slice A2 n2 c2] 25)).heap.size = w14.heap.size + 1 from by simp [go_sem]] at h
      exact h.keep (below_drew _)
    have K2 := Lib.hid (op_sl1 9 ⟨A2, n2, c2, P2⟩ _ _ SX p2 lp2)
    have K3 := Lib.hid (fun w' hb => op_sl1 9 ⟨A3, n3, c3, P3⟩ _ w' (SY.keep hb) p3 lp3)
    clear by2 SX SY
    have bv : RowKit.Below w14.heap.size w14 (w14.alloc (.cells #[.slice A3 n3 c3] 25)).drew := (below_box w14 _).trans ((below_drew _).mono (below_box w14 _).size)
    have VB := Lib.hid (W14.out.keep bv)
    have bv2 : RowKit.Below w14.heap.size w14 ((w14.alloc (.cells #[.slice A3 n3 c3] 25)).alloc (.cells #[.slice A2 n2 c2] 25)).drew := ((below_box w14 _).trans ((below_box (w14.alloc (.cells #[.slice A3 n3 c3] 25)) _).mono (below_box w14 _).size)).trans ((below_drew _).mono (Nat.le_trans (below_box w14 _).size (below_box (w14.alloc (.cells #[.slice A3 n3 c3] 25)) _).size))
    have VC := Lib.hid (W14.out.keep bv2)
    have BC := bh B14 bv2; have QC := bh Q14 bv2
    have SY : SlsAt ((w14.alloc (.cells #[.slice A3 n3 c3] 25)).alloc (.cells #[.slice A2 n2 c2] 25)).drew (some ⟨w14.heap.size, 0, none⟩) [⟨A3, n3, c3, P3⟩] := ((sls_one w14 ⟨A3, n3, c3, P3⟩ N3.out _).keep (below_box _ _)).keep (below_drew _)
    have SX : SlsAt ((w14.alloc (.cells #[.slice A3 n3 c3] 25)).alloc (.cells #[.slice A2 n2 c2] 25)).drew (some ⟨w14.heap.size + 1, 0, none⟩) [⟨A2, n2, c2, P2⟩] := by
      have h := sls_one (w14.alloc (.cells #[.slice A3 n3 c3] 25)) ⟨A2, n2, c2, P2⟩ (N2.out.keep (below_box _ _)) 25
      rw [show (w14.alloc (.cells #[.slice A3 n3 c3] 25)).heap.size = w14.heap.size + 1 from by simp [go_sem]] at h
      exact h.keep (below_drew _)
    have K4 := Lib.hid (op_sl1 9 ⟨A2, n2, c2, P2⟩ _ _ SX p2 lp2)
    have K5 := Lib.hid (fun w' hb => op_sl1 9 ⟨A3, n3, c3, P3⟩ _ w' (SY.keep hb) p3 lp3)
    clear bv bv2 SX SY
    go_region_held3 (fun w' : World => w'.cell? ⟨w.heap.size, 0, none⟩ = some (.string q.who.1) ∧ w'.cell? ⟨w.heap.size, 1, none⟩ = some (.string q.who.2) ∧ w'.cell? ⟨w.heap.size, 2, none⟩ = some (.string q.act.1) ∧ w'.cell? ⟨w.heap.size, 3, none⟩ = some (.string q.act.2) ∧ w'.cell? ⟨w.heap.size, 4, none⟩ = some (.string q.what.1) ∧ w'.cell? ⟨w.heap.size, 5, none⟩ = some (.string q.what.2) ∧ w'.cell? ⟨w.heap.size, 6, none⟩ = some (.slice q.NA q.nn q.nc)) (first | (with_reducible exact vq_and V18.out) | (with_reducible exact vq_and V17.out) | (with_reducible exact vq_and Y16.out) | (with_reducible exact vq_and V16.out) | (with_reducible exact vq_and V15.out) | (with_reducible exact vq_and Y15.out) | (with_reducible exact vq_and VX.out) | (with_reducible exact vq_and VZ.out) | (with_reducible exact vq_and VC.out) | (with_reducible exact vq_and VB.out) | (with_reducible exact vq_and V14.out)) (first
      | (go_at_call 12; refine (HVl.out A17 m17 c17 (opN 11 :: (opN 9 :: P2 ++ opN 9 :: P3)) w17 B17.out N17.out).mono ?_; rintro e w18 ⟨A18, m18, c18, rfl, hN, b18⟩; have N18 := Lib.hid hN; have B18 := bh B17 b18; have Q18 := bh Q17 b18; have V18 := Lib.hid (V17.out.keep b18))
      | (go_at_call 20; refine (op_two 11 ⟨A15, m15, c15, opN 9 :: P2⟩ ⟨A16, m16, c16, opN 9 :: P3⟩ w16 M15.out N16.out (Nat.succ_pos _) (Nat.succ_pos _) le4).mono ?_; rintro e w17 ⟨A17, m17, c17, rfl, hN, b17⟩; have N17 := Lib.hid hN; have B17 := bh B16 b17; have Q17 := bh Q16 b17; have V17 := Lib.hid (V16.out.keep b17))
      | (go_at_call 20; (with_reducible refine K1.out.mono ?_); rintro e w16 ⟨A16, m16, c16, rfl, hN, b16⟩; have N16 := Lib.hid hN; have M15 := Lib.hid (N15.out.keep b16); have B16 := bh B15 b16; have Q16 := bh Q15 b16; have V16 := Lib.hid (V15.out.keep b16); have Y16 := Lib.hid (V16.out.keep (below_box w16 (.cells #[.slice A15 m15 c15, .slice A16 m16 c16] 25))))
      | (go_at_call 20; (with_reducible refine K4.out.mono ?_); rintro e w15 ⟨A15, m15, c15, rfl, hN, b15⟩; have N15 := Lib.hid hN; have B15 := bh BC b15; have Q15 := bh QC b15; have V15 := Lib.hid (VC.out.keep b15); have Y15 := V15; have K1 := Lib.hid (K5.out _ b15))
      | (go_at_call 20; (with_reducible refine K2.out.mono ?_); rintro e w15 ⟨A15, m15, c15, rfl, hN, b15⟩; have N15 := Lib.hid hN; have B15 := bh BZ b15; have Q15 := bh QZ b15; have V15 := Lib.hid (VZ.out.keep b15); have Y15 := V15; have K1 := Lib.hid (K3.out _ b15))
      | (go_at_call 20; (with_reducible refine K0.out.mono ?_); rintro e w15 ⟨A15, m15, c15, rfl, hN, b15⟩; have N15 := Lib.hid hN; have B15 := bh BX b15; have Q15 := bh QX b15; have V15 := Lib.hid (VX.out.keep b15); have Y15 := Lib.hid (V15.out.keep (below_box w15 (.cells #[.slice A3 n3 c3] 25))); have K1 := Lib.hid (op_one 9 ⟨A3, n3, c3, P3⟩ w15 (H3.out.keep B15.out) p3 lp3)))
    all_goals
      have W18 := V18
      clear N2 N3 V14 VB VC VZ VX Y15 V15 V16 Y16 V17 BX BZ BC K0 K2 K3 K4 K5 N15 K1 N16 M15 N17
      go_wp2_with fail
      refine (law_alike A14 A18 m14 m18 c14 c18 _ _ w18 M2.out (N14.out.keep Q18.out) N18.out (HG.out.keep B18.out)).mono ?_
      rintro e w19 ⟨rfl, b19⟩
      have B19 := bh B18 b19
      have W19 := Lib.hid (W18.out.keep b19)
      clear N14 N18
      go_wp2_with fail
      have N2 := Lib.hid (H2.out.keep B19.out)
      have N3 := Lib.hid (H3.out.keep B19.out)
      have V19 := Lib.hid (W19.out.keep (below_drew w19))
      have bx : RowKit.Below w19.heap.size w19 (w19.alloc (.cells #[.slice A2 n2 c2, .slice A3 n3 c3] 25)).drew := (below_box w19 _).trans ((below_drew _).mono (below_box w19 _).size)
      have VX := Lib.hid (W19.out.keep bx)
      have BX := bh B19 bx
      have SX : SlsAt (w19.alloc (.cells #[.slice A2 n2 c2, .slice A3 n3 c3] 25)).drew (some ⟨w19.heap.size, 0, none⟩) [⟨A2, n2, c2, P2⟩, ⟨A3, n3, c3, P3⟩] := (sls_two w19 ⟨A2, n2, c2, P2⟩ ⟨A3, n3, c3, P3⟩ N2.out N3.out _).keep (below_drew _)
      have K0 := Lib.hid (op_sl2 14 ⟨A2, n2, c2, P2⟩ ⟨A3, n3, c3, P3⟩ _ _ SX p2 p3 l23)
      clear bx SX
      go_region_held3 (fun w' : World => w'.cell? ⟨w.heap.size, 0, none⟩ = some (.string q.who.1) ∧ w'.cell? ⟨w.heap.size, 1, none⟩ = some (.string q.who.2) ∧ w'.cell? ⟨w.heap.size, 2, none⟩ = some (.string q.act.1) ∧ w'.cell? ⟨w.heap.size, 3, none⟩ = some (.string q.act.2) ∧ w'.cell? ⟨w.heap.size, 4, none⟩ = some (.string q.what.1) ∧ w'.cell? ⟨w.heap.size, 5, none⟩ = some (.string q.what.2) ∧ w'.cell? ⟨w.heap.size, 6, none⟩ = some (.slice q.NA q.nn q.nc)) (first | (with_reducible exact vq_and V23.out) | (with_reducible exact vq_and Y22.out) | (with_reducible exact vq_and V22.out) | (with_reducible exact vq_and Y21.out) | (with_reducible exact vq_and V21.out) | (with_reducible exact vq_and Y20.out) | (with_reducible exact vq_and V20.out) | (with_reducible exact vq_and VX.out) | (with_reducible exact vq_and V19.out)) (first
        | (go_at_call 12; refine (HVl.out A22 m22 c22 (opN 9 :: opN 9 :: opN 14 :: (P2 ++ P3)) w22 B22.out N22.out).mono ?_; rintro e w23 ⟨A23, m23, c23, rfl, hN, b23⟩; have N23 := Lib.hid hN; have B23 := bh B22 b23; have V23 := Lib.hid (V22.out.keep b23))
        | (go_at_call 20; refine (op_one 9 ⟨A21, m21, c21, opN 9 :: opN 14 :: (P2 ++ P3)⟩ w21 N21.out (Nat.succ_pos _) le2).mono ?_; rintro e w22 ⟨A22, m22, c22, rfl, hN, b22⟩; have N22 := Lib.hid hN; have B22 := bh B21 b22; have V22 := Lib.hid (V21.out.keep b22); have Y22 := Lib.hid (V22.out.keep (below_box w22 (.cells #[.slice A22 m22 c22] 25))))
        | (go_at_call 20; refine (op_one 9 ⟨A20, m20, c20, opN 14 :: (P2 ++ P3)⟩ w20 N20.out (Nat.succ_pos _) le1).mono ?_; rintro e w21 ⟨A21, m21, c21, rfl, hN, b21⟩; have N21 := Lib.hid hN; have B21 := bh B20 b21; have V21 := Lib.hid (V20.out.keep b21); have Y21 := Lib.hid (V21.out.keep (below_box w21 (.cells #[.slice A21 m21 c21] 25))))
        | (go_at_call 20; (with_reducible refine K0.out.mono ?_); rintro e w20 ⟨A20, m20, c20, rfl, hN, b20⟩; have N20 := Lib.hid hN; have B20 := bh BX b20; have V20 := Lib.hid (VX.out.keep b20); have Y20 := Lib.hid (V20.out.keep (below_box w20 (.cells #[.slice A20 m20 c20] 25)))))
      have W23 := V23
      clear N2 N3 V19 VX V20 Y20 V21 Y21 V22 Y22 BX K0 N20 N21 N22
      go_wp2_with fail
      have Q23 := Lib.hid (Below.refl w23.heap.size w23)
      have N2 := Lib.hid (H2.out.keep B23.out)
      have N3 := Lib.hid (H3.out.keep B23.out)
      have V23 := Lib.hid (W23.out.keep (below_drew w23))
      have bx : RowKit.Below w23.heap.size w23 (w23.alloc (.cells #[.slice A2 n2 c2, .slice A3 n3 c3] 25)).drew := (below_box w23 _).trans ((below_drew _).mono (below_box w23 _).size)
      have VX := Lib.hid (W23.out.keep bx)
      have BX := bh B23 bx; have QX := bh Q23 bx
      have SX : SlsAt (w23.alloc (.cells #[.slice A2 n2 c2, .slice A3 n3 c3] 25)).drew (some ⟨w23.heap.size, 0, none⟩) [⟨A2, n2, c2, P2⟩, ⟨A3, n3, c3, P3⟩] := (sls_two w23 ⟨A2, n2, c2, P2⟩ ⟨A3, n3, c3, P3⟩ N2.out N3.out _).keep (below_drew _)
      have K0 := Lib.hid (op_sl2 14 ⟨A2, n2, c2, P2⟩ ⟨A3, n3, c3, P3⟩ _ _ SX p2 p3 l23)
      clear bx SX
      go_region_held3 (fun w' : World => w'.cell? ⟨w.heap.size, 0, none⟩ = some (.string q.who.1) ∧ w'.cell? ⟨w.heap.size, 1, none⟩ = some (.string q.who.2) ∧ w'.cell? ⟨w.heap.size, 2, none⟩ = some (.string q.act.1) ∧ w'.cell? ⟨w.heap.size, 3, none⟩ = some (.string q.act.2) ∧ w'.cell? ⟨w.heap.size, 4, none⟩ = some (.string q.what.1) ∧ w'.cell? ⟨w.heap.size, 5, none⟩ = some (.string q.what.2) ∧ w'.cell? ⟨w.heap.size, 6, none⟩ = some (.slice q.NA q.nn q.nc)) (first | (with_reducible exact vq_and V25.out) | (with_reducible exact vq_and Y24.out) | (with_reducible exact vq_and V24.out) | (with_reducible exact vq_and VX.out) | (with_reducible exact vq_and V23.out)) (first
        | (go_at_call 12; refine (HVl.out A24 m24 c24 (opN 14 :: (P2 ++ P3)) w24 B24.out N24.out).mono ?_; rintro e w25 ⟨A25, m25, c25, rfl, hN, b25⟩; have N25 := Lib.hid hN; have B25 := bh B24 b25; have Q25 := bh Q24 b25; have V25 := Lib.hid (V24.out.keep b25))
        | (go_at_call 20; (with_reducible refine K0.out.mono ?_); rintro e w24 ⟨A24, m24, c24, rfl, hN, b24⟩; have N24 := Lib.hid hN; have B24 := bh BX b24; have Q24 := bh QX b24; have V24 := Lib.hid (VX.out.keep b24); have Y24 := Lib.hid (V24.out.keep (below_box w24 (.cells #[.slice A24 m24 c24] 25)))))
      have W25 := V25
      clear N2 N3 V23 VX V24 Y24 BX K0 N24
      go_wp2_with fail
      refine (law_alike A23 A25 m23 m25 c23 c25 _ _ w25 M3.out (N23.out.keep Q25.out) N25.out (HG.out.keep B25.out)).mono ?_
      rintro e w26 ⟨rfl, b26⟩
      have B26 := bh B25 b26
      have W26 := Lib.hid (W25.out.keep b26)
      clear N23 N25
      go_wp2_with fail
      go_ret
      exact ⟨rfl, B26.out⟩
end Go.Proofs.YtcdpoamiejompaaGreatDoor
namespace Go.Proofs.YtcdpoamiejompaaGreatDoor
open Go Go.ChangeShapes Go.WideShapes
theorem EvalMorgan_named : Tryz.prog.funcNamed Rows.evalMorganRow.func = some 7 := by kernel_rfl
theorem EvalMorgan_wf : Rows.evalMorganRow.wfByText (OpenSpec.ofChange Rows.evalMorganSpec) = true := by kernel_rfl
theorem EvalMorgan_main : Tryz.prog.mainIs = some (Rows.evalMorganCard.stood.harness.1, Rows.evalMorganCard.stood.harness.2.toList) := by kernel_rfl
theorem EvalMorgan_looks : true = Tryz.prog.looks [] := by kernel_rfl
theorem EvalMorgan_goes : false = Rows.evalMorganRow.goesBy Tryz.prog := by kernel_rfl
theorem EvalMorgan_inst : Tryz.f7.isInstance Tryz.prog Rows.evalMorganRow.origin Rows.evalMorganRow.targs := of_decide_eq_true (by kernel_rfl)
theorem EvalMorgan_wrap : Tryz.f7.isWrapper Tryz.prog Rows.evalMorganRow.wrapper Rows.evalMorganRow.mainSum := by unfold Func.isWrapper; rw [if_neg (by decide +kernel)]; exact ⟨rfl, rfl⟩
theorem EvalMorgan_j1 : (Rows.evalMorganRow.wf (OpenSpec.ofChange Rows.evalMorganSpec)) = true := by kernel_rfl
theorem EvalMorgan_j2 : (laidOutB Tryz.prog) = true := by kernel_rfl
theorem EvalMorgan_j3 : (mapsRowed Tryz.prog) = true := by kernel_rfl
theorem EvalMorgan_j4 : (Tryz.f7.params.all (Tryz.prog.readableRec ·)) = true := by kernel_rfl
theorem EvalMorgan_j5 : (namedTie Tryz.prog Rows.evalMorganRow.named Rows.evalMorganSpec.vars) = true := by kernel_rfl
theorem EvalMorgan_j6 : ((Rows.evalMorganRow.stops == [])) = true := by kernel_rfl
theorem EvalMorgan_j7 : ((Tryz.prog.stops == [])) = true := by kernel_rfl
theorem EvalMorgan_j8 : ((Rows.evalMorganRow.knobs == [])) = true := by kernel_rfl
theorem EvalMorgan_j9 : ((Tryz.prog.stopKnobs == [])) = true := by kernel_rfl
theorem EvalMorgan_j10 : ((Rows.evalMorganRow.inPlace == Tryz.prog.inPlace 7)) = true := by kernel_rfl
theorem EvalMorgan_j11 : ((Rows.evalMorganRow.unfollowed == Tryz.prog.unfollowed 7)) = true := by kernel_rfl
theorem EvalMorgan_j12 : ((Rows.evalMorganRow.recurses == Tryz.prog.recurses 7)) = true := by kernel_rfl
theorem EvalMorgan_j13 : ((Rows.evalMorganRow.named == Tryz.prog.varsNamed 7)) = true := by kernel_rfl
theorem EvalMorgan_j14 : ((Rows.evalMorganRow.maps == (Tryz.f7.params.toList ++ Rows.evalMorganSpec.plain.varTypes Tryz.prog).any (Tryz.prog.mapsRec ·))) = true := by kernel_rfl
theorem EvalMorgan_j15 : ((Rows.evalMorganRow.ifaces == (Tryz.f7.params.toList ++ Rows.evalMorganSpec.plain.varTypes Tryz.prog).any (Tryz.prog.ifacesRec ·))) = true := by kernel_rfl
theorem EvalMorgan_j16 : ((Rows.evalMorganRow.mapsOut == Tryz.prog.mapsAmong Tryz.f7.resultTypes.toList)) = true := by kernel_rfl
theorem EvalMorgan_j17 : ((Rows.evalMorganRow.loops == (Tryz.f7.params.toList ++ Rows.evalMorganSpec.plain.varTypes Tryz.prog).any (Tryz.prog.loopsFrom ·))) = true := by kernel_rfl
theorem EvalMorgan_j18 : ((Rows.evalMorganRow.wideKeys == (Tryz.f7.params.toList ++ Rows.evalMorganSpec.plain.varTypes Tryz.prog ++ Tryz.f7.resultTypes.toList).any (Tryz.prog.wideKeysFrom ·))) = true := by kernel_rfl
theorem EvalMorgan_j19 : (Rows.evalMorganSpec.vars.all (Tryz.prog.varReadable ·)) = true := by kernel_rfl
theorem EvalMorgan_j20 : (Tryz.f7.resultTypes.all (fun t => Tryz.prog.readableRec t && decide (t < Tryz.prog.types.size))) = true := by kernel_rfl
theorem EvalMorgan_j21 : ((Rows.evalMorganRow.ifacesOut == Tryz.f7.resultTypes.toList.any (Tryz.prog.ifacesRec ·))) = true := by kernel_rfl
theorem EvalMorgan_j22 : ((Rows.evalMorganRow.loopsOut == Tryz.f7.resultTypes.toList.any (Tryz.prog.loopsFrom ·))) = true := by kernel_rfl
theorem EvalMorgan_j23 : ((Rows.evalMorganRow.plainKeys == Tryz.prog.plainKeys)) = true := by kernel_rfl
theorem EvalMorgan_j24 : (Rows.evalMorganRow.shortTexts.isNone) = true := by kernel_rfl
theorem EvalMorgan_j25 : (Tryz.prog.stopsHeard) = true := by kernel_rfl
theorem EvalMorgan_j26 : (Tryz.prog.mayEnter) = true := by kernel_rfl
theorem EvalMorgan_j27 : ((Rows.evalMorganRow.lifted == Tryz.prog.liftsFinal)) = true := by kernel_rfl
theorem EvalMorgan_j28 : ((Tryz.prog.make == some Rows.evalMorganRow.make)) = true := by kernel_rfl
theorem EvalMorgan_j29 : ((Rows.evalMorganRow.kinds == (if Rows.evalMorganRow.domain.isEmpty then [] else Tryz.f7.params.toList.map fun t => match Tryz.prog.underlying t with | some (.int k) => some k | _ => none))) = true := by kernel_rfl
theorem EvalMorgan_j30 : ((Rows.evalMorganRow.pinned == Rows.evalMorganRow.pinnedBy)) = true := by kernel_rfl
theorem EvalMorgan_j31 : ((Rows.evalMorganRow.veiled == (Tryz.f7.params.toList ++ Rows.evalMorganSpec.plain.varTypes Tryz.prog ++ Tryz.f7.resultTypes.toList).any (Tryz.prog.veiledRec ·))) = true := by kernel_rfl
theorem EvalMorgan_j32 : (Rows.evalMorganRow.veiledFits Tryz.prog Tryz.f7.params.toList (Tryz.f7.params.toList ++ Rows.evalMorganSpec.plain.varTypes Tryz.prog ++ Tryz.f7.resultTypes.toList)) = true := by kernel_rfl
theorem and_two {a b : Bool} (h : a = true) (k : b = true) : (a && b) = true := by rw [h, k]; rfl
set_option maxRecDepth 100000 in
theorem EvalMorgan_joined : joinedFacts Tryz.prog 7 Tryz.f7 Rows.evalMorganSpec Rows.evalMorganRow = true := by
  unfold joinedFacts
  exact (and_two (and_two (and_two (and_two (and_two (and_two (and_two (and_two (and_two (and_two (and_two (and_two (and_two (and_two (and_two (and_two (and_two (and_two (and_two (and_two (and_two (and_two (and_two (and_two (and_two (and_two (and_two (and_two (and_two (and_two (and_two EvalMorgan_j1 EvalMorgan_j2) EvalMorgan_j3) EvalMorgan_j4) EvalMorgan_j5) EvalMorgan_j6) EvalMorgan_j7) EvalMorgan_j8) EvalMorgan_j9) EvalMorgan_j10) EvalMorgan_j11) EvalMorgan_j12) EvalMorgan_j13) EvalMorgan_j14) EvalMorgan_j15) EvalMorgan_j16) EvalMorgan_j17) EvalMorgan_j18) EvalMorgan_j19) EvalMorgan_j20) EvalMorgan_j21) EvalMorgan_j22) EvalMorgan_j23) EvalMorgan_j24) EvalMorgan_j25) EvalMorgan_j26) EvalMorgan_j27) EvalMorgan_j28) EvalMorgan_j29) EvalMorgan_j30) EvalMorgan_j31) EvalMorgan_j32)
end Go.Proofs.YtcdpoamiejompaaGreatDoor
namespace Go.Proofs.YtcdpoamiejompaaGreatDoor
open Go Go.ChangeShapes Go.WideShapes Go.ChangeAt Go.RowKit Go.Wk
open Go.ChangeMaps (open_string)

set_option maxRecDepth 100000 in
theorem EvalMorgan_lifted (os : Os) (started : os.Started) (H : Type) (enc : TypeId × Value → H) :
    ReturnsInHanded {} Tryz.checked os 7 .any (fun w args => (Rows.evalMorganSpec.pre enc Tryz.prog Tryz.f7 [] false w args ∧ laidMetH Tryz.prog laidList w) ∧ sizedMet enc Tryz.prog Tryz.f7 (OpenSpec.ofChange Rows.evalMorganSpec) false w args) (Rows.evalMorganSpec.post enc Tryz.prog Tryz.f7 false true false false) := by
  refine returnsInHanded_of_change_and (C := Tryz.checked) (X := fun w _ => laidMetH Tryz.prog laidList w) (fun _ _ _ hh h => h.of_heap hh) own started (by kernel_rfl) Tryz.func7
    (ChangeSpec.witness_at (enc := enc) (C := Tryz.checked) (os := os) (X := fun w _ => laidMetH Tryz.prog laidList w) false (laidWorld os) #[.slice none 0 0, .agg #[.string ⟨#[]⟩, .string ⟨#[]⟩, .string ⟨#[]⟩, .string ⟨#[]⟩, .string ⟨#[]⟩, .string ⟨#[]⟩, .slice none 0 0], .slice none 0 0, .slice none 0 0] 8 rfl (by kernel_rfl) (by kernel_rfl) (by kernel_rfl) (by kernel_rfl) (by kernel_rfl) (laidWorld_met os _)) ?_
  intro W base args ds gs before hval0 hW _ _ hL _
  have hg := handle_of_laid hL
  have hval : ∀ (j : Nat) t v, Tryz.f7.params[j]? = some t → args[j]? = some v → Value.okWide Tryz.prog W .any base t v := hval0
  have hW0 := hW
  obtain ⟨p, q, hA0, _, _, _, _⟩ := hW
  have hA : DataW.TrodAll enc Tryz.prog W 0 (fun _ => true) true Tryz.f7.params.toList args.toList ds p := hA0
  rw [Tryz.params7] at hA hval
  clear hA0 hval0
  obtain ⟨v0, vs0, d0, ds0, p0, q0, hargs, rfl, rfl, h0, r0⟩ := trodAll_cons hA
  obtain ⟨v1, vs1, d1, ds1, p1, q1, rfl, rfl, rfl, h1, r1⟩ := trodAll_cons r0
  obtain ⟨v2, vs2, d2, ds2, p2, q2, rfl, rfl, rfl, h2, r2⟩ := trodAll_cons r1
  obtain ⟨v3, vs3, d3, ds3, p3, q3, rfl, rfl, rfl, h3, r3⟩ := trodAll_cons r2
  obtain ⟨rfl, rfl, rfl⟩ := trodAll_nil r3
  obtain ⟨args⟩ := args
  simp only at hargs
  subst hargs
  obtain ⟨A0, n0, c0, E0, rfl, sx0⟩ := open_ents (hval 0 22 v0 rfl rfl) h0
  obtain ⟨x1, rfl, sx1⟩ := open_request (hval 1 27 v1 rfl rfl) h1
  obtain ⟨A2, n2, c2, P2, rfl, sx2⟩ := open_nodes (hval 2 25 v2 rfl rfl) h2
  obtain ⟨A3, n3, c3, P3, rfl, sx3⟩ := open_nodes (hval 3 25 v3 rfl rfl) h3
  refine (EvalMorgan_walk A0 n0 c0 E0 x1 A2 n2 c2 P2 A3 n3 c3 P3 W sx0 sx1 sx2 sx3 hg).mono fun e W' ⟨he, hb'⟩ => ?_
  subst he
  refine ⟨_, rfl, law_post laidOut (by kernel_rfl) (by rfl) Tryz.underlying4 rfl ?_ hW0 hb'⟩
  intro ds hlen
  rw [Tryz.params7] at hlen
  match ds, hlen with
  | [e0, e1, e2, e3], _ => rfl

theorem EvalMorgan_over : Rows.evalMorganRow.holds Tryz.pinned (OpenSpec.ofChange Rows.evalMorganSpec) :=
  OpenClaim.holds_of_wide 7 Tryz.f7 rfl rfl rfl rfl rfl rfl rfl ⟨rfl, rfl, rfl, rfl, rfl⟩ rfl rfl rfl rfl rfl EvalMorgan_named Tryz.func7 EvalMorgan_joined
    EvalMorgan_inst EvalMorgan_wrap
    (fun os started H enc _ => EvalMorgan_lifted os started H enc)

theorem EvalMorgan_holds : Rows.EvalMorganCardSaid :=
  Claim7.holds_tied_plain_at .later [] [.handle] true Rows.evalMorganCard.stood.harness true
    EvalMorgan_over (fun _ h => by cases h) EvalMorgan_wf (fun _ h => by cases h) evalMorgan_row_tie rfl ⟨rfl, rfl⟩ EvalMorgan_main rfl
    (fun f fn hf hfn => by
      obtain rfl : f = 7 := Option.some.inj (EvalMorgan_named.symm.trans hf) |>.symm
      obtain rfl : fn = Tryz.f7 := (Option.some.inj (Tryz.func7.symm.trans hfn)).symm
      exact ⟨EvalMorgan_looks, fun j t ht => by
        rw [Tryz.params7] at ht
        have hm := Array.mem_of_getElem? ht
        simp only [List.mem_toArray, List.mem_cons, List.not_mem_nil, or_false] at hm
        rcases hm with rfl | rfl | rfl | rfl
        all_goals exact (show Tryz.prog.wantsStandIn _ = false by kernel_rfl)⟩)
    EvalMorgan_goes
#print axioms EvalMorgan_holds
end Go.Proofs.YtcdpoamiejompaaGreatDoor
