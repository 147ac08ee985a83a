/-
  The laws' op, at one, two, three parts.
  EvalShort: the walk of the law. (gen_evshort.py)
  EvalShort: the closed facts of the frame, one by one.
  EvalShort: the frame round the walk: for every input the law returns true, and each argument reads behind the call as it read before. No condition.
-/
import Derived.Deep.RegionHeld3
import Derived.SevenTiedAt
import Derived.Test.YtcdpoamiejompaaGreatDoorRows
import Derived.Test.YtcdpoamiejompaaGreatDoorCards
import Derived.Test.YtcdpoamiejompaaGreatDoorTie
import Derived.Test.YtcdpoamiejompaaGreatDoorQe32
namespace Go.Proofs.YtcdpoamiejompaaGreatDoor
open Go.RowKit Go.Wk Go.Sort
set_option maxRecDepth 100000

/-- What op tells: nodes in new blocks; their number has a name of its own. -/
def OpNs (w : World) (L : List Nd) (e : Ending) (w' : World) : Prop := ∃ A m c, e = .returned (.slice A m c) ∧ Ns w' A m c L ∧ Below w.heap.size w w'
theorem op_one (o : Int) (r : Sl) (w : World) (h : Ns w r.A r.n r.c r.P) (h0 : 0 < r.P.length) (hl : r.P.length ≤ 1000) :
    Calls Tryz.prog 20 #[.int .i64 o, .slice (some ⟨w.heap.size, 0, none⟩) 1 1] (w.alloc (.cells #[.slice r.A r.n r.c] 25)) (OpNs w (opN o :: r.P)) := by
  refine (law_op o (some ⟨w.heap.size, 0, none⟩) 1 1 [r] _ rfl (by omega) (sls_one w r h _) (by intro x hx; simp only [List.mem_cons, List.not_mem_nil, or_false] at hx; subst hx; exact h0) (by simpa using hl)).mono ?_
  rintro e w' ⟨A, c, rfl, hN, -, hb⟩
  rw [show ([r].map Sl.P).flatten = r.P by simp] at hN
  rw [show ([r].map Sl.P).flatten = r.P by simp]
  exact ⟨A, _, c, rfl, hN, (below_box w _).trans (hb.mono (by simp))⟩
theorem op_two (o : Int) (r s : Sl) (w : World) (h : Ns w r.A r.n r.c r.P) (k : Ns w s.A s.n s.c s.P) (h0 : 0 < r.P.length) (k0 : 0 < s.P.length) (hl : r.P.length + s.P.length ≤ 1000) :
    Calls Tryz.prog 20 #[.int .i64 o, .slice (some ⟨w.heap.size, 0, none⟩) 2 2] (w.alloc (.cells #[.slice r.A r.n r.c, .slice s.A s.n s.c] 25)) (OpNs w (opN o :: (r.P ++ s.P))) := by
  refine (law_op o (some ⟨w.heap.size, 0, none⟩) 2 2 [r, s] _ rfl (by omega) (sls_two w r s h k _) (by intro x hx; simp only [List.mem_cons, List.not_mem_nil, or_false] at hx; rcases hx with rfl | rfl <;> assumption) (by simpa using hl)).mono ?_
  rintro e w' ⟨A, c, rfl, hN, -, hb⟩
  rw [show ([r, s].map Sl.P).flatten = r.P ++ s.P by simp] at hN
  rw [show ([r, s].map Sl.P).flatten = r.P ++ s.P by simp]
  exact ⟨A, _, c, rfl, hN, (below_box w _).trans (hb.mono (by simp))⟩
theorem op_three (o : Int) (r s u : Sl) (w : World) (h : Ns w r.A r.n r.c r.P) (k : Ns w s.A s.n s.c s.P) (j : Ns w u.A u.n u.c u.P) (h0 : 0 < r.P.length) (k0 : 0 < s.P.length) (j0 : 0 < u.P.length) (hl : r.P.length + s.P.length + u.P.length ≤ 1000) :
    Calls Tryz.prog 20 #[.int .i64 o, .slice (some ⟨w.heap.size, 0, none⟩) 3 3] (w.alloc (.cells #[.slice r.A r.n r.c, .slice s.A s.n s.c, .slice u.A u.n u.c] 25)) (OpNs w (opN o :: (r.P ++ (s.P ++ u.P)))) := by
  refine (law_op o (some ⟨w.heap.size, 0, none⟩) 3 3 [r, s, u] _ rfl (by omega) (sls_three w r s u h k j _) (by intro x hx; simp only [List.mem_cons, List.not_mem_nil, or_false] at hx; rcases hx with rfl | rfl | rfl <;> assumption) (by simp; omega)).mono ?_
  rintro e w' ⟨A, c, rfl, hN, -, hb⟩
  rw [show ([r, s, u].map Sl.P).flatten = r.P ++ (s.P ++ u.P) by simp] at hN
  rw [show ([r, s, u].map Sl.P).flatten = r.P ++ (s.P ++ u.P) by simp]
  exact ⟨A, _, c, rfl, hN, (below_box w _).trans (hb.mono (by simp))⟩
/-- As op_one, op_two, where the parts lie already. -/
theorem op_sl1 (o : Int) (r : Sl) (A : Option Addr) (w : World) (h : SlsAt w A [r]) (h0 : 0 < r.P.length) (hl : r.P.length ≤ 1000) :
    Calls Tryz.prog 20 #[.int .i64 o, .slice A 1 1] w (OpNs w (opN o :: r.P)) := by
  refine (law_op o A 1 1 [r] w rfl (by omega) h (by intro x hx; simp only [List.mem_cons, List.not_mem_nil, or_false] at hx; subst hx; exact h0) (by simpa using hl)).mono ?_
  rintro e w' ⟨A, c, rfl, hN, -, hb⟩
  rw [show ([r].map Sl.P).flatten = r.P by simp] at hN
  rw [show ([r].map Sl.P).flatten = r.P by simp]
  exact ⟨A, _, c, rfl, hN, hb⟩
theorem op_sl2 (o : Int) (r s : Sl) (A : Option Addr) (w : World) (h : SlsAt w A [r, s]) (h0 : 0 < r.P.length) (k0 : 0 < s.P.length) (hl : r.P.length + s.P.length ≤ 1000) :
    Calls Tryz.prog 20 #[.int .i64 o, .slice A 2 2] w (OpNs w (opN o :: (r.P ++ s.P))) := by
  refine (law_op o A 2 2 [r, s] w rfl (by omega) h (by intro x hx; simp only [List.mem_cons, List.not_mem_nil, or_false] at hx; rcases hx with rfl | rfl <;> assumption) (by simpa using hl)).mono ?_
  rintro e w' ⟨A, c, rfl, hN, -, hb⟩
  rw [show ([r, s].map Sl.P).flatten = r.P ++ s.P by simp] at hN
  rw [show ([r, s].map Sl.P).flatten = r.P ++ s.P by simp]
  exact ⟨A, _, c, rfl, hN, hb⟩
theorem op_sl3 (o : Int) (r s u : Sl) (A : Option Addr) (w : World) (h : SlsAt w A [r, s, u]) (h0 : 0 < r.P.length) (k0 : 0 < s.P.length) (j0 : 0 < u.P.length) (hl : r.P.length + s.P.length + u.P.length ≤ 1000) :
    Calls Tryz.prog 20 #[.int .i64 o, .slice A 3 3] w (OpNs w (opN o :: (r.P ++ (s.P ++ u.P)))) := by
  refine (law_op o A 3 3 [r, s, u] w rfl (by omega) h (by intro x hx; simp only [List.mem_cons, List.not_mem_nil, or_false] at hx; rcases hx with rfl | rfl | rfl <;> assumption) (by simp; omega)).mono ?_
  rintro e w' ⟨A, c, rfl, hN, -, hb⟩
  rw [show ([r, s, u].map Sl.P).flatten = r.P ++ (s.P ++ u.P) by simp] at hN
  rw [show ([r, s, u].map Sl.P).flatten = r.P ++ (s.P ++ u.P) by simp]
  exact ⟨A, _, c, rfl, hN, hb⟩
/-- A request's cells, one by one. -/
theorem vq_and {w : World} {b : Nat} {q : Rq} (h : Vq w b q) : w.cell? ⟨b, 0, none⟩ = some (.string q.who.1) ∧ w.cell? ⟨b, 1, none⟩ = some (.string q.who.2) ∧ w.cell? ⟨b, 2, none⟩ = some (.string q.act.1) ∧ w.cell? ⟨b, 3, none⟩ = some (.string q.act.2) ∧ w.cell? ⟨b, 4, none⟩ = some (.string q.what.1) ∧ w.cell? ⟨b, 5, none⟩ = some (.string q.what.2) ∧ w.cell? ⟨b, 6, none⟩ = some (.slice q.NA q.nn q.nc) :=
  ⟨h.c0, h.c1, h.c2, h.c3, h.c4, h.c5, h.c6⟩
/-- Alike in thing and in fault. -/
theorem law_alike (A B : Option Addr) (n m c d : Nat) (r s : Res) (w : World) (e : r = s) (h : Ns w A n c (valV r)) (k : Ns w B m d (valV s)) (hg : Door w) :
    Calls Tryz.prog 26 #[.slice A n c, errV (valE r), .slice B m d, errV (valE s)] w fun r w' => r = .returned (.bool true) ∧ Below w.heap.size w w' := by
  subst e
  refine (law_same A B n m c d _ _ _ _ w h k hg).mono ?_
  rintro e w' ⟨rfl, hb⟩
  exact ⟨by rw [decide_eq_true (show cmpNds (valV r) (valV r) = 0 from cmpNds_cmp.self _)]; simp, hb⟩
theorem ex_pos {P : List Nd} (h : exFault P = 0) : 0 < P.length := by
  obtain ⟨-, x, -, rfl⟩ := ex_of h
  exact flatX_pos x
end Go.Proofs.YtcdpoamiejompaaGreatDoor
namespace Go.Proofs.YtcdpoamiejompaaGreatDoor
open Go.RowKit Go.Wk Go.Sort
set_option maxRecDepth 100000

theorem truth_cells {w : World} {a : Addr} {n c : Nat} {b : Bool} (h : Ns w (some a) n c (truthN b)) : 1 ≤ n ∧ w.cell? a = some (.int .i64 1) ∧ w.cell? ⟨a.block, a.off + 1, none⟩ = some (.int .i64 (if b then 1 else 0)) := by
  obtain ⟨a', ea, hn, ⟨d0, d1, -, -⟩, -, -⟩ := ns_hd h (by cases b <;> decide)
  injection ea with ea
  subst ea
  exact ⟨hn, d0, d1⟩
set_option maxHeartbeats 16000000 in
theorem EvalShort_walk (A0 : Option Addr) (n0 c0 : Nat) (E : List En) (q : Rq) (A2 : Option Addr) (n2 c2 : Nat) (P2 : List Nd) (A3 : Option Addr) (n3 c3 : Nat) (P3 : List Nd) (A4 : Option Addr) (n4 c4 : Nat) (P4 : List Nd) (w : World) (hE : Es w A0 n0 c0 E) (hq : RqOk w q) (h2 : Ns w A2 n2 c2 P2) (h3 : Ns w A3 n3 c3 P3) (h4 : Ns w A4 n4 c4 P4) (hg : Door w) :
    Calls Tryz.prog 8 #[.slice A0 n0 c0, q.v, .slice A2 n2 c2, .slice A3 n3 c3, .slice A4 n4 c4] w fun e w' => e = .returned (.bool true) ∧ Below w.heap.size w w' := by
  have HF := Lib.hid (fun w' (hb : Below w.heap.size w w') => law_fact w' (hg.keep hb))
  have HVl := Lib.hid (fun (A : Option Addr) (n c : Nat) (P : List Nd) (w' : World) (hb : Below w.heap.size w w') (hP : Ns w' A n c P) => eval_Value A0 n0 c0 E q A n c P w' (hE.keep hb) (hq.keep hb) hP (hg.keep hb))
  have C3 := Lib.hid (fun w' (hb : Below w.heap.size w w') => tree_Check A3 n3 c3 P3 w' (h3.keep hb))
  have C4 := Lib.hid (fun w' (hb : Below w.heap.size w w') => tree_Check A4 n4 c4 P4 w' (h4.keep hb))
  have HG := Lib.hid hg
  have H2 := Lib.hid h2
  have H3 := Lib.hid h3
  have H4 := Lib.hid h4
  have W0 := Lib.hid (vq_new w q 27)
  have B0 := Lib.hid (below_box w (.cells #[.string q.who.1, .string q.who.2, .string q.act.1, .string q.act.2, .string q.what.1, .string q.what.2, .slice q.NA q.nn q.nc] 27))
  unfold Rq.v at HVl ⊢
  unfold ValPost at HVl
  have hl2 := h2.len
  have hl3 := h3.len
  have hl4 := h4.len
  have HL2 := Lib.hid hl2
  have HL3 := Lib.hid hl3
  have HL4 := Lib.hid hl4
  have hm2 := h2.max
  have hm3 := h3.max
  have hm4 := h4.max
  unfold maxLen at hm2 hm3 hm4
  clear hE hq h2 h3 h4 hg hl2 hl3 hl4
  go_enter Tryz.func8, Tryz.ntmps8
  go_wp2_with fail
  refine (HF.out _ B0.out).mono ?_
  rintro e w1 ⟨rfl, b1⟩
  have B1 := bh B0 b1
  have W1 := Lib.hid (W0.out.keep b1)
  clear b1 B0 W0 HF
  obtain ⟨k0, k1, k2, k3, k4, k5, k6⟩ := W1.out
  go_wp2_with fail
  refine (HVl.out A2 n2 c2 P2 w1 B1.out (H2.out.keep B1.out)).mono ?_
  rintro e w2 ⟨A2', m2, c2', rfl, hN, b2⟩
  have N2 := Lib.hid hN
  have B2 := bh B1 b2
  have W2 := Lib.hid (W1.out.keep b2)
  clear k0 k1 k2 k3 k4 k5 k6 hN b2
  clear B1 W1
  by_cases z : valE (valueX ⟨E, q.who, q.act, q.what, q.P⟩ P2) = 0
  case neg =>
    rw [errV_ne z]
    clear z
    go_wp2_with fail
    go_ret
    exact ⟨rfl, B2.out⟩
  obtain ⟨hz1, hz2⟩ := valE_zero z
  have HZ1 := Lib.hid hz1
  have hp := valFault_pos hz2
  rw [z, errV_zero]
  generalize valV (valueX ⟨E, q.who, q.act, q.what, q.P⟩ P2) = V at N2 HZ1 hz1 hz2 hp
  have hA := (valueX_ok hz1).2.2.1
  have L2 := hA
  rw [← HL2.out] at L2
  clear hA
  obtain ⟨a2, rfl, hn2, ⟨d0, d1, -, -⟩, -, hh⟩ := ns_hd N2.out hp
  by_cases g1 : headOp V = 1
  case neg =>
    have g2 : ¬ (hdN V).op = 1 := by rw [← hh]; exact g1
    have d0' : w2.cell? a2 = some (.int .i64 (hdN V).op) := d0
    have hn0 : 0 < m2 := hn2
    have hi0 : (0 : Int) < (m2 : Int) := by omega
    clear d0 d1 hh g1 z hz1 hz2 HZ1 hp
    generalize (hdN V).op = h at *
    go_wp2_with fail
    go_ret
    exact ⟨rfl, B2.out⟩
  clear d0 d1 hh hn2 hp
  have HZ : Hid (valueX ⟨E, q.who, q.act, q.what, q.P⟩ P2 = .ok V) := HZ1
  obtain ⟨bb, hbb⟩ : ∃ bb : Bool, V = truthN bb := by rcases bool_ways hz2 g1 with h | h <;> exact ⟨_, h⟩
  subst hbb
  clear z hz1 hz2 g1 HZ1
  obtain ⟨hn1, d0, d1⟩ := truth_cells N2.out
  have hn0 : 0 < m2 := hn1
  have hi0 : (0 : Int) < (m2 : Int) := by omega
  go_wp2_with fail
  refine (C3.out _ B2.out).mono ?_
  rintro e w3 ⟨rfl, b3⟩
  have B3 := bh B2 b3
  have W3 := Lib.hid (W2.out.keep b3)
  replace N2 := Lib.hid (N2.out.keep b3)
  clear b3 B2 W2 C3 d0 d1
  by_cases q3 : exFault P3 = 0
  case neg =>
    rw [errV_ne q3]
    clear q3
    go_wp2_with fail
    go_ret
    exact ⟨rfl, B3.out⟩
  rw [q3, errV_zero]
  go_wp2_with fail
  refine (C4.out _ B3.out).mono ?_
  rintro e w4 ⟨rfl, b4⟩
  have B4 := bh B3 b4
  have W4 := Lib.hid (W3.out.keep b4)
  replace N2 := Lib.hid (N2.out.keep b4)
  clear b4 B3 W3 C4
  by_cases q4 : exFault P4 = 0
  case neg =>
    rw [errV_ne q4]
    clear q4
    go_wp2_with fail
    go_ret
    exact ⟨rfl, B4.out⟩
  rw [q4, errV_zero]
  have L3 := (ex_of q3).1
  have L4 := (ex_of q4).1
  rw [← HL3.out] at L3
  rw [← HL4.out] at L4
  by_cases hl : n2 + n3 + n4 + 1 ≤ 200
  case neg =>
    have f1 : (200 : Int) < (n2 : Int) + (n3 : Int) + (n4 : Int) + 1 := by omega
    clear q3 q4
    go_wp2_with fail
    go_ret
    exact ⟨rfl, B4.out⟩
  have f1 : ¬ (200 : Int) < (n2 : Int) + (n3 : Int) + (n4 : Int) + 1 := by omega
  have p2 : 0 < P2.length := by obtain ⟨-, -, -, -, x, -, rfl, -⟩ := valueX_ok HZ.out; exact flatX_pos x
  have p3 : 0 < P3.length := ex_pos q3
  have p4 : 0 < P4.length := ex_pos q4
  have l234 : P2.length + P3.length + P4.length + 1 ≤ 200 := by rw [HL2.out, HL3.out, HL4.out] at hl; exact hl
  have l3 : P2.length + P3.length + P4.length ≤ 1000 := by omega
  have l2 : P2.length + P3.length ≤ 1000 := by omega
  have M1 := Lib.hid (if_value HZ.out rfl q3 q4 l234)
  have M2 := Lib.hid (short_value HZ.out rfl (o := bb) (by cases bb <;> rfl) q3 (by omega : P2.length + P3.length + 1 ≤ 200))
  clear q3 q4 l234
  rcases bb with _ | _
  · rw [if_neg (by decide)] at M1
    have M2' : Hid (valueX ⟨E, q.who, q.act, q.what, q.P⟩ (opN 11 :: (P2 ++ P3)) = .ok (truthN false)) := Lib.hid M2.out
    clear M2
    go_wp2_with fail
    have N_H2 := Lib.hid (H2.out.keep B4.out)
    have N_H3 := Lib.hid (H3.out.keep B4.out)
    have N_H4 := Lib.hid (H4.out.keep B4.out)
    have Q4 := Lib.hid (Below.refl w4.heap.size w4)
    have V4 := Lib.hid (W4.out.keep (below_drew w4))
    have bx : RowKit.Below w4.heap.size w4 (w4.alloc (.cells #[.slice A2 n2 c2, .slice A3 n3 c3, .slice A4 n4 c4] 25)).drew := (below_box w4 _).trans ((below_drew _).mono (below_box w4 _).size)
    have VX := Lib.hid (W4.out.keep bx)
    have BX := bh B4 bx
    have QX := bh Q4 bx
    have SX : SlsAt (w4.alloc (.cells #[.slice A2 n2 c2, .slice A3 n3 c3, .slice A4 n4 c4] 25)).drew (some ⟨w4.heap.size, 0, none⟩) [⟨A2, n2, c2, P2⟩, ⟨A3, n3, c3, P3⟩, ⟨A4, n4, c4, P4⟩] := (sls_three w4 ⟨A2, n2, c2, P2⟩ ⟨A3, n3, c3, P3⟩ ⟨A4, n4, c4, P4⟩ N_H2.out N_H3.out N_H4.out _).keep (below_drew _)
    have K0 := Lib.hid (op_sl3 13 ⟨A2, n2, c2, P2⟩ ⟨A3, n3, c3, P3⟩ ⟨A4, n4, c4, P4⟩ _ _ SX p2 p3 p4 l3)
    clear bx SX
    go_region_held3 (fun w' : World => w'.cell? ⟨w.heap.size, 0, none⟩ = some (.string q.who.1) ∧ w'.cell? ⟨w.heap.size, 1, none⟩ = some (.string q.who.2) ∧ w'.cell? ⟨w.heap.size, 2, none⟩ = some (.string q.act.1) ∧ w'.cell? ⟨w.heap.size, 3, none⟩ = some (.string q.act.2) ∧ w'.cell? ⟨w.heap.size, 4, none⟩ = some (.string q.what.1) ∧ w'.cell? ⟨w.heap.size, 5, none⟩ = some (.string q.what.2) ∧ w'.cell? ⟨w.heap.size, 6, none⟩ = some (.slice q.NA q.nn q.nc)) (first | (with_reducible exact vq_and V6.out) | (with_reducible exact vq_and V5.out) | (with_reducible exact vq_and VX.out) | (with_reducible exact vq_and V4.out)) (first
        | (go_at_call 12; refine (HVl.out A5 m5 c5 (opN 13 :: (P2 ++ (P3 ++ P4))) w5 B5.out N5.out).mono ?_; rintro e w6 ⟨A6, m6, c6, rfl, hN, b6⟩; have N6 := Lib.hid hN; have B6 := bh B5 b6; have Q6 := bh Q5 b6; have V6 := Lib.hid (V5.out.keep b6))
        | (go_at_call 20; (with_reducible refine K0.out.mono ?_); rintro e w5 ⟨A5, m5, c5, rfl, hN, b5⟩; have N5 := Lib.hid hN; have B5 := bh BX b5; have Q5 := bh QX b5; have V5 := Lib.hid (VX.out.keep b5)))
    have W6 := V6
    replace N2 := Lib.hid (N2.out.keep Q6.out)
    clear N_H2 N_H3 N_H4 V4 VX V5 BX QX K0 N5
    obtain ⟨k0, k1, k2, k3, k4, k5, k6⟩ := W6.out
    go_wp2_with fail
    refine (HVl.out A4 n4 c4 P4 w6 B6.out (H4.out.keep B6.out)).mono ?_
    rintro e w7 ⟨A7, m7, c7, rfl, hN, b7⟩
    have N7 := Lib.hid hN
    have B7 := bh B6 b7
    have W7 := Lib.hid (W6.out.keep b7)
    replace N2 := Lib.hid (N2.out.keep b7)
    replace N6 := Lib.hid (N6.out.keep b7)
    clear k0 k1 k2 k3 k4 k5 k6 hN b7
    obtain ⟨hn1, d0, d1⟩ := truth_cells N2.out
    have d2 : w7.cell? ⟨a2.block, a2.off + 1, none⟩ = some (.int .i64 0) := d1
    clear d0 d1
    go_wp2_with fail
    refine (law_alike A6 A7 m6 m7 c6 c7 _ _ w7 M1.out N6.out N7.out (HG.out.keep B7.out)).mono ?_
    rintro e w8 ⟨rfl, b8⟩
    have B8 := bh B7 b8
    have W8 := Lib.hid (W7.out.keep b8)
    replace N2 := Lib.hid (N2.out.keep b8)
    clear N6 N7 b8 d2
    obtain ⟨hn1, d0, d1⟩ := truth_cells N2.out
    have d2 : w8.cell? ⟨a2.block, a2.off + 1, none⟩ = some (.int .i64 0) := d1
    clear d0 d1
    go_wp2_with fail
    have N_H2 := Lib.hid (H2.out.keep B8.out)
    have N_H3 := Lib.hid (H3.out.keep B8.out)
    have Q8 := Lib.hid (Below.refl w8.heap.size w8)
    have V8 := Lib.hid (W8.out.keep (below_drew w8))
    have bx : RowKit.Below w8.heap.size w8 (w8.alloc (.cells #[.slice A2 n2 c2, .slice A3 n3 c3] 25)).drew := (below_box w8 _).trans ((below_drew _).mono (below_box w8 _).size)
    have VX := Lib.hid (W8.out.keep bx)
    have BX := bh B8 bx
    have QX := bh Q8 bx
    have SX : SlsAt (w8.alloc (.cells #[.slice A2 n2 c2, .slice A3 n3 c3] 25)).drew (some ⟨w8.heap.size, 0, none⟩) [⟨A2, n2, c2, P2⟩, ⟨A3, n3, c3, P3⟩] := (sls_two w8 ⟨A2, n2, c2, P2⟩ ⟨A3, n3, c3, P3⟩ N_H2.out N_H3.out _).keep (below_drew _)
    have K0 := Lib.hid (op_sl2 11 ⟨A2, n2, c2, P2⟩ ⟨A3, n3, c3, P3⟩ _ _ SX p2 p3 l2)
    clear bx SX
    go_region_held3 (fun w' : World => w'.cell? ⟨w.heap.size, 0, none⟩ = some (.string q.who.1) ∧ w'.cell? ⟨w.heap.size, 1, none⟩ = some (.string q.who.2) ∧ w'.cell? ⟨w.heap.size, 2, none⟩ = some (.string q.act.1) ∧ w'.cell? ⟨w.heap.size, 3, none⟩ = some (.string q.act.2) ∧ w'.cell? ⟨w.heap.size, 4, none⟩ = some (.string q.what.1) ∧ w'.cell? ⟨w.heap.size, 5, none⟩ = some (.string q.what.2) ∧ w'.cell? ⟨w.heap.size, 6, none⟩ = some (.slice q.NA q.nn q.nc)) (first | (with_reducible exact vq_and V10.out) | (with_reducible exact vq_and V9.out) | (with_reducible exact vq_and VX.out) | (with_reducible exact vq_and V8.out)) (first
        | (go_at_call 12; refine (HVl.out A9 m9 c9 (opN 11 :: (P2 ++ P3)) w9 B9.out N9.out).mono ?_; rintro e w10 ⟨A10, m10, c10, rfl, hN, b10⟩; have N10 := Lib.hid hN; have B10 := bh B9 b10; have Q10 := bh Q9 b10; have V10 := Lib.hid (V9.out.keep b10))
        | (go_at_call 20; (with_reducible refine K0.out.mono ?_); rintro e w9 ⟨A9, m9, c9, rfl, hN, b9⟩; have N9 := Lib.hid hN; have B9 := bh BX b9; have Q9 := bh QX b9; have V9 := Lib.hid (VX.out.keep b9)))
    have W10 := V10
    replace N2 := Lib.hid (N2.out.keep Q10.out)
    clear N_H2 N_H3 V8 VX V9 BX QX K0 N9
    have K := Lib.hid (law_alike A10 (some a2) m10 m2 c10 c2' _ (.ok (truthN false)) w10 M2'.out N10.out N2.out (HG.out.keep B10.out))
    rw [show errV (valE (.ok (truthN false))) = .nilIface from errV_zero] at K
    go_wp2_with fail
    refine K.out.mono ?_
    rintro e w11 ⟨rfl, b11⟩
    have B11 := bh B10 b11
    go_wp2_with fail
    go_ret
    exact ⟨rfl, B11.out⟩
  · rw [if_pos (by decide)] at M1
    have M2' : Hid (valueX ⟨E, q.who, q.act, q.what, q.P⟩ (opN 12 :: (P2 ++ P3)) = .ok (truthN true)) := Lib.hid M2.out
    clear M2
    go_wp2_with fail
    have N_H2 := Lib.hid (H2.out.keep B4.out)
    have N_H3 := Lib.hid (H3.out.keep B4.out)
    have N_H4 := Lib.hid (H4.out.keep B4.out)
    have Q4 := Lib.hid (Below.refl w4.heap.size w4)
    have V4 := Lib.hid (W4.out.keep (below_drew w4))
    have bx : RowKit.Below w4.heap.size w4 (w4.alloc (.cells #[.slice A2 n2 c2, .slice A3 n3 c3, .slice A4 n4 c4] 25)).drew := (below_box w4 _).trans ((below_drew _).mono (below_box w4 _).size)
    have VX := Lib.hid (W4.out.keep bx)
    have BX := bh B4 bx
    have QX := bh Q4 bx
    have SX : SlsAt (w4.alloc (.cells #[.slice A2 n2 c2, .slice A3 n3 c3, .slice A4 n4 c4] 25)).drew (some ⟨w4.heap.size, 0, none⟩) [⟨A2, n2, c2, P2⟩, ⟨A3, n3, c3, P3⟩, ⟨A4, n4, c4, P4⟩] := (sls_three w4 ⟨A2, n2, c2, P2⟩ ⟨A3, n3, c3, P3⟩ ⟨A4, n4, c4, P4⟩ N_H2.out N_H3.out N_H4.out _).keep (below_drew _)
    have K0 := Lib.hid (op_sl3 13 ⟨A2, n2, c2, P2⟩ ⟨A3, n3, c3, P3⟩ ⟨A4, n4, c4, P4⟩ _ _ SX p2 p3 p4 l3)
    clear bx SX
    go_region_held3 (fun w' : World => w'.cell? ⟨w.heap.size, 0, none⟩ = some (.string q.who.1) ∧ w'.cell? ⟨w.heap.size, 1, none⟩ = some (.string q.who.2) ∧ w'.cell? ⟨w.heap.size, 2, none⟩ = some (.string q.act.1) ∧ w'.cell? ⟨w.heap.size, 3, none⟩ = some (.string q.act.2) ∧ w'.cell? ⟨w.heap.size, 4, none⟩ = some (.string q.what.1) ∧ w'.cell? ⟨w.heap.size, 5, none⟩ = some (.string q.what.2) ∧ w'.cell? ⟨w.heap.size, 6, none⟩ = some (.slice q.NA q.nn q.nc)) (first | (with_reducible exact vq_and V6.out) | (with_reducible exact vq_and V5.out) | (with_reducible exact vq_and VX.out) | (with_reducible exact vq_and V4.out)) (first
        | (go_at_call 12; refine (HVl.out A5 m5 c5 (opN 13 :: (P2 ++ (P3 ++ P4))) w5 B5.out N5.out).mono ?_; rintro e w6 ⟨A6, m6, c6, rfl, hN, b6⟩; have N6 := Lib.hid hN; have B6 := bh B5 b6; have Q6 := bh Q5 b6; have V6 := Lib.hid (V5.out.keep b6))
        | (go_at_call 20; (with_reducible refine K0.out.mono ?_); rintro e w5 ⟨A5, m5, c5, rfl, hN, b5⟩; have N5 := Lib.hid hN; have B5 := bh BX b5; have Q5 := bh QX b5; have V5 := Lib.hid (VX.out.keep b5)))
    have W6 := V6
    replace N2 := Lib.hid (N2.out.keep Q6.out)
    clear N_H2 N_H3 N_H4 V4 VX V5 BX QX K0 N5
    obtain ⟨k0, k1, k2, k3, k4, k5, k6⟩ := W6.out
    go_wp2_with fail
    refine (HVl.out A4 n4 c4 P4 w6 B6.out (H4.out.keep B6.out)).mono ?_
    rintro e w7 ⟨A7, m7, c7, rfl, hN, b7⟩
    have N7 := Lib.hid hN
    have B7 := bh B6 b7
    have W7 := Lib.hid (W6.out.keep b7)
    replace N2 := Lib.hid (N2.out.keep b7)
    replace N6 := Lib.hid (N6.out.keep b7)
    clear k0 k1 k2 k3 k4 k5 k6 hN b7
    obtain ⟨hn1, d0, d1⟩ := truth_cells N2.out
    have d2 : w7.cell? ⟨a2.block, a2.off + 1, none⟩ = some (.int .i64 1) := d1
    clear d0 d1
    clear N7
    obtain ⟨k0, k1, k2, k3, k4, k5, k6⟩ := W7.out
    go_wp2_with fail
    refine (HVl.out A3 n3 c3 P3 w7 B7.out (H3.out.keep B7.out)).mono ?_
    rintro e w8 ⟨A8, m8, c8, rfl, hN, b8⟩
    have N8 := Lib.hid hN
    have B8 := bh B7 b8
    have W8 := Lib.hid (W7.out.keep b8)
    replace N2 := Lib.hid (N2.out.keep b8)
    replace N6 := Lib.hid (N6.out.keep b8)
    clear k0 k1 k2 k3 k4 k5 k6 hN b8
    clear d2
    go_wp2_with fail
    refine (law_alike A6 A8 m6 m8 c6 c8 _ _ w8 M1.out N6.out N8.out (HG.out.keep B8.out)).mono ?_
    rintro e w9 ⟨rfl, b9⟩
    have B9 := bh B8 b9
    have W9 := Lib.hid (W8.out.keep b9)
    replace N2 := Lib.hid (N2.out.keep b9)
    clear N6 N8 b9
    obtain ⟨hn1, d0, d1⟩ := truth_cells N2.out
    have d2 : w9.cell? ⟨a2.block, a2.off + 1, none⟩ = some (.int .i64 1) := d1
    clear d0 d1
    go_wp2_with fail
    have N_H2 := Lib.hid (H2.out.keep B9.out)
    have N_H3 := Lib.hid (H3.out.keep B9.out)
    have Q9 := Lib.hid (Below.refl w9.heap.size w9)
    have V9 := Lib.hid (W9.out.keep (below_drew w9))
    have bx : RowKit.Below w9.heap.size w9 (w9.alloc (.cells #[.slice A2 n2 c2, .slice A3 n3 c3] 25)).drew := (below_box w9 _).trans ((below_drew _).mono (below_box w9 _).size)
    have VX := Lib.hid (W9.out.keep bx)
    have BX := bh B9 bx
    have QX := bh Q9 bx
    have SX : SlsAt (w9.alloc (.cells #[.slice A2 n2 c2, .slice A3 n3 c3] 25)).drew (some ⟨w9.heap.size, 0, none⟩) [⟨A2, n2, c2, P2⟩, ⟨A3, n3, c3, P3⟩] := (sls_two w9 ⟨A2, n2, c2, P2⟩ ⟨A3, n3, c3, P3⟩ N_H2.out N_H3.out _).keep (below_drew _)
    have K0 := Lib.hid (op_sl2 12 ⟨A2, n2, c2, P2⟩ ⟨A3, n3, c3, P3⟩ _ _ SX p2 p3 l2)
    clear bx SX
    go_region_held3 (fun w' : World => w'.cell? ⟨w.heap.size, 0, none⟩ = some (.string q.who.1) ∧ w'.cell? ⟨w.heap.size, 1, none⟩ = some (.string q.who.2) ∧ w'.cell? ⟨w.heap.size, 2, none⟩ = some (.string q.act.1) ∧ w'.cell? ⟨w.heap.size, 3, none⟩ = some (.string q.act.2) ∧ w'.cell? ⟨w.heap.size, 4, none⟩ = some (.string q.what.1) ∧ w'.cell? ⟨w.heap.size, 5, none⟩ = some (.string q.what.2) ∧ w'.cell? ⟨w.heap.size, 6, none⟩ = some (.slice q.NA q.nn q.nc)) (first | (with_reducible exact vq_and V11.out) | (with_reducible exact vq_and V10.out) | (with_reducible exact vq_and VX.out) | (with_reducible exact vq_and V9.out)) (first
        | (go_at_call 12; refine (HVl.out A10 m10 c10 (opN 12 :: (P2 ++ P3)) w10 B10.out N10.out).mono ?_; rintro e w11 ⟨A11, m11, c11, rfl, hN, b11⟩; have N11 := Lib.hid hN; have B11 := bh B10 b11; have Q11 := bh Q10 b11; have V11 := Lib.hid (V10.out.keep b11))
        | (go_at_call 20; (with_reducible refine K0.out.mono ?_); rintro e w10 ⟨A10, m10, c10, rfl, hN, b10⟩; have N10 := Lib.hid hN; have B10 := bh BX b10; have Q10 := bh QX b10; have V10 := Lib.hid (VX.out.keep b10)))
    have W11 := V11
    replace N2 := Lib.hid (N2.out.keep Q11.out)
    clear N_H2 N_H3 V9 VX V10 BX QX K0 N10
    have K := Lib.hid (law_alike A11 (some a2) m11 m2 c11 c2' _ (.ok (truthN true)) w11 M2'.out N11.out N2.out (HG.out.keep B11.out))
    rw [show errV (valE (.ok (truthN true))) = .nilIface from errV_zero] at K
    go_wp2_with fail
    refine K.out.mono ?_
    rintro e w12 ⟨rfl, b12⟩
    have B12 := bh B11 b12
    go_wp2_with fail
    go_ret
    exact ⟨rfl, B12.out⟩
end Go.Proofs.YtcdpoamiejompaaGreatDoor
namespace Go.Proofs.YtcdpoamiejompaaGreatDoor
open Go Go.ChangeShapes Go.WideShapes
theorem EvalShort_named : Tryz.prog.funcNamed Rows.evalShortRow.func = some 8 := by kernel_rfl
theorem EvalShort_wf : Rows.evalShortRow.wfByText (OpenSpec.ofChange Rows.evalShortSpec) = true := by kernel_rfl
theorem EvalShort_main : Tryz.prog.mainIs = some (Rows.evalShortCard.stood.harness.1, Rows.evalShortCard.stood.harness.2.toList) := by kernel_rfl
theorem EvalShort_looks : true = Tryz.prog.looks [] := by kernel_rfl
theorem EvalShort_goes : false = Rows.evalShortRow.goesBy Tryz.prog := by kernel_rfl
theorem EvalShort_inst : Tryz.f8.isInstance Tryz.prog Rows.evalShortRow.origin Rows.evalShortRow.targs := of_decide_eq_true (by kernel_rfl)
theorem EvalShort_wrap : Tryz.f8.isWrapper Tryz.prog Rows.evalShortRow.wrapper Rows.evalShortRow.mainSum := by unfold Func.isWrapper; rw [if_neg (by decide +kernel)]; exact ⟨rfl, rfl⟩
theorem EvalShort_j1 : (Rows.evalShortRow.wf (OpenSpec.ofChange Rows.evalShortSpec)) = true := by kernel_rfl
theorem EvalShort_j2 : (laidOutB Tryz.prog) = true := by kernel_rfl
theorem EvalShort_j3 : (mapsRowed Tryz.prog) = true := by kernel_rfl
theorem EvalShort_j4 : (Tryz.f8.params.all (Tryz.prog.readableRec ·)) = true := by kernel_rfl
theorem EvalShort_j5 : (namedTie Tryz.prog Rows.evalShortRow.named Rows.evalShortSpec.vars) = true := by kernel_rfl
theorem EvalShort_j6 : ((Rows.evalShortRow.stops == [])) = true := by kernel_rfl
theorem EvalShort_j7 : ((Tryz.prog.stops == [])) = true := by kernel_rfl
theorem EvalShort_j8 : ((Rows.evalShortRow.knobs == [])) = true := by kernel_rfl
theorem EvalShort_j9 : ((Tryz.prog.stopKnobs == [])) = true := by kernel_rfl
theorem EvalShort_j10 : ((Rows.evalShortRow.inPlace == Tryz.prog.inPlace 8)) = true := by kernel_rfl
theorem EvalShort_j11 : ((Rows.evalShortRow.unfollowed == Tryz.prog.unfollowed 8)) = true := by kernel_rfl
theorem EvalShort_j12 : ((Rows.evalShortRow.recurses == Tryz.prog.recurses 8)) = true := by kernel_rfl
theorem EvalShort_j13 : ((Rows.evalShortRow.named == Tryz.prog.varsNamed 8)) = true := by kernel_rfl
theorem EvalShort_j14 : ((Rows.evalShortRow.maps == (Tryz.f8.params.toList ++ Rows.evalShortSpec.plain.varTypes Tryz.prog).any (Tryz.prog.mapsRec ·))) = true := by kernel_rfl
theorem EvalShort_j15 : ((Rows.evalShortRow.ifaces == (Tryz.f8.params.toList ++ Rows.evalShortSpec.plain.varTypes Tryz.prog).any (Tryz.prog.ifacesRec ·))) = true := by kernel_rfl
theorem EvalShort_j16 : ((Rows.evalShortRow.mapsOut == Tryz.prog.mapsAmong Tryz.f8.resultTypes.toList)) = true := by kernel_rfl
theorem EvalShort_j17 : ((Rows.evalShortRow.loops == (Tryz.f8.params.toList ++ Rows.evalShortSpec.plain.varTypes Tryz.prog).any (Tryz.prog.loopsFrom ·))) = true := by kernel_rfl
theorem EvalShort_j18 : ((Rows.evalShortRow.wideKeys == (Tryz.f8.params.toList ++ Rows.evalShortSpec.plain.varTypes Tryz.prog ++ Tryz.f8.resultTypes.toList).any (Tryz.prog.wideKeysFrom ·))) = true := by kernel_rfl
theorem EvalShort_j19 : (Rows.evalShortSpec.vars.all (Tryz.prog.varReadable ·)) = true := by kernel_rfl
theorem EvalShort_j20 : (Tryz.f8.resultTypes.all (fun t => Tryz.prog.readableRec t && decide (t < Tryz.prog.types.size))) = true := by kernel_rfl
theorem EvalShort_j21 : ((Rows.evalShortRow.ifacesOut == Tryz.f8.resultTypes.toList.any (Tryz.prog.ifacesRec ·))) = true := by kernel_rfl
theorem EvalShort_j22 : ((Rows.evalShortRow.loopsOut == Tryz.f8.resultTypes.toList.any (Tryz.prog.loopsFrom ·))) = true := by kernel_rfl
theorem EvalShort_j23 : ((Rows.evalShortRow.plainKeys == Tryz.prog.plainKeys)) = true := by kernel_rfl
theorem EvalShort_j24 : (Rows.evalShortRow.shortTexts.isNone) = true := by kernel_rfl
theorem EvalShort_j25 : (Tryz.prog.stopsHeard) = true := by kernel_rfl
theorem EvalShort_j26 : (Tryz.prog.mayEnter) = true := by kernel_rfl
theorem EvalShort_j27 : ((Rows.evalShortRow.lifted == Tryz.prog.liftsFinal)) = true := by kernel_rfl
theorem EvalShort_j28 : ((Tryz.prog.make == some Rows.evalShortRow.make)) = true := by kernel_rfl
theorem EvalShort_j29 : ((Rows.evalShortRow.kinds == (if Rows.evalShortRow.domain.isEmpty then [] else Tryz.f8.params.toList.map fun t => match Tryz.prog.underlying t with | some (.int k) => some k | _ => none))) = true := by kernel_rfl
theorem EvalShort_j30 : ((Rows.evalShortRow.pinned == Rows.evalShortRow.pinnedBy)) = true := by kernel_rfl
theorem EvalShort_j31 : ((Rows.evalShortRow.veiled == (Tryz.f8.params.toList ++ Rows.evalShortSpec.plain.varTypes Tryz.prog ++ Tryz.f8.resultTypes.toList).any (Tryz.prog.veiledRec ·))) = true := by kernel_rfl
theorem EvalShort_j32 : (Rows.evalShortRow.veiledFits Tryz.prog Tryz.f8.params.toList (Tryz.f8.params.toList ++ Rows.evalShortSpec.plain.varTypes Tryz.prog ++ Tryz.f8.resultTypes.toList)) = true := by kernel_rfl
theorem and_two {a b : Bool} (h : a = true) (k : b = true) : (a && b) = true := by rw [h, k]; rfl
set_option maxRecDepth 100000 in
theorem EvalShort_joined : joinedFacts Tryz.prog 8 Tryz.f8 Rows.evalShortSpec Rows.evalShortRow = true := by
  unfold joinedFacts
  exact (and_two (and_two (and_two (and_two (and_two (and_two (and_two (and_two (and_two (and_two (and_two (and_two (and_two (and_two (and_two (and_two (and_two (and_two (and_two (and_two (and_two (and_two (and_two (and_two (and_two (and_two (and_two (and_two (and_two (and_two (and_two EvalShort_j1 EvalShort_j2) EvalShort_j3) EvalShort_j4) EvalShort_j5) EvalShort_j6) EvalShort_j7) EvalShort_j8) EvalShort_j9) EvalShort_j10) EvalShort_j11) EvalShort_j12) EvalShort_j13) EvalShort_j14) EvalShort_j15) EvalShort_j16) EvalShort_j17) EvalShort_j18) EvalShort_j19) EvalShort_j20) EvalShort_j21) EvalShort_j22) EvalShort_j23) EvalShort_j24) EvalShort_j25) EvalShort_j26) EvalShort_j27) EvalShort_j28) EvalShort_j29) EvalShort_j30) EvalShort_j31) EvalShort_j32)
end Go.Proofs.YtcdpoamiejompaaGreatDoor
namespace Go.Proofs.YtcdpoamiejompaaGreatDoor
open Go Go.ChangeShapes Go.WideShapes Go.ChangeAt Go.RowKit Go.Wk
open Go.ChangeMaps (open_string)

set_option maxRecDepth 100000 in
theorem EvalShort_lifted (os : Os) (started : os.Started) (H : Type) (enc : TypeId × Value → H) :
    ReturnsInHanded {} Tryz.checked os 8 .any (fun w args => (Rows.evalShortSpec.pre enc Tryz.prog Tryz.f8 [] false w args ∧ laidMetH Tryz.prog laidList w) ∧ sizedMet enc Tryz.prog Tryz.f8 (OpenSpec.ofChange Rows.evalShortSpec) false w args) (Rows.evalShortSpec.post enc Tryz.prog Tryz.f8 false true false false) := by
  refine returnsInHanded_of_change_and (C := Tryz.checked) (X := fun w _ => laidMetH Tryz.prog laidList w) (fun _ _ _ hh h => h.of_heap hh) own started (by kernel_rfl) Tryz.func8
    (ChangeSpec.witness_at (enc := enc) (C := Tryz.checked) (os := os) (X := fun w _ => laidMetH Tryz.prog laidList w) false (laidWorld os) #[.slice none 0 0, .agg #[.string ⟨#[]⟩, .string ⟨#[]⟩, .string ⟨#[]⟩, .string ⟨#[]⟩, .string ⟨#[]⟩, .string ⟨#[]⟩, .slice none 0 0], .slice none 0 0, .slice none 0 0, .slice none 0 0] 8 rfl (by kernel_rfl) (by kernel_rfl) (by kernel_rfl) (by kernel_rfl) (by kernel_rfl) (laidWorld_met os _)) ?_
  intro W base args ds gs before hval0 hW _ _ hL _
  have hg := handle_of_laid hL
  have hval : ∀ (j : Nat) t v, Tryz.f8.params[j]? = some t → args[j]? = some v → Value.okWide Tryz.prog W .any base t v := hval0
  have hW0 := hW
  obtain ⟨p, q, hA0, _, _, _, _⟩ := hW
  have hA : DataW.TrodAll enc Tryz.prog W 0 (fun _ => true) true Tryz.f8.params.toList args.toList ds p := hA0
  rw [Tryz.params8] at hA hval
  clear hA0 hval0
  obtain ⟨v0, vs0, d0, ds0, p0, q0, hargs, rfl, rfl, h0, r0⟩ := trodAll_cons hA
  obtain ⟨v1, vs1, d1, ds1, p1, q1, rfl, rfl, rfl, h1, r1⟩ := trodAll_cons r0
  obtain ⟨v2, vs2, d2, ds2, p2, q2, rfl, rfl, rfl, h2, r2⟩ := trodAll_cons r1
  obtain ⟨v3, vs3, d3, ds3, p3, q3, rfl, rfl, rfl, h3, r3⟩ := trodAll_cons r2
  obtain ⟨v4, vs4, d4, ds4, p4, q4, rfl, rfl, rfl, h4, r4⟩ := trodAll_cons r3
  obtain ⟨rfl, rfl, rfl⟩ := trodAll_nil r4
  obtain ⟨args⟩ := args
  simp only at hargs
  subst hargs
  obtain ⟨A0, n0, c0, E0, rfl, sx0⟩ := open_ents (hval 0 22 v0 rfl rfl) h0
  obtain ⟨x1, rfl, sx1⟩ := open_request (hval 1 27 v1 rfl rfl) h1
  obtain ⟨A2, n2, c2, P2, rfl, sx2⟩ := open_nodes (hval 2 25 v2 rfl rfl) h2
  obtain ⟨A3, n3, c3, P3, rfl, sx3⟩ := open_nodes (hval 3 25 v3 rfl rfl) h3
  obtain ⟨A4, n4, c4, P4, rfl, sx4⟩ := open_nodes (hval 4 25 v4 rfl rfl) h4
  refine (EvalShort_walk A0 n0 c0 E0 x1 A2 n2 c2 P2 A3 n3 c3 P3 A4 n4 c4 P4 W sx0 sx1 sx2 sx3 sx4 hg).mono fun e W' ⟨he, hb'⟩ => ?_
  subst he
  refine ⟨_, rfl, law_post laidOut (by kernel_rfl) (by rfl) Tryz.underlying4 rfl ?_ hW0 hb'⟩
  intro ds hlen
  rw [Tryz.params8] at hlen
  match ds, hlen with
  | [e0, e1, e2, e3, e4], _ => rfl

theorem EvalShort_over : Rows.evalShortRow.holds Tryz.pinned (OpenSpec.ofChange Rows.evalShortSpec) :=
  OpenClaim.holds_of_wide 8 Tryz.f8 rfl rfl rfl rfl rfl rfl rfl ⟨rfl, rfl, rfl, rfl, rfl⟩ rfl rfl rfl rfl rfl EvalShort_named Tryz.func8 EvalShort_joined
    EvalShort_inst EvalShort_wrap
    (fun os started H enc _ => EvalShort_lifted os started H enc)

theorem EvalShort_holds : Rows.EvalShortCardSaid :=
  Claim7.holds_tied_plain_at .later [] [.handle] true Rows.evalShortCard.stood.harness true
    EvalShort_over (fun _ h => by cases h) EvalShort_wf (fun _ h => by cases h) evalShort_row_tie rfl ⟨rfl, rfl⟩ EvalShort_main rfl
    (fun f fn hf hfn => by
      obtain rfl : f = 8 := Option.some.inj (EvalShort_named.symm.trans hf) |>.symm
      obtain rfl : fn = Tryz.f8 := (Option.some.inj (Tryz.func8.symm.trans hfn)).symm
      exact ⟨EvalShort_looks, fun j t ht => by
        rw [Tryz.params8] at ht
        have hm := Array.mem_of_getElem? ht
        simp only [List.mem_toArray, List.mem_cons, List.not_mem_nil, or_false] at hm
        rcases hm with rfl | rfl | rfl | rfl | rfl
        all_goals exact (show Tryz.prog.wantsStandIn _ = false by kernel_rfl)⟩)
    EvalShort_goes
#print axioms EvalShort_holds
end Go.Proofs.YtcdpoamiejompaaGreatDoor
