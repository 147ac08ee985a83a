/-
  The laws' op, at one, two, three parts.
  A row of nodes of the call's own: nodes behind it; the document's Truth, EntOf.
  EvalSets: the walk of the law. (gen_evsets.py)
  EvalSets: the closed facts of the frame, one by one.
  EvalSets: the frame round the walk: for every input the law returns true, and each argument reads behind the call as it read before. No condition.
-/
import Derived.Deep.RegionHeld3
import Derived.SevenTiedAt
import Derived.Test.YtcdpoamiejompaaGreatDoorRows
import Derived.Test.YtcdpoamiejompaaGreatDoorCards
import Derived.Test.YtcdpoamiejompaaGreatDoorTie
import Derived.Test.YtcdpoamiejompaaGreatDoorQe32
namespace Go.Proofs.YtcdpoamiejompaaGreatDoor
open Go.RowKit Go.Wk Go.Sort
set_option maxRecDepth 100000

/-- What op tells: nodes in new blocks; their number has a name of its own. -/
def OpNs (w : World) (L : List Nd) (e : Ending) (w' : World) : Prop := ∃ A m c, e = .returned (.slice A m c) ∧ Ns w' A m c L ∧ Below w.heap.size w w'
theorem op_one (o : Int) (r : Sl) (w : World) (h : Ns w r.A r.n r.c r.P) (h0 : 0 < r.P.length) (hl : r.P.length ≤ 1000) :
    Calls Tryz.prog 20 #[.int .i64 o, .slice (some ⟨w.heap.size, 0, none⟩) 1 1] (w.alloc (.cells #[.slice r.A r.n r.c] 25)) (OpNs w (opN o :: r.P)) := by
  refine (law_op o (some ⟨w.heap.size, 0, none⟩) 1 1 [r] _ rfl (by omega) (sls_one w r h _) (by intro x hx; simp only [List.mem_cons, List.not_mem_nil, or_false] at hx; subst hx; exact h0) (by simpa using hl)).mono ?_
  rintro e w' ⟨A, c, rfl, hN, -, hb⟩
  rw [show ([r].map Sl.P).flatten = r.P by simp] at hN
  rw [show ([r].map Sl.P).flatten = r.P by simp]
  exact ⟨A, _, c, rfl, hN, (below_box w _).trans (hb.mono (by simp))⟩
theorem op_two (o : Int) (r s : Sl) (w : World) (h : Ns w r.A r.n r.c r.P) (k : Ns w s.A s.n s.c s.P) (h0 : 0 < r.P.length) (k0 : 0 < s.P.length) (hl : r.P.length + s.P.length ≤ 1000) :
    Calls Tryz.prog 20 #[.int .i64 o, .slice (some ⟨w.heap.size, 0, none⟩) 2 2] (w.alloc (.cells #[.slice r.A r.n r.c, .slice s.A s.n s.c] 25)) (OpNs w (opN o :: (r.P ++ s.P))) := by
  refine (law_op o (some ⟨w.heap.size, 0, none⟩) 2 2 [r, s] _ rfl (by omega) (sls_two w r s h k _) (by intro x hx; simp only [List.mem_cons, List.not_mem_nil, or_false] at hx; rcases hx with rfl | rfl <;> assumption) (by simpa using hl)).mono ?_
  rintro e w' ⟨A, c, rfl, hN, -, hb⟩
  rw [show ([r, s].map Sl.P).flatten = r.P ++ s.P by simp] at hN
  rw [show ([r, s].map Sl.P).flatten = r.P ++ s.P by simp]
  exact ⟨A, _, c, rfl, hN, (below_box w _).trans (hb.mono (by simp))⟩
theorem op_three (o : Int) (r s u : Sl) (w : World) (h : Ns w r.A r.n r.c r.P) (k : Ns w s.A s.n s.c s.P) (j : Ns w u.A u.n u.c u.P) (h0 : 0 < r.P.length) (k0 : 0 < s.P.length) (j0 : 0 < u.P.length) (hl : r.P.length + s.P.length + u.P.length ≤ 1000) :
    Calls Tryz.prog 20 #[.int .i64 o, .slice (some ⟨w.heap.size, 0, none⟩) 3 3] (w.alloc (.cells #[.slice r.A r.n r.c, .slice s.A s.n s.c, .slice u.A u.n u.c] 25)) (OpNs w (opN o :: (r.P ++ (s.P ++ u.P)))) := by
  refine (law_op o (some ⟨w.heap.size, 0, none⟩) 3 3 [r, s, u] _ rfl (by omega) (sls_three w r s u h k j _) (by intro x hx; simp only [List.mem_cons, List.not_mem_nil, or_false] at hx; rcases hx with rfl | rfl | rfl <;> assumption) (by simp; omega)).mono ?_
  rintro e w' ⟨A, c, rfl, hN, -, hb⟩
  rw [show ([r, s, u].map Sl.P).flatten = r.P ++ (s.P ++ u.P) by simp] at hN
  rw [show ([r, s, u].map Sl.P).flatten = r.P ++ (s.P ++ u.P) by simp]
  exact ⟨A, _, c, rfl, hN, (below_box w _).trans (hb.mono (by simp))⟩
/-- As op_one, op_two, where the parts lie already. -/
theorem op_sl1 (o : Int) (r : Sl) (A : Option Addr) (w : World) (h : SlsAt w A [r]) (h0 : 0 < r.P.length) (hl : r.P.length ≤ 1000) :
    Calls Tryz.prog 20 #[.int .i64 o, .slice A 1 1] w (OpNs w (opN o :: r.P)) := by
  refine (law_op o A 1 1 [r] w rfl (by omega) h (by intro x hx; simp only [List.mem_cons, List.not_mem_nil, or_false] at hx; subst hx; exact h0) (by simpa using hl)).mono ?_
  rintro e w' ⟨A, c, rfl, hN, -, hb⟩
  rw [show ([r].map Sl.P).flatten = r.P by simp] at hN
  rw [show ([r].map Sl.P).flatten = r.P by simp]
  exact ⟨A, _, c, rfl, hN, hb⟩
theorem op_sl2 (o : Int) (r s : Sl) (A : Option Addr) (w : World) (h : SlsAt w A [r, s]) (h0 : 0 < r.P.length) (k0 : 0 < s.P.length) (hl : r.P.length + s.P.length ≤ 1000) :
    Calls Tryz.prog 20 #[.int .i64 o, .slice A 2 2] w (OpNs w (opN o :: (r.P ++ s.P))) := by
  refine (law_op o A 2 2 [r, s] w rfl (by omega) h (by intro x hx; simp only [List.mem_cons, List.not_mem_nil, or_false] at hx; rcases hx with rfl | rfl <;> assumption) (by simpa using hl)).mono ?_
  rintro e w' ⟨A, c, rfl, hN, -, hb⟩
  rw [show ([r, s].map Sl.P).flatten = r.P ++ s.P by simp] at hN
  rw [show ([r, s].map Sl.P).flatten = r.P ++ s.P by simp]
  exact ⟨A, _, c, rfl, hN, hb⟩
theorem op_sl3 (o : Int) (r s u : Sl) (A : Option Addr) (w : World) (h : SlsAt w A [r, s, u]) (h0 : 0 < r.P.length) (k0 : 0 < s.P.length) (j0 : 0 < u.P.length) (hl : r.P.length + s.P.length + u.P.length ≤ 1000) :
    Calls Tryz.prog 20 #[.int .i64 o, .slice A 3 3] w (OpNs w (opN o :: (r.P ++ (s.P ++ u.P)))) := by
  refine (law_op o A 3 3 [r, s, u] w rfl (by omega) h (by intro x hx; simp only [List.mem_cons, List.not_mem_nil, or_false] at hx; rcases hx with rfl | rfl | rfl <;> assumption) (by simp; omega)).mono ?_
  rintro e w' ⟨A, c, rfl, hN, -, hb⟩
  rw [show ([r, s, u].map Sl.P).flatten = r.P ++ (s.P ++ u.P) by simp] at hN
  rw [show ([r, s, u].map Sl.P).flatten = r.P ++ (s.P ++ u.P) by simp]
  exact ⟨A, _, c, rfl, hN, hb⟩
/-- A request's cells, one by one. -/
theorem vq_and {w : World} {b : Nat} {q : Rq} (h : Vq w b q) : w.cell? ⟨b, 0, none⟩ = some (.string q.who.1) ∧ w.cell? ⟨b, 1, none⟩ = some (.string q.who.2) ∧ w.cell? ⟨b, 2, none⟩ = some (.string q.act.1) ∧ w.cell? ⟨b, 3, none⟩ = some (.string q.act.2) ∧ w.cell? ⟨b, 4, none⟩ = some (.string q.what.1) ∧ w.cell? ⟨b, 5, none⟩ = some (.string q.what.2) ∧ w.cell? ⟨b, 6, none⟩ = some (.slice q.NA q.nn q.nc) :=
  ⟨h.c0, h.c1, h.c2, h.c3, h.c4, h.c5, h.c6⟩
/-- Alike in thing and in fault. -/
theorem law_alike (A B : Option Addr) (n m c d : Nat) (r s : Res) (w : World) (e : r = s) (h : Ns w A n c (valV r)) (k : Ns w B m d (valV s)) (hg : Door w) :
    Calls Tryz.prog 26 #[.slice A n c, errV (valE r), .slice B m d, errV (valE s)] w fun r w' => r = .returned (.bool true) ∧ Below w.heap.size w w' := by
  subst e
  refine (law_same A B n m c d _ _ _ _ w h k hg).mono ?_
  rintro e w' ⟨rfl, hb⟩
  exact ⟨by rw [decide_eq_true (show cmpNds (valV r) (valV r) = 0 from cmpNds_cmp.self _)]; simp, hb⟩
theorem ex_pos {P : List Nd} (h : exFault P = 0) : 0 < P.length := by
  obtain ⟨-, x, -, rfl⟩ := ex_of h
  exact flatX_pos x
end Go.Proofs.YtcdpoamiejompaaGreatDoor
namespace Go.Proofs.YtcdpoamiejompaaGreatDoor
open Go.RowKit Go.Wk Go.Sort
set_option maxRecDepth 100000

/-- A slice of the call's own that holds the nodes P. -/
structure NRow (w : World) (base : Nat) (v : Value) (P : List Nd) : Prop where
  own : w.ownsRow base 42 4 v P.length (ndCells P)
theorem NRow.keep {w w' : World} {base : Nat} {v : Value} {P : List Nd} (h : NRow w base v P) (hb : Below w.heap.size w w') : NRow w' base v P := ⟨h.own.kept (grown_of_below hb none) (by cases hv : v.ownBlock <;> simp)⟩
theorem NRow.one (w : World) (x : Nd) : NRow (w.alloc (.cells #[.int .i64 x.op, .int .i64 x.n, .string x.s, .string x.t] 42)) w.heap.size (.slice (some ⟨w.heap.size, 0, none⟩) 1 1) [x] := ⟨row_one w x⟩
theorem NRow.ns {w : World} {base : Nat} {v : Value} {P : List Nd} (h : NRow w base v P) (hl : P.length ≤ 1000) (ho : NdsOk P) : ∃ A n c, v = .slice A n c ∧ Ns w A n c P := by
  obtain ⟨A, c, rfl, hc, hA, -⟩ := nds_of_own h.own
  exact ⟨A, _, c, rfl, rfl, hc, by unfold maxLen; omega, hA, ho⟩
/-- append of nodes to such a row. -/
theorem wpList_append_sl {ops : Array Oper} {rest : List Oper} {o : Oper} {a : Act} {w : World} {Q : Exit → Act → World → Prop} (hgd : o.guard = none) (s x : Operand)
    (ho : o.op = .call { callee := .builtin .append, args := #[s, x], argTypes := #[25, 25] })
    (base : Nat) (v : Value) (L : List Nd) (hs : a.eval s = v) (hrow : NRow w base v L) (A : Option Addr) (n c : Nat) (P : List Nd) (hx : a.eval x = .slice A n c) (hP : Ns w A n c P) (h0 : 0 < P.length)
    (hl : L.length + P.length ≤ 1000) (hbase : base ≤ w.heap.size)
    (h : ∀ v' w', NRow w' base v' (L ++ P) → Below base w w' → wpList Tryz.prog ops Q rest (a.put o.dst v') w') : wpList Tryz.prog ops Q (o :: rest) a w := by
  have hi := ndInfo
  cases hq : Tryz.prog.info? 42 with
  | none => rw [hq] at hi; cases hi
  | some i0 =>
    rw [hq] at hi
    simp only [Option.map_some, Option.some.injEq, Prod.mk.injEq] at hi
    obtain ⟨a2, rfl, -⟩ := hP.at_.nd h0
    have HC : ∀ j u, (ndCells P)[j]? = some u → w.cell? (a2.add j) = some u := hP.at_.cells
    have hn := hP.len
    refine wpList_append_own w hgd s x _ ho base _ i0 _ 4 48 Tryz.underlying25 hq hi.1 hi.2.1 hi.2.2 (by decide) (by decide) v L.length (ndCells L) hs hrow.own a2 n c (ndCells P) hx (by rw [ndCells_length, hn]) HC (ndCells_one _) (by unfold maxLen; omega) (by omega) hbase ?_
    intro v' w' h1 h2 _
    rw [hn, ← ndCells_append, ← List.length_append] at h1
    exact h v' w' ⟨h1⟩ ((Below.refl base w).grown h2 hbase (own_base hrow.own))
theorem ref_TruthF (b : Bool) (w : World) :
    Calls Tryz.prog 21 #[.bool b] w fun e w' => ∃ A n c, e = .returned (.slice A n c) ∧ (Ns w' A n c (truthN b) ∧ ∀ a, A = some a → w.heap.size ≤ a.block) ∧ Below w.heap.size w w' := by
  have N1 := Lib.hid (nd_lit w ⟨1, 1, emp, emp⟩ ⟨by decide, by decide, by decide, by decide⟩)
  have N0 := Lib.hid (nd_lit w ⟨1, 0, emp, emp⟩ ⟨by decide, by decide, by decide, by decide⟩)
  cases b
  · go_enter Tryz.func21, Tryz.ntmps21
    go_wp2_with fail
    go_ret
    exact ⟨_, 1, 1, rfl, ⟨N0.out, fun a e => by injection e with e; subst e; exact Nat.le_refl _⟩, below_box w _⟩
  · go_enter Tryz.func21, Tryz.ntmps21
    go_wp2_with fail
    go_ret
    exact ⟨_, 1, 1, rfl, ⟨N1.out, fun a e => by injection e with e; subst e; exact Nat.le_refl _⟩, below_box w _⟩
theorem ref_Truth (b : Bool) (w : World) :
    Calls Tryz.prog 21 #[.bool b] w fun e w' => ∃ A n c, e = .returned (.slice A n c) ∧ Ns w' A n c (truthN b) ∧ Below w.heap.size w w' :=
  (ref_TruthF b w).mono fun _ _ ⟨A, n, c, h1, h2, h3⟩ => ⟨A, n, c, h1, h2.1, h3⟩
theorem ref_EntOfF (u : Ud) (w : World) (hu : UOk u) :
    Calls Tryz.prog 18 #[.agg #[.string u.1, .string u.2]] w fun e w' => ∃ A n c, e = .returned (.slice A n c) ∧ (Ns w' A n c (entN u) ∧ ∀ a, A = some a → w.heap.size ≤ a.block) ∧ Below w.heap.size w w' := by
  have N1 := Lib.hid (nd_lit (w.alloc (.cells #[.string u.1, .string u.2] 24)) ⟨4, 0, u.1, u.2⟩ ⟨hu.1, hu.2, by show _ ≤ (0 : Int); decide, by show (0 : Int) ≤ _; decide⟩)
  rw [show (w.alloc (.cells #[.string u.1, .string u.2] 24)).heap.size = w.heap.size + 1 from by simp [go_sem]] at N1
  have B1 := Lib.hid ((below_box w (.cells #[.string u.1, .string u.2] 24)).trans ((below_box (w.alloc (.cells #[.string u.1, .string u.2] 24)) (.cells #[.int .i64 4, .int .i64 0, .string u.1, .string u.2] 42)).mono (below_box w _).size))
  clear hu
  go_enter Tryz.func18, Tryz.ntmps18
  go_wp2_with fail
  go_ret
  exact ⟨_, 1, 1, rfl, ⟨N1.out, fun a e => by injection e with e; subst e; exact Nat.le_succ _⟩, B1.out⟩
theorem ref_EntOf (u : Ud) (w : World) (hu : UOk u) :
    Calls Tryz.prog 18 #[.agg #[.string u.1, .string u.2]] w fun e w' => ∃ A n c, e = .returned (.slice A n c) ∧ Ns w' A n c (entN u) ∧ Below w.heap.size w w' :=
  (ref_EntOfF u w hu).mono fun _ _ ⟨A, n, c, h1, h2, h3⟩ => ⟨A, n, c, h1, h2.1, h3⟩
end Go.Proofs.YtcdpoamiejompaaGreatDoor
namespace Go.Proofs.YtcdpoamiejompaaGreatDoor
open Go.RowKit Go.Wk Go.Sort
set_option maxRecDepth 100000

theorem set_ok (n : Int) (hn : 0 ≤ n) (hm : n ≤ 10) {P : List Nd} (h : NdsOk P) : NdsOk (⟨5, n, emp, emp⟩ :: P) := by
  intro x hx
  rcases List.mem_cons.1 hx with rfl | hx
  · exact ⟨Nat.zero_le _, Nat.zero_le _, by show _ ≤ n; omega, by show n ≤ _; omega⟩
  · exact h x hx
theorem nds_app {P Q : List Nd} (h : NdsOk P) (k : NdsOk Q) : NdsOk (P ++ Q) := fun x hx => by
  rcases List.mem_append.1 hx with hx | hx
  · exact h x hx
  · exact k x hx
set_option maxHeartbeats 16000000 in
theorem EvalSets_walk (A0 : Option Addr) (n0 c0 : Nat) (E : List En) (q : Rq) (A2 : Option Addr) (n2 c2 : Nat) (P2 : List Nd) (A3 : Option Addr) (n3 c3 : Nat) (P3 : List Nd) (w : World) (hE : Es w A0 n0 c0 E) (hq : RqOk w q) (h2 : Ns w A2 n2 c2 P2) (h3 : Ns w A3 n3 c3 P3) (hg : Door w) :
    Calls Tryz.prog 9 #[.slice A0 n0 c0, q.v, .slice A2 n2 c2, .slice A3 n3 c3] w fun e w' => e = .returned (.bool true) ∧ Below w.heap.size w w' := by
  have HF := Lib.hid (fun w' (hb : Below w.heap.size w w') => law_fact w' (hg.keep hb))
  have HVl := Lib.hid (fun (A : Option Addr) (n c : Nat) (P : List Nd) (w' : World) (hb : Below w.heap.size w w') (hP : Ns w' A n c P) => eval_Value A0 n0 c0 E q A n c P w' (hE.keep hb) (hq.keep hb) hP (hg.keep hb))
  have HG := Lib.hid hg
  have H2 := Lib.hid h2
  have H3 := Lib.hid h3
  have W0 := Lib.hid (vq_new w q 27)
  have B0 := Lib.hid (below_box w (.cells #[.string q.who.1, .string q.who.2, .string q.act.1, .string q.act.2, .string q.what.1, .string q.what.2, .slice q.NA q.nn q.nc] 27))
  unfold Rq.v at HVl ⊢
  unfold ValPost at HVl
  have hl2 := h2.len
  have hl3 := h3.len
  have HL2 := Lib.hid hl2
  have HL3 := Lib.hid hl3
  have hm2 := h2.max
  have hm3 := h3.max
  unfold maxLen at hm2 hm3
  clear hE hq h2 h3 hg hl2 hl3
  go_enter Tryz.func9, Tryz.ntmps9
  go_wp2_with fail
  refine (HF.out _ B0.out).mono ?_
  rintro e w1 ⟨rfl, b1⟩
  have B1 := bh B0 b1
  have W1 := Lib.hid (W0.out.keep b1)
  clear b1 B0 W0 HF
  obtain ⟨k0, k1, k2, k3, k4, k5, k6⟩ := W1.out
  go_wp2_with fail
  refine (HVl.out A2 n2 c2 P2 w1 B1.out (H2.out.keep B1.out)).mono ?_
  rintro e w2 ⟨A2', m2, c2', rfl, hN, b2⟩
  have N2 := Lib.hid hN
  have B2 := bh B1 b2
  have W2 := Lib.hid (W1.out.keep b2)
  clear k0 k1 k2 k3 k4 k5 k6 hN b2
  clear B1 W1 N2
  obtain ⟨k0, k1, k2, k3, k4, k5, k6⟩ := W2.out
  go_wp2_with fail
  refine (HVl.out A3 n3 c3 P3 w2 B2.out (H3.out.keep B2.out)).mono ?_
  rintro e w3 ⟨A3', m3, c3', rfl, hN, b3⟩
  have N3 := Lib.hid hN
  have B3 := bh B2 b3
  have W3 := Lib.hid (W2.out.keep b3)
  clear k0 k1 k2 k3 k4 k5 k6 hN b3
  clear B2 W2 N3
  by_cases z : valE (valueX ⟨E, q.who, q.act, q.what, q.P⟩ P2) = 0
  case neg =>
    rw [errV_ne z]
    clear z
    go_wp2_with fail
    go_ret
    exact ⟨rfl, B3.out⟩
  by_cases y : valE (valueX ⟨E, q.who, q.act, q.what, q.P⟩ P3) = 0
  case neg =>
    rw [z, errV_zero, errV_ne y]
    clear z y
    go_wp2_with fail
    go_ret
    exact ⟨rfl, B3.out⟩
  rw [z, y, errV_zero]
  have a2 := (valE_zero z).1
  have a3 := (valE_zero y).1
  have L2 := (valueX_ok a2).2.2.1
  have L3 := (valueX_ok a3).2.2.1
  rw [← HL2.out] at L2
  rw [← HL3.out] at L3
  by_cases hl : 2 * (n2 + n3) + 1 ≤ 200
  case neg =>
    have f1 : (200 : Int) < 2 * ((n2 : Int) + (n3 : Int)) + 1 := by omega
    clear a2 a3 z y
    go_wp2_with fail
    go_ret
    exact ⟨rfl, B3.out⟩
  have f1 : ¬ (200 : Int) < 2 * ((n2 : Int) + (n3 : Int)) + 1 := by omega
  have p2 : 0 < P2.length := by obtain ⟨-, -, -, -, x, -, rfl, -⟩ := valueX_ok a2; exact flatX_pos x
  have p3 : 0 < P3.length := by obtain ⟨-, -, -, -, x, -, rfl, -⟩ := valueX_ok a3; exact flatX_pos x
  have l23 : 2 * (P2.length + P3.length) + 1 ≤ 200 := by rw [HL2.out, HL3.out] at hl; exact hl
  have M := Lib.hid (sets_value a2 a3 l23)
  have O2 : NdsOk (⟨5, 2, emp, emp⟩ :: (P2 ++ P3)) := set_ok 2 (by decide) (by decide) (nds_app H2.out.ok H3.out.ok)
  have O3 : NdsOk (⟨5, 3, emp, emp⟩ :: (P3 ++ (P2 ++ P3))) := set_ok 3 (by decide) (by decide) (nds_app H3.out.ok (nds_app H2.out.ok H3.out.ok))
  have HO2 := Lib.hid O2
  have HO3 := Lib.hid O3
  have la1 : ([⟨5, 2, emp, emp⟩] : List Nd).length + P2.length ≤ 1000 := by simp only [List.length_cons, List.length_nil]; omega
  have la2 : (([⟨5, 2, emp, emp⟩] : List Nd) ++ P2).length + P3.length ≤ 1000 := by simp only [List.length_append, List.length_cons, List.length_nil]; omega
  have lb1 : ([⟨5, 3, emp, emp⟩] : List Nd).length + P3.length ≤ 1000 := by simp only [List.length_cons, List.length_nil]; omega
  have lb2 : (([⟨5, 3, emp, emp⟩] : List Nd) ++ P3).length + P2.length ≤ 1000 := by simp only [List.length_append, List.length_cons, List.length_nil]; omega
  have lb3 : (([⟨5, 3, emp, emp⟩] : List Nd) ++ P3 ++ P2).length + P3.length ≤ 1000 := by simp only [List.length_append, List.length_cons, List.length_nil]; omega
  have lo2 : (⟨5, 2, emp, emp⟩ :: (P2 ++ P3) : List Nd).length + P2.length ≤ 1000 := by simp only [List.length_append, List.length_cons]; omega
  have lo3 : (⟨5, 3, emp, emp⟩ :: (P3 ++ (P2 ++ P3)) : List Nd).length ≤ 1000 := by simp only [List.length_append, List.length_cons]; omega
  have R0 := Lib.hid (NRow.one w3 ⟨5, 2, emp, emp⟩)
  have bx := below_box w3 (.cells #[.int .i64 5, .int .i64 2, .string ⟨#[]⟩, .string ⟨#[]⟩] 42)
  have Q4 := Lib.hid bx
  have N2 := Lib.hid (H2.out.keep (bh B3 bx).out)
  have hz4 := bx.size
  clear a2 a3 z y bx O2 O3
  go_wp2_with (at_builtin; refine wpList_append_sl rfl _ _ rfl w3.heap.size _ [⟨5, 2, emp, emp⟩] rfl R0.out A2 n2 c2 P2 rfl N2.out p2 la1 hz4 ?_)
  intro v5 w5 r5 b5
  have R5 := Lib.hid r5
  have Q5 := Lib.hid (Q4.out.trans b5)
  have N3 := Lib.hid (H3.out.keep (bh B3 Q5.out).out)
  have hz5 := Q5.out.size
  clear r5 b5 R0 N2 Q4 hz4
  go_wp2_with (at_builtin; refine wpList_append_sl rfl _ _ rfl w3.heap.size v5 (⟨5, 2, emp, emp⟩ :: P2) rfl R5.out A3 n3 c3 P3 rfl N3.out p3 la2 hz5 ?_)
  intro v6 w6 r6 b6
  have Q6 := Q5.out.trans b6
  have B6 := bh B3 Q6
  have W6 := Lib.hid (W3.out.keep Q6)
  replace r6 : NRow w6 w3.heap.size v6 (⟨5, 2, emp, emp⟩ :: (P2 ++ P3)) := r6
  obtain ⟨A6, m6, c6, rfl, hN⟩ := r6.ns (Nat.le_trans (Nat.le_add_right _ _) lo2) HO2.out
  have N6 := Lib.hid hN
  have R0 := Lib.hid (NRow.one w6 ⟨5, 3, emp, emp⟩)
  have bx := below_box w6 (.cells #[.int .i64 5, .int .i64 3, .string ⟨#[]⟩, .string ⟨#[]⟩] 42)
  have Q7 := Lib.hid bx
  have N3 := Lib.hid (H3.out.keep (bh B6 bx).out)
  have hz7 := bx.size
  clear r6 hN b6 R5 Q5 Q6 hz5 bx B3 W3
  go_wp2_with (at_builtin; refine wpList_append_sl rfl _ _ rfl w6.heap.size _ [⟨5, 3, emp, emp⟩] rfl R0.out A3 n3 c3 P3 rfl N3.out p3 lb1 hz7 ?_)
  intro v8 w8 r8 b8
  have R8 := Lib.hid r8
  have Q8 := Lib.hid (Q7.out.trans b8)
  have N2 := Lib.hid (H2.out.keep (bh B6 Q8.out).out)
  have hz8 := Q8.out.size
  clear r8 b8 R0 N3 Q7 hz7
  go_wp2_with (at_builtin; refine wpList_append_sl rfl _ _ rfl w6.heap.size v8 (⟨5, 3, emp, emp⟩ :: P3) rfl R8.out A2 n2 c2 P2 rfl N2.out p2 lb2 hz8 ?_)
  intro v9 w9 r9 b9
  have R9 := Lib.hid r9
  have Q9 := Lib.hid (Q8.out.trans b9)
  have N3 := Lib.hid (H3.out.keep (bh B6 Q9.out).out)
  have hz9 := Q9.out.size
  clear r9 b9 R8 N2 Q8 hz8
  go_wp2_with (at_builtin; refine wpList_append_sl rfl _ _ rfl w6.heap.size v9 (⟨5, 3, emp, emp⟩ :: (P3 ++ P2)) rfl R9.out A3 n3 c3 P3 rfl N3.out p3 lb3 hz9 ?_)
  intro v10 w10 r10 b10
  have Q10 := Q9.out.trans b10
  have B10 := bh B6 Q10
  have W10 := Lib.hid (W6.out.keep Q10)
  replace N6 := Lib.hid (N6.out.keep Q10)
  replace r10 : NRow w10 w6.heap.size v10 (⟨5, 3, emp, emp⟩ :: (P3 ++ (P2 ++ P3))) := by simpa only [List.cons_append, List.append_assoc] using r10
  obtain ⟨A10, m10, c10, rfl, hN⟩ := r10.ns lo3 HO3.out
  have N10 := Lib.hid hN
  clear r10 hN b10 R9 N3 Q9 Q10 hz9 B6 W6
  obtain ⟨k0, k1, k2, k3, k4, k5, k6⟩ := W10.out
  go_wp2_with fail
  refine (HVl.out A6 m6 c6 (⟨5, 2, emp, emp⟩ :: (P2 ++ P3)) w10 B10.out N6.out).mono ?_
  rintro e w11 ⟨A11, m11, c11, rfl, hN, b11⟩
  have N11 := Lib.hid hN
  have B11 := bh B10 b11
  have W11 := Lib.hid (W10.out.keep b11)
  replace N6 := Lib.hid (N6.out.keep b11)
  replace N10 := Lib.hid (N10.out.keep b11)
  clear k0 k1 k2 k3 k4 k5 k6 hN b11
  clear B10 W10
  obtain ⟨k0, k1, k2, k3, k4, k5, k6⟩ := W11.out
  go_wp2_with fail
  refine (HVl.out A10 m10 c10 (⟨5, 3, emp, emp⟩ :: (P3 ++ (P2 ++ P3))) w11 B11.out N10.out).mono ?_
  rintro e w12 ⟨A12, m12, c12, rfl, hN, b12⟩
  have N12 := Lib.hid hN
  have B12 := bh B11 b12
  have W12 := Lib.hid (W11.out.keep b12)
  replace N6 := Lib.hid (N6.out.keep b12)
  replace N11 := Lib.hid (N11.out.keep b12)
  clear k0 k1 k2 k3 k4 k5 k6 hN b12
  clear B11 W11 N10
  go_wp2_with fail
  refine (law_alike A11 A12 m11 m12 c11 c12 _ _ w12 M.out.1 N11.out N12.out (HG.out.keep B12.out)).mono ?_
  rintro e w13 ⟨rfl, b13⟩
  have B13 := bh B12 b13
  have W13 := Lib.hid (W12.out.keep b13)
  replace N6 := Lib.hid (N6.out.keep b13)
  clear b13 B12 W12 N11 N12
  by_cases z : valE (valueX ⟨E, q.who, q.act, q.what, q.P⟩ (⟨5, 2, emp, emp⟩ :: (P2 ++ P3))) = 0
  case neg =>
    rw [errV_ne z]
    clear z
    go_wp2_with fail
    go_ret
    exact ⟨rfl, B13.out⟩
  have M2 : Hid (valueX ⟨E, q.who, q.act, q.what, q.P⟩ (opN 25 :: ⟨5, 2, emp, emp⟩ :: (P2 ++ (P3 ++ P2))) = .ok (truthN true)) := Lib.hid (by have := M.out.2 z; simpa only [List.cons_append, List.append_assoc] using this)
  rw [z, errV_zero]
  clear z M
  have pl : 0 < (⟨5, 2, emp, emp⟩ :: (P2 ++ P3) : List Nd).length := Nat.succ_pos _
  go_wp2_with fail
  have N_N6 := Lib.hid (N6.out.keep (Below.refl _ w13))
  have N_H2 := Lib.hid (H2.out.keep B13.out)
  have Q13 := Lib.hid (Below.refl w13.heap.size w13)
  have V13 := Lib.hid (W13.out.keep (below_drew w13))
  have bx : RowKit.Below w13.heap.size w13 (w13.alloc (.cells #[.slice A6 m6 c6, .slice A2 n2 c2] 25)).drew := (below_box w13 _).trans ((below_drew _).mono (below_box w13 _).size)
  have VX := Lib.hid (W13.out.keep bx)
  have BX := bh B13 bx
  have QX := bh Q13 bx
  have SX : SlsAt (w13.alloc (.cells #[.slice A6 m6 c6, .slice A2 n2 c2] 25)).drew (some ⟨w13.heap.size, 0, none⟩) [⟨A6, m6, c6, ⟨5, 2, emp, emp⟩ :: (P2 ++ P3)⟩, ⟨A2, n2, c2, P2⟩] := (sls_two w13 ⟨A6, m6, c6, ⟨5, 2, emp, emp⟩ :: (P2 ++ P3)⟩ ⟨A2, n2, c2, P2⟩ N_N6.out N_H2.out _).keep (below_drew _)
  have K0 := Lib.hid (op_sl2 25 ⟨A6, m6, c6, ⟨5, 2, emp, emp⟩ :: (P2 ++ P3)⟩ ⟨A2, n2, c2, P2⟩ _ _ SX pl p2 lo2)
  clear bx SX
  simp only [List.cons_append, List.append_assoc] at K0
  go_region_held3 (fun w' : World => w'.cell? ⟨w.heap.size, 0, none⟩ = some (.string q.who.1) ∧ w'.cell? ⟨w.heap.size, 1, none⟩ = some (.string q.who.2) ∧ w'.cell? ⟨w.heap.size, 2, none⟩ = some (.string q.act.1) ∧ w'.cell? ⟨w.heap.size, 3, none⟩ = some (.string q.act.2) ∧ w'.cell? ⟨w.heap.size, 4, none⟩ = some (.string q.what.1) ∧ w'.cell? ⟨w.heap.size, 5, none⟩ = some (.string q.what.2) ∧ w'.cell? ⟨w.heap.size, 6, none⟩ = some (.slice q.NA q.nn q.nc)) (first | (with_reducible exact vq_and V15.out) | (with_reducible exact vq_and V14.out) | (with_reducible exact vq_and VX.out) | (with_reducible exact vq_and V13.out)) (first
      | (go_at_call 12; refine (HVl.out A14 m14 c14 (opN 25 :: ⟨5, 2, emp, emp⟩ :: (P2 ++ (P3 ++ P2))) w14 B14.out N14.out).mono ?_; rintro e w15 ⟨A15, m15, c15, rfl, hN, b15⟩; have N15 := Lib.hid hN; have B15 := bh B14 b15; have Q15 := bh Q14 b15; have V15 := Lib.hid (V14.out.keep b15))
      | (go_at_call 20; (with_reducible refine K0.out.mono ?_); rintro e w14 ⟨A14, m14, c14, rfl, hN, b14⟩; have N14 := Lib.hid hN; have B14 := bh BX b14; have Q14 := bh QX b14; have V14 := Lib.hid (VX.out.keep b14)))
  have W15 := V15
  clear N_N6 N_H2 V13 VX V14 BX QX K0 N14
  rw [M2.out]
  rw [show errV (valE (.ok (truthN true))) = .nilIface from errV_zero]
  rw [M2.out] at N15
  have N16 : Hid (Ns w15 A15 m15 c15 (truthN true)) := N15
  clear N15 M2
  go_wp2_with fail
  refine (ref_Truth true w15).mono ?_
  rintro e w16 ⟨A16, m16, c16, rfl, hN, b16⟩
  have B16 := bh B15 b16
  have K := Lib.hid ((N16.out.keep b16).same hN)
  rw [decide_eq_true (show cmpNds (truthN true) (truthN true) = 0 from cmpNds_cmp.self _)] at K
  clear b16 hN N16 B15
  go_wp2_with fail
  refine K.out.mono ?_
  rintro e w17 ⟨rfl, b17⟩
  have B17 := bh B16 b17
  clear b17 K
  go_wp2_with fail
  go_ret
  exact ⟨rfl, B17.out⟩
end Go.Proofs.YtcdpoamiejompaaGreatDoor
namespace Go.Proofs.YtcdpoamiejompaaGreatDoor
open Go Go.ChangeShapes Go.WideShapes
theorem EvalSets_named : Tryz.prog.funcNamed Rows.evalSetsRow.func = some 9 := by kernel_rfl
theorem EvalSets_wf : Rows.evalSetsRow.wfByText (OpenSpec.ofChange Rows.evalSetsSpec) = true := by kernel_rfl
theorem EvalSets_main : Tryz.prog.mainIs = some (Rows.evalSetsCard.stood.harness.1, Rows.evalSetsCard.stood.harness.2.toList) := by kernel_rfl
theorem EvalSets_looks : true = Tryz.prog.looks [] := by kernel_rfl
theorem EvalSets_goes : false = Rows.evalSetsRow.goesBy Tryz.prog := by kernel_rfl
theorem EvalSets_inst : Tryz.f9.isInstance Tryz.prog Rows.evalSetsRow.origin Rows.evalSetsRow.targs := of_decide_eq_true (by kernel_rfl)
theorem EvalSets_wrap : Tryz.f9.isWrapper Tryz.prog Rows.evalSetsRow.wrapper Rows.evalSetsRow.mainSum := by unfold Func.isWrapper; rw [if_neg (by decide +kernel)]; exact ⟨rfl, rfl⟩
theorem EvalSets_j1 : (Rows.evalSetsRow.wf (OpenSpec.ofChange Rows.evalSetsSpec)) = true := by kernel_rfl
theorem EvalSets_j2 : (laidOutB Tryz.prog) = true := by kernel_rfl
theorem EvalSets_j3 : (mapsRowed Tryz.prog) = true := by kernel_rfl
theorem EvalSets_j4 : (Tryz.f9.params.all (Tryz.prog.readableRec ·)) = true := by kernel_rfl
theorem EvalSets_j5 : (namedTie Tryz.prog Rows.evalSetsRow.named Rows.evalSetsSpec.vars) = true := by kernel_rfl
theorem EvalSets_j6 : ((Rows.evalSetsRow.stops == [])) = true := by kernel_rfl
theorem EvalSets_j7 : ((Tryz.prog.stops == [])) = true := by kernel_rfl
theorem EvalSets_j8 : ((Rows.evalSetsRow.knobs == [])) = true := by kernel_rfl
theorem EvalSets_j9 : ((Tryz.prog.stopKnobs == [])) = true := by kernel_rfl
theorem EvalSets_j10 : ((Rows.evalSetsRow.inPlace == Tryz.prog.inPlace 9)) = true := by kernel_rfl
theorem EvalSets_j11 : ((Rows.evalSetsRow.unfollowed == Tryz.prog.unfollowed 9)) = true := by kernel_rfl
theorem EvalSets_j12 : ((Rows.evalSetsRow.recurses == Tryz.prog.recurses 9)) = true := by kernel_rfl
theorem EvalSets_j13 : ((Rows.evalSetsRow.named == Tryz.prog.varsNamed 9)) = true := by kernel_rfl
theorem EvalSets_j14 : ((Rows.evalSetsRow.maps == (Tryz.f9.params.toList ++ Rows.evalSetsSpec.plain.varTypes Tryz.prog).any (Tryz.prog.mapsRec ·))) = true := by kernel_rfl
theorem EvalSets_j15 : ((Rows.evalSetsRow.ifaces == (Tryz.f9.params.toList ++ Rows.evalSetsSpec.plain.varTypes Tryz.prog).any (Tryz.prog.ifacesRec ·))) = true := by kernel_rfl
theorem EvalSets_j16 : ((Rows.evalSetsRow.mapsOut == Tryz.prog.mapsAmong Tryz.f9.resultTypes.toList)) = true := by kernel_rfl
theorem EvalSets_j17 : ((Rows.evalSetsRow.loops == (Tryz.f9.params.toList ++ Rows.evalSetsSpec.plain.varTypes Tryz.prog).any (Tryz.prog.loopsFrom ·))) = true := by kernel_rfl
theorem EvalSets_j18 : ((Rows.evalSetsRow.wideKeys == (Tryz.f9.params.toList ++ Rows.evalSetsSpec.plain.varTypes Tryz.prog ++ Tryz.f9.resultTypes.toList).any (Tryz.prog.wideKeysFrom ·))) = true := by kernel_rfl
theorem EvalSets_j19 : (Rows.evalSetsSpec.vars.all (Tryz.prog.varReadable ·)) = true := by kernel_rfl
theorem EvalSets_j20 : (Tryz.f9.resultTypes.all (fun t => Tryz.prog.readableRec t && decide (t < Tryz.prog.types.size))) = true := by kernel_rfl
theorem EvalSets_j21 : ((Rows.evalSetsRow.ifacesOut == Tryz.f9.resultTypes.toList.any (Tryz.prog.ifacesRec ·))) = true := by kernel_rfl
theorem EvalSets_j22 : ((Rows.evalSetsRow.loopsOut == Tryz.f9.resultTypes.toList.any (Tryz.prog.loopsFrom ·))) = true := by kernel_rfl
theorem EvalSets_j23 : ((Rows.evalSetsRow.plainKeys == Tryz.prog.plainKeys)) = true := by kernel_rfl
theorem EvalSets_j24 : (Rows.evalSetsRow.shortTexts.isNone) = true := by kernel_rfl
theorem EvalSets_j25 : (Tryz.prog.stopsHeard) = true := by kernel_rfl
theorem EvalSets_j26 : (Tryz.prog.mayEnter) = true := by kernel_rfl
theorem EvalSets_j27 : ((Rows.evalSetsRow.lifted == Tryz.prog.liftsFinal)) = true := by kernel_rfl
theorem EvalSets_j28 : ((Tryz.prog.make == some Rows.evalSetsRow.make)) = true := by kernel_rfl
theorem EvalSets_j29 : ((Rows.evalSetsRow.kinds == (if Rows.evalSetsRow.domain.isEmpty then [] else Tryz.f9.params.toList.map fun t => match Tryz.prog.underlying t with | some (.int k) => some k | _ => none))) = true := by kernel_rfl
theorem EvalSets_j30 : ((Rows.evalSetsRow.pinned == Rows.evalSetsRow.pinnedBy)) = true := by kernel_rfl
theorem EvalSets_j31 : ((Rows.evalSetsRow.veiled == (Tryz.f9.params.toList ++ Rows.evalSetsSpec.plain.varTypes Tryz.prog ++ Tryz.f9.resultTypes.toList).any (Tryz.prog.veiledRec ·))) = true := by kernel_rfl
theorem EvalSets_j32 : (Rows.evalSetsRow.veiledFits Tryz.prog Tryz.f9.params.toList (Tryz.f9.params.toList ++ Rows.evalSetsSpec.plain.varTypes Tryz.prog ++ Tryz.f9.resultTypes.toList)) = true := by kernel_rfl
theorem and_two {a b : Bool} (h : a = true) (k : b = true) : (a && b) = true := by rw [h, k]; rfl
set_option maxRecDepth 100000 in
theorem EvalSets_joined : joinedFacts Tryz.prog 9 Tryz.f9 Rows.evalSetsSpec Rows.evalSetsRow = true := by
  unfold joinedFacts
  exact (and_two (and_two (and_two (and_two (and_two (and_two (and_two (and_two (and_two (and_two (and_two (and_two (and_two (and_two (and_two (and_two (and_two (and_two (and_two (and_two (and_two (and_two (and_two (and_two (and_two (and_two (and_two (and_two (and_two (and_two (and_two EvalSets_j1 EvalSets_j2) EvalSets_j3) EvalSets_j4) EvalSets_j5) EvalSets_j6) EvalSets_j7) EvalSets_j8) EvalSets_j9) EvalSets_j10) EvalSets_j11) EvalSets_j12) EvalSets_j13) EvalSets_j14) EvalSets_j15) EvalSets_j16) EvalSets_j17) EvalSets_j18) EvalSets_j19) EvalSets_j20) EvalSets_j21) EvalSets_j22) EvalSets_j23) EvalSets_j24) EvalSets_j25) EvalSets_j26) EvalSets_j27) EvalSets_j28) EvalSets_j29) EvalSets_j30) EvalSets_j31) EvalSets_j32)
end Go.Proofs.YtcdpoamiejompaaGreatDoor
namespace Go.Proofs.YtcdpoamiejompaaGreatDoor
open Go Go.ChangeShapes Go.WideShapes Go.ChangeAt Go.RowKit Go.Wk
open Go.ChangeMaps (open_string)

set_option maxRecDepth 100000 in
theorem EvalSets_lifted (os : Os) (started : os.Started) (H : Type) (enc : TypeId × Value → H) :
    ReturnsInHanded {} Tryz.checked os 9 .any (fun w args => (Rows.evalSetsSpec.pre enc Tryz.prog Tryz.f9 [] false w args ∧ laidMetH Tryz.prog laidList w) ∧ sizedMet enc Tryz.prog Tryz.f9 (OpenSpec.ofChange Rows.evalSetsSpec) false w args) (Rows.evalSetsSpec.post enc Tryz.prog Tryz.f9 false true false false) := by
  refine returnsInHanded_of_change_and (C := Tryz.checked) (X := fun w _ => laidMetH Tryz.prog laidList w) (fun _ _ _ hh h => h.of_heap hh) own started (by kernel_rfl) Tryz.func9
    (ChangeSpec.witness_at (enc := enc) (C := Tryz.checked) (os := os) (X := fun w _ => laidMetH Tryz.prog laidList w) false (laidWorld os) #[.slice none 0 0, .agg #[.string ⟨#[]⟩, .string ⟨#[]⟩, .string ⟨#[]⟩, .string ⟨#[]⟩, .string ⟨#[]⟩, .string ⟨#[]⟩, .slice none 0 0], .slice none 0 0, .slice none 0 0] 8 rfl (by kernel_rfl) (by kernel_rfl) (by kernel_rfl) (by kernel_rfl) (by kernel_rfl) (laidWorld_met os _)) ?_
  intro W base args ds gs before hval0 hW _ _ hL _
  have hg := handle_of_laid hL
  have hval : ∀ (j : Nat) t v, Tryz.f9.params[j]? = some t → args[j]? = some v → Value.okWide Tryz.prog W .any base t v := hval0
  have hW0 := hW
  obtain ⟨p, q, hA0, _, _, _, _⟩ := hW
  have hA : DataW.TrodAll enc Tryz.prog W 0 (fun _ => true) true Tryz.f9.params.toList args.toList ds p := hA0
  rw [Tryz.params9] at hA hval
  clear hA0 hval0
  obtain ⟨v0, vs0, d0, ds0, p0, q0, hargs, rfl, rfl, h0, r0⟩ := trodAll_cons hA
  obtain ⟨v1, vs1, d1, ds1, p1, q1, rfl, rfl, rfl, h1, r1⟩ := trodAll_cons r0
  obtain ⟨v2, vs2, d2, ds2, p2, q2, rfl, rfl, rfl, h2, r2⟩ := trodAll_cons r1
  obtain ⟨v3, vs3, d3, ds3, p3, q3, rfl, rfl, rfl, h3, r3⟩ := trodAll_cons r2
  obtain ⟨rfl, rfl, rfl⟩ := trodAll_nil r3
  obtain ⟨args⟩ := args
  simp only at hargs
  subst hargs
  obtain ⟨A0, n0, c0, E0, rfl, sx0⟩ := open_ents (hval 0 22 v0 rfl rfl) h0
  obtain ⟨x1, rfl, sx1⟩ := open_request (hval 1 27 v1 rfl rfl) h1
  obtain ⟨A2, n2, c2, P2, rfl, sx2⟩ := open_nodes (hval 2 25 v2 rfl rfl) h2
  obtain ⟨A3, n3, c3, P3, rfl, sx3⟩ := open_nodes (hval 3 25 v3 rfl rfl) h3
  refine (EvalSets_walk A0 n0 c0 E0 x1 A2 n2 c2 P2 A3 n3 c3 P3 W sx0 sx1 sx2 sx3 hg).mono fun e W' ⟨he, hb'⟩ => ?_
  subst he
  refine ⟨_, rfl, law_post laidOut (by kernel_rfl) (by rfl) Tryz.underlying4 rfl ?_ hW0 hb'⟩
  intro ds hlen
  rw [Tryz.params9] at hlen
  match ds, hlen with
  | [e0, e1, e2, e3], _ => rfl

theorem EvalSets_over : Rows.evalSetsRow.holds Tryz.pinned (OpenSpec.ofChange Rows.evalSetsSpec) :=
  OpenClaim.holds_of_wide 9 Tryz.f9 rfl rfl rfl rfl rfl rfl rfl ⟨rfl, rfl, rfl, rfl, rfl⟩ rfl rfl rfl rfl rfl EvalSets_named Tryz.func9 EvalSets_joined
    EvalSets_inst EvalSets_wrap
    (fun os started H enc _ => EvalSets_lifted os started H enc)

theorem EvalSets_holds : Rows.EvalSetsCardSaid :=
  Claim7.holds_tied_plain_at .later [] [.handle] true Rows.evalSetsCard.stood.harness true
    EvalSets_over (fun _ h => by cases h) EvalSets_wf (fun _ h => by cases h) evalSets_row_tie rfl ⟨rfl, rfl⟩ EvalSets_main rfl
    (fun f fn hf hfn => by
      obtain rfl : f = 9 := Option.some.inj (EvalSets_named.symm.trans hf) |>.symm
      obtain rfl : fn = Tryz.f9 := (Option.some.inj (Tryz.func9.symm.trans hfn)).symm
      exact ⟨EvalSets_looks, fun j t ht => by
        rw [Tryz.params9] at ht
        have hm := Array.mem_of_getElem? ht
        simp only [List.mem_toArray, List.mem_cons, List.not_mem_nil, or_false] at hm
        rcases hm with rfl | rfl | rfl | rfl
        all_goals exact (show Tryz.prog.wantsStandIn _ = false by kernel_rfl)⟩)
    EvalSets_goes
#print axioms EvalSets_holds
end Go.Proofs.YtcdpoamiejompaaGreatDoor
