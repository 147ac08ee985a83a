/-
  The laws' op, at one, two, three parts.
  A row of nodes of the call's own: nodes behind it; the document's Truth, EntOf.
  EvalBelow: the walk of the law. (gen_evbelow.py)
  EvalBelow: the closed facts of the frame, one by one.
  EvalBelow: the frame round the walk: for every input the law returns true, and each argument reads behind the call as it read before. No condition.
-/
import Derived.Deep.RegionHeld3
import Derived.SevenTiedAt
import Derived.Test.YtcdpoamiejompaaGreatDoorRows
import Derived.Test.YtcdpoamiejompaaGreatDoorCards
import Derived.Test.YtcdpoamiejompaaGreatDoorTie
import Derived.Test.YtcdpoamiejompaaGreatDoorQe32
namespace Go.Proofs.YtcdpoamiejompaaGreatDoor
open Go.RowKit Go.Wk Go.Sort
set_option maxRecDepth 100000

/-- What op tells: nodes in new blocks; their number has a name of its own. -/
def OpNs (w : World) (L : List Nd) (e : Ending) (w' : World) : Prop := ∃ A m c, e = .returned (.slice A m c) ∧ Ns w' A m c L ∧ Below w.heap.size w w'
theorem op_one (o : Int) (r : Sl) (w : World) (h : Ns w r.A r.n r.c r.P) (h0 : 0 < r.P.length) (hl : r.P.length ≤ 1000) :
    Calls Tryz.prog 20 #[.int .i64 o, .slice (some ⟨w.heap.size, 0, none⟩) 1 1] (w.alloc (.cells #[.slice r.A r.n r.c] 25)) (OpNs w (opN o :: r.P)) := by
  refine (law_op o (some ⟨w.heap.size, 0, none⟩) 1 1 [r] _ rfl (by omega) (sls_one w r h _) (by intro x hx; simp only [List.mem_cons, List.not_mem_nil, or_false] at hx; subst hx; exact h0) (by simpa using hl)).mono ?_
  rintro e w' ⟨A, c, rfl, hN, -, hb⟩
  rw [show ([r].map Sl.P).flatten = r.P by simp] at hN
  rw [show ([r].map Sl.P).flatten = r.P by simp]
  exact ⟨A, _, c, rfl, hN, (below_box w _).trans (hb.mono (by simp))⟩
theorem op_two (o : Int) (r s : Sl) (w : World) (h : Ns w r.A r.n r.c r.P) (k : Ns w s.A s.n s.c s.P) (h0 : 0 < r.P.length) (k0 : 0 < s.P.length) (hl : r.P.length + s.P.length ≤ 1000) :
    Calls Tryz.prog 20 #[.int .i64 o, .slice (some ⟨w.heap.size, 0, none⟩) 2 2] (w.alloc (.cells #[.slice r.A r.n r.c, .slice s.A s.n s.c] 25)) (OpNs w (opN o :: (r.P ++ s.P))) := by
  refine (law_op o (some ⟨w.heap.size, 0, none⟩) 2 2 [r, s] _ rfl (by omega) (sls_two w r s h k _) (by intro x hx; simp only [List.mem_cons, List.not_mem_nil, or_false] at hx; rcases hx with rfl | rfl <;> assumption) (by simpa using hl)).mono ?_
  rintro e w' ⟨A, c, rfl, hN, -, hb⟩
  rw [show ([r, s].map Sl.P).flatten = r.P ++ s.P by simp] at hN
  rw [show ([r, s].map Sl.P).flatten = r.P ++ s.P by simp]
  exact ⟨A, _, c, rfl, hN, (below_box w _).trans (hb.mono (by simp))⟩
theorem op_three (o : Int) (r s u : Sl) (w : World) (h : Ns w r.A r.n r.c r.P) (k : Ns w s.A s.n s.c s.P) (j : Ns w u.A u.n u.c u.P) (h0 : 0 < r.P.length) (k0 : 0 < s.P.length) (j0 : 0 < u.P.length) (hl : r.P.length + s.P.length + u.P.length ≤ 1000) :
    Calls Tryz.prog 20 #[.int .i64 o, .slice (some ⟨w.heap.size, 0, none⟩) 3 3] (w.alloc (.cells #[.slice r.A r.n r.c, .slice s.A s.n s.c, .slice u.A u.n u.c] 25)) (OpNs w (opN o :: (r.P ++ (s.P ++ u.P)))) := by
  refine (law_op o (some ⟨w.heap.size, 0, none⟩) 3 3 [r, s, u] _ rfl (by omega) (sls_three w r s u h k j _) (by intro x hx; simp only [List.mem_cons, List.not_mem_nil, or_false] at hx; rcases hx with rfl | rfl | rfl <;> assumption) (by simp; omega)).mono ?_
  rintro e w' ⟨A, c, rfl, hN, -, hb⟩
  rw [show ([r, s, u].map Sl.P).flatten = r.P ++ (s.P ++ u.P) by simp] at hN
  rw [show ([r, s, u].map Sl.P).flatten = r.P ++ (s.P ++ u.P) by simp]
  exact ⟨A, _, c, rfl, hN, (below_box w _).trans (hb.mono (by simp))⟩
/-- As op_one, op_two, where the parts lie already. -/
theorem op_sl1 (o : Int) (r : Sl) (A : Option Addr) (w : World) (h : SlsAt w A [r]) (h0 : 0 < r.P.length) (hl : r.P.length ≤ 1000) :
    Calls Tryz.prog 20 #[.int .i64 o, .slice A 1 1] w (OpNs w (opN o :: r.P)) := by
  refine (law_op o A 1 1 [r] w rfl (by omega) h (by intro x hx; simp only [List.mem_cons, List.not_mem_nil, or_false] at hx; subst hx; exact h0) (by simpa using hl)).mono ?_
  rintro e w' ⟨A, c, rfl, hN, -, hb⟩
  rw [show ([r].map Sl.P).flatten = r.P by simp] at hN
  rw [show ([r].map Sl.P).flatten = r.P by simp]
  exact ⟨A, _, c, rfl, hN, hb⟩
theorem op_sl2 (o : Int) (r s : Sl) (A : Option Addr) (w : World) (h : SlsAt w A [r, s]) (h0 : 0 < r.P.length) (k0 : 0 < s.P.length) (hl : r.P.length + s.P.length ≤ 1000) :
    Calls Tryz.prog 20 #[.int .i64 o, .slice A 2 2] w (OpNs w (opN o :: (r.P ++ s.P))) := by
  refine (law_op o A 2 2 [r, s] w rfl (by omega) h (by intro x hx; simp only [List.mem_cons, List.not_mem_nil, or_false] at hx; rcases hx with rfl | rfl <;> assumption) (by simpa using hl)).mono ?_
  rintro e w' ⟨A, c, rfl, hN, -, hb⟩
  rw [show ([r, s].map Sl.P).flatten = r.P ++ s.P by simp] at hN
  rw [show ([r, s].map Sl.P).flatten = r.P ++ s.P by simp]
  exact ⟨A, _, c, rfl, hN, hb⟩
theorem op_sl3 (o : Int) (r s u : Sl) (A : Option Addr) (w : World) (h : SlsAt w A [r, s, u]) (h0 : 0 < r.P.length) (k0 : 0 < s.P.length) (j0 : 0 < u.P.length) (hl : r.P.length + s.P.length + u.P.length ≤ 1000) :
    Calls Tryz.prog 20 #[.int .i64 o, .slice A 3 3] w (OpNs w (opN o :: (r.P ++ (s.P ++ u.P)))) := by
  refine (law_op o A 3 3 [r, s, u] w rfl (by omega) h (by intro x hx; simp only [List.mem_cons, List.not_mem_nil, or_false] at hx; rcases hx with rfl | rfl | rfl <;> assumption) (by simp; omega)).mono ?_
  rintro e w' ⟨A, c, rfl, hN, -, hb⟩
  rw [show ([r, s, u].map Sl.P).flatten = r.P ++ (s.P ++ u.P) by simp] at hN
  rw [show ([r, s, u].map Sl.P).flatten = r.P ++ (s.P ++ u.P) by simp]
  exact ⟨A, _, c, rfl, hN, hb⟩
/-- A request's cells, one by one. -/
theorem vq_and {w : World} {b : Nat} {q : Rq} (h : Vq w b q) : w.cell? ⟨b, 0, none⟩ = some (.string q.who.1) ∧ w.cell? ⟨b, 1, none⟩ = some (.string q.who.2) ∧ w.cell? ⟨b, 2, none⟩ = some (.string q.act.1) ∧ w.cell? ⟨b, 3, none⟩ = some (.string q.act.2) ∧ w.cell? ⟨b, 4, none⟩ = some (.string q.what.1) ∧ w.cell? ⟨b, 5, none⟩ = some (.string q.what.2) ∧ w.cell? ⟨b, 6, none⟩ = some (.slice q.NA q.nn q.nc) :=
  ⟨h.c0, h.c1, h.c2, h.c3, h.c4, h.c5, h.c6⟩
/-- Alike in thing and in fault. -/
theorem law_alike (A B : Option Addr) (n m c d : Nat) (r s : Res) (w : World) (e : r = s) (h : Ns w A n c (valV r)) (k : Ns w B m d (valV s)) (hg : Door w) :
    Calls Tryz.prog 26 #[.slice A n c, errV (valE r), .slice B m d, errV (valE s)] w fun r w' => r = .returned (.bool true) ∧ Below w.heap.size w w' := by
  subst e
  refine (law_same A B n m c d _ _ _ _ w h k hg).mono ?_
  rintro e w' ⟨rfl, hb⟩
  exact ⟨by rw [decide_eq_true (show cmpNds (valV r) (valV r) = 0 from cmpNds_cmp.self _)]; simp, hb⟩
theorem ex_pos {P : List Nd} (h : exFault P = 0) : 0 < P.length := by
  obtain ⟨-, x, -, rfl⟩ := ex_of h
  exact flatX_pos x
end Go.Proofs.YtcdpoamiejompaaGreatDoor
namespace Go.Proofs.YtcdpoamiejompaaGreatDoor
open Go.RowKit Go.Wk Go.Sort
set_option maxRecDepth 100000

/-- A slice of the call's own that holds the nodes P. -/
structure NRow (w : World) (base : Nat) (v : Value) (P : List Nd) : Prop where
  own : w.ownsRow base 42 4 v P.length (ndCells P)
theorem NRow.keep {w w' : World} {base : Nat} {v : Value} {P : List Nd} (h : NRow w base v P) (hb : Below w.heap.size w w') : NRow w' base v P := ⟨h.own.kept (grown_of_below hb none) (by cases hv : v.ownBlock <;> simp)⟩
theorem NRow.one (w : World) (x : Nd) : NRow (w.alloc (.cells #[.int .i64 x.op, .int .i64 x.n, .string x.s, .string x.t] 42)) w.heap.size (.slice (some ⟨w.heap.size, 0, none⟩) 1 1) [x] := ⟨row_one w x⟩
theorem NRow.ns {w : World} {base : Nat} {v : Value} {P : List Nd} (h : NRow w base v P) (hl : P.length ≤ 1000) (ho : NdsOk P) : ∃ A n c, v = .slice A n c ∧ Ns w A n c P := by
  obtain ⟨A, c, rfl, hc, hA, -⟩ := nds_of_own h.own
  exact ⟨A, _, c, rfl, rfl, hc, by unfold maxLen; omega, hA, ho⟩
/-- append of nodes to such a row. -/
theorem wpList_append_sl {ops : Array Oper} {rest : List Oper} {o : Oper} {a : Act} {w : World} {Q : Exit → Act → World → Prop} (hgd : o.guard = none) (s x : Operand)
    (ho : o.op = .call { callee := .builtin .append, args := #[s, x], argTypes := #[25, 25] })
    (base : Nat) (v : Value) (L : List Nd) (hs : a.eval s = v) (hrow : NRow w base v L) (A : Option Addr) (n c : Nat) (P : List Nd) (hx : a.eval x = .slice A n c) (hP : Ns w A n c P) (h0 : 0 < P.length)
    (hl : L.length + P.length ≤ 1000) (hbase : base ≤ w.heap.size)
    (h : ∀ v' w', NRow w' base v' (L ++ P) → Below base w w' → wpList Tryz.prog ops Q rest (a.put o.dst v') w') : wpList Tryz.prog ops Q (o :: rest) a w := by
  have hi := ndInfo
  cases hq : Tryz.prog.info? 42 with
  | none => rw [hq] at hi; cases hi
  | some i0 =>
    rw [hq] at hi
    simp only [Option.map_some, Option.some.injEq, Prod.mk.injEq] at hi
    obtain ⟨a2, rfl, -⟩ := hP.at_.nd h0
    have HC : ∀ j u, (ndCells P)[j]? = some u → w.cell? (a2.add j) = some u := hP.at_.cells
    have hn := hP.len
    refine wpList_append_own w hgd s x _ ho base _ i0 _ 4 48 Tryz.underlying25 hq hi.1 hi.2.1 hi.2.2 (by decide) (by decide) v L.length (ndCells L) hs hrow.own a2 n c (ndCells P) hx (by rw [ndCells_length, hn]) HC (ndCells_one _) (by unfold maxLen; omega) (by omega) hbase ?_
    intro v' w' h1 h2 _
    rw [hn, ← ndCells_append, ← List.length_append] at h1
    exact h v' w' ⟨h1⟩ ((Below.refl base w).grown h2 hbase (own_base hrow.own))
theorem ref_TruthF (b : Bool) (w : World) :
    Calls Tryz.prog 21 #[.bool b] w fun e w' => ∃ A n c, e = .returned (.slice A n c) ∧ (Ns w' A n c (truthN b) ∧ ∀ a, A = some a → w.heap.size ≤ a.block) ∧ Below w.heap.size w w' := by
  have N1 := Lib.hid (nd_lit w ⟨1, 1, emp, emp⟩ ⟨by decide, by decide, by decide, by decide⟩)
  have N0 := Lib.hid (nd_lit w ⟨1, 0, emp, emp⟩ ⟨by decide, by decide, by decide, by decide⟩)
  cases b
  · go_enter Tryz.func21, Tryz.ntmps21
    go_wp2_with fail
    go_ret
    exact ⟨_, 1, 1, rfl, ⟨N0.out, fun a e => by injection e with e; subst e; exact Nat.le_refl _⟩, below_box w _⟩
  · go_enter Tryz.func21, Tryz.ntmps21
    go_wp2_with fail
    go_ret
    exact ⟨_, 1, 1, rfl, ⟨N1.out, fun a e => by injection e with e; subst e; exact Nat.le_refl _⟩, below_box w _⟩
theorem ref_Truth (b : Bool) (w : World) :
    Calls Tryz.prog 21 #[.bool b] w fun e w' => ∃ A n c, e = .returned (.slice A n c) ∧ Ns w' A n c (truthN b) ∧ Below w.heap.size w w' :=
  (ref_TruthF b w).mono fun _ _ ⟨A, n, c, h1, h2, h3⟩ => ⟨A, n, c, h1, h2.1, h3⟩
theorem ref_EntOfF (u : Ud) (w : World) (hu : UOk u) :
    Calls Tryz.prog 18 #[.agg #[.string u.1, .string u.2]] w fun e w' => ∃ A n c, e = .returned (.slice A n c) ∧ (Ns w' A n c (entN u) ∧ ∀ a, A = some a → w.heap.size ≤ a.block) ∧ Below w.heap.size w w' := by
  have N1 := Lib.hid (nd_lit (w.alloc (.cells #[.string u.1, .string u.2] 24)) ⟨4, 0, u.1, u.2⟩ ⟨hu.1, hu.2, by show _ ≤ (0 : Int); decide, by show (0 : Int) ≤ _; decide⟩)
  rw [show (w.alloc (.cells #[.string u.1, .string u.2] 24)).heap.size = w.heap.size + 1 from by simp [go_sem]] at N1
  have B1 := Lib.hid ((below_box w (.cells #[.string u.1, .string u.2] 24)).trans ((below_box (w.alloc (.cells #[.string u.1, .string u.2] 24)) (.cells #[.int .i64 4, .int .i64 0, .string u.1, .string u.2] 42)).mono (below_box w _).size))
  clear hu
  go_enter Tryz.func18, Tryz.ntmps18
  go_wp2_with fail
  go_ret
  exact ⟨_, 1, 1, rfl, ⟨N1.out, fun a e => by injection e with e; subst e; exact Nat.le_succ _⟩, B1.out⟩
theorem ref_EntOf (u : Ud) (w : World) (hu : UOk u) :
    Calls Tryz.prog 18 #[.agg #[.string u.1, .string u.2]] w fun e w' => ∃ A n c, e = .returned (.slice A n c) ∧ Ns w' A n c (entN u) ∧ Below w.heap.size w w' :=
  (ref_EntOfF u w hu).mono fun _ _ ⟨A, n, c, h1, h2, h3⟩ => ⟨A, n, c, h1, h2.1, h3⟩
end Go.Proofs.YtcdpoamiejompaaGreatDoor
namespace Go.Proofs.YtcdpoamiejompaaGreatDoor
open Go.RowKit Go.Wk Go.Sort
set_option maxRecDepth 100000

theorem ref_uidU (u : Ud) (hu : UOk u) (w : World) :
    Calls Tryz.prog 17 #[.agg #[.string u.1, .string u.2]] w fun e w' => e = .returned (.int .i64 (uidFault (u.1, u.2))) ∧ Below w.heap.size w w' := ref_UidFault u.1 u.2 w hu.1 hu.2
/-- A uid in a variable. -/
structure Vu (w : World) (b : Nat) (x y : ByteArray) : Prop where
  c0 : w.cell? ⟨b, 0, none⟩ = some (.string x)
  c1 : w.cell? ⟨b, 1, none⟩ = some (.string y)
theorem Vu.keep {w w' : World} {b : Nat} {x y : ByteArray} (h : Vu w b x y) (hb : Below w.heap.size w w') : Vu w' b x y := ⟨cell_keep hb h.c0, cell_keep hb h.c1⟩
theorem vu_new (w : World) (o : Obj) (x y : ByteArray) : Vu ((w.alloc o).alloc (.cells #[.string x, .string y] 24)) (w.heap.size + 1) x y := by
  have h := two_cells (w.alloc o) (.string x) (.string y) 24
  rw [show (w.alloc o).heap.size = w.heap.size + 1 from by simp [go_sem]] at h
  exact ⟨h.1, h.2⟩
/-- The set of uids, as far as it has come. -/
def setP (n : Nat) (T : List Ud) (k : Nat) : List Nd := ⟨5, (n : Int), emp, emp⟩ :: ((T.take k).map entN).flatten
theorem setP_step {n : Nat} {T : List Ud} {k : Nat} (h : k < T.length) : setP n T (k + 1) = setP n T k ++ entN T[k] := by
  unfold setP
  rw [List.take_succ_eq_append_getElem h, List.map_append, List.flatten_append]
  simp only [List.map_cons, List.map_nil, List.flatten_cons, List.flatten_nil, List.append_nil, List.cons_append]
theorem setP_len (n : Nat) (T : List Ud) (k : Nat) : (setP n T k).length ≤ k + 1 := by
  unfold setP
  have := flatten_ones ((T.take k).map entN) (fun x hx => by obtain ⟨t, -, rfl⟩ := List.mem_map.1 hx; rfl)
  rw [List.length_cons, this, List.length_map, List.length_take]
  omega
theorem setP_ok {n : Nat} {T : List Ud} {k : Nat} (hn : n ≤ 1000) (h : ∀ t ∈ T, UOk t) : NdsOk (setP n T k) := by
  intro x hx
  rcases List.mem_cons.1 hx with rfl | hx
  · exact ⟨Nat.zero_le _, Nat.zero_le _, by show _ ≤ (n : Int); omega, by show (n : Int) ≤ _; omega⟩
  · obtain ⟨l, hl, hx⟩ := List.mem_flatten.1 hx
    obtain ⟨t, ht, rfl⟩ := List.mem_map.1 hl
    have ht := h t (List.mem_of_mem_take ht)
    simp only [entN, List.mem_cons, List.not_mem_nil, or_false] at hx
    subst hx
    exact ⟨ht.1, ht.2, by show _ ≤ (0 : Int); decide, by show (0 : Int) ≤ _; decide⟩
theorem any_more {P : List Ud} {k : Nat} (h : k < P.length) (f : Ud → Bool) : (P.take (k + 1)).any f = ((P.take k).any f || f P[k]) := by
  rw [List.take_succ_eq_append_getElem h, List.any_append]; simp
/-- A request and a uid in variables. -/
structure Vqu (w : World) (b c : Nat) (q : Rq) (x y : ByteArray) : Prop where
  q : Vq w b q
  u : Vu w c x y
theorem Vqu.keep {w w' : World} {b c : Nat} {q : Rq} {x y : ByteArray} (h : Vqu w b c q x y) (hb : Below w.heap.size w w') : Vqu w' b c q x y := ⟨h.q.keep hb, h.u.keep hb⟩
theorem vqu_and {w : World} {b c : Nat} {q : Rq} {x y : ByteArray} (h : Vqu w b c q x y) : w.cell? ⟨b, 0, none⟩ = some (.string q.who.1) ∧ w.cell? ⟨b, 1, none⟩ = some (.string q.who.2) ∧ w.cell? ⟨b, 2, none⟩ = some (.string q.act.1) ∧ w.cell? ⟨b, 3, none⟩ = some (.string q.act.2) ∧ w.cell? ⟨b, 4, none⟩ = some (.string q.what.1) ∧ w.cell? ⟨b, 5, none⟩ = some (.string q.what.2) ∧ w.cell? ⟨b, 6, none⟩ = some (.slice q.NA q.nn q.nc) ∧ w.cell? ⟨c, 0, none⟩ = some (.string x) ∧ w.cell? ⟨c, 1, none⟩ = some (.string y) :=
  ⟨h.q.c0, h.q.c1, h.q.c2, h.q.c3, h.q.c4, h.q.c5, h.q.c6, h.u.c0, h.u.c1⟩
set_option maxHeartbeats 16000000 in
theorem EvalBelow_walk (A0 : Option Addr) (n0 c0 : Nat) (E : List En) (q : Rq) (x2 y2 : ByteArray) (A3 : Option Addr) (n3 c3 : Nat) (T : List Ud) (w : World) (hE : Es w A0 n0 c0 E) (hq : RqOk w q) (hx : x2.size ≤ maxLen) (hy : y2.size ≤ maxLen) (h3 : Us w A3 n3 c3 T) (hg : Door w) :
    Calls Tryz.prog 4 #[.slice A0 n0 c0, q.v, .agg #[.string x2, .string y2], .slice A3 n3 c3] w fun e w' => e = .returned (.bool true) ∧ Below w.heap.size w w' := by
  have HF := Lib.hid (fun w' (hb : Below w.heap.size w w') => law_fact w' (hg.keep hb))
  have HVl := Lib.hid (fun (A : Option Addr) (n c : Nat) (P : List Nd) (w' : World) (hb : Below w.heap.size w w') (hP : Ns w' A n c P) => eval_Value A0 n0 c0 E q A n c P w' (hE.keep hb) (hq.keep hb) hP (hg.keep hb))
  have C1 := Lib.hid (fun w' (hb : Below w.heap.size w w') => ent_Check A0 n0 c0 E w' (hE.keep hb))
  have C2 := Lib.hid (fun w' (hb : Below w.heap.size w w') => eval_Ask q w' (hq.keep hb))
  have C3 := Lib.hid (fun w' => ref_uidU (x2, y2) ⟨hx, hy⟩ w')
  have KU := Lib.hid (fun (t : Ud) (ht : UOk t) w' => ref_uidU t ht w')
  have KE := Lib.hid (fun (t : Ud) (ht : UOk t) w' => ref_EntOf t w' ht)
  have KI := Lib.hid (fun (t : Ud) (ht : UOk t) w' (hb : Below w.heap.size w w') => ent_In A0 n0 c0 E (x2, y2) t w' (hE.keep hb) ⟨hx, hy⟩ ht)
  have HT3 := Lib.hid h3
  have W0 := Lib.hid ((vq_new w q 27).keep (below_box (w.alloc (.cells #[.string q.who.1, .string q.who.2, .string q.act.1, .string q.act.2, .string q.what.1, .string q.what.2, .slice q.NA q.nn q.nc] 27)) (.cells #[.string x2, .string y2] 24)))
  have U0 := Lib.hid (vu_new w (.cells #[.string q.who.1, .string q.who.2, .string q.act.1, .string q.act.2, .string q.what.1, .string q.what.2, .slice q.NA q.nn q.nc] 27) x2 y2)
  have B0 := Lib.hid ((below_box w (.cells #[.string q.who.1, .string q.who.2, .string q.act.1, .string q.act.2, .string q.what.1, .string q.what.2, .slice q.NA q.nn q.nc] 27)).trans ((below_box (w.alloc (.cells #[.string q.who.1, .string q.who.2, .string q.act.1, .string q.act.2, .string q.what.1, .string q.what.2, .slice q.NA q.nn q.nc] 27)) (.cells #[.string x2, .string y2] 24)).mono (below_box w _).size))
  unfold Rq.v at HVl C2 ⊢
  unfold ValPost at HVl
  unfold udV at KI
  dsimp only at KI C3
  have hl3 := h3.len
  have HL3 := Lib.hid hl3
  have hm3 := h3.max
  unfold maxLen at hm3
  have HO3 := Lib.hid h3.ok
  have HUX := Lib.hid (show UOk (x2, y2) from ⟨hx, hy⟩)
  have HBV := Lib.hid (fun (s : storeF E = 0) (a : askF q.who q.act q.what q.P = 0) => below_value (σ := ⟨E, q.who, q.act, q.what, q.P⟩) (u := (x2, y2)) (T := T) (by unfold up0; rw [s, or2_zero]; exact a))
  clear hE hq h3 hg hl3 hx hy
  generalize askF q.who q.act q.what q.P = f2 at *
  generalize storeF E = f1 at *
  go_enter Tryz.func4, Tryz.ntmps4
  go_wp2_with fail
  refine (HF.out _ B0.out).mono ?_
  rintro e w1 ⟨rfl, b1⟩
  have B1 := bh B0 b1
  have W1 := Lib.hid (W0.out.keep b1)
  replace U0 := Lib.hid (U0.out.keep b1)
  clear b1 B0 W0 HF
  by_cases hl : n3 ≤ 20
  case neg =>
    have f0 : (20 : Int) < (n3 : Int) := by omega
    go_wp2_with fail
    go_ret
    exact ⟨rfl, B1.out⟩
  have f0 : ¬ (20 : Int) < (n3 : Int) := by omega
  go_wp2_with fail
  refine (C1.out _ B1.out).mono ?_
  rintro e w2 ⟨rfl, b2⟩
  have B2 := bh B1 b2
  have W2 := Lib.hid (W1.out.keep b2)
  replace U0 := Lib.hid (U0.out.keep b2)
  clear b2 B1 W1 C1
  by_cases s : f1 = 0
  case neg =>
    rw [errV_ne s]
    clear s HBV
    go_wp2_with fail
    go_ret
    exact ⟨rfl, B2.out⟩
  rw [s, errV_zero]
  obtain ⟨k0, k1, k2, k3, k4, k5, k6⟩ := W2.out
  go_wp2_with fail
  refine (C2.out _ B2.out).mono ?_
  rintro e w3 ⟨rfl, b3⟩
  have B3 := bh B2 b3
  have W3 := Lib.hid (W2.out.keep b3)
  replace U0 := Lib.hid (U0.out.keep b3)
  clear b3 B2 W2 C2 k0 k1 k2 k3 k4 k5 k6
  by_cases a : f2 = 0
  case neg =>
    rw [errV_ne a]
    clear s a HBV
    go_wp2_with fail
    go_ret
    exact ⟨rfl, B3.out⟩
  rw [a, errV_zero]
  obtain ⟨k0, k1⟩ := U0.out
  go_wp2_with fail
  refine (C3.out _).mono ?_
  rintro e w4 ⟨rfl, b4⟩
  have B4 := bh B3 b4
  have W4 := Lib.hid (W3.out.keep b4)
  replace U0 := Lib.hid (U0.out.keep b4)
  clear b4 B3 W3 C3 k0 k1
  by_cases u : uidFault (x2, y2) = 0
  case neg =>
    have f5 : (uidFault (x2, y2) != 0) = true := by simpa using u
    clear s a HBV
    generalize uidFault (x2, y2) = uf at *
    go_wp2_with fail
    go_ret
    exact ⟨rfl, B4.out⟩
  rw [u]
  have HM := Lib.hid (HBV.out s a u)
  rw [s, errV_zero] at KI
  have R0 := Lib.hid (NRow.one w4 ⟨5, (n3 : Int), emp, emp⟩)
  have Q5 := Lib.hid (below_box w4 (.cells #[.int .i64 5, .int .i64 (n3 : Int), .string ⟨#[]⟩, .string ⟨#[]⟩] 42))
  have hz4 := B4.out.size
  clear HBV s a u
  go_wp2_with fail
  go_loopw [10, 11, 12] (fun v wt i wr => ∃ k : Nat, k ≤ n3 ∧ i = .int .i64 k ∧ wt = .bool ((T.take k).any fun t => inB E (x2, y2) t) ∧ Hid (NRow wr w4.heap.size v (setP n3 T k)) ∧ Hid (Below w4.heap.size w4 wr) ∧ Hid (∀ t ∈ T.take k, uidFault t = 0)) (fun _ _ i _ => n3 - (intOf i).toNat)
  case atStart => exact ⟨0, Nat.zero_le _, rfl, by simp, R0, Q5, Lib.hid (fun t ht => by simp at ht)⟩
  case round =>
    clear R0 Q5
    obtain ⟨k, hk, rfl, rfl, hR, hQ, hA⟩ := hrel
    obtain ⟨w5, rfl⟩ : ∃ w5 : World, w5 = wr := ⟨_, rfl⟩
    have B5 := bh B4 hQ.out
    by_cases hlt : k < n3
    · have hlt' : k < T.length := by rw [← HL3.out]; exact hlt
      have HS := Lib.hid (setP_step (n := n3) hlt')
      have HAN := Lib.hid (any_more hlt' fun t => inB E (x2, y2) t)
      have HTK := Lib.hid (show ∀ t ∈ T.take (k + 1), t ∈ T.take k ∨ t = T[k] from fun t ht => by
        rw [List.take_succ_eq_append_getElem hlt', List.mem_append] at ht
        rcases ht with ht | ht
        · exact .inl ht
        · exact .inr (by simpa using ht))
      obtain ⟨a, rfl, q0, q1⟩ := (HT3.out.keep B5.out).at_ k _ (List.getElem?_eq_getElem hlt')
      have hto : UOk T[k] := HO3.out _ (List.getElem_mem hlt')
      have HXE := Lib.hid (List.getElem?_eq_getElem hlt')
      have hsl := setP_len n3 T k
      generalize T[k] = t at *
      have K1 := Lib.hid (KU.out t hto)
      have K2 := Lib.hid (KE.out t hto)
      have K3 := Lib.hid (KI.out t hto)
      clear hto
      go_wp2_with fail
      refine (K1.out _).mono ?_
      rintro e w6 ⟨rfl, b6⟩
      have Q6 := bh hQ b6
      have B6 := bh B4 Q6.out
      have R6 := Lib.hid (hR.out.keep b6)
      clear b6 K1 hR hQ q0 q1
      by_cases hu : uidFault (t.1, t.2) = 0
      case neg =>
        have f5 : (uidFault (t.1, t.2) != 0) = true := by simpa using hu
        clear hA HM
        generalize uidFault (t.1, t.2) = uf at *
        go_wp2_with fail
        go_ret
        exact ⟨rfl, B6.out⟩
      rw [hu]
      have hA2 := Lib.hid (show ∀ s ∈ T.take (k + 1), uidFault s = 0 from fun s hs => by
        rcases HTK.out s hs with h | rfl
        · exact hA.out s h
        · exact hu)
      clear hA HTK hu
      obtain ⟨a', ea', q0, q1⟩ := (HT3.out.keep B6.out).at_ k t HXE.out
      injection ea' with ea'
      subst ea'
      go_wp2_with fail
      refine (K2.out _).mono ?_
      rintro e w7 ⟨A7, m7, c7, rfl, hN, b7⟩
      have Q7 := bh Q6 b7
      have B7 := bh B4 Q7.out
      have R7 := Lib.hid (R6.out.keep b7)
      have N7 := Lib.hid hN
      have la : (setP n3 T k).length + (entN t).length ≤ 1000 := by
        show _ + 1 ≤ 1000
        omega
      have hz7 := Q7.out.size
      clear b7 K2 R6 Q6 q0 q1 hN
      go_wp2_with (at_builtin; refine wpList_append_sl rfl _ _ rfl w4.heap.size _ (setP n3 T k) rfl R7.out A7 m7 c7 (entN t) rfl N7.out (by show 0 < 1; decide) la hz7 ?_)
      intro v8 w8 r8 b8
      rw [← HS.out] at r8
      have R8 := Lib.hid r8
      have Q8 := Lib.hid (Q7.out.trans b8)
      have B8 := bh B4 Q8.out
      clear r8 b8 R7 Q7 N7 hz7 la
      obtain ⟨a', ea', q0, q1⟩ := (HT3.out.keep B8.out).at_ k t HXE.out
      injection ea' with ea'
      subst ea'
      obtain ⟨t0, t1⟩ := U0.out.keep Q8.out
      have hq : ∀ w', Below w8.heap.size w8 w' → Below w.heap.size w w' := fun w' hb => (bh B8 hb).out
      have K := rq (w := w8) (v := .tuple #[.bool (inB E (x2, y2) t), .nilIface]) (fun w' hb => K3.out w' (hq w' hb))
      clear hq
      have k0 := cell_regrown q0
      have k1 := cell_regrown q1
      have v0 := cell_regrown t0
      have v1 := cell_regrown t1
      clear q0 q1 t0 t1
      go_wp2_with fail
      refine wp_region_quiet_below (by kernel_rfl) (by kernel_rfl) ?_
      repeat (first | go_big_quiet_step (exact K _ _) | quiet_step (exact K _ _))
      refine wpQuiet_nil ?_
      intro w9 hw'
      have b9 := Lib.hid (show Below w8.heap.size w8 w9 by obtain ⟨⟨d, os⟩, rfl⟩ := hw'; exact below_regrown _ _ _)
      clear hw'
      have R9 := Lib.hid (R8.out.keep b9.out)
      have Q9 := bh Q8 b9.out
      clear k0 k1 v0 v1 K
      rcases hin : inB E (x2, y2) t with _ | _
      · rw [hin, Bool.or_false] at HAN
        clear hin
        go_wp2_with fail
        go_roundw
        case rel => exact ⟨k + 1, by omega, by go_num, by rw [HAN.out], R9, Q9, hA2⟩
        case measure => simp [intOf]; omega
      · rw [hin, Bool.or_true] at HAN
        clear hin
        go_wp2_with fail
        go_roundw
        case rel => exact ⟨k + 1, by omega, by go_num, by rw [HAN.out], R9, Q9, hA2⟩
        case measure => simp [intOf]; omega
    · have HAL := Lib.hid (show T.take k = T by rw [List.take_of_length_le (by rw [← HL3.out]; omega)])
      rw [HAL.out]
      have hR2 := hR.out
      have hok := setP_ok (n := n3) (T := T) (k := k) (by omega) HO3.out
      have hsl := setP_len n3 T k
      unfold setP at hR2 hok hsl
      rw [HAL.out] at hR2 hok hsl
      have hA2 := hA.out
      rw [HAL.out] at hA2
      have M := Lib.hid (HM.out hA2 (by rw [← HL3.out]; exact hl))
      rw [← HL3.out] at M
      generalize hP : ((⟨5, (n3 : Int), emp, emp⟩ : Nd) :: (T.map entN).flatten) = P at hR2 hok hsl M
      have hp0 : 0 < P.length := by rw [← hP]; exact Nat.succ_pos _
      obtain ⟨A5, m5, c5, rfl, hN⟩ := hR2.ns (by omega) hok
      have N5 := Lib.hid hN
      generalize (T.any fun t => inB E (x2, y2) t) = bb at *
      have W5 := Lib.hid (W4.out.keep hQ.out)
      have U5 := Lib.hid (U0.out.keep hQ.out)
      have le : (entN (x2, y2)).length + P.length ≤ 1000 := by show 1 + _ ≤ 1000; omega
      have pe : 0 < (entN (x2, y2)).length := by show 0 < 1; decide
      have HE := Lib.hid (KE.out (x2, y2) HUX.out)
      clear hR hR2 hok hsl hA hA2 hN hP HAL HM hQ W4 U0 B4
      go_wp2_with fail
      have X5 := Lib.hid (⟨W5.out, U5.out⟩ : Vqu w5 w.heap.size (w.heap.size + 1) q x2 y2)
      have V5 := Lib.hid (X5.out.keep (below_drew w5))
      have D5 := bh B5 (below_drew w5)
      have P5 := Lib.hid (N5.out.keep (below_drew w5))
      go_region_held3 (fun w' : World => w'.cell? ⟨w.heap.size, 0, none⟩ = some (.string q.who.1) ∧ w'.cell? ⟨w.heap.size, 1, none⟩ = some (.string q.who.2) ∧ w'.cell? ⟨w.heap.size, 2, none⟩ = some (.string q.act.1) ∧ w'.cell? ⟨w.heap.size, 3, none⟩ = some (.string q.act.2) ∧ w'.cell? ⟨w.heap.size, 4, none⟩ = some (.string q.what.1) ∧ w'.cell? ⟨w.heap.size, 5, none⟩ = some (.string q.what.2) ∧ w'.cell? ⟨w.heap.size, 6, none⟩ = some (.slice q.NA q.nn q.nc) ∧ w'.cell? ⟨w.heap.size + 1, 0, none⟩ = some (.string x2) ∧ w'.cell? ⟨w.heap.size + 1, 1, none⟩ = some (.string y2)) (first | (with_reducible exact vqu_and V8.out) | (with_reducible exact vqu_and V7.out) | (with_reducible exact vqu_and Y6.out) | (with_reducible exact vqu_and V6.out) | (with_reducible exact vqu_and V5.out)) (first
        | (go_at_call 12; refine (HVl.out A7 m7 c7 (opN 20 :: (entN (x2, y2) ++ P)) w7 B7.out N7.out).mono ?_; rintro e w8 ⟨A8, m8, c8, rfl, hN, b8⟩; have N8 := Lib.hid hN; have B8 := bh B7 b8; have V8 := Lib.hid (V7.out.keep b8))
        | (go_at_call 20; refine (op_two 20 ⟨A6, m6, c6, entN (x2, y2)⟩ ⟨A5, m5, c5, P⟩ w6 N6.out P6.out pe hp0 le).mono ?_; rintro e w7 ⟨A7, m7, c7, rfl, hN, b7⟩; have N7 := Lib.hid hN; have B7 := bh B6 b7; have V7 := Lib.hid (V6.out.keep b7))
        | (go_at_call 18; (with_reducible refine (HE.out _).mono ?_); rintro e w6 ⟨A6, m6, c6, rfl, hN, b6⟩; have N6 := Lib.hid hN; have B6 := bh D5 b6; have P6 := Lib.hid (P5.out.keep b6); have V6 := Lib.hid (V5.out.keep b6); have Y6 := Lib.hid (V6.out.keep (below_box w6 (.cells #[.slice A6 m6 c6, .slice A5 m5 c5] 25)))))
      have MV : Hid (Ns w8 A8 m8 c8 (valV (valueX ⟨E, q.who, q.act, q.what, q.P⟩ (opN 20 :: (entN (x2, y2) ++ P))))) := N8
      rw [M.out] at MV
      rw [M.out]
      rw [show errV (valE (.ok (truthN bb))) = .nilIface from errV_zero]
      have N9 : Hid (Ns w8 A8 m8 c8 (truthN bb)) := MV
      clear N8 MV M V5 V6 V7 Y6 D5 P5 P6 N6 N7
      go_wp2_with fail
      refine (ref_Truth bb w8).mono ?_
      rintro e w9 ⟨A9, m9, c9, rfl, hN, b9⟩
      have B9 := bh B8 b9
      have K := Lib.hid ((N9.out.keep b9).same hN)
      rw [decide_eq_true (show cmpNds (truthN bb) (truthN bb) = 0 from cmpNds_cmp.self _)] at K
      clear b9 hN N9
      go_wp2_with fail
      refine K.out.mono ?_
      rintro e w10 ⟨rfl, b10⟩
      have B10 := bh B9 b10
      clear b10 K
      go_wp2_with fail
      go_ret
      exact ⟨rfl, B10.out⟩

end Go.Proofs.YtcdpoamiejompaaGreatDoor
namespace Go.Proofs.YtcdpoamiejompaaGreatDoor
open Go Go.ChangeShapes Go.WideShapes
theorem EvalBelow_named : Tryz.prog.funcNamed Rows.evalBelowRow.func = some 4 := by kernel_rfl
theorem EvalBelow_wf : Rows.evalBelowRow.wfByText (OpenSpec.ofChange Rows.evalBelowSpec) = true := by kernel_rfl
theorem EvalBelow_main : Tryz.prog.mainIs = some (Rows.evalBelowCard.stood.harness.1, Rows.evalBelowCard.stood.harness.2.toList) := by kernel_rfl
theorem EvalBelow_looks : true = Tryz.prog.looks [] := by kernel_rfl
theorem EvalBelow_goes : false = Rows.evalBelowRow.goesBy Tryz.prog := by kernel_rfl
theorem EvalBelow_inst : Tryz.f4.isInstance Tryz.prog Rows.evalBelowRow.origin Rows.evalBelowRow.targs := of_decide_eq_true (by kernel_rfl)
theorem EvalBelow_wrap : Tryz.f4.isWrapper Tryz.prog Rows.evalBelowRow.wrapper Rows.evalBelowRow.mainSum := by unfold Func.isWrapper; rw [if_neg (by decide +kernel)]; exact ⟨rfl, rfl⟩
theorem EvalBelow_j1 : (Rows.evalBelowRow.wf (OpenSpec.ofChange Rows.evalBelowSpec)) = true := by kernel_rfl
theorem EvalBelow_j2 : (laidOutB Tryz.prog) = true := by kernel_rfl
theorem EvalBelow_j3 : (mapsRowed Tryz.prog) = true := by kernel_rfl
theorem EvalBelow_j4 : (Tryz.f4.params.all (Tryz.prog.readableRec ·)) = true := by kernel_rfl
theorem EvalBelow_j5 : (namedTie Tryz.prog Rows.evalBelowRow.named Rows.evalBelowSpec.vars) = true := by kernel_rfl
theorem EvalBelow_j6 : ((Rows.evalBelowRow.stops == [])) = true := by kernel_rfl
theorem EvalBelow_j7 : ((Tryz.prog.stops == [])) = true := by kernel_rfl
theorem EvalBelow_j8 : ((Rows.evalBelowRow.knobs == [])) = true := by kernel_rfl
theorem EvalBelow_j9 : ((Tryz.prog.stopKnobs == [])) = true := by kernel_rfl
theorem EvalBelow_j10 : ((Rows.evalBelowRow.inPlace == Tryz.prog.inPlace 4)) = true := by kernel_rfl
theorem EvalBelow_j11 : ((Rows.evalBelowRow.unfollowed == Tryz.prog.unfollowed 4)) = true := by kernel_rfl
theorem EvalBelow_j12 : ((Rows.evalBelowRow.recurses == Tryz.prog.recurses 4)) = true := by kernel_rfl
theorem EvalBelow_j13 : ((Rows.evalBelowRow.named == Tryz.prog.varsNamed 4)) = true := by kernel_rfl
theorem EvalBelow_j14 : ((Rows.evalBelowRow.maps == (Tryz.f4.params.toList ++ Rows.evalBelowSpec.plain.varTypes Tryz.prog).any (Tryz.prog.mapsRec ·))) = true := by kernel_rfl
theorem EvalBelow_j15 : ((Rows.evalBelowRow.ifaces == (Tryz.f4.params.toList ++ Rows.evalBelowSpec.plain.varTypes Tryz.prog).any (Tryz.prog.ifacesRec ·))) = true := by kernel_rfl
theorem EvalBelow_j16 : ((Rows.evalBelowRow.mapsOut == Tryz.prog.mapsAmong Tryz.f4.resultTypes.toList)) = true := by kernel_rfl
theorem EvalBelow_j17 : ((Rows.evalBelowRow.loops == (Tryz.f4.params.toList ++ Rows.evalBelowSpec.plain.varTypes Tryz.prog).any (Tryz.prog.loopsFrom ·))) = true := by kernel_rfl
theorem EvalBelow_j18 : ((Rows.evalBelowRow.wideKeys == (Tryz.f4.params.toList ++ Rows.evalBelowSpec.plain.varTypes Tryz.prog ++ Tryz.f4.resultTypes.toList).any (Tryz.prog.wideKeysFrom ·))) = true := by kernel_rfl
theorem EvalBelow_j19 : (Rows.evalBelowSpec.vars.all (Tryz.prog.varReadable ·)) = true := by kernel_rfl
theorem EvalBelow_j20 : (Tryz.f4.resultTypes.all (fun t => Tryz.prog.readableRec t && decide (t < Tryz.prog.types.size))) = true := by kernel_rfl
theorem EvalBelow_j21 : ((Rows.evalBelowRow.ifacesOut == Tryz.f4.resultTypes.toList.any (Tryz.prog.ifacesRec ·))) = true := by kernel_rfl
theorem EvalBelow_j22 : ((Rows.evalBelowRow.loopsOut == Tryz.f4.resultTypes.toList.any (Tryz.prog.loopsFrom ·))) = true := by kernel_rfl
theorem EvalBelow_j23 : ((Rows.evalBelowRow.plainKeys == Tryz.prog.plainKeys)) = true := by kernel_rfl
theorem EvalBelow_j24 : (Rows.evalBelowRow.shortTexts.isNone) = true := by kernel_rfl
theorem EvalBelow_j25 : (Tryz.prog.stopsHeard) = true := by kernel_rfl
theorem EvalBelow_j26 : (Tryz.prog.mayEnter) = true := by kernel_rfl
theorem EvalBelow_j27 : ((Rows.evalBelowRow.lifted == Tryz.prog.liftsFinal)) = true := by kernel_rfl
theorem EvalBelow_j28 : ((Tryz.prog.make == some Rows.evalBelowRow.make)) = true := by kernel_rfl
theorem EvalBelow_j29 : ((Rows.evalBelowRow.kinds == (if Rows.evalBelowRow.domain.isEmpty then [] else Tryz.f4.params.toList.map fun t => match Tryz.prog.underlying t with | some (.int k) => some k | _ => none))) = true := by kernel_rfl
theorem EvalBelow_j30 : ((Rows.evalBelowRow.pinned == Rows.evalBelowRow.pinnedBy)) = true := by kernel_rfl
theorem EvalBelow_j31 : ((Rows.evalBelowRow.veiled == (Tryz.f4.params.toList ++ Rows.evalBelowSpec.plain.varTypes Tryz.prog ++ Tryz.f4.resultTypes.toList).any (Tryz.prog.veiledRec ·))) = true := by kernel_rfl
theorem EvalBelow_j32 : (Rows.evalBelowRow.veiledFits Tryz.prog Tryz.f4.params.toList (Tryz.f4.params.toList ++ Rows.evalBelowSpec.plain.varTypes Tryz.prog ++ Tryz.f4.resultTypes.toList)) = true := by kernel_rfl
theorem and_two {a b : Bool} (h : a = true) (k : b = true) : (a && b) = true := by rw [h, k]; rfl
set_option maxRecDepth 100000 in
theorem EvalBelow_joined : joinedFacts Tryz.prog 4 Tryz.f4 Rows.evalBelowSpec Rows.evalBelowRow = true := by
  unfold joinedFacts
  exact (and_two (and_two (and_two (and_two (and_two (and_two (and_two (and_two (and_two (and_two (and_two (and_two (and_two (and_two (and_two (and_two (and_two (and_two (and_two (and_two (and_two (and_two (and_two (and_two (and_two (and_two (and_two (and_two (and_two (and_two (and_two EvalBelow_j1 EvalBelow_j2) EvalBelow_j3) EvalBelow_j4) EvalBelow_j5) EvalBelow_j6) EvalBelow_j7) EvalBelow_j8) EvalBelow_j9) EvalBelow_j10) EvalBelow_j11) EvalBelow_j12) EvalBelow_j13) EvalBelow_j14) EvalBelow_j15) EvalBelow_j16) EvalBelow_j17) EvalBelow_j18) EvalBelow_j19) EvalBelow_j20) EvalBelow_j21) EvalBelow_j22) EvalBelow_j23) EvalBelow_j24) EvalBelow_j25) EvalBelow_j26) EvalBelow_j27) EvalBelow_j28) EvalBelow_j29) EvalBelow_j30) EvalBelow_j31) EvalBelow_j32)
end Go.Proofs.YtcdpoamiejompaaGreatDoor
namespace Go.Proofs.YtcdpoamiejompaaGreatDoor
open Go Go.ChangeShapes Go.WideShapes Go.ChangeAt Go.RowKit Go.Wk
open Go.ChangeMaps (open_string)

set_option maxRecDepth 100000 in
theorem EvalBelow_lifted (os : Os) (started : os.Started) (H : Type) (enc : TypeId × Value → H) :
    ReturnsInHanded {} Tryz.checked os 4 .any (fun w args => (Rows.evalBelowSpec.pre enc Tryz.prog Tryz.f4 [] false w args ∧ laidMetH Tryz.prog laidList w) ∧ sizedMet enc Tryz.prog Tryz.f4 (OpenSpec.ofChange Rows.evalBelowSpec) false w args) (Rows.evalBelowSpec.post enc Tryz.prog Tryz.f4 false true false false) := by
  refine returnsInHanded_of_change_and (C := Tryz.checked) (X := fun w _ => laidMetH Tryz.prog laidList w) (fun _ _ _ hh h => h.of_heap hh) own started (by kernel_rfl) Tryz.func4
    (ChangeSpec.witness_at (enc := enc) (C := Tryz.checked) (os := os) (X := fun w _ => laidMetH Tryz.prog laidList w) false (laidWorld os) #[.slice none 0 0, .agg #[.string ⟨#[]⟩, .string ⟨#[]⟩, .string ⟨#[]⟩, .string ⟨#[]⟩, .string ⟨#[]⟩, .string ⟨#[]⟩, .slice none 0 0], .agg #[.string ⟨#[]⟩, .string ⟨#[]⟩], .slice none 0 0] 8 rfl (by kernel_rfl) (by kernel_rfl) (by kernel_rfl) (by kernel_rfl) (by kernel_rfl) (laidWorld_met os _)) ?_
  intro W base args ds gs before hval0 hW _ _ hL _
  have hg := handle_of_laid hL
  have hval : ∀ (j : Nat) t v, Tryz.f4.params[j]? = some t → args[j]? = some v → Value.okWide Tryz.prog W .any base t v := hval0
  have hW0 := hW
  obtain ⟨p, q, hA0, _, _, _, _⟩ := hW
  have hA : DataW.TrodAll enc Tryz.prog W 0 (fun _ => true) true Tryz.f4.params.toList args.toList ds p := hA0
  rw [Tryz.params4] at hA hval
  clear hA0 hval0
  obtain ⟨v0, vs0, d0, ds0, p0, q0, hargs, rfl, rfl, h0, r0⟩ := trodAll_cons hA
  obtain ⟨v1, vs1, d1, ds1, p1, q1, rfl, rfl, rfl, h1, r1⟩ := trodAll_cons r0
  obtain ⟨v2, vs2, d2, ds2, p2, q2, rfl, rfl, rfl, h2, r2⟩ := trodAll_cons r1
  obtain ⟨v3, vs3, d3, ds3, p3, q3, rfl, rfl, rfl, h3, r3⟩ := trodAll_cons r2
  obtain ⟨rfl, rfl, rfl⟩ := trodAll_nil r3
  obtain ⟨args⟩ := args
  simp only at hargs
  subst hargs
  obtain ⟨A0, n0, c0, E0, rfl, sx0⟩ := open_ents (hval 0 22 v0 rfl rfl) h0
  obtain ⟨x1, rfl, sx1⟩ := open_request (hval 1 27 v1 rfl rfl) h1
  obtain ⟨x2, y2, rfl, sx2, sy2⟩ := open_uid (hval 2 24 v2 rfl rfl) h2
  obtain ⟨A3, n3, c3, U3, rfl, sx3⟩ := open_uids (hval 3 38 v3 rfl rfl) h3
  refine (EvalBelow_walk A0 n0 c0 E0 x1 x2 y2 A3 n3 c3 U3 W sx0 sx1 sx2 sy2 sx3 hg).mono fun e W' ⟨he, hb'⟩ => ?_
  subst he
  refine ⟨_, rfl, law_post laidOut (by kernel_rfl) (by rfl) Tryz.underlying4 rfl ?_ hW0 hb'⟩
  intro ds hlen
  rw [Tryz.params4] at hlen
  match ds, hlen with
  | [e0, e1, e2, e3], _ => rfl

theorem EvalBelow_over : Rows.evalBelowRow.holds Tryz.pinned (OpenSpec.ofChange Rows.evalBelowSpec) :=
  OpenClaim.holds_of_wide 4 Tryz.f4 rfl rfl rfl rfl rfl rfl rfl ⟨rfl, rfl, rfl, rfl, rfl⟩ rfl rfl rfl rfl rfl EvalBelow_named Tryz.func4 EvalBelow_joined
    EvalBelow_inst EvalBelow_wrap
    (fun os started H enc _ => EvalBelow_lifted os started H enc)

theorem EvalBelow_holds : Rows.EvalBelowCardSaid :=
  Claim7.holds_tied_plain_at .later [] [.handle] true Rows.evalBelowCard.stood.harness true
    EvalBelow_over (fun _ h => by cases h) EvalBelow_wf (fun _ h => by cases h) evalBelow_row_tie rfl ⟨rfl, rfl⟩ EvalBelow_main rfl
    (fun f fn hf hfn => by
      obtain rfl : f = 4 := Option.some.inj (EvalBelow_named.symm.trans hf) |>.symm
      obtain rfl : fn = Tryz.f4 := (Option.some.inj (Tryz.func4.symm.trans hfn)).symm
      exact ⟨EvalBelow_looks, fun j t ht => by
        rw [Tryz.params4] at ht
        have hm := Array.mem_of_getElem? ht
        simp only [List.mem_toArray, List.mem_cons, List.not_mem_nil, or_false] at hm
        rcases hm with rfl | rfl | rfl | rfl
        all_goals exact (show Tryz.prog.wantsStandIn _ = false by kernel_rfl)⟩)
    EvalBelow_goes
#print axioms EvalBelow_holds
end Go.Proofs.YtcdpoamiejompaaGreatDoor
