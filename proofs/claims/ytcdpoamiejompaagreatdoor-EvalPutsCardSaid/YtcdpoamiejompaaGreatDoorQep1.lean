/-
  The laws' op, at one, two, three parts.
  A row of nodes of the call's own: nodes behind it; the document's Truth, EntOf.
  tree.Put: an expression with another one at the place of a name.
  EvalPuts: the walk of the law. (gen_evputs.py)
  EvalPuts: the closed facts of the frame, one by one.
  EvalPuts: the frame round the walk: for every input the law returns true, and each argument reads behind the call as it read before. No condition.
-/
import Derived.Deep.RegionHeld3
import Derived.SevenTiedAt
import Derived.Test.YtcdpoamiejompaaGreatDoorRows
import Derived.Test.YtcdpoamiejompaaGreatDoorCards
import Derived.Test.YtcdpoamiejompaaGreatDoorTie
import Derived.Test.YtcdpoamiejompaaGreatDoorQep0
namespace Go.Proofs.YtcdpoamiejompaaGreatDoor
open Go.RowKit Go.Wk Go.Sort
set_option maxRecDepth 100000

/-- What op tells: nodes in new blocks; their number has a name of its own. -/
def OpNs (w : World) (L : List Nd) (e : Ending) (w' : World) : Prop := ∃ A m c, e = .returned (.slice A m c) ∧ Ns w' A m c L ∧ Below w.heap.size w w'
theorem op_one (o : Int) (r : Sl) (w : World) (h : Ns w r.A r.n r.c r.P) (h0 : 0 < r.P.length) (hl : r.P.length ≤ 1000) :
    Calls Tryz.prog 20 #[.int .i64 o, .slice (some ⟨w.heap.size, 0, none⟩) 1 1] (w.alloc (.cells #[.slice r.A r.n r.c] 25)) (OpNs w (opN o :: r.P)) := by
  refine (law_op o (some ⟨w.heap.size, 0, none⟩) 1 1 [r] _ rfl (by omega) (sls_one w r h _) (by intro x hx; simp only [List.mem_cons, List.not_mem_nil, or_false] at hx; subst hx; exact h0) (by simpa using hl)).mono ?_
  rintro e w' ⟨A, c, rfl, hN, -, hb⟩
  rw [show ([r].map Sl.P).flatten = r.P by simp] at hN
  rw [show ([r].map Sl.P).flatten = r.P by simp]
  exact ⟨A, _, c, rfl, hN, (below_box w _).trans (hb.mono (by simp))⟩
theorem op_two (o : Int) (r s : Sl) (w : World) (h : Ns w r.A r.n r.c r.P) (k : Ns w s.A s.n s.c s.P) (h0 : 0 < r.P.length) (k0 : 0 < s.P.length) (hl : r.P.length + s.P.length ≤ 1000) :
    Calls Tryz.prog 20 #[.int .i64 o, .slice (some ⟨w.heap.size, 0, none⟩) 2 2] (w.alloc (.cells #[.slice r.A r.n r.c, .slice s.A s.n s.c] 25)) (OpNs w (opN o :: (r.P ++ s.P))) := by
  refine (law_op o (some ⟨w.heap.size, 0, none⟩) 2 2 [r, s] _ rfl (by omega) (sls_two w r s h k _) (by intro x hx; simp only [List.mem_cons, List.not_mem_nil, or_false] at hx; rcases hx with rfl | rfl <;> assumption) (by simpa using hl)).mono ?_
  rintro e w' ⟨A, c, rfl, hN, -, hb⟩
  rw [show ([r, s].map Sl.P).flatten = r.P ++ s.P by simp] at hN
  rw [show ([r, s].map Sl.P).flatten = r.P ++ s.P by simp]
  exact ⟨A, _, c, rfl, hN, (below_box w _).trans (hb.mono (by simp))⟩
theorem op_three (o : Int) (r s u : Sl) (w : World) (h : Ns w r.A r.n r.c r.P) (k : Ns w s.A s.n s.c s.P) (j : Ns w u.A u.n u.c u.P) (h0 : 0 < r.P.length) (k0 : 0 < s.P.length) (j0 : 0 < u.P.length) (hl : r.P.length + s.P.length + u.P.length ≤ 1000) :
    Calls Tryz.prog 20 #[.int .i64 o, .slice (some ⟨w.heap.size, 0, none⟩) 3 3] (w.alloc (.cells #[.slice r.A r.n r.c, .slice s.A s.n s.c, .slice u.A u.n u.c] 25)) (OpNs w (opN o :: (r.P ++ (s.P ++ u.P)))) := by
  refine (law_op o (some ⟨w.heap.size, 0, none⟩) 3 3 [r, s, u] _ rfl (by omega) (sls_three w r s u h k j _) (by intro x hx; simp only [List.mem_cons, List.not_mem_nil, or_false] at hx; rcases hx with rfl | rfl | rfl <;> assumption) (by simp; omega)).mono ?_
  rintro e w' ⟨A, c, rfl, hN, -, hb⟩
  rw [show ([r, s, u].map Sl.P).flatten = r.P ++ (s.P ++ u.P) by simp] at hN
  rw [show ([r, s, u].map Sl.P).flatten = r.P ++ (s.P ++ u.P) by simp]
  exact ⟨A, _, c, rfl, hN, (below_box w _).trans (hb.mono (by simp))⟩
/-- As op_one, op_two, where the parts lie already. -/
theorem op_sl1 (o : Int) (r : Sl) (A : Option Addr) (w : World) (h : SlsAt w A [r]) (h0 : 0 < r.P.length) (hl : r.P.length ≤ 1000) :
    Calls Tryz.prog 20 #[.int .i64 o, .slice A 1 1] w (OpNs w (opN o :: r.P)) := by
  refine (law_op o A 1 1 [r] w rfl (by omega) h (by intro x hx; simp only [List.mem_cons, List.not_mem_nil, or_false] at hx; subst hx; exact h0) (by simpa using hl)).mono ?_
  rintro e w' ⟨A, c, rfl, hN, -, hb⟩
  rw [show ([r].map Sl.P).flatten = r.P by simp] at hN
  rw [show ([r].map Sl.P).flatten = r.P by simp]
  exact ⟨A, _, c, rfl, hN, hb⟩
theorem op_sl2 (o : Int) (r s : Sl) (A : Option Addr) (w : World) (h : SlsAt w A [r, s]) (h0 : 0 < r.P.length) (k0 : 0 < s.P.length) (hl : r.P.length + s.P.length ≤ 1000) :
    Calls Tryz.prog 20 #[.int .i64 o, .slice A 2 2] w (OpNs w (opN o :: (r.P ++ s.P))) := by
  refine (law_op o A 2 2 [r, s] w rfl (by omega) h (by intro x hx; simp only [List.mem_cons, List.not_mem_nil, or_false] at hx; rcases hx with rfl | rfl <;> assumption) (by simpa using hl)).mono ?_
  rintro e w' ⟨A, c, rfl, hN, -, hb⟩
  rw [show ([r, s].map Sl.P).flatten = r.P ++ s.P by simp] at hN
  rw [show ([r, s].map Sl.P).flatten = r.P ++ s.P by simp]
  exact ⟨A, _, c, rfl, hN, hb⟩
theorem op_sl3 (o : Int) (r s u : Sl) (A : Option Addr) (w : World) (h : SlsAt w A [r, s, u]) (h0 : 0 < r.P.length) (k0 : 0 < s.P.length) (j0 : 0 < u.P.length) (hl : r.P.length + s.P.length + u.P.length ≤ 1000) :
    Calls Tryz.prog 20 #[.int .i64 o, .slice A 3 3] w (OpNs w (opN o :: (r.P ++ (s.P ++ u.P)))) := by
  refine (law_op o A 3 3 [r, s, u] w rfl (by omega) h (by intro x hx; simp only [List.mem_cons, List.not_mem_nil, or_false] at hx; rcases hx with rfl | rfl | rfl <;> assumption) (by simp; omega)).mono ?_
  rintro e w' ⟨A, c, rfl, hN, -, hb⟩
  rw [show ([r, s, u].map Sl.P).flatten = r.P ++ (s.P ++ u.P) by simp] at hN
  rw [show ([r, s, u].map Sl.P).flatten = r.P ++ (s.P ++ u.P) by simp]
  exact ⟨A, _, c, rfl, hN, hb⟩
/-- A request's cells, one by one. -/
theorem vq_and {w : World} {b : Nat} {q : Rq} (h : Vq w b q) : w.cell? ⟨b, 0, none⟩ = some (.string q.who.1) ∧ w.cell? ⟨b, 1, none⟩ = some (.string q.who.2) ∧ w.cell? ⟨b, 2, none⟩ = some (.string q.act.1) ∧ w.cell? ⟨b, 3, none⟩ = some (.string q.act.2) ∧ w.cell? ⟨b, 4, none⟩ = some (.string q.what.1) ∧ w.cell? ⟨b, 5, none⟩ = some (.string q.what.2) ∧ w.cell? ⟨b, 6, none⟩ = some (.slice q.NA q.nn q.nc) :=
  ⟨h.c0, h.c1, h.c2, h.c3, h.c4, h.c5, h.c6⟩
/-- Alike in thing and in fault. -/
theorem law_alike (A B : Option Addr) (n m c d : Nat) (r s : Res) (w : World) (e : r = s) (h : Ns w A n c (valV r)) (k : Ns w B m d (valV s)) (hg : Door w) :
    Calls Tryz.prog 26 #[.slice A n c, errV (valE r), .slice B m d, errV (valE s)] w fun r w' => r = .returned (.bool true) ∧ Below w.heap.size w w' := by
  subst e
  refine (law_same A B n m c d _ _ _ _ w h k hg).mono ?_
  rintro e w' ⟨rfl, hb⟩
  exact ⟨by rw [decide_eq_true (show cmpNds (valV r) (valV r) = 0 from cmpNds_cmp.self _)]; simp, hb⟩
theorem ex_pos {P : List Nd} (h : exFault P = 0) : 0 < P.length := by
  obtain ⟨-, x, -, rfl⟩ := ex_of h
  exact flatX_pos x
end Go.Proofs.YtcdpoamiejompaaGreatDoor
namespace Go.Proofs.YtcdpoamiejompaaGreatDoor
open Go.RowKit Go.Wk Go.Sort
set_option maxRecDepth 100000

/-- A slice of the call's own that holds the nodes P. -/
structure NRow (w : World) (base : Nat) (v : Value) (P : List Nd) : Prop where
  own : w.ownsRow base 42 4 v P.length (ndCells P)
theorem NRow.keep {w w' : World} {base : Nat} {v : Value} {P : List Nd} (h : NRow w base v P) (hb : Below w.heap.size w w') : NRow w' base v P := ⟨h.own.kept (grown_of_below hb none) (by cases hv : v.ownBlock <;> simp)⟩
theorem NRow.one (w : World) (x : Nd) : NRow (w.alloc (.cells #[.int .i64 x.op, .int .i64 x.n, .string x.s, .string x.t] 42)) w.heap.size (.slice (some ⟨w.heap.size, 0, none⟩) 1 1) [x] := ⟨row_one w x⟩
theorem NRow.ns {w : World} {base : Nat} {v : Value} {P : List Nd} (h : NRow w base v P) (hl : P.length ≤ 1000) (ho : NdsOk P) : ∃ A n c, v = .slice A n c ∧ Ns w A n c P := by
  obtain ⟨A, c, rfl, hc, hA, -⟩ := nds_of_own h.own
  exact ⟨A, _, c, rfl, rfl, hc, by unfold maxLen; omega, hA, ho⟩
/-- append of nodes to such a row. -/
theorem wpList_append_sl {ops : Array Oper} {rest : List Oper} {o : Oper} {a : Act} {w : World} {Q : Exit → Act → World → Prop} (hgd : o.guard = none) (s x : Operand)
    (ho : o.op = .call { callee := .builtin .append, args := #[s, x], argTypes := #[25, 25] })
    (base : Nat) (v : Value) (L : List Nd) (hs : a.eval s = v) (hrow : NRow w base v L) (A : Option Addr) (n c : Nat) (P : List Nd) (hx : a.eval x = .slice A n c) (hP : Ns w A n c P) (h0 : 0 < P.length)
    (hl : L.length + P.length ≤ 1000) (hbase : base ≤ w.heap.size)
    (h : ∀ v' w', NRow w' base v' (L ++ P) → Below base w w' → wpList Tryz.prog ops Q rest (a.put o.dst v') w') : wpList Tryz.prog ops Q (o :: rest) a w := by
  have hi := ndInfo
  cases hq : Tryz.prog.info? 42 with
  | none => rw [hq] at hi; cases hi
  | some i0 =>
    rw [hq] at hi
    simp only [Option.map_some, Option.some.injEq, Prod.mk.injEq] at hi
    obtain ⟨a2, rfl, -⟩ := hP.at_.nd h0
    have HC : ∀ j u, (ndCells P)[j]? = some u → w.cell? (a2.add j) = some u := hP.at_.cells
    have hn := hP.len
    refine wpList_append_own w hgd s x _ ho base _ i0 _ 4 48 Tryz.underlying25 hq hi.1 hi.2.1 hi.2.2 (by decide) (by decide) v L.length (ndCells L) hs hrow.own a2 n c (ndCells P) hx (by rw [ndCells_length, hn]) HC (ndCells_one _) (by unfold maxLen; omega) (by omega) hbase ?_
    intro v' w' h1 h2 _
    rw [hn, ← ndCells_append, ← List.length_append] at h1
    exact h v' w' ⟨h1⟩ ((Below.refl base w).grown h2 hbase (own_base hrow.own))
theorem ref_TruthF (b : Bool) (w : World) :
    Calls Tryz.prog 21 #[.bool b] w fun e w' => ∃ A n c, e = .returned (.slice A n c) ∧ (Ns w' A n c (truthN b) ∧ ∀ a, A = some a → w.heap.size ≤ a.block) ∧ Below w.heap.size w w' := by
  have N1 := Lib.hid (nd_lit w ⟨1, 1, emp, emp⟩ ⟨by decide, by decide, by decide, by decide⟩)
  have N0 := Lib.hid (nd_lit w ⟨1, 0, emp, emp⟩ ⟨by decide, by decide, by decide, by decide⟩)
  cases b
  · go_enter Tryz.func21, Tryz.ntmps21
    go_wp2_with fail
    go_ret
    exact ⟨_, 1, 1, rfl, ⟨N0.out, fun a e => by injection e with e; subst e; exact Nat.le_refl _⟩, below_box w _⟩
  · go_enter Tryz.func21, Tryz.ntmps21
    go_wp2_with fail
    go_ret
    exact ⟨_, 1, 1, rfl, ⟨N1.out, fun a e => by injection e with e; subst e; exact Nat.le_refl _⟩, below_box w _⟩
theorem ref_Truth (b : Bool) (w : World) :
    Calls Tryz.prog 21 #[.bool b] w fun e w' => ∃ A n c, e = .returned (.slice A n c) ∧ Ns w' A n c (truthN b) ∧ Below w.heap.size w w' :=
  (ref_TruthF b w).mono fun _ _ ⟨A, n, c, h1, h2, h3⟩ => ⟨A, n, c, h1, h2.1, h3⟩
theorem ref_EntOfF (u : Ud) (w : World) (hu : UOk u) :
    Calls Tryz.prog 18 #[.agg #[.string u.1, .string u.2]] w fun e w' => ∃ A n c, e = .returned (.slice A n c) ∧ (Ns w' A n c (entN u) ∧ ∀ a, A = some a → w.heap.size ≤ a.block) ∧ Below w.heap.size w w' := by
  have N1 := Lib.hid (nd_lit (w.alloc (.cells #[.string u.1, .string u.2] 24)) ⟨4, 0, u.1, u.2⟩ ⟨hu.1, hu.2, by show _ ≤ (0 : Int); decide, by show (0 : Int) ≤ _; decide⟩)
  rw [show (w.alloc (.cells #[.string u.1, .string u.2] 24)).heap.size = w.heap.size + 1 from by simp [go_sem]] at N1
  have B1 := Lib.hid ((below_box w (.cells #[.string u.1, .string u.2] 24)).trans ((below_box (w.alloc (.cells #[.string u.1, .string u.2] 24)) (.cells #[.int .i64 4, .int .i64 0, .string u.1, .string u.2] 42)).mono (below_box w _).size))
  clear hu
  go_enter Tryz.func18, Tryz.ntmps18
  go_wp2_with fail
  go_ret
  exact ⟨_, 1, 1, rfl, ⟨N1.out, fun a e => by injection e with e; subst e; exact Nat.le_succ _⟩, B1.out⟩
theorem ref_EntOf (u : Ud) (w : World) (hu : UOk u) :
    Calls Tryz.prog 18 #[.agg #[.string u.1, .string u.2]] w fun e w' => ∃ A n c, e = .returned (.slice A n c) ∧ Ns w' A n c (entN u) ∧ Below w.heap.size w w' :=
  (ref_EntOfF u w hu).mono fun _ _ ⟨A, n, c, h1, h2, h3⟩ => ⟨A, n, c, h1, h2.1, h3⟩
end Go.Proofs.YtcdpoamiejompaaGreatDoor
namespace Go.Proofs.YtcdpoamiejompaaGreatDoor
open Go.RowKit Go.Wk Go.Sort
set_option maxRecDepth 100000

theorem NRow.nil (w : World) (base : Nat) : NRow w base (.slice none 0 0) [] := ⟨⟨rfl, .inl ⟨rfl, rfl⟩⟩⟩
theorem putN_step {s : ByteArray} {V P : List Nd} {j : Nat} (h : j < P.length) : putN s V (P.take (j + 1)) = putN s V (P.take j) ++ (if P[j].op = 8 ∧ P[j].s = s then V else [P[j]]) := by
  unfold putN
  rw [List.take_succ_eq_append_getElem h, List.flatMap_append]
  simp only [List.flatMap_cons, List.flatMap_nil, List.append_nil]
theorem putN_ok {s : ByteArray} {V P : List Nd} (hV : NdsOk V) (hP : NdsOk P) : NdsOk (putN s V P) := by
  intro x hx
  unfold putN at hx
  obtain ⟨y, hy, hx⟩ := List.mem_flatMap.1 hx
  split at hx
  · exact hV x hx
  · simp only [List.mem_cons, List.not_mem_nil, or_false] at hx
    subst hx
    exact hP x hy
theorem nds_take {P : List Nd} (h : NdsOk P) (j : Nat) : NdsOk (P.take j) := fun x hx => h x (List.mem_of_mem_take hx)
/-- What Put tells: an error, or the nodes. -/
def PutPost (w : World) (s : ByteArray) (V P : List Nd) (e : Ending) (w' : World) : Prop :=
  Below w.heap.size w w' ∧ ((∃ f, f ≠ 0 ∧ e = .returned (.tuple #[.slice none 0 0, errV f])) ∨ ∃ A n c, e = .returned (.tuple #[.slice A n c, .nilIface]) ∧ Ns w' A n c (putN s V P) ∧ (putN s V P).length ≤ 200)
set_option maxHeartbeats 8000000 in
theorem tree_Put (A : Option Addr) (n c : Nat) (P : List Nd) (s : ByteArray) (B : Option Addr) (m d : Nat) (V : List Nd) (w : World) (h : Ns w A n c P) (k : Ns w B m d V) :
    Calls Tryz.prog 27 #[.slice A n c, .string s, .slice B m d] w (PutPost w s V P) := by
  have C1 := Lib.hid (tree_Check A n c P w h)
  have C2 := Lib.hid (fun w' (hb : Below w.heap.size w w') => tree_Check B m d V w' (k.keep hb))
  have H1 := Lib.hid h
  have H2 := Lib.hid k
  have hl1 := h.len
  have HL1 := Lib.hid hl1
  have hm1 := h.max
  unfold maxLen at hm1
  clear h k hl1
  go_enter Tryz.func27, Tryz.ntmps27
  go_wp2_with fail
  refine C1.out.mono ?_
  rintro e w1 ⟨rfl, b1⟩
  have B1 := Lib.hid b1
  clear b1 C1
  by_cases q1 : exFault P = 0
  case neg =>
    have HE := Lib.hid (errV_ne q1)
    have Hq := Lib.hid q1
    rw [HE.out]
    clear q1
    go_wp2_with fail
    go_ret2
    exact ⟨B1.out, .inl ⟨_, Hq.out, by rw [HE.out]; rfl⟩⟩
  rw [q1, errV_zero]
  go_wp2_with fail
  refine (C2.out _ B1.out).mono ?_
  rintro e w2 ⟨rfl, b2⟩
  have B2 := bh B1 b2
  clear b2 C2 B1
  by_cases q2 : exFault V = 0
  case neg =>
    have HE := Lib.hid (errV_ne q2)
    have Hq := Lib.hid q2
    rw [HE.out]
    clear q2 q1
    go_wp2_with fail
    go_ret2
    exact ⟨B2.out, .inl ⟨_, Hq.out, by rw [HE.out]; rfl⟩⟩
  rw [q2, errV_zero]
  have hv0 := ex_pos q2
  have hv1 := (ex_of q2).1
  have hp1 := (ex_of q1).1
  rw [← HL1.out] at hp1
  have R0 := Lib.hid (NRow.nil w2 w.heap.size)
  clear q1 q2
  go_wp2_with fail
  go_loopw [10, 25] (fun v i wr => ∃ (j : Nat) (A8 : Option Addr) (m8 c8 : Nat), i = .int .i64 j ∧ j ≤ n ∧ v = .slice A8 m8 c8 ∧ Hid (NRow wr w.heap.size v (putN s V (P.take j))) ∧ Hid (Below w.heap.size w wr) ∧ Hid ((putN s V (P.take j)).length ≤ 200)) (fun _ i _ => n - (intOf i).toNat)
  case atStart => exact ⟨0, none, 0, 0, rfl, Nat.zero_le _, rfl, R0, B2, Lib.hid (Nat.zero_le _)⟩
  case round =>
    obtain ⟨j, A8, m8, c8, rfl, hj, rfl, hR, hB, hL⟩ := hrel
    by_cases hlt : j < n
    · have hjl : j < P.length := by rw [← HL1.out]; exact hlt
      have HS := Lib.hid (putN_step (s := s) (V := V) hjl)
      obtain ⟨a, rfl, d0, d1, d2, d3⟩ := (H1.out.keep hB.out).at_ j _ (List.getElem?_eq_getElem hjl)
      have hok := H1.out.ok _ (List.getElem_mem hjl)
      generalize P[j] = x at *
      obtain ⟨xo, xn, xs, xt⟩ := x
      dsimp only at d0 d1 d2 d3 HS
      by_cases hc : xo = 8 ∧ xs = s
      · rw [if_pos hc] at HS
        obtain ⟨h8, hs⟩ := hc
        subst h8
        subst hs
        have f1 : (xs.toList == xs.toList) = true := beq_self_eq_true _
        have X0 := Lib.hid (vn_new wr ⟨8, xn, xs, xt⟩ 42)
        obtain ⟨x0, x1, x2, x3⟩ := X0.out
        dsimp only at x0 x1 x2 x3
        have bx := below_box wr (.cells #[.int .i64 8, .int .i64 xn, .string xs, .string xt] 42)
        have B3 := bh hB bx
        have R3 := Lib.hid (hR.out.keep bx)
        have hz3 := B3.out.size
        have N3 := Lib.hid (H2.out.keep B3.out)
        have la : (putN xs V (P.take j)).length + (V : List Nd).length ≤ 1000 := by have := hL.out; omega
        clear bx hok X0
        go_wp2_with (at_builtin; refine wpList_append_sl rfl _ _ rfl w.heap.size (.slice A8 m8 c8) (putN xs V (P.take j)) rfl R3.out B m d V rfl N3.out hv0 la hz3 ?_)
        intro v4 w4 r4 b4
        have B4 := Lib.hid (B3.out.trans b4)
        replace r4 : NRow w4 w.heap.size v4 (putN xs V (P.take j) ++ V) := r4
        rw [← HS.out] at r4
        have R4 := Lib.hid r4
        obtain ⟨A9, m9, c9, rfl, hN⟩ := r4.ns (by rw [HS.out, List.length_append]; exact la) (putN_ok H2.out.ok (nds_take H1.out.ok _))
        have HM := Lib.hid hN.len
        clear r4 b4 B3 R3 N3 la hN hR hB x0 x1 x2 x3 d0 d1 d2 d3 hz3
        by_cases hf : m9 ≤ 200
        · have f2 : ¬ (200 : Int) < (m9 : Int) := by omega
          have HL9 := Lib.hid (show (putN xs V (P.take (j + 1))).length ≤ 200 by rw [← HM.out]; exact hf)
          clear HM
          go_wp2_with fail
          go_roundw
          case rel => exact ⟨j + 1, A9, m9, c9, by go_num, by omega, rfl, R4, B4, HL9⟩
          case measure => simp [intOf]; omega
        · have f2 : (200 : Int) < (m9 : Int) := by omega
          clear HM
          go_wp2_with fail
          go_ret2
          exact ⟨B4.out, .inl ⟨4, by decide, rfl⟩⟩
      · rw [if_neg hc] at HS
        by_cases h8 : xo = 8
        · replace hc : xo = 8 ∧ xs ≠ s := ⟨h8, fun q => hc ⟨h8, q⟩⟩
          clear h8
          obtain ⟨h8, hs⟩ := hc
          subst h8
          have f1 : (xs.toList == s.toList) = false := beq_eq_false_iff_ne.2 fun q => hs (toList_inj q)
          clear hs
          have X0 := Lib.hid (vn_new wr ⟨8, xn, xs, xt⟩ 42)
          obtain ⟨x0, x1, x2, x3⟩ := X0.out
          dsimp only at x0 x1 x2 x3
          have bx := below_box wr (.cells #[.int .i64 8, .int .i64 xn, .string xs, .string xt] 42)
          have B3 := bh hB bx
          have R3 := Lib.hid (hR.out.keep bx)
          have hz3 := B3.out.size
          have N0 := nd_lit (wr.alloc (.cells #[.int .i64 8, .int .i64 xn, .string xs, .string xt] 42)) ⟨8, xn, xs, xt⟩ hok
          rw [show (wr.alloc (.cells #[.int .i64 8, .int .i64 xn, .string xs, .string xt] 42)).heap.size = wr.heap.size + 1 from by simp [go_sem]] at N0
          have N3 := Lib.hid N0
          have bx2 := below_box (wr.alloc (.cells #[.int .i64 8, .int .i64 xn, .string xs, .string xt] 42)) (.cells #[.int .i64 8, .int .i64 xn, .string xs, .string xt] 42)
          replace B3 := bh B3 bx2
          replace R3 := Lib.hid (R3.out.keep bx2)
          replace hz3 := B3.out.size
          clear N0 bx2
          have la : (putN s V (P.take j)).length + ([⟨8, xn, xs, xt⟩] : List Nd).length ≤ 1000 := by have := hL.out; simp only [List.length_cons, List.length_nil]; omega
          clear bx hok X0
          go_wp2_with (at_builtin; refine wpList_append_sl rfl _ _ rfl w.heap.size (.slice A8 m8 c8) (putN s V (P.take j)) rfl R3.out (some ⟨wr.heap.size + 1, 0, none⟩) 1 1 [⟨8, xn, xs, xt⟩] rfl N3.out (Nat.succ_pos _) la hz3 ?_)
          intro v4 w4 r4 b4
          have B4 := Lib.hid (B3.out.trans b4)
          replace r4 : NRow w4 w.heap.size v4 (putN s V (P.take j) ++ [⟨8, xn, xs, xt⟩]) := r4
          rw [← HS.out] at r4
          have R4 := Lib.hid r4
          obtain ⟨A9, m9, c9, rfl, hN⟩ := r4.ns (by rw [HS.out, List.length_append]; exact la) (putN_ok H2.out.ok (nds_take H1.out.ok _))
          have HM := Lib.hid hN.len
          clear r4 b4 B3 R3 N3 la hN hR hB x0 x1 x2 x3 d0 d1 d2 d3 hz3
          by_cases hf : m9 ≤ 200
          · have f2 : ¬ (200 : Int) < (m9 : Int) := by omega
            have HL9 := Lib.hid (show (putN s V (P.take (j + 1))).length ≤ 200 by rw [← HM.out]; exact hf)
            clear HM
            go_wp2_with fail
            go_roundw
            case rel => exact ⟨j + 1, A9, m9, c9, by go_num, by omega, rfl, R4, B4, HL9⟩
            case measure => simp [intOf]; omega
          · have f2 : (200 : Int) < (m9 : Int) := by omega
            clear HM
            go_wp2_with fail
            go_ret2
            exact ⟨B4.out, .inl ⟨4, by decide, rfl⟩⟩
        · replace hc : ¬ xo = 8 := h8
          clear h8
          have f1 : ¬ xo = 8 := hc
          have X0 := Lib.hid (vn_new wr ⟨xo, xn, xs, xt⟩ 42)
          obtain ⟨x0, x1, x2, x3⟩ := X0.out
          dsimp only at x0 x1 x2 x3
          have bx := below_box wr (.cells #[.int .i64 xo, .int .i64 xn, .string xs, .string xt] 42)
          have B3 := bh hB bx
          have R3 := Lib.hid (hR.out.keep bx)
          have hz3 := B3.out.size
          have N0 := nd_lit (wr.alloc (.cells #[.int .i64 xo, .int .i64 xn, .string xs, .string xt] 42)) ⟨xo, xn, xs, xt⟩ hok
          rw [show (wr.alloc (.cells #[.int .i64 xo, .int .i64 xn, .string xs, .string xt] 42)).heap.size = wr.heap.size + 1 from by simp [go_sem]] at N0
          have N3 := Lib.hid N0
          have bx2 := below_box (wr.alloc (.cells #[.int .i64 xo, .int .i64 xn, .string xs, .string xt] 42)) (.cells #[.int .i64 xo, .int .i64 xn, .string xs, .string xt] 42)
          replace B3 := bh B3 bx2
          replace R3 := Lib.hid (R3.out.keep bx2)
          replace hz3 := B3.out.size
          clear N0 bx2
          have la : (putN s V (P.take j)).length + ([⟨xo, xn, xs, xt⟩] : List Nd).length ≤ 1000 := by have := hL.out; simp only [List.length_cons, List.length_nil]; omega
          clear bx hok X0
          go_wp2_with (at_builtin; refine wpList_append_sl rfl _ _ rfl w.heap.size (.slice A8 m8 c8) (putN s V (P.take j)) rfl R3.out (some ⟨wr.heap.size + 1, 0, none⟩) 1 1 [⟨xo, xn, xs, xt⟩] rfl N3.out (Nat.succ_pos _) la hz3 ?_)
          intro v4 w4 r4 b4
          have B4 := Lib.hid (B3.out.trans b4)
          replace r4 : NRow w4 w.heap.size v4 (putN s V (P.take j) ++ [⟨xo, xn, xs, xt⟩]) := r4
          rw [← HS.out] at r4
          have R4 := Lib.hid r4
          obtain ⟨A9, m9, c9, rfl, hN⟩ := r4.ns (by rw [HS.out, List.length_append]; exact la) (putN_ok H2.out.ok (nds_take H1.out.ok _))
          have HM := Lib.hid hN.len
          clear r4 b4 B3 R3 N3 la hN hR hB x0 x1 x2 x3 d0 d1 d2 d3 hz3
          by_cases hf : m9 ≤ 200
          · have f2 : ¬ (200 : Int) < (m9 : Int) := by omega
            have HL9 := Lib.hid (show (putN s V (P.take (j + 1))).length ≤ 200 by rw [← HM.out]; exact hf)
            clear HM
            go_wp2_with fail
            go_roundw
            case rel => exact ⟨j + 1, A9, m9, c9, by go_num, by omega, rfl, R4, B4, HL9⟩
            case measure => simp [intOf]; omega
          · have f2 : (200 : Int) < (m9 : Int) := by omega
            clear HM
            go_wp2_with fail
            go_ret2
            exact ⟨B4.out, .inl ⟨4, by decide, rfl⟩⟩
    · have HA := Lib.hid (show P.take j = P from List.take_of_length_le (by rw [← HL1.out]; omega))
      have hR2 := hR.out
      have hL2 := hL.out
      rw [HA.out] at hR2 hL2
      obtain ⟨A9, m9, c9, e9, hN⟩ := hR2.ns (by omega) (putN_ok H2.out.ok H1.out.ok)
      injection e9 with e1 e2 e3
      subst e1
      subst e2
      subst e3
      have HN := Lib.hid hN
      have HL2 := Lib.hid hL2
      clear hR2 hL2 hN HA
      go_wp2_with fail
      go_ret2
      exact ⟨hB.out, .inr ⟨_, _, _, rfl, HN.out, HL2.out⟩⟩
end Go.Proofs.YtcdpoamiejompaaGreatDoor
namespace Go.Proofs.YtcdpoamiejompaaGreatDoor
open Go.RowKit Go.Wk Go.Sort
set_option maxRecDepth 100000

def nmP : Nat → ByteArray
  | 0 => principalT
  | 1 => actionL
  | 2 => resourceT
  | _ => contextT
def vlP (q : Rq) : Nat → List Nd
  | 0 => entN q.who
  | 1 => entN q.act
  | 2 => entN q.what
  | _ => q.P
theorem named_nm (E : List En) (q : Rq) (k : Nat) : namedX ⟨E, q.who, q.act, q.what, q.P⟩ (nmP k) = .ok (vlP q k) := by
  have h1 : ¬ actionL = principalT := by decide
  have h2 : ¬ resourceT = principalT := by decide
  have h3 : ¬ resourceT = actionL := by decide
  have h4 : ¬ contextT = principalT := by decide
  have h5 : ¬ contextT = actionL := by decide
  have h6 : ¬ contextT = resourceT := by decide
  match k with
  | 0 => show namedX _ principalT = .ok (entN q.who); unfold namedX; rw [if_pos rfl]
  | 1 => show namedX _ actionL = .ok (entN q.act); unfold namedX; rw [if_neg h1, if_pos rfl]
  | 2 => show namedX _ resourceT = .ok (entN q.what); unfold namedX; rw [if_neg h2, if_neg h3, if_pos rfl]
  | _ + 3 => show namedX _ contextT = .ok q.P; unfold namedX; rw [if_neg h4, if_neg h5, if_neg h6, if_pos rfl]
theorem vl_ok {E : List En} {q : Rq} (h : EnvOk ⟨E, q.who, q.act, q.what, q.P⟩) (k : Nat) : valFault (vlP q k) = 0 := by
  match k with
  | 0 => exact ent_val h.who
  | 1 => exact ent_val h.act
  | 2 => exact ent_val h.what
  | _ + 3 => exact h.ctx.1
/-- The four names, the four values. -/
def NmsAt (w : World) (b : Nat) : Prop := ∀ k, k < 4 → w.cell? ⟨b, k, none⟩ = some (.string (nmP k))
def VlsAt (w : World) (b : Nat) (q : Rq) : Prop := ∀ k, k < 4 → ∃ A m d, w.cell? ⟨b, k, none⟩ = some (.slice A m d) ∧ Ns w A m d (vlP q k)
theorem NmsAt.keep {w w' : World} {b : Nat} (h : NmsAt w b) (hb : Below w.heap.size w w') : NmsAt w' b := fun k hk => cell_keep hb (h k hk)
theorem VlsAt.keep {w w' : World} {b : Nat} {q : Rq} (h : VlsAt w b q) (hb : Below w.heap.size w w') : VlsAt w' b q := fun k hk => by
  obtain ⟨A, m, d, h1, h2⟩ := h k hk
  exact ⟨A, m, d, cell_keep hb h1, h2.keep hb⟩
theorem nms_new (w : World) (t : TypeId) : NmsAt (w.alloc (.cells #[.string ⟨#[112, 114, 105, 110, 99, 105, 112, 97, 108]⟩, .string ⟨#[97, 99, 116, 105, 111, 110]⟩, .string ⟨#[114, 101, 115, 111, 117, 114, 99, 101]⟩, .string ⟨#[99, 111, 110, 116, 101, 120, 116]⟩] t)) w.heap.size := fun k hk => by
  match k, hk with
  | 0, _ => exact cell_row (heap_alloc_last w _) rfl
  | 1, _ => exact cell_row (heap_alloc_last w _) rfl
  | 2, _ => exact cell_row (heap_alloc_last w _) rfl
  | 3, _ => exact cell_row (heap_alloc_last w _) rfl
theorem vls_new (w : World) (q : Rq) (A0 A1 A2 : Option Addr) (n0 n1 n2 c0 c1 c2 : Nat) (t : TypeId) (h0 : Ns w A0 n0 c0 (entN q.who)) (h1 : Ns w A1 n1 c1 (entN q.act)) (h2 : Ns w A2 n2 c2 (entN q.what)) (h3 : Ns w q.NA q.nn q.nc q.P) :
    VlsAt (w.alloc (.cells #[.slice A0 n0 c0, .slice A1 n1 c1, .slice A2 n2 c2, .slice q.NA q.nn q.nc] t)) w.heap.size q := fun k hk => by
  match k, hk with
  | 0, _ => exact ⟨_, _, _, cell_row (heap_alloc_last w _) rfl, h0.keep (below_box w _)⟩
  | 1, _ => exact ⟨_, _, _, cell_row (heap_alloc_last w _) rfl, h1.keep (below_box w _)⟩
  | 2, _ => exact ⟨_, _, _, cell_row (heap_alloc_last w _) rfl, h2.keep (below_box w _)⟩
  | 3, _ => exact ⟨_, _, _, cell_row (heap_alloc_last w _) rfl, h3.keep (below_box w _)⟩
/-- What Put tells, in one form. -/
theorem put_one (A : Option Addr) (n c : Nat) (P : List Nd) (s : ByteArray) (B : Option Addr) (m d : Nat) (V : List Nd) (w : World) (h : Ns w A n c P) (k : Ns w B m d V) :
    Calls Tryz.prog 27 #[.slice A n c, .string s, .slice B m d] w fun e w' => ∃ A n c f, e = .returned (.tuple #[.slice A n c, errV f]) ∧ (f = 0 → Ns w' A n c (putN s V P) ∧ (putN s V P).length ≤ 200) ∧ Below w.heap.size w w' := by
  refine (tree_Put A n c P s B m d V w h k).mono ?_
  rintro e w' ⟨hb, ⟨f, hf, rfl⟩ | ⟨A', n', c', rfl, hN, hl⟩⟩
  · exact ⟨none, 0, 0, f, rfl, fun q => absurd q hf, hb⟩
  · exact ⟨A', n', c', 0, rfl, fun _ => ⟨hN, hl⟩, hb⟩
set_option maxHeartbeats 16000000 in
theorem EvalPuts_walk (A0 : Option Addr) (n0 c0 : Nat) (E : List En) (q : Rq) (A2 : Option Addr) (n2 c2 : Nat) (P2 : List Nd) (w : World) (hE : Es w A0 n0 c0 E) (hq : RqOk w q) (h2 : Ns w A2 n2 c2 P2) (hg : Door w) :
    Calls Tryz.prog 10 #[.slice A0 n0 c0, q.v, .slice A2 n2 c2] w fun e w' => e = .returned (.bool true) ∧ Below w.heap.size w w' := by
  have HF := Lib.hid (fun w' (hb : Below w.heap.size w w') => law_fact w' (hg.keep hb))
  have HVl := Lib.hid (fun (A : Option Addr) (n c : Nat) (P : List Nd) (w' : World) (hb : Below w.heap.size w w') (hP : Ns w' A n c P) => eval_Value A0 n0 c0 E q A n c P w' (hE.keep hb) (hq.keep hb) hP (hg.keep hb))
  have C1 := Lib.hid (fun w' (hb : Below w.heap.size w w') => ent_Check A0 n0 c0 E w' (hE.keep hb))
  have C2 := Lib.hid (fun w' (hb : Below w.heap.size w w') => eval_Ask q w' (hq.keep hb))
  have C3 := Lib.hid (fun w' (hb : Below w.heap.size w w') => tree_Check A2 n2 c2 P2 w' (h2.keep hb))
  have KE0 := Lib.hid (fun w' => ref_EntOf q.who w' ⟨hq.w1, hq.w2⟩)
  have KE1 := Lib.hid (fun w' => ref_EntOf q.act w' ⟨hq.a1, hq.a2⟩)
  have KE2 := Lib.hid (fun w' => ref_EntOf q.what w' ⟨hq.t1, hq.t2⟩)
  have KP := Lib.hid (fun (s : ByteArray) (B : Option Addr) (m d : Nat) (V : List Nd) w' (hb : Below w.heap.size w w') (hV : Ns w' B m d V) => put_one A2 n2 c2 P2 s B m d V w' (h2.keep hb) hV)
  have HQN := Lib.hid hq.ns
  have HG := Lib.hid hg
  have H2 := Lib.hid h2
  have W0 := Lib.hid (vq_new w q 27)
  have B0 := Lib.hid (below_box w (.cells #[.string q.who.1, .string q.who.2, .string q.act.1, .string q.act.2, .string q.what.1, .string q.what.2, .slice q.NA q.nn q.nc] 27))
  have HPV := Lib.hid (fun (s : storeF E = 0) (a : askF q.who q.act q.what q.P = 0) (x : exFault P2 = 0) (k : Nat) (hl : (putN (nmP k) (vlP q k) P2).length ≤ 200) => put_value (σ := ⟨E, q.who, q.act, q.what, q.P⟩) x (vl_ok (E := E) (env_ok s a) k) (named_nm E q k) hl)
  unfold Rq.v at HVl C2 ⊢
  unfold ValPost at HVl
  clear hE hq h2 hg
  generalize askF q.who q.act q.what q.P = f2 at *
  generalize storeF E = f1 at *
  go_enter Tryz.func10, Tryz.ntmps10
  go_wp2_with fail
  refine (HF.out _ B0.out).mono ?_
  rintro e w1 ⟨rfl, b1⟩
  have B1 := bh B0 b1
  have W1 := Lib.hid (W0.out.keep b1)
  clear b1 B0 W0 HF
  go_wp2_with fail
  refine (C1.out _ B1.out).mono ?_
  rintro e w2 ⟨rfl, b2⟩
  have B2 := bh B1 b2
  have W2 := Lib.hid (W1.out.keep b2)
  clear b2 B1 W1 C1
  by_cases s : f1 = 0
  case neg =>
    rw [errV_ne s]
    clear s HPV
    go_wp2_with fail
    go_ret
    exact ⟨rfl, B2.out⟩
  rw [s, errV_zero]
  obtain ⟨k0, k1, k2, k3, k4, k5, k6⟩ := W2.out
  go_wp2_with fail
  refine (C2.out _ B2.out).mono ?_
  rintro e w3 ⟨rfl, b3⟩
  have B3 := bh B2 b3
  have W3 := Lib.hid (W2.out.keep b3)
  clear b3 B2 W2 C2 k0 k1 k2 k3 k4 k5 k6
  by_cases a : f2 = 0
  case neg =>
    rw [errV_ne a]
    clear s a HPV
    go_wp2_with fail
    go_ret
    exact ⟨rfl, B3.out⟩
  rw [a, errV_zero]
  go_wp2_with fail
  refine (C3.out _ B3.out).mono ?_
  rintro e w4 ⟨rfl, b4⟩
  have B4 := bh B3 b4
  have W4 := Lib.hid (W3.out.keep b4)
  clear b4 B3 W3 C3
  by_cases x : exFault P2 = 0
  case neg =>
    rw [errV_ne x]
    clear s a x HPV
    go_wp2_with fail
    go_ret
    exact ⟨rfl, B4.out⟩
  rw [x, errV_zero]
  have HM := Lib.hid (HPV.out s a x)
  clear HPV s a x
  obtain ⟨k0, k1, k2, k3, k4, k5, k6⟩ := W4.out
  go_wp2_with fail
  refine (HVl.out A2 n2 c2 P2 w4 B4.out (H2.out.keep B4.out)).mono ?_
  rintro e w5 ⟨A5, m5, c5, rfl, hN, b5⟩
  have N5 := Lib.hid hN
  have B5 := bh B4 b5
  have W5 := Lib.hid (W4.out.keep b5)
  clear k0 k1 k2 k3 k4 k5 k6 hN b5
  clear B4 W4
  have NM := Lib.hid (nms_new w5 9)
  have bx := below_box w5 (.cells #[.string ⟨#[112, 114, 105, 110, 99, 105, 112, 97, 108]⟩, .string ⟨#[97, 99, 116, 105, 111, 110]⟩, .string ⟨#[114, 101, 115, 111, 117, 114, 99, 101]⟩, .string ⟨#[99, 111, 110, 116, 101, 120, 116]⟩] 9)
  have B6 := bh B5 bx
  have W6 := Lib.hid (W5.out.keep bx)
  replace N5 := Lib.hid (N5.out.keep bx)
  obtain ⟨w6, hw6⟩ : ∃ w6, w5.alloc (.cells #[.string ⟨#[112, 114, 105, 110, 99, 105, 112, 97, 108]⟩, .string ⟨#[97, 99, 116, 105, 111, 110]⟩, .string ⟨#[114, 101, 115, 111, 117, 114, 99, 101]⟩, .string ⟨#[99, 111, 110, 116, 101, 120, 116]⟩] 9) = w6 := ⟨_, rfl⟩
  have HZ5 : w5.heap.size + 1 = w6.heap.size := by rw [← hw6]; simp [go_sem]
  rw [hw6] at NM B6 W6 N5
  clear bx B5 W5
  go_wp2_with fail
  have V6 := Lib.hid (W6.out.keep (below_drew w6))
  have D6 := bh B6 (below_drew w6)
  have Q6 := Lib.hid (below_drew w6)
  go_region_held3 (fun w' : World => w'.cell? ⟨w.heap.size, 0, none⟩ = some (.string q.who.1) ∧ w'.cell? ⟨w.heap.size, 1, none⟩ = some (.string q.who.2) ∧ w'.cell? ⟨w.heap.size, 2, none⟩ = some (.string q.act.1) ∧ w'.cell? ⟨w.heap.size, 3, none⟩ = some (.string q.act.2) ∧ w'.cell? ⟨w.heap.size, 4, none⟩ = some (.string q.what.1) ∧ w'.cell? ⟨w.heap.size, 5, none⟩ = some (.string q.what.2) ∧ w'.cell? ⟨w.heap.size, 6, none⟩ = some (.slice q.NA q.nn q.nc)) (first | (with_reducible exact vq_and Y9.out) | (with_reducible exact vq_and V9.out) | (with_reducible exact vq_and V8.out) | (with_reducible exact vq_and V7.out) | (with_reducible exact vq_and V6.out)) (first
      | (go_at_call 18; (with_reducible refine (KE2.out w8).mono ?_); rintro e w9 ⟨A9, m9, c9, rfl, hN, b9⟩; have N9 := Lib.hid hN; have M8 := Lib.hid (N8.out.keep b9); have L7 := Lib.hid (M7.out.keep b9); have B9 := bh B8 b9; have Q9 := bh Q8 b9; have V9 := Lib.hid (V8.out.keep b9); have Y9 := Lib.hid (V9.out.keep (below_box w9 (.cells #[.slice A7 m7 c7, .slice A8 m8 c8, .slice A9 m9 c9, .slice q.NA q.nn q.nc] 25))))
      | (go_at_call 18; (with_reducible refine (KE1.out w7).mono ?_); rintro e w8 ⟨A8, m8, c8, rfl, hN, b8⟩; have N8 := Lib.hid hN; have M7 := Lib.hid (N7.out.keep b8); have B8 := bh B7 b8; have Q8 := bh Q7 b8; have V8 := Lib.hid (V7.out.keep b8))
      | (go_at_call 18; (with_reducible refine (KE0.out _).mono ?_); rintro e w7 ⟨A7, m7, c7, rfl, hN, b7⟩; have N7 := Lib.hid hN; have B7 := bh D6 b7; have Q7 := bh Q6 b7; have V7 := Lib.hid (V6.out.keep b7)))
  have VL := Lib.hid (vls_new w9 q A7 A8 A9 m7 m8 m9 c7 c8 c9 25 L7.out M8.out N9.out (HQN.out.keep B9.out))
  have bx := below_box w9 (.cells #[.slice A7 m7 c7, .slice A8 m8 c8, .slice A9 m9 c9, .slice q.NA q.nn q.nc] 25)
  have B10 := bh B9 bx
  have Q10 := bh Q9 bx
  have W10 := Y9
  replace N5 := Lib.hid (N5.out.keep Q10.out)
  replace NM := Lib.hid (NM.out.keep Q10.out)
  clear V6 D6 Q6 V7 N7 B7 Q7 V8 N8 M7 B8 Q8 V9 N9 M8 L7 Q9 Q10 bx B6 W6 Y9 B9
  obtain ⟨w10, hw10⟩ : ∃ w10, w9.alloc (.cells #[.slice A7 m7 c7, .slice A8 m8 c8, .slice A9 m9 c9, .slice q.NA q.nn q.nc] 25) = w10 := ⟨_, rfl⟩
  rw [hw10] at VL B10 W10 N5 NM ⊢
  clear hw10
  go_wp2_with fail
  go_loopw [12] (fun i wr => ∃ k : Nat, i = .int .i64 k ∧ k ≤ 4 ∧ Hid (Below w10.heap.size w10 wr)) (fun i _ => 4 - (intOf i).toNat)
  case atStart => exact ⟨0, rfl, Nat.zero_le _, Lib.hid (Below.refl _ _)⟩
  case round =>
    obtain ⟨k, rfl, hk, hB⟩ := hrel
    have BW := bh B10 hB.out
    have WW := Lib.hid (W10.out.keep hB.out)
    by_cases hlt : k < 4
    · have HPV := Lib.hid (HM.out k)
      have q0 := (NM.out.keep hB.out) k hlt
      obtain ⟨A3, m3, d3, q1, hV⟩ := (VL.out.keep hB.out) k hlt
      have KK := Lib.hid (fun w' (hb : Below w.heap.size w w') => (fun hV => KP.out (nmP k) A3 m3 d3 (vlP q k) w' hb hV))
      have NV := Lib.hid hV
      generalize nmP k = nm at *
      generalize vlP q k = V at *
      clear hV
      go_wp2_with fail
      have bd := below_drew wr
      have K := Lib.hid (KK.out wr.drew (bh BW bd).out (NV.out.keep bd))
      have q0d := cell_keep bd q0
      have q1d := cell_keep bd q1
      have Qd := Lib.hid bd
      have hk0 : (0 : Int) ≤ (k : Int) := by omega
      have hk4 : (k : Int) < 4 := by omega
      clear bd KK
      go_region_held3 (fun w' : World => w'.cell? ⟨w5.heap.size, k, none⟩ = some (.string nm) ∧ w'.cell? ⟨w9.heap.size, k, none⟩ = some (.slice A3 m3 d3)) (first | (with_reducible exact ⟨q0e, q1e⟩) | (with_reducible exact ⟨q0d, q1d⟩) | (with_reducible exact ⟨q0, q1⟩)) (first
        | (go_at_call 27; (with_reducible refine K.out.mono ?_); rintro e w11 ⟨A6, m6, c6, f, rfl, hN, b11⟩; have HN := Lib.hid hN; have q0e := cell_keep b11 q0d; have q1e := cell_keep b11 q1d; have Q11 := bh Qd b11))
      have B11 := bh BW Q11.out
      have W11 := Lib.hid (WW.out.keep Q11.out)
      have H11 := bh hB Q11.out
      clear K q0 q1 q0d q1d q0e q1e Qd
      by_cases hf : f = 0
      case neg =>
        rw [errV_ne hf]
        clear hf HN HPV hN
        go_wp2_with fail
        go_roundw
        case rel => exact ⟨k + 1, by go_num, by omega, H11⟩
        case measure => simp [intOf]; omega
      have N11 := Lib.hid (HN.out hf)
      have HEQ := Lib.hid (HPV.out N11.out.2)
      rw [hf, errV_zero]
      obtain ⟨k0, k1, k2, k3, k4, k5, k6⟩ := W11.out
      clear hf HN HPV hN
      go_wp2_with fail
      refine (HVl.out A6 m6 c6 (putN nm V P2) w11 B11.out N11.out.1).mono ?_
      rintro e w12 ⟨A12, m12, c12, rfl, hN, b12⟩
      have N12 := Lib.hid hN
      have B12 := bh B11 b12
      have H12 := bh H11 b12
      have N5' := Lib.hid (N5.out.keep H12.out)
      clear b12 hN k0 k1 k2 k3 k4 k5 k6 W11 N11 B11 H11 Q11
      go_wp2_with fail
      refine (law_alike A5 A12 m5 m12 c5 c12 _ _ w12 HEQ.out.symm N5'.out N12.out (HG.out.keep B12.out)).mono ?_
      rintro e w13 ⟨rfl, b13⟩
      have H13 := bh H12 b13
      clear b13 B12 H12 N12 N5' HEQ
      go_wp2_with fail
      go_roundw
      case rel => exact ⟨k + 1, by go_num, by omega, H13⟩
      case measure => simp [intOf]; omega
    · have e4 : k = 4 := by omega
      subst e4
      go_wp2_with fail
      go_ret
      exact ⟨rfl, BW.out⟩

end Go.Proofs.YtcdpoamiejompaaGreatDoor
namespace Go.Proofs.YtcdpoamiejompaaGreatDoor
open Go Go.ChangeShapes Go.WideShapes
theorem EvalPuts_named : Tryz.prog.funcNamed Rows.evalPutsRow.func = some 10 := by kernel_rfl
theorem EvalPuts_wf : Rows.evalPutsRow.wfByText (OpenSpec.ofChange Rows.evalPutsSpec) = true := by kernel_rfl
theorem EvalPuts_main : Tryz.prog.mainIs = some (Rows.evalPutsCard.stood.harness.1, Rows.evalPutsCard.stood.harness.2.toList) := by kernel_rfl
theorem EvalPuts_looks : true = Tryz.prog.looks [] := by kernel_rfl
theorem EvalPuts_goes : false = Rows.evalPutsRow.goesBy Tryz.prog := by kernel_rfl
theorem EvalPuts_inst : Tryz.f10.isInstance Tryz.prog Rows.evalPutsRow.origin Rows.evalPutsRow.targs := of_decide_eq_true (by kernel_rfl)
theorem EvalPuts_wrap : Tryz.f10.isWrapper Tryz.prog Rows.evalPutsRow.wrapper Rows.evalPutsRow.mainSum := by unfold Func.isWrapper; rw [if_neg (by decide +kernel)]; exact ⟨rfl, rfl⟩
theorem EvalPuts_j1 : (Rows.evalPutsRow.wf (OpenSpec.ofChange Rows.evalPutsSpec)) = true := by kernel_rfl
theorem EvalPuts_j2 : (laidOutB Tryz.prog) = true := by kernel_rfl
theorem EvalPuts_j3 : (mapsRowed Tryz.prog) = true := by kernel_rfl
theorem EvalPuts_j4 : (Tryz.f10.params.all (Tryz.prog.readableRec ·)) = true := by kernel_rfl
theorem EvalPuts_j5 : (namedTie Tryz.prog Rows.evalPutsRow.named Rows.evalPutsSpec.vars) = true := by kernel_rfl
theorem EvalPuts_j6 : ((Rows.evalPutsRow.stops == [])) = true := by kernel_rfl
theorem EvalPuts_j7 : ((Tryz.prog.stops == [])) = true := by kernel_rfl
theorem EvalPuts_j8 : ((Rows.evalPutsRow.knobs == [])) = true := by kernel_rfl
theorem EvalPuts_j9 : ((Tryz.prog.stopKnobs == [])) = true := by kernel_rfl
theorem EvalPuts_j10 : ((Rows.evalPutsRow.inPlace == Tryz.prog.inPlace 10)) = true := by kernel_rfl
theorem EvalPuts_j11 : ((Rows.evalPutsRow.unfollowed == Tryz.prog.unfollowed 10)) = true := by kernel_rfl
theorem EvalPuts_j12 : ((Rows.evalPutsRow.recurses == Tryz.prog.recurses 10)) = true := by kernel_rfl
theorem EvalPuts_j13 : ((Rows.evalPutsRow.named == Tryz.prog.varsNamed 10)) = true := by kernel_rfl
theorem EvalPuts_j14 : ((Rows.evalPutsRow.maps == (Tryz.f10.params.toList ++ Rows.evalPutsSpec.plain.varTypes Tryz.prog).any (Tryz.prog.mapsRec ·))) = true := by kernel_rfl
theorem EvalPuts_j15 : ((Rows.evalPutsRow.ifaces == (Tryz.f10.params.toList ++ Rows.evalPutsSpec.plain.varTypes Tryz.prog).any (Tryz.prog.ifacesRec ·))) = true := by kernel_rfl
theorem EvalPuts_j16 : ((Rows.evalPutsRow.mapsOut == Tryz.prog.mapsAmong Tryz.f10.resultTypes.toList)) = true := by kernel_rfl
theorem EvalPuts_j17 : ((Rows.evalPutsRow.loops == (Tryz.f10.params.toList ++ Rows.evalPutsSpec.plain.varTypes Tryz.prog).any (Tryz.prog.loopsFrom ·))) = true := by kernel_rfl
theorem EvalPuts_j18 : ((Rows.evalPutsRow.wideKeys == (Tryz.f10.params.toList ++ Rows.evalPutsSpec.plain.varTypes Tryz.prog ++ Tryz.f10.resultTypes.toList).any (Tryz.prog.wideKeysFrom ·))) = true := by kernel_rfl
theorem EvalPuts_j19 : (Rows.evalPutsSpec.vars.all (Tryz.prog.varReadable ·)) = true := by kernel_rfl
theorem EvalPuts_j20 : (Tryz.f10.resultTypes.all (fun t => Tryz.prog.readableRec t && decide (t < Tryz.prog.types.size))) = true := by kernel_rfl
theorem EvalPuts_j21 : ((Rows.evalPutsRow.ifacesOut == Tryz.f10.resultTypes.toList.any (Tryz.prog.ifacesRec ·))) = true := by kernel_rfl
theorem EvalPuts_j22 : ((Rows.evalPutsRow.loopsOut == Tryz.f10.resultTypes.toList.any (Tryz.prog.loopsFrom ·))) = true := by kernel_rfl
theorem EvalPuts_j23 : ((Rows.evalPutsRow.plainKeys == Tryz.prog.plainKeys)) = true := by kernel_rfl
theorem EvalPuts_j24 : (Rows.evalPutsRow.shortTexts.isNone) = true := by kernel_rfl
theorem EvalPuts_j25 : (Tryz.prog.stopsHeard) = true := by kernel_rfl
theorem EvalPuts_j26 : (Tryz.prog.mayEnter) = true := by kernel_rfl
theorem EvalPuts_j27 : ((Rows.evalPutsRow.lifted == Tryz.prog.liftsFinal)) = true := by kernel_rfl
theorem EvalPuts_j28 : ((Tryz.prog.make == some Rows.evalPutsRow.make)) = true := by kernel_rfl
theorem EvalPuts_j29 : ((Rows.evalPutsRow.kinds == (if Rows.evalPutsRow.domain.isEmpty then [] else Tryz.f10.params.toList.map fun t => match Tryz.prog.underlying t with | some (.int k) => some k | _ => none))) = true := by kernel_rfl
theorem EvalPuts_j30 : ((Rows.evalPutsRow.pinned == Rows.evalPutsRow.pinnedBy)) = true := by kernel_rfl
theorem EvalPuts_j31 : ((Rows.evalPutsRow.veiled == (Tryz.f10.params.toList ++ Rows.evalPutsSpec.plain.varTypes Tryz.prog ++ Tryz.f10.resultTypes.toList).any (Tryz.prog.veiledRec ·))) = true := by kernel_rfl
theorem EvalPuts_j32 : (Rows.evalPutsRow.veiledFits Tryz.prog Tryz.f10.params.toList (Tryz.f10.params.toList ++ Rows.evalPutsSpec.plain.varTypes Tryz.prog ++ Tryz.f10.resultTypes.toList)) = true := by kernel_rfl
theorem and_two {a b : Bool} (h : a = true) (k : b = true) : (a && b) = true := by rw [h, k]; rfl
set_option maxRecDepth 100000 in
theorem EvalPuts_joined : joinedFacts Tryz.prog 10 Tryz.f10 Rows.evalPutsSpec Rows.evalPutsRow = true := by
  unfold joinedFacts
  exact (and_two (and_two (and_two (and_two (and_two (and_two (and_two (and_two (and_two (and_two (and_two (and_two (and_two (and_two (and_two (and_two (and_two (and_two (and_two (and_two (and_two (and_two (and_two (and_two (and_two (and_two (and_two (and_two (and_two (and_two (and_two EvalPuts_j1 EvalPuts_j2) EvalPuts_j3) EvalPuts_j4) EvalPuts_j5) EvalPuts_j6) EvalPuts_j7) EvalPuts_j8) EvalPuts_j9) EvalPuts_j10) EvalPuts_j11) EvalPuts_j12) EvalPuts_j13) EvalPuts_j14) EvalPuts_j15) EvalPuts_j16) EvalPuts_j17) EvalPuts_j18) EvalPuts_j19) EvalPuts_j20) EvalPuts_j21) EvalPuts_j22) EvalPuts_j23) EvalPuts_j24) EvalPuts_j25) EvalPuts_j26) EvalPuts_j27) EvalPuts_j28) EvalPuts_j29) EvalPuts_j30) EvalPuts_j31) EvalPuts_j32)
end Go.Proofs.YtcdpoamiejompaaGreatDoor
namespace Go.Proofs.YtcdpoamiejompaaGreatDoor
open Go Go.ChangeShapes Go.WideShapes Go.ChangeAt Go.RowKit Go.Wk
open Go.ChangeMaps (open_string)

set_option maxRecDepth 100000 in
theorem EvalPuts_lifted (os : Os) (started : os.Started) (H : Type) (enc : TypeId × Value → H) :
    ReturnsInHanded {} Tryz.checked os 10 .any (fun w args => (Rows.evalPutsSpec.pre enc Tryz.prog Tryz.f10 [] false w args ∧ laidMetH Tryz.prog laidList w) ∧ sizedMet enc Tryz.prog Tryz.f10 (OpenSpec.ofChange Rows.evalPutsSpec) false w args) (Rows.evalPutsSpec.post enc Tryz.prog Tryz.f10 false true false false) := by
  refine returnsInHanded_of_change_and (C := Tryz.checked) (X := fun w _ => laidMetH Tryz.prog laidList w) (fun _ _ _ hh h => h.of_heap hh) own started (by kernel_rfl) Tryz.func10
    (ChangeSpec.witness_at (enc := enc) (C := Tryz.checked) (os := os) (X := fun w _ => laidMetH Tryz.prog laidList w) false (laidWorld os) #[.slice none 0 0, .agg #[.string ⟨#[]⟩, .string ⟨#[]⟩, .string ⟨#[]⟩, .string ⟨#[]⟩, .string ⟨#[]⟩, .string ⟨#[]⟩, .slice none 0 0], .slice none 0 0] 8 rfl (by kernel_rfl) (by kernel_rfl) (by kernel_rfl) (by kernel_rfl) (by kernel_rfl) (laidWorld_met os _)) ?_
  intro W base args ds gs before hval0 hW _ _ hL _
  have hg := handle_of_laid hL
  have hval : ∀ (j : Nat) t v, Tryz.f10.params[j]? = some t → args[j]? = some v → Value.okWide Tryz.prog W .any base t v := hval0
  have hW0 := hW
  obtain ⟨p, q, hA0, _, _, _, _⟩ := hW
  have hA : DataW.TrodAll enc Tryz.prog W 0 (fun _ => true) true Tryz.f10.params.toList args.toList ds p := hA0
  rw [Tryz.params10] at hA hval
  clear hA0 hval0
  obtain ⟨v0, vs0, d0, ds0, p0, q0, hargs, rfl, rfl, h0, r0⟩ := trodAll_cons hA
  obtain ⟨v1, vs1, d1, ds1, p1, q1, rfl, rfl, rfl, h1, r1⟩ := trodAll_cons r0
  obtain ⟨v2, vs2, d2, ds2, p2, q2, rfl, rfl, rfl, h2, r2⟩ := trodAll_cons r1
  obtain ⟨rfl, rfl, rfl⟩ := trodAll_nil r2
  obtain ⟨args⟩ := args
  simp only at hargs
  subst hargs
  obtain ⟨A0, n0, c0, E0, rfl, sx0⟩ := open_ents (hval 0 22 v0 rfl rfl) h0
  obtain ⟨x1, rfl, sx1⟩ := open_request (hval 1 27 v1 rfl rfl) h1
  obtain ⟨A2, n2, c2, P2, rfl, sx2⟩ := open_nodes (hval 2 25 v2 rfl rfl) h2
  refine (EvalPuts_walk A0 n0 c0 E0 x1 A2 n2 c2 P2 W sx0 sx1 sx2 hg).mono fun e W' ⟨he, hb'⟩ => ?_
  subst he
  refine ⟨_, rfl, law_post laidOut (by kernel_rfl) (by rfl) Tryz.underlying4 rfl ?_ hW0 hb'⟩
  intro ds hlen
  rw [Tryz.params10] at hlen
  match ds, hlen with
  | [e0, e1, e2], _ => rfl

theorem EvalPuts_over : Rows.evalPutsRow.holds Tryz.pinned (OpenSpec.ofChange Rows.evalPutsSpec) :=
  OpenClaim.holds_of_wide 10 Tryz.f10 rfl rfl rfl rfl rfl rfl rfl ⟨rfl, rfl, rfl, rfl, rfl⟩ rfl rfl rfl rfl rfl EvalPuts_named Tryz.func10 EvalPuts_joined
    EvalPuts_inst EvalPuts_wrap
    (fun os started H enc _ => EvalPuts_lifted os started H enc)

theorem EvalPuts_holds : Rows.EvalPutsCardSaid :=
  Claim7.holds_tied_plain_at .later [] [.handle] true Rows.evalPutsCard.stood.harness true
    EvalPuts_over (fun _ h => by cases h) EvalPuts_wf (fun _ h => by cases h) evalPuts_row_tie rfl ⟨rfl, rfl⟩ EvalPuts_main rfl
    (fun f fn hf hfn => by
      obtain rfl : f = 10 := Option.some.inj (EvalPuts_named.symm.trans hf) |>.symm
      obtain rfl : fn = Tryz.f10 := (Option.some.inj (Tryz.func10.symm.trans hfn)).symm
      exact ⟨EvalPuts_looks, fun j t ht => by
        rw [Tryz.params10] at ht
        have hm := Array.mem_of_getElem? ht
        simp only [List.mem_toArray, List.mem_cons, List.not_mem_nil, or_false] at hm
        rcases hm with rfl | rfl | rfl
        all_goals exact (show Tryz.prog.wantsStandIn _ = false by kernel_rfl)⟩)
    EvalPuts_goes
#print axioms EvalPuts_holds
end Go.Proofs.YtcdpoamiejompaaGreatDoor
