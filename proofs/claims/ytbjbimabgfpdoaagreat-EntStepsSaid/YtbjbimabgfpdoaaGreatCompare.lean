/-
  val.first, val.Compare.
-/
import Derived.Test.YtbjbimabgfpdoaaGreatCheck
namespace Go.Wk
def cmpE (P Q : List Nd) : Int := or2 (valFault P) (valFault Q)
def cmpV (P Q : List Nd) : Int := if cmpE P Q = 0 then cmpNds P Q else 0
end Go.Wk
namespace Go.Proofs.YtbjbimabgfpdoaaGreat
open Go.RowKit Go.Wk Go.Sort
set_option maxRecDepth 100000

theorem errV_ways (x : Int) : (x = 0 ∧ errV x = .nilIface) ∨ (x ≠ 0 ∧ errV x = .iface 50 (.int .i64 x)) := by
  by_cases h : x = 0
  · exact .inl ⟨h, by rw [h]; rfl⟩
  · exact .inr ⟨h, errV_ne h⟩
theorem cmpNd_eq {x y : Nd} (h : x = y) : cmpNd x y = 0 := (cmpNd_cmp.zero x y).2 h
theorem nd_neq {x y : Nd} (h : x ≠ y) (w : World) : (binOp .neq 42 (.agg #[.int .i64 x.op, .int .i64 x.n, .string x.s, .string x.t]) (.agg #[.int .i64 y.op, .int .i64 y.n, .string y.s, .string y.t])).run Tryz.prog w = .ok (.bool true) w := by
  simp [go_sem]
  exact fun h1 h2 h3 h4 => h (Nd.ext4 h1 h2 (toList_inj h3) (toList_inj h4))
theorem cmpNds_zero_at {P Q : List Nd} {k : Nat} (h1 : k < P.length) (h2 : k < Q.length) (h : P[k] ≠ Q[k]) (hc : cmpNds P Q = cmpNds (P.drop k) (Q.drop k)) : cmpNds P Q ≠ 0 := by
  rw [hc, cmpNds_at h1 h2, or2_ne (fun e => h ((cmpNd_cmp.zero _ _).1 e))]
  exact fun e => h ((cmpNd_cmp.zero _ _).1 e)
def ndCells : List Nd → List Value
  | [] => []
  | x :: r => .int .i64 x.op :: .int .i64 x.n :: .string x.s :: .string x.t :: ndCells r
theorem ndCells_append (P Q : List Nd) : ndCells (P ++ Q) = ndCells P ++ ndCells Q := by
  induction P with
  | nil => rfl
  | cons x P ih => simp [ndCells, ih]
theorem ndCells_length (P : List Nd) : (ndCells P).length = P.length * 4 := by
  induction P with
  | nil => rfl
  | cons x P ih => simp only [ndCells, List.length_cons, ih]; omega
theorem ndCells_at (P : List Nd) (k : Nat) (x : Nd) (h : P[k]? = some x) : (ndCells P)[k * 4]? = some (.int .i64 x.op) ∧ (ndCells P)[k * 4 + 1]? = some (.int .i64 x.n) ∧ (ndCells P)[k * 4 + 2]? = some (.string x.s) ∧ (ndCells P)[k * 4 + 3]? = some (.string x.t) := by
  induction P generalizing k with
  | nil => simp at h
  | cons y P ih =>
    cases k with
    | zero => simp only [List.getElem?_cons_zero, Option.some.injEq] at h; subst h; exact ⟨rfl, rfl, rfl, rfl⟩
    | succ k =>
      have := ih k (by simpa using h)
      rw [show (k + 1) * 4 = k * 4 + 1 + 1 + 1 + 1 by omega]
      simp only [ndCells, List.getElem?_cons_succ]
      exact this
theorem addr_add (g o k : Nat) : (⟨g, o, none⟩ : Addr).add k = ⟨g, o + k, none⟩ := by
  unfold Addr.add; split
  · rename_i h0; subst h0; rfl
  · simp
/-- Cells that are those of nodes. -/
theorem nds_of_cells {w : World} {b o : Nat} {P : List Nd} (h : ∀ (j : Nat) u, (ndCells P)[j]? = some u → w.cell? ((⟨b, o, none⟩ : Addr).add j) = some u) : NdsAt w (some ⟨b, o, none⟩) P := by
  intro k x hx
  obtain ⟨h1, h2, h3, h4⟩ := ndCells_at P k x hx
  have g1 := h _ _ h1
  have g2 := h _ _ h2
  have g3 := h _ _ h3
  have g4 := h _ _ h4
  simp only [addr_add] at g1 g2 g3 g4
  exact ⟨_, rfl, by simp only [addr_add]; exact g1, by simp only [addr_add]; exact g2, by simp only [addr_add]; exact g3, by simp only [addr_add]; exact g4⟩
theorem nds_new (w : World) (P : List Nd) (t : TypeId) : NdsAt (w.alloc (.cells (ndCells P).toArray t)) (some ⟨w.heap.size, 0, none⟩) P := nds_of_cells (cells_new w _ t)
end Go.Proofs.YtbjbimabgfpdoaaGreat
