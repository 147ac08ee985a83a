/-
  Uids in a row of the call's own: their cells.
-/
import Derived.Test.YtbjbimabgfpdoaaGreatUidMap
namespace Go.Proofs.YtbjbimabgfpdoaaGreat
open Go.RowKit Go.Wk
set_option maxRecDepth 100000

def udCells : List Ud → List Value
  | [] => []
  | u :: U => .string u.1 :: .string u.2 :: udCells U
@[simp] theorem udCells_length (U : List Ud) : (udCells U).length = U.length * 2 := by
  induction U with
  | nil => rfl
  | cons u U ih => simp only [udCells, List.length_cons, ih]; omega
theorem udCells_append (U V : List Ud) : udCells (U ++ V) = udCells U ++ udCells V := by
  induction U with
  | nil => rfl
  | cons u U ih => simp only [List.cons_append, udCells, ih]
theorem udCells_one (U : List Ud) : ∀ v ∈ udCells U, v.oneCell' = true := by
  induction U with
  | nil => intro v hv; cases hv
  | cons u U ih =>
    intro v hv
    simp only [udCells, List.mem_cons] at hv
    rcases hv with rfl | rfl | hv
    · rfl
    · rfl
    · exact ih v hv
theorem uds_cells {w : World} {a : Addr} {P : List Ud} (h : ∀ j u, (udCells P)[j]? = some u → w.cell? (a.add j) = some u) : UdsAt w (some a) P := by
  have key : ∀ (P : List Ud) (k : Nat) (x : Ud), P[k]? = some x → (udCells P)[k * 2]? = some (.string x.1) ∧ (udCells P)[k * 2 + 1]? = some (.string x.2) := by
    intro P
    induction P with
    | nil => intro k x hx; simp at hx
    | cons y P ih =>
      intro k x hx
      cases k with
      | zero => simp at hx; subst hx; exact ⟨rfl, rfl⟩
      | succ k =>
        have := ih k x (by simpa using hx)
        rw [show (k + 1) * 2 = k * 2 + 1 + 1 by omega]
        simpa [udCells] using this
  intro k x hx
  obtain ⟨h1, h2⟩ := key P k x hx
  refine ⟨a, rfl, h _ _ h1, ?_⟩
  have := h _ _ h2
  rw [← add_add] at this
  unfold Addr.add at this ⊢
  simpa using this
theorem us_of_own {w : World} {B : Nat} {v : Value} {P : List Ud} (h : w.ownsRow B 24 2 v P.length (udCells P)) (hP : ∀ x ∈ P, UOk x) (hl : P.length ≤ 1000000) : ∃ A c, v = .slice A P.length c ∧ Us w A P.length c P := by
  rcases h.2 with ⟨rfl, h0⟩ | ⟨g, cap, cur, rfl, hB, _, hc, _⟩
  · have : P = [] := List.eq_nil_of_length_eq_zero h0
    subst this
    exact ⟨none, 0, rfl, rfl, Nat.le_refl _, Nat.zero_le _, fun k x hx => by simp at hx, fun x hx => nomatch hx⟩
  · exact ⟨some ⟨g, 0, none⟩, cap, rfl, rfl, hc, by unfold maxLen; omega, uds_cells (h.cells (g := g) rfl), hP⟩
theorem udInfo : (Tryz.prog.info? 24).map (fun i => (i.zero, i.size, i.bytes)) = some (some (.agg #[.string ⟨#[]⟩, .string ⟨#[]⟩]), 2, 32) := by kernel_rfl
end Go.Proofs.YtbjbimabgfpdoaaGreat
