/-
  Entities in a row of the call's own: their cells.
-/
import Derived.Test.YtbjbimabgfpdoaaGreatEntIn
import Derived.Laws.AppendOwnNone
namespace Go.Proofs.YtbjbimabgfpdoaaGreat
open Go.RowKit Go.Wk
set_option maxRecDepth 100000

def enCells : List En → List Value
  | [] => []
  | x :: E => .string x.u.1 :: .string x.u.2 :: .slice x.UA x.un x.uc :: .slice x.NA x.nn x.nc :: enCells E
@[simp] theorem enCells_length (E : List En) : (enCells E).length = E.length * 4 := by
  induction E with
  | nil => rfl
  | cons x E ih => simp only [enCells, List.length_cons, ih]; omega
theorem enCells_append (U V : List En) : enCells (U ++ V) = enCells U ++ enCells V := by
  induction U with
  | nil => rfl
  | cons u U ih => simp only [List.cons_append, enCells, ih]
theorem enCells_one (E : List En) : ∀ v ∈ enCells E, v.oneCell' = true := by
  induction E with
  | nil => intro v hv; cases hv
  | cons u U ih =>
    intro v hv
    simp only [enCells, List.mem_cons] at hv
    rcases hv with rfl | rfl | rfl | rfl | hv
    · rfl
    · rfl
    · rfl
    · rfl
    · exact ih v hv
theorem enCells_at : ∀ (E : List En) (k : Nat) (x : En), E[k]? = some x → (enCells E)[k * 4]? = some (.string x.u.1) ∧ (enCells E)[k * 4 + 1]? = some (.string x.u.2) ∧ (enCells E)[k * 4 + 2]? = some (.slice x.UA x.un x.uc) ∧ (enCells E)[k * 4 + 3]? = some (.slice x.NA x.nn x.nc)
  | [], k, x, h => by simp at h
  | y :: E, 0, x, h => by
    simp at h; subst h; exact ⟨rfl, rfl, rfl, rfl⟩
  | y :: E, k + 1, x, h => by
    have := enCells_at E k x (by simpa using h)
    rw [show (k + 1) * 4 = k * 4 + 1 + 1 + 1 + 1 by omega]
    simpa [enCells] using this
theorem nx_add (a : Addr) (x d : Nat) (hd : 0 < d) : (⟨(a.add x).block, (a.add x).off + d, none⟩ : Addr) = a.add (x + d) := by
  unfold Addr.add
  by_cases hx : x = 0
  · subst hx; simp; omega
  · simp [hx, Nat.add_assoc]
theorem EnsAt.cells {w : World} {a : Addr} {E : List En} (h : EnsAt w (some a) E) : ∀ j u, (enCells E)[j]? = some u → w.cell? (a.add j) = some u := by
  intro j u hu
  have hl := enCells_length E
  have hj : j < (enCells E).length := (List.getElem?_eq_some_iff.1 hu).1
  have hk : j / 4 < E.length := by omega
  obtain ⟨h1, h2, h3, h4⟩ := enCells_at E (j / 4) E[j / 4] (List.getElem?_eq_getElem hk)
  obtain ⟨b, e, q1, q2, q3, q4, -⟩ := h (j / 4) E[j / 4] (List.getElem?_eq_getElem hk)
  injection e with e
  subst e
  have hr : j % 4 = 0 ∨ j % 4 = 1 ∨ j % 4 = 2 ∨ j % 4 = 3 := by omega
  rcases hr with hr | hr | hr | hr
  · have e : j = j / 4 * 4 := by omega
    rw [← e] at h1 q1
    rw [hu] at h1; rw [h1]; exact q1
  · have e : j = j / 4 * 4 + 1 := by omega
    rw [nx_add _ _ _ (by omega), ← e] at q2
    rw [← e] at h2
    rw [hu] at h2; rw [h2]; exact q2
  · have e : j = j / 4 * 4 + 2 := by omega
    rw [nx_add _ _ _ (by omega), ← e] at q3
    rw [← e] at h3
    rw [hu] at h3; rw [h3]; exact q3
  · have e : j = j / 4 * 4 + 3 := by omega
    rw [nx_add _ _ _ (by omega), ← e] at q4
    rw [← e] at h4
    rw [hu] at h4; rw [h4]; exact q4
theorem ens_of_cells {w : World} {a : Addr} {E : List En} (h : ∀ j u, (enCells E)[j]? = some u → w.cell? (a.add j) = some u) (hE : ∀ x ∈ E, EnOk w x) : EnsAt w (some a) E := by
  intro k x hx
  obtain ⟨h1, h2, h3, h4⟩ := enCells_at E k x hx
  refine ⟨a, rfl, h _ _ h1, ?_, ?_, ?_, hE x (List.mem_of_getElem? hx)⟩
  · rw [nx_add _ _ _ (by omega)]; exact h _ _ h2
  · rw [nx_add _ _ _ (by omega)]; exact h _ _ h3
  · rw [nx_add _ _ _ (by omega)]; exact h _ _ h4
theorem enInfo : (Tryz.prog.info? 33).map (fun i => (i.zero, i.size, i.bytes)) = some (some (.agg #[.string ⟨#[]⟩, .string ⟨#[]⟩, .slice none 0 0, .slice none 0 0]), 4, 80) := by kernel_rfl
theorem es_of_own {w : World} {B n : Nat} {v : Value} {E : List En} (h : w.ownsRow B 33 4 v n (enCells E)) (hn : n = E.length) (hE : ∀ x ∈ E, EnOk w x) (hl : n ≤ maxLen) : ∃ A c, v = .slice A n c ∧ Es w A n c E := by
  rcases h.2 with ⟨rfl, h0⟩ | ⟨g, cap, cur, rfl, hB, _, hc, _⟩
  · have : E = [] := List.eq_nil_of_length_eq_zero (by omega)
    subst this
    subst h0
    exact ⟨none, 0, rfl, rfl, Nat.le_refl _, Nat.zero_le _, fun k x hx => by simp at hx⟩
  · exact ⟨some ⟨g, 0, none⟩, cap, rfl, hn, hc, hl, ens_of_cells (h.cells (g := g) rfl) hE⟩
end Go.Proofs.YtbjbimabgfpdoaaGreat
