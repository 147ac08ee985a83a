/-
  EntOrder: to be one, or below it, is an order. The walk of the law.
-/
import Derived.Test.YtbjbimabgfpdoaaGreatEntFact
namespace Go.Proofs.YtbjbimabgfpdoaaGreat
open Go.RowKit Go.Wk
set_option maxRecDepth 100000

theorem abv_src {G : List (Ud × List Ud)} {u q : Ud} (h : Abv G u q) : ∃ e ∈ G, e.1 = u := by
  cases h with
  | one s => obtain ⟨e, he, h1, _⟩ := s; exact ⟨e, he, h1⟩
  | more s _ => obtain ⟨e, he, h1, _⟩ := s; exact ⟨e, he, h1⟩
theorem in_refl {E : List En} (h : storeF E = 0) (a : Ud) : inB E a a = true := inB_true h (.inl rfl)
theorem in_iff {E : List En} (h : storeF E = 0) {a b : Ud} : inB E a b = true ↔ b = a ∨ Abv (graphE E) a b := by
  constructor
  · intro hb
    by_cases hc : b = a ∨ Abv (graphE E) a b
    · exact hc
    · rw [inB_false hc] at hb; cases hb
  · exact inB_true h
theorem in_anti {E : List En} (h : storeF E = 0) {a b : Ud} (h1 : inB E a b = true) (h2 : inB E b a = true) : a = b := by
  rcases (in_iff h).1 h1 with e | h1
  · exact e.symm
  · rcases (in_iff h).1 h2 with e | h2
    · exact e
    · have hc := h1.trans h2
      obtain ⟨e, he, h3⟩ := abv_src hc
      obtain ⟨x, hx, rfl⟩ := List.mem_map.1 he
      subst h3
      exact absurd hc ((store_ok h).2.2 x hx)
theorem in_trans {E : List En} (h : storeF E = 0) {a b c : Ud} (h1 : inB E a b = true) (h2 : inB E b c = true) : inB E a c = true := by
  rcases (in_iff h).1 h1 with rfl | h1
  · exact h2
  · rcases (in_iff h).1 h2 with rfl | h2
    · exact (in_iff h).2 (.inr h1)
    · exact (in_iff h).2 (.inr (h1.trans h2))

/-- Three uids, boxed one behind the other. -/
structure Tri (n : Nat) (a b c d e f : ByteArray) (w : World) : Prop where
  p1 : w.cell? ⟨n, 0, none⟩ = some (.string a)
  p2 : w.cell? ⟨n, 1, none⟩ = some (.string b)
  p3 : w.cell? ⟨n + 1, 0, none⟩ = some (.string c)
  p4 : w.cell? ⟨n + 1, 1, none⟩ = some (.string d)
  p5 : w.cell? ⟨n + 1 + 1, 0, none⟩ = some (.string e)
  p6 : w.cell? ⟨n + 1 + 1, 1, none⟩ = some (.string f)
theorem Tri.keep {n : Nat} {a b c d e f : ByteArray} {w w' : World} (h : Tri n a b c d e f w) (hb : Below w.heap.size w w') : Tri n a b c d e f w' :=
  ⟨cell_keep hb h.1, cell_keep hb h.2, cell_keep hb h.3, cell_keep hb h.4, cell_keep hb h.5, cell_keep hb h.6⟩
theorem in_law {E : List En} (h : storeF E = 0) (a b c : Ud) : (!(inB E a b && inB E b a) || decide (a = b)) = true ∧ (!(inB E a b && inB E b c) || inB E a c) = true := by
  refine ⟨?_, ?_⟩
  · rcases h1 : inB E a b with _ | _
    · rfl
    · rcases h2 : inB E b a with _ | _
      · rfl
      · simp [in_anti h h1 h2]
  · rcases h1 : inB E a b with _ | _
    · rfl
    · rcases h2 : inB E b c with _ | _
      · rfl
      · simp [in_trans h h1 h2]
end Go.Proofs.YtbjbimabgfpdoaaGreat
