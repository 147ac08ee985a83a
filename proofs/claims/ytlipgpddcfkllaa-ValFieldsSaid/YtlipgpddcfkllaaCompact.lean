/-
  slices.CompactFunc over slices of nodes, with val.SetOf's function: without what is as the one before it.
-/
import Derived.Test.YtlipgpddcfkllaaSort
import Derived.Test.YtlipgpddcfkllaaCompactLaw
namespace Go.Proofs.Ytlipgpddcfkllaa
open Go.RowKit Go.Wk Go.Sort
set_option maxRecDepth 100000

/-- The row while it is compacted: what is kept, then what was not yet looked at. -/
def CRow (w : World) (g cap : Nat) (V Y : List Sl) (m : Nat) : Prop :=
  ∃ cur, w.heap[g]? = some (.cells cur 35 (0, 0)) ∧ cur.size = cap ∧ (∀ j (h : j < Y.length), cur[j]? = some Y[j].v) ∧ ∀ j (h : j < V.length), m ≤ j → cur[j]? = some V[j].v
theorem CRow.keep {w w' : World} {g cap m : Nat} {V Y : List Sl} (h : CRow w g cap V Y m) (hb : Below w.heap.size w w') : CRow w' g cap V Y m := by
  obtain ⟨cur, h1, h2⟩ := h
  exact ⟨cur, by rw [(grown_of_below hb none).block g (Array.getElem?_eq_some_iff.1 h1).1 (by simp)]; exact h1, h2⟩
theorem CRow.cell {w : World} {g cap m : Nat} {V Y : List Sl} (h : CRow w g cap V Y m) {j : Nat} (hj : j < V.length) (hm : m ≤ j) : w.cell? ⟨g, j, none⟩ = some V[j].v ∧ w.frozen? ⟨g, j, none⟩ = false := by
  obtain ⟨cur, h1, -, -, h4⟩ := h
  exact ⟨by simp [World.cell?, h1, h4 j hj hm], by simp [World.frozen?, h1]⟩
theorem CRow.skip {w : World} {g cap m : Nat} {V Y : List Sl} (h : CRow w g cap V Y m) : CRow w g cap V Y (m + 1) := by
  obtain ⟨cur, h1, h2, h3, h4⟩ := h
  exact ⟨cur, h1, h2, h3, fun j hj hm => h4 j hj (by omega)⟩
theorem CRow.put {w : World} {g cap m : Nat} {V Y : List Sl} (h : CRow w g cap V Y m) (r : Sl) (hY : Y.length ≤ m) (hc : Y.length < cap) : CRow (w.setCell ⟨g, Y.length, none⟩ r.v) g cap V (Y ++ [r]) (m + 1) := by
  obtain ⟨cur, h1, h2, h3, h4⟩ := h
  refine ⟨cur.setIfInBounds Y.length r.v, ?_, by simpa using h2, fun j hj => ?_, fun j hj hm => ?_⟩
  · rw [setCell_eq]
    simp [mapBlock, Array.getElem?_modify, h1, onCells]
  · by_cases e : j = Y.length
    · subst e
      simp [show Y.length < cur.size by omega]
    · have : j < Y.length := by simp at hj; omega
      rw [Array.getElem?_setIfInBounds_ne (by omega), h3 j this]
      simp [List.getElem_append_left this]
  · rw [Array.getElem?_setIfInBounds_ne (by omega)]
    exact h4 j hj (by omega)
theorem CRow.clear {g cap : Nat} {Y : List Sl} : ∀ (vs : List Value) (o : Nat) (w : World), CRow w g cap [] Y 0 → Y.length ≤ o → CRow (w.setCells g o vs) g cap [] Y 0
  | [], _, _, h, _ => h
  | v :: r, o, w, h, ho => by
    refine CRow.clear r (o + 1) _ ?_ (by omega)
    obtain ⟨cur, h1, h2, h3, -⟩ := h
    refine ⟨cur.setIfInBounds o v, ?_, by simpa using h2, fun j hj => ?_, fun j hj => by simp at hj⟩
    · rw [setCell_eq]
      simp [mapBlock, Array.getElem?_modify, h1, onCells]
    · rw [Array.getElem?_setIfInBounds_ne (by omega)]
      exact h3 j hj
theorem grown_set (w : World) (g o : Nat) (v : Value) : w.grownBy (w.setCell ⟨g, o, none⟩ v) (some g) := by
  rw [setCell_eq]
  refine ⟨rfl, rfl, rfl, by simp [mapBlock], fun k hk hne => ?_⟩
  have : g ≠ k := fun e => hne (by rw [e])
  simp [mapBlock, Array.getElem?_modify, this]
theorem grown_sets (g : Nat) : ∀ (vs : List Value) (o : Nat) (w : World), w.grownBy (w.setCells g o vs) (some g)
  | [], _, w => World.grownBy.refl w _
  | v :: r, o, w => (grown_set w g o v).trans (grown_sets g r (o + 1) _)
/-- The row, cut to what is kept, is the call's own. -/
theorem CRow.own {w w' : World} {B g cap m n : Nat} {V Y U : List Sl} (h : OwnSls w B (.slice (some ⟨g, 0, none⟩) n cap) V) (hc : CRow w' g cap U Y m) (hg : w.grownBy w' (some g)) (hY : ∀ x ∈ Y, x ∈ V) (hl : Y.length ≤ n) : OwnSls w' B (.slice (some ⟨g, 0, none⟩) Y.length cap) Y := by
  obtain ⟨cur, c1, c2, c3, -⟩ := hc
  rcases h.own.2 with ⟨e0, -⟩ | ⟨g', cap', cur', e0, hBg, hh, h1, h2, h3, h4⟩
  · cases e0
  injection e0 with e1 _ e2
  injection e1 with e1
  injection e1 with e1
  subst e1 e2
  refine ⟨⟨by simp, .inr ⟨g, cap, cur, rfl, hBg, c1, by have := h.own.1; omega, h2, by simpa using c2, ?_⟩⟩, fun r hr => (h.each r (hY r hr)).row hg (h.apart r (hY r hr)), fun r hr => h.apart r (hY r hr)⟩
  apply List.ext_getElem?
  intro j
  by_cases hj : j < Y.length
  · rw [List.getElem?_take_of_lt (by omega), Array.getElem?_toList, c3 j hj]
    simp [hj]
  · rw [List.getElem?_take_eq_none (by omega), List.getElem?_eq_none (by simp; omega)]
theorem crow_of {w : World} {B g cap : Nat} {V : List Sl} (h : OwnSls w B (.slice (some ⟨g, 0, none⟩) V.length cap) V) : CRow w g cap V [] 0 ∧ V.length ≤ cap := by
  rcases h.own.2 with ⟨e0, -⟩ | ⟨g', cap', cur, e0, hBg, hh, h1, h2, h3, h4⟩
  · cases e0
  injection e0 with e1 _ e2
  injection e1 with e1
  injection e1 with e1
  subst e1 e2
  refine ⟨⟨cur, hh, by simpa using h3, fun j hj => by simp at hj, fun j hj _ => ?_⟩, h1⟩
  have e : (cur.toList.take (V.length * 1))[j]? = (V.map Sl.v)[j]? := by rw [h4]
  rw [List.getElem?_take_of_lt (by omega), Array.getElem?_toList] at e
  rw [e]; simp [hj]
theorem CRow.take {w : World} {g cap : Nat} {V : List Sl} (h : CRow w g cap V [] 0) (k : Nat) : CRow w g cap V (V.take k) k := by
  obtain ⟨cur, h1, h2, h3, h4⟩ := h
  refine ⟨cur, h1, h2, fun j hj => ?_, fun j hj _ => h4 j hj (Nat.zero_le _)⟩
  have hj' : j < V.length := by simp at hj; omega
  rw [h4 j hj' (Nat.zero_le _), List.getElem_take]
theorem CRow.forget {w : World} {g cap m : Nat} {V Y : List Sl} (h : CRow w g cap V Y m) : CRow w g cap [] Y 0 := by
  obtain ⟨cur, h1, h2, h3, h4⟩ := h
  exact ⟨cur, h1, h2, h3, fun j hj => by simp at hj⟩
theorem CRow.there {w : World} {g cap m : Nat} {V Y : List Sl} (h : CRow w g cap V Y m) {j : Nat} (hj : j < cap) : (∃ v, w.cell? ⟨g, j, none⟩ = some v) ∧ w.frozen? ⟨g, j, none⟩ = false := by
  obtain ⟨cur, h1, h2, -, -⟩ := h
  exact ⟨⟨cur[j]'(by omega), by simp [World.cell?, h1, show j < cur.size by omega]⟩, by simp [World.frozen?, h1]⟩
theorem zero_sl (w : World) : (zeroValue 35).run Try.prog w = .ok (.slice none 0 0) w := by kernel_rfl
theorem goL_start {V : List Sl} {p : Sl} {k : Nat} (h : k < V.length) (h0 : cmpNds V[k].P p.P = 0) (he : compactL V = V.take k ++ goL p (V.drop k)) : compactL V = V.take k ++ goL V[k] (V.drop (k + 1)) := by
  rw [he, goL_eq h h0]
end Go.Proofs.Ytlipgpddcfkllaa
