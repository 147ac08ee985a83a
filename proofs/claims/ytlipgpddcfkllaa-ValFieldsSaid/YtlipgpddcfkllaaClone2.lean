/-
  slices.Clone of slices of nodes: the same slices in a row of the call's own.
-/
import Derived.Test.YtlipgpddcfkllaaSls
namespace Go.Proofs.Ytlipgpddcfkllaa
open Go.RowKit Go.Wk Go.Sort
set_option maxRecDepth 100000

theorem SlsAt.cells {w : World} {a : Addr} {V : List Sl} (h : SlsAt w (some a) V) : ∀ j u, (V.map Sl.v)[j]? = some u → w.cell? (a.add j) = some u := by
  intro j u hu
  rw [List.getElem?_map] at hu
  rcases hv : V[j]? with _ | r
  · rw [hv] at hu; cases hu
  · rw [hv] at hu
    simp only [Option.map_some, Option.some.injEq] at hu
    subst hu
    obtain ⟨b, e, q, -⟩ := h j r hv
    injection e with e
    subst e
    exact q
def Clone2Post (w : World) (V : List Sl) (e : Ending) (w' : World) : Prop := ∃ v, e = .returned v ∧ OwnSls w' w.heap.size v V ∧ Below w.heap.size w w'
end Go.Proofs.Ytlipgpddcfkllaa
