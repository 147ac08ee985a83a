/-
  Aids of later walks: a node's four cells; contracts that end in Below, met in a region that draws.
-/
import Derived.Test.YtocchkmhnneiiaaCompare
namespace Go.Proofs.Ytocchkmhnneiiaa
open Go.RowKit Go.Wk Go.Sort

/-- A contract that ends in Below, in every world of a region that draws. -/
theorem rq {P : Program} {f : FuncId} {args : Array Value} {w : World} {v : Value} (h : ∀ w', Below w.heap.size w w' → Calls P f args w' fun e w'' => e = .returned v ∧ Below w'.heap.size w' w'') :
    ∀ d os, Calls P f args (grow (redrawn w d) os) fun e w'' => e = .returned v ∧ ∃ p : Regrown, w'' = grow (redrawn w p.d) p.os :=
  fun d os => Calls.regrown_of (h _ (below_regrown w d os))
/-- One that leaves all as it was. -/
theorem rqs {P : Program} {f : FuncId} {args : Array Value} {w : World} {v : Value} (h : ∀ w', Calls P f args w' fun e w'' => e = .returned v ∧ w' = w'') :
    ∀ d os, Calls P f args (grow (redrawn w d) os) fun e w'' => e = .returned v ∧ ∃ p : Regrown, w'' = grow (redrawn w p.d) p.os :=
  fun d os => (h _).mono fun _ _ ⟨he, hw⟩ => ⟨he, ⟨⟨d, os⟩, hw.symm⟩⟩

/-- A node's cells. -/
structure Nd4 (w : World) (a : Addr) (x : Nd) : Prop where
  c0 : w.cell? a = some (.int .i64 x.op)
  c1 : w.cell? ⟨a.block, a.off + 1, none⟩ = some (.int .i64 x.n)
  c2 : w.cell? ⟨a.block, a.off + 2, none⟩ = some (.string x.s)
  c3 : w.cell? ⟨a.block, a.off + 3, none⟩ = some (.string x.t)
theorem Nd4.keep {w w' : World} {a : Addr} {x : Nd} (h : Nd4 w a x) (hb : Below w.heap.size w w') : Nd4 w' a x :=
  ⟨cell_keep hb h.c0, cell_keep hb h.c1, cell_keep hb h.c2, cell_keep hb h.c3⟩
theorem NdsAt.nd {w : World} {A : Option Addr} {P : List Nd} (h : NdsAt w A P) {k : Nat} (hk : k < P.length) : ∃ a, A = some a ∧ Nd4 w (a.add (k * 4)) P[k] :=
  let ⟨a, e, h1, h2, h3, h4⟩ := h k P[k] (List.getElem?_eq_getElem hk); ⟨a, e, h1, h2, h3, h4⟩
theorem NdsOk.seg {P : List Nd} (h : NdsOk P) (i j : Nat) : NdsOk (seg P i j) := fun x hx => h x (List.mem_of_mem_drop (List.mem_of_mem_take hx))
end Go.Proofs.Ytocchkmhnneiiaa
