/-
  What a readable argument is made of: plain facts on its cells, type by type.
-/
import Derived.Test.YtocchkmhnneiiaaBase
namespace Go.Wk
open Go.ChangeShapes Go.WideShapes Go.RowKit

/-- These cells read as data of this type. -/
def Rd (P : Program) (w : World) (t : TypeId) (cs : List Value) : Prop :=
  ∃ (H : Type) (enc : TypeId × Value → H) (base : Nat) (sp : Nat → Bool) (held : Bool) (fuel : Nat) (x : DataW H × List MemPlace), DataW.trod enc P w base sp held fuel t cs = some x

section
variable {P : Program} {w : World} {t : TypeId} {cs : List Value}
theorem rd_of_trod {H : Type} {enc : TypeId × Value → H} {b : Nat} {sp : Nat → Bool} {hd : Bool} {v : Value} {d : DataW H} {ps : List MemPlace} (h : DataW.Trod enc P w b sp hd t v d ps) : Rd P w t v.cells.toList :=
  let ⟨f, hf⟩ := h; ⟨H, enc, b, sp, hd, f, _, hf⟩
theorem rd_string (ht : P.underlying t = some .string) (h : Rd P w t cs) : ∃ s : ByteArray, cs = [.string s] ∧ s.size ≤ maxLen := by
  obtain ⟨H, enc, b, sp, hd, f, x, hx⟩ := h
  obtain ⟨s, h1, _, h2⟩ := DataW.trod_string ht hx
  exact ⟨s, h1, h2⟩
theorem rd_int {k : IntKind} (ht : P.underlying t = some (.int k)) (h : Rd P w t cs) : ∃ n : Int, cs = [.int k n] ∧ (Lit.int k n).wf = true := by
  obtain ⟨H, enc, b, sp, hd, f, x, hx⟩ := h
  obtain ⟨s, h1, _, h2⟩ := DataW.trod_int ht hx
  exact ⟨s, h1, h2⟩
theorem rd_i64 (ht : P.underlying t = some (.int .i64)) (h : Rd P w t cs) : ∃ n : Int, cs = [.int .i64 n] ∧ -9223372036854775808 ≤ n ∧ n ≤ 9223372036854775807 := by
  obtain ⟨n, h1, h2⟩ := rd_int ht h
  refine ⟨n, h1, ?_⟩
  simpa [Lit.wf, IntKind.min, IntKind.max, IntKind.bits, IntKind.signed] using h2
theorem rd_struct {fs : Array Field} (ht : P.underlying t = some (.struct fs)) (h : Rd P w t cs) :
    cs.length = P.cellsOf t ∧ ∀ (i : Nat) (f : Field), fs[i]? = some f → Rd P w f.type ((cs.drop f.offset).take (P.cellsOf f.type)) := by
  obtain ⟨H, enc, b, sp, hd, f, x, hx⟩ := h
  obtain ⟨xs, n, _, _, h1, h2, h3⟩ := DataW.trod_struct ht hx
  refine ⟨h1, fun i f hf => ?_⟩
  have hi : i < xs.length := by rw [h2]; exact (Array.getElem?_eq_some_iff.1 hf).1
  exact ⟨H, enc, b, sp, hd, n, xs[i], (h3 i f hf).trans (List.getElem?_eq_getElem hi)⟩
theorem rd_field {fs : Array Field} (ht : P.underlying t = some (.struct fs)) (h : Rd P w t cs) (i T o n : Nat) (hf : (fs[i]?).map (fun f => (f.type, f.offset)) = some (T, o)) (hn : P.cellsOf T = n) :
    Rd P w T ((cs.drop o).take n) := by
  rcases hi : fs[i]? with _ | f
  · rw [hi] at hf; cases hf
  · rw [hi] at hf
    simp only [Option.map_some, Option.some.injEq, Prod.mk.injEq] at hf
    obtain ⟨rfl, rfl⟩ := hf
    subst hn
    exact (rd_struct ht h).2 i f hi
end
end Go.Wk
namespace Go.Proofs.Ytocchkmhnneiiaa
open Go.Wk Go.ChangeShapes Go.WideShapes Go.RowKit

set_option maxRecDepth 100000
theorem open_i64 {H : Type} {enc : TypeId × Value → H} {w : World} {b b0 : Nat} {sp : Nat → Bool} {hd : Bool} {v : Value} {d : DataW H} {ps : List MemPlace} {r : Reach}
    (hv : Value.okWide Try.prog w r b0 3 v) (h : DataW.Trod enc Try.prog w b sp hd 3 v d ps) :
    ∃ n : Int, v = .int .i64 n ∧ -9223372036854775808 ≤ n ∧ n ≤ 9223372036854775807 := by
  obtain ⟨n, rfl⟩ := okWide_int Try.underlying3 hv
  obtain ⟨m, e, h1, h2⟩ := rd_i64 Try.underlying3 (rd_of_trod h)
  have e' : (Value.int .i64 n) = .int .i64 m := by simpa [Value.cells] using e
  injection e' with _ e'
  subst e'
  exact ⟨n, rfl, h1, h2⟩

theorem cells_string : Try.prog.cellsOf 9 = 1 := by kernel_rfl
end Go.Proofs.Ytocchkmhnneiiaa
