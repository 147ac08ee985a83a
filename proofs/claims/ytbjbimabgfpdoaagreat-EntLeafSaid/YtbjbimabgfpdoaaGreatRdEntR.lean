/-
  Slices of entities that come in, and how many there can be; an entity that comes in.
-/
import Derived.Test.YtbjbimabgfpdoaaGreatRdEnts
import Derived.Test.YtbjbimabgfpdoaaGreatRdSls
namespace Go.Proofs.YtbjbimabgfpdoaaGreat
open Go.Wk Go.ChangeShapes Go.WideShapes Go.RowKit Go.Deep
set_option maxRecDepth 100000

theorem bytes_ent : Tryz.prog.bytesOf 33 = 80 := by kernel_rfl
theorem open_ent {H : Type} {enc : TypeId × Value → H} {w : World} {b b0 : Nat} {sp : Nat → Bool} {hd : Bool} {v : Value} {d : DataW H} {ps : List MemPlace} {r : Reach}
    (hv : Value.okWide Tryz.prog w r b0 33 v) (h : DataW.Trod enc Tryz.prog w b sp hd 33 v d ps) : ∃ x : En, v = x.v ∧ EnOk w x := by
  obtain ⟨cs, rfl, _⟩ := okWide_struct Tryz.underlying33 hv
  obtain ⟨x, e, h1⟩ := rd_ent (rd_of_trod h)
  refine ⟨x, ?_, h1⟩
  obtain ⟨l⟩ := cs
  simp only [Value.cells] at e
  unfold En.v
  rw [e]
theorem nil_or {H : Type} {enc : TypeId × Value → H} {w : World} {b : Nat} {sp : Nat → Bool} {hd : Bool} {d : DataW H} {ps : List MemPlace} {A : Option Addr} {n c : Nat} {t e : TypeId}
    (ht : Tryz.prog.underlying t = some (.slice e)) (h : DataW.Trod enc Tryz.prog w b sp hd t (.slice A n c) d ps) : A = none → n = 0 ∧ c = 0 := by
  rintro rfl
  obtain ⟨f, hf⟩ := h
  rcases open_slice ht hf with ⟨h0, _⟩ | ⟨a, len, cap, m, n, D, Pl, hcs, _⟩
  · simpa [Value.cells] using h0
  · simp [Value.cells] at hcs
theorem open_entsR {H : Type} {enc : TypeId × Value → H} {w : World} {b b0 : Nat} {sp : Nat → Bool} {hd : Bool} {v : Value} {d : DataW H} {ps : List MemPlace} {r : Reach}
    (hv : Value.okWide Tryz.prog w r b0 22 v) (h : DataW.Trod enc Tryz.prog w b sp hd 22 v d ps) :
    ∃ (A : Option Addr) (n c : Nat) (E : List En), v = .slice A n c ∧ Es w A n c E ∧ (A = none → n = 0 ∧ c = 0) ∧ (n = 0 ∨ ∃ elems spare, d = .slice elems spare ∧ elems.length = n) := by
  obtain ⟨A, n, c, E, rfl, h1⟩ := open_ents hv h
  obtain ⟨A', n', c', e, _, _, h3, _⟩ := trod_slice_at Tryz.underlying22 h
  have e' : (Value.slice A n c) = .slice A' n' c' := by simpa [Value.cells] using e
  injection e' with e1 e2 e3
  subst e2
  exact ⟨A, n, c, E, rfl, h1, nil_or Tryz.underlying22 h, h3⟩
end Go.Proofs.YtbjbimabgfpdoaaGreat
