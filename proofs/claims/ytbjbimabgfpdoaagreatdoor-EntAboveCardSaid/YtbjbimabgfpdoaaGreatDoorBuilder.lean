/-
  strings.Builder: WriteByte, WriteString, String: the library's contracts, laid.
-/
import Derived.Test.YtbjbimabgfpdoaaGreatDoorProg
import Derived.Shelf.Strings.Builder1
import Derived.Shelf.Strings.BuilderK
import Derived.Shelf.Strings.BuilderCap
import Derived.Shelf.Lay
namespace Go.Proofs.YtbjbimabgfpdoaaGreatDoor
open Go.RowKit Go.Shelf
set_option maxRecDepth 100000

/-- Block b is a builder that holds these bytes. -/
def Bld (B b : Nat) (l : List UInt8) (w : World) : Prop := Lib.IsBuilderF 280 5 B b (Lib.byteCells l) w
/-- A new one. -/
theorem bld_new (w : World) (B : Nat) (hB : B ≤ w.heap.size) : Bld B w.heap.size [] (w.alloc (.cells #[.pointer none, .slice none 0 0] 280)) :=
  .inl (Lib.BuilderAtF.of ⟨hB, _, heap_alloc_new w _, World.ownsRow_nil _ _ _ 1, by simp [Value.ownBlock]⟩)
theorem Bld.keep {B b : Nat} {l : List UInt8} {w w' : World} (h : Bld B b l w) (hb : Below w.heap.size w w') : Bld B b l w' := by
  have go : ∀ p, Lib.BuilderAtF 280 5 B b p (Lib.byteCells l) w → Lib.BuilderAtF 280 5 B b p (Lib.byteCells l) w' := by
    rintro p ⟨h1, v, h2, h3, h4⟩
    have hlt := (Array.getElem?_eq_some_iff.1 h2).1
    refine ⟨h1, v, ?_, h3.kept (row := none) ⟨hb.os, hb.tape, hb.output, hb.size, fun k hk _ => hb.block k hk⟩ (by cases hv : v.ownBlock <;> simp), h4⟩
    rw [hb.block b hlt]; exact h2
  exact h.imp (go _) (go _)
theorem Bld.lt {B b : Nat} {l : List UInt8} {w : World} (h : Bld B b l w) : b < w.heap.size := by
  rcases h with ⟨_, v, q, _⟩ | ⟨_, v, q, _⟩ <;> exact (Array.getElem?_eq_some_iff.1 q).1
/-- A row of other things abides what a builder does. -/
theorem row_others {w w' : World} {B b size n : Nat} {e : TypeId} {v : Value} {xs : List Value} (h : w.ownsRow B e size v n xs) (hk : Lib.OthersKept 5 (some b) w w') (he : e ≠ 5) (hb : ∀ g, v.ownBlock = some g → g ≠ b) : w'.ownsRow B e size v n xs := by
  refine ⟨h.1, h.2.imp id ?_⟩
  rintro ⟨g, cap, cur, rfl, q1, q2, q3⟩
  exact ⟨g, cap, cur, rfl, q1, hk g _ q2 (by simpa using hb g rfl) (fun c fz q => by injection q with _ q _; exact he q), q3⟩
end Go.Proofs.YtbjbimabgfpdoaaGreatDoor
