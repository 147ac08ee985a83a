/-
  Variables of several cells of the call's own.
-/
import Derived.Test.YtocchkmhnneiiaaAid
namespace Go.Proofs.Ytocchkmhnneiiaa
open Go.RowKit Go.Wk Go.Sort
set_option maxRecDepth 100000

theorem cell_new (w : World) (cs : Array Value) (t : TypeId) (j : Nat) {v : Value} (h : cs[j]? = some v) : (w.alloc (.cells cs t)).cell? ⟨w.heap.size, j, none⟩ = some v := by
  rw [World.cell?_alloc_at _ _ _ _ rfl]; exact h
/-- A variable of 4 cells of the call's own. -/
structure Bx4 (w : World) (b : Nat) (x0 x1 x2 x3 : Value) : Prop where
  c0 : w.cell? ⟨b, 0, none⟩ = some x0
  c1 : w.cell? ⟨b, 1, none⟩ = some x1
  c2 : w.cell? ⟨b, 2, none⟩ = some x2
  c3 : w.cell? ⟨b, 3, none⟩ = some x3
  z0 : w.frozen? ⟨b, 0, none⟩ = false
  z1 : w.frozen? ⟨b, 1, none⟩ = false
  z2 : w.frozen? ⟨b, 2, none⟩ = false
  z3 : w.frozen? ⟨b, 3, none⟩ = false
theorem bx4_new (w : World) (x0 x1 x2 x3 : Value) (t : TypeId) : Bx4 (w.alloc (.cells #[x0, x1, x2, x3] t)) w.heap.size x0 x1 x2 x3 :=
  ⟨cell_new w _ _ _ rfl, cell_new w _ _ _ rfl, cell_new w _ _ _ rfl, cell_new w _ _ _ rfl, by simp, by simp, by simp, by simp⟩
theorem Bx4.keep {w w' : World} {b : Nat} {x0 x1 x2 x3 : Value} (h : Bx4 w b x0 x1 x2 x3) (hb : Below w.heap.size w w') : Bx4 w' b x0 x1 x2 x3 :=
  have hl := block_lt_of_cell h.c0
  ⟨cell_keep hb h.c0, cell_keep hb h.c1, cell_keep hb h.c2, cell_keep hb h.c3, by rw [(bcell hb).2 b 0 hl]; exact h.z0, by rw [(bcell hb).2 b 1 hl]; exact h.z1, by rw [(bcell hb).2 b 2 hl]; exact h.z2, by rw [(bcell hb).2 b 3 hl]; exact h.z3⟩
theorem Bx4.but {w w' : World} {b : Nat} {x0 x1 x2 x3 : Value} {g : Option Nat} (h : Bx4 w b x0 x1 x2 x3) (hg : w.grownBy w' g) (hn : some b ≠ g) : Bx4 w' b x0 x1 x2 x3 :=
  have hb := hg.block b (block_lt_of_cell h.c0) hn
  ⟨(World.cell?_of_block (a := ⟨b, 0, none⟩) hb).trans h.c0, (World.cell?_of_block (a := ⟨b, 1, none⟩) hb).trans h.c1, (World.cell?_of_block (a := ⟨b, 2, none⟩) hb).trans h.c2, (World.cell?_of_block (a := ⟨b, 3, none⟩) hb).trans h.c3, (World.frozen?_of_block (a := ⟨b, 0, none⟩) hb).trans h.z0, (World.frozen?_of_block (a := ⟨b, 1, none⟩) hb).trans h.z1, (World.frozen?_of_block (a := ⟨b, 2, none⟩) hb).trans h.z2, (World.frozen?_of_block (a := ⟨b, 3, none⟩) hb).trans h.z3⟩
/-- A variable of 6 cells of the call's own. -/
structure Bx6 (w : World) (b : Nat) (x0 x1 x2 x3 x4 x5 : Value) : Prop where
  c0 : w.cell? ⟨b, 0, none⟩ = some x0
  c1 : w.cell? ⟨b, 1, none⟩ = some x1
  c2 : w.cell? ⟨b, 2, none⟩ = some x2
  c3 : w.cell? ⟨b, 3, none⟩ = some x3
  c4 : w.cell? ⟨b, 4, none⟩ = some x4
  c5 : w.cell? ⟨b, 5, none⟩ = some x5
  z0 : w.frozen? ⟨b, 0, none⟩ = false
  z1 : w.frozen? ⟨b, 1, none⟩ = false
  z2 : w.frozen? ⟨b, 2, none⟩ = false
  z3 : w.frozen? ⟨b, 3, none⟩ = false
  z4 : w.frozen? ⟨b, 4, none⟩ = false
  z5 : w.frozen? ⟨b, 5, none⟩ = false
theorem bx6_new (w : World) (x0 x1 x2 x3 x4 x5 : Value) (t : TypeId) : Bx6 (w.alloc (.cells #[x0, x1, x2, x3, x4, x5] t)) w.heap.size x0 x1 x2 x3 x4 x5 :=
  ⟨cell_new w _ _ _ rfl, cell_new w _ _ _ rfl, cell_new w _ _ _ rfl, cell_new w _ _ _ rfl, cell_new w _ _ _ rfl, cell_new w _ _ _ rfl, by simp, by simp, by simp, by simp, by simp, by simp⟩
theorem Bx6.keep {w w' : World} {b : Nat} {x0 x1 x2 x3 x4 x5 : Value} (h : Bx6 w b x0 x1 x2 x3 x4 x5) (hb : Below w.heap.size w w') : Bx6 w' b x0 x1 x2 x3 x4 x5 :=
  have hl := block_lt_of_cell h.c0
  ⟨cell_keep hb h.c0, cell_keep hb h.c1, cell_keep hb h.c2, cell_keep hb h.c3, cell_keep hb h.c4, cell_keep hb h.c5, by rw [(bcell hb).2 b 0 hl]; exact h.z0, by rw [(bcell hb).2 b 1 hl]; exact h.z1, by rw [(bcell hb).2 b 2 hl]; exact h.z2, by rw [(bcell hb).2 b 3 hl]; exact h.z3, by rw [(bcell hb).2 b 4 hl]; exact h.z4, by rw [(bcell hb).2 b 5 hl]; exact h.z5⟩
theorem Bx6.but {w w' : World} {b : Nat} {x0 x1 x2 x3 x4 x5 : Value} {g : Option Nat} (h : Bx6 w b x0 x1 x2 x3 x4 x5) (hg : w.grownBy w' g) (hn : some b ≠ g) : Bx6 w' b x0 x1 x2 x3 x4 x5 :=
  have hb := hg.block b (block_lt_of_cell h.c0) hn
  ⟨(World.cell?_of_block (a := ⟨b, 0, none⟩) hb).trans h.c0, (World.cell?_of_block (a := ⟨b, 1, none⟩) hb).trans h.c1, (World.cell?_of_block (a := ⟨b, 2, none⟩) hb).trans h.c2, (World.cell?_of_block (a := ⟨b, 3, none⟩) hb).trans h.c3, (World.cell?_of_block (a := ⟨b, 4, none⟩) hb).trans h.c4, (World.cell?_of_block (a := ⟨b, 5, none⟩) hb).trans h.c5, (World.frozen?_of_block (a := ⟨b, 0, none⟩) hb).trans h.z0, (World.frozen?_of_block (a := ⟨b, 1, none⟩) hb).trans h.z1, (World.frozen?_of_block (a := ⟨b, 2, none⟩) hb).trans h.z2, (World.frozen?_of_block (a := ⟨b, 3, none⟩) hb).trans h.z3, (World.frozen?_of_block (a := ⟨b, 4, none⟩) hb).trans h.z4, (World.frozen?_of_block (a := ⟨b, 5, none⟩) hb).trans h.z5⟩
/-- A variable of 8 cells of the call's own. -/
structure Bx8 (w : World) (b : Nat) (x0 x1 x2 x3 x4 x5 x6 x7 : Value) : Prop where
  c0 : w.cell? ⟨b, 0, none⟩ = some x0
  c1 : w.cell? ⟨b, 1, none⟩ = some x1
  c2 : w.cell? ⟨b, 2, none⟩ = some x2
  c3 : w.cell? ⟨b, 3, none⟩ = some x3
  c4 : w.cell? ⟨b, 4, none⟩ = some x4
  c5 : w.cell? ⟨b, 5, none⟩ = some x5
  c6 : w.cell? ⟨b, 6, none⟩ = some x6
  c7 : w.cell? ⟨b, 7, none⟩ = some x7
  z0 : w.frozen? ⟨b, 0, none⟩ = false
  z1 : w.frozen? ⟨b, 1, none⟩ = false
  z2 : w.frozen? ⟨b, 2, none⟩ = false
  z3 : w.frozen? ⟨b, 3, none⟩ = false
  z4 : w.frozen? ⟨b, 4, none⟩ = false
  z5 : w.frozen? ⟨b, 5, none⟩ = false
  z6 : w.frozen? ⟨b, 6, none⟩ = false
  z7 : w.frozen? ⟨b, 7, none⟩ = false
theorem bx8_new (w : World) (x0 x1 x2 x3 x4 x5 x6 x7 : Value) (t : TypeId) : Bx8 (w.alloc (.cells #[x0, x1, x2, x3, x4, x5, x6, x7] t)) w.heap.size x0 x1 x2 x3 x4 x5 x6 x7 :=
  ⟨cell_new w _ _ _ rfl, cell_new w _ _ _ rfl, cell_new w _ _ _ rfl, cell_new w _ _ _ rfl, cell_new w _ _ _ rfl, cell_new w _ _ _ rfl, cell_new w _ _ _ rfl, cell_new w _ _ _ rfl, by simp, by simp, by simp, by simp, by simp, by simp, by simp, by simp⟩
theorem Bx8.keep {w w' : World} {b : Nat} {x0 x1 x2 x3 x4 x5 x6 x7 : Value} (h : Bx8 w b x0 x1 x2 x3 x4 x5 x6 x7) (hb : Below w.heap.size w w') : Bx8 w' b x0 x1 x2 x3 x4 x5 x6 x7 :=
  have hl := block_lt_of_cell h.c0
  ⟨cell_keep hb h.c0, cell_keep hb h.c1, cell_keep hb h.c2, cell_keep hb h.c3, cell_keep hb h.c4, cell_keep hb h.c5, cell_keep hb h.c6, cell_keep hb h.c7, by rw [(bcell hb).2 b 0 hl]; exact h.z0, by rw [(bcell hb).2 b 1 hl]; exact h.z1, by rw [(bcell hb).2 b 2 hl]; exact h.z2, by rw [(bcell hb).2 b 3 hl]; exact h.z3, by rw [(bcell hb).2 b 4 hl]; exact h.z4, by rw [(bcell hb).2 b 5 hl]; exact h.z5, by rw [(bcell hb).2 b 6 hl]; exact h.z6, by rw [(bcell hb).2 b 7 hl]; exact h.z7⟩
theorem Bx8.but {w w' : World} {b : Nat} {x0 x1 x2 x3 x4 x5 x6 x7 : Value} {g : Option Nat} (h : Bx8 w b x0 x1 x2 x3 x4 x5 x6 x7) (hg : w.grownBy w' g) (hn : some b ≠ g) : Bx8 w' b x0 x1 x2 x3 x4 x5 x6 x7 :=
  have hb := hg.block b (block_lt_of_cell h.c0) hn
  ⟨(World.cell?_of_block (a := ⟨b, 0, none⟩) hb).trans h.c0, (World.cell?_of_block (a := ⟨b, 1, none⟩) hb).trans h.c1, (World.cell?_of_block (a := ⟨b, 2, none⟩) hb).trans h.c2, (World.cell?_of_block (a := ⟨b, 3, none⟩) hb).trans h.c3, (World.cell?_of_block (a := ⟨b, 4, none⟩) hb).trans h.c4, (World.cell?_of_block (a := ⟨b, 5, none⟩) hb).trans h.c5, (World.cell?_of_block (a := ⟨b, 6, none⟩) hb).trans h.c6, (World.cell?_of_block (a := ⟨b, 7, none⟩) hb).trans h.c7, (World.frozen?_of_block (a := ⟨b, 0, none⟩) hb).trans h.z0, (World.frozen?_of_block (a := ⟨b, 1, none⟩) hb).trans h.z1, (World.frozen?_of_block (a := ⟨b, 2, none⟩) hb).trans h.z2, (World.frozen?_of_block (a := ⟨b, 3, none⟩) hb).trans h.z3, (World.frozen?_of_block (a := ⟨b, 4, none⟩) hb).trans h.z4, (World.frozen?_of_block (a := ⟨b, 5, none⟩) hb).trans h.z5, (World.frozen?_of_block (a := ⟨b, 6, none⟩) hb).trans h.z6, (World.frozen?_of_block (a := ⟨b, 7, none⟩) hb).trans h.z7⟩
theorem Bx4.set {w : World} {b : Nat} {x0 x1 x2 x3 : Value} (h : Bx4 w b x0 x1 x2 x3) (y0 y1 y2 y3 : Value) : Bx4 ((((w.setCell ⟨b, 0, none⟩ y0).setCell ⟨b, 1, none⟩ y1).setCell ⟨b, 2, none⟩ y2).setCell ⟨b, 3, none⟩ y3) b y0 y1 y2 y3 := by
  obtain ⟨c0, c1, c2, c3, z0, z1, z2, z3⟩ := h
  refine ⟨?_, ?_, ?_, ?_, ?_, ?_, ?_, ?_⟩
  all_goals go_simp
theorem Bx6.set {w : World} {b : Nat} {x0 x1 x2 x3 x4 x5 : Value} (h : Bx6 w b x0 x1 x2 x3 x4 x5) (y0 y1 y2 y3 y4 y5 : Value) : Bx6 ((((((w.setCell ⟨b, 0, none⟩ y0).setCell ⟨b, 1, none⟩ y1).setCell ⟨b, 2, none⟩ y2).setCell ⟨b, 3, none⟩ y3).setCell ⟨b, 4, none⟩ y4).setCell ⟨b, 5, none⟩ y5) b y0 y1 y2 y3 y4 y5 := by
  obtain ⟨c0, c1, c2, c3, c4, c5, z0, z1, z2, z3, z4, z5⟩ := h
  refine ⟨?_, ?_, ?_, ?_, ?_, ?_, ?_, ?_, ?_, ?_, ?_, ?_⟩
  all_goals go_simp
theorem Bx8.set {w : World} {b : Nat} {x0 x1 x2 x3 x4 x5 x6 x7 : Value} (h : Bx8 w b x0 x1 x2 x3 x4 x5 x6 x7) (y0 y1 y2 y3 y4 y5 y6 y7 : Value) : Bx8 ((((((((w.setCell ⟨b, 0, none⟩ y0).setCell ⟨b, 1, none⟩ y1).setCell ⟨b, 2, none⟩ y2).setCell ⟨b, 3, none⟩ y3).setCell ⟨b, 4, none⟩ y4).setCell ⟨b, 5, none⟩ y5).setCell ⟨b, 6, none⟩ y6).setCell ⟨b, 7, none⟩ y7) b y0 y1 y2 y3 y4 y5 y6 y7 := by
  obtain ⟨c0, c1, c2, c3, c4, c5, c6, c7, z0, z1, z2, z3, z4, z5, z6, z7⟩ := h
  refine ⟨?_, ?_, ?_, ?_, ?_, ?_, ?_, ?_, ?_, ?_, ?_, ?_, ?_, ?_, ?_, ?_⟩
  all_goals go_simp
theorem below_set4 {B b : Nat} {a w : World} (h : Below B a w) (hb : B ≤ b) (y0 y1 y2 y3 : Value) : Below B a ((((w.setCell ⟨b, 0, none⟩ y0).setCell ⟨b, 1, none⟩ y1).setCell ⟨b, 2, none⟩ y2).setCell ⟨b, 3, none⟩ y3) := ((((h.setCell (p := ⟨b, 0, none⟩) hb y0).setCell (p := ⟨b, 1, none⟩) hb y1).setCell (p := ⟨b, 2, none⟩) hb y2).setCell (p := ⟨b, 3, none⟩) hb y3)
theorem below_set6 {B b : Nat} {a w : World} (h : Below B a w) (hb : B ≤ b) (y0 y1 y2 y3 y4 y5 : Value) : Below B a ((((((w.setCell ⟨b, 0, none⟩ y0).setCell ⟨b, 1, none⟩ y1).setCell ⟨b, 2, none⟩ y2).setCell ⟨b, 3, none⟩ y3).setCell ⟨b, 4, none⟩ y4).setCell ⟨b, 5, none⟩ y5) := ((((((h.setCell (p := ⟨b, 0, none⟩) hb y0).setCell (p := ⟨b, 1, none⟩) hb y1).setCell (p := ⟨b, 2, none⟩) hb y2).setCell (p := ⟨b, 3, none⟩) hb y3).setCell (p := ⟨b, 4, none⟩) hb y4).setCell (p := ⟨b, 5, none⟩) hb y5)
theorem below_set8 {B b : Nat} {a w : World} (h : Below B a w) (hb : B ≤ b) (y0 y1 y2 y3 y4 y5 y6 y7 : Value) : Below B a ((((((((w.setCell ⟨b, 0, none⟩ y0).setCell ⟨b, 1, none⟩ y1).setCell ⟨b, 2, none⟩ y2).setCell ⟨b, 3, none⟩ y3).setCell ⟨b, 4, none⟩ y4).setCell ⟨b, 5, none⟩ y5).setCell ⟨b, 6, none⟩ y6).setCell ⟨b, 7, none⟩ y7) := ((((((((h.setCell (p := ⟨b, 0, none⟩) hb y0).setCell (p := ⟨b, 1, none⟩) hb y1).setCell (p := ⟨b, 2, none⟩) hb y2).setCell (p := ⟨b, 3, none⟩) hb y3).setCell (p := ⟨b, 4, none⟩) hb y4).setCell (p := ⟨b, 5, none⟩) hb y5).setCell (p := ⟨b, 6, none⟩) hb y6).setCell (p := ⟨b, 7, none⟩) hb y7)
end Go.Proofs.Ytocchkmhnneiiaa
