/-
  Variables of several cells of the call's own.
  kinds.find: the field of a name, by halves.
  kinds.below: is a type below another one.
  kinds.below: of records.
  kinds.below: is a type below another one.
  The head of a type: its op and name; types of one head; where it lies.
-/
import Derived.Test.YtnolmlhcikcceaaGreatDoorQs18
namespace Go.Proofs.YtnolmlhcikcceaaGreatDoor
open Go.RowKit Go.Wk Go.Sort
set_option maxRecDepth 100000

theorem cell_new (w : World) (cs : Array Value) (t : TypeId) (j : Nat) {v : Value} (h : cs[j]? = some v) : (w.alloc (.cells cs t)).cell? ⟨w.heap.size, j, none⟩ = some v := by
  rw [World.cell?_alloc_at _ _ _ _ rfl]; exact h
/-- A variable of 4 cells of the call's own. -/
structure Bx4 (w : World) (b : Nat) (x0 x1 x2 x3 : Value) : Prop where
  c0 : w.cell? ⟨b, 0, none⟩ = some x0
  c1 : w.cell? ⟨b, 1, none⟩ = some x1
  c2 : w.cell? ⟨b, 2, none⟩ = some x2
  c3 : w.cell? ⟨b, 3, none⟩ = some x3
  z0 : w.frozen? ⟨b, 0, none⟩ = false
  z1 : w.frozen? ⟨b, 1, none⟩ = false
  z2 : w.frozen? ⟨b, 2, none⟩ = false
  z3 : w.frozen? ⟨b, 3, none⟩ = false
theorem bx4_new (w : World) (x0 x1 x2 x3 : Value) (t : TypeId) : Bx4 (w.alloc (.cells #[x0, x1, x2, x3] t)) w.heap.size x0 x1 x2 x3 :=
  ⟨cell_new w _ _ _ rfl, cell_new w _ _ _ rfl, cell_new w _ _ _ rfl, cell_new w _ _ _ rfl, by simp, by simp, by simp, by simp⟩
theorem Bx4.keep {w w' : World} {b : Nat} {x0 x1 x2 x3 : Value} (h : Bx4 w b x0 x1 x2 x3) (hb : Below w.heap.size w w') : Bx4 w' b x0 x1 x2 x3 :=
  have hl := block_lt_of_cell h.c0
  ⟨cell_keep hb h.c0, cell_keep hb h.c1, cell_keep hb h.c2, cell_keep hb h.c3, by rw [(bcell hb).2 b 0 hl]; exact h.z0, by rw [(bcell hb).2 b 1 hl]; exact h.z1, by rw [(bcell hb).2 b 2 hl]; exact h.z2, by rw [(bcell hb).2 b 3 hl]; exact h.z3⟩
theorem Bx4.but {w w' : World} {b : Nat} {x0 x1 x2 x3 : Value} {g : Option Nat} (h : Bx4 w b x0 x1 x2 x3) (hg : w.grownBy w' g) (hn : some b ≠ g) : Bx4 w' b x0 x1 x2 x3 :=
  have hb := hg.block b (block_lt_of_cell h.c0) hn
  ⟨(World.cell?_of_block (a := ⟨b, 0, none⟩) hb).trans h.c0, (World.cell?_of_block (a := ⟨b, 1, none⟩) hb).trans h.c1, (World.cell?_of_block (a := ⟨b, 2, none⟩) hb).trans h.c2, (World.cell?_of_block (a := ⟨b, 3, none⟩) hb).trans h.c3, (World.frozen?_of_block (a := ⟨b, 0, none⟩) hb).trans h.z0, (World.frozen?_of_block (a := ⟨b, 1, none⟩) hb).trans h.z1, (World.frozen?_of_block (a := ⟨b, 2, none⟩) hb).trans h.z2, (World.frozen?_of_block (a := ⟨b, 3, none⟩) hb).trans h.z3⟩
/-- A variable of 6 cells of the call's own. -/
structure Bx6 (w : World) (b : Nat) (x0 x1 x2 x3 x4 x5 : Value) : Prop where
  c0 : w.cell? ⟨b, 0, none⟩ = some x0
  c1 : w.cell? ⟨b, 1, none⟩ = some x1
  c2 : w.cell? ⟨b, 2, none⟩ = some x2
  c3 : w.cell? ⟨b, 3, none⟩ = some x3
  c4 : w.cell? ⟨b, 4, none⟩ = some x4
  c5 : w.cell? ⟨b, 5, none⟩ = some x5
  z0 : w.frozen? ⟨b, 0, none⟩ = false
  z1 : w.frozen? ⟨b, 1, none⟩ = false
  z2 : w.frozen? ⟨b, 2, none⟩ = false
  z3 : w.frozen? ⟨b, 3, none⟩ = false
  z4 : w.frozen? ⟨b, 4, none⟩ = false
  z5 : w.frozen? ⟨b, 5, none⟩ = false
theorem bx6_new (w : World) (x0 x1 x2 x3 x4 x5 : Value) (t : TypeId) : Bx6 (w.alloc (.cells #[x0, x1, x2, x3, x4, x5] t)) w.heap.size x0 x1 x2 x3 x4 x5 :=
  ⟨cell_new w _ _ _ rfl, cell_new w _ _ _ rfl, cell_new w _ _ _ rfl, cell_new w _ _ _ rfl, cell_new w _ _ _ rfl, cell_new w _ _ _ rfl, by simp, by simp, by simp, by simp, by simp, by simp⟩
theorem Bx6.keep {w w' : World} {b : Nat} {x0 x1 x2 x3 x4 x5 : Value} (h : Bx6 w b x0 x1 x2 x3 x4 x5) (hb : Below w.heap.size w w') : Bx6 w' b x0 x1 x2 x3 x4 x5 :=
  have hl := block_lt_of_cell h.c0
  ⟨cell_keep hb h.c0, cell_keep hb h.c1, cell_keep hb h.c2, cell_keep hb h.c3, cell_keep hb h.c4, cell_keep hb h.c5, by rw [(bcell hb).2 b 0 hl]; exact h.z0, by rw [(bcell hb).2 b 1 hl]; exact h.z1, by rw [(bcell hb).2 b 2 hl]; exact h.z2, by rw [(bcell hb).2 b 3 hl]; exact h.z3, by rw [(bcell hb).2 b 4 hl]; exact h.z4, by rw [(bcell hb).2 b 5 hl]; exact h.z5⟩
theorem Bx6.but {w w' : World} {b : Nat} {x0 x1 x2 x3 x4 x5 : Value} {g : Option Nat} (h : Bx6 w b x0 x1 x2 x3 x4 x5) (hg : w.grownBy w' g) (hn : some b ≠ g) : Bx6 w' b x0 x1 x2 x3 x4 x5 :=
  have hb := hg.block b (block_lt_of_cell h.c0) hn
  ⟨(World.cell?_of_block (a := ⟨b, 0, none⟩) hb).trans h.c0, (World.cell?_of_block (a := ⟨b, 1, none⟩) hb).trans h.c1, (World.cell?_of_block (a := ⟨b, 2, none⟩) hb).trans h.c2, (World.cell?_of_block (a := ⟨b, 3, none⟩) hb).trans h.c3, (World.cell?_of_block (a := ⟨b, 4, none⟩) hb).trans h.c4, (World.cell?_of_block (a := ⟨b, 5, none⟩) hb).trans h.c5, (World.frozen?_of_block (a := ⟨b, 0, none⟩) hb).trans h.z0, (World.frozen?_of_block (a := ⟨b, 1, none⟩) hb).trans h.z1, (World.frozen?_of_block (a := ⟨b, 2, none⟩) hb).trans h.z2, (World.frozen?_of_block (a := ⟨b, 3, none⟩) hb).trans h.z3, (World.frozen?_of_block (a := ⟨b, 4, none⟩) hb).trans h.z4, (World.frozen?_of_block (a := ⟨b, 5, none⟩) hb).trans h.z5⟩
/-- A variable of 8 cells of the call's own. -/
structure Bx8 (w : World) (b : Nat) (x0 x1 x2 x3 x4 x5 x6 x7 : Value) : Prop where
  c0 : w.cell? ⟨b, 0, none⟩ = some x0
  c1 : w.cell? ⟨b, 1, none⟩ = some x1
  c2 : w.cell? ⟨b, 2, none⟩ = some x2
  c3 : w.cell? ⟨b, 3, none⟩ = some x3
  c4 : w.cell? ⟨b, 4, none⟩ = some x4
  c5 : w.cell? ⟨b, 5, none⟩ = some x5
  c6 : w.cell? ⟨b, 6, none⟩ = some x6
  c7 : w.cell? ⟨b, 7, none⟩ = some x7
  z0 : w.frozen? ⟨b, 0, none⟩ = false
  z1 : w.frozen? ⟨b, 1, none⟩ = false
  z2 : w.frozen? ⟨b, 2, none⟩ = false
  z3 : w.frozen? ⟨b, 3, none⟩ = false
  z4 : w.frozen? ⟨b, 4, none⟩ = false
  z5 : w.frozen? ⟨b, 5, none⟩ = false
  z6 : w.frozen? ⟨b, 6, none⟩ = false
  z7 : w.frozen? ⟨b, 7, none⟩ = false
theorem bx8_new (w : World) (x0 x1 x2 x3 x4 x5 x6 x7 : Value) (t : TypeId) : Bx8 (w.alloc (.cells #[x0, x1, x2, x3, x4, x5, x6, x7] t)) w.heap.size x0 x1 x2 x3 x4 x5 x6 x7 :=
  ⟨cell_new w _ _ _ rfl, cell_new w _ _ _ rfl, cell_new w _ _ _ rfl, cell_new w _ _ _ rfl, cell_new w _ _ _ rfl, cell_new w _ _ _ rfl, cell_new w _ _ _ rfl, cell_new w _ _ _ rfl, by simp, by simp, by simp, by simp, by simp, by simp, by simp, by simp⟩
theorem Bx8.keep {w w' : World} {b : Nat} {x0 x1 x2 x3 x4 x5 x6 x7 : Value} (h : Bx8 w b x0 x1 x2 x3 x4 x5 x6 x7) (hb : Below w.heap.size w w') : Bx8 w' b x0 x1 x2 x3 x4 x5 x6 x7 :=
  have hl := block_lt_of_cell h.c0
  ⟨cell_keep hb h.c0, cell_keep hb h.c1, cell_keep hb h.c2, cell_keep hb h.c3, cell_keep hb h.c4, cell_keep hb h.c5, cell_keep hb h.c6, cell_keep hb h.c7, by rw [(bcell hb).2 b 0 hl]; exact h.z0, by rw [(bcell hb).2 b 1 hl]; exact h.z1, by rw [(bcell hb).2 b 2 hl]; exact h.z2, by rw [(bcell hb).2 b 3 hl]; exact h.z3, by rw [(bcell hb).2 b 4 hl]; exact h.z4, by rw [(bcell hb).2 b 5 hl]; exact h.z5, by rw [(bcell hb).2 b 6 hl]; exact h.z6, by rw [(bcell hb).2 b 7 hl]; exact h.z7⟩
theorem Bx8.but {w w' : World} {b : Nat} {x0 x1 x2 x3 x4 x5 x6 x7 : Value} {g : Option Nat} (h : Bx8 w b x0 x1 x2 x3 x4 x5 x6 x7) (hg : w.grownBy w' g) (hn : some b ≠ g) : Bx8 w' b x0 x1 x2 x3 x4 x5 x6 x7 :=
  have hb := hg.block b (block_lt_of_cell h.c0) hn
  ⟨(World.cell?_of_block (a := ⟨b, 0, none⟩) hb).trans h.c0, (World.cell?_of_block (a := ⟨b, 1, none⟩) hb).trans h.c1, (World.cell?_of_block (a := ⟨b, 2, none⟩) hb).trans h.c2, (World.cell?_of_block (a := ⟨b, 3, none⟩) hb).trans h.c3, (World.cell?_of_block (a := ⟨b, 4, none⟩) hb).trans h.c4, (World.cell?_of_block (a := ⟨b, 5, none⟩) hb).trans h.c5, (World.cell?_of_block (a := ⟨b, 6, none⟩) hb).trans h.c6, (World.cell?_of_block (a := ⟨b, 7, none⟩) hb).trans h.c7, (World.frozen?_of_block (a := ⟨b, 0, none⟩) hb).trans h.z0, (World.frozen?_of_block (a := ⟨b, 1, none⟩) hb).trans h.z1, (World.frozen?_of_block (a := ⟨b, 2, none⟩) hb).trans h.z2, (World.frozen?_of_block (a := ⟨b, 3, none⟩) hb).trans h.z3, (World.frozen?_of_block (a := ⟨b, 4, none⟩) hb).trans h.z4, (World.frozen?_of_block (a := ⟨b, 5, none⟩) hb).trans h.z5, (World.frozen?_of_block (a := ⟨b, 6, none⟩) hb).trans h.z6, (World.frozen?_of_block (a := ⟨b, 7, none⟩) hb).trans h.z7⟩
theorem Bx4.set {w : World} {b : Nat} {x0 x1 x2 x3 : Value} (h : Bx4 w b x0 x1 x2 x3) (y0 y1 y2 y3 : Value) : Bx4 ((((w.setCell ⟨b, 0, none⟩ y0).setCell ⟨b, 1, none⟩ y1).setCell ⟨b, 2, none⟩ y2).setCell ⟨b, 3, none⟩ y3) b y0 y1 y2 y3 := by
  obtain ⟨c0, c1, c2, c3, z0, z1, z2, z3⟩ := h
  refine ⟨?_, ?_, ?_, ?_, ?_, ?_, ?_, ?_⟩
  all_goals go_simp
theorem Bx6.set {w : World} {b : Nat} {x0 x1 x2 x3 x4 x5 : Value} (h : Bx6 w b x0 x1 x2 x3 x4 x5) (y0 y1 y2 y3 y4 y5 : Value) : Bx6 ((((((w.setCell ⟨b, 0, none⟩ y0).setCell ⟨b, 1, none⟩ y1).setCell ⟨b, 2, none⟩ y2).setCell ⟨b, 3, none⟩ y3).setCell ⟨b, 4, none⟩ y4).setCell ⟨b, 5, none⟩ y5) b y0 y1 y2 y3 y4 y5 := by
  obtain ⟨c0, c1, c2, c3, c4, c5, z0, z1, z2, z3, z4, z5⟩ := h
  refine ⟨?_, ?_, ?_, ?_, ?_, ?_, ?_, ?_, ?_, ?_, ?_, ?_⟩
  all_goals go_simp
theorem Bx8.set {w : World} {b : Nat} {x0 x1 x2 x3 x4 x5 x6 x7 : Value} (h : Bx8 w b x0 x1 x2 x3 x4 x5 x6 x7) (y0 y1 y2 y3 y4 y5 y6 y7 : Value) : Bx8 ((((((((w.setCell ⟨b, 0, none⟩ y0).setCell ⟨b, 1, none⟩ y1).setCell ⟨b, 2, none⟩ y2).setCell ⟨b, 3, none⟩ y3).setCell ⟨b, 4, none⟩ y4).setCell ⟨b, 5, none⟩ y5).setCell ⟨b, 6, none⟩ y6).setCell ⟨b, 7, none⟩ y7) b y0 y1 y2 y3 y4 y5 y6 y7 := by
  obtain ⟨c0, c1, c2, c3, c4, c5, c6, c7, z0, z1, z2, z3, z4, z5, z6, z7⟩ := h
  refine ⟨?_, ?_, ?_, ?_, ?_, ?_, ?_, ?_, ?_, ?_, ?_, ?_, ?_, ?_, ?_, ?_⟩
  all_goals go_simp
theorem below_set4 {B b : Nat} {a w : World} (h : Below B a w) (hb : B ≤ b) (y0 y1 y2 y3 : Value) : Below B a ((((w.setCell ⟨b, 0, none⟩ y0).setCell ⟨b, 1, none⟩ y1).setCell ⟨b, 2, none⟩ y2).setCell ⟨b, 3, none⟩ y3) := ((((h.setCell (p := ⟨b, 0, none⟩) hb y0).setCell (p := ⟨b, 1, none⟩) hb y1).setCell (p := ⟨b, 2, none⟩) hb y2).setCell (p := ⟨b, 3, none⟩) hb y3)
theorem below_set6 {B b : Nat} {a w : World} (h : Below B a w) (hb : B ≤ b) (y0 y1 y2 y3 y4 y5 : Value) : Below B a ((((((w.setCell ⟨b, 0, none⟩ y0).setCell ⟨b, 1, none⟩ y1).setCell ⟨b, 2, none⟩ y2).setCell ⟨b, 3, none⟩ y3).setCell ⟨b, 4, none⟩ y4).setCell ⟨b, 5, none⟩ y5) := ((((((h.setCell (p := ⟨b, 0, none⟩) hb y0).setCell (p := ⟨b, 1, none⟩) hb y1).setCell (p := ⟨b, 2, none⟩) hb y2).setCell (p := ⟨b, 3, none⟩) hb y3).setCell (p := ⟨b, 4, none⟩) hb y4).setCell (p := ⟨b, 5, none⟩) hb y5)
theorem below_set8 {B b : Nat} {a w : World} (h : Below B a w) (hb : B ≤ b) (y0 y1 y2 y3 y4 y5 y6 y7 : Value) : Below B a ((((((((w.setCell ⟨b, 0, none⟩ y0).setCell ⟨b, 1, none⟩ y1).setCell ⟨b, 2, none⟩ y2).setCell ⟨b, 3, none⟩ y3).setCell ⟨b, 4, none⟩ y4).setCell ⟨b, 5, none⟩ y5).setCell ⟨b, 6, none⟩ y6).setCell ⟨b, 7, none⟩ y7) := ((((((((h.setCell (p := ⟨b, 0, none⟩) hb y0).setCell (p := ⟨b, 1, none⟩) hb y1).setCell (p := ⟨b, 2, none⟩) hb y2).setCell (p := ⟨b, 3, none⟩) hb y3).setCell (p := ⟨b, 4, none⟩) hb y4).setCell (p := ⟨b, 5, none⟩) hb y5).setCell (p := ⟨b, 6, none⟩) hb y6).setCell (p := ⟨b, 7, none⟩) hb y7)
end Go.Proofs.YtnolmlhcikcceaaGreatDoor
namespace Go.Proofs.YtnolmlhcikcceaaGreatDoor
open Go.RowKit Go.Wk Go.Sort
set_option maxRecDepth 100000

theorem kat_six {w : World} {B : Nat → Prop} {k : Kd} {v : List Value} (h : KAt w B k v) : ∃ (o n : Int) (s t : ByteArray) (p : Option Addr) (A : Option Addr) (m c : Nat), v = [.int .i64 o, .int .i64 n, .string s, .string t, .pointer p, .slice A m c] := by
  cases k with
  | base x => obtain ⟨_, rfl⟩ := h; exact ⟨_, _, _, _, _, _, _, _, rfl⟩
  | ent s => obtain ⟨_, rfl⟩ := h; exact ⟨_, _, _, _, _, _, _, _, rfl⟩
  | set q => obtain ⟨_, _, _, rfl, _⟩ := h; exact ⟨_, _, _, _, _, _, _, _, rfl⟩
  | fs f => obtain ⟨_, _, _, rfl, _⟩ := h; exact ⟨_, _, _, _, _, _, _, _, rfl⟩
/-- A field where it lies. -/
structure FdAt (w : World) (B : Nat → Prop) (a : Addr) (y : Kfd) : Prop where
  b : B a.block
  r : ∃ u, Row0 w a (.string y.1 :: .bool y.2.1 :: u) ∧ KAt w B y.2.2 u
theorem FAt.at {w : World} {B : Nat → Prop} {A : Option Addr} {f : Fl} : ∀ {i0 : Nat}, FAt w B A i0 f → ∀ (i : Nat) (y : Kfd), f.list[i]? = some y → ∃ a, A = some a ∧ FdAt w B (a.add ((i0 + i) * 8)) y := by
  induction f using Fl.rec (motive_1 := fun _ => True) with
  | nil => intro i0 _ i y h; simp [Fl.list] at h
  | cons s m k r _ ih =>
    intro i0 h i y hy
    obtain ⟨⟨a, u, e, h1, h2, h3⟩, h4⟩ := h
    cases i with
    | zero =>
      simp only [Fl.list, List.getElem?_cons_zero, Option.some.injEq] at hy
      subst hy
      exact ⟨a, e, by rw [add_block]; exact h1, u, h2, h3⟩
    | succ i =>
      obtain ⟨b, e2, h5⟩ := ih h4 i y (by simpa [Fl.list] using hy)
      exact ⟨b, e2, by rw [show i0 + (i + 1) = i0 + 1 + i by omega]; exact h5⟩
  | _ => trivial
theorem nxa (a : Addr) (x d : Nat) (hd : 0 < d) : (⟨(a.add x).block, (a.add x).off + d, none⟩ : Addr) = (a.add x).add d := by
  unfold Addr.add
  by_cases hx : x = 0
  · subst hx; simp; omega
  · simp [hx]; omega
/-- The eight cells of a field. -/
theorem FdAt.cells {w : World} {B : Nat → Prop} {a : Addr} {x : Nat} {y : Kfd} (h : FdAt w B (a.add x) y) : ∃ (o n : Int) (s0 t0 : ByteArray) (p A : Option Addr) (m c : Nat), KAt w B y.2.2 [.int .i64 o, .int .i64 n, .string s0, .string t0, .pointer p, .slice A m c] ∧
    w.cell? (a.add x) = some (.string y.1) ∧ w.cell? ⟨(a.add x).block, (a.add x).off + 1, none⟩ = some (.bool y.2.1) ∧ w.cell? ⟨(a.add x).block, (a.add x).off + 2, none⟩ = some (.int .i64 o) ∧ w.cell? ⟨(a.add x).block, (a.add x).off + 3, none⟩ = some (.int .i64 n) ∧
    w.cell? ⟨(a.add x).block, (a.add x).off + 4, none⟩ = some (.string s0) ∧ w.cell? ⟨(a.add x).block, (a.add x).off + 5, none⟩ = some (.string t0) ∧ w.cell? ⟨(a.add x).block, (a.add x).off + 6, none⟩ = some (.pointer p) ∧ w.cell? ⟨(a.add x).block, (a.add x).off + 7, none⟩ = some (.slice A m c) := by
  obtain ⟨-, u, hr, hk⟩ := h
  obtain ⟨o, n, s0, t0, p, A, m, c, rfl⟩ := kat_six hk
  refine ⟨o, n, s0, t0, p, A, m, c, hk, ?_, ?_, ?_, ?_, ?_, ?_, ?_, ?_⟩
  · have := hr 0 _ rfl
    rwa [show (a.add x).add 0 = a.add x from rfl] at this
  all_goals rw [nxa _ _ _ (by omega)]; exact hr _ _ rfl
set_option maxHeartbeats 1000000 in
theorem find_cmp (nm : ByteArray) (b : Bool) (o n : Int) (s0 t0 : ByteArray) (p A : Option Addr) (m c : Nat) (s : ByteArray) (w : World) :
    Calls Tryz.prog 122 #[.agg #[.string nm, .bool b, .int .i64 o, .int .i64 n, .string s0, .string t0, .pointer p, .slice A m c], .string s] w fun e w' => e = .returned (.int .i64 (cmpB nm s)) ∧ Below w.heap.size w w' := by
  have B0 := Lib.hid (below_box w (.cells #[.string nm, .bool b, .int .i64 o, .int .i64 n, .string s0, .string t0, .pointer p, .slice A m c] 124))
  go_enter Tryz.func122, Tryz.ntmps122
  go_wp2_with fail
  refine (strings_Compare nm s _).mono ?_
  rintro e w1 ⟨rfl, rfl⟩
  go_wp2_with fail
  go_ret
  exact ⟨rfl, B0.out⟩
/-- Where the search ends. -/
def SrcPost (w : World) (L : List Kfd) (s : ByteArray) (e : Ending) (w' : World) : Prop :=
  ∃ (i : Nat) (h : Bool), e = .returned (.tuple #[.int .i64 i, .bool h]) ∧ (h = true → ∃ hi : i < L.length, L[i].1 = s) ∧ (h = false → ∀ y ∈ L, y.1 ≠ s) ∧ Below w.heap.size w w'
set_option maxHeartbeats 4000000 in
theorem find_search (A : Option Addr) (n c : Nat) (f : Fl) (B : Nat → Prop) (s : ByteArray) (w : World) (hf : FAt w B A 0 f) (hn : n = f.list.length) (hl : n ≤ 100000) (_ : n ≤ c) (ha : f.asc) (hb : ∀ b, B b → b < w.heap.size) :
    Calls Tryz.prog 121 #[.slice A n c, .string s, .func (.func 122) #[] #[]] w (SrcPost w f.list s) := by
  have eg : ∀ args w, (callFunc 122 args).run Tryz.prog w = .ok (.enter 122 args) w := enters_of Tryz.func122 (by kernel_rfl) rfl
  have HF := Lib.hid (fun w' (h : Below w.heap.size w w') => (hf.cong (w' := w') (fun b hB => h.block b (hb b hB))).at)
  have HP := Lib.hid (list_asc ha)
  have HN := Lib.hid hn
  have HS := Lib.hid (show Half f.list s 0 n from hn ▸ Half.start f.list s)
  clear hf hn ha hb
  generalize f.list = L at *
  go_enter Tryz.func121, Tryz.ntmps121
  go_wp2_with fail
  go_loopw [9, 10] (fun i j wr => ∃ lo hi : Nat, hi ≤ n ∧ i = .int .i64 lo ∧ j = .int .i64 hi ∧ lo ≤ hi ∧ Hid (Half L s lo hi) ∧ Hid (Below w.heap.size w wr)) (fun i j _ => (intOf j).toNat - (intOf i).toNat)
  case atStart => exact ⟨0, n, Nat.le_refl _, rfl, rfl, Nat.zero_le _, HS, Below.refl _ _⟩
  case round =>
    clear HS
    obtain ⟨lo, hi, hhi, rfl, rfl, hle, hH, hB⟩ := hrel
    by_cases hlt : lo < hi
    · obtain ⟨m, hmid, hm1, hm2⟩ : ∃ m : Nat, ((lo : Int) + (hi : Int)) / 2 = (m : Int) ∧ lo ≤ m ∧ m < hi := ⟨(lo + hi) / 2, by omega, by omega, by omega⟩
      have hmn : m < n := by omega
      have hml : m < L.length := by rw [← HN.out]; exact hmn
      obtain ⟨a, rfl, hfd⟩ := HF.out wr hB.out m _ (List.getElem?_eq_getElem hml)
      rw [Nat.zero_add] at hfd
      have HUP := Lib.hid (fun hc => hH.out.up HP.out hm1 hm2 hml hc)
      have HDN := Lib.hid (fun hc => hH.out.down HP.out hm1 hm2 hml hc)
      generalize L[m] = y at *
      obtain ⟨o, nn, s0, t0, p, A', m', c', -, q0, q1, q2, q3, q4, q5, q6, q7⟩ := hfd.cells
      have KC := Lib.hid (find_cmp y.1 y.2.1 o nn s0 t0 p A' m' c' s wr)
      clear hfd
      by_cases hc : cmpB y.1 s < 0
      · have H2 := Lib.hid (HUP.out hc)
        generalize cmpB y.1 s = cu at *
        clear HUP HDN hH
        go_wp2_with (go_at_fn 122; refine KC.out.mono ?_; rintro e w1 ⟨rfl, b1⟩)
        have B1 := bh hB b1
        clear q0 q1 q2 q3 q4 q5 q6 q7 hB b1 KC
        go_wp2_with fail
        go_roundw
        case rel => exact ⟨m + 1, hi, hhi, by go_num, rfl, by omega, H2, B1⟩
        case measure => simp [intOf]; omega
      · have H2 := Lib.hid (HDN.out hc)
        generalize cmpB y.1 s = cu at *
        clear HUP HDN hH
        go_wp2_with (go_at_fn 122; refine KC.out.mono ?_; rintro e w1 ⟨rfl, b1⟩)
        have B1 := bh hB b1
        clear q0 q1 q2 q3 q4 q5 q6 q7 hB b1 KC
        go_wp2_with fail
        go_roundw
        case rel => exact ⟨lo, m, by omega, rfl, rfl, by omega, H2, B1⟩
        case measure => simp [intOf]; omega
    · obtain rfl : lo = hi := by omega
      have HFD := Lib.hid (hH.out.found HP.out)
      by_cases hln : lo < n
      · have hml : lo < L.length := by rw [← HN.out]; exact hln
        obtain ⟨a, rfl, hfd⟩ := HF.out wr hB.out lo _ (List.getElem?_eq_getElem hml)
        rw [Nat.zero_add] at hfd
        obtain ⟨y, hy⟩ : ∃ y, y = L[lo] := ⟨_, rfl⟩
        have HY := Lib.hid hy
        rw [← hy] at hfd
        clear hy
        obtain ⟨o, nn, s0, t0, p, A', m', c', -, q0, q1, q2, q3, q4, q5, q6, q7⟩ := hfd.cells
        have KC := Lib.hid (find_cmp y.1 y.2.1 o nn s0 t0 p A' m' c' s wr)
        clear hfd
        go_wp2_with fail
        refine KC.out.mono ?_
        rintro e w1 ⟨rfl, b1⟩
        have B1 := bh hB b1
        clear q0 q1 q2 q3 q4 q5 q6 q7 b1 KC
        by_cases hc : cmpB y.1 s = 0
        · have H2 := Lib.hid (show ∃ hi : lo < L.length, L[lo].1 = s from ⟨hml, by rw [← HY.out]; exact (cmpB_cmp.zero _ _).1 hc⟩)
          rw [hc]
          clear hc
          go_wp2_with fail
          go_ret2
          exact ⟨lo, true, rfl, fun _ => H2.out, fun h => (nomatch h), B1.out⟩
        · have H2 := Lib.hid (HFD.out.2 (fun hl e => hc (by rw [HY.out, e]; exact cmpB_cmp.self s)))
          have h0 : (cmpB y.1 s == 0) = false := by simpa using hc
          generalize cmpB y.1 s = cu at *
          clear hc
          go_wp2_with fail
          go_ret2
          exact ⟨lo, false, rfl, fun h => (nomatch h), fun _ => H2.out, B1.out⟩
      · have HNO := Lib.hid (HFD.out.2 (fun hl => absurd (by rw [HN.out]; exact hl) hln))
        go_wp2_with fail
        go_ret2
        exact ⟨lo, false, rfl, fun h => (nomatch h), fun _ => HNO.out, hB.out⟩
/-- What find tells. -/
def FndPost (w : World) (B : Nat → Prop) (f : Fl) (s : ByteArray) (e : Ending) (w' : World) : Prop :=
  Below w.heap.size w w' ∧ match f.find s with
  | none => e = .returned (.tuple #[.agg #[.string ⟨#[]⟩, .bool false, .int .i64 0, .int .i64 0, .string ⟨#[]⟩, .string ⟨#[]⟩, .pointer none, .slice none 0 0], .bool false])
  | some (m, k) => ∃ u : List Value, e = .returned (.tuple #[.agg (.string s :: .bool m :: u).toArray, .bool true]) ∧ KAt w' B k u
set_option maxHeartbeats 4000000 in
theorem kind_find (A : Option Addr) (n c : Nat) (f : Fl) (B : Nat → Prop) (o nn : Int) (s0 t0 : ByteArray) (p : Option Addr) (s : ByteArray) (w : World) (hf : FAt w B A 0 f) (hn : n = f.list.length) (hl : n ≤ 100000) (hc : n ≤ c) (ha : f.asc) (hb : ∀ b, B b → b < w.heap.size) :
    Calls Tryz.prog 65 #[.agg #[.int .i64 o, .int .i64 nn, .string s0, .string t0, .pointer p, .slice A n c], .string s] w (FndPost w B f s) := by
  have hmf : ∀ (fn : Fn) (first cap : Array Value) (w : World), (Instr.makeFunc fn first cap).run Tryz.prog w = .ok (.func fn first cap) w := fun _ _ _ _ => rfl
  have HS := Lib.hid (fun w' (h : Below w.heap.size w w') => find_search A n c f B s w' (hf.cong (fun b hB => h.block b (hb b hB))) hn hl hc ha (fun b hB => Nat.lt_of_lt_of_le (hb b hB) h.size))
  have HF := Lib.hid (fun w' (h : Below w.heap.size w w') => (hf.cong (w' := w') (fun b hB => h.block b (hb b hB))).at)
  have HN := Lib.hid hn
  have HA := Lib.hid ha
  have HBB := Lib.hid hb
  clear hf hn ha hb
  go_enter Tryz.func65, Tryz.ntmps65
  have X1 := Lib.hid (bx6_new w (.int .i64 o) (.int .i64 nn) (.string s0) (.string t0) (.pointer p) (.slice A n c) 74)
  have B1 := Lib.hid (below_box w (.cells #[.int .i64 o, .int .i64 nn, .string s0, .string t0, .pointer p, .slice A n c] 74))
  go_wp2_with fail
  have hsz : (w.alloc (.cells #[.int .i64 o, .int .i64 nn, .string s0, .string t0, .pointer p, .slice A n c] 74)).heap.size = w.heap.size + 1 := by simp
  obtain ⟨w1, hw1⟩ : ∃ w1, w.alloc (.cells #[.int .i64 o, .int .i64 nn, .string s0, .string t0, .pointer p, .slice A n c] 74) = w1 := ⟨_, rfl⟩
  rw [hw1] at X1 B1 hsz ⊢
  rw [← hsz]
  clear hw1 hsz
  have X2 := Lib.hid (X1.out.keep (below_box w1 (.cells #[.string ⟨#[]⟩, .bool false, .int .i64 0, .int .i64 0, .string ⟨#[]⟩, .string ⟨#[]⟩, .pointer none, .slice none 0 0] 124)))
  have Y2 := Lib.hid (bx8_new w1 (.string ⟨#[]⟩) (.bool false) (.int .i64 0) (.int .i64 0) (.string ⟨#[]⟩) (.string ⟨#[]⟩) (.pointer none) (.slice none 0 0) 124)
  have B2 := bh B1 (below_box w1 (.cells #[.string ⟨#[]⟩, .bool false, .int .i64 0, .int .i64 0, .string ⟨#[]⟩, .string ⟨#[]⟩, .pointer none, .slice none 0 0] 124))
  obtain ⟨w2, hw2⟩ : ∃ w2, w1.alloc (.cells #[.string ⟨#[]⟩, .bool false, .int .i64 0, .int .i64 0, .string ⟨#[]⟩, .string ⟨#[]⟩, .pointer none, .slice none 0 0] 124) = w2 := ⟨_, rfl⟩
  rw [hw2] at X2 Y2 B2 ⊢
  clear hw2 X1
  have HW := Lib.hid B1.out.size
  clear B1
  refine (HS.out w2 B2.out).mono ?_
  rintro e w3 ⟨i, hh, rfl, h1, h2, b3⟩
  have X3 := Lib.hid (X2.out.keep b3)
  have Y3 := Lib.hid (Y2.out.keep b3)
  have B3 := bh B2 b3
  clear X2 Y2 B2 b3 HS
  obtain ⟨c0, c1, c2, c3, c4, c5, -, -, -, -, -, -⟩ := X3.out
  obtain ⟨d0, d1, d2, d3, d4, d5, d6, d7, z0, z1, z2, z3, z4, z5, z6, z7⟩ := Y3.out
  cases hh with
  | false =>
    have HNF := Lib.hid (find_none.2 (h2 rfl))
    clear h1 h2
    have Y4 := Y3.out.set (.string ⟨#[]⟩) (.bool false) (.int .i64 0) (.int .i64 0) (.string ⟨#[]⟩) (.string ⟨#[]⟩) (.pointer none) (.slice none 0 0)
    obtain ⟨g0, g1, g2, g3, g4, g5, g6, g7, -, -, -, -, -, -, -, -⟩ := Y4
    go_wp2_with fail
    refine bodyPost_ret (v := .tuple #[.agg #[.string ⟨#[]⟩, .bool false, .int .i64 0, .int .i64 0, .string ⟨#[]⟩, .string ⟨#[]⟩, .pointer none, .slice none 0 0], .bool false]) (by simp [results, Tryz.results65, go_sem, g0, g1, g2, g3, g4, g5, g6, g7]) rfl ⟨?_, by rw [HNF.out]⟩
    exact below_set8 B3.out HW.out _ _ _ _ _ _ _ _
  | true =>
    obtain ⟨hi, hs⟩ := h1 rfl
    clear h1 h2
    have hin : i < n := by rw [HN.out]; exact hi
    obtain ⟨a, rfl, hfd⟩ := HF.out w3 B3.out i _ (List.getElem?_eq_getElem hi)
    rw [Nat.zero_add] at hfd
    have HFF := Lib.hid (show f.find s = some (f.list[i].2.1, f.list[i].2.2) from (find_list HA.out).2 (by rw [← hs]; exact List.getElem_mem hi))
    obtain ⟨y, hy⟩ : ∃ y, y = f.list[i] := ⟨_, rfl⟩
    rw [← hy] at hfd HFF hs
    clear hy
    obtain ⟨o', n', s', t', p', A', m', c', hk, q0, q1, q2, q3, q4, q5, q6, q7⟩ := hfd.cells
    have HK := Lib.hid hk
    rw [hs] at q0
    clear hk hfd hs
    have Y4 := Y3.out.set (.string s) (.bool y.2.1) (.int .i64 o') (.int .i64 n') (.string s') (.string t') (.pointer p') (.slice A' m' c')
    obtain ⟨g0, g1, g2, g3, g4, g5, g6, g7, -, -, -, -, -, -, -, -⟩ := Y4
    go_wp2_with fail
    refine bodyPost_ret (v := .tuple #[.agg #[.string s, .bool y.2.1, .int .i64 o', .int .i64 n', .string s', .string t', .pointer p', .slice A' m' c'], .bool true]) (by simp [results, Tryz.results65, go_sem, g0, g1, g2, g3, g4, g5, g6, g7]) rfl ?_
    have BF : ∀ w', Below w.heap.size w w' → FndPost w B f s (.returned (.tuple #[.agg #[.string s, .bool y.2.1, .int .i64 o', .int .i64 n', .string s', .string t', .pointer p', .slice A' m' c'], .bool true])) w' := fun w' hb => by
      refine ⟨hb, ?_⟩
      rw [HFF.out]
      exact ⟨_, rfl, HK.out.cong fun b hB => (hb.block b (HBB.out b hB)).trans (B3.out.block b (HBB.out b hB)).symm⟩
    refine BF _ ?_
    exact below_set8 B3.out HW.out _ _ _ _ _ _ _ _
end Go.Proofs.YtnolmlhcikcceaaGreatDoor
namespace Go.Proofs.YtnolmlhcikcceaaGreatDoor
open Go.RowKit Go.Wk Go.Sort
set_option maxRecDepth 100000

theorem len_list (f : Fl) : f.len = f.list.length := by
  induction f using Fl.rec (motive_1 := fun _ => True) with
  | nil => rfl
  | cons s m k r _ ih => simp [Fl.len, Fl.list, ih]
  | _ => trivial
theorem len_sz (f : Fl) : f.len ≤ f.sz := by
  induction f using Fl.rec (motive_1 := fun _ => True) with
  | nil => exact Nat.le_refl _
  | cons s m k r _ ih => simp only [Fl.len, Fl.sz]; omega
  | _ => trivial
/-- The contract of below, for types of so much. -/
def BelC (N : Nat) : Prop := ∀ (a b : Kd) (va vb : List Value) (w : World) (B : Nat → Prop), a.sz ≤ N → a.sz ≤ 90000 → b.sz ≤ 90000 → KAt w B a va → KAt w B b vb → a.valid → b.valid → (∀ b, B b → b < w.heap.size) →
  Calls Tryz.prog 27 #[.agg va.toArray, .agg vb.toArray] w fun e w' => e = .returned (.bool (belowK a b)) ∧ Below w.heap.size w w'
/-- The op and the name of a type. -/
def opN : Kd → Int
  | .base x => x
  | .ent _ => 44
  | .set _ => 45
  | .fs _ => 46
def nmN : Kd → ByteArray
  | .ent s => s
  | _ => emp
theorem kat_head {w : World} {B : Nat → Prop} {k : Kd} {v : List Value} (h : KAt w B k v) : ∃ (n : Int) (p : Option Addr) (A : Option Addr) (m c : Nat), v = [.int .i64 (opN k), .int .i64 n, .string (nmN k), .string emp, .pointer p, .slice A m c] := by
  cases k with
  | base x => obtain ⟨_, rfl⟩ := h; exact ⟨_, _, _, _, _, rfl⟩
  | ent s => obtain ⟨_, rfl⟩ := h; exact ⟨_, _, _, _, _, rfl⟩
  | set q => obtain ⟨_, _, _, rfl, _⟩ := h; exact ⟨_, _, _, _, _, rfl⟩
  | fs f => obtain ⟨_, _, _, rfl, _⟩ := h; exact ⟨_, _, _, _, _, rfl⟩
set_option maxHeartbeats 2000000 in
/-- One of the ends. -/
theorem below_end (o1 o2 n1 n2 : Int) (s1 s2 t1 t2 : ByteArray) (p1 p2 A1 A2 : Option Addr) (m1 c1 m2 c2 : Nat) (w : World) (h : o1 = 49 ∨ o2 = 48) :
    Calls Tryz.prog 27 #[.agg #[.int .i64 o1, .int .i64 n1, .string s1, .string t1, .pointer p1, .slice A1 m1 c1], .agg #[.int .i64 o2, .int .i64 n2, .string s2, .string t2, .pointer p2, .slice A2 m2 c2]] w fun e w' => e = .returned (.bool true) ∧ Below w.heap.size w w' := by
  have HB := Lib.hid ((below_box w (.cells #[.int .i64 o1, .int .i64 n1, .string s1, .string t1, .pointer p1, .slice A1 m1 c1] 74)).trans ((below_box _ (.cells #[.int .i64 o2, .int .i64 n2, .string s2, .string t2, .pointer p2, .slice A2 m2 c2] 74)).mono (by simp)))
  by_cases h1 : o1 = 49
  · subst h1
    clear h
    go_enter Tryz.func27, Tryz.ntmps27
    go_wp2_with fail
    go_ret
    exact ⟨rfl, HB.out⟩
  · have h2 := h.resolve_left h1
    have h3 : (o1 == 49) = false := beq_eq_false_iff_ne.2 h1
    subst h2
    clear h h1
    go_enter Tryz.func27, Tryz.ntmps27
    go_wp2_with fail
    go_ret
    exact ⟨rfl, HB.out⟩
set_option maxHeartbeats 2000000 in
/-- Different ones. -/
theorem below_differ (o1 o2 n1 n2 : Int) (s1 s2 t1 t2 : ByteArray) (p1 p2 A1 A2 : Option Addr) (m1 c1 m2 c2 : Nat) (w : World) (h1 : o1 ≠ 49) (h2 : o2 ≠ 48) (h : o1 ≠ o2 ∨ s1 ≠ s2) :
    Calls Tryz.prog 27 #[.agg #[.int .i64 o1, .int .i64 n1, .string s1, .string t1, .pointer p1, .slice A1 m1 c1], .agg #[.int .i64 o2, .int .i64 n2, .string s2, .string t2, .pointer p2, .slice A2 m2 c2]] w fun e w' => e = .returned (.bool false) ∧ Below w.heap.size w w' := by
  have HB := Lib.hid ((below_box w (.cells #[.int .i64 o1, .int .i64 n1, .string s1, .string t1, .pointer p1, .slice A1 m1 c1] 74)).trans ((below_box _ (.cells #[.int .i64 o2, .int .i64 n2, .string s2, .string t2, .pointer p2, .slice A2 m2 c2] 74)).mono (by simp)))
  have e1 : (o1 == 49) = false := beq_eq_false_iff_ne.2 h1
  have e2 : (o2 == 48) = false := beq_eq_false_iff_ne.2 h2
  by_cases ho : o1 = o2
  · have hs := h.resolve_left (fun q => q ho)
    have e3 : (s1.toList == s2.toList) = false := beq_eq_false_iff_ne.2 (fun q => hs (toList_inj q))
    subst ho
    clear h hs h1 h2
    go_enter Tryz.func27, Tryz.ntmps27
    go_wp2_with fail
    go_ret
    exact ⟨rfl, HB.out⟩
  · have e3 : (o1 == o2) = false := beq_eq_false_iff_ne.2 ho
    have e4 : (o1 != o2) = true := by rw [bne_iff_ne]; exact ho
    clear h h1 h2 ho
    go_enter Tryz.func27, Tryz.ntmps27
    go_wp2_with fail
    go_ret
    exact ⟨rfl, HB.out⟩
set_option maxHeartbeats 2000000 in
/-- The same without parts. -/
theorem below_same (o n1 n2 : Int) (s1 t1 t2 : ByteArray) (p1 p2 : Option Addr) (w : World) (h1 : o ≠ 49) (h2 : o ≠ 48) (h3 : o ≠ 45) :
    Calls Tryz.prog 27 #[.agg #[.int .i64 o, .int .i64 n1, .string s1, .string t1, .pointer p1, .slice none 0 0], .agg #[.int .i64 o, .int .i64 n2, .string s1, .string t2, .pointer p2, .slice none 0 0]] w fun e w' => e = .returned (.bool true) ∧ Below w.heap.size w w' := by
  have HB := Lib.hid ((below_box w (.cells #[.int .i64 o, .int .i64 n1, .string s1, .string t1, .pointer p1, .slice none 0 0] 74)).trans ((below_box _ (.cells #[.int .i64 o, .int .i64 n2, .string s1, .string t2, .pointer p2, .slice none 0 0] 74)).mono (by simp)))
  have e1 : (o == 49) = false := beq_eq_false_iff_ne.2 h1
  have e2 : (o == 48) = false := beq_eq_false_iff_ne.2 h2
  have e3 : (o == 45) = false := beq_eq_false_iff_ne.2 h3
  clear h1 h2 h3
  go_enter Tryz.func27, Tryz.ntmps27
  go_wp2_with fail
  go_loopw [58] (fun i wr => i = .int .i64 0 ∧ Hid (wr = ((w.alloc (.cells #[.int .i64 o, .int .i64 n1, .string s1, .string t1, .pointer p1, .slice none 0 0] 74)).alloc (.cells #[.int .i64 o, .int .i64 n2, .string s1, .string t2, .pointer p2, .slice none 0 0] 74)))) (fun _ _ => 0)
  case atStart => exact ⟨rfl, Lib.hid rfl⟩
  case round =>
    obtain ⟨rfl, hw⟩ := hrel
    have X2 := bx6_new (w.alloc (.cells #[.int .i64 o, .int .i64 n1, .string s1, .string t1, .pointer p1, .slice none 0 0] 74)) (.int .i64 o) (.int .i64 n2) (.string s1) (.string t2) (.pointer p2) (.slice none 0 0) 74
    have hsz : (w.alloc (.cells #[.int .i64 o, .int .i64 n1, .string s1, .string t1, .pointer p1, .slice none 0 0] 74)).heap.size = w.heap.size + 1 := by simp
    rw [hsz, ← hw.out] at X2
    have HB1 := HB.out
    rw [← hw.out] at HB1
    have HB2 := Lib.hid HB1
    obtain ⟨c0, c1, c2, c3, c4, c5, -, -, -, -, -, -⟩ := X2
    clear hsz hw HB HB1
    go_wp2_with fail
    obtain ⟨w5, rfl⟩ : ∃ w5 : World, w5 = wr := ⟨_, rfl⟩
    go_loopw [92] (fun i wr => i = .int .i64 0 ∧ wr = w5) (fun _ _ => 0)
    case atStart => exact ⟨rfl, rfl⟩
    case round =>
      obtain ⟨rfl, rfl⟩ := hrel
      go_wp2_with fail
      go_ret
      exact ⟨rfl, HB2.out⟩
set_option maxHeartbeats 2000000 in
/-- Of sets. -/
theorem below_sets (N : Nat) (ih : BelC N) (p q : Kd) (va vb : List Value) (w : World) (B : Nat → Prop) (h : p.sz ≤ N) (hp : p.sz ≤ 90000) (hq : q.sz ≤ 90000) (ha : KAt w B (.set p) va) (hb : KAt w B (.set q) vb) (op : p.valid) (oq : q.valid) (hB : ∀ b, B b → b < w.heap.size) :
    Calls Tryz.prog 27 #[.agg va.toArray, .agg vb.toArray] w fun e w' => e = .returned (.bool (belowK p q)) ∧ Below w.heap.size w w' := by
  obtain ⟨n1, b1, u1, rfl, hb1, r1, k1⟩ := ha
  obtain ⟨n2, b2, u2, rfl, hb2, r2, k2⟩ := hb
  have IH := Lib.hid (fun w' (hw : Below w.heap.size w w') => ih p q u1 u2 w' B h hp hq (k1.cong (fun b x => hw.block b (hB b x))) (k2.cong (fun b x => hw.block b (hB b x))) op oq (fun b x => Nat.lt_of_lt_of_le (hB b x) hw.size))
  obtain ⟨o3, n3, s3, t3, p3, A3, m3, c3, rfl⟩ := kat_six k1
  obtain ⟨o4, n4, s4, t4, p4, A4, m4, c4, rfl⟩ := kat_six k2
  have L1 := hB b1 hb1
  have L2 := hB b2 hb2
  have R1 := Lib.hid (fun w' (hw : Below w.heap.size w w') => r1.cong (w' := w') (hw.block b1 L1))
  have R2 := Lib.hid (fun w' (hw : Below w.heap.size w w') => r2.cong (w' := w') (hw.block b2 L2))
  clear k1 k2 r1 r2 ih hB hb1 hb2 L1 L2
  have HB := Lib.hid ((below_box w (.cells #[.int .i64 45, .int .i64 n1, .string emp, .string emp, .pointer (some ⟨b1, 0, none⟩), .slice none 0 0] 74)).trans ((below_box _ (.cells #[.int .i64 45, .int .i64 n2, .string emp, .string emp, .pointer (some ⟨b2, 0, none⟩), .slice none 0 0] 74)).mono (by simp)))
  have hsz : (w.alloc (.cells #[.int .i64 45, .int .i64 n1, .string emp, .string emp, .pointer (some ⟨b1, 0, none⟩), .slice none 0 0] 74)).heap.size = w.heap.size + 1 := by simp
  have X1 := (bx6_new w (.int .i64 45) (.int .i64 n1) (.string emp) (.string emp) (.pointer (some ⟨b1, 0, none⟩)) (.slice none 0 0) 74).keep (below_box _ (.cells #[.int .i64 45, .int .i64 n2, .string emp, .string emp, .pointer (some ⟨b2, 0, none⟩), .slice none 0 0] 74))
  have X2 := bx6_new (w.alloc (.cells #[.int .i64 45, .int .i64 n1, .string emp, .string emp, .pointer (some ⟨b1, 0, none⟩), .slice none 0 0] 74)) (.int .i64 45) (.int .i64 n2) (.string emp) (.string emp) (.pointer (some ⟨b2, 0, none⟩)) (.slice none 0 0) 74
  rw [hsz] at X2
  generalize belowK p q = bb at *
  go_enter Tryz.func27, Tryz.ntmps27
  go_wp2_with fail
  obtain ⟨w2, hw2⟩ : ∃ w2, (w.alloc (.cells #[.int .i64 45, .int .i64 n1, .string emp, .string emp, .pointer (some ⟨b1, 0, none⟩), .slice none 0 0] 74)).alloc (.cells #[.int .i64 45, .int .i64 n2, .string emp, .string emp, .pointer (some ⟨b2, 0, none⟩), .slice none 0 0] 74) = w2 := ⟨_, rfl⟩
  rw [hw2] at X1 X2 HB ⊢
  clear hw2 hsz
  have Q1 := R1.out _ HB.out
  have Q2 := R2.out _ HB.out
  have d0 := Q1 0 _ rfl
  have d1 := Q1 1 _ rfl
  have d2 := Q1 2 _ rfl
  have d3 := Q1 3 _ rfl
  have d4 := Q1 4 _ rfl
  have d5 := Q1 5 _ rfl
  have g0 := Q2 0 _ rfl
  have g1 := Q2 1 _ rfl
  have g2 := Q2 2 _ rfl
  have g3 := Q2 3 _ rfl
  have g4 := Q2 4 _ rfl
  have g5 := Q2 5 _ rfl
  have ad : ∀ (b j : Nat), (⟨b, 0, none⟩ : Addr).add j = ⟨b, j, none⟩ := fun b j => by
    unfold Addr.add
    split
    · rename_i h0; subst h0; rfl
    · simp
  rw [ad] at d0 d1 d2 d3 d4 d5 g0 g1 g2 g3 g4 g5
  clear ad Q1 Q2
  replace d0 := cell_regrown d0
  replace d1 := cell_regrown d1
  replace d2 := cell_regrown d2
  replace d3 := cell_regrown d3
  replace d4 := cell_regrown d4
  replace d5 := cell_regrown d5
  replace g0 := cell_regrown g0
  replace g1 := cell_regrown g1
  replace g2 := cell_regrown g2
  replace g3 := cell_regrown g3
  replace g4 := cell_regrown g4
  replace g5 := cell_regrown g5
  have v1 := cell_regrown X1.c4
  have v2 := cell_regrown X2.c4
  have hq : ∀ w', Below w2.heap.size w2 w' → Below w.heap.size w w' := fun w' hb => HB.out.trans (hb.mono HB.out.size)
  have K := rq (w := w2) (v := .bool bb) (fun w' hb => IH.out w' (hq w' hb))
  clear hq R1 R2 IH X1 X2
  refine wp_region_quiet_below (by kernel_rfl) (by kernel_rfl) ?_
  repeat (first | go_big_quiet_step (exact K _ _) | quiet_step (exact K _ _))
  refine wpQuiet_nil ?_
  intro w3 hw'
  have b3 := Lib.hid (show Below w2.heap.size w2 w3 by obtain ⟨⟨d, os⟩, rfl⟩ := hw'; exact below_regrown _ _ _)
  clear hw'
  have B3 := bh HB b3.out
  clear d0 d1 d2 d3 d4 d5 g0 g1 g2 g3 g4 g5 v1 v2 K
  go_wp2_with fail
  go_ret
  exact ⟨rfl, B3.out⟩
end Go.Proofs.YtnolmlhcikcceaaGreatDoor
namespace Go.Proofs.YtnolmlhcikcceaaGreatDoor
open Go.RowKit Go.Wk Go.Sort
set_option maxRecDepth 100000

set_option maxHeartbeats 8000000 in
theorem below_recs (N : Nat) (ih : BelC N) (f g : Fl) (va vb : List Value) (w : World) (B : Nat → Prop) (h : f.sz ≤ N) (hp : f.sz ≤ 90000) (hq : g.sz ≤ 90000) (ha : KAt w B (.fs f) va) (hb : KAt w B (.fs g) vb) (vf : (Kd.fs f).valid) (vg : (Kd.fs g).valid) (hB : ∀ b, B b → b < w.heap.size) :
    Calls Tryz.prog 27 #[.agg va.toArray, .agg vb.toArray] w fun e w' => e = .returned (.bool (belowF f g && mustF g f)) ∧ Below w.heap.size w w' := by
  have of := valid_fs.1 vf
  have og := valid_fs.1 vg
  clear vf vg
  obtain ⟨n1, A1, c1, rfl, hc1, hm1, k1⟩ := ha
  obtain ⟨n2, A2, c2, rfl, hc2, hm2, k2⟩ := hb
  have L1 := len_sz f
  have L2 := len_sz g
  rw [len_list] at hc1 hc2 L1 L2 ⊢
  rw [len_list]
  obtain ⟨m1, hn1⟩ : ∃ m1, m1 = f.list.length := ⟨_, rfl⟩
  obtain ⟨m2, hn2⟩ : ∃ m2, m2 = g.list.length := ⟨_, rfl⟩
  rw [← hn1] at hc1 L1 ⊢
  rw [← hn2] at hc2 L2 ⊢
  have KF := Lib.hid k1
  have KG := Lib.hid k2
  have HN1 := Lib.hid hn1
  have HN2 := Lib.hid hn2
  have HBD := Lib.hid hB
  have IH := Lib.hid ih
  clear k1 k2 hn1 hn2 hB ih
  have HB := Lib.hid ((below_box w (.cells #[.int .i64 46, .int .i64 n1, .string ⟨#[]⟩, .string ⟨#[]⟩, .pointer none, .slice A1 m1 c1] 74)).trans ((below_box _ (.cells #[.int .i64 46, .int .i64 n2, .string ⟨#[]⟩, .string ⟨#[]⟩, .pointer none, .slice A2 m2 c2] 74)).mono (by simp)))
  have hsz : (w.alloc (.cells #[.int .i64 46, .int .i64 n1, .string ⟨#[]⟩, .string ⟨#[]⟩, .pointer none, .slice A1 m1 c1] 74)).heap.size = w.heap.size + 1 := by simp
  have X1 := (bx6_new w (.int .i64 46) (.int .i64 n1) (.string ⟨#[]⟩) (.string ⟨#[]⟩) (.pointer none) (.slice A1 m1 c1) 74).keep (below_box _ (.cells #[.int .i64 46, .int .i64 n2, .string ⟨#[]⟩, .string ⟨#[]⟩, .pointer none, .slice A2 m2 c2] 74))
  have X2 := bx6_new (w.alloc (.cells #[.int .i64 46, .int .i64 n1, .string ⟨#[]⟩, .string ⟨#[]⟩, .pointer none, .slice A1 m1 c1] 74)) (.int .i64 46) (.int .i64 n2) (.string ⟨#[]⟩) (.string ⟨#[]⟩) (.pointer none) (.slice A2 m2 c2) 74
  rw [hsz] at X2
  obtain ⟨res, hres⟩ : ∃ res, res = (belowF f g && mustF g f) := ⟨_, rfl⟩
  have HRES := Lib.hid (hres.trans (by rw [belowF_all, mustF_all]))
  rw [← hres]
  clear hres
  change Calls Tryz.prog 27 #[.agg #[.int .i64 46, .int .i64 n1, .string ⟨#[]⟩, .string ⟨#[]⟩, .pointer none, .slice A1 m1 c1], .agg #[.int .i64 46, .int .i64 n2, .string ⟨#[]⟩, .string ⟨#[]⟩, .pointer none, .slice A2 m2 c2]] w _
  go_enter Tryz.func27, Tryz.ntmps27
  go_wp2_with fail
  obtain ⟨w2, hw2⟩ : ∃ w2, (w.alloc (.cells #[.int .i64 46, .int .i64 n1, .string ⟨#[]⟩, .string ⟨#[]⟩, .pointer none, .slice A1 m1 c1] 74)).alloc (.cells #[.int .i64 46, .int .i64 n2, .string ⟨#[]⟩, .string ⟨#[]⟩, .pointer none, .slice A2 m2 c2] 74) = w2 := ⟨_, rfl⟩
  have HZ := Lib.hid (show w2.heap.size = w.heap.size + 2 by rw [← hw2]; simp)
  rw [hw2] at X1 X2 HB ⊢
  have HX1 := Lib.hid X1
  have HX2 := Lib.hid X2
  clear hw2 hsz X1 X2
  go_loopw [58] (fun i wr => ∃ k : Nat, i = .int .i64 k ∧ k ≤ m1 ∧ Hid ((f.list.take k).all (oneIn g) = true) ∧ Hid (Below w2.heap.size w2 wr)) (fun i _ => m1 - (intOf i).toNat)
  case atStart => exact ⟨0, rfl, Nat.zero_le _, Lib.hid rfl, Lib.hid (Below.refl _ _)⟩
  case round =>
    obtain ⟨k, rfl, hk, hAll, hW⟩ := hrel
    have HX1r := Lib.hid (HX1.out.keep hW.out)
    have HX2r := Lib.hid (HX2.out.keep hW.out)
    have HBr := Lib.hid (HB.out.trans (hW.out.mono (by have := HZ.out; omega)))
    by_cases hlt : k < m1
    · have hkl : k < f.list.length := by rw [← HN1.out]; exact hlt
      obtain ⟨a, rfl, hfd⟩ := ((KF.out.cong (w' := wr) (fun b hb => HBr.out.block b (HBD.out b hb))).at) k _ (List.getElem?_eq_getElem hkl)
      rw [Nat.zero_add] at hfd
      have HBAD := Lib.hid (fun hx => all_bad (p := oneIn g) hkl hx)
      have HGOOD := Lib.hid (fun hx => all_take_succ (p := oneIn g) hkl hAll.out hx)
      have HYO := Lib.hid (show f.list[k].2.2.valid ∧ f.list[k].2.2.sz < f.sz from by
        have hfi := (find_list of.1 (s := f.list[k].1) (m := f.list[k].2.1) (k := f.list[k].2.2)).2 (List.getElem_mem hkl)
        exact ⟨find_valid of.2 hfi, find_sz hfi⟩)
      obtain ⟨y, hy⟩ : ∃ y, y = f.list[k] := ⟨_, rfl⟩
      rw [← hy] at hfd HBAD HGOOD HYO
      clear hy
      obtain ⟨o, nn, s0, t0, p, A', m', c', hkat, q0, q1, q2, q3, q4, q5, q6, q7⟩ := hfd.cells
      have HKY := Lib.hid hkat
      clear hfd hkat
      have hm1w : m1 ≤ 100000 := by omega
      have hm2w : m2 ≤ 100000 := by omega
      obtain ⟨x0, x1, x2, x3, x4, x5, -, -, -, -, -, -⟩ := HX2r.out
      have hl2 : w.heap.size + 1 < wr.heap.size := block_lt_of_cell x0
      have Ba := below_box wr (.cells #[.string y.1, .bool y.2.1, .int .i64 o, .int .i64 nn, .string s0, .string t0, .pointer p, .slice A' m' c'] 124)
      have Y4 := bx8_new wr (.string y.1) (.bool y.2.1) (.int .i64 o) (.int .i64 nn) (.string s0) (.string t0) (.pointer p) (.slice A' m' c') 124
      go_wp2_with fail
      obtain ⟨wa, hwa⟩ : ∃ wa, wr.alloc (.cells #[.string y.1, .bool y.2.1, .int .i64 o, .int .i64 nn, .string s0, .string t0, .pointer p, .slice A' m' c'] 124) = wa := ⟨_, rfl⟩
      rw [hwa] at Ba Y4 ⊢
      clear hwa x0 x1 x2 x3 x4 x5 q0 q1 q2 q3 q4 q5 q6 q7
      have hBa : Below w.heap.size w wa := HBr.out.trans (Ba.mono HBr.out.size)
      refine (kind_find A2 m2 c2 g B _ _ _ _ _ y.1 wa (KG.out.cong (fun b hb => hBa.block b (HBD.out b hb))) HN2.out hm2w hc2 og.1 (fun b hb => Nat.lt_of_lt_of_le (HBD.out b hb) hBa.size)).mono ?_
      rintro e w4 ⟨b4, hpost⟩
      have Y5 := Lib.hid (Y4.keep b4)
      have BW4 := Lib.hid (hW.out.trans ((Ba.trans (b4.mono Ba.size)).mono hW.out.size))
      have BW5 := BW4
      have HKY4 := Lib.hid (HKY.out.cong (w' := w4) fun b hb => (Ba.trans (b4.mono Ba.size)).block b (Nat.lt_of_lt_of_le (HBD.out b hb) HBr.out.size))
      have HS4 := Lib.hid (show w2.heap.size ≤ w4.heap.size from BW4.out.size)
      have HBw4 := Lib.hid (show w.heap.size ≤ w4.heap.size by have := HZ.out; have := HS4.out; omega)
      clear b4 Ba Y4 hBa hW
      obtain ⟨y0, y1, y2, y3, y4, y5, y6, y7, -, -, -, -, -, -, -, -⟩ := Y5.out
      have hl5 : wr.heap.size < w4.heap.size := block_lt_of_cell y0
      rcases hfg : g.find y.1 with _ | ⟨mm, k'⟩
      · rw [hfg] at hpost
        have hpost : e = .returned (.tuple #[.agg #[.string ⟨#[]⟩, .bool false, .int .i64 0, .int .i64 0, .string ⟨#[]⟩, .string ⟨#[]⟩, .pointer none, .slice none 0 0], .bool false]) := hpost
        subst hpost
        have HX := Lib.hid (show oneIn g y = false by unfold oneIn; rw [hfg])
        obtain rfl : res = false := by rw [HRES.out, HBAD.out HX.out]; rfl
        clear hfg
        go_wp2_with fail
        go_ret
        exact ⟨rfl, HB.out.trans ((BW5.out.trans ((below_box _ _).mono HS4.out)).mono (by have := HZ.out; omega))⟩
      · rw [hfg] at hpost
        obtain ⟨u, rfl, hk'⟩ := hpost
        have HFG := Lib.hid hfg
        have HKO := Lib.hid (show k'.valid ∧ k'.sz < g.sz from ⟨find_valid og.2 hfg, find_sz hfg⟩)
        obtain ⟨o2, n2', s2, t2, p2, A2', m2', c2', rfl⟩ := kat_six hk'
        have HC := Lib.hid (fun w' (hb : Below w4.heap.size w4 w') => IH.out y.2.2 k' _ _ w' B (by have := HYO.out.2; omega) (by have := HYO.out.2; omega) (by have := HKO.out.2; omega) (HKY4.out.cong fun b hb' => hb.block b (Nat.lt_of_lt_of_le (HBD.out b hb') HBw4.out)) (hk'.cong fun b hb' => hb.block b (Nat.lt_of_lt_of_le (HBD.out b hb') HBw4.out)) HYO.out.1 HKO.out.1 (fun b hb' => Nat.lt_of_lt_of_le (HBD.out b hb') (Nat.le_trans HBw4.out hb.size)))
        clear hk' hfg
        cases hm' : mm with
        | true =>
          subst hm'
          cases hym : y.2.1 with
          | false =>
            rw [hym] at y1
            have HX := Lib.hid (show oneIn g y = false by unfold oneIn; rw [HFG.out]; simp [hym])
            obtain rfl : res = false := by rw [HRES.out, HBAD.out HX.out]; rfl
            go_wp2_with fail
            go_ret
            exact ⟨rfl, HB.out.trans ((BW5.out.trans ((below_box _ _).mono HS4.out)).mono (by have := HZ.out; omega))⟩
          | true =>
            rw [hym] at y1
            go_wp2_with fail
            refine (HC.out _ (below_box _ _)).mono ?_
            rintro e w6 ⟨rfl, b6⟩
            have B6 := Lib.hid (BW5.out.trans (((below_box _ _).trans (b6.mono (by simp))).mono HS4.out))
            clear b6 HC
            rcases hr : belowK y.2.2 k' with _ | _
            · have HX := Lib.hid (show oneIn g y = false by unfold oneIn; rw [HFG.out]; simp [hr])
              obtain rfl : res = false := by rw [HRES.out, HBAD.out HX.out]; rfl
              go_wp2_with fail
              go_ret
              exact ⟨rfl, HB.out.trans (B6.out.mono (by have := HZ.out; omega))⟩
            · have HX := Lib.hid (show oneIn g y = true by unfold oneIn; rw [HFG.out]; simp [hr, hym])
              have HG2 := Lib.hid (HGOOD.out HX.out)
              go_wp2_with fail
              go_roundw
              case rel => exact ⟨k + 1, by go_num, hlt, HG2, B6⟩
              case measure => simp [intOf]; omega
        | false =>
          subst hm'
          go_wp2_with fail
          refine (HC.out _ (below_box _ _)).mono ?_
          rintro e w6 ⟨rfl, b6⟩
          have B6 := Lib.hid (BW5.out.trans (((below_box _ _).trans (b6.mono (by simp))).mono HS4.out))
          clear b6 HC
          rcases hr : belowK y.2.2 k' with _ | _
          · have HX := Lib.hid (show oneIn g y = false by unfold oneIn; rw [HFG.out]; simp [hr])
            obtain rfl : res = false := by rw [HRES.out, HBAD.out HX.out]; rfl
            go_wp2_with fail
            go_ret
            exact ⟨rfl, HB.out.trans (B6.out.mono (by have := HZ.out; omega))⟩
          · have HX := Lib.hid (show oneIn g y = true by unfold oneIn; rw [HFG.out]; simp [hr])
            have HG2 := Lib.hid (HGOOD.out HX.out)
            go_wp2_with fail
            go_roundw
            case rel => exact ⟨k + 1, by go_num, hlt, HG2, B6⟩
            case measure => simp [intOf]; omega
    · have hk1 : k = m1 := by omega
      have HA1 := Lib.hid (show f.list.all (oneIn g) = true by
        have := hAll.out
        rwa [hk1, HN1.out, List.take_length] at this)
      clear hAll hk1
      obtain ⟨x0, x1, x2, x3, x4, x5, -, -, -, -, -, -⟩ := HX1r.out
      obtain ⟨z0, z1, z2, z3, z4, z5, -, -, -, -, -, -⟩ := HX2r.out
      have hm1w : m1 ≤ 100000 := by omega
      have hm2w : m2 ≤ 100000 := by omega
      go_wp2_with fail
      go_loopw [92] (fun i wr2 => ∃ k : Nat, i = .int .i64 k ∧ k ≤ m2 ∧ Hid ((g.list.take k).all (fun y : Kfd => !y.2.1 || (f.find y.1).isSome) = true) ∧ Hid (Below w2.heap.size w2 wr2)) (fun i _ => m2 - (intOf i).toNat)
      case atStart => exact ⟨0, rfl, Nat.zero_le _, Lib.hid rfl, hW⟩
      case round =>
        clear x0 x1 x2 x3 x4 x5 z0 z1 z2 z3 z4 z5 HX1r HX2r HBr hW
        obtain ⟨k2, rfl, hk2, hAll, hW⟩ := hrel
        have HX1r := Lib.hid (HX1.out.keep hW.out)
        have HX2r := Lib.hid (HX2.out.keep hW.out)
        have HBr := Lib.hid (HB.out.trans (hW.out.mono (by have := HZ.out; omega)))
        by_cases hlt2 : k2 < m2
        · have hkl : k2 < g.list.length := by rw [← HN2.out]; exact hlt2
          obtain ⟨a, rfl, hfd⟩ := ((KG.out.cong (w' := wr) (fun b hb => HBr.out.block b (HBD.out b hb))).at) k2 _ (List.getElem?_eq_getElem hkl)
          rw [Nat.zero_add] at hfd
          have HBAD := Lib.hid (fun hx => all_bad (p := (fun y : Kfd => !y.2.1 || (f.find y.1).isSome)) hkl hx)
          have HGOOD := Lib.hid (fun hx => all_take_succ (p := (fun y : Kfd => !y.2.1 || (f.find y.1).isSome)) hkl hAll.out hx)
          obtain ⟨y, hy⟩ : ∃ y, y = g.list[k2] := ⟨_, rfl⟩
          rw [← hy] at hfd HBAD HGOOD
          clear hy
          obtain ⟨o, nn, s0, t0, p, A', m', c', hkat, q0, q1, q2, q3, q4, q5, q6, q7⟩ := hfd.cells
          clear hfd hkat
          obtain ⟨x0, x1, x2, x3, x4, x5, -, -, -, -, -, -⟩ := HX1r.out
          have hl2 : w.heap.size < wr.heap.size := block_lt_of_cell x0
          have Ba := below_box wr (.cells #[.string y.1, .bool y.2.1, .int .i64 o, .int .i64 nn, .string s0, .string t0, .pointer p, .slice A' m' c'] 124)
          have Y4 := bx8_new wr (.string y.1) (.bool y.2.1) (.int .i64 o) (.int .i64 nn) (.string s0) (.string t0) (.pointer p) (.slice A' m' c') 124
          go_wp2_with fail
          obtain ⟨wa, hwa⟩ : ∃ wa, wr.alloc (.cells #[.string y.1, .bool y.2.1, .int .i64 o, .int .i64 nn, .string s0, .string t0, .pointer p, .slice A' m' c'] 124) = wa := ⟨_, rfl⟩
          rw [hwa] at Ba Y4 ⊢
          clear hwa x0 x1 x2 x3 x4 x5 q0 q1 q2 q3 q4 q5 q6 q7
          have hBa : Below w.heap.size w wa := HBr.out.trans (Ba.mono HBr.out.size)
          refine (kind_find A1 m1 c1 f B _ _ _ _ _ y.1 wa (KF.out.cong (fun b hb => hBa.block b (HBD.out b hb))) HN1.out hm1w hc1 of.1 (fun b hb => Nat.lt_of_lt_of_le (HBD.out b hb) hBa.size)).mono ?_
          rintro e w4 ⟨b4, hpost⟩
          have Y5 := Lib.hid (Y4.keep b4)
          have BW4 := Lib.hid (hW.out.trans ((Ba.trans (b4.mono Ba.size)).mono hW.out.size))
          have HS4 := Lib.hid (show w2.heap.size ≤ w4.heap.size from BW4.out.size)
          have BWa := Lib.hid (fun o => BW4.out.trans ((below_box w4 o).mono HS4.out))
          clear b4 Ba Y4 hBa hW
          obtain ⟨y0, y1, y2, y3, y4, y5, y6, y7, -, -, -, -, -, -, -, -⟩ := Y5.out
          have hl5 : wr.heap.size < w4.heap.size := block_lt_of_cell y0
          rcases hfg : f.find y.1 with _ | ⟨mm, k'⟩
          · rw [hfg] at hpost
            have hpost : e = .returned (.tuple #[.agg #[.string ⟨#[]⟩, .bool false, .int .i64 0, .int .i64 0, .string ⟨#[]⟩, .string ⟨#[]⟩, .pointer none, .slice none 0 0], .bool false]) := hpost
            subst hpost
            cases hym : y.2.1 with
            | true =>
              rw [hym] at y1
              have HX := Lib.hid (show (fun y : Kfd => !y.2.1 || (f.find y.1).isSome) y = false by simp [hfg, hym])
              obtain rfl : res = false := by rw [HRES.out, HBAD.out HX.out, Bool.and_false]
              clear hfg
              go_wp2_with fail
              go_ret
              exact ⟨rfl, HB.out.trans ((BWa.out _).mono (by have := HZ.out; omega))⟩
            | false =>
              rw [hym] at y1
              have HX := Lib.hid (show (fun y : Kfd => !y.2.1 || (f.find y.1).isSome) y = true by simp [hym])
              have HG2 := Lib.hid (HGOOD.out HX.out)
              clear hfg
              go_wp2_with fail
              go_roundw
              case rel => exact ⟨k2 + 1, by go_num, hlt2, HG2, Lib.hid (BWa.out _)⟩
              case measure => simp [intOf]; omega
          · rw [hfg] at hpost
            obtain ⟨u, rfl, hk'⟩ := hpost
            obtain ⟨o2, n2', s2, t2, p2, A2', m2', c2', rfl⟩ := kat_six hk'
            have HX := Lib.hid (show (fun y : Kfd => !y.2.1 || (f.find y.1).isSome) y = true by simp [hfg])
            have HG2 := Lib.hid (HGOOD.out HX.out)
            clear hk' hfg
            obtain ⟨ym, hym⟩ : ∃ ym, ym = y.2.1 := ⟨_, rfl⟩
            rw [← hym] at y1
            clear hym
            cases ym
            all_goals
              go_wp2_with fail
              go_roundw
              case rel => exact ⟨k2 + 1, by go_num, hlt2, HG2, Lib.hid (BWa.out _)⟩
              case measure => simp [intOf]; omega
        · have hk2e : k2 = m2 := by omega
          obtain rfl : res = true := by
            have := hAll.out
            rw [hk2e, HN2.out, List.take_length] at this
            rw [HRES.out, HA1.out, this]
            rfl
          go_wp2_with fail
          go_ret
          exact ⟨rfl, HBr.out⟩
end Go.Proofs.YtnolmlhcikcceaaGreatDoor
namespace Go.Proofs.YtnolmlhcikcceaaGreatDoor
open Go.RowKit Go.Wk Go.Sort
set_option maxRecDepth 100000

theorem opN_base {x : Int} (h : (Kd.base x).valid) : x = 41 ∨ x = 42 ∨ x = 43 ∨ x = 48 ∨ x = 49 := h
/-- Types of one op and one name. -/
theorem same_head {a b : Kd} (ha : a.valid) (hb : b.valid) (h1 : opN a = opN b) (h2 : nmN a = nmN b) :
    (∃ x, a = .base x ∧ b = .base x) ∨ (∃ s, a = .ent s ∧ b = .ent s) ∨ (∃ p q, a = .set p ∧ b = .set q) ∨ ∃ f g, a = .fs f ∧ b = .fs g := by
  cases a with
  | base x =>
    have := opN_base ha
    cases b with
    | base y => simp only [opN] at h1; exact .inl ⟨x, rfl, by rw [h1]⟩
    | ent s => simp only [opN] at h1; omega
    | set q => simp only [opN] at h1; omega
    | fs g => simp only [opN] at h1; omega
  | ent s =>
    cases b with
    | base y => have := opN_base hb; simp only [opN] at h1; omega
    | ent t => simp only [nmN] at h2; exact .inr (.inl ⟨s, rfl, by rw [h2]⟩)
    | set q => simp [opN] at h1
    | fs g => simp [opN] at h1
  | set p =>
    cases b with
    | base y => have := opN_base hb; simp only [opN] at h1; omega
    | ent t => simp [opN] at h1
    | set q => exact .inr (.inr (.inl ⟨p, q, rfl, rfl⟩))
    | fs g => simp [opN] at h1
  | fs f =>
    cases b with
    | base y => have := opN_base hb; simp only [opN] at h1; omega
    | ent t => simp [opN] at h1
    | set q => simp [opN] at h1
    | fs g => exact .inr (.inr (.inr ⟨f, g, rfl, rfl⟩))
theorem none_op {a : Kd} (ha : a.valid) (h : opN a = 49) : a = .base 49 := by
  cases a with
  | base x => simp only [opN] at h; rw [h]
  | _ => simp [opN] at h
theorem any_op {a : Kd} (ha : a.valid) (h : opN a = 48) : a = .base 48 := by
  cases a with
  | base x => simp only [opN] at h; rw [h]
  | _ => simp [opN] at h
theorem below_no {a b : Kd} (h1 : opN a ≠ 49) (h2 : opN b ≠ 48) (h : opN a ≠ opN b ∨ nmN a ≠ nmN b) : belowK a b = false := by
  rw [Bool.eq_false_iff]
  intro e
  have hb : b ≠ .base 48 := fun q => h2 (by rw [q]; rfl)
  have ha : a ≠ .base 49 := fun q => h1 (by rw [q]; rfl)
  cases a with
  | base x =>
    rcases below_base.1 e with e | e | e
    · exact ha (by rw [e])
    · exact hb e
    · subst e; simp at h
  | ent s =>
    rcases below_ent.1 e with e | e
    · exact hb e
    · subst e; simp at h
  | set p =>
    rcases below_set.1 e with e | ⟨q, e, -⟩
    · exact hb e
    · subst e; simp [opN, nmN] at h
  | fs f =>
    rcases below_fs.1 e with e | ⟨g, e, -⟩
    · exact hb e
    · subst e; simp [opN, nmN] at h
theorem kat_none {w : World} {B : Nat → Prop} {k : Kd} {v : List Value} (h : KAt w B k v) (hb : (∃ x, k = .base x) ∨ ∃ s, k = .ent s) : ∃ (n : Int) , v = [.int .i64 (opN k), .int .i64 n, .string (nmN k), .string emp, .pointer none, .slice none 0 0] := by
  rcases hb with ⟨x, rfl⟩ | ⟨s, rfl⟩
  · obtain ⟨n, rfl⟩ := h; exact ⟨n, rfl⟩
  · obtain ⟨n, rfl⟩ := h; exact ⟨n, rfl⟩
theorem kind_below : ∀ N : Nat, BelC N
  | 0 => fun a _ _ _ _ _ h => by cases a <;> simp [Kd.sz] at h
  | N + 1 => by
    intro a b va vb w B h h1 h2 ha hb va' vb' hB
    obtain ⟨n1, p1, A1, m1, c1, e1⟩ := kat_head ha
    obtain ⟨n2, p2, A2, m2, c2, e2⟩ := kat_head hb
    by_cases hn : opN a = 49 ∨ opN b = 48
    · have hr : belowK a b = true := by
        rcases hn with hn | hn
        · rw [none_op va' hn]; exact none_below _ _ rfl
        · rw [any_op vb' hn]; exact below_any _ _ rfl
      rw [hr, e1, e2]
      exact below_end _ _ _ _ _ _ _ _ _ _ _ _ _ _ _ _ w hn
    · have h49 : opN a ≠ 49 := fun e => hn (.inl e)
      have h48 : opN b ≠ 48 := fun e => hn (.inr e)
      by_cases hd : opN a ≠ opN b ∨ nmN a ≠ nmN b
      · rw [below_no h49 h48 hd, e1, e2]
        exact below_differ _ _ _ _ _ _ _ _ _ _ _ _ _ _ _ _ w h49 h48 hd
      · have ho : opN a = opN b := Decidable.byContradiction fun e => hd (.inl e)
        have hs : nmN a = nmN b := Decidable.byContradiction fun e => hd (.inr e)
        rcases same_head va' vb' ho hs with ⟨x, rfl, rfl⟩ | ⟨s, rfl, rfl⟩ | ⟨p, q, rfl, rfl⟩ | ⟨f, g, rfl, rfl⟩
        · obtain ⟨k1, rfl⟩ := kat_none ha (.inl ⟨x, rfl⟩)
          obtain ⟨k2, rfl⟩ := kat_none hb (.inl ⟨x, rfl⟩)
          rw [below_base.2 (.inr (.inr rfl))]
          exact below_same x k1 k2 emp emp emp none none w h49 h48 (fun e => by have := opN_base va'; omega)
        · obtain ⟨k1, rfl⟩ := kat_none ha (.inr ⟨s, rfl⟩)
          obtain ⟨k2, rfl⟩ := kat_none hb (.inr ⟨s, rfl⟩)
          rw [below_ent.2 (.inr rfl)]
          exact below_same 44 k1 k2 s emp emp none none w h49 h48 (by decide)
        · have hr : belowK (.set p) (.set q) = belowK p q := by simp [belowK, isAny]
          simp only [Kd.sz] at h h1 h2
          rw [hr]
          exact below_sets N (kind_below N) p q va vb w B (by omega) (by omega) (by omega) ha hb va' vb' hB
        · have hr : belowK (.fs f) (.fs g) = (belowF f g && mustF g f) := by simp [belowK, isAny]
          simp only [Kd.sz] at h h1 h2
          rw [hr]
          exact below_recs N (kind_below N) f g va vb w B (by omega) (by omega) (by omega) ha hb va' vb' hB
end Go.Proofs.YtnolmlhcikcceaaGreatDoor
namespace Go.Proofs.YtnolmlhcikcceaaGreatDoor
open Go.RowKit Go.Wk Go.Sort
set_option maxRecDepth 100000

theorem flat_head (k : Kd) : ∃ (x : Int) (r : List Nd), k.flat = ⟨opN k, x, nmN k, emp⟩ :: r := by
  cases k with
  | base x => exact ⟨_, _, rfl⟩
  | ent s => exact ⟨_, _, rfl⟩
  | set q => exact ⟨_, _, rfl⟩
  | fs f => exact ⟨_, _, rfl⟩
/-- The head of a type's nodes, as it lies. -/
theorem head_at {w : World} {A : Option Addr} {n c : Nat} {k : Kd} (h : Ns w A n c k.flat) : ∃ a, A = some a ∧ 1 ≤ n ∧ w.cell? a = some (.int .i64 (opN k)) ∧ w.cell? ⟨a.block, a.off + 2, none⟩ = some (.string (nmN k)) := by
  obtain ⟨x, r, e⟩ := flat_head k
  obtain ⟨a, ea, d0, d1, d2, d3⟩ := h.at_ 0 ⟨opN k, x, nmN k, emp⟩ (by rw [e]; rfl)
  exact ⟨a, ea, by rw [h.len]; exact flat_pos k, d0, d2⟩
theorem fl_len_flat (g : Fl) : g.len ≤ g.flat.length := by
  induction g using Fl.rec (motive_1 := fun _ => True) with
  | nil => exact Nat.zero_le _
  | cons s m k r _ ih => simp only [Fl.len, Fl.flat, List.length_cons, List.length_append]; omega
  | _ => trivial
theorem row_nd1 (w : World) (x : Nd) : (w.alloc (.cells #[.int .i64 x.op, .int .i64 x.n, .string x.s, .string x.t] 35)).ownsRow w.heap.size 35 4 (.slice (some ⟨w.heap.size, 0, none⟩) 1 1) 1 (ndCells [x]) :=
  ⟨rfl, .inr ⟨_, 1, _, rfl, Nat.le_refl _, heap_alloc_new w _, Nat.le_refl _, by unfold maxLen; omega, rfl, rfl⟩⟩
end Go.Proofs.YtnolmlhcikcceaaGreatDoor
