/-
  Fields of types in a row of the call's own: their cells.
-/
import Derived.Test.YtocchkmhnneiiaaKindFind
import Derived.Test.YtocchkmhnneiiaaKindAll
import Derived.Laws.AppendOwnNone
import Derived.Maps.AppendAt
namespace Go.Proofs.Ytocchkmhnneiiaa
open Go.RowKit Go.Wk Go.Sort
set_option maxRecDepth 100000

/-- A field, and the cells of its type. -/
structure Fe where
  y : Kfd
  o : Int
  n : Int
  s : ByteArray
  t : ByteArray
  p : Option Addr
  A : Option Addr
  m : Nat
  c : Nat
def Fe.u (x : Fe) : List Value := [.int .i64 x.o, .int .i64 x.n, .string x.s, .string x.t, .pointer x.p, .slice x.A x.m x.c]
def Fe.eight (x : Fe) : List Value := .string x.y.1 :: .bool x.y.2.1 :: x.u
def feCells : List Fe → List Value
  | [] => []
  | x :: E => .string x.y.1 :: .bool x.y.2.1 :: .int .i64 x.o :: .int .i64 x.n :: .string x.s :: .string x.t :: .pointer x.p :: .slice x.A x.m x.c :: feCells E
@[simp] theorem feCells_length (E : List Fe) : (feCells E).length = E.length * 8 := by
  induction E with
  | nil => rfl
  | cons x E ih => simp only [feCells, List.length_cons, ih]; omega
theorem feCells_append (U V : List Fe) : feCells (U ++ V) = feCells U ++ feCells V := by
  induction U with
  | nil => rfl
  | cons u U ih => simp only [List.cons_append, feCells, ih]
theorem feCells_one (E : List Fe) : ∀ v ∈ feCells E, v.oneCell' = true := by
  induction E with
  | nil => intro v hv; cases hv
  | cons u U ih =>
    intro v hv
    simp only [feCells, List.mem_cons] at hv
    rcases hv with rfl | rfl | rfl | rfl | rfl | rfl | rfl | rfl | hv
    · rfl
    · rfl
    · rfl
    · rfl
    · rfl
    · rfl
    · rfl
    · rfl
    · exact ih v hv
theorem feCells_at : ∀ (E : List Fe) (k : Nat) (x : Fe), E[k]? = some x → ∀ j v, x.eight[j]? = some v → (feCells E)[k * 8 + j]? = some v
  | [], k, x, h => by simp at h
  | y :: E, 0, x, h => by
    simp at h; subst h
    intro j v hv
    rw [Nat.zero_mul, Nat.zero_add]
    match j, hv with
    | 0, hv => exact hv
    | 1, hv => exact hv
    | 2, hv => exact hv
    | 3, hv => exact hv
    | 4, hv => exact hv
    | 5, hv => exact hv
    | 6, hv => exact hv
    | 7, hv => exact hv
    | j + 8, hv => simp [Fe.eight, Fe.u] at hv
  | y :: E, k + 1, x, h => by
    intro j v hv
    have := feCells_at E k x (by simpa using h) j v hv
    rw [show (k + 1) * 8 + j = k * 8 + j + 1 + 1 + 1 + 1 + 1 + 1 + 1 + 1 by omega]
    simpa [feCells] using this
theorem fdInfo : (Try.prog.info? 51).map (fun i => (i.zero, i.size, i.bytes)) = some (some (.agg #[.string ⟨#[]⟩, .bool false, .int .i64 0, .int .i64 0, .string ⟨#[]⟩, .string ⟨#[]⟩, .pointer none, .slice none 0 0]), 8, 104) := by kernel_rfl
theorem add_add' (a : Addr) (x y : Nat) : (a.add x).add y = a.add (x + y) := by
  unfold Addr.add
  by_cases hx : x = 0 <;> by_cases hy : y = 0 <;> simp [hx, hy, Nat.add_assoc]
/-- Cells that stand in a row are fields. -/
theorem fat_of_cells {w : World} {B : Nat → Prop} {a : Addr} (hB : B a.block) : ∀ (E0 E : List Fe), (∀ j u, (feCells (E0 ++ E))[j]? = some u → w.cell? (a.add j) = some u) → (∀ x ∈ E, KAt w B x.y.2.2 x.u) → FAt w B (some a) E0.length (ofL (E.map Fe.y))
  | _, [], _, _ => trivial
  | E0, x :: E, h, hE => by
    refine ⟨⟨a, x.u, rfl, hB, fun j v hv => ?_, hE x (by simp)⟩, ?_⟩
    · rw [add_add']
      exact h _ _ (feCells_at (E0 ++ x :: E) E0.length x (by simp) j v hv)
    · have := fat_of_cells hB (E0 ++ [x]) E (by simpa using h) fun y hy => hE y (by simp [hy])
      simpa [ofL] using this
theorem ofL_len : ∀ L : List Kfd, (ofL L).len = L.length
  | [] => rfl
  | y :: r => by simp [ofL, Fl.len, ofL_len r]
/-- A row of the call's own that holds fields; what their types lead to lies elsewhere. -/
structure RowF (w : World) (base : Nat) (v : Value) (E : List Fe) : Prop where
  own : w.ownsRow base 51 8 v E.length (feCells E)
  ok : ∀ x ∈ E, KAt w (fun b => base ≤ b ∧ some b ≠ v.ownBlock) x.y.2.2 x.u
theorem RowF.nil (w : World) (base : Nat) : RowF w base (.slice none 0 0) [] := ⟨World.ownsRow_nil _ _ _ _, fun _ h => nomatch h⟩
theorem RowF.keep {w w' : World} {base : Nat} {v : Value} {E : List Fe} {R : Nat} (h : RowF w base v E) (hg : w.grownBy w' (some R)) (hR : R < base) : RowF w' base v E := by
  refine ⟨h.own.kept hg ?_, fun x hx => ?_⟩
  · rcases hv : v.ownBlock with _ | k
    · exact .inl rfl
    · refine .inr fun e => ?_
      injection e with e
      have := (h.own.lt k hv).1
      omega
  · have h1 := ((kat_mono (w := w) (B' := fun b => (base ≤ b ∧ some b ≠ v.ownBlock) ∧ b < w.heap.size) (fun b hb hl => ⟨hb, hl⟩) _).1 _ _ (Nat.le_refl _) (h.ok x hx))
    have h2 := h1.cong (w' := w') fun b hb => hg.block b hb.2 (fun e => by injection e with e; have := hb.1.1; omega)
    exact h2.mono fun b hb _ => hb.1
theorem RowF.keepN {w w' : World} {base : Nat} {v : Value} {E : List Fe} (h : RowF w base v E) (hg : w.grownBy w' none) : RowF w' base v E := by
  refine ⟨h.own.kept hg ?_, fun x hx => ?_⟩
  · rcases hv : v.ownBlock with _ | k
    · exact .inl rfl
    · exact .inr (fun e => nomatch e)
  · have h1 := ((kat_mono (w := w) (B' := fun b => (base ≤ b ∧ some b ≠ v.ownBlock) ∧ b < w.heap.size) (fun b hb hl => ⟨hb, hl⟩) _).1 _ _ (Nat.le_refl _) (h.ok x hx))
    have h2 := h1.cong (w' := w') fun b hb => hg.block b hb.2 (fun e => nomatch e)
    exact h2.mono fun b hb _ => hb.1
/-- What the row is as fields of a type. -/
theorem RowF.fat {w : World} {base : Nat} {v : Value} {E : List Fe} (h : RowF w base v E) : ∃ A c, v = .slice A E.length c ∧ FAt w (fun b => base ≤ b) A 0 (ofL (E.map Fe.y)) ∧ E.length ≤ c ∧ c ≤ maxLen := by
  obtain ⟨h1, h2⟩ := h
  have h0 := h1
  rcases h1.2 with ⟨rfl, e0⟩ | ⟨g, cap, cur, rfl, hB, hh, hc, hm, hrest⟩
  · have : E = [] := List.eq_nil_of_length_eq_zero e0
    subst this
    exact ⟨none, 0, rfl, trivial, Nat.le_refl _, Nat.zero_le _⟩
  · refine ⟨some ⟨g, 0, none⟩, cap, rfl, ?_, hc, hm⟩
    exact fat_of_cells (B := fun b => base ≤ b) (a := ⟨g, 0, none⟩) hB [] E (by simpa using h0.cells (g := g) rfl) fun x hx => (h2 x hx).mono fun b hb _ => hb.1
/-- One more. -/
theorem RowF.snoc {w w' : World} {base : Nat} {v v' : Value} {E : List Fe} {x : Fe} (h : RowF w base v E) (hx : KAt w (fun b => base ≤ b ∧ some b ≠ v.ownBlock) x.y.2.2 x.u) (hown : w'.ownsRow base 51 8 v' (E.length + 1) (feCells E ++ x.eight)) (hg : w.grownBy w' v.ownBlock)
    (hb : v'.ownBlock = v.ownBlock ∨ v'.ownBlock = some w.heap.size) : RowF w' base v' (E ++ [x]) := by
  refine ⟨?_, fun z hz => ?_⟩
  · rw [feCells_append, List.length_append]; exact hown
  · have hz' : KAt w (fun b => base ≤ b ∧ some b ≠ v.ownBlock) z.y.2.2 z.u := by
      rcases List.mem_append.1 hz with hz | hz
      · exact h.ok z hz
      · simp only [List.mem_cons, List.not_mem_nil, or_false] at hz; subst hz; exact hx
    have h1 := (kat_mono (w := w) (B' := fun b => (base ≤ b ∧ some b ≠ v.ownBlock) ∧ b < w.heap.size) (fun b hb hl => ⟨hb, hl⟩) _).1 _ _ (Nat.le_refl _) hz'
    have h2 := h1.cong (w' := w') fun b hb => hg.block b hb.2 (fun e => hb.1.2 (by rw [← e]))
    refine h2.mono fun b hb _ => ⟨hb.1.1, ?_⟩
    rcases ‹v'.ownBlock = v.ownBlock ∨ v'.ownBlock = some w.heap.size› with e | e
    · rw [e]; exact hb.1.2
    · rw [e]; intro q; injection q with q; have := hb.2; omega
/-- append of one field to such a row. -/
theorem wpList_append_fe {ops : Array Oper} {rest : List Oper} {o : Oper} {a : Act} {w : World} {Q : Exit → Act → World → Prop} (hgd : o.guard = none) (s x : Operand)
    (ho : o.op = .call { callee := .builtin .append, args := #[s, x], argTypes := #[37, 37] })
    (base : Nat) (v : Value) (E : List Fe) (hs : a.eval s = v) (hrow : RowF w base v E) (z : Fe) (ad : Addr) (m c : Nat) (hx : a.eval x = .slice (some ad) m c) (hm : m = 1)
    (hnews : ∀ j u, z.eight[j]? = some u → w.cell? (ad.add j) = some u) (hz : KAt w (fun b => base ≤ b ∧ some b ≠ v.ownBlock) z.y.2.2 z.u) (hl : E.length ≤ 1000000) (hbase : base ≤ w.heap.size)
    (h : ∀ v' w', RowF w' base v' (E ++ [z]) → w.grownBy w' v.ownBlock → wpList Try.prog ops Q rest (a.put o.dst v') w') : wpList Try.prog ops Q (o :: rest) a w := by
  subst hm
  have hi := fdInfo
  cases hq : Try.prog.info? 51 with
  | none => rw [hq] at hi; cases hi
  | some i0 =>
    rw [hq] at hi
    simp only [Option.map_some, Option.some.injEq, Prod.mk.injEq] at hi
    refine wpList_append_own_at w hgd s x _ ho base _ i0 _ 8 104 Try.underlying37 hq hi.1 hi.2.1 hi.2.2 (by decide) (by decide) v E.length (feCells E) hs hrow.own ad 1 c z.eight hx rfl hnews ?_ (by unfold maxLen; omega) (by omega) hbase ?_
    · intro u hu
      have := feCells_one [z] u (by simpa [feCells, Fe.eight, Fe.u] using hu)
      exact this
    · intro v' w' h1 h2 _ h4
      exact h v' w' (hrow.snoc hz h1 h2 h4) h2
end Go.Proofs.Ytocchkmhnneiiaa
