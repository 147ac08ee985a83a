/-
  What slices of slices of nodes, of texts and of numbers that come in are made of, and how many there can be.
-/
import Derived.Test.YtbjbimabgfpdoaaGreatRdNodes
import Derived.Test.YtbjbimabgfpdoaaGreatSls
import Derived.SizedLaws
namespace Go.Wk
open Go.ChangeShapes Go.WideShapes Go.RowKit Go.Deep
section
variable {P : Program} {w : World} {t e : TypeId}
/-- A slice that comes in: its elements, and what its datum tells of their number. -/
theorem trod_slice_at {H : Type} {enc : TypeId × Value → H} {b : Nat} {sp : Nat → Bool} {hd : Bool} {v : Value} {d : DataW H} {ps : List MemPlace} (ht : P.underlying t = some (.slice e)) (h : DataW.Trod enc P w b sp hd t v d ps) :
    ∃ (A : Option Addr) (n c : Nat), v.cells.toList = [.slice A n c] ∧ n ≤ c ∧ c ≤ maxLen ∧ (n = 0 ∨ ∃ elems spare, d = .slice elems spare ∧ elems.length = n) ∧
      ∀ i, i < n → ∃ a, A = some a ∧ ∃ cs' : List Value, cs'.length = P.cellsOf e ∧ (∀ j, j < P.cellsOf e → w.cell? (a.add (i * P.cellsOf e + j)) = cs'[j]?) ∧ Rd P w e cs' := by
  obtain ⟨f, hf⟩ := h
  rcases open_slice ht hf with ⟨h0, _⟩ | ⟨a, len, cap, m, n, D, Pl, hcs, hb, hl, hm, hmm, hx, hi⟩
  · exact ⟨none, 0, 0, h0, Nat.le_refl _, by unfold maxLen; omega, .inl rfl, fun i hi => by omega⟩
  · refine ⟨some a, len, cap, hcs, hl, hm, .inr ⟨_, _, congrArg Prod.fst hx, by simp⟩, fun i hil => ⟨a, rfl, ?_⟩⟩
    obtain ⟨cs', hc, ht'⟩ := hi i (by rw [hmm]; split <;> omega)
    obtain ⟨_, hcl, hat⟩ := World.cells?_some hc
    refine ⟨cs', hcl, fun j hj => ?_, ⟨H, enc, b, sp, hd, n, _, ht'⟩⟩
    have := hat j hj
    rw [← Go.Deep.add_add]
    exact this
/-- How many there can be. -/
theorem reach_len {H : Type} {ts : List TypeId} {ds : List (DataW H)} (h : (DataW.weightsEach P ts ds).all (· ≤ reachBytes) = true) {j : Nat} {d : DataW H} {n k : Nat} (ht : ts[j]? = some t) (hd : ds[j]? = some d) (hu : P.underlying t = some (.slice e))
    (hn : n = 0 ∨ ∃ elems spare, d = .slice elems spare ∧ elems.length = n) (hk : P.bytesOf e = k) : n * k ≤ 140737488351232 := by
  rcases hn with rfl | ⟨elems, spare, rfl, rfl⟩
  · omega
  · have := sized_slice h ht hd hu
    rw [hk] at this
    have h2 : elems.length * k ≤ (elems.length + spare.length) * k := Nat.mul_le_mul_right _ (Nat.le_add_right _ _)
    exact Nat.le_trans h2 this
end
end Go.Wk
namespace Go.Proofs.YtbjbimabgfpdoaaGreat
open Go.Wk Go.ChangeShapes Go.WideShapes Go.RowKit
set_option maxRecDepth 100000

theorem cells_nodes : Tryz.prog.cellsOf 31 = 1 := by kernel_rfl
theorem bytes_nodes : Tryz.prog.bytesOf 31 = 24 := by kernel_rfl
/-- A slice of numbers. -/
def IsAt (w : World) (A : Option Addr) (I : List Int) : Prop := ∀ (k : Nat) (x : Int), I[k]? = some x → ∃ a, A = some a ∧ w.cell? (a.add k) = some (.int .i64 x)
theorem IsAt.keep {w w' : World} {A : Option Addr} {I : List Int} (h : IsAt w A I) (hb : Below w.heap.size w w') : IsAt w' A I :=
  fun k x hk => let ⟨a, h1, h2⟩ := h k x hk; ⟨a, h1, cell_keep hb h2⟩
theorem open_ints {H : Type} {enc : TypeId × Value → H} {w : World} {b b0 : Nat} {sp : Nat → Bool} {hd : Bool} {v : Value} {d : DataW H} {ps : List MemPlace} {r : Reach}
    (hv : Value.okWide Tryz.prog w r b0 78 v) (h : DataW.Trod enc Tryz.prog w b sp hd 78 v d ps) :
    ∃ (A : Option Addr) (n c : Nat) (I : List Int), v = .slice A n c ∧ n = I.length ∧ IsAt w A I ∧ (∀ x ∈ I, -9223372036854775808 ≤ x ∧ x ≤ 9223372036854775807) ∧ (n = 0 ∨ ∃ elems spare, d = .slice elems spare ∧ elems.length = n) := by
  obtain ⟨A', n', c', rfl⟩ := okWide_slice Tryz.underlying78 hv
  obtain ⟨A, n, c, e, h1, h2, h3, h4⟩ := trod_slice_at Tryz.underlying78 h
  rw [cells_int] at h4
  have e' : (Value.slice A' n' c') = .slice A n c := by simpa [Value.cells] using e
  obtain ⟨I, hl, hr⟩ := list_of n (fun k (x : Int) => (∃ a, A = some a ∧ w.cell? (a.add k) = some (.int .i64 x)) ∧ -9223372036854775808 ≤ x ∧ x ≤ 9223372036854775807) (fun i hi => by
    obtain ⟨a, rfl, cs', hl, hc, hr⟩ := h4 i hi
    obtain ⟨x, rfl, q1, q2⟩ := rd_i64 Tryz.underlying3 hr
    have := hc 0 (by omega)
    exact ⟨x, ⟨a, rfl, by simpa using this⟩, q1, q2⟩)
  refine ⟨A, n, c, I, e', hl.symm, fun k x hk => (hr k x hk).1, fun x hx => ?_, h3⟩
  obtain ⟨k, hk, rfl⟩ := List.getElem_of_mem hx
  exact (hr k _ (List.getElem?_eq_getElem hk)).2
/-- A slice of texts. -/
def TxAt (w : World) (A : Option Addr) (N : List ByteArray) : Prop := ∀ (k : Nat) (x : ByteArray), N[k]? = some x → ∃ a, A = some a ∧ w.cell? (a.add k) = some (.string x)
theorem TxAt.keep {w w' : World} {A : Option Addr} {N : List ByteArray} (h : TxAt w A N) (hb : Below w.heap.size w w') : TxAt w' A N :=
  fun k x hk => let ⟨a, h1, h2⟩ := h k x hk; ⟨a, h1, cell_keep hb h2⟩
theorem bytes_string : Tryz.prog.bytesOf 9 = 16 := by kernel_rfl
theorem open_strs {H : Type} {enc : TypeId × Value → H} {w : World} {b b0 : Nat} {sp : Nat → Bool} {hd : Bool} {v : Value} {d : DataW H} {ps : List MemPlace} {r : Reach}
    (hv : Value.okWide Tryz.prog w r b0 97 v) (h : DataW.Trod enc Tryz.prog w b sp hd 97 v d ps) :
    ∃ (A : Option Addr) (n c : Nat) (N : List ByteArray), v = .slice A n c ∧ n = N.length ∧ TxAt w A N ∧ (∀ x ∈ N, x.size ≤ maxLen) ∧ (n = 0 ∨ ∃ elems spare, d = .slice elems spare ∧ elems.length = n) := by
  obtain ⟨A', n', c', rfl⟩ := okWide_slice Tryz.underlying97 hv
  obtain ⟨A, n, c, e, h1, h2, h3, h4⟩ := trod_slice_at Tryz.underlying97 h
  rw [cells_string] at h4
  have e' : (Value.slice A' n' c') = .slice A n c := by simpa [Value.cells] using e
  obtain ⟨I, hl, hr⟩ := list_of n (fun k (x : ByteArray) => (∃ a, A = some a ∧ w.cell? (a.add k) = some (.string x)) ∧ x.size ≤ maxLen) (fun i hi => by
    obtain ⟨a, rfl, cs', hl, hc, hr⟩ := h4 i hi
    obtain ⟨x, rfl, q1⟩ := rd_string Tryz.underlying9 hr
    have := hc 0 (by omega)
    exact ⟨x, ⟨a, rfl, by simpa using this⟩, q1⟩)
  refine ⟨A, n, c, I, e', hl.symm, fun k x hk => (hr k x hk).1, fun x hx => ?_, h3⟩
  obtain ⟨k, hk, rfl⟩ := List.getElem_of_mem hx
  exact (hr k _ (List.getElem?_eq_getElem hk)).2
end Go.Proofs.YtbjbimabgfpdoaaGreat
