/-
  What slices that come in are made of: nodes.
-/
import Derived.Test.YtocchkmhnneiiaaRd
import Derived.Test.YtocchkmhnneiiaaCompare
import Derived.Deep.Slices
namespace Go.Wk
open Go.ChangeShapes Go.WideShapes Go.RowKit Go.Deep
section
variable {P : Program} {w : World} {t : TypeId} {cs : List Value}
theorem list_of {α : Type} (n : Nat) (R : Nat → α → Prop) (h : ∀ i, i < n → ∃ x, R i x) : ∃ l : List α, l.length = n ∧ ∀ k x, l[k]? = some x → R k x := by
  induction n with
  | zero => exact ⟨[], rfl, fun k x hx => by simp at hx⟩
  | succ n ih =>
    obtain ⟨l, hl, hr⟩ := ih (fun i hi => h i (by omega))
    obtain ⟨y, hy⟩ := h n (by omega)
    refine ⟨l ++ [y], by simp [hl], fun k x hx => ?_⟩
    by_cases hk : k < n
    · rw [List.getElem?_append_left (by omega)] at hx; exact hr k x hx
    · rw [List.getElem?_append_right (by omega)] at hx
      by_cases hk2 : k = n
      · subst hk2
        rw [hl, Nat.sub_self] at hx
        simp only [List.getElem?_cons_zero, Option.some.injEq] at hx
        subst hx; exact hy
      · have : k - l.length ≠ 0 := by omega
        obtain ⟨j, hj⟩ : ∃ j, k - l.length = j + 1 := ⟨k - l.length - 1, by omega⟩
        rw [hj] at hx; simp at hx
theorem rd_slice {e : TypeId} (ht : P.underlying t = some (.slice e)) (h : Rd P w t cs) :
    ∃ (A : Option Addr) (n c : Nat), cs = [.slice A n c] ∧ n ≤ c ∧ c ≤ maxLen ∧ ∀ i, i < n → ∃ a, A = some a ∧ ∃ cs' : List Value, cs'.length = P.cellsOf e ∧ (∀ j, j < P.cellsOf e → w.cell? (a.add (i * P.cellsOf e + j)) = cs'[j]?) ∧ Rd P w e cs' := by
  obtain ⟨H, enc, b, sp, hd, f, x, hx⟩ := h
  rcases open_slice ht hx with ⟨h0, _⟩ | ⟨a, len, cap, m, n, D, Pl, hcs, hb, hl, hm, hmm, hx, hi⟩
  · exact ⟨none, 0, 0, h0, Nat.le_refl _, by unfold maxLen; omega, fun i hi => by omega⟩
  · refine ⟨some a, len, cap, hcs, hl, hm, fun i hil => ⟨a, rfl, ?_⟩⟩
    obtain ⟨cs', hc, ht'⟩ := hi i (by rw [hmm]; split <;> omega)
    obtain ⟨_, hcl, hat⟩ := World.cells?_some hc
    refine ⟨cs', hcl, fun j hj => ?_, ⟨H, enc, b, sp, hd, n, _, ht'⟩⟩
    have := hat j hj
    rw [← Go.Deep.add_add]
    exact this
end
end Go.Wk
namespace Go.Proofs.Ytocchkmhnneiiaa
open Go.Wk Go.ChangeShapes Go.WideShapes Go.RowKit
set_option maxRecDepth 100000

/-- A slice of nodes that came in. -/
structure Ns (w : World) (A : Option Addr) (n c : Nat) (P : List Nd) : Prop where
  len : n = P.length
  cap : n ≤ c
  max : n ≤ maxLen
  at_ : NdsAt w A P
  ok : NdsOk P
theorem Ns.keep {w w' : World} {A : Option Addr} {n c : Nat} {P : List Nd} (h : Ns w A n c P) (hb : Below w.heap.size w w') : Ns w' A n c P := ⟨h.len, h.cap, h.max, h.at_.keep hb, h.ok⟩
theorem Ns.same {w : World} {A B : Option Addr} {n c m d : Nat} {P Q : List Nd} (h : Ns w A n c P) (k : Ns w B m d Q) :
    Calls Try.prog 11 #[.slice A n c, .slice B m d] w fun e w' => e = .returned (.bool (decide (cmpNds P Q = 0))) ∧ Below w.heap.size w w' :=
  same_Nodes A B n m c d P Q w h.len k.len h.max k.max h.at_ k.at_

theorem cells_node : Try.prog.cellsOf 34 = 4 := by kernel_rfl
theorem cells_int : Try.prog.cellsOf 3 = 1 := by kernel_rfl
theorem rd_node {w : World} {cs : List Value} (h : Rd Try.prog w 34 cs) : ∃ x : Nd, cs = [.int .i64 x.op, .int .i64 x.n, .string x.s, .string x.t] ∧ NdOk x := by
  have hl := (rd_struct Try.underlying34 h).1
  rw [cells_node] at hl
  match cs, hl with
  | [c0, c1, c2, c3], _ =>
    have h0 : Rd Try.prog w 3 [c0] := rd_field Try.underlying34 h 0 3 0 1 rfl cells_int
    have h1 : Rd Try.prog w 3 [c1] := rd_field Try.underlying34 h 1 3 1 1 rfl cells_int
    have h2 : Rd Try.prog w 9 [c2] := rd_field Try.underlying34 h 2 9 2 1 rfl cells_string
    have h3 : Rd Try.prog w 9 [c3] := rd_field Try.underlying34 h 3 9 3 1 rfl cells_string
    obtain ⟨o, e0, o1, o2⟩ := rd_i64 Try.underlying3 h0
    obtain ⟨n, e1, n1, n2⟩ := rd_i64 Try.underlying3 h1
    obtain ⟨a, e2, s2⟩ := rd_string Try.underlying9 h2
    obtain ⟨b, e3, s3⟩ := rd_string Try.underlying9 h3
    simp only [List.cons.injEq, and_true] at e0 e1 e2 e3
    exact ⟨⟨o, n, a, b⟩, by rw [e0, e1, e2, e3], s2, s3, n1, n2⟩
theorem rd_nodes {w : World} {cs : List Value} (h : Rd Try.prog w 22 cs) :
    ∃ (A : Option Addr) (n c : Nat) (P : List Nd), cs = [.slice A n c] ∧ n = P.length ∧ n ≤ c ∧ n ≤ maxLen ∧ NdsAt w A P ∧ NdsOk P := by
  obtain ⟨A, n, c, rfl, h1, h2, h3⟩ := rd_slice Try.underlying22 h
  rw [cells_node] at h3
  obtain ⟨P, hl, hr⟩ := list_of n (fun k x => (∃ a, A = some a ∧ w.cell? (a.add (k * 4)) = some (.int .i64 x.op) ∧ w.cell? (a.add (k * 4 + 1)) = some (.int .i64 x.n) ∧ w.cell? (a.add (k * 4 + 2)) = some (.string x.s) ∧ w.cell? (a.add (k * 4 + 3)) = some (.string x.t)) ∧ NdOk x) (fun i hi => by
    obtain ⟨a, rfl, cs', hl, hc, hr⟩ := h3 i hi
    obtain ⟨x, rfl, hx⟩ := rd_node hr
    exact ⟨x, ⟨a, rfl, hc 0 (by omega), hc 1 (by omega), hc 2 (by omega), hc 3 (by omega)⟩, hx⟩)
  refine ⟨A, n, c, P, rfl, hl.symm, h1, by omega, fun k x hx => ?_, fun x hx => ?_⟩
  · obtain ⟨⟨a, e, q1, q2, q3, q4⟩, -⟩ := hr k x hx
    refine ⟨a, e, q1, ?_, ?_, ?_⟩
    all_goals
      rw [← add_add] at q2 q3 q4
      unfold Addr.add at q2 q3 q4 ⊢
      first | (simpa using q2) | (simpa using q3) | (simpa using q4)
  · obtain ⟨k, hk, rfl⟩ := List.getElem_of_mem hx
    exact (hr k _ (List.getElem?_eq_getElem hk)).2
theorem open_nodes {H : Type} {enc : TypeId × Value → H} {w : World} {b b0 : Nat} {sp : Nat → Bool} {hd : Bool} {v : Value} {d : DataW H} {ps : List MemPlace} {r : Reach}
    (hv : Value.okWide Try.prog w r b0 22 v) (h : DataW.Trod enc Try.prog w b sp hd 22 v d ps) :
    ∃ (A : Option Addr) (n c : Nat) (P : List Nd), v = .slice A n c ∧ Ns w A n c P := by
  obtain ⟨A', n', c', rfl⟩ := okWide_slice Try.underlying22 hv
  obtain ⟨A, n, c, P, e, h1, h2, h3, h4, h5⟩ := rd_nodes (rd_of_trod h)
  have e' : (Value.slice A' n' c') = .slice A n c := by simpa [Value.cells] using e
  exact ⟨A, n, c, P, e', h1, h2, h3, h4, h5⟩
end Go.Proofs.Ytocchkmhnneiiaa
