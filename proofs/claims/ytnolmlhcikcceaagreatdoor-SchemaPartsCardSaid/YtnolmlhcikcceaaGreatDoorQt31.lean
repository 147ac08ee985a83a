/-
  Kinds in a row of the call's own: their cells (gen_rows.py).
  Acts in a row of the call's own: their cells (gen_rows.py).
  A schema that comes in: where it has no kinds, no acts.
  From the condition on the one listed variable (errors.errorType) to the walk's fact on its cell; a world that meets it.
  All that the laws of schemas lean on.
-/
import Derived.ChangeSame
import Derived.ChangeVars
import Derived.JoinedOf
import Derived.LaidLaws
import Derived.LaidHandle
import Derived.Stop.Joined
import Derived.Test.YtnolmlhcikcceaaGreatDoorQt30
namespace Go.Proofs.YtnolmlhcikcceaaGreatDoor
open Go.RowKit Go.Wk
set_option maxRecDepth 100000

/-- A row that holds kinds. -/
def KnsAt (w : World) (A : Option Addr) (L : List Kn) : Prop := ∀ (k : Nat) (x : Kn), L[k]? = some x → ∃ a, A = some a ∧ w.cell? (a.add (k * 3)) = some (.string x.d.nm) ∧ w.cell? ⟨(a.add (k * 3)).block, (a.add (k * 3)).off + 1, none⟩ = some (.slice x.UA x.un x.uc) ∧
    w.cell? ⟨(a.add (k * 3)).block, (a.add (k * 3)).off + 2, none⟩ = some (.slice x.NA x.nn x.nc) ∧ KnOk w x
def knCells : List Kn → List Value
  | [] => []
  | x :: E => .string x.d.nm :: .slice x.UA x.un x.uc :: .slice x.NA x.nn x.nc :: knCells E
@[simp] theorem knCells_length (E : List Kn) : (knCells E).length = E.length * 3 := by
  induction E with
  | nil => rfl
  | cons x E ih => simp only [knCells, List.length_cons, ih]; omega
theorem knCells_append (U V : List Kn) : knCells (U ++ V) = knCells U ++ knCells V := by
  induction U with
  | nil => rfl
  | cons u U ih => simp only [List.cons_append, knCells, ih]
theorem knCells_at : ∀ (E : List Kn) (k : Nat) (x : Kn), E[k]? = some x → (knCells E)[k * 3]? = some (.string x.d.nm) ∧ (knCells E)[k * 3 + 1]? = some (.slice x.UA x.un x.uc) ∧ (knCells E)[k * 3 + 2]? = some (.slice x.NA x.nn x.nc)
  | [], k, x, h => by simp at h
  | y :: E, 0, x, h => by
    simp at h; subst h; exact ⟨rfl, rfl, rfl⟩
  | y :: E, k + 1, x, h => by
    have := knCells_at E k x (by simpa using h)
    rw [show (k + 1) * 3 = k * 3 + 1 + 1 + 1 by omega]
    simpa [knCells] using this
theorem KnsAt.cells {w : World} {a : Addr} {E : List Kn} (h : KnsAt w (some a) E) : ∀ j u, (knCells E)[j]? = some u → w.cell? (a.add j) = some u := by
  intro j u hu
  have hl := knCells_length E
  have hj : j < (knCells E).length := (List.getElem?_eq_some_iff.1 hu).1
  have hk : j / 3 < E.length := by omega
  obtain ⟨h1, h2, h3⟩ := knCells_at E (j / 3) E[j / 3] (List.getElem?_eq_getElem hk)
  obtain ⟨b, e, q1, q2, q3, -⟩ := h (j / 3) E[j / 3] (List.getElem?_eq_getElem hk)
  injection e with e
  subst e
  have hr : j % 3 = 0 ∨ j % 3 = 1 ∨ j % 3 = 2 := by omega
  rcases hr with hr | hr | hr
  · have e : j = j / 3 * 3 := by omega
    rw [← e] at h1 q1
    rw [hu] at h1; rw [h1]; exact q1
  · have e : j = j / 3 * 3 + 1 := by omega
    rw [nx_add _ _ _ (by omega), ← e] at q2
    rw [← e] at h2
    rw [hu] at h2; rw [h2]; exact q2
  · have e : j = j / 3 * 3 + 2 := by omega
    rw [nx_add _ _ _ (by omega), ← e] at q3
    rw [← e] at h3
    rw [hu] at h3; rw [h3]; exact q3
end Go.Proofs.YtnolmlhcikcceaaGreatDoor
namespace Go.Proofs.YtnolmlhcikcceaaGreatDoor
open Go.RowKit Go.Wk
set_option maxRecDepth 100000

/-- A row that holds acts. -/
def AnsAt (w : World) (A : Option Addr) (L : List An) : Prop := ∀ (k : Nat) (x : An), L[k]? = some x → ∃ a, A = some a ∧ w.cell? (a.add (k * 4)) = some (.string x.d.id) ∧ w.cell? ⟨(a.add (k * 4)).block, (a.add (k * 4)).off + 1, none⟩ = some (.slice x.WA x.wn x.wc) ∧
    w.cell? ⟨(a.add (k * 4)).block, (a.add (k * 4)).off + 2, none⟩ = some (.slice x.TA x.tn x.tc) ∧ w.cell? ⟨(a.add (k * 4)).block, (a.add (k * 4)).off + 3, none⟩ = some (.slice x.NA x.nn x.nc) ∧ AnOk w x
def anCells : List An → List Value
  | [] => []
  | x :: E => .string x.d.id :: .slice x.WA x.wn x.wc :: .slice x.TA x.tn x.tc :: .slice x.NA x.nn x.nc :: anCells E
@[simp] theorem anCells_length (E : List An) : (anCells E).length = E.length * 4 := by
  induction E with
  | nil => rfl
  | cons x E ih => simp only [anCells, List.length_cons, ih]; omega
theorem anCells_append (U V : List An) : anCells (U ++ V) = anCells U ++ anCells V := by
  induction U with
  | nil => rfl
  | cons u U ih => simp only [List.cons_append, anCells, ih]
theorem anCells_one (E : List An) : ∀ v ∈ anCells E, v.oneCell' = true := by
  induction E with
  | nil => intro v hv; cases hv
  | cons u U ih =>
    intro v hv
    simp only [anCells, List.mem_cons] at hv
    rcases hv with rfl | rfl | rfl | rfl | hv
    · rfl
    · rfl
    · rfl
    · rfl
    · exact ih v hv
theorem anCells_at : ∀ (E : List An) (k : Nat) (x : An), E[k]? = some x → (anCells E)[k * 4]? = some (.string x.d.id) ∧ (anCells E)[k * 4 + 1]? = some (.slice x.WA x.wn x.wc) ∧ (anCells E)[k * 4 + 2]? = some (.slice x.TA x.tn x.tc) ∧ (anCells E)[k * 4 + 3]? = some (.slice x.NA x.nn x.nc)
  | [], k, x, h => by simp at h
  | y :: E, 0, x, h => by
    simp at h; subst h; exact ⟨rfl, rfl, rfl, rfl⟩
  | y :: E, k + 1, x, h => by
    have := anCells_at E k x (by simpa using h)
    rw [show (k + 1) * 4 = k * 4 + 1 + 1 + 1 + 1 by omega]
    simpa [anCells] using this
theorem AnsAt.cells {w : World} {a : Addr} {E : List An} (h : AnsAt w (some a) E) : ∀ j u, (anCells E)[j]? = some u → w.cell? (a.add j) = some u := by
  intro j u hu
  have hl := anCells_length E
  have hj : j < (anCells E).length := (List.getElem?_eq_some_iff.1 hu).1
  have hk : j / 4 < E.length := by omega
  obtain ⟨h1, h2, h3, h4⟩ := anCells_at E (j / 4) E[j / 4] (List.getElem?_eq_getElem hk)
  obtain ⟨b, e, q1, q2, q3, q4, -⟩ := h (j / 4) E[j / 4] (List.getElem?_eq_getElem hk)
  injection e with e
  subst e
  have hr : j % 4 = 0 ∨ j % 4 = 1 ∨ j % 4 = 2 ∨ j % 4 = 3 := by omega
  rcases hr with hr | hr | hr | hr
  · have e : j = j / 4 * 4 := by omega
    rw [← e] at h1 q1
    rw [hu] at h1; rw [h1]; exact q1
  · have e : j = j / 4 * 4 + 1 := by omega
    rw [nx_add _ _ _ (by omega), ← e] at q2
    rw [← e] at h2
    rw [hu] at h2; rw [h2]; exact q2
  · have e : j = j / 4 * 4 + 2 := by omega
    rw [nx_add _ _ _ (by omega), ← e] at q3
    rw [← e] at h3
    rw [hu] at h3; rw [h3]; exact q3
  · have e : j = j / 4 * 4 + 3 := by omega
    rw [nx_add _ _ _ (by omega), ← e] at q4
    rw [← e] at h4
    rw [hu] at h4; rw [h4]; exact q4
theorem ans_of_cells {w : World} {a : Addr} {E : List An} (h : ∀ j u, (anCells E)[j]? = some u → w.cell? (a.add j) = some u) (hE : ∀ x ∈ E, AnOk w x) : AnsAt w (some a) E := by
  intro k x hx
  obtain ⟨h1, h2, h3, h4⟩ := anCells_at E k x hx
  refine ⟨a, rfl, h _ _ h1, ?_, ?_, ?_, hE x (List.mem_of_getElem? hx)⟩
  · rw [nx_add _ _ _ (by omega)]; exact h _ _ h2
  · rw [nx_add _ _ _ (by omega)]; exact h _ _ h3
  · rw [nx_add _ _ _ (by omega)]; exact h _ _ h4
theorem anInfo : (Tryz.prog.info? 55).map (fun i => (i.zero, i.size, i.bytes)) = some (some (.agg #[.string ⟨#[]⟩, .slice none 0 0, .slice none 0 0, .slice none 0 0]), 4, 88) := by kernel_rfl
theorem as_of_own {w : World} {B n : Nat} {v : Value} {E : List An} (h : w.ownsRow B 55 4 v n (anCells E)) (hn : n = E.length) (hE : ∀ x ∈ E, AnOk w x) (hl : n ≤ maxLen) : ∃ A c, v = .slice A n c ∧ As w A n c E := by
  rcases h.2 with ⟨rfl, h0⟩ | ⟨g, cap, cur, rfl, hB, _, hc, _⟩
  · have : E = [] := List.eq_nil_of_length_eq_zero (by omega)
    subst this
    subst h0
    exact ⟨none, 0, rfl, rfl, Nat.le_refl _, Nat.zero_le _, fun k x hx => by simp at hx⟩
  · exact ⟨some ⟨g, 0, none⟩, cap, rfl, hn, hc, hl, ans_of_cells (h.cells (g := g) rfl) hE⟩
end Go.Proofs.YtnolmlhcikcceaaGreatDoor
namespace Go.Proofs.YtnolmlhcikcceaaGreatDoor
open Go.Wk Go.ChangeShapes Go.WideShapes Go.RowKit Go.Deep
set_option maxRecDepth 100000

theorem rd_nil {P : Program} {w : World} {t e : TypeId} (ht : P.underlying t = some (.slice e)) {A : Option Addr} {n c : Nat} (h : Rd P w t [.slice A n c]) : A = none → n = 0 ∧ c = 0 := by
  rintro rfl
  obtain ⟨H, enc, b, sp, hd, f, x, hx⟩ := h
  rcases open_slice ht hx with ⟨h0, _⟩ | ⟨a, len, cap, m, n, D, Pl, hcs, hb, hl, hm, hmm, hx, hi⟩
  · simpa using h0
  · simp at hcs
/-- A schema's nil slices are empty. -/
structure ScNil (s : Sc) : Prop where
  k : s.KA = none → s.kn = 0 ∧ s.kc = 0
  a : s.AA = none → s.an = 0 ∧ s.ac = 0
theorem open_schemaN {H : Type} {enc : TypeId × Value → H} {w : World} {b b0 : Nat} {sp : Nat → Bool} {hd : Bool} {v : Value} {d : DataW H} {ps : List MemPlace} {r : Reach}
    (hv : Value.okWide Tryz.prog w r b0 25 v) (h : DataW.Trod enc Tryz.prog w b sp hd 25 v d ps) : ∃ x : Sc, v = x.v ∧ ScOk w x ∧ ScNil x := by
  obtain ⟨cs, rfl, _⟩ := okWide_struct Tryz.underlying25 hv
  have hr := rd_of_trod h
  have hl := (rd_struct Tryz.underlying25 hr).1
  rw [cells_schema] at hl
  obtain ⟨l⟩ := cs
  simp only [Value.cells] at hl hr
  match l, hl with
  | [c0, c1], _ =>
    have h0 : Rd Tryz.prog w 22 [c0] := rd_field Tryz.underlying25 hr 0 22 0 1 rfl cells_kinds
    have h1 : Rd Tryz.prog w 23 [c1] := rd_field Tryz.underlying25 hr 1 23 1 1 rfl cells_acts
    obtain ⟨KA, kn, kc, K, e0, hk⟩ := rd_kinds h0
    obtain ⟨AA, an, ac, L, e1, ha⟩ := rd_acts h1
    simp only [List.cons.injEq, and_true] at e0 e1
    subst e0
    subst e1
    exact ⟨⟨KA, kn, kc, K, AA, an, ac, L⟩, rfl, ⟨hk, ha⟩, rd_nil Tryz.underlying22 h0, rd_nil Tryz.underlying23 h1⟩
end Go.Proofs.YtnolmlhcikcceaaGreatDoor
namespace Go.Proofs.YtnolmlhcikcceaaGreatDoor
open Go.ChangeShapes Go.WideShapes Go.RowKit

def laidOne : DataW Unit := Rows.laid_errors_errorType
def rtName : String := match laidOne with | .iface n _ => n | _ => ""
theorem rt_found : (Tryz.prog.cutTypes.find? (·.1 == rtName)).map (·.2) = some 241 := by kernel_rfl
theorem et_found : Tryz.prog.globalNamed "errors.errorType" = some 0 := by kernel_rfl
theorem oneRow : ((List.range 385).filter fun t => Tryz.prog.rowNamed t [101, 114, 114, 111, 114]) = [30] := by kernel_rfl
theorem typesSize : Tryz.prog.types.size = 385 := by kernel_rfl

def laidList : List (String × DataW Unit) := [("errors.errorType", laidOne)]
theorem handle_of_laid {W : World} (h : laidMetH Tryz.prog laidList W) : Door W := by
  have h' : laidMet Tryz.prog [] W ∧ handlesMet Tryz.prog laidList W := h
  obtain ⟨name, u, ty, e1, e2, e3, e4, e5⟩ := h'.2 _ (List.mem_singleton.2 rfl)
  have en : name = [101, 114, 114, 111, 114] := (Option.some.inj e1).symm
  subst en
  obtain rfl := Option.some.inj (rt_found.symm.trans e2)
  have hm : ty ∈ (List.range 385).filter fun t => Tryz.prog.rowNamed t [101, 114, 114, 111, 114] := List.mem_filter.2 ⟨List.mem_range.2 (by rw [← typesSize]; exact e3), e4⟩
  rw [oneRow] at hm
  obtain rfl := List.mem_singleton.1 hm
  have hh : typeHandle Tryz.prog 30 = .pointer (some ⟨2, 30, none⟩) := by kernel_rfl
  rw [hh] at e5
  have := World.var?_cell et_found e5 0
  exact this

noncomputable def laidWorld (os : Os) : World :=
  let w0 := World.holding Tryz.prog os ⟨#[], #[], []⟩
  { w0 with heap := w0.heap.modify 0 fun
      | .cells _ t frozen => .cells #[.iface 241 (.agg #[.pointer (some ⟨2, 30, none⟩)])] t frozen
      | o => o }
theorem laidWorld_met (os : Os) (args : Array Value) : laidMetH Tryz.prog laidList ((laidWorld os).forCall (fun _ _ => 0) ⟨#[], args, []⟩).memory :=
  laidMetH_of_parts (laidMet_nil _ _) (by kernel_rfl)
end Go.Proofs.YtnolmlhcikcceaaGreatDoor
namespace Go.Proofs.YtnolmlhcikcceaaGreatDoor
end Go.Proofs.YtnolmlhcikcceaaGreatDoor
