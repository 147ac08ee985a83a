/-
  Slices of entities that come in.
-/
import Derived.Test.YtbjbimabgfpdoaaGreatDoorRdNodes
import Derived.Test.YtbjbimabgfpdoaaGreatDoorStored
namespace Go.Proofs.YtbjbimabgfpdoaaGreatDoor
open Go.Wk Go.ChangeShapes Go.WideShapes Go.RowKit
set_option maxRecDepth 100000

theorem cells_ent : Tryz.prog.cellsOf 36 = 4 := by kernel_rfl
theorem cells_ups : Tryz.prog.cellsOf 31 = 1 := by kernel_rfl
theorem cells_nodes1 : Tryz.prog.cellsOf 34 = 1 := by kernel_rfl
theorem rd_uds {w : World} {cs : List Value} (h : Rd Tryz.prog w 31 cs) : ∃ (A : Option Addr) (n c : Nat) (P : List Ud), cs = [.slice A n c] ∧ Us w A n c P := by
  obtain ⟨A, n, c, rfl, h1, h2, h3⟩ := rd_slice Tryz.underlying31 h
  rw [cells_uid] at h3
  obtain ⟨P, hl, hr⟩ := list_of n (fun k (x : Ud) => (∃ a, A = some a ∧ w.cell? (a.add (k * 2)) = some (.string x.1) ∧ w.cell? (a.add (k * 2 + 1)) = some (.string x.2)) ∧ x.1.size ≤ maxLen ∧ x.2.size ≤ maxLen) (fun i hi => by
    obtain ⟨a, rfl, cs', hl, hc, hr⟩ := h3 i hi
    obtain ⟨s, t, rfl, q1, q2⟩ := rd_uid hr
    exact ⟨(s, t), ⟨a, rfl, hc 0 (by omega), hc 1 (by omega)⟩, q1, q2⟩)
  refine ⟨A, n, c, P, rfl, hl.symm, h1, by omega, fun k x hx => ?_, fun x hx => ?_⟩
  · obtain ⟨⟨a, e, q1, q2⟩, -⟩ := hr k x hx
    refine ⟨a, e, q1, ?_⟩
    rw [← add_add] at q2
    unfold Addr.add at q2 ⊢
    simpa using q2
  · obtain ⟨k, hk, rfl⟩ := List.getElem_of_mem hx
    exact (hr k _ (List.getElem?_eq_getElem hk)).2
theorem rd_ent {w : World} {cs : List Value} (h : Rd Tryz.prog w 36 cs) : ∃ x : En, cs = [.string x.u.1, .string x.u.2, .slice x.UA x.un x.uc, .slice x.NA x.nn x.nc] ∧ EnOk w x := by
  have hl := (rd_struct Tryz.underlying36 h).1
  rw [cells_ent] at hl
  match cs, hl with
  | [c0, c1, c2, c3], _ =>
    have h0 : Rd Tryz.prog w 30 [c0, c1] := rd_field Tryz.underlying36 h 0 30 0 2 rfl cells_uid
    have h2 : Rd Tryz.prog w 31 [c2] := rd_field Tryz.underlying36 h 1 31 2 1 rfl cells_ups
    have h3 : Rd Tryz.prog w 34 [c3] := rd_field Tryz.underlying36 h 2 34 3 1 rfl cells_nodes1
    obtain ⟨s, t, e0, s1, s2⟩ := rd_uid h0
    obtain ⟨UA, un, uc, ups, e2, hu⟩ := rd_uds h2
    obtain ⟨NA, nn, nc, P, e3, n1, n2, n3, n4, n5⟩ := rd_nodes h3
    simp only [List.cons.injEq, and_true] at e0 e2 e3
    exact ⟨⟨(s, t), UA, un, uc, ups, NA, nn, nc, P⟩, by rw [e0.1, e0.2, e2, e3], s1, s2, hu, n1, n2, n3, n4, n5⟩
theorem open_ents {H : Type} {enc : TypeId × Value → H} {w : World} {b b0 : Nat} {sp : Nat → Bool} {hd : Bool} {v : Value} {d : DataW H} {ps : List MemPlace} {r : Reach}
    (hv : Value.okWide Tryz.prog w r b0 22 v) (h : DataW.Trod enc Tryz.prog w b sp hd 22 v d ps) :
    ∃ (A : Option Addr) (n c : Nat) (E : List En), v = .slice A n c ∧ Es w A n c E := by
  obtain ⟨A', n', c', rfl⟩ := okWide_slice Tryz.underlying22 hv
  obtain ⟨A, n, c, e, h1, h2, h3⟩ := rd_slice Tryz.underlying22 (rd_of_trod h)
  rw [cells_ent] at h3
  have e' : (Value.slice A' n' c') = .slice A n c := by simpa [Value.cells] using e
  obtain ⟨E, hl, hr⟩ := list_of n (fun k (x : En) => (∃ a, A = some a ∧ w.cell? (a.add (k * 4)) = some (.string x.u.1) ∧ w.cell? (a.add (k * 4 + 1)) = some (.string x.u.2) ∧ w.cell? (a.add (k * 4 + 2)) = some (.slice x.UA x.un x.uc) ∧ w.cell? (a.add (k * 4 + 3)) = some (.slice x.NA x.nn x.nc)) ∧ EnOk w x) (fun i hi => by
    obtain ⟨a, rfl, cs', hl, hc, hr⟩ := h3 i hi
    obtain ⟨x, rfl, hx⟩ := rd_ent hr
    exact ⟨x, ⟨a, rfl, hc 0 (by omega), hc 1 (by omega), hc 2 (by omega), hc 3 (by omega)⟩, hx⟩)
  refine ⟨A, n, c, E, e', hl.symm, h1, by omega, fun k x hx => ?_⟩
  obtain ⟨⟨a, e, q1, q2, q3, q4⟩, hx⟩ := hr k x hx
  refine ⟨a, e, q1, ?_, ?_, ?_, hx⟩
  all_goals
    rw [← add_add] at q2 q3 q4
    unfold Addr.add at q2 q3 q4 ⊢
    first | (simpa using q2) | (simpa using q3) | (simpa using q4)
end Go.Proofs.YtbjbimabgfpdoaaGreatDoor
