/-
  slices.SortFunc over uids by name.Compare.
-/
import Derived.Test.YtbjbimabgfpdoaaGreatOrderD
import Derived.Test.YtbjbimabgfpdoaaGreatStored
import Derived.Test.YtbjbimabgfpdoaaGreatUdRow
import Derived.Test.YtbjbimabgfpdoaaGreatShSortK
import Derived.Shelf.SlSortCmp.NoneTotal
namespace Go.Proofs.YtbjbimabgfpdoaaGreat
open Go.RowKit Go.Wk Go.Sort Go.Shelf
set_option maxRecDepth 100000

theorem usrt_heap {w : World} {g n : Nat} {os : Array Obj} {cur : Array Value} {e : TypeId} {fr : Nat × Nat} (d : Array Value) (hb : w.heap[g]? = some (.cells cur e fr)) :
    (grow (putRow id (Sort.ahead w n) g 0 d) os).heap[g]? = some (.cells (putCells id 0 d cur) e fr) := by
  have hg : g < w.heap.size := (Array.getElem?_eq_some_iff.1 hb).1
  rw [heap_grow_old _ _ (by simpa using hg)]
  simp [putRow, mapBlock, Sort.ahead, Array.getElem?_modify, hb, onCells]
theorem usrt_grown {w : World} {g n : Nat} {os : Array Obj} (d : Array Value) : w.grownBy (grow (putRow id (Sort.ahead w n) g 0 d) os) (some g) := by
  refine ⟨rfl, rfl, rfl, by simp, fun k hk hne => ?_⟩
  rw [heap_grow_old _ _ (by simpa using hk)]
  have : g ≠ k := fun e => hne (by rw [e])
  simp [putRow, mapBlock, Sort.ahead, Array.getElem?_modify, this]
theorem usrt_take (cur : Array Value) (ts : List Value) (h : ts.length ≤ cur.size) : (putCells id 0 ts.toArray cur).toList.take ts.length = ts := by
  apply List.ext_getElem?
  intro j
  by_cases hj : j < ts.length
  · rw [List.getElem?_take_of_lt hj, Array.getElem?_toList]
    simp [putCells, hj, show j < cur.size by omega]
  · rw [List.getElem?_take_eq_none (by omega), List.getElem?_eq_none (by omega)]
theorem usrt_holds {w : World} {g : Nat} {cur : Array Value} {e : TypeId} {ts : List Value} (hb : w.heap[g]? = some (.cells cur e (0, 0))) (ht : cur.toList.take ts.length = ts) : Holds id w g 0 ts.toArray := by
  intro j hj
  have hj' : j < ts.length := by simpa using hj
  refine ⟨?_, by simp [World.frozen?, hb]⟩
  have h1 : (cur.toList.take ts.length)[j]? = ts[j]? := by rw [ht]
  rw [List.getElem?_take_of_lt hj'] at h1
  simp only [World.cell?, hb, Nat.zero_add]
  simp only [Option.isSome_none, Bool.false_eq_true, if_false]
  rw [← Array.getElem?_toList, h1]
  simp [hj']

def encU (u : Ud) : List Value := [.string u.1, .string u.2]
theorem udCells_get : ∀ (U : List Ud) (t : Nat), t < U.length * 2 → (udCells U)[t]! = (encU U[t / 2]!)[t % 2]!
  | [], t, h => by simp at h
  | u :: U, 0, _ => rfl
  | u :: U, 1, _ => rfl
  | u :: U, t + 2, h => by
    have ih := udCells_get U t (by simp at h; omega)
    have e1 : (t + 2) / 2 = t / 2 + 1 := by omega
    have e2 : (t + 2) % 2 = t % 2 := by omega
    rw [e1, e2]
    simp only [udCells, List.getElem!_cons_succ]
    exact ih
theorem flat_uds (U : List Ud) : flatK encU 2 U.toArray = (udCells U).toArray := ext_get! (by simp) fun t ht => by
  have h : t < U.length * 2 := by simpa using ht
  rw [get_flatK _ _ _ _ (by simpa using h)]
  have := udCells_get U t h
  simp only [List.getElem!_toArray]
  exact this.symm
/-- The order of uids. -/
def cfU (x y : Ud) : Int := cmpUid x.1 x.2 y.1 y.2
theorem cfU_cmp : Cmp cfU := cmpUid_cmp
theorem cfU_swo : SWO (ltOf cfU) where
  irrefl x := by unfold ltOf; rw [cfU_cmp.self]; rfl
  trans x y z h1 h2 := by
    unfold ltOf at *
    simp only [decide_eq_true_eq] at *
    exact cfU_cmp.lt_le h1 (by omega)
  ntrans x y z h1 h2 := by
    unfold ltOf at *
    simp only [decide_eq_false_iff_not] at *
    have a1 := cfU_cmp.anti x y
    have a2 := cfU_cmp.anti y z
    have a3 := cfU_cmp.anti x z
    have := cfU_cmp.trans z y x (by omega) (by omega)
    omega
theorem cfU_parts (x y : Ud) (h1 : ltOf cfU x y = false) (h2 : ltOf cfU y x = false) : x = y := by
  unfold ltOf at *
  simp only [decide_eq_false_iff_not] at *
  have a1 := cfU_cmp.anti x y
  exact (cfU_cmp.zero x y).1 (by omega)
/-- Uids, ascending. -/
def sortU (U : List Ud) : List Ud := U.mergeSort fun x y => !ltOf cfU y x
theorem sortU_perm (U : List Ud) : (sortU U).Perm U := List.mergeSort_perm _ _
set_option maxHeartbeats 400000 in
theorem name_CompareD (a b c d : ByteArray) (w : World) :
    Calls Tryz.prog 14 #[.agg #[.string a, .string b], .agg #[.string c, .string d]] w fun e w' => e = .returned (.int .i64 (cmpUid a b c d)) ∧ BelowD w w' := by
  go_enter Tryz.func14, Tryz.ntmps14
  go_wp2
  refine still_tail 10 (by kernel_rfl) (by kernel_rfl) ?_
  simp only [List.take_succ_cons, List.take_zero, List.drop_succ_cons, List.drop_zero]
  iterate 4 still_step
  still_call (strings_Compare _ _ _)
  iterate 4 still_step
  still_call (strings_Compare _ _ _)
  refine wpStill_nil ?_
  go_wp2_with (go_at_call 22; refine (cmp_Or2 (cmpB a c) (cmpB b d) _ _ (by go_simp) (by go_simp)).mono ?_; rintro e w' ⟨rfl, rfl⟩)
  go_ret
  exact ⟨rfl, ((((Below.refl _ _).alloc (Nat.le_refl _) _).alloc (by simp) _).alloc (by simp; omega) _).drew, Nat.le_succ _⟩
theorem u_cmp (w : World) (g size : Nat) : CmpLays Tryz.prog 14 #[] encU 2 cfU g 0 size w := by
  intro m os dk _ x y
  exact (name_CompareD x.1 x.2 y.1 y.2 _).mono fun e w' ⟨h1, h2⟩ => ⟨h1, h2.grow⟩
theorem uids_SortFunc (w : World) (B g cap : Nat) (U : List Ud) (h : w.ownsRow B 24 2 (.slice (some ⟨g, 0, none⟩) U.length cap) U.length (udCells U)) (hs : U.length ≤ 1000000) :
    Calls Tryz.prog 13 #[.slice (some ⟨g, 0, none⟩) U.length cap, .func (.func 14) #[] #[]] w fun e w' =>
      e = .returned (.tuple #[]) ∧ w'.ownsRow B 24 2 (.slice (some ⟨g, 0, none⟩) U.length cap) U.length (udCells (sortU U)) ∧ w.grownBy w' (some g) := by
  rcases h.2 with ⟨e0, -⟩ | ⟨g', cap', cur, e0, hBg, hh, h1, h2, h3, h4⟩
  · cases e0
  injection e0 with e1 _ e2
  injection e1 with e1
  injection e1 with e1
  subst e1 e2
  have hH : HoldsK encU 2 w g 0 U.toArray := by
    unfold HoldsK
    rw [flat_uds]
    exact usrt_holds hh (by rw [udCells_length]; exact h4)
  have eg : ∀ args w, (callFunc 14 args).run Tryz.prog w = .ok (.enter 14 args) w := enters_of Tryz.func14 (by kernel_rfl) rfl
  have hcon := AnyQ.slices_SortFunc_total Tryz.sortK 2 Tryz.isAgg24 Tryz.sizeOf24 encU (fun _ => rfl) (fun x v hv => by simp [encU] at hv; rcases hv with rfl | rfl <;> rfl) cfU cfU_swo 14 #[] g 0 cap U.toArray w eg (u_cmp w g _) hH (Array.getElem?_eq_some_iff.1 hh).1 (by simp; omega) cfU_parts
  change Calls Tryz.prog 13 _ _ _ at hcon
  have hsz : U.toArray.size = U.length := by simp
  rw [hsz] at hcon
  refine hcon.mono ?_
  rintro e w' ⟨he, n, os, rfl⟩
  have hd : (sortU U).length = U.length := (sortU_perm U).length_eq
  unfold sortWorldK putRowK
  rw [show (U.toArray.toList.mergeSort fun x y => !ltOf cfU y x) = sortU U from rfl, flat_uds]
  refine ⟨he, ⟨by simp [hd], .inr ⟨g, cap, _, rfl, hBg, usrt_heap _ hh, h1, h2, by simp [putCells, h3], ?_⟩⟩, usrt_grown _⟩
  have := usrt_take cur (udCells (sortU U)) (by rw [udCells_length, hd, h3]; exact Nat.mul_le_mul_right _ h1)
  rw [udCells_length, hd] at this
  exact this
end Go.Proofs.YtbjbimabgfpdoaaGreat
