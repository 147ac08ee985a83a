/-
  slices.SortFunc over slices of nodes by val.order.
-/
import Derived.Test.YtlipgpddcfkllaaOrderD
import Derived.Test.YtlipgpddcfkllaaSls
import Derived.Test.YtlipgpddcfkllaaShSort
import Derived.Shelf.SlSortCmp.NoneTotal
namespace Go.Proofs.Ytlipgpddcfkllaa
open Go.RowKit Go.Wk Go.Sort Go.Shelf
set_option maxRecDepth 100000

section
variable {α : Type} [Inhabited α] {enc : α → Value}
theorem srt_heap {w : World} {g n : Nat} {os : Array Obj} {cur : Array Value} {e : TypeId} {fr : Nat × Nat} (d : Array α) (hb : w.heap[g]? = some (.cells cur e fr)) :
    (sortWorld enc w g 0 n d os).heap[g]? = some (.cells (putCells enc 0 d cur) e fr) := by
  have hg : g < w.heap.size := (Array.getElem?_eq_some_iff.1 hb).1
  unfold sortWorld
  rw [heap_grow_old _ _ (by simpa using hg)]
  simp [putRow, mapBlock, Sort.ahead, Array.getElem?_modify, hb, onCells]
theorem srt_grown {w : World} {g n : Nat} {os : Array Obj} (d : Array α) : w.grownBy (sortWorld enc w g 0 n d os) (some g) := by
  unfold sortWorld
  refine ⟨rfl, rfl, rfl, by simp, fun k hk hne => ?_⟩
  rw [heap_grow_old _ _ (by simpa using hk)]
  have : g ≠ k := fun e => hne (by rw [e])
  simp [putRow, mapBlock, Sort.ahead, Array.getElem?_modify, this]
theorem srt_take (cur : Array Value) (ts : List α) (h : ts.length ≤ cur.size) : (putCells enc 0 ts.toArray cur).toList.take ts.length = ts.map enc := by
  apply List.ext_getElem?
  intro j
  by_cases hj : j < ts.length
  · rw [List.getElem?_take_of_lt hj, Array.getElem?_toList]
    simp [putCells, hj, show j < cur.size by omega]
  · rw [List.getElem?_take_eq_none (by omega), List.getElem?_eq_none (by simp; omega)]
theorem srt_holds {w : World} {g : Nat} {cur : Array Value} {e : TypeId} {ts : List α} (hb : w.heap[g]? = some (.cells cur e (0, 0))) (ht : cur.toList.take ts.length = ts.map enc) : Holds enc w g 0 ts.toArray := by
  intro j hj
  have hj' : j < ts.length := by simpa using hj
  refine ⟨?_, by simp [World.frozen?, hb]⟩
  have h1 : (cur.toList.take ts.length)[j]? = (ts.map enc)[j]? := by rw [ht]
  rw [List.getElem?_take_of_lt hj'] at h1
  simp only [World.cell?, hb, Nat.zero_add]
  simp only [Option.isSome_none, Bool.false_eq_true, if_false]
  rw [← Array.getElem?_toList, h1]
  simp [hj']
end

/-- Slices that may be compared while a block turns. -/
abbrev GoodSl (w : World) (g : Nat) : Type := { r : Sl // Ns w r.A r.n r.c r.P ∧ Apart r (some g) }
instance (w : World) (g : Nat) : Inhabited (GoodSl w g) := ⟨⟨⟨none, 0, 0, []⟩, ⟨rfl, Nat.le_refl _, Nat.zero_le _, fun k x hx => by simp at hx, fun x hx => by cases hx⟩, fun h => by simp at h⟩⟩
def gEnc (w : World) (g : Nat) (x : GoodSl w g) : Value := x.1.v
def gCf (w : World) (g : Nat) (x y : GoodSl w g) : Int := cmpNds x.1.P y.1.P
theorem g_swo (w : World) (g : Nat) : SWO (ltOf (gCf w g)) where
  irrefl x := by unfold ltOf gCf; rw [cmpNds_cmp.self]; rfl
  trans x y z h1 h2 := by
    unfold ltOf gCf at *
    simp only [decide_eq_true_eq] at *
    exact cmpNds_cmp.lt_le h1 (by omega)
  ntrans x y z h1 h2 := by
    unfold ltOf gCf at *
    simp only [decide_eq_false_iff_not] at *
    have a1 := cmpNds_cmp.anti x.1.P y.1.P
    have a2 := cmpNds_cmp.anti y.1.P z.1.P
    have a3 := cmpNds_cmp.anti x.1.P z.1.P
    have := cmpNds_cmp.trans z.1.P y.1.P x.1.P (by omega) (by omega)
    omega
theorem ns_orderD {w : World} {r s : Sl} (h : Ns w r.A r.n r.c r.P) (k : Ns w s.A s.n s.c s.P) :
    Calls Try.prog 38 #[r.v, s.v] w fun e w' => e = .returned (.int .i64 (cmpNds r.P s.P)) ∧ BelowD w w' :=
  val_orderD r.A s.A r.n s.n r.c s.c r.P s.P w h.len k.len h.max k.max h.at_ k.at_
theorem g_cmp (w : World) (g size : Nat) : CmpLays1 Try.prog 38 #[] (gEnc w g) (gCf w g) g 0 size w := by
  intro m os dk _ x y
  have n1 := Ns.row (r := x.1) x.2.1 (srt_grown (enc := gEnc w g) (n := m) (os := os) dk) x.2.2
  have n2 := Ns.row (r := y.1) y.2.1 (srt_grown (enc := gEnc w g) (n := m) (os := os) dk) y.2.2
  exact (ns_orderD n1 n2).mono fun e w' ⟨h1, h2⟩ => ⟨h1, h2.grow⟩

theorem lift_list {β : Type} {p : β → Prop} (V : List β) (h : ∀ r ∈ V, p r) : ∃ L : List { r : β // p r }, L.map (fun x => x.1) = V := by
  induction V with
  | nil => exact ⟨[], rfl⟩
  | cons r V ih =>
    obtain ⟨L, hL⟩ := ih (fun x hx => h x (by simp [hx]))
    exact ⟨⟨r, h r (by simp)⟩ :: L, by simp [hL]⟩
/-- In order. -/
def SortedSl (V : List Sl) : Prop := ∀ i j (hij : i < j) (hj : j < V.length), cmpNds (V[i]'(by omega)).P V[j].P ≤ 0
end Go.Proofs.Ytlipgpddcfkllaa
