/-
  val.SetOf: the set of values.
-/
import Derived.Test.YtlipgpddcfkllaaCompact
import Derived.Test.YtlipgpddcfkllaaClone2
import Derived.Test.YtlipgpddcfkllaaParts
import Derived.Test.YtlipgpddcfkllaaRefVal
namespace Go.Proofs.Ytlipgpddcfkllaa
open Go.RowKit Go.Wk Go.Sort
set_option maxRecDepth 100000

def SortPost (w : World) (B : Nat) (v : Value) (V : List Sl) (e : Ending) (w' : World) : Prop :=
  e = .returned (.tuple #[]) ∧ ∃ V' : List Sl, V'.Perm V ∧ V'.Pairwise (fun a b => cmpNds a.P b.P ≤ 0) ∧ OwnSls w' B v V' ∧ w.grownBy w' v.ownBlock
theorem sorted_pair {V : List Sl} (h : SortedSl V) : V.Pairwise (fun a b => cmpNds a.P b.P ≤ 0) :=
  List.pairwise_iff_getElem.2 fun i j _ hj hij => h i j hij hj
def CompactPost (w : World) (B : Nat) (v : Value) (V : List Sl) (e : Ending) (w' : World) : Prop := ∃ v', e = .returned v' ∧ OwnSls w' B v' (compactL V) ∧ w.grownBy w' v.ownBlock
/-- What SetOf tells. -/
def SetPost (w : World) (L : List (List Nd)) (e : Ending) (w' : World) : Prop :=
  ∃ (A : Option Addr) (n c : Nat), e = .returned (.tuple #[.slice A n c, errV (setE L)]) ∧ Ns w' A n c (setV L) ∧ Below w.heap.size w w'
theorem ns_nil (w : World) : Ns w none 0 0 [] := ⟨rfl, Nat.le_refl _, Nat.zero_le _, fun k x hx => by simp at hx, fun x hx => by cases hx⟩
/-- What is collected of a set's parts. -/
def outP (n : Nat) (L : List (List Nd)) (k : Nat) : List Nd := setHead n :: (L.take k).flatten
theorem outP_step {n : Nat} {L : List (List Nd)} {k : Nat} (h : k < L.length) : outP n L (k + 1) = outP n L k ++ L[k] := by
  unfold outP
  rw [← List.take_append_getElem h, List.flatten_append]
  simp
theorem outP_len {n : Nat} {L : List (List Nd)} (k : Nat) : (outP n L k).length ≤ L.flatten.length + 1 := by
  unfold outP
  conv => rhs; rw [← List.take_append_drop k L]
  rw [List.flatten_append]
  simp only [List.length_cons, List.length_append]; omega
theorem outP_all {n : Nat} {L : List (List Nd)} {k : Nat} (h : L.length ≤ k) : outP n L k = setHead n :: L.flatten := by
  unfold outP; rw [List.take_of_length_le h]
theorem ndsOk_mem {L : List (List Nd)} (h : ∀ P ∈ L, NdsOk P) : NdsOk L.flatten := fun x hx => let ⟨P, hP, hx⟩ := List.mem_flatten.1 hx; h P hP x hx
theorem outP_ok {n : Nat} {L : List (List Nd)} (hn : n ≤ 5864062014634) (h : ∀ P ∈ L, NdsOk P) : NdsOk (setHead n :: L.flatten) := by
  intro x hx
  rcases List.mem_cons.1 hx with rfl | hx
  · exact ⟨Nat.zero_le _, Nat.zero_le _, by show _ ≤ (n : Int); omega, by show (n : Int) ≤ _; omega⟩
  · exact ndsOk_mem h x hx
theorem row_one (w : World) (x : Nd) : (w.alloc (.cells #[.int .i64 x.op, .int .i64 x.n, .string x.s, .string x.t] 40)).ownsRow w.heap.size 40 4 (.slice (some ⟨w.heap.size, 0, none⟩) 1 1) 1 (ndCells [x]) :=
  ⟨rfl, .inr ⟨_, 1, _, rfl, Nat.le_refl _, heap_alloc_new w _, Nat.le_refl _, by unfold maxLen; omega, rfl, rfl⟩⟩
theorem SlsAt.nds {w : World} {A : Option Addr} {V : List Sl} (h : SlsAt w A V) : ∀ P ∈ V.map Sl.P, NdsOk P := by
  intro P hP
  obtain ⟨r, hr, rfl⟩ := List.mem_map.1 hP
  obtain ⟨k, hk, rfl⟩ := List.getElem_of_mem hr
  obtain ⟨-, -, -, q⟩ := h.at hk
  exact q.ok

end Go.Proofs.Ytlipgpddcfkllaa
