/-
  Plain: the record's fields stand as slices.Sort puts the names.
-/
import Derived.Test.YtlipgpddcfkllaaRecLaw
namespace Go.Wk
theorem lt_of_compare : ∀ a b : List UInt8, Lib.compareBytes a b < 0 → a < b
  | [], [], h => by simp [Lib.compareBytes] at h
  | [], _ :: _, _ => List.Lex.nil
  | _ :: _, [], h => by simp [Lib.compareBytes] at h
  | x :: a, y :: b, h => by
    unfold Lib.compareBytes at h
    by_cases h1 : x < y
    · exact List.Lex.rel h1
    · by_cases h2 : y < x
      · simp [h1, h2] at h
      · have : x = y := UInt8.le_antisymm (UInt8.not_lt.1 h2) (UInt8.not_lt.1 h1)
        subst this
        simp at h
        exact List.Lex.cons (lt_of_compare a b h)
theorem names_sorted {Z : List Fld} (hn : (Z.map (·.1)).Nodup) :
    (sortR Z).map (fun x => x.1.data.toList) = ((Z.map (·.1)).map fun x => x.data.toList).mergeSort fun x y => decide (x ≤ y) := by
  refine List.Perm.eq_of_pairwise (le := fun x y : List UInt8 => x ≤ y) (fun a b _ _ h1 h2 => List.le_antisymm h1 h2) ?_ ?_ ?_
  · rw [List.pairwise_map]
    refine (row_sortR hn).imp fun {a b} h => ?_
    exact List.le_of_lt (lt_of_compare _ _ h)
  · have h := List.pairwise_mergeSort (le := fun x y : List UInt8 => decide (x ≤ y)) (fun a b c h1 h2 => by simp only [decide_eq_true_eq] at *; exact List.le_trans h1 h2) (fun a b => by simp only [Bool.or_eq_true, decide_eq_true_eq]; exact List.le_total a b) ((Z.map (·.1)).map fun x => x.data.toList)
    exact h.imp fun {a b} h => by simpa using h
  · refine List.Perm.trans ?_ (List.mergeSort_perm _ _).symm
    rw [List.map_map]
    exact (perm_sortR Z).map _
end Go.Wk
