/-
  A map from texts to slices, made by the call: what it holds, by the list of what was put.
-/
import Derived.Maps.OwnSet
import Derived.Maps.Views
import Derived.Maps.Keyed
import Derived.WideAt
import Derived.Test.YtcdpoamiejompaaGreatDoorQe1
namespace Go.Wk
open Go.Maps

theorem snoc_ind {α : Type} {C : List α → Prop} (h0 : C []) (h1 : ∀ l x, C l → C (l ++ [x])) (L : List α) : C L := by
  rw [← List.reverse_reverse L]
  generalize L.reverse = M
  induction M with
  | nil => exact h0
  | cons x M ih => rw [List.reverse_cons]; exact h1 _ _ ih
/-- A map's element as it is: the value itself. -/
def heldR (v : Value) : Option (DataW Value × List MemPlace) := some (.held v, [])
abbrev keyL (s : ByteArray) : Lit := .string s.data.toList
theorem key_lit (s : ByteArray) : WideAt.IsKeyLit (keyL s) := trivial
theorem keyL_inj {s t : ByteArray} (h : keyL s = keyL t) : s = t := by
  have h1 : s.data.toList = t.data.toList := by simpa [keyL] using h
  have h2 : s.data = t.data := Array.toList_inj.1 h1
  cases s; cases t; cases h2; rfl
def mapD (L : List (ByteArray × Value)) : DataW Value := L.foldl (fun D p => D.put (keyL p.1) (.held p.2)) (.map [])
theorem mapD_snoc (L : List (ByteArray × Value)) (p : ByteArray × Value) : mapD (L ++ [p]) = (mapD L).put (keyL p.1) (.held p.2) := by simp [mapD]
theorem isMap_mapD (L : List (ByteArray × Value)) : IsMap (mapD L) := by
  refine snoc_ind (C := fun L => IsMap (mapD L)) isMap_empty (fun L p ih => ?_) L
  rw [mapD_snoc]; exact ih.put _ _
theorem has_mapD (L : List (ByteArray × Value)) (s : ByteArray) : has (mapD L) (keyL s) = L.any fun p => decide (p.1 = s) := by
  refine snoc_ind (C := fun L => has (mapD L) (keyL s) = L.any fun p => decide (p.1 = s)) rfl (fun L p ih => ?_) L
  · rw [mapD_snoc, List.any_append]
    by_cases h : p.1 = s
    · subst h; rw [has_put_same (isMap_mapD L) (key_lit _)]; simp
    · rw [has_put_other (fun e => h (keyL_inj e).symm), ih]; simp [h]
/-- What stands at a name that was put once. -/
theorem at_mapD {L : List (ByteArray × Value)} (hn : (L.map (·.1)).Nodup) {p : ByteArray × Value} (hp : p ∈ L) (z : DataW Value) : (mapD L).atKey (keyL p.1) z = .held p.2 := by
  revert hn hp
  refine snoc_ind (C := fun L => (L.map (·.1)).Nodup → p ∈ L → (mapD L).atKey (keyL p.1) z = .held p.2) (fun _ hp => nomatch hp) (fun L q ih hn hp => ?_) L
  · rw [mapD_snoc]
    rw [List.map_append, List.nodup_append] at hn
    obtain ⟨h1, -, h3⟩ := hn
    rcases List.mem_append.1 hp with hp | hp
    · rw [atKey_put_other]
      · exact ih h1 hp
      · intro e
        exact h3 p.1 (List.mem_map_of_mem hp) q.1 (by simp) (keyL_inj e)
    · simp only [List.mem_cons, List.not_mem_nil, or_false] at hp
      subst hp
      exact atKey_put_same (isMap_mapD L) (key_lit _) _ _
open Go.RowKit in
theorem ownsMap_keep {H : Type} {P : Program} {k : TypeId} {R : Value → Option (DataW H × List MemPlace)} {w w' : World} {b n : Nat} {D : DataW H} (h : w.ownsMap P k R b n D) (hb : Below w.heap.size w w') : w'.ownsMap P k R b n D :=
  let hl := h.lt
  let ⟨es, clock, h1, r⟩ := h
  ⟨es, clock, (hb.block b hl).trans h1, r⟩
end Go.Wk
