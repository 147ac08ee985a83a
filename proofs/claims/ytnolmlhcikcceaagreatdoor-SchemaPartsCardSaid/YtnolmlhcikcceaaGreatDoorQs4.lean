/-
  Plain: a uid as a text, there and back. No program in sight.
-/
import Derived.Lib.IndexMore
import Derived.Lib.CutLaws
import Derived.Test.YtnolmlhcikcceaaGreatDoorQs3
namespace Go.Wk

/-- A uid's text. -/
def wrt (u : Ud) : ByteArray := bytesOf (u.1.data.toList ++ 58 :: 58 :: (quoted u.2).data.toList)
def wrtV (u : Ud) : ByteArray := if uidFault u = 0 then wrt u else ⟨#[]⟩
/-- What stands ahead of the first two colons, and behind. -/
def cut2 (s : ByteArray) : ByteArray × ByteArray := (bytesOf (Lib.cut s.data.toList [58, 58]).1, bytesOf (Lib.cut s.data.toList [58, 58]).2.1)
/-- The uid of a text. -/
def rdU (s : ByteArray) : Option Ud := match bare (cut2 s).2 with
  | some id => if nameFault (cut2 s).1 = 0 then some ((cut2 s).1, id) else none
  | none => none
theorem isWrd_colon {b : UInt8} (h : isWrd b = true) : b ≠ 58 := by
  intro e; subst e; revert h; decide
theorem name_noColon {k : ByteArray} (h : nameFault k = 0) : ∀ b ∈ k.data.toList, b ≠ 58 := by
  have hok : nameOk k.data.toList = true := by
    unfold nameFault at h
    by_cases h1 : nameOk k.data.toList = true
    · exact h1
    · rw [if_neg h1] at h; cases h
  rcases hk : k.data.toList with _ | ⟨x, r⟩
  · intro b hb; cases hb
  · rw [hk] at hok
    simp only [nameOk, Bool.and_eq_true, List.all_eq_true] at hok
    intro b hb
    rcases List.mem_cons.1 hb with rfl | hb
    · exact isWrd_colon (by unfold isWrd; unfold isLetB at hok; rw [hok.1]; rfl)
    · exact isWrd_colon (hok.2 b hb)
theorem uidFault_zero {u : Ud} : uidFault u = 0 ↔ nameFault u.1 = 0 ∧ textFault u.2 = 0 := by
  unfold uidFault
  by_cases h : nameFault u.1 = 0
  · rw [if_pos h]; exact ⟨fun h2 => ⟨h, h2⟩, fun h2 => h2.2⟩
  · rw [if_neg h]; exact ⟨fun h2 => absurd h2 h, fun h2 => absurd h2.1 h⟩
theorem index_colons {k r : List UInt8} (h : ∀ b ∈ k, b ≠ 58) : Lib.index (k ++ 58 :: 58 :: r) [58, 58] = (k.length : Int) := by
  refine Lib.index_first (by simp) ?_ (fun j hj => ?_)
  · unfold Lib.occAt
    rw [List.drop_left' rfl]
    rfl
  · unfold Lib.occAt
    have hj' : j < (k ++ 58 :: 58 :: r).length := by simp; omega
    rw [List.drop_eq_getElem_cons hj', List.getElem_append_left hj]
    have := h k[j] (List.getElem_mem hj)
    simp [List.isPrefixOf]
    intro e
    exact absurd e.symm this
theorem cut_colons {k r : List UInt8} (h : ∀ b ∈ k, b ≠ 58) : Lib.cut (k ++ 58 :: 58 :: r) [58, 58] = (k, r, true) := by
  unfold Lib.cut
  rw [index_colons h, if_pos (by omega)]
  have e : (k ++ 58 :: 58 :: r).drop (k.length + 2) = r := by
    have : k ++ 58 :: 58 :: r = (k ++ [58, 58]) ++ r := by simp
    rw [this, List.drop_left' (by simp)]
  simp [e]
theorem cut2_wrt {u : Ud} (h : nameFault u.1 = 0) : cut2 (wrt u) = (u.1, quoted u.2) := by
  unfold cut2 wrt
  rw [bytesOf_data, cut_colons (name_noColon h)]
  simp only [bytesOf_of]
theorem bare_empty : bare (bytesOf []) = none := if_neg (fun h => by have := h.1; rw [bytesOf_size] at this; simp at this)
theorem cut2_found {s : ByteArray} {id : ByteArray} (h : bare (cut2 s).2 = some id) : s.data.toList = (cut2 s).1.data.toList ++ 58 :: 58 :: (cut2 s).2.data.toList := by
  unfold cut2 at h ⊢
  rcases Lib.index_spec s.data.toList [58, 58] with ⟨h1, -⟩ | ⟨i, h1, h2, h3, -⟩
  · have : Lib.cut s.data.toList [58, 58] = (s.data.toList, [], false) := by unfold Lib.cut; rw [h1, if_neg (by omega)]
    rw [this] at h
    rw [bare_empty] at h; cases h
  · have e : Lib.cut s.data.toList [58, 58] = (s.data.toList.take i, s.data.toList.drop (i + 2), true) := by
      unfold Lib.cut; rw [h1, if_pos (by omega)]; simp
    rw [e]
    simp only [bytesOf_data]
    unfold Lib.occAt at h3
    obtain ⟨t, ht⟩ := List.isPrefixOf_iff_prefix.1 h3
    have h4 : s.data.toList.drop i = 58 :: 58 :: t := ht.symm
    have h5 : s.data.toList.drop (i + 2) = t := by
      rw [← List.drop_drop, h4]; rfl
    rw [h5, ← h4, List.take_append_drop]
theorem rdU_some {s : ByteArray} {u : Ud} : rdU s = some u ↔ uidFault u = 0 ∧ s = wrt u := by
  constructor
  · intro h
    unfold rdU at h
    split at h
    · rename_i id hb
      split at h
      · rename_i hn
        injection h with h
        subst h
        obtain ⟨h1, h2⟩ := bare_some.1 hb
        refine ⟨uidFault_zero.2 ⟨hn, h1⟩, bytes_ext ?_⟩
        unfold wrt
        rw [bytesOf_data, ← h2]
        exact cut2_found hb
      · cases h
    · cases h
  · rintro ⟨h, rfl⟩
    obtain ⟨h1, h2⟩ := uidFault_zero.1 h
    unfold rdU
    rw [cut2_wrt h1]
    dsimp only
    rw [bare_some.2 ⟨h2, rfl⟩]
    dsimp only
    rw [if_pos h1]
theorem cut2_le (s : ByteArray) : (cut2 s).1.size ≤ s.size ∧ (cut2 s).2.size ≤ s.size := by
  unfold cut2
  rw [bytesOf_size, bytesOf_size, ← size_toList s]
  unfold Lib.cut
  split
  · exact ⟨by dsimp only; rw [List.length_take]; omega, by dsimp only; rw [List.length_drop]; omega⟩
  · exact ⟨Nat.le_refl _, Nat.zero_le _⟩
def rdE (s : ByteArray) : Int := if (rdU s).isSome then 0 else 1
def rdV (s : ByteArray) : Ud := (rdU s).getD (⟨#[]⟩, ⟨#[]⟩)
theorem rd_none {s : ByteArray} (h : rdU s = none) : rdE s = 1 ∧ rdV s = (⟨#[]⟩, ⟨#[]⟩) := by unfold rdE rdV; rw [h]; exact ⟨rfl, rfl⟩
theorem rd_some {s : ByteArray} {u : Ud} (h : rdU s = some u) : rdE s = 0 ∧ rdV s = u := by unfold rdE rdV; rw [h]; exact ⟨rfl, rfl⟩
theorem name_le {k : ByteArray} (h : nameFault k = 0) : k.size ≤ 20 := by
  unfold nameFault at h
  by_cases h1 : nameOk k.data.toList = true
  · rw [if_pos h1] at h
    by_cases h2 : 20 < k.size
    · rw [if_pos h2] at h; cases h
    · omega
  · rw [if_neg h1] at h; cases h
theorem text_le {k : ByteArray} (h : textFault k = 0) : k.size ≤ 60 := by
  unfold textFault at h
  by_cases h1 : 60 < k.size
  · rw [if_pos h1] at h; cases h
  · omega
theorem wrt_size (u : Ud) : (wrt u).size = u.1.size + 2 + (quoted u.2).size := by
  unfold wrt
  rw [bytesOf_size, List.length_append, List.length_cons, List.length_cons, size_toList, size_toList]
  omega
theorem wrt_le {u : Ud} (h : uidFault u = 0) : (wrt u).size ≤ 200 := by
  obtain ⟨h1, h2⟩ := uidFault_zero.1 h
  have a := name_le h1
  have b := text_le h2
  rw [wrt_size, quoted_size]
  have := (quo_length u.2.data.toList).2
  rw [size_toList] at this
  omega
theorem wrt_sum (u : Ud) : u.1 ++ (⟨#[58, 58]⟩ : ByteArray) ++ quoted u.2 = wrt u := by
  refine bytes_ext ?_
  unfold wrt
  rw [bytesOf_data]
  simp [ByteArray.data_append]
end Go.Wk
