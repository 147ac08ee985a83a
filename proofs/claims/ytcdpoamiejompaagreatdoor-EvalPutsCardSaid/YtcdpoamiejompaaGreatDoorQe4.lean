/-
  Plain: a uid as a text, there and back. No program in sight.
-/
import Derived.Lib.IndexMore
import Derived.Lib.CutLaws
import Derived.Test.YtcdpoamiejompaaGreatDoorQe3
namespace Go.Wk

/-- A uid's text. -/
def wrt (u : Ud) : ByteArray := bytesOf (u.1.data.toList ++ 58 :: 58 :: (quoted u.2).data.toList)
def wrtV (u : Ud) : ByteArray := if uidFault u = 0 then wrt u else ⟨#[]⟩
theorem uidFault_zero {u : Ud} : uidFault u = 0 ↔ nameFault u.1 = 0 ∧ textFault u.2 = 0 := by
  unfold uidFault
  by_cases h : nameFault u.1 = 0
  · rw [if_pos h]; exact ⟨fun h2 => ⟨h, h2⟩, fun h2 => h2.2⟩
  · rw [if_neg h]; exact ⟨fun h2 => absurd h2 h, fun h2 => absurd h2.1 h⟩
theorem name_le {k : ByteArray} (h : nameFault k = 0) : k.size ≤ 20 := by
  unfold nameFault at h
  by_cases h1 : nameOk k.data.toList = true
  · rw [if_pos h1] at h
    by_cases h2 : 20 < k.size
    · rw [if_pos h2] at h; cases h
    · omega
  · rw [if_neg h1] at h; cases h
theorem text_le {k : ByteArray} (h : textFault k = 0) : k.size ≤ 60 := by
  unfold textFault at h
  by_cases h1 : 60 < k.size
  · rw [if_pos h1] at h; cases h
  · omega
theorem wrt_sum (u : Ud) : u.1 ++ (⟨#[58, 58]⟩ : ByteArray) ++ quoted u.2 = wrt u := by
  refine bytes_ext ?_
  unfold wrt
  rw [bytesOf_data]
  simp [ByteArray.data_append]
end Go.Wk
