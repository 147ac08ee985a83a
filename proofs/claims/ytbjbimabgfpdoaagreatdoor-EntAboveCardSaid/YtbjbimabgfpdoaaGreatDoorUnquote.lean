/-
  name.Unquote: what was quoted.
-/
import Derived.Test.YtbjbimabgfpdoaaGreatDoorBuilder
import Derived.Test.YtbjbimabgfpdoaaGreatDoorQuoLaw
import Derived.Test.YtbjbimabgfpdoaaGreatDoorName
namespace Go.Proofs.YtbjbimabgfpdoaaGreatDoor
open Go.RowKit Go.Wk
set_option maxRecDepth 100000

theorem body_extract (s : ByteArray) (h : 2 ≤ s.size) : (s.extract 1 (s.size - 1)).data.toList = body s := by
  unfold body
  rw [ByteArray.data_extract, Array.toList_extract]
  simp
  congr 1
  omega
theorem bareV_none {s : ByteArray} (h : bare s = none) : bareV s = ⟨#[]⟩ ∧ bareE s = 1 := by
  unfold bareV bareE; rw [h]; exact ⟨rfl, rfl⟩
theorem bareV_some {s u : ByteArray} (h : bare s = some u) : bareV s = u ∧ bareE s = 0 := by
  unfold bareV bareE; rw [h]; exact ⟨rfl, rfl⟩
theorem inQ_not {s : ByteArray} (hq : ¬ inQ s) (h : 2 ≤ s.size) : s[0].toNat ≠ 34 ∨ s[s.size - 1].toNat ≠ 34 := by
  by_cases h0 : s[0].toNat = 34
  · refine .inr fun h1 => hq ⟨h, ?_, ?_⟩
    · have : s.data.toList[0]? = some s[0] := List.getElem?_eq_getElem (by simp; omega)
      rw [this]; exact congrArg some (UInt8.toNat_inj.1 h0)
    · have : s.data.toList[s.size - 1]? = some s[s.size - 1] := List.getElem?_eq_getElem (by simp; omega)
      rw [this]; exact congrArg some (UInt8.toNat_inj.1 h1)
  · exact .inl h0
theorem inQ_at {s : ByteArray} (hq : inQ s) : ∃ (h : 2 ≤ s.size), s[0].toNat = 34 ∧ s[s.size - 1].toNat = 34 := by
  obtain ⟨h, q0, q1⟩ := hq
  refine ⟨h, ?_, ?_⟩
  · have : s.data.toList[0]? = some s[0] := List.getElem?_eq_getElem (by simp; omega)
    rw [this] at q0; injection q0 with q0; rw [q0]; rfl
  · have : s.data.toList[s.size - 1]? = some s[s.size - 1] := List.getElem?_eq_getElem (by simp; omega)
    rw [this] at q1; injection q1 with q1; rw [q1]; rfl
end Go.Proofs.YtbjbimabgfpdoaaGreatDoor
