/-
  The reference's ValueEnd, ValueFault and Faults.
-/
import Derived.Test.YtlipgpddcfkllaaRefNode
import Derived.Test.YtlipgpddcfkllaaRefNodes
import Derived.Test.YtlipgpddcfkllaaRdNodes
namespace Go.Wk
def fieldEnd (v : List Nd) (m p : Nat) : Option Nat :=
  match v[p]? with
  | none => none
  | some x => if decide (x.op = 7) && shapedN x then partEnd v m (p + 1) else none
def endI : Option Nat → Int
  | none => -1
  | some e => e
theorem nameFault_pos {s : ByteArray} (h : nameFault s = 0) : 0 < s.size := by
  rcases Nat.eq_zero_or_pos s.size with h0 | h0
  · exfalso; unfold nameFault at h; rw [nameOk_empty h0] at h; simp at h
  · exact h0
theorem cmpB_empty {s : ByteArray} (h : 0 < s.size) : cmpB .empty s < 0 := by
  unfold cmpB
  rcases hl : s.data.toList with _ | ⟨x, l⟩
  · have : s.data.toList.length = 0 := by rw [hl]; rfl
    rw [Array.length_toList] at this
    have h' : 0 < s.data.size := h
    omega
  · show Lib.compareBytes [] (x :: l) < 0
    simp [Lib.compareBytes]
theorem field_pos {x : Nd} (h7 : x.op = 7) (hs : shapedN x = true) : cmpB .empty x.s < 0 := by
  unfold shapedN at hs
  rw [h7] at hs
  simp at hs
  exact cmpB_empty (nameFault_pos hs.2)
theorem fieldEnd_some {v : List Nd} {m q e : Nat} (h : fieldEnd v m q = some e) : ∃ hq : q < v.length, v[q].op = 7 ∧ shapedN v[q] = true ∧ partEnd v m (q + 1) = some e := by
  unfold fieldEnd at h
  by_cases hq : q < v.length
  · rw [List.getElem?_eq_getElem hq] at h
    simp only at h
    split at h
    · rename_i hc
      simp at hc
      exact ⟨hq, hc.1, hc.2, h⟩
    · cases h
  · rw [List.getElem?_eq_none (by omega)] at h; cases h
theorem recLoop_none {v : List Nd} {N k m : Nat} {last : ByteArray} {q : Nat} (hk : k < N) (h : fieldEnd v m q = none) : recLoop v (partEnd v m) (N - k) last q = none := by
  rcases hf : fieldOk v last q with _ | s
  · exact recLoop_bad hk hf
  · refine recLoop_stop hk hf ?_
    unfold fieldOk at hf
    unfold fieldEnd at h
    split at hf
    · cases hf
    · rename_i x hx
      rw [hx] at h
      simp only at h
      split at hf
      · rename_i hc
        simp only [Bool.and_eq_true] at hc
        rw [if_pos (by rw [hc.1.1, hc.1.2]; rfl)] at h
        exact h
      · cases hf
end Go.Wk
namespace Go.Proofs.Ytlipgpddcfkllaa
open Go.RowKit Go.Wk Go.Sort
set_option maxRecDepth 100000

theorem nd4_box (w : World) (x : Nd) (t : TypeId) : Nd4 (w.alloc (.cells #[.int .i64 x.op, .int .i64 x.n, .string x.s, .string x.t] t)) ⟨w.heap.size, 0, none⟩ x :=
  ⟨by simp, by simp, by simp, by simp⟩

end Go.Proofs.Ytlipgpddcfkllaa
