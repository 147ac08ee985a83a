/-
  The reference's ValueEnd, ValueFault and Faults.
-/
import Derived.Test.YtbjbimabgfpdoaaGreatDoorRefNode
import Derived.Test.YtbjbimabgfpdoaaGreatDoorRefNodes
import Derived.Test.YtbjbimabgfpdoaaGreatDoorRdNodes
namespace Go.Wk
def fieldEnd (v : List Nd) (m p : Nat) : Option Nat :=
  match v[p]? with
  | none => none
  | some x => if decide (x.op = 7) && shapedN x then partEnd v m (p + 1) else none
def endI : Option Nat → Int
  | none => -1
  | some e => e
theorem nameFault_pos {s : ByteArray} (h : nameFault s = 0) : 0 < s.size := by
  rcases Nat.eq_zero_or_pos s.size with h0 | h0
  · exfalso; unfold nameFault at h; rw [nameOk_empty h0] at h; simp at h
  · exact h0
theorem cmpB_empty {s : ByteArray} (h : 0 < s.size) : cmpB .empty s < 0 := by
  unfold cmpB
  rcases hl : s.data.toList with _ | ⟨x, l⟩
  · have : s.data.toList.length = 0 := by rw [hl]; rfl
    rw [Array.length_toList] at this
    have h' : 0 < s.data.size := h
    omega
  · show Lib.compareBytes [] (x :: l) < 0
    simp [Lib.compareBytes]
theorem field_pos {x : Nd} (h7 : x.op = 7) (hs : shapedN x = true) : cmpB .empty x.s < 0 := by
  unfold shapedN at hs
  rw [h7] at hs
  simp at hs
  exact cmpB_empty (nameFault_pos hs.2)
theorem fieldEnd_some {v : List Nd} {m q e : Nat} (h : fieldEnd v m q = some e) : ∃ hq : q < v.length, v[q].op = 7 ∧ shapedN v[q] = true ∧ partEnd v m (q + 1) = some e := by
  unfold fieldEnd at h
  by_cases hq : q < v.length
  · rw [List.getElem?_eq_getElem hq] at h
    simp only at h
    split at h
    · rename_i hc
      simp at hc
      exact ⟨hq, hc.1, hc.2, h⟩
    · cases h
  · rw [List.getElem?_eq_none (by omega)] at h; cases h
theorem recLoop_none {v : List Nd} {N k m : Nat} {last : ByteArray} {q : Nat} (hk : k < N) (h : fieldEnd v m q = none) : recLoop v (partEnd v m) (N - k) last q = none := by
  rcases hf : fieldOk v last q with _ | s
  · exact recLoop_bad hk hf
  · refine recLoop_stop hk hf ?_
    unfold fieldOk at hf
    unfold fieldEnd at h
    split at hf
    · cases hf
    · rename_i x hx
      rw [hx] at h
      simp only at h
      split at hf
      · rename_i hc
        simp only [Bool.and_eq_true] at hc
        rw [if_pos (by rw [hc.1.1, hc.1.2]; rfl)] at h
        exact h
      · cases hf
end Go.Wk
namespace Go.Proofs.YtbjbimabgfpdoaaGreatDoor
open Go.RowKit Go.Wk Go.Sort
set_option maxRecDepth 100000

theorem nd4_box (w : World) (x : Nd) (t : TypeId) : Nd4 (w.alloc (.cells #[.int .i64 x.op, .int .i64 x.n, .string x.s, .string x.t] t)) ⟨w.heap.size, 0, none⟩ x :=
  ⟨by simp, by simp, by simp, by simp⟩

theorem end_out (A : Option Addr) (n c p : Nat) (f : Bool) (w : World) (h : n ≤ p) :
    Calls Tryz.prog 35 #[.slice A n c, .int .i64 p, .bool f] w fun e w' => e = .returned (.int .i64 (endI none)) ∧ Below w.heap.size w w' := by
  go_enter Tryz.func35, Tryz.ntmps35
  go_wp2_with fail
  go_ret
  exact ⟨rfl, Below.refl _ _⟩

set_option maxRecDepth 100000 in
set_option maxHeartbeats 1000000 in
theorem end_bad (a : Addr) (n c p : Nat) (f : Bool) (x : Nd) (w : World) (hp : p < n) (hD : Nd4 w (a.add (p * 4)) x) (hO : NdOk x) (h : (shapedN x && (decide (x.op = 7) == f)) = false) :
    Calls Tryz.prog 35 #[.slice (some a) n c, .int .i64 p, .bool f] w fun e w' => e = .returned (.int .i64 (endI none)) ∧ Below w.heap.size w w' := by
  have V := Lib.hid (fun w => ref_ValueNode x w hO.s hO.t)
  unfold ndV at V
  obtain ⟨d0, d1, d2, d3⟩ := hD
  by_cases hs : shapedN x = true
  · rw [hs] at V h
    have h7 : (x.op == 7) = !f := by
      have : (x.op == 7) = decide (x.op = 7) := rfl
      rw [this]
      rcases hd : decide (x.op = 7) <;> rcases f <;> simp_all
    clear h hs hO
    cases f
    all_goals
      simp only [Bool.not_true, Bool.not_false] at h7
      go_enter Tryz.func35, Tryz.ntmps35
      go_wp2_with fail
      refine (V.out _).mono ?_
      rintro e w1 ⟨rfl, hb⟩
      obtain ⟨x0, x1, x2, x3⟩ := (nd4_box w x 33).keep hb
      have B := Lib.hid (below_box2 hb)
      clear hb
      go_wp2_with fail
      go_ret
      exact ⟨rfl, B.out⟩
  · rw [Bool.not_eq_true] at hs
    rw [hs] at V
    clear h hs hO
    go_enter Tryz.func35, Tryz.ntmps35
    go_wp2_with fail
    refine (V.out _).mono ?_
    rintro e w1 ⟨rfl, hb⟩
    go_wp2_with fail
    go_ret
    exact ⟨rfl, below_box2 hb⟩

set_option maxRecDepth 100000 in
set_option maxHeartbeats 1000000 in
theorem end_leaf (a : Addr) (n c p : Nat) (x : Nd) (w : World) (hm : n ≤ maxLen) (hp : p < n) (hD : Nd4 w (a.add (p * 4)) x) (hO : NdOk x) (hs : shapedN x = true) (h5 : (x.op == 5) = false) (h6 : (x.op == 6) = false) (h7 : (x.op == 7) = false) :
    Calls Tryz.prog 35 #[.slice (some a) n c, .int .i64 p, .bool false] w fun e w' => e = .returned (.int .i64 (endI (some (p + 1)))) ∧ Below w.heap.size w w' := by
  unfold maxLen at hm
  have V := Lib.hid (fun w => ref_ValueNode x w hO.s hO.t)
  unfold ndV at V
  obtain ⟨d0, d1, d2, d3⟩ := hD
  rw [hs] at V
  have g5 : (x.op != 5) = true := by simp only [bne, h5]; rfl
  have g6 : (x.op != 6) = true := by simp only [bne, h6]; rfl
  clear hs hO
  go_enter Tryz.func35, Tryz.ntmps35
  go_wp2_with fail
  refine (V.out _).mono ?_
  rintro e w1 ⟨rfl, hb⟩
  obtain ⟨x0, x1, x2, x3⟩ := (nd4_box w x 33).keep hb
  have B := Lib.hid (below_box2 hb)
  clear hb
  go_wp2_with fail
  go_ret
  exact ⟨rfl, B.out⟩

/-- The contracts of ValueEnd, with so much fuel. -/
def RefC (P : List Nd) (A : Option Addr) (n c : Nat) (m : Nat) : Prop :=
  (∀ (q : Nat) (w : World), NdsAt w A P → n - q < m → Calls Tryz.prog 35 #[.slice A n c, .int .i64 q, .bool false] w fun e w' => e = .returned (.int .i64 (endI (partEnd P m q))) ∧ Below w.heap.size w w') ∧
  (∀ (q : Nat) (w : World), NdsAt w A P → n - q ≤ m → Calls Tryz.prog 35 #[.slice A n c, .int .i64 q, .bool true] w fun e w' => e = .returned (.int .i64 (endI (fieldEnd P m q))) ∧ Below w.heap.size w w')

set_option maxRecDepth 100000 in
set_option maxHeartbeats 1000000 in
theorem end_field (a : Addr) (n c p : Nat) (x : Nd) (r : Option Nat) (w : World) (hm : n ≤ maxLen) (hp : p < n) (hD : Nd4 w (a.add (p * 4)) x) (hO : NdOk x) (hs : shapedN x = true) (h7 : x.op = 7)
    (C : Hid (∀ w', Below w.heap.size w w' → Calls Tryz.prog 35 #[.slice (some a) n c, .int .i64 ((p : Int) + 1), .bool false] w' fun e w'' => e = .returned (.int .i64 (endI r)) ∧ Below w'.heap.size w' w'')) :
    Calls Tryz.prog 35 #[.slice (some a) n c, .int .i64 p, .bool true] w fun e w' => e = .returned (.int .i64 (endI r)) ∧ Below w.heap.size w w' := by
  unfold maxLen at hm
  have V := Lib.hid (fun w => ref_ValueNode x w hO.s hO.t)
  unfold ndV at V
  obtain ⟨d0, d1, d2, d3⟩ := hD
  rw [hs] at V
  rw [h7] at V d0
  have X := Lib.hid h7
  clear hs hO h7
  go_enter Tryz.func35, Tryz.ntmps35
  go_wp2_with fail
  refine (V.out _).mono ?_
  rintro e w1 ⟨rfl, hb⟩
  have D := (nd4_box w x 33)
  rw [X.out] at D
  obtain ⟨x0, x1, x2, x3⟩ := D.keep hb
  rw [X.out] at x0
  have B := Lib.hid (below_box2 hb)
  clear hb D
  go_wp2_with fail
  refine (C.out _ B.out).mono ?_
  rintro e w2 ⟨rfl, b2⟩
  go_wp2_with fail
  go_ret
  exact ⟨rfl, (bh B b2).out⟩
end Go.Proofs.YtbjbimabgfpdoaaGreatDoor
