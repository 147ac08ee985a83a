/-
  Package bag: both, Has, All, Any.
-/
import Derived.Test.YtfbgaefbalbohaaBag
namespace Go.Wk
def setsE (P Q : List Nd) : Int := if headOp P = 5 ∧ headOp Q = 5 then 0 else 2
/-- The error of two that must be sets. -/
def bothE (P Q : List Nd) : Int := or2 (valFault P) (or2 (valFault Q) (setsE P Q))
theorem bothE_zero {P Q : List Nd} : bothE P Q = 0 ↔ valFault P = 0 ∧ valFault Q = 0 ∧ headOp P = 5 ∧ headOp Q = 5 := by
  unfold bothE or2 setsE
  by_cases h1 : valFault P = 0
  · rw [if_pos h1]
    by_cases h2 : valFault Q = 0
    · rw [if_pos h2]
      by_cases h3 : headOp P = 5 ∧ headOp Q = 5
      · rw [if_pos h3]; exact ⟨fun _ => ⟨h1, h2, h3.1, h3.2⟩, fun _ => rfl⟩
      · rw [if_neg h3]; exact ⟨fun h => by omega, fun h => absurd ⟨h.2.2.1, h.2.2.2⟩ h3⟩
    · rw [if_neg h2]; exact ⟨fun h => absurd h h2, fun h => absurd h.2.1 h2⟩
  · rw [if_neg h1]; exact ⟨fun h => absurd h h1, fun h => absurd h.1 h1⟩
theorem prtE_ways {P : List Nd} (h : valFault P = 0) : (headOp P = 5 ∧ prtE P = 0) ∨ (headOp P ≠ 5 ∧ prtE P = 0) ∨ (headOp P ≠ 5 ∧ prtE P = 2) := by
  unfold prtE
  rw [if_pos h]
  by_cases h5 : headOp P = 5
  · exact .inl ⟨h5, if_pos (.inl h5)⟩
  · by_cases h6 : headOp P = 6
    · exact .inr (.inl ⟨h5, if_pos (.inr h6)⟩)
    · exact .inr (.inr ⟨h5, if_neg (by omega)⟩)
end Go.Wk
namespace Go.Proofs.Ytfbgaefbalbohaa
open Go.RowKit Go.Wk Go.Sort
set_option maxRecDepth 100000

/-- What both tells. -/
def BothPost (w : World) (P Q : List Nd) (e : Ending) (w' : World) : Prop :=
  ∃ (va vb : Value) (Va Vb : List Sl), e = .returned (.tuple #[va, vb, errV (bothE P Q)]) ∧ OwnSls w' w.heap.size va Va ∧ OwnSls w' w.heap.size vb Vb ∧ (bothE P Q = 0 → Va.map Sl.P = setParts P ∧ Vb.map Sl.P = setParts Q) ∧
    (va.ownBlock = none ∨ va.ownBlock ≠ vb.ownBlock) ∧ (∀ r ∈ Vb, Apart r va.ownBlock) ∧ Below w.heap.size w w'
theorem both_err {w w' : World} {P Q : List Nd} {v : Value} (hv : v = errV (bothE P Q)) (h0 : bothE P Q ≠ 0) (hb : Below w.heap.size w w') : BothPost w P Q (.returned (.tuple #[.slice none 0 0, .slice none 0 0, v])) w' :=
  ⟨_, _, [], [], by rw [hv], OwnSls.nil _ _, OwnSls.nil _ _, fun h => absurd h h0, .inl rfl, (by intro r hr; cases hr), hb⟩


set_option maxHeartbeats 4000000 in
theorem both_bad1 (A B : Option Addr) (n m c d : Nat) (P Q : List Nd) (w : World) (h : Ns w A n c P) (k : Ns w B m d Q) (h1 : valFault P ≠ 0) :
    Calls Try.prog 28 #[.slice A n c, .slice B m d] w (BothPost w P Q) := by
  have i0 : ∀ w, (Instr.index 82 (.agg #[.slice A n c, .slice B m d]) (.int .i64 0)).run Try.prog w = .ok (.slice A n c) w := fun _ => by rfl
  have i1 : ∀ w, (Instr.index 82 (.agg #[.slice A n c, .slice B m d]) (.int .i64 1)).run Try.prog w = .ok (.slice B m d) w := fun _ => by rfl
  have K1 := Lib.hid (fun w' hb => val_Check_ns (h.keep (w' := w') hb))
  have K2 := Lib.hid (fun w' hb => val_Check_ns (k.keep (w' := w') hb))
  rw [errV_ne h1] at K1
  have HE := Lib.hid (show bothE P Q = valFault P from or2_ne h1 _)
  have HX := Lib.hid (errV_ne h1)
  have H1 := Lib.hid h1
  clear h k h1 K2
  go_enter Try.func28, Try.ntmps28
  go_wp2_with fail
  go_loopw [8, 9, 13] (fun _ _ i wr => ∃ j : Nat, j ≤ 0 ∧ i = .int .i64 j ∧ Hid (Below w.heap.size w wr)) (fun _ _ i _ => 2 - (intOf i).toNat)
  case atStart => exact ⟨0, by omega, rfl, Below.refl _ _⟩
  case round =>
    obtain ⟨j, hj, rfl, hB⟩ := hrel
    obtain rfl : j = 0 := by omega
    · skip
      go_wp2_with fail
      refine (K1.out _ hB.out).mono ?_
      rintro e w1 ⟨rfl, b1⟩
      have B1 := bh hB b1
      clear b1
      go_wp2_with fail
      go_ret3
      exact both_err (by rw [HE.out, HX.out]; rfl) (by rw [HE.out]; exact H1.out) B1.out


set_option maxHeartbeats 4000000 in
theorem both_bad2 (A B : Option Addr) (n m c d : Nat) (P Q : List Nd) (w : World) (h : Ns w A n c P) (k : Ns w B m d Q) (h1 : valFault P = 0) (h2 : valFault Q ≠ 0) :
    Calls Try.prog 28 #[.slice A n c, .slice B m d] w (BothPost w P Q) := by
  have i0 : ∀ w, (Instr.index 82 (.agg #[.slice A n c, .slice B m d]) (.int .i64 0)).run Try.prog w = .ok (.slice A n c) w := fun _ => by rfl
  have i1 : ∀ w, (Instr.index 82 (.agg #[.slice A n c, .slice B m d]) (.int .i64 1)).run Try.prog w = .ok (.slice B m d) w := fun _ => by rfl
  have K1 := Lib.hid (fun w' hb => val_Check_ns (h.keep (w' := w') hb))
  have K2 := Lib.hid (fun w' hb => val_Check_ns (k.keep (w' := w') hb))
  rw [h1, errV_zero] at K1
  rw [errV_ne h2] at K2
  have HE := Lib.hid (show bothE P Q = valFault Q by unfold bothE; rw [h1, or2_zero, or2_ne h2])
  have HX := Lib.hid (errV_ne h2)
  have H2 := Lib.hid h2
  clear h k h1 h2
  go_enter Try.func28, Try.ntmps28
  go_wp2_with fail
  go_loopw [8, 9, 13] (fun _ _ i wr => ∃ j : Nat, j ≤ 1 ∧ i = .int .i64 j ∧ Hid (Below w.heap.size w wr)) (fun _ _ i _ => 2 - (intOf i).toNat)
  case atStart => exact ⟨0, by omega, rfl, Below.refl _ _⟩
  case round =>
    obtain ⟨j, hj, rfl, hB⟩ := hrel
    rcases (show j = 0 ∨ j = 1 by omega) with rfl | rfl
    · skip
      go_wp2_with fail
      refine (K1.out _ hB.out).mono ?_
      rintro e w1 ⟨rfl, b1⟩
      have B1 := bh hB b1
      clear b1
      go_wp2_with fail
      go_roundw
      case rel => exact ⟨1, by omega, by go_num, B1⟩
      case measure => simp [intOf]
    · skip
      go_wp2_with fail
      refine (K2.out _ hB.out).mono ?_
      rintro e w1 ⟨rfl, b1⟩
      have B1 := bh hB b1
      clear b1
      go_wp2_with fail
      go_ret3
      exact both_err (by rw [HE.out, HX.out]; rfl) (by rw [HE.out]; exact H2.out) B1.out


set_option maxHeartbeats 4000000 in
theorem both_op1 (A B : Option Addr) (n m c d : Nat) (P Q : List Nd) (w : World) (h : Ns w A n c P) (k : Ns w B m d Q) (h1 : valFault P = 0) (h2 : valFault Q = 0) (h5 : headOp P ≠ 5) (hE : prtE P = 0) :
    Calls Try.prog 28 #[.slice A n c, .slice B m d] w (BothPost w P Q) := by
  have i0 : ∀ w, (Instr.index 82 (.agg #[.slice A n c, .slice B m d]) (.int .i64 0)).run Try.prog w = .ok (.slice A n c) w := fun _ => by rfl
  have i1 : ∀ w, (Instr.index 82 (.agg #[.slice A n c, .slice B m d]) (.int .i64 1)).run Try.prog w = .ok (.slice B m d) w := fun _ => by rfl
  have K1 := Lib.hid (fun w' hb => val_Check_ns (h.keep (w' := w') hb))
  have K2 := Lib.hid (fun w' hb => val_Check_ns (k.keep (w' := w') hb))
  rw [h1, errV_zero] at K1
  rw [h2, errV_zero] at K2
  have hp1 := (isV_zero.1 h1).2.pos
  have hp2 := (isV_zero.1 h2).2.pos
  obtain ⟨a, rfl, D⟩ := h.at_.nd hp1
  obtain ⟨b, rfl, E⟩ := k.at_.nd hp2
  rw [show a.add (0 * 4) = a from rfl] at D
  rw [show b.add (0 * 4) = b from rfl] at E
  have hn1 : 0 < n := by rw [h.len]; exact hp1
  have hn2 : 0 < m := by rw [k.len]; exact hp2
  have d0 := D.c0
  have e0 := E.c0
  rw [← headOp_at hp1] at d0
  rw [← headOp_at hp2] at e0
  have D0 := Lib.hid (fun w' (hb : Below w.heap.size w w') => cell_keep hb d0)
  have E0 := Lib.hid (fun w' (hb : Below w.heap.size w w') => cell_keep hb e0)
  have T1 := Lib.hid (fun w' hb => val_Parts _ n c P w' (h.keep (w' := w') hb))
  have T2 := Lib.hid (fun w' hb => val_Parts _ m d Q w' (k.keep (w' := w') hb))
  unfold PartsPost at T1
  rw [hE, errV_zero] at T1
  skip
  skip
  have HE := Lib.hid (show bothE P Q = 2 by unfold bothE setsE; rw [h1, h2, or2_zero, or2_zero, if_neg (fun q => h5 q.1)])
  have g5 : (headOp P != 5) = true := by rw [bne_iff_ne]; exact h5
  skip
  clear h k h1 h2 h5 hE hp1 hp2 D E d0 e0 E0 T2
  go_enter Try.func28, Try.ntmps28
  go_wp2_with fail
  go_loopw [8, 9, 13] (fun _ _ i wr => ∃ j : Nat, j ≤ 2 ∧ i = .int .i64 j ∧ Hid (Below w.heap.size w wr)) (fun _ _ i _ => 2 - (intOf i).toNat)
  case atStart => exact ⟨0, by omega, rfl, Below.refl _ _⟩
  case round =>
    obtain ⟨j, hj, rfl, hB⟩ := hrel
    rcases (show j = 0 ∨ j = 1 ∨ j = 2 by omega) with rfl | rfl | rfl
    · skip
      go_wp2_with fail
      refine (K1.out _ hB.out).mono ?_
      rintro e w1 ⟨rfl, b1⟩
      have B1 := bh hB b1
      clear b1
      go_wp2_with fail
      go_roundw
      case rel => exact ⟨1, by omega, by go_num, B1⟩
      case measure => simp [intOf]
    · skip
      go_wp2_with fail
      refine (K2.out _ hB.out).mono ?_
      rintro e w1 ⟨rfl, b1⟩
      have B1 := bh hB b1
      clear b1
      go_wp2_with fail
      go_roundw
      case rel => exact ⟨2, by omega, by go_num, B1⟩
      case measure => simp [intOf]
    · go_wp2_with fail
      refine (T1.out _ hB.out).mono ?_
      rintro e w1 ⟨va, Va, rfl, hO1, hL1, hF1, b1⟩
      have d1 := D0.out _ (hB.out.trans (b1.mono hB.out.size))
      have B1 := bh hB b1
      clear b1 hB hO1 hL1 hF1
      go_wp2_with fail
      go_ret3
      exact both_err (by rw [HE.out]; rfl) (by rw [HE.out]; omega) B1.out


set_option maxHeartbeats 4000000 in
theorem both_op2 (A B : Option Addr) (n m c d : Nat) (P Q : List Nd) (w : World) (h : Ns w A n c P) (k : Ns w B m d Q) (h1 : valFault P = 0) (h2 : valFault Q = 0) (h5 : headOp P ≠ 5) (hE : prtE P = 2) :
    Calls Try.prog 28 #[.slice A n c, .slice B m d] w (BothPost w P Q) := by
  have i0 : ∀ w, (Instr.index 82 (.agg #[.slice A n c, .slice B m d]) (.int .i64 0)).run Try.prog w = .ok (.slice A n c) w := fun _ => by rfl
  have i1 : ∀ w, (Instr.index 82 (.agg #[.slice A n c, .slice B m d]) (.int .i64 1)).run Try.prog w = .ok (.slice B m d) w := fun _ => by rfl
  have K1 := Lib.hid (fun w' hb => val_Check_ns (h.keep (w' := w') hb))
  have K2 := Lib.hid (fun w' hb => val_Check_ns (k.keep (w' := w') hb))
  rw [h1, errV_zero] at K1
  rw [h2, errV_zero] at K2
  have hp1 := (isV_zero.1 h1).2.pos
  have hp2 := (isV_zero.1 h2).2.pos
  obtain ⟨a, rfl, D⟩ := h.at_.nd hp1
  obtain ⟨b, rfl, E⟩ := k.at_.nd hp2
  rw [show a.add (0 * 4) = a from rfl] at D
  rw [show b.add (0 * 4) = b from rfl] at E
  have hn1 : 0 < n := by rw [h.len]; exact hp1
  have hn2 : 0 < m := by rw [k.len]; exact hp2
  have d0 := D.c0
  have e0 := E.c0
  rw [← headOp_at hp1] at d0
  rw [← headOp_at hp2] at e0
  have D0 := Lib.hid (fun w' (hb : Below w.heap.size w w') => cell_keep hb d0)
  have E0 := Lib.hid (fun w' (hb : Below w.heap.size w w') => cell_keep hb e0)
  have T1 := Lib.hid (fun w' hb => val_Parts _ n c P w' (h.keep (w' := w') hb))
  have T2 := Lib.hid (fun w' hb => val_Parts _ m d Q w' (k.keep (w' := w') hb))
  unfold PartsPost at T1
  rw [hE] at T1
  have HT : errV 2 = .iface 48 (.int .i64 2) := rfl
  rw [HT] at T1
  have HE := Lib.hid (show bothE P Q = 2 by unfold bothE setsE; rw [h1, h2, or2_zero, or2_zero, if_neg (fun q => h5 q.1)])
  have g5 : (headOp P != 5) = true := by rw [bne_iff_ne]; exact h5
  clear HT
  clear h k h1 h2 h5 hE hp1 hp2 D E d0 e0 E0 T2
  go_enter Try.func28, Try.ntmps28
  go_wp2_with fail
  go_loopw [8, 9, 13] (fun _ _ i wr => ∃ j : Nat, j ≤ 2 ∧ i = .int .i64 j ∧ Hid (Below w.heap.size w wr)) (fun _ _ i _ => 2 - (intOf i).toNat)
  case atStart => exact ⟨0, by omega, rfl, Below.refl _ _⟩
  case round =>
    obtain ⟨j, hj, rfl, hB⟩ := hrel
    rcases (show j = 0 ∨ j = 1 ∨ j = 2 by omega) with rfl | rfl | rfl
    · skip
      go_wp2_with fail
      refine (K1.out _ hB.out).mono ?_
      rintro e w1 ⟨rfl, b1⟩
      have B1 := bh hB b1
      clear b1
      go_wp2_with fail
      go_roundw
      case rel => exact ⟨1, by omega, by go_num, B1⟩
      case measure => simp [intOf]
    · skip
      go_wp2_with fail
      refine (K2.out _ hB.out).mono ?_
      rintro e w1 ⟨rfl, b1⟩
      have B1 := bh hB b1
      clear b1
      go_wp2_with fail
      go_roundw
      case rel => exact ⟨2, by omega, by go_num, B1⟩
      case measure => simp [intOf]
    · go_wp2_with fail
      refine (T1.out _ hB.out).mono ?_
      rintro e w1 ⟨va, Va, rfl, hO1, hL1, hF1, b1⟩
      have d1 := D0.out _ (hB.out.trans (b1.mono hB.out.size))
      have B1 := bh hB b1
      clear b1 hB hO1 hL1 hF1
      go_wp2_with fail
      go_ret3
      exact both_err (by rw [HE.out]; rfl) (by rw [HE.out]; omega) B1.out


set_option maxHeartbeats 4000000 in
theorem both_op3 (A B : Option Addr) (n m c d : Nat) (P Q : List Nd) (w : World) (h : Ns w A n c P) (k : Ns w B m d Q) (h1 : valFault P = 0) (h2 : valFault Q = 0) (h5 : headOp P = 5) (hE1 : prtE P = 0) (h6 : headOp Q ≠ 5) (hE : prtE Q = 0) :
    Calls Try.prog 28 #[.slice A n c, .slice B m d] w (BothPost w P Q) := by
  have i0 : ∀ w, (Instr.index 82 (.agg #[.slice A n c, .slice B m d]) (.int .i64 0)).run Try.prog w = .ok (.slice A n c) w := fun _ => by rfl
  have i1 : ∀ w, (Instr.index 82 (.agg #[.slice A n c, .slice B m d]) (.int .i64 1)).run Try.prog w = .ok (.slice B m d) w := fun _ => by rfl
  have K1 := Lib.hid (fun w' hb => val_Check_ns (h.keep (w' := w') hb))
  have K2 := Lib.hid (fun w' hb => val_Check_ns (k.keep (w' := w') hb))
  rw [h1, errV_zero] at K1
  rw [h2, errV_zero] at K2
  have hp1 := (isV_zero.1 h1).2.pos
  have hp2 := (isV_zero.1 h2).2.pos
  obtain ⟨a, rfl, D⟩ := h.at_.nd hp1
  obtain ⟨b, rfl, E⟩ := k.at_.nd hp2
  rw [show a.add (0 * 4) = a from rfl] at D
  rw [show b.add (0 * 4) = b from rfl] at E
  have hn1 : 0 < n := by rw [h.len]; exact hp1
  have hn2 : 0 < m := by rw [k.len]; exact hp2
  have d0 := D.c0
  have e0 := E.c0
  rw [← headOp_at hp1] at d0
  rw [← headOp_at hp2] at e0
  have D0 := Lib.hid (fun w' (hb : Below w.heap.size w w') => cell_keep hb d0)
  have E0 := Lib.hid (fun w' (hb : Below w.heap.size w w') => cell_keep hb e0)
  have T1 := Lib.hid (fun w' hb => val_Parts _ n c P w' (h.keep (w' := w') hb))
  have T2 := Lib.hid (fun w' hb => val_Parts _ m d Q w' (k.keep (w' := w') hb))
  unfold PartsPost at T1 T2
  rw [hE1, errV_zero] at T1
  rw [hE, errV_zero] at T2
  skip
  skip
  have HE := Lib.hid (show bothE P Q = 2 by unfold bothE setsE; rw [h1, h2, or2_zero, or2_zero, if_neg (fun q => h6 q.2)])
  have g5 : (headOp Q != 5) = true := by rw [bne_iff_ne]; exact h6
  rw [h5] at D0
  skip
  clear h k h1 h2 h5 h6 hE hE1 hp1 hp2 D E d0 e0
  go_enter Try.func28, Try.ntmps28
  go_wp2_with fail
  go_loopw [8, 9, 13] (fun _ _ i wr => ∃ j : Nat, j ≤ 2 ∧ i = .int .i64 j ∧ Hid (Below w.heap.size w wr)) (fun _ _ i _ => 2 - (intOf i).toNat)
  case atStart => exact ⟨0, by omega, rfl, Below.refl _ _⟩
  case round =>
    obtain ⟨j, hj, rfl, hB⟩ := hrel
    rcases (show j = 0 ∨ j = 1 ∨ j = 2 by omega) with rfl | rfl | rfl
    · skip
      go_wp2_with fail
      refine (K1.out _ hB.out).mono ?_
      rintro e w1 ⟨rfl, b1⟩
      have B1 := bh hB b1
      clear b1
      go_wp2_with fail
      go_roundw
      case rel => exact ⟨1, by omega, by go_num, B1⟩
      case measure => simp [intOf]
    · skip
      go_wp2_with fail
      refine (K2.out _ hB.out).mono ?_
      rintro e w1 ⟨rfl, b1⟩
      have B1 := bh hB b1
      clear b1
      go_wp2_with fail
      go_roundw
      case rel => exact ⟨2, by omega, by go_num, B1⟩
      case measure => simp [intOf]
    · go_wp2_with fail
      refine (T1.out _ hB.out).mono ?_
      rintro e w1 ⟨va, Va, rfl, hO1, hL1, hF1, b1⟩
      have d1 := D0.out _ (hB.out.trans (b1.mono hB.out.size))
      have B1 := bh hB b1
      have O1 := Lib.hid hO1
      have L1 := Lib.hid hL1
      have z1 := hB.out.size
      clear b1 hB hO1 hL1 hF1
      go_wp2_with fail
      refine (T2.out _ B1.out).mono ?_
      rintro e w2 ⟨vb, Vb, rfl, hO2, hL2, hF2, b2⟩
      have e1 := E0.out _ (B1.out.trans (b2.mono B1.out.size))
      have B2 := bh B1 b2
      clear b2 hO2 hL2 hF2 B1 O1 L1
      go_wp2_with fail
      go_ret3
      exact both_err (by rw [HE.out]; rfl) (by rw [HE.out]; omega) B2.out


set_option maxHeartbeats 4000000 in
theorem both_op4 (A B : Option Addr) (n m c d : Nat) (P Q : List Nd) (w : World) (h : Ns w A n c P) (k : Ns w B m d Q) (h1 : valFault P = 0) (h2 : valFault Q = 0) (h5 : headOp P = 5) (hE1 : prtE P = 0) (h6 : headOp Q ≠ 5) (hE : prtE Q = 2) :
    Calls Try.prog 28 #[.slice A n c, .slice B m d] w (BothPost w P Q) := by
  have i0 : ∀ w, (Instr.index 82 (.agg #[.slice A n c, .slice B m d]) (.int .i64 0)).run Try.prog w = .ok (.slice A n c) w := fun _ => by rfl
  have i1 : ∀ w, (Instr.index 82 (.agg #[.slice A n c, .slice B m d]) (.int .i64 1)).run Try.prog w = .ok (.slice B m d) w := fun _ => by rfl
  have K1 := Lib.hid (fun w' hb => val_Check_ns (h.keep (w' := w') hb))
  have K2 := Lib.hid (fun w' hb => val_Check_ns (k.keep (w' := w') hb))
  rw [h1, errV_zero] at K1
  rw [h2, errV_zero] at K2
  have hp1 := (isV_zero.1 h1).2.pos
  have hp2 := (isV_zero.1 h2).2.pos
  obtain ⟨a, rfl, D⟩ := h.at_.nd hp1
  obtain ⟨b, rfl, E⟩ := k.at_.nd hp2
  rw [show a.add (0 * 4) = a from rfl] at D
  rw [show b.add (0 * 4) = b from rfl] at E
  have hn1 : 0 < n := by rw [h.len]; exact hp1
  have hn2 : 0 < m := by rw [k.len]; exact hp2
  have d0 := D.c0
  have e0 := E.c0
  rw [← headOp_at hp1] at d0
  rw [← headOp_at hp2] at e0
  have D0 := Lib.hid (fun w' (hb : Below w.heap.size w w') => cell_keep hb d0)
  have E0 := Lib.hid (fun w' (hb : Below w.heap.size w w') => cell_keep hb e0)
  have T1 := Lib.hid (fun w' hb => val_Parts _ n c P w' (h.keep (w' := w') hb))
  have T2 := Lib.hid (fun w' hb => val_Parts _ m d Q w' (k.keep (w' := w') hb))
  unfold PartsPost at T1 T2
  rw [hE1, errV_zero] at T1
  rw [hE] at T2
  have HT : errV 2 = .iface 48 (.int .i64 2) := rfl
  rw [HT] at T2
  have HE := Lib.hid (show bothE P Q = 2 by unfold bothE setsE; rw [h1, h2, or2_zero, or2_zero, if_neg (fun q => h6 q.2)])
  have g5 : (headOp Q != 5) = true := by rw [bne_iff_ne]; exact h6
  rw [h5] at D0
  clear HT
  clear h k h1 h2 h5 h6 hE hE1 hp1 hp2 D E d0 e0
  go_enter Try.func28, Try.ntmps28
  go_wp2_with fail
  go_loopw [8, 9, 13] (fun _ _ i wr => ∃ j : Nat, j ≤ 2 ∧ i = .int .i64 j ∧ Hid (Below w.heap.size w wr)) (fun _ _ i _ => 2 - (intOf i).toNat)
  case atStart => exact ⟨0, by omega, rfl, Below.refl _ _⟩
  case round =>
    obtain ⟨j, hj, rfl, hB⟩ := hrel
    rcases (show j = 0 ∨ j = 1 ∨ j = 2 by omega) with rfl | rfl | rfl
    · skip
      go_wp2_with fail
      refine (K1.out _ hB.out).mono ?_
      rintro e w1 ⟨rfl, b1⟩
      have B1 := bh hB b1
      clear b1
      go_wp2_with fail
      go_roundw
      case rel => exact ⟨1, by omega, by go_num, B1⟩
      case measure => simp [intOf]
    · skip
      go_wp2_with fail
      refine (K2.out _ hB.out).mono ?_
      rintro e w1 ⟨rfl, b1⟩
      have B1 := bh hB b1
      clear b1
      go_wp2_with fail
      go_roundw
      case rel => exact ⟨2, by omega, by go_num, B1⟩
      case measure => simp [intOf]
    · go_wp2_with fail
      refine (T1.out _ hB.out).mono ?_
      rintro e w1 ⟨va, Va, rfl, hO1, hL1, hF1, b1⟩
      have d1 := D0.out _ (hB.out.trans (b1.mono hB.out.size))
      have B1 := bh hB b1
      have O1 := Lib.hid hO1
      have L1 := Lib.hid hL1
      have z1 := hB.out.size
      clear b1 hB hO1 hL1 hF1
      go_wp2_with fail
      refine (T2.out _ B1.out).mono ?_
      rintro e w2 ⟨vb, Vb, rfl, hO2, hL2, hF2, b2⟩
      have e1 := E0.out _ (B1.out.trans (b2.mono B1.out.size))
      have B2 := bh B1 b2
      clear b2 hO2 hL2 hF2 B1 O1 L1
      go_wp2_with fail
      go_ret3
      exact both_err (by rw [HE.out]; rfl) (by rw [HE.out]; omega) B2.out


set_option maxHeartbeats 4000000 in
theorem both_ok (A B : Option Addr) (n m c d : Nat) (P Q : List Nd) (w : World) (h : Ns w A n c P) (k : Ns w B m d Q) (h1 : valFault P = 0) (h2 : valFault Q = 0) (h5 : headOp P = 5) (h6 : headOp Q = 5) :
    Calls Try.prog 28 #[.slice A n c, .slice B m d] w (BothPost w P Q) := by
  have i0 : ∀ w, (Instr.index 82 (.agg #[.slice A n c, .slice B m d]) (.int .i64 0)).run Try.prog w = .ok (.slice A n c) w := fun _ => by rfl
  have i1 : ∀ w, (Instr.index 82 (.agg #[.slice A n c, .slice B m d]) (.int .i64 1)).run Try.prog w = .ok (.slice B m d) w := fun _ => by rfl
  have K1 := Lib.hid (fun w' hb => val_Check_ns (h.keep (w' := w') hb))
  have K2 := Lib.hid (fun w' hb => val_Check_ns (k.keep (w' := w') hb))
  rw [h1, errV_zero] at K1
  rw [h2, errV_zero] at K2
  have hp1 := (isV_zero.1 h1).2.pos
  have hp2 := (isV_zero.1 h2).2.pos
  obtain ⟨a, rfl, D⟩ := h.at_.nd hp1
  obtain ⟨b, rfl, E⟩ := k.at_.nd hp2
  rw [show a.add (0 * 4) = a from rfl] at D
  rw [show b.add (0 * 4) = b from rfl] at E
  have hn1 : 0 < n := by rw [h.len]; exact hp1
  have hn2 : 0 < m := by rw [k.len]; exact hp2
  have d0 := D.c0
  have e0 := E.c0
  rw [← headOp_at hp1] at d0
  rw [← headOp_at hp2] at e0
  have D0 := Lib.hid (fun w' (hb : Below w.heap.size w w') => cell_keep hb d0)
  have E0 := Lib.hid (fun w' (hb : Below w.heap.size w w') => cell_keep hb e0)
  have T1 := Lib.hid (fun w' hb => val_Parts _ n c P w' (h.keep (w' := w') hb))
  have T2 := Lib.hid (fun w' hb => val_Parts _ m d Q w' (k.keep (w' := w') hb))
  have hE1 : prtE P = 0 := by unfold prtE; rw [if_pos h1, if_pos (.inl h5)]
  have hE2 : prtE Q = 0 := by unfold prtE; rw [if_pos h2, if_pos (.inl h6)]
  have P1 := Lib.hid (show prtL P = setParts P by unfold prtL; rw [if_pos hE1, if_pos h5])
  have P2 := Lib.hid (show prtL Q = setParts Q by unfold prtL; rw [if_pos hE2, if_pos h6])
  unfold PartsPost at T1 T2
  rw [hE1, errV_zero] at T1
  rw [hE2, errV_zero] at T2
  have HE := Lib.hid (show bothE P Q = 0 from bothE_zero.2 ⟨h1, h2, h5, h6⟩)
  rw [h5] at D0
  rw [h6] at E0
  clear h k h1 h2 h5 h6 hE1 hE2 hp1 hp2 D E d0 e0
  go_enter Try.func28, Try.ntmps28
  go_wp2_with fail
  go_loopw [8, 9, 13] (fun _ _ i wr => ∃ j : Nat, j ≤ 2 ∧ i = .int .i64 j ∧ Hid (Below w.heap.size w wr)) (fun _ _ i _ => 2 - (intOf i).toNat)
  case atStart => exact ⟨0, by omega, rfl, Below.refl _ _⟩
  case round =>
    obtain ⟨j, hj, rfl, hB⟩ := hrel
    rcases (show j = 0 ∨ j = 1 ∨ j = 2 by omega) with rfl | rfl | rfl
    · skip
      go_wp2_with fail
      refine (K1.out _ hB.out).mono ?_
      rintro e w1 ⟨rfl, b1⟩
      have B1 := bh hB b1
      clear b1
      go_wp2_with fail
      go_roundw
      case rel => exact ⟨1, by omega, by go_num, B1⟩
      case measure => simp [intOf]
    · skip
      go_wp2_with fail
      refine (K2.out _ hB.out).mono ?_
      rintro e w1 ⟨rfl, b1⟩
      have B1 := bh hB b1
      clear b1
      go_wp2_with fail
      go_roundw
      case rel => exact ⟨2, by omega, by go_num, B1⟩
      case measure => simp [intOf]
    · go_wp2_with fail
      refine (T1.out _ hB.out).mono ?_
      rintro e w1 ⟨va, Va, rfl, hO1, hL1, hF1, b1⟩
      have d1 := D0.out _ (hB.out.trans (b1.mono hB.out.size))
      have B1 := bh hB b1
      have O1 := Lib.hid hO1
      have L1 := Lib.hid hL1
      have z1 := hB.out.size
      clear b1 hB hO1 hL1 hF1
      go_wp2_with fail
      refine (T2.out _ B1.out).mono ?_
      rintro e w2 ⟨vb, Vb, rfl, hO2, hL2, hF2, b2⟩
      have e1 := E0.out _ (B1.out.trans (b2.mono B1.out.size))
      have B2 := bh B1 b2
      have O2 := Lib.hid (O1.out.keep b2)
      have O3 := Lib.hid (hO2.mono (B1.out.size))
      have L2 := Lib.hid hL2
      have AB := Lib.hid (show va.ownBlock = none ∨ va.ownBlock ≠ vb.ownBlock by
        rcases hv : va.ownBlock with _ | g
        · exact .inl rfl
        · refine .inr (fun q => ?_)
          have := own_lt O1.out.own g hv
          have := own_base hO2.own g q.symm
          omega)
      have AP := Lib.hid (show ∀ r ∈ Vb, Apart r va.ownBlock from fun r hr _ a' ea q => by
        have := own_lt O1.out.own a'.block q
        have := hF2 r hr a' ea
        omega)
      have M1 := Lib.hid (O2.out.mono z1)
      clear b2 hO2 hL2 hF2 O1 B1 O2
      go_wp2_with fail
      go_ret3
      exact ⟨va, vb, Va, Vb, by rw [HE.out]; rfl, M1.out, O3.out, fun _ => ⟨L1.out.trans P1.out, L2.out.trans P2.out⟩, AB.out, AP.out, B2.out⟩


theorem bag_both (A B : Option Addr) (n m c d : Nat) (P Q : List Nd) (w : World) (h : Ns w A n c P) (k : Ns w B m d Q) : Calls Try.prog 28 #[.slice A n c, .slice B m d] w (BothPost w P Q) := by
  by_cases h1 : valFault P = 0
  · by_cases h2 : valFault Q = 0
    · rcases prtE_ways h1 with ⟨a1, a2⟩ | ⟨a1, a2⟩ | ⟨a1, a2⟩
      · rcases prtE_ways h2 with ⟨b1, b2⟩ | ⟨b1, b2⟩ | ⟨b1, b2⟩
        · exact both_ok A B n m c d P Q w h k h1 h2 a1 b1
        · exact both_op3 A B n m c d P Q w h k h1 h2 a1 a2 b1 b2
        · exact both_op4 A B n m c d P Q w h k h1 h2 a1 a2 b1 b2
      · exact both_op1 A B n m c d P Q w h k h1 h2 a1 a2
      · exact both_op2 A B n m c d P Q w h k h1 h2 a1 a2
    · exact both_bad2 A B n m c d P Q w h k h1 h2
  · exact both_bad1 A B n m c d P Q w h k h1
end Go.Proofs.Ytfbgaefbalbohaa
