/-
  Package bag: Has, All, Any.
-/
import Derived.Test.YtfbgaefbalbohaaBoth
namespace Go.Wk
def hasE (P Q : List Nd) : Int := or2 (valFault P) (or2 (valFault Q) (if headOp P = 5 then 0 else 2))
def hasV (P Q : List Nd) : Bool := decide (hasE P Q = 0) && hasB (setParts P) Q
def allV (P Q : List Nd) : Bool := decide (bothE P Q = 0) && decide (((setParts Q).filter fun x => hasB (setParts P) x).length = (setParts Q).length)
def anyV (P Q : List Nd) : Bool := decide (bothE P Q = 0) && (setParts Q).any fun x => hasB (setParts P) x
theorem parts_len {L : List (List Nd)} (h : ∀ Q ∈ L, IsV Q) : L.length ≤ L.flatten.length := by
  induction L with
  | nil => simp
  | cons Q L ih =>
    have := (h Q (by simp)).pos
    have := ih (fun R hR => h R (by simp [hR]))
    simp only [List.length_cons, List.flatten_cons, List.length_append]
    omega
theorem setParts_len {P : List Nd} (h : valFault P = 0) (h5 : headOp P = 5) : (setParts P).length ≤ 200 := by
  obtain ⟨hl, hV⟩ := isV_zero.1 h
  obtain ⟨e, -, h3, -⟩ := isV_set hV h5
  have := congrArg List.length e
  have := parts_len h3
  simp only [List.length_cons] at *
  omega
theorem hasE_zero {P Q : List Nd} : hasE P Q = 0 ↔ valFault P = 0 ∧ valFault Q = 0 ∧ headOp P = 5 := by
  unfold hasE or2
  by_cases h1 : valFault P = 0
  · rw [if_pos h1]
    by_cases h2 : valFault Q = 0
    · rw [if_pos h2]
      by_cases h3 : headOp P = 5
      · rw [if_pos h3]; exact ⟨fun _ => ⟨h1, h2, h3⟩, fun _ => rfl⟩
      · rw [if_neg h3]; exact ⟨fun h => by omega, fun h => absurd h.2.2 h3⟩
    · rw [if_neg h2]; exact ⟨fun h => absurd h h2, fun h => absurd h.2.1 h2⟩
  · rw [if_neg h1]; exact ⟨fun h => absurd h h1, fun h => absurd h.1 h1⟩
end Go.Wk
namespace Go.Proofs.Ytfbgaefbalbohaa
open Go.RowKit Go.Wk Go.Sort
set_option maxRecDepth 100000

theorem own_at {w : World} {B : Nat} {v : Value} {V : List Sl} (h : OwnSls w B v V) : ∃ A c, v = .slice A V.length c ∧ SlsAt w A V :=
  let ⟨A, c, h1, _, h2⟩ := h.at; ⟨A, c, h1, h2⟩
theorem filter_map_len (V : List Sl) (p : List Nd → Bool) : (V.filter fun r => p r.P).length = ((V.map Sl.P).filter p).length := by
  rw [List.filter_map, List.length_map]; rfl

set_option maxHeartbeats 4000000 in
theorem bag_All (A B : Option Addr) (n m c d : Nat) (P Q : List Nd) (w : World) (h : Ns w A n c P) (k : Ns w B m d Q) :
    Calls Try.prog 13 #[.slice A n c, .slice B m d] w fun e w' => e = .returned (.tuple #[.bool (allV P Q), errV (bothE P Q)]) ∧ Below w.heap.size w w' := by
  have C := Lib.hid (bag_both A B n m c d P Q w h k)
  unfold BothPost at C
  have hmf : ∀ (fn : Fn) (first cap : Array Value) (w : World), (Instr.makeFunc fn first cap).run Try.prog w = .ok (.func fn first cap) w := fun _ _ _ _ => rfl
  clear h k
  by_cases h0 : bothE P Q = 0
  · have HE := Lib.hid h0
    have HV := Lib.hid (show allV P Q = decide (((setParts Q).filter fun x => hasB (setParts P) x).length = (setParts Q).length) by unfold allV; rw [h0]; simp)
    obtain ⟨h1, h2, h5, h6⟩ := bothE_zero.1 h0
    have L1 := Lib.hid (setParts_len h1 h5)
    have L2 := Lib.hid (setParts_len h2 h6)
    rw [h0, errV_zero] at C
    clear h0 h1 h2 h5 h6
    go_enter Try.func13, Try.ntmps13
    go_wp2_with fail
    refine (C.out).mono ?_
    rintro e w1 ⟨va, vb, Va, Vb, rfl, hA, hB, hL, -, -, b1⟩
    obtain ⟨e1, e2⟩ := hL (by first | trivial | rfl)
    obtain ⟨A1, c1, rfl, hS1⟩ := own_at hA
    obtain ⟨A2, c2, rfl, hS2⟩ := own_at hB
    have hl1 : Va.length ≤ 200 := by have := congrArg List.length e1; have := L1.out; simp only [List.length_map] at *; omega
    have hl2 : Vb.length ≤ 200 := by have := congrArg List.length e2; have := L2.out; simp only [List.length_map] at *; omega
    have KK := Lib.hid (kept_has A2 Vb.length c2 Vb (fun x => hasB (setParts P) x) A1 Va.length c1 w1 rfl (by omega) hS2
      (Lib.hid fun r w' hb hr => by rw [← e1]; exact bag_has A1 r.A Va.length r.n c1 r.c Va r.P w' rfl (by unfold maxLen; omega) (hS1.keep hb) hr))
    have E2 := Lib.hid e2
    have B1 := Lib.hid b1
    clear hA hB hL hS1 hS2 e1 e2 b1
    go_wp2_with fail
    refine KK.out.mono ?_
    rintro e w2 ⟨v, rfl, hO, b2⟩
    have B2 := bh B1 b2
    obtain ⟨A3, c3, rfl, -⟩ := own_at hO
    have HLL := Lib.hid (filter_map_len Vb (fun x => hasB (setParts P) x))
    have HLB := Lib.hid (show Vb.length = (setParts Q).length by have := congrArg List.length E2.out; simpa using this)
    have HBB := Lib.hid (show (((Vb.filter fun r => hasB (setParts P) r.P).length : Int) == (Vb.length : Int)) = allV P Q by
      rw [HV.out, ← E2.out, ← HLL.out, List.length_map, Bool.eq_iff_iff, beq_iff_eq, decide_eq_true_iff]; omega)
    clear hO b2 B1
    go_wp2_with fail
    go_ret2
    exact ⟨by rw [← HBB.out, HE.out]; rfl, B2.out⟩
  · have HE := Lib.hid (errV_ne h0)
    have HV := Lib.hid (show allV P Q = false by unfold allV; rw [decide_eq_false h0]; rfl)
    rw [errV_ne h0] at C
    clear h0
    go_enter Try.func13, Try.ntmps13
    go_wp2_with fail
    refine (C.out).mono ?_
    rintro e w1 ⟨va, vb, Va, Vb, rfl, hA, hB, hL, -, -, b1⟩
    go_wp2_with fail
    go_ret2
    exact ⟨by rw [HV.out, HE.out]; rfl, b1⟩

set_option maxHeartbeats 4000000 in
theorem bag_Any (A B : Option Addr) (n m c d : Nat) (P Q : List Nd) (w : World) (h : Ns w A n c P) (k : Ns w B m d Q) :
    Calls Try.prog 15 #[.slice A n c, .slice B m d] w fun e w' => e = .returned (.tuple #[.bool (anyV P Q), errV (bothE P Q)]) ∧ Below w.heap.size w w' := by
  have C := Lib.hid (bag_both A B n m c d P Q w h k)
  unfold BothPost at C
  have hmf : ∀ (fn : Fn) (first cap : Array Value) (w : World), (Instr.makeFunc fn first cap).run Try.prog w = .ok (.func fn first cap) w := fun _ _ _ _ => rfl
  clear h k
  by_cases h0 : bothE P Q = 0
  · have HE := Lib.hid h0
    have HV := Lib.hid (show anyV P Q = (setParts Q).any fun x => hasB (setParts P) x by unfold anyV; rw [h0]; simp)
    obtain ⟨h1, h2, h5, h6⟩ := bothE_zero.1 h0
    have L1 := Lib.hid (setParts_len h1 h5)
    have L2 := Lib.hid (setParts_len h2 h6)
    rw [h0, errV_zero] at C
    clear h0 h1 h2 h5 h6
    go_enter Try.func15, Try.ntmps15
    go_wp2_with fail
    refine (C.out).mono ?_
    rintro e w1 ⟨va, vb, Va, Vb, rfl, hA, hB, hL, -, -, b1⟩
    obtain ⟨e1, e2⟩ := hL (by first | trivial | rfl)
    obtain ⟨A1, c1, rfl, hS1⟩ := own_at hA
    obtain ⟨A2, c2, rfl, hS2⟩ := own_at hB
    have hl1 : Va.length ≤ 200 := by have := congrArg List.length e1; have := L1.out; simp only [List.length_map] at *; omega
    have hl2 : Vb.length ≤ 200 := by have := congrArg List.length e2; have := L2.out; simp only [List.length_map] at *; omega
    have KK := Lib.hid (contains_has A2 Vb.length c2 Vb (fun x => hasB (setParts P) x) A1 Va.length c1 w1 rfl (by unfold maxLen; omega) hS2
      (Lib.hid fun r w' hb hr => by rw [← e1]; exact bag_has A1 r.A Va.length r.n c1 r.c Va r.P w' rfl (by unfold maxLen; omega) (hS1.keep hb) hr))
    have E2 := Lib.hid e2
    have B1 := Lib.hid b1
    have HVA := Lib.hid (show (Vb.any fun r => hasB (setParts P) r.P) = (setParts Q).any fun x => hasB (setParts P) x by rw [← e2, List.any_map]; rfl)
    clear hA hB hL hS1 hS2 e1 e2 b1
    go_wp2_with fail
    refine KK.out.mono ?_
    rintro e w2 ⟨rfl, b2⟩
    have B2 := bh B1 b2
    clear b2 B1
    go_wp2_with fail
    go_ret2
    exact ⟨by rw [HV.out, HE.out, ← HVA.out]; rfl, B2.out⟩
  · have HE := Lib.hid (errV_ne h0)
    have HV := Lib.hid (show anyV P Q = false by unfold anyV; rw [decide_eq_false h0]; rfl)
    rw [errV_ne h0] at C
    clear h0
    go_enter Try.func15, Try.ntmps15
    go_wp2_with fail
    refine (C.out).mono ?_
    rintro e w1 ⟨va, vb, Va, Vb, rfl, hA, hB, hL, -, -, b1⟩
    go_wp2_with fail
    go_ret2
    exact ⟨by rw [HV.out, HE.out]; rfl, b1⟩
end Go.Proofs.Ytfbgaefbalbohaa
