/-
  The contracts of num.Do, num.Neg and the reference's Done.
-/
import Derived.Test.YtbaccefcgblagaaDoorBase
import Derived.Test.YtbaccefcgblagaaDoorShMul
import Derived.Test.YtbaccefcgblagaaDoorNumLaw
namespace Go.Proofs.YtbaccefcgblagaaDoor
open Go.RowKit Go.Wk

theorem bits_Mul64 (x y : Nat) (w : World) (hx : x < 18446744073709551616) (hy : y < 18446744073709551616) :
    Calls Tryd.prog 33 #[.int .u64 x, .int .u64 y] w fun e w' => e = .returned (.tuple #[.int .u64 (mulHi x y : Int), .int .u64 (mulLo x y : Int)]) ∧ w = w' :=
  (Tryd.bits_Mul64 x y hx hy w).mono fun _ _ ⟨h1, h2⟩ => ⟨h1, h2.symm⟩

theorem ret_u64 {a b : Int} (h : a = b) : Ending.returned (.int .u64 a) = .returned (.int .u64 b) := by rw [h]
theorem num_size (a : Int) (w : World) (h0 : -9223372036854775808 ≤ a) (h1 : a ≤ 9223372036854775807) :
    Calls Tryd.prog 34 #[.int .i64 a] w fun e w' => e = .returned (.int .u64 (a.natAbs : Int)) ∧ w = w' := by
  by_cases h : a < 0
  · have H := Lib.hid (show IntKind.u64.wrap (-IntKind.u64.wrap a) = (a.natAbs : Int) by simp only [IntKind.wrap_u64]; omega)
    go_enter Tryd.func34, Tryd.ntmps34
    go_wp2
    go_ret
    exact ⟨ret_u64 H.out, rfl⟩
  · have H := Lib.hid (show a = (a.natAbs : Int) by omega)
    go_enter Tryd.func34, Tryd.ntmps34
    go_wp2
    go_ret
    exact ⟨ret_u64 H.out, rfl⟩

set_option maxHeartbeats 1000000 in
theorem Do_add_fit (a b : Int) (w : World) (ha : I64 a) (hb : I64 b) (h : fits (a + b) = true) :
    Calls Tryd.prog 14 #[.int .i64 17, .int .i64 a, .int .i64 b] w fun e w' => e = .returned (.tuple #[.int .i64 (a + b), .nilIface]) ∧ w = w' := by
  obtain ⟨f1, f2⟩ := (fits_iff _).1 h
  obtain ⟨a1, a2⟩ := ha
  obtain ⟨b1, b2⟩ := hb
  clear h
  by_cases q1 : a < 0 <;> by_cases q2 : b < 0 <;> by_cases q3 : a + b < 0 <;> first | (exfalso; omega) | skip
  all_goals
    go_enter Tryd.func14, Tryd.ntmps14
    go_wp2
    go_ret2
    exact ⟨rfl, rfl⟩

set_option maxHeartbeats 1000000 in
theorem Do_add_over (a b : Int) (w : World) (ha : I64 a) (hb : I64 b) (h : fits (a + b) = false) :
    Calls Tryd.prog 14 #[.int .i64 17, .int .i64 a, .int .i64 b] w fun e w' => e = .returned (.tuple #[.int .i64 0, errV 5]) ∧ w = w' := by
  have hf := (fits_not _).1 h
  obtain ⟨a1, a2⟩ := ha
  obtain ⟨b1, b2⟩ := hb
  clear h
  rcases hf with hf | hf
  · have q1 : a < 0 := by omega
    have q2 : b < 0 := by omega
    have q3 : ¬ wrap64 (a + b) < 0 := by unfold wrap64; omega
    clear hf
    go_enter Tryd.func14, Tryd.ntmps14
    go_wp2
    go_ret2
    exact ⟨rfl, rfl⟩
  · have q1 : ¬ a < 0 := by omega
    have q2 : ¬ b < 0 := by omega
    have q3 : wrap64 (a + b) < 0 := by unfold wrap64; omega
    clear hf
    go_enter Tryd.func14, Tryd.ntmps14
    go_wp2
    go_ret2
    exact ⟨rfl, rfl⟩

set_option maxHeartbeats 1000000 in
theorem Do_sub_fit (a b : Int) (w : World) (ha : I64 a) (hb : I64 b) (h : fits (a - b) = true) :
    Calls Tryd.prog 14 #[.int .i64 18, .int .i64 a, .int .i64 b] w fun e w' => e = .returned (.tuple #[.int .i64 (a - b), .nilIface]) ∧ w = w' := by
  obtain ⟨f1, f2⟩ := (fits_iff _).1 h
  obtain ⟨a1, a2⟩ := ha
  obtain ⟨b1, b2⟩ := hb
  clear h
  by_cases q1 : a < 0 <;> by_cases q2 : b < 0 <;> by_cases q3 : a - b < 0 <;> first | (exfalso; omega) | skip
  all_goals
    go_enter Tryd.func14, Tryd.ntmps14
    go_wp2
    go_ret2
    exact ⟨rfl, rfl⟩

set_option maxHeartbeats 1000000 in
theorem Do_sub_over (a b : Int) (w : World) (ha : I64 a) (hb : I64 b) (h : fits (a - b) = false) :
    Calls Tryd.prog 14 #[.int .i64 18, .int .i64 a, .int .i64 b] w fun e w' => e = .returned (.tuple #[.int .i64 0, errV 5]) ∧ w = w' := by
  have hf := (fits_not _).1 h
  obtain ⟨a1, a2⟩ := ha
  obtain ⟨b1, b2⟩ := hb
  clear h
  rcases hf with hf | hf
  · have q1 : a < 0 := by omega
    have q2 : ¬ b < 0 := by omega
    have q3 : ¬ wrap64 (a - b) < 0 := by unfold wrap64; omega
    clear hf
    go_enter Tryd.func14, Tryd.ntmps14
    go_wp2
    go_ret2
    exact ⟨rfl, rfl⟩
  · have q1 : ¬ a < 0 := by omega
    have q2 : b < 0 := by omega
    have q3 : wrap64 (a - b) < 0 := by unfold wrap64; omega
    clear hf
    go_enter Tryd.func14, Tryd.ntmps14
    go_wp2
    go_ret2
    exact ⟨rfl, rfl⟩

set_option maxHeartbeats 1000000 in
theorem Done_add_fit (a b : Int) (w : World) (ha : I64 a) (hb : I64 b) (h : fits (a + b) = true) :
    Calls Tryd.prog 15 #[.int .i64 17, .int .i64 a, .int .i64 b] w fun e w' => e = .returned (.tuple #[.int .i64 (a + b), .int .i64 0]) ∧ w = w' := by
  obtain ⟨f1, f2⟩ := (fits_iff _).1 h
  obtain ⟨a1, a2⟩ := ha
  obtain ⟨b1, b2⟩ := hb
  clear h
  by_cases q2 : b < 0
  · have q3 : ¬ a < a + b := by omega
    go_enter Tryd.func15, Tryd.ntmps15
    go_wp2
    go_ret2
    exact ⟨rfl, rfl⟩
  · have q3 : ¬ a + b < a := by omega
    go_enter Tryd.func15, Tryd.ntmps15
    go_wp2
    go_ret2
    exact ⟨rfl, rfl⟩

set_option maxHeartbeats 1000000 in
theorem Done_add_over (a b : Int) (w : World) (ha : I64 a) (hb : I64 b) (h : fits (a + b) = false) :
    Calls Tryd.prog 15 #[.int .i64 17, .int .i64 a, .int .i64 b] w fun e w' => e = .returned (.tuple #[.int .i64 0, .int .i64 5]) ∧ w = w' := by
  have hf := (fits_not _).1 h
  obtain ⟨a1, a2⟩ := ha
  obtain ⟨b1, b2⟩ := hb
  clear h
  rcases hf with hf | hf
  · have q1 : a < 0 := by omega
    have q2 : b < 0 := by omega
    have q3 : a < wrap64 (a + b) := by unfold wrap64; omega
    clear hf
    go_enter Tryd.func15, Tryd.ntmps15
    go_wp2
    go_ret2
    exact ⟨rfl, rfl⟩
  · have q1 : ¬ a < 0 := by omega
    have q2 : ¬ b < 0 := by omega
    have q3 : wrap64 (a + b) < a := by unfold wrap64; omega
    clear hf
    go_enter Tryd.func15, Tryd.ntmps15
    go_wp2
    go_ret2
    exact ⟨rfl, rfl⟩

set_option maxHeartbeats 1000000 in
theorem Done_sub_fit (a b : Int) (w : World) (ha : I64 a) (hb : I64 b) (h : fits (a - b) = true) :
    Calls Tryd.prog 15 #[.int .i64 18, .int .i64 a, .int .i64 b] w fun e w' => e = .returned (.tuple #[.int .i64 (a - b), .int .i64 0]) ∧ w = w' := by
  obtain ⟨f1, f2⟩ := (fits_iff _).1 h
  obtain ⟨a1, a2⟩ := ha
  obtain ⟨b1, b2⟩ := hb
  clear h
  by_cases q2 : b < 0
  · have q3 : ¬ a - b < a := by omega
    go_enter Tryd.func15, Tryd.ntmps15
    go_wp2
    go_ret2
    exact ⟨rfl, rfl⟩
  · have q3 : ¬ a < a - b := by omega
    go_enter Tryd.func15, Tryd.ntmps15
    go_wp2
    go_ret2
    exact ⟨rfl, rfl⟩

set_option maxHeartbeats 1000000 in
theorem Done_sub_over (a b : Int) (w : World) (ha : I64 a) (hb : I64 b) (h : fits (a - b) = false) :
    Calls Tryd.prog 15 #[.int .i64 18, .int .i64 a, .int .i64 b] w fun e w' => e = .returned (.tuple #[.int .i64 0, .int .i64 5]) ∧ w = w' := by
  have hf := (fits_not _).1 h
  obtain ⟨a1, a2⟩ := ha
  obtain ⟨b1, b2⟩ := hb
  clear h
  rcases hf with hf | hf
  · have q1 : a < 0 := by omega
    have q2 : ¬ b < 0 := by omega
    have q3 : a < wrap64 (a - b) := by unfold wrap64; omega
    clear hf
    go_enter Tryd.func15, Tryd.ntmps15
    go_wp2
    go_ret2
    exact ⟨rfl, rfl⟩
  · have q1 : ¬ a < 0 := by omega
    have q2 : b < 0 := by omega
    have q3 : wrap64 (a - b) < a := by unfold wrap64; omega
    clear hf
    go_enter Tryd.func15, Tryd.ntmps15
    go_wp2
    go_ret2
    exact ⟨rfl, rfl⟩

theorem Do_else (op a b : Int) (w : World) (h1 : op ≠ 17) (h2 : op ≠ 18) (h3 : op ≠ 19) :
    Calls Tryd.prog 14 #[.int .i64 op, .int .i64 a, .int .i64 b] w fun e w' => e = .returned (.tuple #[.int .i64 0, errV 1]) ∧ w = w' := by
  have q1 := beq_eq_false_iff_ne.2 h1
  have q2 := beq_eq_false_iff_ne.2 h2
  have q3 := beq_eq_false_iff_ne.2 h3
  clear h1 h2 h3
  go_enter Tryd.func14, Tryd.ntmps14
  go_wp2
  go_ret2
  exact ⟨rfl, rfl⟩
theorem Done_else (op a b : Int) (w : World) (h1 : op ≠ 17) (h2 : op ≠ 18) (h3 : op ≠ 19) :
    Calls Tryd.prog 15 #[.int .i64 op, .int .i64 a, .int .i64 b] w fun e w' => e = .returned (.tuple #[.int .i64 0, .int .i64 1]) ∧ w = w' := by
  have q1 := beq_eq_false_iff_ne.2 h1
  have q2 := beq_eq_false_iff_ne.2 h2
  have q3 := beq_eq_false_iff_ne.2 h3
  clear h1 h2 h3
  go_enter Tryd.func15, Tryd.ntmps15
  go_wp2
  go_ret2
  exact ⟨rfl, rfl⟩


set_option maxHeartbeats 1000000 in
theorem Do_mul_pp_hi (a b : Int) (w : World) (a1 : -9223372036854775808 ≤ a) (a2 : a ≤ 9223372036854775807) (b1 : -9223372036854775808 ≤ b) (b2 : b ≤ 9223372036854775807) (hi lo : Nat)
    (M : Hid (∀ w, Calls Tryd.prog 33 #[.int .u64 (a.natAbs : Int), .int .u64 (b.natAbs : Int)] w fun e w' => e = .returned (.tuple #[.int .u64 (hi : Int), .int .u64 (lo : Int)]) ∧ w = w'))
    (q1 : ¬ a < 0) (q2 : ¬ b < 0) (p1 : 0 < (hi : Int)) :
    Calls Tryd.prog 14 #[.int .i64 19, .int .i64 a, .int .i64 b] w fun e w' => e = .returned (.tuple #[.int .i64 0, errV 5]) ∧ w = w' := by
  have S1 := Lib.hid (fun w => num_size a w a1 a2)
  have S2 := Lib.hid (fun w => num_size b w b1 b2)
  have hs : (!decide (a < 0) == decide (b < 0)) = false := by simp [q1, q2]
  clear a1 a2 b1 b2
  go_enter Tryd.func14, Tryd.ntmps14
  go_wp2_with fail
  refine (S1.out _).mono ?_
  rintro e w1 ⟨rfl, rfl⟩
  go_wp2_with fail
  refine (S2.out _).mono ?_
  rintro e w1 ⟨rfl, rfl⟩
  generalize hx : (a.natAbs : Int) = x at *
  generalize hy : (b.natAbs : Int) = y at *
  clear hx hy S1 S2
  go_wp2_with fail
  refine (M.out _).mono ?_
  rintro e w1 ⟨rfl, rfl⟩
  clear M
  go_wp2
  go_ret2
  exact ⟨rfl, rfl⟩

set_option maxHeartbeats 1000000 in
theorem Do_mul_pp_lo (a b : Int) (w : World) (a1 : -9223372036854775808 ≤ a) (a2 : a ≤ 9223372036854775807) (b1 : -9223372036854775808 ≤ b) (b2 : b ≤ 9223372036854775807) (hi lo : Nat)
    (M : Hid (∀ w, Calls Tryd.prog 33 #[.int .u64 (a.natAbs : Int), .int .u64 (b.natAbs : Int)] w fun e w' => e = .returned (.tuple #[.int .u64 (hi : Int), .int .u64 (lo : Int)]) ∧ w = w'))
    (q1 : ¬ a < 0) (q2 : ¬ b < 0) (p1 : ¬ 0 < (hi : Int)) (p2 : (9223372036854775807 : Int) < (lo : Int)) :
    Calls Tryd.prog 14 #[.int .i64 19, .int .i64 a, .int .i64 b] w fun e w' => e = .returned (.tuple #[.int .i64 0, errV 5]) ∧ w = w' := by
  have S1 := Lib.hid (fun w => num_size a w a1 a2)
  have S2 := Lib.hid (fun w => num_size b w b1 b2)
  have hs : (!decide (a < 0) == decide (b < 0)) = false := by simp [q1, q2]
  clear a1 a2 b1 b2
  go_enter Tryd.func14, Tryd.ntmps14
  go_wp2_with fail
  refine (S1.out _).mono ?_
  rintro e w1 ⟨rfl, rfl⟩
  go_wp2_with fail
  refine (S2.out _).mono ?_
  rintro e w1 ⟨rfl, rfl⟩
  generalize hx : (a.natAbs : Int) = x at *
  generalize hy : (b.natAbs : Int) = y at *
  clear hx hy S1 S2
  go_wp2_with fail
  refine (M.out _).mono ?_
  rintro e w1 ⟨rfl, rfl⟩
  clear M
  go_wp2
  go_ret2
  exact ⟨rfl, rfl⟩

set_option maxHeartbeats 1000000 in
theorem Do_mul_pp_fit (a b : Int) (w : World) (a1 : -9223372036854775808 ≤ a) (a2 : a ≤ 9223372036854775807) (b1 : -9223372036854775808 ≤ b) (b2 : b ≤ 9223372036854775807) (hi lo : Nat)
    (M : Hid (∀ w, Calls Tryd.prog 33 #[.int .u64 (a.natAbs : Int), .int .u64 (b.natAbs : Int)] w fun e w' => e = .returned (.tuple #[.int .u64 (hi : Int), .int .u64 (lo : Int)]) ∧ w = w'))
    (q1 : ¬ a < 0) (q2 : ¬ b < 0) (p1 : ¬ 0 < (hi : Int)) (p2 : ¬ (9223372036854775807 : Int) < (lo : Int)) :
    Calls Tryd.prog 14 #[.int .i64 19, .int .i64 a, .int .i64 b] w fun e w' => e = .returned (.tuple #[.int .i64 (wrap64 (a * b)), .nilIface]) ∧ w = w' := by
  have S1 := Lib.hid (fun w => num_size a w a1 a2)
  have S2 := Lib.hid (fun w => num_size b w b1 b2)
  have hs : (!decide (a < 0) == decide (b < 0)) = false := by simp [q1, q2]
  clear a1 a2 b1 b2
  go_enter Tryd.func14, Tryd.ntmps14
  go_wp2_with fail
  refine (S1.out _).mono ?_
  rintro e w1 ⟨rfl, rfl⟩
  go_wp2_with fail
  refine (S2.out _).mono ?_
  rintro e w1 ⟨rfl, rfl⟩
  generalize hx : (a.natAbs : Int) = x at *
  generalize hy : (b.natAbs : Int) = y at *
  clear hx hy S1 S2
  go_wp2_with fail
  refine (M.out _).mono ?_
  rintro e w1 ⟨rfl, rfl⟩
  clear M
  go_wp2
  go_ret2
  exact ⟨rfl, rfl⟩

set_option maxHeartbeats 1000000 in
theorem Do_mul_nn_hi (a b : Int) (w : World) (a1 : -9223372036854775808 ≤ a) (a2 : a ≤ 9223372036854775807) (b1 : -9223372036854775808 ≤ b) (b2 : b ≤ 9223372036854775807) (hi lo : Nat)
    (M : Hid (∀ w, Calls Tryd.prog 33 #[.int .u64 (a.natAbs : Int), .int .u64 (b.natAbs : Int)] w fun e w' => e = .returned (.tuple #[.int .u64 (hi : Int), .int .u64 (lo : Int)]) ∧ w = w'))
    (q1 : a < 0) (q2 : b < 0) (p1 : 0 < (hi : Int)) :
    Calls Tryd.prog 14 #[.int .i64 19, .int .i64 a, .int .i64 b] w fun e w' => e = .returned (.tuple #[.int .i64 0, errV 5]) ∧ w = w' := by
  have S1 := Lib.hid (fun w => num_size a w a1 a2)
  have S2 := Lib.hid (fun w => num_size b w b1 b2)
  have hs : (!decide (a < 0) == decide (b < 0)) = false := by simp [q1, q2]
  clear a1 a2 b1 b2
  go_enter Tryd.func14, Tryd.ntmps14
  go_wp2_with fail
  refine (S1.out _).mono ?_
  rintro e w1 ⟨rfl, rfl⟩
  go_wp2_with fail
  refine (S2.out _).mono ?_
  rintro e w1 ⟨rfl, rfl⟩
  generalize hx : (a.natAbs : Int) = x at *
  generalize hy : (b.natAbs : Int) = y at *
  clear hx hy S1 S2
  go_wp2_with fail
  refine (M.out _).mono ?_
  rintro e w1 ⟨rfl, rfl⟩
  clear M
  go_wp2
  go_ret2
  exact ⟨rfl, rfl⟩

set_option maxHeartbeats 1000000 in
theorem Do_mul_nn_lo (a b : Int) (w : World) (a1 : -9223372036854775808 ≤ a) (a2 : a ≤ 9223372036854775807) (b1 : -9223372036854775808 ≤ b) (b2 : b ≤ 9223372036854775807) (hi lo : Nat)
    (M : Hid (∀ w, Calls Tryd.prog 33 #[.int .u64 (a.natAbs : Int), .int .u64 (b.natAbs : Int)] w fun e w' => e = .returned (.tuple #[.int .u64 (hi : Int), .int .u64 (lo : Int)]) ∧ w = w'))
    (q1 : a < 0) (q2 : b < 0) (p1 : ¬ 0 < (hi : Int)) (p2 : (9223372036854775807 : Int) < (lo : Int)) :
    Calls Tryd.prog 14 #[.int .i64 19, .int .i64 a, .int .i64 b] w fun e w' => e = .returned (.tuple #[.int .i64 0, errV 5]) ∧ w = w' := by
  have S1 := Lib.hid (fun w => num_size a w a1 a2)
  have S2 := Lib.hid (fun w => num_size b w b1 b2)
  have hs : (!decide (a < 0) == decide (b < 0)) = false := by simp [q1, q2]
  clear a1 a2 b1 b2
  go_enter Tryd.func14, Tryd.ntmps14
  go_wp2_with fail
  refine (S1.out _).mono ?_
  rintro e w1 ⟨rfl, rfl⟩
  go_wp2_with fail
  refine (S2.out _).mono ?_
  rintro e w1 ⟨rfl, rfl⟩
  generalize hx : (a.natAbs : Int) = x at *
  generalize hy : (b.natAbs : Int) = y at *
  clear hx hy S1 S2
  go_wp2_with fail
  refine (M.out _).mono ?_
  rintro e w1 ⟨rfl, rfl⟩
  clear M
  go_wp2
  go_ret2
  exact ⟨rfl, rfl⟩

set_option maxHeartbeats 1000000 in
theorem Do_mul_nn_fit (a b : Int) (w : World) (a1 : -9223372036854775808 ≤ a) (a2 : a ≤ 9223372036854775807) (b1 : -9223372036854775808 ≤ b) (b2 : b ≤ 9223372036854775807) (hi lo : Nat)
    (M : Hid (∀ w, Calls Tryd.prog 33 #[.int .u64 (a.natAbs : Int), .int .u64 (b.natAbs : Int)] w fun e w' => e = .returned (.tuple #[.int .u64 (hi : Int), .int .u64 (lo : Int)]) ∧ w = w'))
    (q1 : a < 0) (q2 : b < 0) (p1 : ¬ 0 < (hi : Int)) (p2 : ¬ (9223372036854775807 : Int) < (lo : Int)) :
    Calls Tryd.prog 14 #[.int .i64 19, .int .i64 a, .int .i64 b] w fun e w' => e = .returned (.tuple #[.int .i64 (wrap64 (a * b)), .nilIface]) ∧ w = w' := by
  have S1 := Lib.hid (fun w => num_size a w a1 a2)
  have S2 := Lib.hid (fun w => num_size b w b1 b2)
  have hs : (!decide (a < 0) == decide (b < 0)) = false := by simp [q1, q2]
  clear a1 a2 b1 b2
  go_enter Tryd.func14, Tryd.ntmps14
  go_wp2_with fail
  refine (S1.out _).mono ?_
  rintro e w1 ⟨rfl, rfl⟩
  go_wp2_with fail
  refine (S2.out _).mono ?_
  rintro e w1 ⟨rfl, rfl⟩
  generalize hx : (a.natAbs : Int) = x at *
  generalize hy : (b.natAbs : Int) = y at *
  clear hx hy S1 S2
  go_wp2_with fail
  refine (M.out _).mono ?_
  rintro e w1 ⟨rfl, rfl⟩
  clear M
  go_wp2
  go_ret2
  exact ⟨rfl, rfl⟩

set_option maxHeartbeats 1000000 in
theorem Do_mul_np_hi (a b : Int) (w : World) (a1 : -9223372036854775808 ≤ a) (a2 : a ≤ 9223372036854775807) (b1 : -9223372036854775808 ≤ b) (b2 : b ≤ 9223372036854775807) (hi lo : Nat)
    (M : Hid (∀ w, Calls Tryd.prog 33 #[.int .u64 (a.natAbs : Int), .int .u64 (b.natAbs : Int)] w fun e w' => e = .returned (.tuple #[.int .u64 (hi : Int), .int .u64 (lo : Int)]) ∧ w = w'))
    (q1 : a < 0) (q2 : ¬ b < 0) (p1 : 0 < (hi : Int)) :
    Calls Tryd.prog 14 #[.int .i64 19, .int .i64 a, .int .i64 b] w fun e w' => e = .returned (.tuple #[.int .i64 0, errV 5]) ∧ w = w' := by
  have S1 := Lib.hid (fun w => num_size a w a1 a2)
  have S2 := Lib.hid (fun w => num_size b w b1 b2)
  have hs : (!decide (a < 0) == decide (b < 0)) = true := by simp [q1, q2]
  have hs2 : (!decide (b < 0)) = true := by simp [q2]
  clear a1 a2 b1 b2
  go_enter Tryd.func14, Tryd.ntmps14
  go_wp2_with fail
  refine (S1.out _).mono ?_
  rintro e w1 ⟨rfl, rfl⟩
  go_wp2_with fail
  refine (S2.out _).mono ?_
  rintro e w1 ⟨rfl, rfl⟩
  generalize hx : (a.natAbs : Int) = x at *
  generalize hy : (b.natAbs : Int) = y at *
  clear hx hy S1 S2
  go_wp2_with fail
  refine (M.out _).mono ?_
  rintro e w1 ⟨rfl, rfl⟩
  clear M
  go_wp2
  go_ret2
  exact ⟨rfl, rfl⟩

set_option maxHeartbeats 1000000 in
theorem Do_mul_np_lo (a b : Int) (w : World) (a1 : -9223372036854775808 ≤ a) (a2 : a ≤ 9223372036854775807) (b1 : -9223372036854775808 ≤ b) (b2 : b ≤ 9223372036854775807) (hi lo : Nat)
    (M : Hid (∀ w, Calls Tryd.prog 33 #[.int .u64 (a.natAbs : Int), .int .u64 (b.natAbs : Int)] w fun e w' => e = .returned (.tuple #[.int .u64 (hi : Int), .int .u64 (lo : Int)]) ∧ w = w'))
    (q1 : a < 0) (q2 : ¬ b < 0) (p1 : ¬ 0 < (hi : Int)) (p2 : (9223372036854775808 : Int) < (lo : Int)) :
    Calls Tryd.prog 14 #[.int .i64 19, .int .i64 a, .int .i64 b] w fun e w' => e = .returned (.tuple #[.int .i64 0, errV 5]) ∧ w = w' := by
  have S1 := Lib.hid (fun w => num_size a w a1 a2)
  have S2 := Lib.hid (fun w => num_size b w b1 b2)
  have hs : (!decide (a < 0) == decide (b < 0)) = true := by simp [q1, q2]
  have hs2 : (!decide (b < 0)) = true := by simp [q2]
  clear a1 a2 b1 b2
  go_enter Tryd.func14, Tryd.ntmps14
  go_wp2_with fail
  refine (S1.out _).mono ?_
  rintro e w1 ⟨rfl, rfl⟩
  go_wp2_with fail
  refine (S2.out _).mono ?_
  rintro e w1 ⟨rfl, rfl⟩
  generalize hx : (a.natAbs : Int) = x at *
  generalize hy : (b.natAbs : Int) = y at *
  clear hx hy S1 S2
  go_wp2_with fail
  refine (M.out _).mono ?_
  rintro e w1 ⟨rfl, rfl⟩
  clear M
  go_wp2
  go_ret2
  exact ⟨rfl, rfl⟩

set_option maxHeartbeats 1000000 in
theorem Do_mul_np_fit (a b : Int) (w : World) (a1 : -9223372036854775808 ≤ a) (a2 : a ≤ 9223372036854775807) (b1 : -9223372036854775808 ≤ b) (b2 : b ≤ 9223372036854775807) (hi lo : Nat)
    (M : Hid (∀ w, Calls Tryd.prog 33 #[.int .u64 (a.natAbs : Int), .int .u64 (b.natAbs : Int)] w fun e w' => e = .returned (.tuple #[.int .u64 (hi : Int), .int .u64 (lo : Int)]) ∧ w = w'))
    (q1 : a < 0) (q2 : ¬ b < 0) (p1 : ¬ 0 < (hi : Int)) (p2 : ¬ (9223372036854775808 : Int) < (lo : Int)) :
    Calls Tryd.prog 14 #[.int .i64 19, .int .i64 a, .int .i64 b] w fun e w' => e = .returned (.tuple #[.int .i64 (wrap64 (a * b)), .nilIface]) ∧ w = w' := by
  have S1 := Lib.hid (fun w => num_size a w a1 a2)
  have S2 := Lib.hid (fun w => num_size b w b1 b2)
  have hs : (!decide (a < 0) == decide (b < 0)) = true := by simp [q1, q2]
  have hs2 : (!decide (b < 0)) = true := by simp [q2]
  clear a1 a2 b1 b2
  go_enter Tryd.func14, Tryd.ntmps14
  go_wp2_with fail
  refine (S1.out _).mono ?_
  rintro e w1 ⟨rfl, rfl⟩
  go_wp2_with fail
  refine (S2.out _).mono ?_
  rintro e w1 ⟨rfl, rfl⟩
  generalize hx : (a.natAbs : Int) = x at *
  generalize hy : (b.natAbs : Int) = y at *
  clear hx hy S1 S2
  go_wp2_with fail
  refine (M.out _).mono ?_
  rintro e w1 ⟨rfl, rfl⟩
  clear M
  go_wp2
  go_ret2
  exact ⟨rfl, rfl⟩

set_option maxHeartbeats 1000000 in
theorem Do_mul_pn_hi (a b : Int) (w : World) (a1 : -9223372036854775808 ≤ a) (a2 : a ≤ 9223372036854775807) (b1 : -9223372036854775808 ≤ b) (b2 : b ≤ 9223372036854775807) (hi lo : Nat)
    (M : Hid (∀ w, Calls Tryd.prog 33 #[.int .u64 (a.natAbs : Int), .int .u64 (b.natAbs : Int)] w fun e w' => e = .returned (.tuple #[.int .u64 (hi : Int), .int .u64 (lo : Int)]) ∧ w = w'))
    (q1 : ¬ a < 0) (q2 : b < 0) (p1 : 0 < (hi : Int)) :
    Calls Tryd.prog 14 #[.int .i64 19, .int .i64 a, .int .i64 b] w fun e w' => e = .returned (.tuple #[.int .i64 0, errV 5]) ∧ w = w' := by
  have S1 := Lib.hid (fun w => num_size a w a1 a2)
  have S2 := Lib.hid (fun w => num_size b w b1 b2)
  have hs : (!decide (a < 0) == decide (b < 0)) = true := by simp [q1, q2]
  have hs2 : (!decide (a < 0)) = true := by simp [q1]
  clear a1 a2 b1 b2
  go_enter Tryd.func14, Tryd.ntmps14
  go_wp2_with fail
  refine (S1.out _).mono ?_
  rintro e w1 ⟨rfl, rfl⟩
  go_wp2_with fail
  refine (S2.out _).mono ?_
  rintro e w1 ⟨rfl, rfl⟩
  generalize hx : (a.natAbs : Int) = x at *
  generalize hy : (b.natAbs : Int) = y at *
  clear hx hy S1 S2
  go_wp2_with fail
  refine (M.out _).mono ?_
  rintro e w1 ⟨rfl, rfl⟩
  clear M
  go_wp2
  go_ret2
  exact ⟨rfl, rfl⟩

set_option maxHeartbeats 1000000 in
theorem Do_mul_pn_lo (a b : Int) (w : World) (a1 : -9223372036854775808 ≤ a) (a2 : a ≤ 9223372036854775807) (b1 : -9223372036854775808 ≤ b) (b2 : b ≤ 9223372036854775807) (hi lo : Nat)
    (M : Hid (∀ w, Calls Tryd.prog 33 #[.int .u64 (a.natAbs : Int), .int .u64 (b.natAbs : Int)] w fun e w' => e = .returned (.tuple #[.int .u64 (hi : Int), .int .u64 (lo : Int)]) ∧ w = w'))
    (q1 : ¬ a < 0) (q2 : b < 0) (p1 : ¬ 0 < (hi : Int)) (p2 : (9223372036854775808 : Int) < (lo : Int)) :
    Calls Tryd.prog 14 #[.int .i64 19, .int .i64 a, .int .i64 b] w fun e w' => e = .returned (.tuple #[.int .i64 0, errV 5]) ∧ w = w' := by
  have S1 := Lib.hid (fun w => num_size a w a1 a2)
  have S2 := Lib.hid (fun w => num_size b w b1 b2)
  have hs : (!decide (a < 0) == decide (b < 0)) = true := by simp [q1, q2]
  have hs2 : (!decide (a < 0)) = true := by simp [q1]
  clear a1 a2 b1 b2
  go_enter Tryd.func14, Tryd.ntmps14
  go_wp2_with fail
  refine (S1.out _).mono ?_
  rintro e w1 ⟨rfl, rfl⟩
  go_wp2_with fail
  refine (S2.out _).mono ?_
  rintro e w1 ⟨rfl, rfl⟩
  generalize hx : (a.natAbs : Int) = x at *
  generalize hy : (b.natAbs : Int) = y at *
  clear hx hy S1 S2
  go_wp2_with fail
  refine (M.out _).mono ?_
  rintro e w1 ⟨rfl, rfl⟩
  clear M
  go_wp2
  go_ret2
  exact ⟨rfl, rfl⟩

set_option maxHeartbeats 1000000 in
theorem Do_mul_pn_fit (a b : Int) (w : World) (a1 : -9223372036854775808 ≤ a) (a2 : a ≤ 9223372036854775807) (b1 : -9223372036854775808 ≤ b) (b2 : b ≤ 9223372036854775807) (hi lo : Nat)
    (M : Hid (∀ w, Calls Tryd.prog 33 #[.int .u64 (a.natAbs : Int), .int .u64 (b.natAbs : Int)] w fun e w' => e = .returned (.tuple #[.int .u64 (hi : Int), .int .u64 (lo : Int)]) ∧ w = w'))
    (q1 : ¬ a < 0) (q2 : b < 0) (p1 : ¬ 0 < (hi : Int)) (p2 : ¬ (9223372036854775808 : Int) < (lo : Int)) :
    Calls Tryd.prog 14 #[.int .i64 19, .int .i64 a, .int .i64 b] w fun e w' => e = .returned (.tuple #[.int .i64 (wrap64 (a * b)), .nilIface]) ∧ w = w' := by
  have S1 := Lib.hid (fun w => num_size a w a1 a2)
  have S2 := Lib.hid (fun w => num_size b w b1 b2)
  have hs : (!decide (a < 0) == decide (b < 0)) = true := by simp [q1, q2]
  have hs2 : (!decide (a < 0)) = true := by simp [q1]
  clear a1 a2 b1 b2
  go_enter Tryd.func14, Tryd.ntmps14
  go_wp2_with fail
  refine (S1.out _).mono ?_
  rintro e w1 ⟨rfl, rfl⟩
  go_wp2_with fail
  refine (S2.out _).mono ?_
  rintro e w1 ⟨rfl, rfl⟩
  generalize hx : (a.natAbs : Int) = x at *
  generalize hy : (b.natAbs : Int) = y at *
  clear hx hy S1 S2
  go_wp2_with fail
  refine (M.out _).mono ?_
  rintro e w1 ⟨rfl, rfl⟩
  clear M
  go_wp2
  go_ret2
  exact ⟨rfl, rfl⟩

theorem Do_mul (a b : Int) (w : World) (ha : I64 a) (hb : I64 b) :
    Calls Tryd.prog 14 #[.int .i64 19, .int .i64 a, .int .i64 b] w fun e w' => e = .returned (.tuple #[.int .i64 (if fits (a * b) then a * b else 0), errV (if fits (a * b) then 0 else 5)]) ∧ w = w' := by
  obtain ⟨a1, a2⟩ := ha
  obtain ⟨b1, b2⟩ := hb
  have M : Hid (∀ w, _) := Lib.hid (fun w => bits_Mul64 a.natAbs b.natAbs w (by omega) (by omega))
  have T0 := fun d hd => mul_fits (a := a) (b := b) d hd
  have W := fun h : fits (a * b) = true => wrap_fits h
  generalize mulHi a.natAbs b.natAbs = hi at *
  generalize mulLo a.natAbs b.natAbs = lo at *
  by_cases q1 : a < 0
  · by_cases q2 : b < 0
    · skip
      have T := T0 0 (by rw [if_pos ⟨fun _ => q2, fun _ => q1⟩])
      by_cases p1 : 0 < (hi : Int)
      · have hf : fits (a * b) = false := by
          rw [Bool.eq_false_iff]; intro q; have := (T.1 q).1; omega
        rw [hf]
        exact Do_mul_nn_hi a b w a1 a2 b1 b2 hi lo M q1 q2 p1
      · by_cases p2 : (9223372036854775807 : Int) < (lo : Int)
        · have hf : fits (a * b) = false := by
            rw [Bool.eq_false_iff]; intro q; have := (T.1 q).2; omega
          rw [hf]
          exact Do_mul_nn_lo a b w a1 a2 b1 b2 hi lo M q1 q2 p1 p2
        · have hf : fits (a * b) = true := T.2 ⟨by omega, by omega⟩
          have h := Do_mul_nn_fit a b w a1 a2 b1 b2 hi lo M q1 q2 p1 p2
          rw [W hf] at h
          rw [hf]
          exact h
    · skip
      have T := T0 1 (by rw [if_neg (fun q => q2 (q.1 q1))])
      by_cases p1 : 0 < (hi : Int)
      · have hf : fits (a * b) = false := by
          rw [Bool.eq_false_iff]; intro q; have := (T.1 q).1; omega
        rw [hf]
        exact Do_mul_np_hi a b w a1 a2 b1 b2 hi lo M q1 q2 p1
      · by_cases p2 : (9223372036854775808 : Int) < (lo : Int)
        · have hf : fits (a * b) = false := by
            rw [Bool.eq_false_iff]; intro q; have := (T.1 q).2; omega
          rw [hf]
          exact Do_mul_np_lo a b w a1 a2 b1 b2 hi lo M q1 q2 p1 p2
        · have hf : fits (a * b) = true := T.2 ⟨by omega, by omega⟩
          have h := Do_mul_np_fit a b w a1 a2 b1 b2 hi lo M q1 q2 p1 p2
          rw [W hf] at h
          rw [hf]
          exact h
  · by_cases q2 : b < 0
    · skip
      have T := T0 1 (by rw [if_neg (fun q => q1 (q.2 q2))])
      by_cases p1 : 0 < (hi : Int)
      · have hf : fits (a * b) = false := by
          rw [Bool.eq_false_iff]; intro q; have := (T.1 q).1; omega
        rw [hf]
        exact Do_mul_pn_hi a b w a1 a2 b1 b2 hi lo M q1 q2 p1
      · by_cases p2 : (9223372036854775808 : Int) < (lo : Int)
        · have hf : fits (a * b) = false := by
            rw [Bool.eq_false_iff]; intro q; have := (T.1 q).2; omega
          rw [hf]
          exact Do_mul_pn_lo a b w a1 a2 b1 b2 hi lo M q1 q2 p1 p2
        · have hf : fits (a * b) = true := T.2 ⟨by omega, by omega⟩
          have h := Do_mul_pn_fit a b w a1 a2 b1 b2 hi lo M q1 q2 p1 p2
          rw [W hf] at h
          rw [hf]
          exact h
    · skip
      have T := T0 0 (by rw [if_pos ⟨fun q => absurd q q1, fun q => absurd q q2⟩])
      by_cases p1 : 0 < (hi : Int)
      · have hf : fits (a * b) = false := by
          rw [Bool.eq_false_iff]; intro q; have := (T.1 q).1; omega
        rw [hf]
        exact Do_mul_pp_hi a b w a1 a2 b1 b2 hi lo M q1 q2 p1
      · by_cases p2 : (9223372036854775807 : Int) < (lo : Int)
        · have hf : fits (a * b) = false := by
            rw [Bool.eq_false_iff]; intro q; have := (T.1 q).2; omega
          rw [hf]
          exact Do_mul_pp_lo a b w a1 a2 b1 b2 hi lo M q1 q2 p1 p2
        · have hf : fits (a * b) = true := T.2 ⟨by omega, by omega⟩
          have h := Do_mul_pp_fit a b w a1 a2 b1 b2 hi lo M q1 q2 p1 p2
          rw [W hf] at h
          rw [hf]
          exact h

set_option maxHeartbeats 1000000 in
theorem Done_mul_any (a b : Int) (w : World) (q0 : (a == 0) = false) (q0' : ¬ a = 0) (q1 : (b == 0) = false) (q2 : (a == -1) = false) (t1 t2 : Bool) (h1 : (wrap64 ((wrap64 (a * b)).tdiv a) == b) = t1) (h2 : ((wrap64 (a * b)).tmod a == 0) = t2) :
    Calls Tryd.prog 15 #[.int .i64 19, .int .i64 a, .int .i64 b] w fun e w' => e = .returned (.tuple #[.int .i64 (if (t1 && t2) = true then wrap64 (a * b) else 0), .int .i64 (if (t1 && t2) = true then 0 else 5)]) ∧ w = w' := by
  have h3 : (wrap64 ((wrap64 (a * b)).tdiv a) != b) = !t1 := by rw [← h1]; rfl
  have h4 : ((wrap64 (a * b)).tmod a != 0) = !t2 := by rw [← h2]; rfl
  cases t1 <;> cases t2
  all_goals
    simp only [Bool.not_true, Bool.not_false] at h3 h4
    go_enter Tryd.func15, Tryd.ntmps15
    go_wp2
    go_ret2
    exact ⟨rfl, rfl⟩
theorem Done_mul_zero (a b : Int) (w : World) (h : a = 0 ∨ b = 0) :
    Calls Tryd.prog 15 #[.int .i64 19, .int .i64 a, .int .i64 b] w fun e w' => e = .returned (.tuple #[.int .i64 0, .int .i64 0]) ∧ w = w' := by
  by_cases q0 : a = 0
  · subst q0
    clear h
    go_enter Tryd.func15, Tryd.ntmps15
    go_wp2
    go_ret2
    exact ⟨rfl, rfl⟩
  · have q1 : b = 0 := h.resolve_left q0
    have q2 := beq_eq_false_iff_ne.2 q0
    clear h q0
    subst q1
    go_enter Tryd.func15, Tryd.ntmps15
    go_wp2
    go_ret2
    exact ⟨rfl, rfl⟩
theorem Done_mul_neg (b : Int) (w : World) (hb : I64 b) (h : b ≠ 0) :
    Calls Tryd.prog 15 #[.int .i64 19, .int .i64 (-1), .int .i64 b] w fun e w' => e = .returned (.tuple #[.int .i64 (if fits (0 - b) = true then 0 - b else 0), .int .i64 (if fits (0 - b) = true then 0 else 5)]) ∧ w = w' := by
  have q1 := beq_eq_false_iff_ne.2 h
  have z : I64 0 := by unfold I64; omega
  clear h
  rcases hf : fits (0 - b) with _ | _
  · have C := Lib.hid (fun w => Done_sub_over 0 b w z hb hf)
    clear hf z
    obtain ⟨b1, b2⟩ := hb
    go_enter Tryd.func15, Tryd.ntmps15
    go_wp2_with fail
    refine (C.out _).mono ?_
    rintro e w1 ⟨rfl, rfl⟩
    go_wp2
    go_ret2
    exact ⟨rfl, rfl⟩
  · have C := Lib.hid (fun w => Done_sub_fit 0 b w z hb hf)
    clear hf z
    obtain ⟨b1, b2⟩ := hb
    go_enter Tryd.func15, Tryd.ntmps15
    go_wp2_with fail
    refine (C.out _).mono ?_
    rintro e w1 ⟨rfl, rfl⟩
    go_wp2
    go_ret2
    exact ⟨rfl, rfl⟩
theorem Done_mul (a b : Int) (w : World) (hb : I64 b) :
    Calls Tryd.prog 15 #[.int .i64 19, .int .i64 a, .int .i64 b] w fun e w' => e = .returned (.tuple #[.int .i64 (if fits (a * b) = true then a * b else 0), .int .i64 (if fits (a * b) = true then 0 else 5)]) ∧ w = w' := by
  by_cases h0 : a = 0 ∨ b = 0
  · have e : a * b = 0 := by rcases h0 with h | h <;> simp [h]
    have hf : fits 0 = true := by decide
    rw [e, hf]
    exact Done_mul_zero a b w h0
  · have ha0 : a ≠ 0 := fun q => h0 (.inl q)
    have hb0 : b ≠ 0 := fun q => h0 (.inr q)
    by_cases h1 : a = -1
    · subst h1
      have e : -1 * b = 0 - b := by omega
      rw [e]
      exact Done_mul_neg b w hb hb0
    · have h := Done_mul_any a b w (beq_eq_false_iff_ne.2 ha0) ha0 (beq_eq_false_iff_ne.2 hb0) (beq_eq_false_iff_ne.2 h1) _ _ rfl rfl
      rw [← div_test ha0 h1] at h
      have e : (if fits (a * b) = true then wrap64 (a * b) else 0) = if fits (a * b) = true then a * b else 0 := by
        by_cases hf : fits (a * b) = true
        · rw [if_pos hf, if_pos hf, wrap_fits hf]
        · rw [if_neg hf, if_neg hf]
      rw [e] at h
      exact h

theorem num_Do (op a b : Int) (w : World) (ha : I64 a) (hb : I64 b) :
    Calls Tryd.prog 14 #[.int .i64 op, .int .i64 a, .int .i64 b] w fun e w' => e = .returned (.tuple #[.int .i64 (numV op a b), errV (numE op a b)]) ∧ w = w' := by
  by_cases h1 : op = 17
  · subst h1
    rcases hf : fits (a + b) with _ | _
    · have := Do_add_over a b w ha hb hf
      simpa [numV, numE, numR, hf] using this
    · have := Do_add_fit a b w ha hb hf
      simpa [numV, numE, numR, hf, errV_zero] using this
  · by_cases h2 : op = 18
    · subst h2
      rcases hf : fits (a - b) with _ | _
      · have := Do_sub_over a b w ha hb hf
        simpa [numV, numE, numR, hf] using this
      · have := Do_sub_fit a b w ha hb hf
        simpa [numV, numE, numR, hf, errV_zero] using this
    · by_cases h3 : op = 19
      · subst h3
        have := Do_mul a b w ha hb
        simpa [numV, numE, numR] using this
      · have := Do_else op a b w h1 h2 h3
        simpa [numV, numE, h1, h2, h3] using this
theorem ref_Done (op a b : Int) (w : World) (ha : I64 a) (hb : I64 b) :
    Calls Tryd.prog 15 #[.int .i64 op, .int .i64 a, .int .i64 b] w fun e w' => e = .returned (.tuple #[.int .i64 (numV op a b), .int .i64 (numE op a b)]) ∧ w = w' := by
  by_cases h1 : op = 17
  · subst h1
    rcases hf : fits (a + b) with _ | _
    · have := Done_add_over a b w ha hb hf
      simpa [numV, numE, numR, hf] using this
    · have := Done_add_fit a b w ha hb hf
      simpa [numV, numE, numR, hf] using this
  · by_cases h2 : op = 18
    · subst h2
      rcases hf : fits (a - b) with _ | _
      · have := Done_sub_over a b w ha hb hf
        simpa [numV, numE, numR, hf] using this
      · have := Done_sub_fit a b w ha hb hf
        simpa [numV, numE, numR, hf] using this
    · by_cases h3 : op = 19
      · subst h3
        have := Done_mul a b w hb
        simpa [numV, numE, numR] using this
      · have := Done_else op a b w h1 h2 h3
        simpa [numV, numE, h1, h2, h3] using this
theorem num_Neg (a : Int) (w : World) (ha : I64 a) :
    Calls Tryd.prog 16 #[.int .i64 a] w fun e w' => e = .returned (.tuple #[.int .i64 (numV 18 0 a), errV (numE 18 0 a)]) ∧ w = w' := by
  have C := Lib.hid (fun w => num_Do 18 0 a w (by unfold I64; omega) ha)
  go_enter Tryd.func16, Tryd.ntmps16
  go_wp2_with fail
  refine (C.out _).mono ?_
  rintro e w1 ⟨rfl, rfl⟩
  go_wp2
  go_ret2
  exact ⟨rfl, rfl⟩
end Go.Proofs.YtbaccefcgblagaaDoor
