/-
  The contracts of num.Do, num.Neg and the reference's Done.
  eval.single: a node with one part. (gen_evone.py)
  slices.Clone and slices.Equal of values, as eval calls them.
  eval.double: a node with two parts: are they the same; sets. (gen_evtwo.py)
-/
import Derived.Test.YtcdpoamiejompaaGreatDoorQe28
namespace Go.Proofs.YtcdpoamiejompaaGreatDoor
open Go.RowKit Go.Wk

theorem bits_Mul64 (x y : Nat) (w : World) (hx : x < 18446744073709551616) (hy : y < 18446744073709551616) :
    Calls Tryz.prog 143 #[.int .u64 x, .int .u64 y] w fun e w' => e = .returned (.tuple #[.int .u64 (mulHi x y : Int), .int .u64 (mulLo x y : Int)]) ∧ w = w' :=
  (Tryz.bits_Mul64 x y hx hy w).mono fun _ _ ⟨h1, h2⟩ => ⟨h1, h2.symm⟩

theorem ret_u64 {a b : Int} (h : a = b) : Ending.returned (.int .u64 a) = .returned (.int .u64 b) := by rw [h]
theorem num_size (a : Int) (w : World) (h0 : -9223372036854775808 ≤ a) (h1 : a ≤ 9223372036854775807) :
    Calls Tryz.prog 144 #[.int .i64 a] w fun e w' => e = .returned (.int .u64 (a.natAbs : Int)) ∧ w = w' := by
  by_cases h : a < 0
  · have H := Lib.hid (show IntKind.u64.wrap (-IntKind.u64.wrap a) = (a.natAbs : Int) by simp only [IntKind.wrap_u64]; omega)
    go_enter Tryz.func144, Tryz.ntmps144
    go_wp2
    go_ret
    exact ⟨ret_u64 H.out, rfl⟩
  · have H := Lib.hid (show a = (a.natAbs : Int) by omega)
    go_enter Tryz.func144, Tryz.ntmps144
    go_wp2
    go_ret
    exact ⟨ret_u64 H.out, rfl⟩

set_option maxHeartbeats 1000000 in
theorem Do_add_fit (a b : Int) (w : World) (ha : I64 a) (hb : I64 b) (h : fits (a + b) = true) :
    Calls Tryz.prog 98 #[.int .i64 17, .int .i64 a, .int .i64 b] w fun e w' => e = .returned (.tuple #[.int .i64 (a + b), .nilIface]) ∧ w = w' := by
  obtain ⟨f1, f2⟩ := (fits_iff _).1 h
  obtain ⟨a1, a2⟩ := ha
  obtain ⟨b1, b2⟩ := hb
  clear h
  by_cases q1 : a < 0 <;> by_cases q2 : b < 0 <;> by_cases q3 : a + b < 0 <;> first | (exfalso; omega) | skip
  all_goals
    go_enter Tryz.func98, Tryz.ntmps98
    go_wp2
    go_ret2
    exact ⟨rfl, rfl⟩

set_option maxHeartbeats 1000000 in
theorem Do_add_over (a b : Int) (w : World) (ha : I64 a) (hb : I64 b) (h : fits (a + b) = false) :
    Calls Tryz.prog 98 #[.int .i64 17, .int .i64 a, .int .i64 b] w fun e w' => e = .returned (.tuple #[.int .i64 0, errV 5]) ∧ w = w' := by
  have hf := (fits_not _).1 h
  obtain ⟨a1, a2⟩ := ha
  obtain ⟨b1, b2⟩ := hb
  clear h
  rcases hf with hf | hf
  · have q1 : a < 0 := by omega
    have q2 : b < 0 := by omega
    have q3 : ¬ wrap64 (a + b) < 0 := by unfold wrap64; omega
    clear hf
    go_enter Tryz.func98, Tryz.ntmps98
    go_wp2
    go_ret2
    exact ⟨rfl, rfl⟩
  · have q1 : ¬ a < 0 := by omega
    have q2 : ¬ b < 0 := by omega
    have q3 : wrap64 (a + b) < 0 := by unfold wrap64; omega
    clear hf
    go_enter Tryz.func98, Tryz.ntmps98
    go_wp2
    go_ret2
    exact ⟨rfl, rfl⟩

set_option maxHeartbeats 1000000 in
theorem Do_sub_fit (a b : Int) (w : World) (ha : I64 a) (hb : I64 b) (h : fits (a - b) = true) :
    Calls Tryz.prog 98 #[.int .i64 18, .int .i64 a, .int .i64 b] w fun e w' => e = .returned (.tuple #[.int .i64 (a - b), .nilIface]) ∧ w = w' := by
  obtain ⟨f1, f2⟩ := (fits_iff _).1 h
  obtain ⟨a1, a2⟩ := ha
  obtain ⟨b1, b2⟩ := hb
  clear h
  by_cases q1 : a < 0 <;> by_cases q2 : b < 0 <;> by_cases q3 : a - b < 0 <;> first | (exfalso; omega) | skip
  all_goals
    go_enter Tryz.func98, Tryz.ntmps98
    go_wp2
    go_ret2
    exact ⟨rfl, rfl⟩

set_option maxHeartbeats 1000000 in
theorem Do_sub_over (a b : Int) (w : World) (ha : I64 a) (hb : I64 b) (h : fits (a - b) = false) :
    Calls Tryz.prog 98 #[.int .i64 18, .int .i64 a, .int .i64 b] w fun e w' => e = .returned (.tuple #[.int .i64 0, errV 5]) ∧ w = w' := by
  have hf := (fits_not _).1 h
  obtain ⟨a1, a2⟩ := ha
  obtain ⟨b1, b2⟩ := hb
  clear h
  rcases hf with hf | hf
  · have q1 : a < 0 := by omega
    have q2 : ¬ b < 0 := by omega
    have q3 : ¬ wrap64 (a - b) < 0 := by unfold wrap64; omega
    clear hf
    go_enter Tryz.func98, Tryz.ntmps98
    go_wp2
    go_ret2
    exact ⟨rfl, rfl⟩
  · have q1 : ¬ a < 0 := by omega
    have q2 : b < 0 := by omega
    have q3 : wrap64 (a - b) < 0 := by unfold wrap64; omega
    clear hf
    go_enter Tryz.func98, Tryz.ntmps98
    go_wp2
    go_ret2
    exact ⟨rfl, rfl⟩

theorem Do_else (op a b : Int) (w : World) (h1 : op ≠ 17) (h2 : op ≠ 18) (h3 : op ≠ 19) :
    Calls Tryz.prog 98 #[.int .i64 op, .int .i64 a, .int .i64 b] w fun e w' => e = .returned (.tuple #[.int .i64 0, errV 1]) ∧ w = w' := by
  have q1 := beq_eq_false_iff_ne.2 h1
  have q2 := beq_eq_false_iff_ne.2 h2
  have q3 := beq_eq_false_iff_ne.2 h3
  clear h1 h2 h3
  go_enter Tryz.func98, Tryz.ntmps98
  go_wp2
  go_ret2
  exact ⟨rfl, rfl⟩
set_option maxHeartbeats 1000000 in
theorem Do_mul_pp_hi (a b : Int) (w : World) (a1 : -9223372036854775808 ≤ a) (a2 : a ≤ 9223372036854775807) (b1 : -9223372036854775808 ≤ b) (b2 : b ≤ 9223372036854775807) (hi lo : Nat)
    (M : Hid (∀ w, Calls Tryz.prog 143 #[.int .u64 (a.natAbs : Int), .int .u64 (b.natAbs : Int)] w fun e w' => e = .returned (.tuple #[.int .u64 (hi : Int), .int .u64 (lo : Int)]) ∧ w = w'))
    (q1 : ¬ a < 0) (q2 : ¬ b < 0) (p1 : 0 < (hi : Int)) :
    Calls Tryz.prog 98 #[.int .i64 19, .int .i64 a, .int .i64 b] w fun e w' => e = .returned (.tuple #[.int .i64 0, errV 5]) ∧ w = w' := by
  have S1 := Lib.hid (fun w => num_size a w a1 a2)
  have S2 := Lib.hid (fun w => num_size b w b1 b2)
  have hs : (!decide (a < 0) == decide (b < 0)) = false := by simp [q1, q2]
  clear a1 a2 b1 b2
  go_enter Tryz.func98, Tryz.ntmps98
  go_wp2_with fail
  refine (S1.out _).mono ?_
  rintro e w1 ⟨rfl, rfl⟩
  go_wp2_with fail
  refine (S2.out _).mono ?_
  rintro e w1 ⟨rfl, rfl⟩
  generalize hx : (a.natAbs : Int) = x at *
  generalize hy : (b.natAbs : Int) = y at *
  clear hx hy S1 S2
  go_wp2_with fail
  refine (M.out _).mono ?_
  rintro e w1 ⟨rfl, rfl⟩
  clear M
  go_wp2
  go_ret2
  exact ⟨rfl, rfl⟩

set_option maxHeartbeats 1000000 in
theorem Do_mul_pp_lo (a b : Int) (w : World) (a1 : -9223372036854775808 ≤ a) (a2 : a ≤ 9223372036854775807) (b1 : -9223372036854775808 ≤ b) (b2 : b ≤ 9223372036854775807) (hi lo : Nat)
    (M : Hid (∀ w, Calls Tryz.prog 143 #[.int .u64 (a.natAbs : Int), .int .u64 (b.natAbs : Int)] w fun e w' => e = .returned (.tuple #[.int .u64 (hi : Int), .int .u64 (lo : Int)]) ∧ w = w'))
    (q1 : ¬ a < 0) (q2 : ¬ b < 0) (p1 : ¬ 0 < (hi : Int)) (p2 : (9223372036854775807 : Int) < (lo : Int)) :
    Calls Tryz.prog 98 #[.int .i64 19, .int .i64 a, .int .i64 b] w fun e w' => e = .returned (.tuple #[.int .i64 0, errV 5]) ∧ w = w' := by
  have S1 := Lib.hid (fun w => num_size a w a1 a2)
  have S2 := Lib.hid (fun w => num_size b w b1 b2)
  have hs : (!decide (a < 0) == decide (b < 0)) = false := by simp [q1, q2]
  clear a1 a2 b1 b2
  go_enter Tryz.func98, Tryz.ntmps98
  go_wp2_with fail
  refine (S1.out _).mono ?_
  rintro e w1 ⟨rfl, rfl⟩
  go_wp2_with fail
  refine (S2.out _).mono ?_
  rintro e w1 ⟨rfl, rfl⟩
  generalize hx : (a.natAbs : Int) = x at *
  generalize hy : (b.natAbs : Int) = y at *
  clear hx hy S1 S2
  go_wp2_with fail
  refine (M.out _).mono ?_
  rintro e w1 ⟨rfl, rfl⟩
  clear M
  go_wp2
  go_ret2
  exact ⟨rfl, rfl⟩

set_option maxHeartbeats 1000000 in
theorem Do_mul_pp_fit (a b : Int) (w : World) (a1 : -9223372036854775808 ≤ a) (a2 : a ≤ 9223372036854775807) (b1 : -9223372036854775808 ≤ b) (b2 : b ≤ 9223372036854775807) (hi lo : Nat)
    (M : Hid (∀ w, Calls Tryz.prog 143 #[.int .u64 (a.natAbs : Int), .int .u64 (b.natAbs : Int)] w fun e w' => e = .returned (.tuple #[.int .u64 (hi : Int), .int .u64 (lo : Int)]) ∧ w = w'))
    (q1 : ¬ a < 0) (q2 : ¬ b < 0) (p1 : ¬ 0 < (hi : Int)) (p2 : ¬ (9223372036854775807 : Int) < (lo : Int)) :
    Calls Tryz.prog 98 #[.int .i64 19, .int .i64 a, .int .i64 b] w fun e w' => e = .returned (.tuple #[.int .i64 (wrap64 (a * b)), .nilIface]) ∧ w = w' := by
  have S1 := Lib.hid (fun w => num_size a w a1 a2)
  have S2 := Lib.hid (fun w => num_size b w b1 b2)
  have hs : (!decide (a < 0) == decide (b < 0)) = false := by simp [q1, q2]
  clear a1 a2 b1 b2
  go_enter Tryz.func98, Tryz.ntmps98
  go_wp2_with fail
  refine (S1.out _).mono ?_
  rintro e w1 ⟨rfl, rfl⟩
  go_wp2_with fail
  refine (S2.out _).mono ?_
  rintro e w1 ⟨rfl, rfl⟩
  generalize hx : (a.natAbs : Int) = x at *
  generalize hy : (b.natAbs : Int) = y at *
  clear hx hy S1 S2
  go_wp2_with fail
  refine (M.out _).mono ?_
  rintro e w1 ⟨rfl, rfl⟩
  clear M
  go_wp2
  go_ret2
  exact ⟨rfl, rfl⟩

set_option maxHeartbeats 1000000 in
theorem Do_mul_nn_hi (a b : Int) (w : World) (a1 : -9223372036854775808 ≤ a) (a2 : a ≤ 9223372036854775807) (b1 : -9223372036854775808 ≤ b) (b2 : b ≤ 9223372036854775807) (hi lo : Nat)
    (M : Hid (∀ w, Calls Tryz.prog 143 #[.int .u64 (a.natAbs : Int), .int .u64 (b.natAbs : Int)] w fun e w' => e = .returned (.tuple #[.int .u64 (hi : Int), .int .u64 (lo : Int)]) ∧ w = w'))
    (q1 : a < 0) (q2 : b < 0) (p1 : 0 < (hi : Int)) :
    Calls Tryz.prog 98 #[.int .i64 19, .int .i64 a, .int .i64 b] w fun e w' => e = .returned (.tuple #[.int .i64 0, errV 5]) ∧ w = w' := by
  have S1 := Lib.hid (fun w => num_size a w a1 a2)
  have S2 := Lib.hid (fun w => num_size b w b1 b2)
  have hs : (!decide (a < 0) == decide (b < 0)) = false := by simp [q1, q2]
  clear a1 a2 b1 b2
  go_enter Tryz.func98, Tryz.ntmps98
  go_wp2_with fail
  refine (S1.out _).mono ?_
  rintro e w1 ⟨rfl, rfl⟩
  go_wp2_with fail
  refine (S2.out _).mono ?_
  rintro e w1 ⟨rfl, rfl⟩
  generalize hx : (a.natAbs : Int) = x at *
  generalize hy : (b.natAbs : Int) = y at *
  clear hx hy S1 S2
  go_wp2_with fail
  refine (M.out _).mono ?_
  rintro e w1 ⟨rfl, rfl⟩
  clear M
  go_wp2
  go_ret2
  exact ⟨rfl, rfl⟩

set_option maxHeartbeats 1000000 in
theorem Do_mul_nn_lo (a b : Int) (w : World) (a1 : -9223372036854775808 ≤ a) (a2 : a ≤ 9223372036854775807) (b1 : -9223372036854775808 ≤ b) (b2 : b ≤ 9223372036854775807) (hi lo : Nat)
    (M : Hid (∀ w, Calls Tryz.prog 143 #[.int .u64 (a.natAbs : Int), .int .u64 (b.natAbs : Int)] w fun e w' => e = .returned (.tuple #[.int .u64 (hi : Int), .int .u64 (lo : Int)]) ∧ w = w'))
    (q1 : a < 0) (q2 : b < 0) (p1 : ¬ 0 < (hi : Int)) (p2 : (9223372036854775807 : Int) < (lo : Int)) :
    Calls Tryz.prog 98 #[.int .i64 19, .int .i64 a, .int .i64 b] w fun e w' => e = .returned (.tuple #[.int .i64 0, errV 5]) ∧ w = w' := by
  have S1 := Lib.hid (fun w => num_size a w a1 a2)
  have S2 := Lib.hid (fun w => num_size b w b1 b2)
  have hs : (!decide (a < 0) == decide (b < 0)) = false := by simp [q1, q2]
  clear a1 a2 b1 b2
  go_enter Tryz.func98, Tryz.ntmps98
  go_wp2_with fail
  refine (S1.out _).mono ?_
  rintro e w1 ⟨rfl, rfl⟩
  go_wp2_with fail
  refine (S2.out _).mono ?_
  rintro e w1 ⟨rfl, rfl⟩
  generalize hx : (a.natAbs : Int) = x at *
  generalize hy : (b.natAbs : Int) = y at *
  clear hx hy S1 S2
  go_wp2_with fail
  refine (M.out _).mono ?_
  rintro e w1 ⟨rfl, rfl⟩
  clear M
  go_wp2
  go_ret2
  exact ⟨rfl, rfl⟩

set_option maxHeartbeats 1000000 in
theorem Do_mul_nn_fit (a b : Int) (w : World) (a1 : -9223372036854775808 ≤ a) (a2 : a ≤ 9223372036854775807) (b1 : -9223372036854775808 ≤ b) (b2 : b ≤ 9223372036854775807) (hi lo : Nat)
    (M : Hid (∀ w, Calls Tryz.prog 143 #[.int .u64 (a.natAbs : Int), .int .u64 (b.natAbs : Int)] w fun e w' => e = .returned (.tuple #[.int .u64 (hi : Int), .int .u64 (lo : Int)]) ∧ w = w'))
    (q1 : a < 0) (q2 : b < 0) (p1 : ¬ 0 < (hi : Int)) (p2 : ¬ (9223372036854775807 : Int) < (lo : Int)) :
    Calls Tryz.prog 98 #[.int .i64 19, .int .i64 a, .int .i64 b] w fun e w' => e = .returned (.tuple #[.int .i64 (wrap64 (a * b)), .nilIface]) ∧ w = w' := by
  have S1 := Lib.hid (fun w => num_size a w a1 a2)
  have S2 := Lib.hid (fun w => num_size b w b1 b2)
  have hs : (!decide (a < 0) == decide (b < 0)) = false := by simp [q1, q2]
  clear a1 a2 b1 b2
  go_enter Tryz.func98, Tryz.ntmps98
  go_wp2_with fail
  refine (S1.out _).mono ?_
  rintro e w1 ⟨rfl, rfl⟩
  go_wp2_with fail
  refine (S2.out _).mono ?_
  rintro e w1 ⟨rfl, rfl⟩
  generalize hx : (a.natAbs : Int) = x at *
  generalize hy : (b.natAbs : Int) = y at *
  clear hx hy S1 S2
  go_wp2_with fail
  refine (M.out _).mono ?_
  rintro e w1 ⟨rfl, rfl⟩
  clear M
  go_wp2
  go_ret2
  exact ⟨rfl, rfl⟩

set_option maxHeartbeats 1000000 in
theorem Do_mul_np_hi (a b : Int) (w : World) (a1 : -9223372036854775808 ≤ a) (a2 : a ≤ 9223372036854775807) (b1 : -9223372036854775808 ≤ b) (b2 : b ≤ 9223372036854775807) (hi lo : Nat)
    (M : Hid (∀ w, Calls Tryz.prog 143 #[.int .u64 (a.natAbs : Int), .int .u64 (b.natAbs : Int)] w fun e w' => e = .returned (.tuple #[.int .u64 (hi : Int), .int .u64 (lo : Int)]) ∧ w = w'))
    (q1 : a < 0) (q2 : ¬ b < 0) (p1 : 0 < (hi : Int)) :
    Calls Tryz.prog 98 #[.int .i64 19, .int .i64 a, .int .i64 b] w fun e w' => e = .returned (.tuple #[.int .i64 0, errV 5]) ∧ w = w' := by
  have S1 := Lib.hid (fun w => num_size a w a1 a2)
  have S2 := Lib.hid (fun w => num_size b w b1 b2)
  have hs : (!decide (a < 0) == decide (b < 0)) = true := by simp [q1, q2]
  have hs2 : (!decide (b < 0)) = true := by simp [q2]
  clear a1 a2 b1 b2
  go_enter Tryz.func98, Tryz.ntmps98
  go_wp2_with fail
  refine (S1.out _).mono ?_
  rintro e w1 ⟨rfl, rfl⟩
  go_wp2_with fail
  refine (S2.out _).mono ?_
  rintro e w1 ⟨rfl, rfl⟩
  generalize hx : (a.natAbs : Int) = x at *
  generalize hy : (b.natAbs : Int) = y at *
  clear hx hy S1 S2
  go_wp2_with fail
  refine (M.out _).mono ?_
  rintro e w1 ⟨rfl, rfl⟩
  clear M
  go_wp2
  go_ret2
  exact ⟨rfl, rfl⟩

set_option maxHeartbeats 1000000 in
theorem Do_mul_np_lo (a b : Int) (w : World) (a1 : -9223372036854775808 ≤ a) (a2 : a ≤ 9223372036854775807) (b1 : -9223372036854775808 ≤ b) (b2 : b ≤ 9223372036854775807) (hi lo : Nat)
    (M : Hid (∀ w, Calls Tryz.prog 143 #[.int .u64 (a.natAbs : Int), .int .u64 (b.natAbs : Int)] w fun e w' => e = .returned (.tuple #[.int .u64 (hi : Int), .int .u64 (lo : Int)]) ∧ w = w'))
    (q1 : a < 0) (q2 : ¬ b < 0) (p1 : ¬ 0 < (hi : Int)) (p2 : (9223372036854775808 : Int) < (lo : Int)) :
    Calls Tryz.prog 98 #[.int .i64 19, .int .i64 a, .int .i64 b] w fun e w' => e = .returned (.tuple #[.int .i64 0, errV 5]) ∧ w = w' := by
  have S1 := Lib.hid (fun w => num_size a w a1 a2)
  have S2 := Lib.hid (fun w => num_size b w b1 b2)
  have hs : (!decide (a < 0) == decide (b < 0)) = true := by simp [q1, q2]
  have hs2 : (!decide (b < 0)) = true := by simp [q2]
  clear a1 a2 b1 b2
  go_enter Tryz.func98, Tryz.ntmps98
  go_wp2_with fail
  refine (S1.out _).mono ?_
  rintro e w1 ⟨rfl, rfl⟩
  go_wp2_with fail
  refine (S2.out _).mono ?_
  rintro e w1 ⟨rfl, rfl⟩
  generalize hx : (a.natAbs : Int) = x at *
  generalize hy : (b.natAbs : Int) = y at *
  clear hx hy S1 S2
  go_wp2_with fail
  refine (M.out _).mono ?_
  rintro e w1 ⟨rfl, rfl⟩
  clear M
  go_wp2
  go_ret2
  exact ⟨rfl, rfl⟩

set_option maxHeartbeats 1000000 in
theorem Do_mul_np_fit (a b : Int) (w : World) (a1 : -9223372036854775808 ≤ a) (a2 : a ≤ 9223372036854775807) (b1 : -9223372036854775808 ≤ b) (b2 : b ≤ 9223372036854775807) (hi lo : Nat)
    (M : Hid (∀ w, Calls Tryz.prog 143 #[.int .u64 (a.natAbs : Int), .int .u64 (b.natAbs : Int)] w fun e w' => e = .returned (.tuple #[.int .u64 (hi : Int), .int .u64 (lo : Int)]) ∧ w = w'))
    (q1 : a < 0) (q2 : ¬ b < 0) (p1 : ¬ 0 < (hi : Int)) (p2 : ¬ (9223372036854775808 : Int) < (lo : Int)) :
    Calls Tryz.prog 98 #[.int .i64 19, .int .i64 a, .int .i64 b] w fun e w' => e = .returned (.tuple #[.int .i64 (wrap64 (a * b)), .nilIface]) ∧ w = w' := by
  have S1 := Lib.hid (fun w => num_size a w a1 a2)
  have S2 := Lib.hid (fun w => num_size b w b1 b2)
  have hs : (!decide (a < 0) == decide (b < 0)) = true := by simp [q1, q2]
  have hs2 : (!decide (b < 0)) = true := by simp [q2]
  clear a1 a2 b1 b2
  go_enter Tryz.func98, Tryz.ntmps98
  go_wp2_with fail
  refine (S1.out _).mono ?_
  rintro e w1 ⟨rfl, rfl⟩
  go_wp2_with fail
  refine (S2.out _).mono ?_
  rintro e w1 ⟨rfl, rfl⟩
  generalize hx : (a.natAbs : Int) = x at *
  generalize hy : (b.natAbs : Int) = y at *
  clear hx hy S1 S2
  go_wp2_with fail
  refine (M.out _).mono ?_
  rintro e w1 ⟨rfl, rfl⟩
  clear M
  go_wp2
  go_ret2
  exact ⟨rfl, rfl⟩

set_option maxHeartbeats 1000000 in
theorem Do_mul_pn_hi (a b : Int) (w : World) (a1 : -9223372036854775808 ≤ a) (a2 : a ≤ 9223372036854775807) (b1 : -9223372036854775808 ≤ b) (b2 : b ≤ 9223372036854775807) (hi lo : Nat)
    (M : Hid (∀ w, Calls Tryz.prog 143 #[.int .u64 (a.natAbs : Int), .int .u64 (b.natAbs : Int)] w fun e w' => e = .returned (.tuple #[.int .u64 (hi : Int), .int .u64 (lo : Int)]) ∧ w = w'))
    (q1 : ¬ a < 0) (q2 : b < 0) (p1 : 0 < (hi : Int)) :
    Calls Tryz.prog 98 #[.int .i64 19, .int .i64 a, .int .i64 b] w fun e w' => e = .returned (.tuple #[.int .i64 0, errV 5]) ∧ w = w' := by
  have S1 := Lib.hid (fun w => num_size a w a1 a2)
  have S2 := Lib.hid (fun w => num_size b w b1 b2)
  have hs : (!decide (a < 0) == decide (b < 0)) = true := by simp [q1, q2]
  have hs2 : (!decide (a < 0)) = true := by simp [q1]
  clear a1 a2 b1 b2
  go_enter Tryz.func98, Tryz.ntmps98
  go_wp2_with fail
  refine (S1.out _).mono ?_
  rintro e w1 ⟨rfl, rfl⟩
  go_wp2_with fail
  refine (S2.out _).mono ?_
  rintro e w1 ⟨rfl, rfl⟩
  generalize hx : (a.natAbs : Int) = x at *
  generalize hy : (b.natAbs : Int) = y at *
  clear hx hy S1 S2
  go_wp2_with fail
  refine (M.out _).mono ?_
  rintro e w1 ⟨rfl, rfl⟩
  clear M
  go_wp2
  go_ret2
  exact ⟨rfl, rfl⟩

set_option maxHeartbeats 1000000 in
theorem Do_mul_pn_lo (a b : Int) (w : World) (a1 : -9223372036854775808 ≤ a) (a2 : a ≤ 9223372036854775807) (b1 : -9223372036854775808 ≤ b) (b2 : b ≤ 9223372036854775807) (hi lo : Nat)
    (M : Hid (∀ w, Calls Tryz.prog 143 #[.int .u64 (a.natAbs : Int), .int .u64 (b.natAbs : Int)] w fun e w' => e = .returned (.tuple #[.int .u64 (hi : Int), .int .u64 (lo : Int)]) ∧ w = w'))
    (q1 : ¬ a < 0) (q2 : b < 0) (p1 : ¬ 0 < (hi : Int)) (p2 : (9223372036854775808 : Int) < (lo : Int)) :
    Calls Tryz.prog 98 #[.int .i64 19, .int .i64 a, .int .i64 b] w fun e w' => e = .returned (.tuple #[.int .i64 0, errV 5]) ∧ w = w' := by
  have S1 := Lib.hid (fun w => num_size a w a1 a2)
  have S2 := Lib.hid (fun w => num_size b w b1 b2)
  have hs : (!decide (a < 0) == decide (b < 0)) = true := by simp [q1, q2]
  have hs2 : (!decide (a < 0)) = true := by simp [q1]
  clear a1 a2 b1 b2
  go_enter Tryz.func98, Tryz.ntmps98
  go_wp2_with fail
  refine (S1.out _).mono ?_
  rintro e w1 ⟨rfl, rfl⟩
  go_wp2_with fail
  refine (S2.out _).mono ?_
  rintro e w1 ⟨rfl, rfl⟩
  generalize hx : (a.natAbs : Int) = x at *
  generalize hy : (b.natAbs : Int) = y at *
  clear hx hy S1 S2
  go_wp2_with fail
  refine (M.out _).mono ?_
  rintro e w1 ⟨rfl, rfl⟩
  clear M
  go_wp2
  go_ret2
  exact ⟨rfl, rfl⟩

set_option maxHeartbeats 1000000 in
theorem Do_mul_pn_fit (a b : Int) (w : World) (a1 : -9223372036854775808 ≤ a) (a2 : a ≤ 9223372036854775807) (b1 : -9223372036854775808 ≤ b) (b2 : b ≤ 9223372036854775807) (hi lo : Nat)
    (M : Hid (∀ w, Calls Tryz.prog 143 #[.int .u64 (a.natAbs : Int), .int .u64 (b.natAbs : Int)] w fun e w' => e = .returned (.tuple #[.int .u64 (hi : Int), .int .u64 (lo : Int)]) ∧ w = w'))
    (q1 : ¬ a < 0) (q2 : b < 0) (p1 : ¬ 0 < (hi : Int)) (p2 : ¬ (9223372036854775808 : Int) < (lo : Int)) :
    Calls Tryz.prog 98 #[.int .i64 19, .int .i64 a, .int .i64 b] w fun e w' => e = .returned (.tuple #[.int .i64 (wrap64 (a * b)), .nilIface]) ∧ w = w' := by
  have S1 := Lib.hid (fun w => num_size a w a1 a2)
  have S2 := Lib.hid (fun w => num_size b w b1 b2)
  have hs : (!decide (a < 0) == decide (b < 0)) = true := by simp [q1, q2]
  have hs2 : (!decide (a < 0)) = true := by simp [q1]
  clear a1 a2 b1 b2
  go_enter Tryz.func98, Tryz.ntmps98
  go_wp2_with fail
  refine (S1.out _).mono ?_
  rintro e w1 ⟨rfl, rfl⟩
  go_wp2_with fail
  refine (S2.out _).mono ?_
  rintro e w1 ⟨rfl, rfl⟩
  generalize hx : (a.natAbs : Int) = x at *
  generalize hy : (b.natAbs : Int) = y at *
  clear hx hy S1 S2
  go_wp2_with fail
  refine (M.out _).mono ?_
  rintro e w1 ⟨rfl, rfl⟩
  clear M
  go_wp2
  go_ret2
  exact ⟨rfl, rfl⟩

theorem Do_mul (a b : Int) (w : World) (ha : I64 a) (hb : I64 b) :
    Calls Tryz.prog 98 #[.int .i64 19, .int .i64 a, .int .i64 b] w fun e w' => e = .returned (.tuple #[.int .i64 (if fits (a * b) then a * b else 0), errV (if fits (a * b) then 0 else 5)]) ∧ w = w' := by
  obtain ⟨a1, a2⟩ := ha
  obtain ⟨b1, b2⟩ := hb
  have M : Hid (∀ w, _) := Lib.hid (fun w => bits_Mul64 a.natAbs b.natAbs w (by omega) (by omega))
  have T0 := fun d hd => mul_fits (a := a) (b := b) d hd
  have W := fun h : fits (a * b) = true => wrap_fits h
  generalize mulHi a.natAbs b.natAbs = hi at *
  generalize mulLo a.natAbs b.natAbs = lo at *
  by_cases q1 : a < 0
  · by_cases q2 : b < 0
    · skip
      have T := T0 0 (by rw [if_pos ⟨fun _ => q2, fun _ => q1⟩])
      by_cases p1 : 0 < (hi : Int)
      · have hf : fits (a * b) = false := by
          rw [Bool.eq_false_iff]; intro q; have := (T.1 q).1; omega
        rw [hf]
        exact Do_mul_nn_hi a b w a1 a2 b1 b2 hi lo M q1 q2 p1
      · by_cases p2 : (9223372036854775807 : Int) < (lo : Int)
        · have hf : fits (a * b) = false := by
            rw [Bool.eq_false_iff]; intro q; have := (T.1 q).2; omega
          rw [hf]
          exact Do_mul_nn_lo a b w a1 a2 b1 b2 hi lo M q1 q2 p1 p2
        · have hf : fits (a * b) = true := T.2 ⟨by omega, by omega⟩
          have h := Do_mul_nn_fit a b w a1 a2 b1 b2 hi lo M q1 q2 p1 p2
          rw [W hf] at h
          rw [hf]
          exact h
    · skip
      have T := T0 1 (by rw [if_neg (fun q => q2 (q.1 q1))])
      by_cases p1 : 0 < (hi : Int)
      · have hf : fits (a * b) = false := by
          rw [Bool.eq_false_iff]; intro q; have := (T.1 q).1; omega
        rw [hf]
        exact Do_mul_np_hi a b w a1 a2 b1 b2 hi lo M q1 q2 p1
      · by_cases p2 : (9223372036854775808 : Int) < (lo : Int)
        · have hf : fits (a * b) = false := by
            rw [Bool.eq_false_iff]; intro q; have := (T.1 q).2; omega
          rw [hf]
          exact Do_mul_np_lo a b w a1 a2 b1 b2 hi lo M q1 q2 p1 p2
        · have hf : fits (a * b) = true := T.2 ⟨by omega, by omega⟩
          have h := Do_mul_np_fit a b w a1 a2 b1 b2 hi lo M q1 q2 p1 p2
          rw [W hf] at h
          rw [hf]
          exact h
  · by_cases q2 : b < 0
    · skip
      have T := T0 1 (by rw [if_neg (fun q => q1 (q.2 q2))])
      by_cases p1 : 0 < (hi : Int)
      · have hf : fits (a * b) = false := by
          rw [Bool.eq_false_iff]; intro q; have := (T.1 q).1; omega
        rw [hf]
        exact Do_mul_pn_hi a b w a1 a2 b1 b2 hi lo M q1 q2 p1
      · by_cases p2 : (9223372036854775808 : Int) < (lo : Int)
        · have hf : fits (a * b) = false := by
            rw [Bool.eq_false_iff]; intro q; have := (T.1 q).2; omega
          rw [hf]
          exact Do_mul_pn_lo a b w a1 a2 b1 b2 hi lo M q1 q2 p1 p2
        · have hf : fits (a * b) = true := T.2 ⟨by omega, by omega⟩
          have h := Do_mul_pn_fit a b w a1 a2 b1 b2 hi lo M q1 q2 p1 p2
          rw [W hf] at h
          rw [hf]
          exact h
    · skip
      have T := T0 0 (by rw [if_pos ⟨fun q => absurd q q1, fun q => absurd q q2⟩])
      by_cases p1 : 0 < (hi : Int)
      · have hf : fits (a * b) = false := by
          rw [Bool.eq_false_iff]; intro q; have := (T.1 q).1; omega
        rw [hf]
        exact Do_mul_pp_hi a b w a1 a2 b1 b2 hi lo M q1 q2 p1
      · by_cases p2 : (9223372036854775807 : Int) < (lo : Int)
        · have hf : fits (a * b) = false := by
            rw [Bool.eq_false_iff]; intro q; have := (T.1 q).2; omega
          rw [hf]
          exact Do_mul_pp_lo a b w a1 a2 b1 b2 hi lo M q1 q2 p1 p2
        · have hf : fits (a * b) = true := T.2 ⟨by omega, by omega⟩
          have h := Do_mul_pp_fit a b w a1 a2 b1 b2 hi lo M q1 q2 p1 p2
          rw [W hf] at h
          rw [hf]
          exact h

theorem num_Do (op a b : Int) (w : World) (ha : I64 a) (hb : I64 b) :
    Calls Tryz.prog 98 #[.int .i64 op, .int .i64 a, .int .i64 b] w fun e w' => e = .returned (.tuple #[.int .i64 (numV op a b), errV (numE op a b)]) ∧ w = w' := by
  by_cases h1 : op = 17
  · subst h1
    rcases hf : fits (a + b) with _ | _
    · have := Do_add_over a b w ha hb hf
      simpa [numV, numE, numR, hf] using this
    · have := Do_add_fit a b w ha hb hf
      simpa [numV, numE, numR, hf, errV_zero] using this
  · by_cases h2 : op = 18
    · subst h2
      rcases hf : fits (a - b) with _ | _
      · have := Do_sub_over a b w ha hb hf
        simpa [numV, numE, numR, hf] using this
      · have := Do_sub_fit a b w ha hb hf
        simpa [numV, numE, numR, hf, errV_zero] using this
    · by_cases h3 : op = 19
      · subst h3
        have := Do_mul a b w ha hb
        simpa [numV, numE, numR] using this
      · have := Do_else op a b w h1 h2 h3
        simpa [numV, numE, h1, h2, h3] using this
theorem num_Neg (a : Int) (w : World) (ha : I64 a) :
    Calls Tryz.prog 87 #[.int .i64 a] w fun e w' => e = .returned (.tuple #[.int .i64 (numV 18 0 a), errV (numE 18 0 a)]) ∧ w = w' := by
  have C := Lib.hid (fun w => num_Do 18 0 a w (by unfold I64; omega) ha)
  go_enter Tryz.func87, Tryz.ntmps87
  go_wp2_with fail
  refine (C.out _).mono ?_
  rintro e w1 ⟨rfl, rfl⟩
  go_wp2
  go_ret2
  exact ⟨rfl, rfl⟩
end Go.Proofs.YtcdpoamiejompaaGreatDoor
namespace Go.Proofs.YtcdpoamiejompaaGreatDoor
open Go.RowKit Go.Wk Go.Sort
set_option maxRecDepth 100000

theorem nd4_new (w : World) (x : Nd) (t : TypeId) : Nd4 (w.alloc (.cells #[.int .i64 x.op, .int .i64 x.n, .string x.s, .string x.t] t)) ⟨w.heap.size, 0, none⟩ x := ⟨cell_row (heap_alloc_last w _) rfl, cell_row (heap_alloc_last w _) rfl, cell_row (heap_alloc_last w _) rfl, cell_row (heap_alloc_last w _) rfl⟩
set_option maxHeartbeats 4000000 in
theorem single_not {W w : World} {R : Nat} {k : Cx} {p : Int} (h : EvAt W w R k p) (x : Nd) (hx : x.op = 9) (A : Option Addr) (n c : Nat) (V : List Nd) (hv : Ns w A n c V) (h0 : 0 < V.length) :
    Calls Tryz.prog 55 #[.pointer (some ⟨R, 0, none⟩), ndV x, .slice A n c] w (TellPost w (oneX k.E x V)) := by
  have KM := Lib.hid (fun w' hb => eval_must A n c V 1 w' (hv.keep (w' := w') hb) h0)
  have B0 := Lib.hid (below_box w (.cells #[.int .i64 9, .int .i64 x.n, .string x.s, .string x.t] 42))
  obtain ⟨a, rfl, hn1, D, hok, -⟩ := ns_hd hv h0
  have hn : (0 : Int) < (n : Int) := by omega
  have HD := Lib.hid D
  have HDR := Lib.hid h.cx.door
  unfold ndV
  by_cases g : headOp V = 1
  · have HR := Lib.hid (show oneX k.E x V = .ok (truthN (decide ((hdN V).n = 0))) by unfold oneX; rw [if_pos hx, if_pos g])
    simp only [if_pos g] at KM
    rw [HR.out, hx]
    generalize hdN V = y at *
    clear hv h0 D g hx h
    go_enter Tryz.func55, Tryz.ntmps55
    go_wp2_with fail
    refine (KM.out _ B0.out).mono ?_
    rintro e w1 ⟨rfl, b1⟩
    have B1 := bh B0 b1
    obtain ⟨-, d1, -, -⟩ := HD.out.keep B1.out
    clear b1 B0 KM
    go_wp2_with fail
    refine (eval_truth (y.n == 0) w1).mono ?_
    rintro e w2 hp
    have HP := Lib.hid (hp.up B1.out)
    obtain ⟨-, A2, n2, c2, rfl, -, -⟩ := hp
    go_wp2_with fail
    go_ret
    exact HP.out
  · have HR := Lib.hid (show oneX k.E x V = .error 2 by unfold oneX; rw [if_pos hx]; rw [if_neg g])
    simp only [if_neg g] at KM
    rw [HR.out, hx]
    clear hv h0 D g hx h
    go_enter Tryz.func55, Tryz.ntmps55
    go_wp2_with fail
    refine (KM.out _ B0.out).mono ?_
    rintro e w1 ⟨rfl, b1⟩
    have B1 := bh B0 b1
    clear b1 B0 KM
    go_wp2_with fail
    exact ⟨rfl, tell_bad B1.out⟩
set_option maxHeartbeats 4000000 in
theorem single_neg {W w : World} {R : Nat} {k : Cx} {p : Int} (h : EvAt W w R k p) (x : Nd) (hx : x.op = 10) (A : Option Addr) (n c : Nat) (V : List Nd) (hv : Ns w A n c V) (h0 : 0 < V.length) :
    Calls Tryz.prog 55 #[.pointer (some ⟨R, 0, none⟩), ndV x, .slice A n c] w (TellPost w (oneX k.E x V)) := by
  have KM := Lib.hid (fun w' hb => eval_must A n c V 2 w' (hv.keep (w' := w') hb) h0)
  have B0 := Lib.hid (below_box w (.cells #[.int .i64 10, .int .i64 x.n, .string x.s, .string x.t] 42))
  obtain ⟨a, rfl, hn1, D, hok, -⟩ := ns_hd hv h0
  have hn : (0 : Int) < (n : Int) := by omega
  have HD := Lib.hid D
  have HDR := Lib.hid h.cx.door
  unfold ndV
  by_cases g : headOp V = 2
  · have HR := Lib.hid (show oneX k.E x V = tellV (numE 18 0 (hdN V).n) (intN (numV 18 0 (hdN V).n)) by unfold oneX; rw [if_neg (by omega), if_pos hx, if_pos g])
    simp only [if_pos g] at KM
    rw [HR.out, hx]
    generalize hdN V = y at *
    have HI : Hid (I64 y.n) := Lib.hid ⟨hok.lo, hok.hi⟩
    have KN := Lib.hid (fun w => num_Neg y.n w HI.out)
    have HVI := Lib.hid (numV_i64 18 0 y.n)
    clear hv h0 D g hx h hok
    by_cases z : numE 18 0 y.n = 0
    · have KT := Lib.hid (fun w' (hb : Below w.heap.size w w') => toldInt_nil (.int .i64 (numV 18 0 y.n)) w')
      have HT := Lib.hid (show tellV (numE 18 0 y.n) (intN (numV 18 0 y.n)) = .ok (intN (numV 18 0 y.n)) by unfold tellV; rw [if_pos z])
      rw [HT.out]
      rw [z, errV_zero] at KN
      generalize numV 18 0 y.n = r at *
      go_enter Tryz.func55, Tryz.ntmps55
      go_wp2_with fail
      refine (KM.out _ B0.out).mono ?_
      rintro e w1 ⟨rfl, b1⟩
      have B1 := bh B0 b1
      obtain ⟨-, d1, -, -⟩ := HD.out.keep B1.out
      clear b1 B0 KM
      go_wp2_with fail
      refine (KN.out _).mono ?_
      rintro e w2 ⟨rfl, rfl⟩
      go_wp2_with fail
      refine (KT.out _ B1.out).mono ?_
      rintro e w2 ⟨rfl, b2⟩
      have B2 := bh B1 b2
      clear b2 B1 KT
      go_wp2_with fail
      go_ret
      exact (lit_tell w2 ⟨2, r, emp, emp⟩ (nd_plain _ _ HVI.out)).up B2.out
    · have KT := Lib.hid (fun w' (hb : Below w.heap.size w w') => toldInt_err (.int .i64 (numV 18 0 y.n)) (numE 18 0 y.n) w' (HDR.out.keep hb))
      have HT := Lib.hid (show tellV (numE 18 0 y.n) (intN (numV 18 0 y.n)) = .error (numE 18 0 y.n) by unfold tellV; rw [if_neg z])
      rw [HT.out]
      rw [errV_ne z] at KN
      generalize numV 18 0 y.n = r at *
      generalize numE 18 0 y.n = u at *
      go_enter Tryz.func55, Tryz.ntmps55
      go_wp2_with fail
      refine (KM.out _ B0.out).mono ?_
      rintro e w1 ⟨rfl, b1⟩
      have B1 := bh B0 b1
      obtain ⟨-, d1, -, -⟩ := HD.out.keep B1.out
      clear b1 B0 KM
      go_wp2_with fail
      refine (KN.out _).mono ?_
      rintro e w2 ⟨rfl, rfl⟩
      go_wp2_with fail
      refine (KT.out _ B1.out).mono ?_
      rintro e w2 ⟨rfl, b2⟩
      have B2 := bh B1 b2
      clear b2 B1 KT
      go_wp2_with fail
      exact ⟨rfl, tell_bad B2.out⟩
  · have HR := Lib.hid (show oneX k.E x V = .error 2 by unfold oneX; rw [if_neg (by omega), if_pos hx]; rw [if_neg g])
    simp only [if_neg g] at KM
    rw [HR.out, hx]
    clear hv h0 D g hx h
    go_enter Tryz.func55, Tryz.ntmps55
    go_wp2_with fail
    refine (KM.out _ B0.out).mono ?_
    rintro e w1 ⟨rfl, b1⟩
    have B1 := bh B0 b1
    clear b1 B0 KM
    go_wp2_with fail
    exact ⟨rfl, tell_bad B1.out⟩
set_option maxHeartbeats 4000000 in
theorem single_has {W w : World} {R : Nat} {k : Cx} {p : Int} (h : EvAt W w R k p) (x : Nd) (hx : x.op = 21) (A : Option Addr) (n c : Nat) (V : List Nd) (hv : Ns w A n c V) (h0 : 0 < V.length) :
    Calls Tryz.prog 55 #[.pointer (some ⟨R, 0, none⟩), ndV x, .slice A n c] w (TellPost w (oneX k.E x V)) := by
  have B0 := Lib.hid (below_box w (.cells #[.int .i64 21, .int .i64 x.n, .string x.s, .string x.t] 42))
  have X0 := Lib.hid (nd4_new w ⟨21, x.n, x.s, x.t⟩ 42)
  have KR := Lib.hid (fun w' hb => eval_record (h.keep (w' := w') hb) A n c V (hv.keep hb) h0)
  have HDR := Lib.hid h.cx.door
  have hnilS := fun (a : Addr) (n c : Nat) (w : World) => Lib.run_eql_slice_nil (P := Tryz.prog) w 66 42 (some a) n c 0 0 Tryz.underlying66
  have hnilN := fun (w : World) => Lib.run_eql_slice_nil (P := Tryz.prog) w 66 42 none 0 0 0 0 Tryz.underlying66
  simp only [Option.isNone_some, Option.isNone_none] at hnilS hnilN
  have HX := Lib.hid (show oneX k.E x V = (match recX k.E V with
    | .error e => .error e
    | .ok none => .ok (truthN false)
    | .ok (some r) => .ok (truthN (decide (getE r x.s = 0)))) by unfold oneX; rw [if_neg (by omega), if_neg (by omega), if_neg (by omega), if_neg (by omega)]; rcases recX k.E V with e | (_ | r) <;> simp [hx])
  rw [HX.out]
  unfold ndV
  rw [hx]
  rcases hrx : recX k.E V with u | (_ | r)
  · simp only [hrx] at KR
    clear hrx
    simp only
    clear hv h0 hx h HX
    go_enter Tryz.func55, Tryz.ntmps55
    go_wp2_with fail
    refine (KR.out _ B0.out).mono ?_
    rintro e w1 ⟨b1, rfl⟩
    have B1 := bh B0 b1
    clear b1 B0 KR
    go_wp2_with fail
    exact ⟨rfl, tell_bad B1.out⟩
  · simp only [hrx] at KR
    clear hrx
    simp only
    clear hv h0 hx h HX
    go_enter Tryz.func55, Tryz.ntmps55
    go_wp2_with fail
    refine (KR.out _ B0.out).mono ?_
    rintro e w1 ⟨b1, rfl⟩
    have B1 := bh B0 b1
    obtain ⟨x0, -, x2, -⟩ := X0.out.keep b1
    clear b1 B0 KR X0
    go_wp2_with fail
    refine (eval_truth false w1).mono ?_
    rintro e w2 hp
    have HP := Lib.hid (hp.up B1.out)
    obtain ⟨-, A2, n2, c2, rfl, -, -⟩ := hp
    go_wp2_with fail
    go_ret
    exact HP.out
  · simp only [hrx] at KR
    clear hrx
    simp only
    clear hv h0 hx h HX
    by_cases z : getE r x.s = 0
    · go_enter Tryz.func55, Tryz.ntmps55
      go_wp2_with fail
      refine (KR.out _ B0.out).mono ?_
      rintro e w1 ⟨b1, a1, n1, c1, rfl, hN⟩
      have B1 := bh B0 b1
      obtain ⟨x0, -, x2, -⟩ := X0.out.keep b1
      have G := Lib.hid (val_Get (some a1) n1 c1 r x.s w1 hN)
      unfold GetPost at G
      rw [z, errV_zero] at G
      clear b1 B0 KR hN X0
      go_wp2_with fail
      refine G.out.mono ?_
      rintro e w2 ⟨A2, n2, c2, rfl, hN2, hF2, b2⟩
      have B2 := bh B1 b2
      have HN2 := Lib.hid hN2
      have HF2 := Lib.hid (fun a e => Nat.le_trans B1.out.size (hF2 a e))
      clear b2 B1 G hN2 hF2
      go_wp2_with fail
      refine (eval_truth true w2).mono ?_
      rintro e w3 hp
      have HP := Lib.hid (hp.up B2.out)
      obtain ⟨-, A3, n3, c3, rfl, -, -⟩ := hp
      go_wp2_with fail
      go_ret
      rw [decide_eq_true z]
      exact HP.out
    · have HEV := Lib.hid (errV_ne z)
      go_enter Tryz.func55, Tryz.ntmps55
      go_wp2_with fail
      refine (KR.out _ B0.out).mono ?_
      rintro e w1 ⟨b1, a1, n1, c1, rfl, hN⟩
      have B1 := bh B0 b1
      obtain ⟨x0, -, x2, -⟩ := X0.out.keep b1
      have G := Lib.hid (val_Get (some a1) n1 c1 r x.s w1 hN)
      unfold GetPost at G
      rw [HEV.out] at G
      clear b1 B0 KR hN X0
      go_wp2_with fail
      refine G.out.mono ?_
      rintro e w2 ⟨A2, n2, c2, rfl, -, -, b2⟩
      have B2 := bh B1 b2
      clear b2 B1 G
      go_wp2_with fail
      refine (eval_truth false w2).mono ?_
      rintro e w3 hp
      have HP := Lib.hid (hp.up B2.out)
      obtain ⟨-, A3, n3, c3, rfl, -, -⟩ := hp
      go_wp2_with fail
      go_ret
      rw [decide_eq_false z]
      exact HP.out
set_option maxHeartbeats 4000000 in
theorem single_get {W w : World} {R : Nat} {k : Cx} {p : Int} (h : EvAt W w R k p) (x : Nd) (hx : x.op = 22) (A : Option Addr) (n c : Nat) (V : List Nd) (hv : Ns w A n c V) (h0 : 0 < V.length) :
    Calls Tryz.prog 55 #[.pointer (some ⟨R, 0, none⟩), ndV x, .slice A n c] w (TellPost w (oneX k.E x V)) := by
  have B0 := Lib.hid (below_box w (.cells #[.int .i64 22, .int .i64 x.n, .string x.s, .string x.t] 42))
  have X0 := Lib.hid (nd4_new w ⟨22, x.n, x.s, x.t⟩ 42)
  have KR := Lib.hid (fun w' hb => eval_record (h.keep (w' := w') hb) A n c V (hv.keep hb) h0)
  have HDR := Lib.hid h.cx.door
  have hnilS := fun (a : Addr) (n c : Nat) (w : World) => Lib.run_eql_slice_nil (P := Tryz.prog) w 66 42 (some a) n c 0 0 Tryz.underlying66
  have hnilN := fun (w : World) => Lib.run_eql_slice_nil (P := Tryz.prog) w 66 42 none 0 0 0 0 Tryz.underlying66
  simp only [Option.isNone_some, Option.isNone_none] at hnilS hnilN
  have HX := Lib.hid (show oneX k.E x V = (match recX k.E V with
    | .error e => .error e
    | .ok none => .error 8
    | .ok (some r) => tellV (getE r x.s) (getV r x.s)) by unfold oneX; rw [if_neg (by omega), if_neg (by omega), if_neg (by omega), if_neg (by omega)]; rcases recX k.E V with e | (_ | r) <;> simp [hx])
  rw [HX.out]
  unfold ndV
  rw [hx]
  rcases hrx : recX k.E V with u | (_ | r)
  · simp only [hrx] at KR
    clear hrx
    simp only
    clear hv h0 hx h HX
    go_enter Tryz.func55, Tryz.ntmps55
    go_wp2_with fail
    refine (KR.out _ B0.out).mono ?_
    rintro e w1 ⟨b1, rfl⟩
    have B1 := bh B0 b1
    clear b1 B0 KR
    go_wp2_with fail
    exact ⟨rfl, tell_bad B1.out⟩
  · simp only [hrx] at KR
    clear hrx
    simp only
    clear hv h0 hx h HX
    go_enter Tryz.func55, Tryz.ntmps55
    go_wp2_with fail
    refine (KR.out _ B0.out).mono ?_
    rintro e w1 ⟨b1, rfl⟩
    have B1 := bh B0 b1
    obtain ⟨x0, -, x2, -⟩ := X0.out.keep b1
    clear b1 B0 KR X0
    go_wp2_with fail
    exact ⟨rfl, tell_bad B1.out⟩
  · simp only [hrx] at KR
    clear hrx
    simp only
    clear hv h0 hx h HX
    by_cases z : getE r x.s = 0
    · go_enter Tryz.func55, Tryz.ntmps55
      go_wp2_with fail
      refine (KR.out _ B0.out).mono ?_
      rintro e w1 ⟨b1, a1, n1, c1, rfl, hN⟩
      have B1 := bh B0 b1
      obtain ⟨x0, -, x2, -⟩ := X0.out.keep b1
      have G := Lib.hid (val_Get (some a1) n1 c1 r x.s w1 hN)
      unfold GetPost at G
      rw [z, errV_zero] at G
      clear b1 B0 KR hN X0
      go_wp2_with fail
      refine G.out.mono ?_
      rintro e w2 ⟨A2, n2, c2, rfl, hN2, hF2, b2⟩
      have B2 := bh B1 b2
      have HN2 := Lib.hid hN2
      have HF2 := Lib.hid (fun a e => Nat.le_trans B1.out.size (hF2 a e))
      clear b2 B1 G hN2 hF2
      go_wp2_with fail
      refine (toldNds_nil (.slice A2 n2 c2) w2).mono ?_
      rintro e w3 ⟨rfl, b3⟩
      have B3 := bh B2 b3
      have HN3 := Lib.hid (HN2.out.keep b3)
      clear b3 B2 HN2
      go_wp2_with fail
      go_ret
      unfold tellV
      rw [if_pos z]
      exact ⟨B3.out, A2, n2, c2, rfl, HN3.out, HF2.out⟩
    · have HEV := Lib.hid (errV_ne z)
      go_enter Tryz.func55, Tryz.ntmps55
      go_wp2_with fail
      refine (KR.out _ B0.out).mono ?_
      rintro e w1 ⟨b1, a1, n1, c1, rfl, hN⟩
      have B1 := bh B0 b1
      obtain ⟨x0, -, x2, -⟩ := X0.out.keep b1
      have G := Lib.hid (val_Get (some a1) n1 c1 r x.s w1 hN)
      unfold GetPost at G
      rw [HEV.out] at G
      clear b1 B0 KR hN X0
      go_wp2_with fail
      refine G.out.mono ?_
      rintro e w2 ⟨A2, n2, c2, rfl, -, -, b2⟩
      have B2 := bh B1 b2
      clear b2 B1 G
      go_wp2_with fail
      refine (toldNds_err (.slice A2 n2 c2) _ w2 (HDR.out.keep B2.out)).mono ?_
      rintro e w3 ⟨rfl, b3⟩
      have B3 := bh B2 b3
      clear b3 B2
      go_wp2_with fail
      unfold tellV
      rw [if_neg z]
      exact ⟨rfl, tell_bad B3.out⟩
set_option maxHeartbeats 4000000 in
theorem single_is {W w : World} {R : Nat} {k : Cx} {p : Int} (_h : EvAt W w R k p) (x : Nd) (hx : x.op = 24) (A : Option Addr) (n c : Nat) (V : List Nd) (hv : Ns w A n c V) (h0 : 0 < V.length) :
    Calls Tryz.prog 55 #[.pointer (some ⟨R, 0, none⟩), ndV x, .slice A n c] w (TellPost w (oneX k.E x V)) := by
  have HXO := Lib.hid (show oneX k.E x V = if headOp V = 4 then .ok (truthN (decide ((hdN V).s = x.s))) else .error 2 by unfold oneX; rw [if_neg (by omega), if_neg (by omega), if_neg (by omega), if_pos hx])
  have B0 := Lib.hid (below_box w (.cells #[.int .i64 24, .int .i64 x.n, .string x.s, .string x.t] 42))
  have X0 := Lib.hid (nd4_new w ⟨24, x.n, x.s, x.t⟩ 42)
  obtain ⟨a, rfl, hn1, D, hok, -⟩ := ns_hd hv h0
  have hn : (0 : Int) < (n : Int) := by omega
  have hn0 : 0 < n := hn1
  have HD := Lib.hid D
  rw [HXO.out]
  unfold ndV
  rw [hx]
  obtain ⟨w0, hw0⟩ : ∃ w0, w.alloc (.cells #[.int .i64 24, .int .i64 x.n, .string x.s, .string x.t] 42) = w0 := ⟨_, rfl⟩
  rw [hw0] at B0 X0
  obtain ⟨x0, x1, x2, x3⟩ := X0.out
  have k0 := cell_regrown x2
  by_cases g : headOp V = 4
  · rw [if_pos g]
    have KM := Lib.hid (fun w' hb => by have := eval_must (some a) n c V 4 w' (hv.keep (B0.out.trans (Below.mono (w' := w') hb B0.out.size))) h0; rwa [if_pos g] at this)
    have y2 := (HD.out.keep B0.out).c2
    generalize hdN V = y at *
    clear hv h0 D g hx hok HXO
    by_cases z : y.s = x.s
    · have f1 : (y.s.toList == x.s.toList) = true := by rw [z]; exact beq_self_eq_true _
      rw [decide_eq_true z]
      clear z
      go_enter Tryz.func55, Tryz.ntmps55
      go_wp2_with fail
      go_region_held3 (fun w' : World => w'.cell? ⟨w.heap.size, 2, none⟩ = some (.string x.s) ∧ w'.cell? ⟨a.block, a.off + 2, none⟩ = some (.string y.s)) (first | exact ⟨x2, y2⟩ | exact ⟨s0, s1⟩ | exact ⟨t0, t1⟩) (first
        | (go_at_call 82; refine (KM.out _ (below_drew w0)).mono ?_; rintro e w1 ⟨rfl, b1⟩; have s0 := cell_keep b1 x2; have s1 := cell_keep b1 y2; have B1 := Lib.hid (B0.out.trans (((below_drew w0).trans b1).mono B0.out.size)))
        | (go_at_call 85; refine (eval_truth _ _).mono ?_; rintro e w2 hp; have HP := Lib.hid (hp.up B1.out); obtain ⟨b2, A2, n2, c2, rfl, -, -⟩ := hp; have t0 := cell_keep b2 s0; have t1 := cell_keep b2 s1))
      go_wp2_with fail
      go_ret
      exact HP.out
    · have f1 : (y.s.toList == x.s.toList) = false := beq_eq_false_iff_ne.2 fun q => z (toList_inj q)
      rw [decide_eq_false z]
      clear z
      go_enter Tryz.func55, Tryz.ntmps55
      go_wp2_with fail
      go_region_held3 (fun w' : World => w'.cell? ⟨w.heap.size, 2, none⟩ = some (.string x.s) ∧ w'.cell? ⟨a.block, a.off + 2, none⟩ = some (.string y.s)) (first | exact ⟨x2, y2⟩ | exact ⟨s0, s1⟩ | exact ⟨t0, t1⟩) (first
        | (go_at_call 82; refine (KM.out _ (below_drew w0)).mono ?_; rintro e w1 ⟨rfl, b1⟩; have s0 := cell_keep b1 x2; have s1 := cell_keep b1 y2; have B1 := Lib.hid (B0.out.trans (((below_drew w0).trans b1).mono B0.out.size)))
        | (go_at_call 85; refine (eval_truth _ _).mono ?_; rintro e w2 hp; have HP := Lib.hid (hp.up B1.out); obtain ⟨b2, A2, n2, c2, rfl, -, -⟩ := hp; have t0 := cell_keep b2 s0; have t1 := cell_keep b2 s1))
      go_wp2_with fail
      go_ret
      exact HP.out
  · rw [if_neg g]
    have KM := Lib.hid (fun d os => eval_must (some a) n c V 4 (grow (redrawn w0 d) os) (hv.keep (B0.out.trans ((below_regrown w0 d os).mono B0.out.size))) h0)
    simp only [if_neg g] at KM
    clear hv h0 D g hx hok HXO 
    go_enter Tryz.func55, Tryz.ntmps55
    go_wp2_with fail
    refine wp_region_throw (l := [_, _, _]) [0, 5, 6] [1] (by kernel_rfl) (by decide) (by kernel_rfl) rfl (fun w' => ∃ p : Regrown, w' = grow (redrawn w0 p.d) p.os) (fun ch w' => ch = tellE 2 ∧ Below w.heap.size w w') ⟨⟨w0.drawn + 1, #[]⟩, by rw [grow_empty]; rfl⟩ ?_ ?_
    · rintro a' ch w' hd ⟨rfl, hg⟩
      exact ⟨hd, tell_bad hg⟩
    · repeat (first | go_big_quiet_step (fail) | quiet_step (fail))
      refine wpQuiet_nil ?_
      refine ⟨fun o ho => ?_, trivial⟩
      injection ho with ho
      subst ho
      refine ⟨by go_simp, ?_⟩
      rintro w' ⟨⟨d', os⟩, rfl⟩
      go_wp2_with fail
      refine (KM.out d' os).mono ?_
      rintro e w4 ⟨rfl, b4⟩
      exact ⟨rfl, B0.out.trans (((below_regrown w0 d' os).trans (b4.mono (below_regrown w0 d' os).size)).mono B0.out.size)⟩
set_option maxHeartbeats 4000000 in
theorem single_like {W w : World} {R : Nat} {k : Cx} {p : Int} (h : EvAt W w R k p) (x : Nd) (hx : x.op = 23) (hs : x.s.size ≤ maxLen) (A : Option Addr) (n c : Nat) (V : List Nd) (hv : Ns w A n c V) (h0 : 0 < V.length) :
    Calls Tryz.prog 55 #[.pointer (some ⟨R, 0, none⟩), ndV x, .slice A n c] w (TellPost w (oneX k.E x V)) := by
  have HXO := Lib.hid (show oneX k.E x V = if headOp V = 3 then tellB (likeE x.s (hdN V).s) (likeV x.s (hdN V).s) else .error 2 by unfold oneX; rw [if_neg (by omega), if_neg (by omega), if_pos hx])
  have B0 := Lib.hid (below_box w (.cells #[.int .i64 23, .int .i64 x.n, .string x.s, .string x.t] 42))
  have X0 := Lib.hid (nd4_new w ⟨23, x.n, x.s, x.t⟩ 42)
  obtain ⟨a, rfl, hn1, D, hok, -⟩ := ns_hd hv h0
  have hn : (0 : Int) < (n : Int) := by omega
  have hn0 : 0 < n := hn1
  have HD := Lib.hid D
  have HDR := Lib.hid h.cx.door
  have KL := Lib.hid (fun w => like_Match x.s (hdN V).s w hs hok.s)
  rw [HXO.out]
  unfold ndV
  rw [hx]
  obtain ⟨w0, hw0⟩ : ∃ w0, w.alloc (.cells #[.int .i64 23, .int .i64 x.n, .string x.s, .string x.t] 42) = w0 := ⟨_, rfl⟩
  rw [hw0] at B0 X0
  obtain ⟨x0, x1, x2, x3⟩ := X0.out
  have k0 := cell_regrown x2
  by_cases g : headOp V = 3
  · rw [if_pos g]
    have KM := Lib.hid (fun w' hb => by have := eval_must (some a) n c V 3 w' (hv.keep (B0.out.trans (Below.mono (w' := w') hb B0.out.size))) h0; rwa [if_pos g] at this)
    have y2 := (HD.out.keep B0.out).c2
    generalize hdN V = y at *
    clear hv h0 D g hx hok HXO hs h
    generalize likeV x.s y.s = b at *
    by_cases z : likeE x.s y.s = 0
    · have HT := Lib.hid (show tellB (likeE x.s y.s) b = .ok (truthN b) by unfold tellB; rw [if_pos z])
      rw [HT.out]
      simp only [z, errV_zero] at KL
      clear z
      go_enter Tryz.func55, Tryz.ntmps55
      go_wp2_with fail
      go_region_held3 (fun w' : World => w'.cell? ⟨w.heap.size, 2, none⟩ = some (.string x.s) ∧ w'.cell? ⟨a.block, a.off + 2, none⟩ = some (.string y.s)) (first | exact ⟨x2, y2⟩ | exact ⟨s0, s1⟩ | exact ⟨t0, t1⟩ | exact ⟨u0, u1⟩ | exact ⟨v0, v1⟩) (first
        | (go_at_call 82; refine (KM.out _ (below_drew w0)).mono ?_; rintro e w1 ⟨rfl, b1⟩; have s0 := cell_keep b1 x2; have s1 := cell_keep b1 y2; have B1 := Lib.hid (B0.out.trans (((below_drew w0).trans b1).mono B0.out.size)))
        | (go_at_call 89; refine (KL.out _).mono ?_; rintro e w2 ⟨rfl, b2⟩; have t0 := cell_keep b2 s0; have t1 := cell_keep b2 s1; have B2 := bh B1 b2)
        | (go_at_call 88; refine (toldBool_nil _ _).mono ?_; rintro e w3 ⟨rfl, b3⟩; have u0 := cell_keep b3 t0; have u1 := cell_keep b3 t1; have B3 := bh B2 b3)
        | (go_at_call 85; refine (eval_truth _ _).mono ?_; rintro e w4 hp; have HP := Lib.hid (hp.up B3.out); obtain ⟨b4, A2, n2, c2, rfl, -, -⟩ := hp; have v0 := cell_keep b4 u0; have v1 := cell_keep b4 u1))
      go_wp2_with fail
      go_ret
      exact HP.out
    · have HT := Lib.hid (show tellB (likeE x.s y.s) b = .error (likeE x.s y.s) by unfold tellB; rw [if_neg z])
      rw [HT.out]
      simp only [errV_ne z] at KL
      generalize likeE x.s y.s = u at *
      clear z
      have R1 := rq (w := w0) (fun w' hb => KM.out w' hb)
      have R3 := rq (w := w0) (fun w' _ => KL.out w')
      have k2 := cell_regrown y2
      have KT := Lib.hid (fun d' os => toldBool_err (.bool b) u (grow (redrawn w0 d') os) ((HDR.out.keep B0.out).keep (below_regrown w0 d' os)))
      go_enter Tryz.func55, Tryz.ntmps55
      go_wp2_with fail
      refine wp_region_throw (l := [_, _, _, _, _, _, _, _, _, _]) [0, 1, 2, 3, 4, 5, 6, 7, 8, 9] [10] (by kernel_rfl) (by decide) (by kernel_rfl) rfl (fun w' => ∃ p : Regrown, w' = grow (redrawn w0 p.d) p.os) (fun ch w' => ch = tellE u ∧ Below w.heap.size w w') ⟨⟨w0.drawn + 1, #[]⟩, by rw [grow_empty]; rfl⟩ ?_ ?_
      · rintro a' ch w' hd ⟨rfl, hg⟩
        exact ⟨hd, tell_bad hg⟩
      · repeat (first | go_big_quiet_step (first | with_reducible exact R1 _ _ | with_reducible exact R3 _ _) | quiet_step (first | with_reducible exact R1 _ _ | with_reducible exact R3 _ _))
        refine wpQuiet_nil ?_
        refine ⟨fun o ho => ?_, trivial⟩
        injection ho with ho
        subst ho
        refine ⟨by go_simp, ?_⟩
        rintro w' ⟨⟨d', os⟩, rfl⟩
        go_wp2_with fail
        refine (KT.out d' os).mono ?_
        rintro e w4 ⟨rfl, b4⟩
        exact ⟨rfl, B0.out.trans (((below_regrown w0 d' os).trans (b4.mono (below_regrown w0 d' os).size)).mono B0.out.size)⟩
  · rw [if_neg g]
    have KM := Lib.hid (fun d os => eval_must (some a) n c V 3 (grow (redrawn w0 d) os) (hv.keep (B0.out.trans ((below_regrown w0 d os).mono B0.out.size))) h0)
    simp only [if_neg g] at KM
    clear hv h0 D g hx hok HXO hs h
    go_enter Tryz.func55, Tryz.ntmps55
    go_wp2_with fail
    refine wp_region_throw (l := [_, _, _]) [0, 1, 2] [3] (by kernel_rfl) (by decide) (by kernel_rfl) rfl (fun w' => ∃ p : Regrown, w' = grow (redrawn w0 p.d) p.os) (fun ch w' => ch = tellE 2 ∧ Below w.heap.size w w') ⟨⟨w0.drawn + 1, #[]⟩, by rw [grow_empty]; rfl⟩ ?_ ?_
    · rintro a' ch w' hd ⟨rfl, hg⟩
      exact ⟨hd, tell_bad hg⟩
    · repeat (first | go_big_quiet_step (fail) | quiet_step (fail))
      refine wpQuiet_nil ?_
      refine ⟨fun o ho => ?_, trivial⟩
      injection ho with ho
      subst ho
      refine ⟨by go_simp, ?_⟩
      rintro w' ⟨⟨d', os⟩, rfl⟩
      go_wp2_with fail
      refine (KM.out d' os).mono ?_
      rintro e w4 ⟨rfl, b4⟩
      exact ⟨rfl, B0.out.trans (((below_regrown w0 d' os).trans (b4.mono (below_regrown w0 d' os).size)).mono B0.out.size)⟩
end Go.Proofs.YtcdpoamiejompaaGreatDoor
namespace Go.Proofs.YtcdpoamiejompaaGreatDoor
open Go.RowKit Go.Wk Go.Sort
set_option maxRecDepth 100000

set_option maxHeartbeats 1000000 in
theorem value_Equal (A B : Option Addr) (n m c d : Nat) (P Q : List Nd) (w : World) (hn : n = P.length) (hm : m = Q.length) (hln : n ≤ maxLen) (hlm : m ≤ maxLen) (hP : NdsAt w A P) (hQ : NdsAt w B Q) :
    Calls Tryz.prog 93 #[.slice A n c, .slice B m d] w fun e w' => e = .returned (.bool (decide (cmpNds P Q = 0))) ∧ Below w.heap.size w w' := by
  unfold maxLen at hln hlm
  have HN := Lib.hid hn
  have HM := Lib.hid hm
  have HP := Lib.hid hP
  have HQ := Lib.hid hQ
  clear hn hm hP hQ
  by_cases hl : n = m
  · subst hl
    go_enter Tryz.func93, Tryz.ntmps93
    go_wp2_with fail
    go_loopw [5, 13] (fun _ i wr => ∃ k : Nat, k ≤ n ∧ i = .int .i64 k ∧ Hid (cmpNds P Q = cmpNds (P.drop k) (Q.drop k)) ∧ Hid (Below w.heap.size w wr)) (fun _ i _ => n - (intOf i).toNat)
    case atStart => exact ⟨0, Nat.zero_le _, rfl, rfl, Below.refl _ _⟩
    case round =>
      obtain ⟨k, hk, rfl, hE, hB⟩ := hrel
      by_cases hlt : k < n
      · have h1 : k < P.length := by rw [← HN.out]; exact hlt
        have h2 : k < Q.length := by rw [← HM.out]; exact hlt
        obtain ⟨a, rfl, a1, a2, a3, a4⟩ := (HP.out.keep hB.out) k P[k] (List.getElem?_eq_getElem h1)
        obtain ⟨b, rfl, b1, b2, b3, b4⟩ := (HQ.out.keep hB.out) k Q[k] (List.getElem?_eq_getElem h2)
        by_cases he : P[k] = Q[k]
        · have HE := Lib.hid (hE.out.trans ((cmpNds_at h1 h2).trans (by rw [cmpNd_eq he, or2_zero])))
          rw [he] at a1 a2 a3 a4
          generalize Q[k] = y at *
          clear he hE
          go_wp2_with fail
          go_quiet (fail)
          go_wp2_with fail
          go_roundw
          case rel => exact ⟨k + 1, by omega, by go_num, HE, hB.out.drewN _⟩
          case measure => simp [intOf]; omega
        · have HE := Lib.hid (cmpNds_zero_at h1 h2 he hE.out)
          have hne := fun w => nd_neq he w
          generalize P[k] = x at *
          generalize Q[k] = y at *
          clear he hE
          go_wp2_with fail
          go_quiet (fail)
          go_wp2_with fail
          go_ret
          exact ⟨ret_bool (decide_eq_false HE.out).symm, hB.out.drewN _⟩
      · have HE := Lib.hid (hE.out.trans (cmpNds_end0 (by rw [← HN.out]; omega) (by rw [← HM.out]; omega)))
        clear hE
        go_wp2_with fail
        go_ret
        exact ⟨ret_bool (decide_eq_true HE.out).symm, hB.out⟩
  · have HE := Lib.hid (show cmpNds P Q ≠ 0 from fun h => hl (by rw [HN.out, HM.out, (cmpNds_cmp.zero _ _).1 h]))
    have h3 : (n != m) = true := by rw [bne_iff_ne]; exact hl
    clear hl
    go_enter Tryz.func93, Tryz.ntmps93
    go_wp2_with fail
    go_ret
    exact ⟨ret_bool (decide_eq_false HE.out).symm, Below.refl _ _⟩

set_option maxHeartbeats 1000000 in
theorem clone_value (a : Addr) (n c : Nat) (P : List Nd) (w : World) (h : Ns w (some a) n c P) (hl : P.length ≤ 100000) :
    Calls Tryz.prog 31 #[.slice (some a) n c] w (NewNs w P) := by
  obtain ⟨i0, hi, hz0, hz1, hz2⟩ := info_parts ndInfo
  have hn := h.len
  have HC := Lib.hid (fun w' hb => (h.at_.keep (w' := w') hb).cells)
  have HO := Lib.hid h.ok
  have HL := Lib.hid hl
  clear h hl
  subst hn
  have hnil := fun w : World => Lib.run_eql_slice_nil (P := Tryz.prog) w 66 42 (some a) P.length c 0 0 Tryz.underlying66
  simp only [Option.isNone_some] at hnil
  go_enter Tryz.func31, Tryz.ntmps31
  have hB : ∀ W : World, (W.alloc (.cells #[] 42)).ownsRow W.heap.size 42 4 (.slice (some ⟨W.heap.size, 0, none⟩) 0 0) 0 [] := fun W =>
    ⟨rfl, .inr ⟨_, 0, #[], rfl, Nat.le_refl _, heap_alloc_new W _, Nat.le_refl _, by unfold maxLen; omega, rfl, rfl⟩⟩
  go_wp2_with (at_builtin; refine wpList_append_own _ rfl _ _ 66 rfl w.heap.size 42 i0 _ 4 48 Tryz.underlying66 hi hz0 hz1 hz2 rfl (by decide) _ 0 [] rfl (hB w) a P.length c (ndCells P) rfl (ndCells_length P) (HC.out _ (below_box _ _)) (ndCells_one P) ?c1 ?c2 ?c3 ?_)
  case c1 => have := HL.out; unfold maxLen; omega
  case c2 => have := HL.out; omega
  case c3 => simp
  intro v1 w1 hown hgrow _
  have HW := Lib.hid hown
  have HG := Lib.hid hgrow
  clear hown hgrow hnil
  go_wp2_with fail
  go_ret
  obtain ⟨A, c', rfl, h1, h2, h3⟩ := nds_of_own HW.out
  refine ⟨A, c', rfl, ⟨rfl, h1, by have := HL.out; unfold maxLen; omega, h2, HO.out⟩, h3, ?_⟩
  exact (below_box w _).grown HG.out (by simp) (fun k hk => by simp [Value.ownBlock] at hk; omega)
end Go.Proofs.YtcdpoamiejompaaGreatDoor
namespace Go.Proofs.YtcdpoamiejompaaGreatDoor
open Go.RowKit Go.Wk Go.Sort
set_option maxRecDepth 100000

set_option maxHeartbeats 2000000 in
theorem double_eq {W w : World} {R : Nat} {k : Cx} {p : Int} (_h : EvAt W w R k p) (A B : Option Addr) (n m c d : Nat) (P Q : List Nd) (hP : Ns w A n c P) (hQ : Ns w B m d Q) :
    Calls Tryz.prog 56 #[.pointer (some ⟨R, 0, none⟩), .int .i64 14, .slice A n c, .slice B m d] w (TellPost w (twoX k.E 14 P Q)) := by
  have K := Lib.hid (value_Equal A B n m c d P Q w hP.len hQ.len hP.max hQ.max hP.at_ hQ.at_)
  have HR := Lib.hid (show twoX k.E 14 P Q = .ok (truthN (decide (cmpNds P Q = 0))) by unfold twoX; rw [if_pos rfl])
  rw [HR.out]
  generalize decide (cmpNds P Q = 0) = b at *
  clear hP hQ
  go_enter Tryz.func56, Tryz.ntmps56
  go_wp2_with fail
  refine K.out.mono ?_
  rintro e w1 ⟨rfl, b1⟩
  have B1 := Lib.hid b1
  clear b1 K
  go_wp2_with fail
  refine (eval_truth b w1).mono ?_
  rintro e w2 hp
  have HP := Lib.hid (hp.up B1.out)
  obtain ⟨-, A2, n2, c2, rfl, -, -⟩ := hp
  go_wp2_with fail
  go_ret
  exact HP.out
set_option maxHeartbeats 2000000 in
theorem double_one {W w : World} {R : Nat} {k : Cx} {p : Int} (h : EvAt W w R k p) (A B : Option Addr) (n m c d : Nat) (P Q : List Nd) (hP : Ns w A n c P) (hQ : Ns w B m d Q) :
    Calls Tryz.prog 56 #[.pointer (some ⟨R, 0, none⟩), .int .i64 25, .slice A n c, .slice B m d] w (TellPost w (twoX k.E 25 P Q)) := by
  have K := Lib.hid (bag_Has A B n m c d P Q w hP hQ)
  have HDR := Lib.hid h.cx.door
  have HR := Lib.hid (show twoX k.E 25 P Q = tellB (hasE P Q) (hasV P Q) by unfold twoX; rw [if_neg (by decide), if_neg (by decide), if_pos rfl])
  rw [HR.out]
  generalize hasV P Q = b at *
  generalize hasE P Q = u at *
  clear h hP hQ
  by_cases z : u = 0
  · subst z
    rw [errV_zero] at K
    have HT := Lib.hid (show tellB 0 b = .ok (truthN b) by unfold tellB; rw [if_pos rfl])
    rw [HT.out]
    go_enter Tryz.func56, Tryz.ntmps56
    go_wp2_with fail
    refine K.out.mono ?_
    rintro e w1 ⟨rfl, b1⟩
    have B1 := Lib.hid b1
    clear b1 K
    go_wp2_with fail
    refine (toldBool_nil (.bool b) w1).mono ?_
    rintro e w2 ⟨rfl, b2⟩
    have B2 := bh B1 b2
    clear b2 B1
    go_wp2_with fail
    refine (eval_truth b w2).mono ?_
    rintro e w3 hp
    have HP := Lib.hid (hp.up B2.out)
    obtain ⟨-, A2, n2, c2, rfl, -, -⟩ := hp
    go_wp2_with fail
    go_ret
    exact HP.out
  · rw [errV_ne z] at K
    have HT := Lib.hid (show tellB u b = .error u by unfold tellB; rw [if_neg z])
    rw [HT.out]
    clear z
    go_enter Tryz.func56, Tryz.ntmps56
    go_wp2_with fail
    refine K.out.mono ?_
    rintro e w1 ⟨rfl, b1⟩
    have B1 := Lib.hid b1
    clear b1 K
    go_wp2_with fail
    refine (toldBool_err (.bool b) u w1 (HDR.out.keep B1.out)).mono ?_
    rintro e w2 ⟨rfl, b2⟩
    have B2 := bh B1 b2
    clear b2 B1
    go_wp2_with fail
    exact ⟨rfl, tell_bad B2.out⟩
set_option maxHeartbeats 2000000 in
theorem double_all {W w : World} {R : Nat} {k : Cx} {p : Int} (h : EvAt W w R k p) (A B : Option Addr) (n m c d : Nat) (P Q : List Nd) (hP : Ns w A n c P) (hQ : Ns w B m d Q) :
    Calls Tryz.prog 56 #[.pointer (some ⟨R, 0, none⟩), .int .i64 26, .slice A n c, .slice B m d] w (TellPost w (twoX k.E 26 P Q)) := by
  have K := Lib.hid (bag_All A B n m c d P Q w hP hQ)
  have HDR := Lib.hid h.cx.door
  have HR := Lib.hid (show twoX k.E 26 P Q = tellB (bothE P Q) (allV P Q) by unfold twoX; rw [if_neg (by decide), if_neg (by decide), if_neg (by decide), if_pos rfl])
  rw [HR.out]
  generalize allV P Q = b at *
  generalize bothE P Q = u at *
  clear h hP hQ
  by_cases z : u = 0
  · subst z
    rw [errV_zero] at K
    have HT := Lib.hid (show tellB 0 b = .ok (truthN b) by unfold tellB; rw [if_pos rfl])
    rw [HT.out]
    go_enter Tryz.func56, Tryz.ntmps56
    go_wp2_with fail
    refine K.out.mono ?_
    rintro e w1 ⟨rfl, b1⟩
    have B1 := Lib.hid b1
    clear b1 K
    go_wp2_with fail
    refine (toldBool_nil (.bool b) w1).mono ?_
    rintro e w2 ⟨rfl, b2⟩
    have B2 := bh B1 b2
    clear b2 B1
    go_wp2_with fail
    refine (eval_truth b w2).mono ?_
    rintro e w3 hp
    have HP := Lib.hid (hp.up B2.out)
    obtain ⟨-, A2, n2, c2, rfl, -, -⟩ := hp
    go_wp2_with fail
    go_ret
    exact HP.out
  · rw [errV_ne z] at K
    have HT := Lib.hid (show tellB u b = .error u by unfold tellB; rw [if_neg z])
    rw [HT.out]
    clear z
    go_enter Tryz.func56, Tryz.ntmps56
    go_wp2_with fail
    refine K.out.mono ?_
    rintro e w1 ⟨rfl, b1⟩
    have B1 := Lib.hid b1
    clear b1 K
    go_wp2_with fail
    refine (toldBool_err (.bool b) u w1 (HDR.out.keep B1.out)).mono ?_
    rintro e w2 ⟨rfl, b2⟩
    have B2 := bh B1 b2
    clear b2 B1
    go_wp2_with fail
    exact ⟨rfl, tell_bad B2.out⟩
set_option maxHeartbeats 2000000 in
theorem double_any {W w : World} {R : Nat} {k : Cx} {p : Int} (h : EvAt W w R k p) (A B : Option Addr) (n m c d : Nat) (P Q : List Nd) (hP : Ns w A n c P) (hQ : Ns w B m d Q) :
    Calls Tryz.prog 56 #[.pointer (some ⟨R, 0, none⟩), .int .i64 27, .slice A n c, .slice B m d] w (TellPost w (twoX k.E 27 P Q)) := by
  have K := Lib.hid (bag_Any A B n m c d P Q w hP hQ)
  have HDR := Lib.hid h.cx.door
  have HR := Lib.hid (show twoX k.E 27 P Q = tellB (bothE P Q) (anyV P Q) by unfold twoX; rw [if_neg (by decide), if_neg (by decide), if_neg (by decide), if_neg (by decide), if_pos rfl])
  rw [HR.out]
  generalize anyV P Q = b at *
  generalize bothE P Q = u at *
  clear h hP hQ
  by_cases z : u = 0
  · subst z
    rw [errV_zero] at K
    have HT := Lib.hid (show tellB 0 b = .ok (truthN b) by unfold tellB; rw [if_pos rfl])
    rw [HT.out]
    go_enter Tryz.func56, Tryz.ntmps56
    go_wp2_with fail
    refine K.out.mono ?_
    rintro e w1 ⟨rfl, b1⟩
    have B1 := Lib.hid b1
    clear b1 K
    go_wp2_with fail
    refine (toldBool_nil (.bool b) w1).mono ?_
    rintro e w2 ⟨rfl, b2⟩
    have B2 := bh B1 b2
    clear b2 B1
    go_wp2_with fail
    refine (eval_truth b w2).mono ?_
    rintro e w3 hp
    have HP := Lib.hid (hp.up B2.out)
    obtain ⟨-, A2, n2, c2, rfl, -, -⟩ := hp
    go_wp2_with fail
    go_ret
    exact HP.out
  · rw [errV_ne z] at K
    have HT := Lib.hid (show tellB u b = .error u by unfold tellB; rw [if_neg z])
    rw [HT.out]
    clear z
    go_enter Tryz.func56, Tryz.ntmps56
    go_wp2_with fail
    refine K.out.mono ?_
    rintro e w1 ⟨rfl, b1⟩
    have B1 := Lib.hid b1
    clear b1 K
    go_wp2_with fail
    refine (toldBool_err (.bool b) u w1 (HDR.out.keep B1.out)).mono ?_
    rintro e w2 ⟨rfl, b2⟩
    have B2 := bh B1 b2
    clear b2 B1
    go_wp2_with fail
    exact ⟨rfl, tell_bad B2.out⟩
end Go.Proofs.YtcdpoamiejompaaGreatDoor
