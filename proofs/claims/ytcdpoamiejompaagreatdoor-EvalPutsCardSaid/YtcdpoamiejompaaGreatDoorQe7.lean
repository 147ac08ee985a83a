/-
  Plain: sums, differences and products that are numbers of 64 bits, or not. No program in sight.
-/
import Derived.RowKit
import Derived.Test.YtcdpoamiejompaaGreatDoorQe6
namespace Go.Wk
open Go.RowKit

def I64 (a : Int) : Prop := -9223372036854775808 ≤ a ∧ a ≤ 9223372036854775807
def fits (x : Int) : Bool := decide (-9223372036854775808 ≤ x) && decide (x ≤ 9223372036854775807)
theorem fits_iff (x : Int) : fits x = true ↔ I64 x := by unfold fits I64; simp
theorem fits_not (x : Int) : fits x = false ↔ x < -9223372036854775808 ∨ 9223372036854775807 < x := by
  rw [← Bool.not_eq_true, fits_iff]; unfold I64; omega
/-- The number of an operation. -/
def numR (op a b : Int) : Int := if op = 17 then a + b else if op = 18 then a - b else a * b
def numV (op a b : Int) : Int := if op = 17 ∨ op = 18 ∨ op = 19 then (if fits (numR op a b) then numR op a b else 0) else 0
def numE (op a b : Int) : Int := if op = 17 ∨ op = 18 ∨ op = 19 then (if fits (numR op a b) then 0 else 5) else 1

def mulHi (x y : Nat) : Nat := x * y / 18446744073709551616
def mulLo (x y : Nat) : Nat := x * y % 18446744073709551616

theorem mul_abs (a b : Int) : (a * b).natAbs = a.natAbs * b.natAbs := Int.natAbs_mul a b
theorem mul_same {a b : Int} (h : a < 0 ↔ b < 0) : 0 ≤ a * b := by
  by_cases ha : a < 0
  · exact Int.le_of_lt (Int.mul_pos_of_neg_of_neg ha (h.1 ha))
  · exact Int.mul_nonneg (by omega) (by have := mt h.2 ha; omega)
theorem mul_other {a b : Int} (h : ¬ (a < 0 ↔ b < 0)) : a * b ≤ 0 := by
  by_cases ha : a < 0
  · have hb : 0 ≤ b := by
      by_cases hb : b < 0
      · exact absurd ⟨fun _ => hb, fun _ => ha⟩ h
      · omega
    exact Int.mul_nonpos_of_nonpos_of_nonneg (by omega) hb
  · have hb : b < 0 := by
      by_cases hb : b < 0
      · exact hb
      · exact absurd ⟨fun q => absurd q ha, fun q => absurd q hb⟩ h
    exact Int.mul_nonpos_of_nonneg_of_nonpos (by omega) (by omega)

/-- What the product's two halves say. 'd': do the signs differ? -/
theorem mul_fits {a b : Int} (d : Nat) (hd : d = if (a < 0 ↔ b < 0) then 0 else 1) :
    fits (a * b) = true ↔ mulHi a.natAbs b.natAbs = 0 ∧ mulLo a.natAbs b.natAbs ≤ 9223372036854775807 + d := by
  rw [fits_iff]
  unfold I64 mulHi mulLo
  have h := mul_abs a b
  generalize a.natAbs * b.natAbs = m at *
  by_cases hs : a < 0 ↔ b < 0
  · have h1 := mul_same hs
    rw [if_pos hs] at hd
    generalize a * b = p at *
    omega
  · have h1 := mul_other hs
    rw [if_neg hs] at hd
    generalize a * b = p at *
    omega

theorem wrap_fits {x : Int} (h : fits x = true) : wrap64 x = x := by
  rw [fits_iff] at h
  unfold I64 at h
  unfold wrap64
  omega

end Go.Wk
