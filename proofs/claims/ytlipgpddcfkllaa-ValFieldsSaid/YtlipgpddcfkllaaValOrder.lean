/-
  ValOrder: the walk of the law.
-/
import Derived.Test.YtlipgpddcfkllaaRdNodes
namespace Go.Proofs.Ytlipgpddcfkllaa
open Go.RowKit Go.Wk Go.Sort
set_option maxRecDepth 100000

def numN (n : Int) : Nd := ⟨2, n, ⟨#[]⟩, ⟨#[]⟩⟩
/-- A number of one node. -/
theorem law_num1 (n : Int) (w : World) (h1 : -9223372036854775808 ≤ n) (h2 : n ≤ 9223372036854775807) :
    Calls Try.prog 11 #[.int .i64 n] w fun e w' => e = .returned (.slice (some ⟨w.heap.size, 0, none⟩) 1 1) ∧ Below w.heap.size w w' ∧ Ns w' (some ⟨w.heap.size, 0, none⟩) 1 1 [numN n] := by
  have H : Hid (Ns (w.alloc (.cells #[.int .i64 2, .int .i64 n, .string ⟨#[]⟩, .string ⟨#[]⟩] 40)) (some ⟨w.heap.size, 0, none⟩) 1 1 [numN n]) :=
    Lib.hid ⟨rfl, Nat.le_refl _, by unfold maxLen; omega, nds_new w [numN n] _, fun x hx => by
      simp only [List.mem_cons, List.not_mem_nil, or_false] at hx
      subst hx
      exact ⟨Nat.zero_le _, Nat.zero_le _, h1, h2⟩⟩
  clear h1 h2
  go_enter Try.func11, Try.ntmps11
  go_wp2_with fail
  go_ret
  exact ⟨rfl, below_box _ _, H.out⟩

theorem fact_ValOrderE : cmpE [numN 5] [numN (-3)] = 0 := by decide +kernel
theorem fact_ValOrderV : cmpV [numN 5] [numN (-3)] = 1 := by decide +kernel
theorem cmpE_zero {P Q : List Nd} : cmpE P Q = 0 ↔ valFault P = 0 ∧ valFault Q = 0 := by
  unfold cmpE or2; split <;> simp_all
end Go.Proofs.Ytlipgpddcfkllaa
