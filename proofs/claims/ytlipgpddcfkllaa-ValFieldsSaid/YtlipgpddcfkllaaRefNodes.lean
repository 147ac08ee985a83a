/-
  The reference's order of nodes.
-/
import Derived.Test.YtlipgpddcfkllaaAid
import Derived.Test.YtlipgpddcfkllaaOrd
namespace Go.Proofs.Ytlipgpddcfkllaa
open Go.RowKit Go.Wk Go.Sort
set_option maxRecDepth 100000

theorem cmpNds_ends {P Q : List Nd} {k : Nat} (h : P.length ≤ k ∨ Q.length ≤ k) (h1 : k ≤ P.length) (h2 : k ≤ Q.length) : cmpNds (P.drop k) (Q.drop k) = cmpI P.length Q.length := by
  by_cases a : P.length ≤ k
  · by_cases b : Q.length ≤ k
    · rw [cmpNds_end0 a b]; unfold cmpI; split <;> (try split) <;> omega
    · rw [cmpNds_end1 a (by omega)]; unfold cmpI; rw [if_pos (by omega)]
  · rw [cmpNds_end2 (by omega) (by omega)]; unfold cmpI; rw [if_neg (by omega), if_pos (by omega)]
end Go.Proofs.Ytlipgpddcfkllaa
