/-
  ValOrder: the walk of the law.
-/
import Derived.Test.YtbaccefcgblagaaRdNodes
namespace Go.Proofs.Ytbaccefcgblagaa
open Go.RowKit Go.Wk Go.Sort

def numN (n : Int) : Nd := ⟨2, n, ⟨#[]⟩, ⟨#[]⟩⟩
/-- A number of one node. -/
theorem law_num1 (n : Int) (w : World) (h1 : -9223372036854775808 ≤ n) (h2 : n ≤ 9223372036854775807) :
    Calls Try.prog 12 #[.int .i64 n] w fun e w' => e = .returned (.slice (some ⟨w.heap.size, 0, none⟩) 1 1) ∧ Below w.heap.size w w' ∧ Ns w' (some ⟨w.heap.size, 0, none⟩) 1 1 [numN n] := by
  have H : Hid (Ns (w.alloc (.cells #[.int .i64 2, .int .i64 n, .string ⟨#[]⟩, .string ⟨#[]⟩] 50)) (some ⟨w.heap.size, 0, none⟩) 1 1 [numN n]) :=
    Lib.hid ⟨rfl, Nat.le_refl _, by unfold maxLen; omega, nds_new w [numN n] _, fun x hx => by
      simp only [List.mem_cons, List.not_mem_nil, or_false] at hx
      subst hx
      exact ⟨Nat.zero_le _, Nat.zero_le _, h1, h2⟩⟩
  clear h1 h2
  go_enter Try.func12, Try.ntmps12
  go_wp2_with fail
  go_ret
  exact ⟨rfl, below_box _ _, H.out⟩

theorem fact_ValOrderE : cmpE [numN 5] [numN (-3)] = 0 := by decide +kernel
theorem fact_ValOrderV : cmpV [numN 5] [numN (-3)] = 1 := by decide +kernel
theorem cmpE_zero {P Q : List Nd} : cmpE P Q = 0 ↔ valFault P = 0 ∧ valFault Q = 0 := by
  unfold cmpE or2; split <;> simp_all
set_option maxRecDepth 100000 in
set_option maxHeartbeats 8000000 in
theorem ValOrder_walk (A1 : Option Addr) (n1 c1 : Nat) (P1 : List Nd) (A2 : Option Addr) (n2 c2 : Nat) (P2 : List Nd) (A3 : Option Addr) (n3 c3 : Nat) (P3 : List Nd) (w : World) (h1 : Ns w A1 n1 c1 P1) (h2 : Ns w A2 n2 c2 P2) (h3 : Ns w A3 n3 c3 P3) :
    Calls Try.prog 6 #[.slice A1 n1 c1, .slice A2 n2 c2, .slice A3 n3 c3] w fun e w' => e = .returned (.bool true) ∧ Below w.heap.size w w' := by
  go_enter Try.func6, Try.ntmps6
  go_wp2_with fail
  refine (law_num1 _ _ (by omega) (by omega)).mono ?_
  rintro e w1 ⟨rfl, b1, m1⟩
  go_wp2_with fail
  refine (law_num1 _ _ (by omega) (by omega)).mono ?_
  rintro e w2 ⟨rfl, b2, m2⟩
  go_wp2_with fail
  refine ((m1.keep b2).compare m2).mono ?_
  rintro e w3 ⟨rfl, b3⟩
  rw [fact_ValOrderE, fact_ValOrderV, errV_zero]
  have B3 := Lib.hid (b1.trans ((b2.trans (b3.mono b2.size)).mono b1.size))
  clear b1 b2 b3 m1 m2
  go_wp2_with fail
  refine ((h1.keep B3.out).compare (h2.keep B3.out)).mono ?_
  rintro e w4 ⟨rfl, b4⟩
  have B4 := Lib.hid (B3.out.trans (b4.mono B3.out.size))
  clear b4 B3
  go_wp2_with fail
  refine ((h2.keep B4.out).compare (h1.keep B4.out)).mono ?_
  rintro e w5 ⟨rfl, b5⟩
  have B5 := Lib.hid (B4.out.trans (b5.mono B4.out.size))
  clear b5 B4
  go_wp2_with fail
  refine ((h2.keep B5.out).compare (h3.keep B5.out)).mono ?_
  rintro e w6 ⟨rfl, b6⟩
  have B6 := Lib.hid (B5.out.trans (b6.mono B5.out.size))
  clear b6 B5
  go_wp2_with fail
  refine ((h1.keep B6.out).compare (h3.keep B6.out)).mono ?_
  rintro e w7 ⟨rfl, b7⟩
  have B7 := Lib.hid (B6.out.trans (b7.mono B6.out.size))
  clear b7 B6
  have S := Lib.hid ((h1.keep B7.out).same (h2.keep B7.out))
  by_cases f1 : valFault P1 = 0
  · by_cases f2 : valFault P2 = 0
    · by_cases f3 : valFault P3 = 0
      · have e12 : cmpE P1 P2 = 0 := cmpE_zero.2 ⟨f1, f2⟩
        have e21 : cmpE P2 P1 = 0 := cmpE_zero.2 ⟨f2, f1⟩
        have e23 : cmpE P2 P3 = 0 := cmpE_zero.2 ⟨f2, f3⟩
        have e13 : cmpE P1 P3 = 0 := cmpE_zero.2 ⟨f1, f3⟩
        have v12 : cmpV P1 P2 = cmpNds P1 P2 := by unfold cmpV; rw [if_pos e12]
        have v21 : cmpV P2 P1 = - cmpNds P1 P2 := by unfold cmpV; rw [if_pos e21]; exact cmpNds_cmp.anti _ _
        have v23 : cmpV P2 P3 = cmpNds P2 P3 := by unfold cmpV; rw [if_pos e23]
        have v13 : cmpV P1 P3 = cmpNds P1 P3 := by unfold cmpV; rw [if_pos e13]
        rw [e12, e21, e23, e13, v12, v21, v23, v13, errV_zero]
        have hr := cmpNds_cmp.rng P1 P2
        have ht := cmpNds_cmp.trans P1 P2 P3
        clear e12 e21 e23 e13 v12 v21 v23 v13 f1 f2 f3 h1 h2 h3
        generalize cmpNds P1 P2 = x at *
        generalize cmpNds P2 P3 = y at *
        generalize cmpNds P1 P3 = z at *
        have HT : Hid (decide (x ≤ 0 ∧ y ≤ 0) = true → z ≤ 0) := Lib.hid fun h => ht (by simp at h; exact h.1) (by simp at h; exact h.2)
        clear ht
        rcases hr with rfl | rfl | rfl
        all_goals
          go_wp2_with fail
          refine S.out.mono ?_
          rintro e w8 ⟨rfl, b8⟩
          have B8 := Lib.hid (B7.out.trans (b8.mono B7.out.size))
          clear b8 B7
          by_cases hy : y ≤ 0
          · first
            | (have hz := HT.out (by simp; omega)
               clear HT
               go_wp2_with fail
               go_ret
               exact ⟨rfl, B8.out⟩)
            | (clear HT
               go_wp2_with fail
               go_ret
               exact ⟨rfl, B8.out⟩)
          · clear HT
            go_wp2_with fail
            go_ret
            exact ⟨rfl, B8.out⟩
      · have e23 : errV (cmpE P2 P3) = .iface 26 (.int .i64 (cmpE P2 P3)) := errV_ne fun h => f3 (cmpE_zero.1 h).2
        have e12 : cmpE P1 P2 = 0 := cmpE_zero.2 ⟨f1, f2⟩
        rw [e23, e12, errV_zero]
        clear f1 f2 f3 e23 e12
        go_wp2_with fail
        go_ret
        exact ⟨rfl, B7.out⟩
    · have e12 : errV (cmpE P1 P2) = .iface 26 (.int .i64 (cmpE P1 P2)) := errV_ne fun h => f2 (cmpE_zero.1 h).2
      rw [e12]
      clear f1 f2 e12
      go_wp2_with fail
      go_ret
      exact ⟨rfl, B7.out⟩
  · have e12 : errV (cmpE P1 P2) = .iface 26 (.int .i64 (cmpE P1 P2)) := errV_ne fun h => f1 (cmpE_zero.1 h).1
    rw [e12]
    clear f1 e12
    go_wp2_with fail
    go_ret
    exact ⟨rfl, B7.out⟩
end Go.Proofs.Ytbaccefcgblagaa
