/-
  The verifier's Uids: are two lists of uids the same.
-/
import Derived.Test.YtbjbimabgfpdoaaGreatUds
namespace Go.Proofs.YtbjbimabgfpdoaaGreat
open Go.RowKit Go.Wk
set_option maxRecDepth 100000

theorem same_drop {P Q : List Ud} {k : Nat} (h1 : k < P.length) (h2 : k < Q.length) : P.drop k = Q.drop k ↔ P[k] = Q[k] ∧ P.drop (k + 1) = Q.drop (k + 1) := by
  rw [List.drop_eq_getElem_cons h1, List.drop_eq_getElem_cons h2, List.cons.injEq]
set_option maxHeartbeats 1000000 in
theorem same_Uids (A B : Option Addr) (n m c d : Nat) (P Q : List Ud) (w : World) (hP : Us w A n c P) (hQ : Us w B m d Q) :
    Calls Tryz.prog 10 #[.slice A n c, .slice B m d] w fun e w' => e = .returned (.bool (decide (P = Q))) ∧ Below w.heap.size w w' := by
  have hln := hP.max
  have hlm := hQ.max
  unfold maxLen at hln hlm
  have HN := Lib.hid hP.len
  have HM := Lib.hid hQ.len
  have HP := Lib.hid hP.at_
  have HQ := Lib.hid hQ.at_
  clear hP hQ
  by_cases hl : n = m
  · subst hl
    go_enter Tryz.func10, Tryz.ntmps10
    go_wp2_with fail
    go_loopw [5] (fun i wr => ∃ k : Nat, k ≤ n ∧ i = .int .i64 k ∧ Hid (P = Q ↔ P.drop k = Q.drop k) ∧ Hid (Below w.heap.size w wr)) (fun i _ => n - (intOf i).toNat)
    case atStart => exact ⟨0, Nat.zero_le _, rfl, by exact Lib.hid (by simp), Below.refl _ _⟩
    case round =>
      obtain ⟨k, hk, rfl, hE, hB⟩ := hrel
      by_cases hlt : k < n
      · have h1 : k < P.length := by rw [← HN.out]; exact hlt
        have h2 : k < Q.length := by rw [← HM.out]; exact hlt
        obtain ⟨a, rfl, a1, a2⟩ := (HP.out.keep hB.out) k P[k] (List.getElem?_eq_getElem h1)
        obtain ⟨b, rfl, b1, b2⟩ := (HQ.out.keep hB.out) k Q[k] (List.getElem?_eq_getElem h2)
        by_cases he : P[k] = Q[k]
        · have HE := Lib.hid (hE.out.trans ((same_drop h1 h2).trans ⟨fun h => h.2, fun h => ⟨he, h⟩⟩))
          rw [he] at a1 a2
          generalize Q[k] = y at *
          clear he hE
          go_wp2_with fail
          go_quiet (fail)
          go_wp2_with fail
          go_roundw
          case rel => exact ⟨k + 1, by omega, by go_num, HE, hB.out.drewN _⟩
          case measure => simp [intOf]; omega
        · have HE := Lib.hid (show ¬ P = Q from fun h => he ((same_drop h1 h2).1 (hE.out.1 h)).1)
          have hne := uid_ne he
          generalize P[k] = x at *
          generalize Q[k] = y at *
          clear he hE
          rcases hne with e1 | ⟨e1, e2⟩
          · go_wp2_with fail
            go_quiet (fail)
            go_wp2_with fail
            go_ret
            exact ⟨ret_bool (decide_eq_false HE.out).symm, hB.out.drewN _⟩
          · go_wp2_with fail
            go_quiet (fail)
            go_wp2_with fail
            go_ret
            exact ⟨ret_bool (decide_eq_false HE.out).symm, hB.out.drewN _⟩
      · have HE := Lib.hid (show P = Q from hE.out.2 (by rw [List.drop_of_length_le (by rw [← HN.out]; omega), List.drop_of_length_le (by rw [← HM.out]; omega)]))
        clear hE
        go_wp2_with fail
        go_ret
        exact ⟨ret_bool (decide_eq_true HE.out).symm, hB.out⟩
  · have HE := Lib.hid (show P ≠ Q from fun h => hl (by rw [HN.out, HM.out, h]))
    have h3 : (n != m) = true := by rw [bne_iff_ne]; exact hl
    clear hl
    go_enter Tryz.func10, Tryz.ntmps10
    go_wp2_with fail
    go_ret
    exact ⟨ret_bool (decide_eq_false HE.out).symm, Below.refl _ _⟩
end Go.Proofs.YtbjbimabgfpdoaaGreat
