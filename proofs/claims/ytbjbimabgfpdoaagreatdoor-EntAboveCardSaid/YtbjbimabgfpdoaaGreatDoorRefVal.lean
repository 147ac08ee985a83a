/-
  The reference's ValueEnd outright; ValueFault and Faults.
-/
import Derived.Test.YtbjbimabgfpdoaaGreatDoorRefEnd2
import Derived.Test.YtbjbimabgfpdoaaGreatDoorSls
import Derived.Test.YtbjbimabgfpdoaaGreatDoorPartsLaw
namespace Go.Proofs.YtbjbimabgfpdoaaGreatDoor
open Go.RowKit Go.Wk Go.Sort
set_option maxRecDepth 100000

theorem ref_end (A : Option Addr) (P : List Nd) (n c : Nat) (hn : n = P.length) (hc : n ≤ c) (hm : n ≤ maxLen) (hO : NdsOk P) (m : Nat) : RefC P A n c m := by
  have field : ∀ m, (∀ (q : Nat) (w : World), NdsAt w A P → n - q < m → Calls Tryz.prog 35 #[.slice A n c, .int .i64 q, .bool false] w fun e w' => e = .returned (.int .i64 (endI (partEnd P m q))) ∧ Below w.heap.size w w') →
      (∀ (q : Nat) (w : World), NdsAt w A P → n - q ≤ m → Calls Tryz.prog 35 #[.slice A n c, .int .i64 q, .bool true] w fun e w' => e = .returned (.int .i64 (endI (fieldEnd P m q))) ∧ Below w.heap.size w w') := by
    intro m h q w hP hf
    by_cases hp : q < n
    · have hp' : q < P.length := by omega
      obtain ⟨a, rfl, D⟩ := hP.nd hp'
      by_cases hc : (decide (P[q].op = 7) && shapedN P[q]) = true
      · have e : fieldEnd P m q = partEnd P m (q + 1) := by unfold fieldEnd; rw [List.getElem?_eq_getElem hp']; simp only [hc, if_true]
        rw [e]
        simp only [Bool.and_eq_true, decide_eq_true_eq] at hc
        exact end_field a n c q P[q] _ w hm hp D (hO.at hp') hc.2 hc.1 (Lib.hid fun w' hb => by
          have := h (q + 1) w' (hP.keep hb) (by omega)
          simpa using this)
      · have e : fieldEnd P m q = none := by unfold fieldEnd; rw [List.getElem?_eq_getElem hp']; simp only [hc]; rfl
        rw [e]
        exact end_bad a n c q true P[q] w hp D (hO.at hp') (by
          rw [Bool.not_eq_true] at hc
          rcases hd : decide (P[q].op = 7) <;> rcases hs : shapedN P[q] <;> simp_all)
    · have e : fieldEnd P m q = none := by unfold fieldEnd; rw [List.getElem?_eq_none (by omega)]
      rw [e]
      exact end_out A n c q true w (by omega)
  induction m with
  | zero => exact ⟨fun q w _ h => by omega, field 0 (fun q w _ h => by omega)⟩
  | succ m ih =>
    refine ⟨?_, field (m + 1) ?_⟩
    all_goals
      intro p w hP hf
      by_cases hp : p < n
      · have hp' : p < P.length := by omega
        obtain ⟨a, rfl, D⟩ := hP.nd hp'
        have e : partEnd P (m + 1) p = if shapedN P[p] then (if P[p].op = 5 then setLoop P (partEnd P m) P[p].n.toNat none (p + 1) else if P[p].op = 6 then recLoop P (partEnd P m) P[p].n.toNat .empty (p + 1) else if P[p].op = 7 then none else some (p + 1)) else none := by
          simp only [partEnd, List.getElem?_eq_getElem hp']
        rw [e]
        by_cases hs : shapedN P[p] = true
        · rw [if_pos hs]
          by_cases h5 : P[p].op = 5
          · rw [if_pos h5]; exact end_set a P n c p m w hn hc hm hp hP hO hs h5 ih hf
          rw [if_neg h5]
          by_cases h6 : P[p].op = 6
          · rw [if_pos h6]; exact end_rec a P n c p m w hn hc hm hp hP hO hs h6 ih hf
          rw [if_neg h6]
          by_cases h7 : P[p].op = 7
          · rw [if_pos h7]; exact end_bad a n c p false P[p] w hp D (hO.at hp') (by simp [h7])
          rw [if_neg h7]
          exact end_leaf a n c p P[p] w hm hp D (hO.at hp') hs (beq_eq_false_iff_ne.2 h5) (beq_eq_false_iff_ne.2 h6) (beq_eq_false_iff_ne.2 h7)
        · rw [if_neg hs]
          exact end_bad a n c p false P[p] w hp D (hO.at hp') (by simp [hs])
      · have e : partEnd P (m + 1) p = none := by
          simp only [partEnd, List.getElem?_eq_none (by omega : P.length ≤ p)]
        rw [e]
        exact end_out A n c p false w (by omega)

theorem ref_ValueFault (A : Option Addr) (n c : Nat) (P : List Nd) (w : World) (h : Ns w A n c P) :
    Calls Tryz.prog 11 #[.slice A n c] w fun e w' => e = .returned (.int .i64 (valFault P)) ∧ Below w.heap.size w w' := by
  obtain ⟨hn, hc, hm, hP, hO⟩ := h
  have C := Lib.hid ((ref_end A P n c hn hc hm hO (n + 1)).1 0 w hP (by omega))
  by_cases h : 200 < n
  · have H := Lib.hid (show valFault P = 4 by unfold valFault; rw [if_pos (by omega)])
    clear C
    unfold maxLen at hm
    clear hn hP hO
    go_enter Tryz.func11, Tryz.ntmps11
    go_wp2_with fail
    go_ret
    exact ⟨ret_i64 H.out.symm, Below.refl _ _⟩
  · have H := Lib.hid (show valFault P = if partEnd P (n + 1) 0 = some n then 0 else 1 by unfold valFault; rw [if_neg (by omega), ← hn])
    unfold maxLen at hm
    clear hn hP hO
    rcases he : partEnd P (n + 1) 0 with _ | e
    · rw [he] at C H
      rw [if_neg (by simp)] at H
      simp only [endI] at C
      go_enter Tryz.func11, Tryz.ntmps11
      go_wp2_with fail
      refine (C.out).mono ?_
      rintro e w1 ⟨rfl, b1⟩
      have hne : ((-1 : Int) != (n : Int)) = true := by rw [bne_iff_ne]; omega
      go_wp2_with fail
      go_ret
      exact ⟨ret_i64 H.out.symm, b1⟩
    · rw [he] at C H
      clear he
      simp only [endI] at C
      by_cases he : e = n
      · subst he
        rw [if_pos rfl] at H
        go_enter Tryz.func11, Tryz.ntmps11
        go_wp2_with fail
        refine (C.out).mono ?_
        rintro e w1 ⟨rfl, b1⟩
        go_wp2_with fail
        go_ret
        exact ⟨ret_i64 H.out.symm, b1⟩
      · rw [if_neg (by intro q; injection q with q; exact he q)] at H
        have hne : (e != n) = true := by rw [bne_iff_ne]; exact he
        clear he
        go_enter Tryz.func11, Tryz.ntmps11
        go_wp2_with fail
        refine (C.out).mono ?_
        rintro e w1 ⟨rfl, b1⟩
        go_wp2_with fail
        go_ret
        exact ⟨ret_i64 H.out.symm, b1⟩

def slFaults (V : List Sl) : Int := faults (V.map (·.P))
theorem slFaults_at {V : List Sl} {k : Nat} (h : k < V.length) : slFaults (V.drop k) = or2 (valFault V[k].P) (slFaults (V.drop (k + 1))) := by
  unfold slFaults; rw [List.drop_eq_getElem_cons h]; rfl
theorem slFaults_end {V : List Sl} {k : Nat} (h : V.length ≤ k) : slFaults (V.drop k) = 0 := by
  unfold slFaults; rw [List.drop_of_length_le h]; rfl

end Go.Proofs.YtbjbimabgfpdoaaGreatDoor
