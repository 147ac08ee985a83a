/-
  The order of nodes once more: what was there is as it was, and draws are only added.
-/
import Derived.Test.YtocchkmhnneiiaaNode
namespace Go.Proofs.Ytocchkmhnneiiaa
open Go.RowKit Go.Wk Go.Sort
set_option maxRecDepth 100000

/-- What was there is as it was, and draws are only added. -/
structure BelowD (w w' : World) : Prop where
  b : Below w.heap.size w w'
  d : w.drawn ≤ w'.drawn
theorem BelowD.grow {w w' : World} (h : BelowD w w') : ∃ q os, w' = grow (w.drewN q) os := by
  obtain ⟨p, hp⟩ := regrown_of_below h.b
  have e : p.d = w'.drawn := by rw [hp]; rfl
  refine ⟨w'.drawn - w.drawn, p.os, ?_⟩
  have e2 : redrawn w p.d = w.drewN (w'.drawn - w.drawn) := by
    unfold redrawn World.drewN
    rw [e, show w.drawn + (w'.drawn - w.drawn) = w'.drawn by have := h.d; omega]
  rw [← e2]; exact hp

set_option maxHeartbeats 800000 in
theorem val_compareD (x y : Nd) (w : World) :
    Calls Try.prog 58 #[ndV x, ndV y] w fun e w' => e = .returned (.int .i64 (cmpNd x y)) ∧ BelowD w w' := by
  unfold ndV
  go_enter Try.func58, Try.ntmps58
  go_wp2
  refine still_tail 20 (by kernel_rfl) (by kernel_rfl) ?_
  simp only [List.take_succ_cons, List.take_zero, List.drop_succ_cons, List.drop_zero]
  iterate 4 still_step
  still_call (cmp_Compare_int _ _ _)
  iterate 4 still_step
  still_call (cmp_Compare_int _ _ _)
  iterate 4 still_step
  still_call (strings_Compare _ _ _)
  iterate 4 still_step
  still_call (strings_Compare _ _ _)
  refine wpStill_nil ?_
  go_wp2_with (go_at_call 65; refine (cmp_Or4 (cmpI x.op y.op) (cmpI x.n y.n) (cmpB x.s y.s) (cmpB x.t y.t) _ _ (by go_simp) (by go_simp) (by go_simp) (by go_simp)).mono ?_; rintro e w' ⟨rfl, rfl⟩)
  go_ret
  exact ⟨rfl, ((((Below.refl _ _).alloc (Nat.le_refl _) _).alloc (by simp) _).alloc (by simp; omega) _).drew, Nat.le_succ _⟩

set_option maxHeartbeats 1000000 in
theorem val_CompareFuncD (A B : Option Addr) (n m c d : Nat) (P Q : List Nd) (w : World) (hn : n = P.length) (hm : m = Q.length) (hln : n ≤ maxLen) (_hlm : m ≤ maxLen) (hP : NdsAt w A P) (hQ : NdsAt w B Q) :
    Calls Try.prog 57 #[.slice A n c, .slice B m d, .func (.func 58) #[] #[]] w fun e w' => e = .returned (.int .i64 (cmpNds P Q)) ∧ BelowD w w' := by
  unfold maxLen at hln _hlm
  have HP := Lib.hid hP
  have HQ := Lib.hid hQ
  have HN := Lib.hid hn
  have HM := Lib.hid hm
  clear hP hQ hn hm
  go_enter Try.func57, Try.ntmps57
  go_wp2
  go_loopw [7, 8, 9, 10, 13] (fun _ _ _ _ i wr => ∃ k : Nat, k ≤ n ∧ k ≤ m ∧ i = .int .i64 k ∧ Hid (cmpNds P Q = cmpNds (P.drop k) (Q.drop k)) ∧ Hid (w.drawn ≤ wr.drawn) ∧ Below w.heap.size w wr) (fun _ _ _ _ i _ => n - (intOf i).toNat)
  case atStart => exact ⟨0, Nat.zero_le _, Nat.zero_le _, rfl, rfl, Nat.le_refl _, Below.refl _ _⟩
  case round =>
    obtain ⟨k, hkn, hkm, rfl, hc, hdr, hbel⟩ := hrel
    obtain ⟨wo, rfl⟩ : ∃ wo : World, wo = wr := ⟨_, rfl⟩
    by_cases h1 : k < n
    · have h1' : k < P.length := by rw [← HN.out]; exact h1
      obtain ⟨a, rfl, a1, a2, a3, a4⟩ := (HP.out.keep hbel) k P[k] (List.getElem?_eq_getElem h1')
      by_cases h2 : k < m
      · have h2' : k < Q.length := by rw [← HM.out]; exact h2
        obtain ⟨b, rfl, b1, b2, b3, b4⟩ := (HQ.out.keep hbel) k Q[k] (List.getElem?_eq_getElem h2')
        have HA := Lib.hid (hc.out.trans (cmpNds_at h1' h2'))
        have g : ∀ (o : Obj) (x : Addr) (v : Value), wo.cell? x = some v → (wo.alloc o).cell? x = some v := fun o x v h => cell_keep ((Below.refl _ _).alloc (Nat.le_refl _) o) h
        replace b1 := fun o => g o _ _ b1
        replace b2 := fun o => g o _ _ b2
        replace b3 := fun o => g o _ _ b3
        replace b4 := fun o => g o _ _ b4
        clear hc g
        go_wp2_with fail
        refine (val_compareD P[k] Q[k] _).mono ?_
        rintro e w1 ⟨rfl, hb1, hd1⟩
        have hdw := Lib.hid (Nat.le_trans hdr.out hd1)
        clear hd1
        have hbw := Lib.hid ((hbel.alloc (by have := hbel.size; omega) _).alloc (by have := hbel.size; simp; omega) _ |>.trans (hb1.mono (by have := hbel.size; simp; omega)))
        clear hb1 b1 b2 b3 b4 a1 a2 a3 a4
        by_cases h0 : cmpNd P[k] Q[k] = 0
        · have HC := Lib.hid (HA.out.trans (by rw [h0]; rfl : _ = cmpNds (P.drop (k + 1)) (Q.drop (k + 1))))
          rw [h0]
          clear h0 HA
          go_wp2
          go_roundw
          case rel => exact ⟨k + 1, by omega, by omega, by go_num, HC, hdw, hbw.out⟩
          case measure => simp [intOf]; omega
        · have HC := Lib.hid (HA.out.trans (or2_ne h0 _))
          have h0' : (cmpNd P[k] Q[k] == 0) = false := beq_eq_false_iff_ne.2 h0
          clear HA
          go_wp2
          go_ret
          exact ⟨ret_i64 HC.out.symm, hbw.out, hdw.out⟩
      · have HA := Lib.hid (hc.out.trans (cmpNds_end2 h1' (by rw [← HM.out]; omega)))
        clear hc
        go_wp2
        go_ret
        exact ⟨ret_i64 HA.out.symm, hbel.alloc (by have := hbel.size; omega) _, hdr.out⟩
    · obtain rfl : k = n := by omega
      by_cases h2 : k < m
      · have HA := Lib.hid (hc.out.trans (cmpNds_end1 (by rw [← HN.out]; omega) (by rw [← HM.out]; exact h2)))
        clear hc
        go_wp2
        go_ret
        exact ⟨ret_i64 HA.out.symm, hbel, hdr.out⟩
      · have HA := Lib.hid (hc.out.trans (cmpNds_end0 (by rw [← HN.out]; omega) (by rw [← HM.out]; omega)))
        clear hc
        go_wp2
        go_ret
        exact ⟨ret_i64 HA.out.symm, hbel, hdr.out⟩

theorem val_orderD (A B : Option Addr) (n m c d : Nat) (P Q : List Nd) (w : World) (hn : n = P.length) (hm : m = Q.length) (hln : n ≤ maxLen) (hlm : m ≤ maxLen) (hP : NdsAt w A P) (hQ : NdsAt w B Q) :
    Calls Try.prog 41 #[.slice A n c, .slice B m d] w fun e w' => e = .returned (.int .i64 (cmpNds P Q)) ∧ BelowD w w' := by
  have H := val_CompareFuncD A B n m c d P Q w hn hm hln hlm hP hQ
  clear hn hm hP hQ
  go_enter Try.func41, Try.ntmps41
  go_wp2_with fail
  refine H.mono ?_
  rintro e w1 ⟨rfl, hb1⟩
  go_wp2
  go_ret
  exact ⟨rfl, hb1⟩
end Go.Proofs.Ytocchkmhnneiiaa
