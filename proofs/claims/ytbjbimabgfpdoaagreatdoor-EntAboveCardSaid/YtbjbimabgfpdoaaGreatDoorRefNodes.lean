/-
  The reference's order of nodes.
-/
import Derived.Test.YtbjbimabgfpdoaaGreatDoorAid
import Derived.Test.YtbjbimabgfpdoaaGreatDoorOrd
namespace Go.Proofs.YtbjbimabgfpdoaaGreatDoor
open Go.RowKit Go.Wk Go.Sort
set_option maxRecDepth 100000

theorem cmpNds_ends {P Q : List Nd} {k : Nat} (h : P.length ≤ k ∨ Q.length ≤ k) (h1 : k ≤ P.length) (h2 : k ≤ Q.length) : cmpNds (P.drop k) (Q.drop k) = cmpI P.length Q.length := by
  by_cases a : P.length ≤ k
  · by_cases b : Q.length ≤ k
    · rw [cmpNds_end0 a b]; unfold cmpI; split <;> (try split) <;> omega
    · rw [cmpNds_end1 a (by omega)]; unfold cmpI; rw [if_pos (by omega)]
  · rw [cmpNds_end2 (by omega) (by omega)]; unfold cmpI; rw [if_neg (by omega), if_pos (by omega)]
set_option maxRecDepth 100000 in
set_option maxHeartbeats 4000000 in
theorem ref_Nodes (A B : Option Addr) (n m c d : Nat) (P Q : List Nd) (w : World) (hn : n = P.length) (hm : m = Q.length) (hln : n ≤ maxLen) (_hlm : m ≤ maxLen) (hP : NdsAt w A P) (hQ : NdsAt w B Q) (oP : NdsOk P) (oQ : NdsOk Q) :
    Calls Tryz.prog 63 #[.slice A n c, .slice B m d] w fun e w' => e = .returned (.int .i64 (cmpNds P Q)) ∧ Below w.heap.size w w' := by
  unfold maxLen at hln _hlm
  have HN := Lib.hid hn
  have HM := Lib.hid hm
  have HP := Lib.hid hP
  have HQ := Lib.hid hQ
  have OP := Lib.hid oP
  have OQ := Lib.hid oQ
  clear hn hm hP hQ oP oQ
  go_enter Tryz.func63, Tryz.ntmps63
  go_wp2_with fail
  go_loopw [4, 5] (fun _ i wr => ∃ k : Nat, k ≤ n ∧ k ≤ m ∧ i = .int .i64 k ∧ Hid (cmpNds P Q = cmpNds (P.drop k) (Q.drop k)) ∧ Hid (Below w.heap.size w wr)) (fun _ i _ => n - (intOf i).toNat)
  case atStart => exact ⟨0, Nat.zero_le _, Nat.zero_le _, rfl, rfl, Below.refl _ _⟩
  case round =>
    obtain ⟨k, hkn, hkm, rfl, hc, hbel⟩ := hrel
    by_cases h1 : k < n
    · have h1' : k < P.length := by rw [← HN.out]; exact h1
      obtain ⟨a, rfl, D⟩ := (HP.out.keep hbel.out).nd h1'
      by_cases h2 : k < m
      · have h2' : k < Q.length := by rw [← HM.out]; exact h2
        obtain ⟨b, rfl, E⟩ := (HQ.out.keep hbel.out).nd h2'
        have HA := Lib.hid (hc.out.trans (cmpNds_at h1' h2'))
        have N1 := fun w => ref_Numbers P[k].op Q[k].op w
        have N2 := fun w => ref_Numbers P[k].n Q[k].n w
        have N3 := fun w => ref_Texts P[k].s Q[k].s w (OP.out.at h1').s (OQ.out.at h2').s
        have N4 := fun w => ref_Texts P[k].t Q[k].t w (OP.out.at h1').t (OQ.out.at h2').t
        have HX : cmpNd P[k] Q[k] = or4 (cmpI P[k].op Q[k].op) (cmpI P[k].n Q[k].n) (cmpB P[k].s Q[k].s) (cmpB P[k].t Q[k].t) := rfl
        rw [HX] at HA
        generalize P[k] = x at *
        generalize Q[k] = y at *
        generalize cmpI x.op y.op = v1 at *
        generalize cmpI x.n y.n = v2 at *
        generalize cmpB x.s y.s = v3 at *
        generalize cmpB x.t y.t = v4 at *
        clear hc HX
        have k1 := cell_regrown D.c0
        have k2 := cell_regrown E.c0
        have s1 := rqs (w := wr) N1
        have M2 := Lib.hid N2
        have M3 := Lib.hid N3
        have M4 := Lib.hid N4
        have HD := Lib.hid D
        have HE := Lib.hid E
        clear N1 N2 N3 N4 D E
        go_wp2_with fail
        refine wp_region_quiet_below (by kernel_rfl) (by kernel_rfl) ?_
        repeat (first | go_big_quiet_step (exact s1 _ _) | quiet_step (exact s1 _ _))
        refine wpQuiet_nil ?_
        intro w1 hw'
        have B1 := Lib.hid (show Below wr.heap.size wr w1 by obtain ⟨⟨d, os⟩, rfl⟩ := hw'; exact below_regrown _ _ _)
        clear hw'
        clear k1 k2 s1
        by_cases e1 : v1 = 0
        · subst e1
          have k1 := cell_regrown (HD.out.keep B1.out).c1
          have k2 := cell_regrown (HE.out.keep B1.out).c1
          have s1 := rqs (w := w1) M2.out
          go_wp2_with fail
          refine wp_region_quiet_below (by kernel_rfl) (by kernel_rfl) ?_
          repeat (first | go_big_quiet_step (exact s1 _ _) | quiet_step (exact s1 _ _))
          refine wpQuiet_nil ?_
          intro w2 hw'
          have B2 := Lib.hid (show Below w1.heap.size w1 w2 by obtain ⟨⟨d, os⟩, rfl⟩ := hw'; exact below_regrown _ _ _)
          clear hw'
          replace B2 := bh B1 B2.out
          clear k1 k2 s1
          by_cases e2 : v2 = 0
          · subst e2
            have k1 := cell_regrown (HD.out.keep B2.out).c2
            have k2 := cell_regrown (HE.out.keep B2.out).c2
            have s1 := rq (w := w2) (fun w' _ => M3.out w')
            go_wp2_with fail
            refine wp_region_quiet_below (by kernel_rfl) (by kernel_rfl) ?_
            repeat (first | go_big_quiet_step (exact s1 _ _) | quiet_step (exact s1 _ _))
            refine wpQuiet_nil ?_
            intro w3 hw'
            have B3 := Lib.hid (show Below w2.heap.size w2 w3 by obtain ⟨⟨d, os⟩, rfl⟩ := hw'; exact below_regrown _ _ _)
            clear hw'
            replace B3 := bh B2 B3.out
            clear k1 k2 s1
            by_cases e3 : v3 = 0
            · subst e3
              have k1 := cell_regrown (HD.out.keep B3.out).c3
              have k2 := cell_regrown (HE.out.keep B3.out).c3
              have s1 := rq (w := w3) (fun w' _ => M4.out w')
              go_wp2_with fail
              refine wp_region_quiet_below (by kernel_rfl) (by kernel_rfl) ?_
              repeat (first | go_big_quiet_step (exact s1 _ _) | quiet_step (exact s1 _ _))
              refine wpQuiet_nil ?_
              intro w4 hw'
              have B4 := Lib.hid (show Below w3.heap.size w3 w4 by obtain ⟨⟨d, os⟩, rfl⟩ := hw'; exact below_regrown _ _ _)
              clear hw'
              replace B4 := bh B3 B4.out
              clear k1 k2 s1
              by_cases e4 : v4 = 0
              · subst e4
                have HB := Lib.hid (HA.out.trans (show _ = cmpNds (P.drop (k + 1)) (Q.drop (k + 1)) from rfl))
                go_wp2_with fail
                go_roundw
                case rel => exact ⟨k + 1, by omega, by omega, by go_num, HB, bhid hbel B4 (Nat.le_refl _)⟩
                case measure => simp [intOf]; omega
              · have HB := Lib.hid (HA.out.trans (show _ = v4 by unfold or4; rw [or2_zero, or2_zero, or2_zero, or2_ne e4]))
                have e4' : (v4 != 0) = true := by rw [bne_iff_ne]; exact e4
                clear e4
                go_wp2_with fail
                go_ret
                exact ⟨ret_i64 HB.out.symm, (bhid hbel B4 (Nat.le_refl _)).out⟩
            · have HB := Lib.hid (HA.out.trans (show _ = v3 by unfold or4; rw [or2_zero, or2_zero, or2_ne e3, or2_ne e3]))
              have e3' : (v3 != 0) = true := by rw [bne_iff_ne]; exact e3
              have e3'' : (v3 == 0) = false := beq_eq_false_iff_ne.2 e3
              clear e3
              go_wp2_with fail
              go_ret
              exact ⟨ret_i64 HB.out.symm, (bhid hbel B3 (Nat.le_refl _)).out⟩
          · have HB := Lib.hid (HA.out.trans (show _ = v2 by unfold or4; rw [or2_zero, or2_ne e2, or2_ne e2]))
            have e3' : (v2 != 0) = true := by rw [bne_iff_ne]; exact e2
            have e3'' : (v2 == 0) = false := beq_eq_false_iff_ne.2 e2
            clear e2
            go_wp2_with fail
            go_ret
            exact ⟨ret_i64 HB.out.symm, (bhid hbel B2 (Nat.le_refl _)).out⟩
        · have HB := Lib.hid (HA.out.trans (show _ = v1 by unfold or4; rw [or2_ne e1, or2_ne e1]))
          have e3' : (v1 != 0) = true := by rw [bne_iff_ne]; exact e1
          have e3'' : (v1 == 0) = false := beq_eq_false_iff_ne.2 e1
          clear e1
          go_wp2_with fail
          go_ret
          exact ⟨ret_i64 HB.out.symm, (bhid hbel B1 (Nat.le_refl _)).out⟩
      · have HB := Lib.hid (hc.out.trans (cmpNds_ends (.inr (by rw [← HM.out]; omega)) (by rw [← HN.out]; omega) (by rw [← HM.out]; omega)))
        rw [← HN.out, ← HM.out] at HB
        clear hc
        go_wp2_with fail
        refine (ref_Numbers _ _ _).mono ?_
        rintro e w1 ⟨rfl, rfl⟩
        go_wp2_with fail
        go_ret
        exact ⟨ret_i64 HB.out.symm, hbel.out⟩
    · have HB := Lib.hid (hc.out.trans (cmpNds_ends (.inl (by rw [← HN.out]; omega)) (by rw [← HN.out]; omega) (by rw [← HM.out]; omega)))
      rw [← HN.out, ← HM.out] at HB
      clear hc
      go_wp2_with fail
      refine (ref_Numbers _ _ _).mono ?_
      rintro e w1 ⟨rfl, rfl⟩
      go_wp2_with fail
      go_ret
      exact ⟨ret_i64 HB.out.symm, hbel.out⟩
end Go.Proofs.YtbjbimabgfpdoaaGreatDoor
