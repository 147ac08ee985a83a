/-
  The reference's ValueNode and UidFault.
  The reference's order of nodes.
  The reference's ValueEnd, ValueFault and Faults.
  The reference's ValueEnd at sets and records; ValueFault.
  The reference's ValueEnd outright; ValueFault and Faults.
  The reference's Parts; lists of lists alike.
-/
import Derived.Test.YtnolmlhcikcceaaGreatDoorQs19
namespace Go.Proofs.YtnolmlhcikcceaaGreatDoor
open Go.RowKit Go.Wk Go.Sort
set_option maxRecDepth 100000

theorem ref_UidFault (s t : ByteArray) (w : World) (hs : s.size ≤ maxLen) (ht : t.size ≤ maxLen) :
    Calls Tryz.prog 76 #[.agg #[.string s, .string t]] w fun e w' => e = .returned (.int .i64 (or2 (nameFault s) (textFault t))) ∧ Below w.heap.size w w' := by
  have N := Lib.hid (fun w => ref_NameFault s w hs)
  have T := Lib.hid (fun w => ref_TextFault t w ht)
  by_cases h1 : nameFault s = 0
  · rw [h1] at N
    have H := Lib.hid (show or2 (nameFault s) (textFault t) = textFault t by rw [h1, or2_zero])
    clear h1
    go_enter Tryz.func76, Tryz.ntmps76
    go_wp2_with fail
    refine (N.out _).mono ?_
    rintro e w1 ⟨rfl, rfl⟩
    go_wp2_with fail
    refine (T.out _).mono ?_
    rintro e w2 ⟨rfl, b2⟩
    go_wp2_with fail
    go_ret
    exact ⟨ret_i64 H.out.symm, below_box2 b2⟩
  · have H := Lib.hid (show or2 (nameFault s) (textFault t) = nameFault s from or2_ne h1 _)
    have h2 : (nameFault s == 0) = false := beq_eq_false_iff_ne.2 h1
    clear h1
    go_enter Tryz.func76, Tryz.ntmps76
    go_wp2_with fail
    refine (N.out _).mono ?_
    rintro e w1 ⟨rfl, rfl⟩
    go_wp2_with fail
    go_ret
    exact ⟨ret_i64 H.out.symm, below_box _ _⟩

theorem refNode_bool (n : Int) (s t : ByteArray) (w : World) :
    Calls Tryz.prog 161 #[.agg #[.int .i64 1, .int .i64 n, .string s, .string t]] w fun e w' => e = .returned (.bool ((decide (n = 0) || decide (n = 1)) && noB s && noB t)) ∧ Below w.heap.size w w' := by
  rcases empty_or s with rfl | ⟨s1, s2, s3⟩ <;> rcases empty_or t with rfl | ⟨t1, t2, t3⟩
  · by_cases h0 : 0 ≤ n
    · by_cases h1 : n ≤ 1
      · go_enter Tryz.func161, Tryz.ntmps161
        go_wp2
        go_ret
        exact ⟨ret_bool (by have : n = 0 ∨ n = 1 := by omega
                            rcases this with rfl | rfl <;> rfl), below_box _ _⟩
      · go_enter Tryz.func161, Tryz.ntmps161
        go_wp2
        go_ret
        exact ⟨ret_bool (by rw [decide_eq_false (show ¬ n = 0 by omega), decide_eq_false (show ¬ n = 1 by omega)]; rfl), below_box _ _⟩
    · go_enter Tryz.func161, Tryz.ntmps161
      go_wp2
      go_ret
      exact ⟨ret_bool (by rw [decide_eq_false (show ¬ n = 0 by omega), decide_eq_false (show ¬ n = 1 by omega)]; rfl), below_box _ _⟩
  all_goals
    go_enter Tryz.func161, Tryz.ntmps161
    go_wp2
    go_ret
    exact ⟨ret_bool (by simp [*]), below_box _ _⟩
theorem refNode_num (n : Int) (s t : ByteArray) (w : World) :
    Calls Tryz.prog 161 #[.agg #[.int .i64 2, .int .i64 n, .string s, .string t]] w fun e w' => e = .returned (.bool (noB s && noB t)) ∧ Below w.heap.size w w' := by
  rcases empty_or s with rfl | ⟨s1, s2, s3⟩ <;> rcases empty_or t with rfl | ⟨t1, t2, t3⟩
  all_goals
    go_enter Tryz.func161, Tryz.ntmps161
    go_wp2
    go_ret
    exact ⟨ret_bool (by simp [*, noB_empty]), below_box _ _⟩
theorem refNode_many (o n : Int) (s t : ByteArray) (w : World) (ho : o = 5 ∨ o = 6) :
    Calls Tryz.prog 161 #[.agg #[.int .i64 o, .int .i64 n, .string s, .string t]] w fun e w' => e = .returned (.bool (decide (0 ≤ n) && noB s && noB t)) ∧ Below w.heap.size w w' := by
  by_cases h0 : 0 ≤ n
  · rcases ho with rfl | rfl <;> rcases empty_or s with rfl | ⟨s1, s2, s3⟩ <;> rcases empty_or t with rfl | ⟨t1, t2, t3⟩
    all_goals
      go_enter Tryz.func161, Tryz.ntmps161
      go_wp2
      go_ret
      exact ⟨ret_bool (by simp [*, noB_empty]), below_box _ _⟩
  · rcases ho with rfl | rfl <;> rcases empty_or s with rfl | ⟨s1, s2, s3⟩ <;> rcases empty_or t with rfl | ⟨t1, t2, t3⟩
    all_goals
      go_enter Tryz.func161, Tryz.ntmps161
      go_wp2
      go_ret
      exact ⟨ret_bool (by first | rfl | (rw [decide_eq_false (show ¬ 0 ≤ n by omega)]; rfl)), below_box _ _⟩
theorem refNode_text (n : Int) (s t : ByteArray) (w : World) (hs : s.size ≤ maxLen) :
    Calls Tryz.prog 161 #[.agg #[.int .i64 3, .int .i64 n, .string s, .string t]] w fun e w' => e = .returned (.bool (decide (n = 0) && noB t && decide (textFault s = 0))) ∧ Below w.heap.size w w' := by
  have P := Lib.hid (fun w => ref_TextFault s w hs)
  by_cases h0 : n = 0
  · subst h0
    rcases empty_or s with rfl | ⟨s1, s2, s3⟩ <;> rcases empty_or t with rfl | ⟨t1, t2, t3⟩
    · have e : textFault ⟨#[]⟩ = 0 := by decide
      rw [e] at P
      go_enter Tryz.func161, Tryz.ntmps161
      go_wp2_with fail
      refine (P.out _).mono ?_
      rintro e w1 ⟨rfl, hb⟩
      go_wp2
      go_ret
      exact ⟨ret_bool (by simp [e, noB_empty]), below_box2 hb⟩
    · go_enter Tryz.func161, Tryz.ntmps161
      go_wp2
      go_ret
      exact ⟨ret_bool (by simp [t3]), below_box _ _⟩
    · by_cases h1 : textFault s = 0
      · rw [h1] at P
        go_enter Tryz.func161, Tryz.ntmps161
        go_wp2_with fail
        refine (P.out _).mono ?_
        rintro e w1 ⟨rfl, hb⟩
        go_wp2
        go_ret
        exact ⟨ret_bool (by simp [h1, noB_empty]), below_box2 hb⟩
      · have h2 : (textFault s == 0) = false := beq_eq_false_iff_ne.2 h1
        go_enter Tryz.func161, Tryz.ntmps161
        go_wp2_with fail
        refine (P.out _).mono ?_
        rintro e w1 ⟨rfl, hb⟩
        go_wp2
        go_ret
        exact ⟨ret_bool (by simp [h1]), below_box2 hb⟩
    · go_enter Tryz.func161, Tryz.ntmps161
      go_wp2
      go_ret
      exact ⟨ret_bool (by simp [t3]), below_box _ _⟩
  · have e0 : (n != 0) = true := by rw [bne_iff_ne]; exact h0
    rcases empty_or s with rfl | ⟨s1, s2, s3⟩ <;> rcases empty_or t with rfl | ⟨t1, t2, t3⟩
    all_goals
      go_enter Tryz.func161, Tryz.ntmps161
      go_wp2
      go_ret
      exact ⟨ret_bool (by simp [h0]), below_box _ _⟩
theorem refNode_ent (n : Int) (s t : ByteArray) (w : World) (hs : s.size ≤ maxLen) (ht : t.size ≤ maxLen) :
    Calls Tryz.prog 161 #[.agg #[.int .i64 4, .int .i64 n, .string s, .string t]] w fun e w' => e = .returned (.bool (decide (n = 0) && decide (nameFault s = 0) && decide (textFault t = 0))) ∧ Below w.heap.size w w' := by
  have P := Lib.hid (fun w => ref_UidFault s t w hs ht)
  have H := Lib.hid (show (or2 (nameFault s) (textFault t) == 0) = (decide (nameFault s = 0) && decide (textFault t = 0)) by
    by_cases h : nameFault s = 0
    · rw [h, or2_zero]; simp; rfl
    · rw [or2_ne h, beq_eq_false_iff_ne.2 h]; simp [h])
  by_cases h0 : n = 0
  · subst h0
    rcases empty_or s with rfl | ⟨s1, s2, s3⟩ <;> rcases empty_or t with rfl | ⟨t1, t2, t3⟩
    all_goals
      go_enter Tryz.func161, Tryz.ntmps161
      go_wp2_with fail
      refine (P.out _).mono ?_
      rintro e w1 ⟨rfl, hb⟩
      go_wp2
      go_ret
      exact ⟨ret_bool (by rw [H.out]; simp), below_box2 hb⟩
  · have e0 : (n != 0) = true := by rw [bne_iff_ne]; exact h0
    rcases empty_or s with rfl | ⟨s1, s2, s3⟩ <;> rcases empty_or t with rfl | ⟨t1, t2, t3⟩
    all_goals
      go_enter Tryz.func161, Tryz.ntmps161
      go_wp2
      go_ret
      exact ⟨ret_bool (by simp [h0]), below_box _ _⟩
theorem refNode_field (n : Int) (s t : ByteArray) (w : World) (hs : s.size ≤ maxLen) :
    Calls Tryz.prog 161 #[.agg #[.int .i64 7, .int .i64 n, .string s, .string t]] w fun e w' => e = .returned (.bool (decide (n = 0) && noB t && decide (nameFault s = 0))) ∧ Below w.heap.size w w' := by
  have P := Lib.hid (fun w => ref_NameFault s w hs)
  have H : (nameFault s == 0) = decide (nameFault s = 0) := rfl
  by_cases h0 : n = 0
  · subst h0
    rcases empty_or s with rfl | ⟨s1, s2, s3⟩ <;> rcases empty_or t with rfl | ⟨t1, t2, t3⟩
    · have e : nameFault ⟨#[]⟩ = 1 := by decide
      rw [e] at P
      go_enter Tryz.func161, Tryz.ntmps161
      go_wp2_with fail
      refine (P.out _).mono ?_
      rintro e w1 ⟨rfl, rfl⟩
      go_wp2
      go_ret
      exact ⟨ret_bool (by simp [e]), below_box _ _⟩
    · go_enter Tryz.func161, Tryz.ntmps161
      go_wp2
      go_ret
      exact ⟨ret_bool (by simp [t3]), below_box _ _⟩
    · by_cases h1 : nameFault s = 0
      · rw [h1] at P
        go_enter Tryz.func161, Tryz.ntmps161
        go_wp2_with fail
        refine (P.out _).mono ?_
        rintro e w1 ⟨rfl, rfl⟩
        go_wp2
        go_ret
        exact ⟨ret_bool (by simp [h1, noB_empty]), below_box _ _⟩
      · have h2 : (nameFault s == 0) = false := beq_eq_false_iff_ne.2 h1
        go_enter Tryz.func161, Tryz.ntmps161
        go_wp2_with fail
        refine (P.out _).mono ?_
        rintro e w1 ⟨rfl, rfl⟩
        go_wp2
        go_ret
        exact ⟨ret_bool (by simp [h1]), below_box _ _⟩
    · go_enter Tryz.func161, Tryz.ntmps161
      go_wp2
      go_ret
      exact ⟨ret_bool (by simp [t3]), below_box _ _⟩
  · have e0 : (n != 0) = true := by rw [bne_iff_ne]; exact h0
    rcases empty_or s with rfl | ⟨s1, s2, s3⟩ <;> rcases empty_or t with rfl | ⟨t1, t2, t3⟩
    all_goals
      go_enter Tryz.func161, Tryz.ntmps161
      go_wp2
      go_ret
      exact ⟨ret_bool (by simp [h0]), below_box _ _⟩
theorem refNode_other (o n : Int) (s t : ByteArray) (w : World) (h1 : (o == 1) = false) (h2 : (o == 2) = false) (h3 : (o == 3) = false) (h4 : (o == 4) = false) (h5 : (o == 5) = false) (h6 : (o == 6) = false) (h7 : (o == 7) = false) :
    Calls Tryz.prog 161 #[.agg #[.int .i64 o, .int .i64 n, .string s, .string t]] w fun e w' => e = .returned (.bool false) ∧ Below w.heap.size w w' := by
  by_cases h0 : n = 0
  · subst h0
    rcases empty_or s with rfl | ⟨s1, s2, s3⟩ <;> rcases empty_or t with rfl | ⟨t1, t2, t3⟩
    all_goals
      go_enter Tryz.func161, Tryz.ntmps161
      go_wp2
      go_ret
      exact ⟨rfl, below_box _ _⟩
  · have e0 : (n != 0) = true := by rw [bne_iff_ne]; exact h0
    rcases empty_or s with rfl | ⟨s1, s2, s3⟩ <;> rcases empty_or t with rfl | ⟨t1, t2, t3⟩
    all_goals
      go_enter Tryz.func161, Tryz.ntmps161
      go_wp2
      go_ret
      exact ⟨rfl, below_box _ _⟩
theorem ref_ValueNode (x : Nd) (w : World) (hs : x.s.size ≤ maxLen) (ht : x.t.size ≤ maxLen) :
    Calls Tryz.prog 161 #[ndV x] w fun e w' => e = .returned (.bool (shapedN x)) ∧ Below w.heap.size w w' := by
  obtain ⟨o, n, s, t⟩ := x
  unfold ndV shapedN
  simp only at hs ht ⊢
  by_cases h1 : o = 1
  · subst h1; rw [if_pos rfl]; exact refNode_bool n s t w
  rw [if_neg h1]
  by_cases h2 : o = 2
  · subst h2; rw [if_pos rfl]; exact refNode_num n s t w
  rw [if_neg h2]
  by_cases h3 : o = 3
  · subst h3; rw [if_pos rfl]; exact refNode_text n s t w hs
  rw [if_neg h3]
  by_cases h4 : o = 4
  · subst h4; rw [if_pos rfl]; exact refNode_ent n s t w hs ht
  rw [if_neg h4]
  by_cases h5 : o = 5 ∨ o = 6
  · rw [if_pos h5]; exact refNode_many o n s t w h5
  rw [if_neg h5]
  by_cases h7 : o = 7
  · subst h7; rw [if_pos rfl]; exact refNode_field n s t w hs
  rw [if_neg h7]
  exact refNode_other o n s t w (beq_eq_false_iff_ne.2 h1) (beq_eq_false_iff_ne.2 h2) (beq_eq_false_iff_ne.2 h3) (beq_eq_false_iff_ne.2 h4) (beq_eq_false_iff_ne.2 fun q => h5 (.inl q)) (beq_eq_false_iff_ne.2 fun q => h5 (.inr q)) (beq_eq_false_iff_ne.2 h7)
end Go.Proofs.YtnolmlhcikcceaaGreatDoor
namespace Go.Proofs.YtnolmlhcikcceaaGreatDoor
open Go.RowKit Go.Wk Go.Sort
set_option maxRecDepth 100000

theorem cmpNds_ends {P Q : List Nd} {k : Nat} (h : P.length ≤ k ∨ Q.length ≤ k) (h1 : k ≤ P.length) (h2 : k ≤ Q.length) : cmpNds (P.drop k) (Q.drop k) = cmpI P.length Q.length := by
  by_cases a : P.length ≤ k
  · by_cases b : Q.length ≤ k
    · rw [cmpNds_end0 a b]; unfold cmpI; split <;> (try split) <;> omega
    · rw [cmpNds_end1 a (by omega)]; unfold cmpI; rw [if_pos (by omega)]
  · rw [cmpNds_end2 (by omega) (by omega)]; unfold cmpI; rw [if_neg (by omega), if_pos (by omega)]
set_option maxRecDepth 100000 in
set_option maxHeartbeats 4000000 in
theorem ref_Nodes (A B : Option Addr) (n m c d : Nat) (P Q : List Nd) (w : World) (hn : n = P.length) (hm : m = Q.length) (hln : n ≤ maxLen) (_hlm : m ≤ maxLen) (hP : NdsAt w A P) (hQ : NdsAt w B Q) (oP : NdsOk P) (oQ : NdsOk Q) :
    Calls Tryz.prog 137 #[.slice A n c, .slice B m d] w fun e w' => e = .returned (.int .i64 (cmpNds P Q)) ∧ Below w.heap.size w w' := by
  unfold maxLen at hln _hlm
  have HN := Lib.hid hn
  have HM := Lib.hid hm
  have HP := Lib.hid hP
  have HQ := Lib.hid hQ
  have OP := Lib.hid oP
  have OQ := Lib.hid oQ
  clear hn hm hP hQ oP oQ
  go_enter Tryz.func137, Tryz.ntmps137
  go_wp2_with fail
  go_loopw [4, 5] (fun _ i wr => ∃ k : Nat, k ≤ n ∧ k ≤ m ∧ i = .int .i64 k ∧ Hid (cmpNds P Q = cmpNds (P.drop k) (Q.drop k)) ∧ Hid (Below w.heap.size w wr)) (fun _ i _ => n - (intOf i).toNat)
  case atStart => exact ⟨0, Nat.zero_le _, Nat.zero_le _, rfl, rfl, Below.refl _ _⟩
  case round =>
    obtain ⟨k, hkn, hkm, rfl, hc, hbel⟩ := hrel
    by_cases h1 : k < n
    · have h1' : k < P.length := by rw [← HN.out]; exact h1
      obtain ⟨a, rfl, D⟩ := (HP.out.keep hbel.out).nd h1'
      by_cases h2 : k < m
      · have h2' : k < Q.length := by rw [← HM.out]; exact h2
        obtain ⟨b, rfl, E⟩ := (HQ.out.keep hbel.out).nd h2'
        have HA := Lib.hid (hc.out.trans (cmpNds_at h1' h2'))
        have N1 := fun w => ref_Numbers P[k].op Q[k].op w
        have N2 := fun w => ref_Numbers P[k].n Q[k].n w
        have N3 := fun w => ref_Texts P[k].s Q[k].s w (OP.out.at h1').s (OQ.out.at h2').s
        have N4 := fun w => ref_Texts P[k].t Q[k].t w (OP.out.at h1').t (OQ.out.at h2').t
        have HX : cmpNd P[k] Q[k] = or4 (cmpI P[k].op Q[k].op) (cmpI P[k].n Q[k].n) (cmpB P[k].s Q[k].s) (cmpB P[k].t Q[k].t) := rfl
        rw [HX] at HA
        generalize P[k] = x at *
        generalize Q[k] = y at *
        generalize cmpI x.op y.op = v1 at *
        generalize cmpI x.n y.n = v2 at *
        generalize cmpB x.s y.s = v3 at *
        generalize cmpB x.t y.t = v4 at *
        clear hc HX
        have k1 := cell_regrown D.c0
        have k2 := cell_regrown E.c0
        have s1 := rqs (w := wr) N1
        have M2 := Lib.hid N2
        have M3 := Lib.hid N3
        have M4 := Lib.hid N4
        have HD := Lib.hid D
        have HE := Lib.hid E
        clear N1 N2 N3 N4 D E
        go_wp2_with fail
        refine wp_region_quiet_below (by kernel_rfl) (by kernel_rfl) ?_
        repeat (first | go_big_quiet_step (exact s1 _ _) | quiet_step (exact s1 _ _))
        refine wpQuiet_nil ?_
        intro w1 hw'
        have B1 := Lib.hid (show Below wr.heap.size wr w1 by obtain ⟨⟨d, os⟩, rfl⟩ := hw'; exact below_regrown _ _ _)
        clear hw'
        clear k1 k2 s1
        by_cases e1 : v1 = 0
        · subst e1
          have k1 := cell_regrown (HD.out.keep B1.out).c1
          have k2 := cell_regrown (HE.out.keep B1.out).c1
          have s1 := rqs (w := w1) M2.out
          go_wp2_with fail
          refine wp_region_quiet_below (by kernel_rfl) (by kernel_rfl) ?_
          repeat (first | go_big_quiet_step (exact s1 _ _) | quiet_step (exact s1 _ _))
          refine wpQuiet_nil ?_
          intro w2 hw'
          have B2 := Lib.hid (show Below w1.heap.size w1 w2 by obtain ⟨⟨d, os⟩, rfl⟩ := hw'; exact below_regrown _ _ _)
          clear hw'
          replace B2 := bh B1 B2.out
          clear k1 k2 s1
          by_cases e2 : v2 = 0
          · subst e2
            have k1 := cell_regrown (HD.out.keep B2.out).c2
            have k2 := cell_regrown (HE.out.keep B2.out).c2
            have s1 := rq (w := w2) (fun w' _ => M3.out w')
            go_wp2_with fail
            refine wp_region_quiet_below (by kernel_rfl) (by kernel_rfl) ?_
            repeat (first | go_big_quiet_step (exact s1 _ _) | quiet_step (exact s1 _ _))
            refine wpQuiet_nil ?_
            intro w3 hw'
            have B3 := Lib.hid (show Below w2.heap.size w2 w3 by obtain ⟨⟨d, os⟩, rfl⟩ := hw'; exact below_regrown _ _ _)
            clear hw'
            replace B3 := bh B2 B3.out
            clear k1 k2 s1
            by_cases e3 : v3 = 0
            · subst e3
              have k1 := cell_regrown (HD.out.keep B3.out).c3
              have k2 := cell_regrown (HE.out.keep B3.out).c3
              have s1 := rq (w := w3) (fun w' _ => M4.out w')
              go_wp2_with fail
              refine wp_region_quiet_below (by kernel_rfl) (by kernel_rfl) ?_
              repeat (first | go_big_quiet_step (exact s1 _ _) | quiet_step (exact s1 _ _))
              refine wpQuiet_nil ?_
              intro w4 hw'
              have B4 := Lib.hid (show Below w3.heap.size w3 w4 by obtain ⟨⟨d, os⟩, rfl⟩ := hw'; exact below_regrown _ _ _)
              clear hw'
              replace B4 := bh B3 B4.out
              clear k1 k2 s1
              by_cases e4 : v4 = 0
              · subst e4
                have HB := Lib.hid (HA.out.trans (show _ = cmpNds (P.drop (k + 1)) (Q.drop (k + 1)) from rfl))
                go_wp2_with fail
                go_roundw
                case rel => exact ⟨k + 1, by omega, by omega, by go_num, HB, bhid hbel B4 (Nat.le_refl _)⟩
                case measure => simp [intOf]; omega
              · have HB := Lib.hid (HA.out.trans (show _ = v4 by unfold or4; rw [or2_zero, or2_zero, or2_zero, or2_ne e4]))
                have e4' : (v4 != 0) = true := by rw [bne_iff_ne]; exact e4
                clear e4
                go_wp2_with fail
                go_ret
                exact ⟨ret_i64 HB.out.symm, (bhid hbel B4 (Nat.le_refl _)).out⟩
            · have HB := Lib.hid (HA.out.trans (show _ = v3 by unfold or4; rw [or2_zero, or2_zero, or2_ne e3, or2_ne e3]))
              have e3' : (v3 != 0) = true := by rw [bne_iff_ne]; exact e3
              have e3'' : (v3 == 0) = false := beq_eq_false_iff_ne.2 e3
              clear e3
              go_wp2_with fail
              go_ret
              exact ⟨ret_i64 HB.out.symm, (bhid hbel B3 (Nat.le_refl _)).out⟩
          · have HB := Lib.hid (HA.out.trans (show _ = v2 by unfold or4; rw [or2_zero, or2_ne e2, or2_ne e2]))
            have e3' : (v2 != 0) = true := by rw [bne_iff_ne]; exact e2
            have e3'' : (v2 == 0) = false := beq_eq_false_iff_ne.2 e2
            clear e2
            go_wp2_with fail
            go_ret
            exact ⟨ret_i64 HB.out.symm, (bhid hbel B2 (Nat.le_refl _)).out⟩
        · have HB := Lib.hid (HA.out.trans (show _ = v1 by unfold or4; rw [or2_ne e1, or2_ne e1]))
          have e3' : (v1 != 0) = true := by rw [bne_iff_ne]; exact e1
          have e3'' : (v1 == 0) = false := beq_eq_false_iff_ne.2 e1
          clear e1
          go_wp2_with fail
          go_ret
          exact ⟨ret_i64 HB.out.symm, (bhid hbel B1 (Nat.le_refl _)).out⟩
      · have HB := Lib.hid (hc.out.trans (cmpNds_ends (.inr (by rw [← HM.out]; omega)) (by rw [← HN.out]; omega) (by rw [← HM.out]; omega)))
        rw [← HN.out, ← HM.out] at HB
        clear hc
        go_wp2_with fail
        refine (ref_Numbers _ _ _).mono ?_
        rintro e w1 ⟨rfl, rfl⟩
        go_wp2_with fail
        go_ret
        exact ⟨ret_i64 HB.out.symm, hbel.out⟩
    · have HB := Lib.hid (hc.out.trans (cmpNds_ends (.inl (by rw [← HN.out]; omega)) (by rw [← HN.out]; omega) (by rw [← HM.out]; omega)))
      rw [← HN.out, ← HM.out] at HB
      clear hc
      go_wp2_with fail
      refine (ref_Numbers _ _ _).mono ?_
      rintro e w1 ⟨rfl, rfl⟩
      go_wp2_with fail
      go_ret
      exact ⟨ret_i64 HB.out.symm, hbel.out⟩
end Go.Proofs.YtnolmlhcikcceaaGreatDoor
namespace Go.Wk
def fieldEnd (v : List Nd) (m p : Nat) : Option Nat :=
  match v[p]? with
  | none => none
  | some x => if decide (x.op = 7) && shapedN x then partEnd v m (p + 1) else none
def endI : Option Nat → Int
  | none => -1
  | some e => e
theorem nameFault_pos {s : ByteArray} (h : nameFault s = 0) : 0 < s.size := by
  rcases Nat.eq_zero_or_pos s.size with h0 | h0
  · exfalso; unfold nameFault at h; rw [nameOk_empty h0] at h; simp at h
  · exact h0
theorem cmpB_empty {s : ByteArray} (h : 0 < s.size) : cmpB .empty s < 0 := by
  unfold cmpB
  rcases hl : s.data.toList with _ | ⟨x, l⟩
  · have : s.data.toList.length = 0 := by rw [hl]; rfl
    rw [Array.length_toList] at this
    have h' : 0 < s.data.size := h
    omega
  · show Lib.compareBytes [] (x :: l) < 0
    simp [Lib.compareBytes]
theorem field_pos {x : Nd} (h7 : x.op = 7) (hs : shapedN x = true) : cmpB .empty x.s < 0 := by
  unfold shapedN at hs
  rw [h7] at hs
  simp at hs
  exact cmpB_empty (nameFault_pos hs.2)
theorem fieldEnd_some {v : List Nd} {m q e : Nat} (h : fieldEnd v m q = some e) : ∃ hq : q < v.length, v[q].op = 7 ∧ shapedN v[q] = true ∧ partEnd v m (q + 1) = some e := by
  unfold fieldEnd at h
  by_cases hq : q < v.length
  · rw [List.getElem?_eq_getElem hq] at h
    simp only at h
    split at h
    · rename_i hc
      simp at hc
      exact ⟨hq, hc.1, hc.2, h⟩
    · cases h
  · rw [List.getElem?_eq_none (by omega)] at h; cases h
theorem recLoop_none {v : List Nd} {N k m : Nat} {last : ByteArray} {q : Nat} (hk : k < N) (h : fieldEnd v m q = none) : recLoop v (partEnd v m) (N - k) last q = none := by
  rcases hf : fieldOk v last q with _ | s
  · exact recLoop_bad hk hf
  · refine recLoop_stop hk hf ?_
    unfold fieldOk at hf
    unfold fieldEnd at h
    split at hf
    · cases hf
    · rename_i x hx
      rw [hx] at h
      simp only at h
      split at hf
      · rename_i hc
        simp only [Bool.and_eq_true] at hc
        rw [if_pos (by rw [hc.1.1, hc.1.2]; rfl)] at h
        exact h
      · cases hf
end Go.Wk
namespace Go.Proofs.YtnolmlhcikcceaaGreatDoor
open Go.RowKit Go.Wk Go.Sort
set_option maxRecDepth 100000

theorem nd4_box (w : World) (x : Nd) (t : TypeId) : Nd4 (w.alloc (.cells #[.int .i64 x.op, .int .i64 x.n, .string x.s, .string x.t] t)) ⟨w.heap.size, 0, none⟩ x :=
  ⟨by simp, by simp, by simp, by simp⟩

theorem end_out (A : Option Addr) (n c p : Nat) (f : Bool) (w : World) (h : n ≤ p) :
    Calls Tryz.prog 130 #[.slice A n c, .int .i64 p, .bool f] w fun e w' => e = .returned (.int .i64 (endI none)) ∧ Below w.heap.size w w' := by
  go_enter Tryz.func130, Tryz.ntmps130
  go_wp2_with fail
  go_ret
  exact ⟨rfl, Below.refl _ _⟩

set_option maxRecDepth 100000 in
set_option maxHeartbeats 1000000 in
theorem end_bad (a : Addr) (n c p : Nat) (f : Bool) (x : Nd) (w : World) (hp : p < n) (hD : Nd4 w (a.add (p * 4)) x) (hO : NdOk x) (h : (shapedN x && (decide (x.op = 7) == f)) = false) :
    Calls Tryz.prog 130 #[.slice (some a) n c, .int .i64 p, .bool f] w fun e w' => e = .returned (.int .i64 (endI none)) ∧ Below w.heap.size w w' := by
  have V := Lib.hid (fun w => ref_ValueNode x w hO.s hO.t)
  unfold ndV at V
  obtain ⟨d0, d1, d2, d3⟩ := hD
  by_cases hs : shapedN x = true
  · rw [hs] at V h
    have h7 : (x.op == 7) = !f := by
      have : (x.op == 7) = decide (x.op = 7) := rfl
      rw [this]
      rcases hd : decide (x.op = 7) <;> rcases f <;> simp_all
    clear h hs hO
    cases f
    all_goals
      simp only [Bool.not_true, Bool.not_false] at h7
      go_enter Tryz.func130, Tryz.ntmps130
      go_wp2_with fail
      refine (V.out _).mono ?_
      rintro e w1 ⟨rfl, hb⟩
      obtain ⟨x0, x1, x2, x3⟩ := (nd4_box w x 35).keep hb
      have B := Lib.hid (below_box2 hb)
      clear hb
      go_wp2_with fail
      go_ret
      exact ⟨rfl, B.out⟩
  · rw [Bool.not_eq_true] at hs
    rw [hs] at V
    clear h hs hO
    go_enter Tryz.func130, Tryz.ntmps130
    go_wp2_with fail
    refine (V.out _).mono ?_
    rintro e w1 ⟨rfl, hb⟩
    go_wp2_with fail
    go_ret
    exact ⟨rfl, below_box2 hb⟩

set_option maxRecDepth 100000 in
set_option maxHeartbeats 1000000 in
theorem end_leaf (a : Addr) (n c p : Nat) (x : Nd) (w : World) (hm : n ≤ maxLen) (hp : p < n) (hD : Nd4 w (a.add (p * 4)) x) (hO : NdOk x) (hs : shapedN x = true) (h5 : (x.op == 5) = false) (h6 : (x.op == 6) = false) (h7 : (x.op == 7) = false) :
    Calls Tryz.prog 130 #[.slice (some a) n c, .int .i64 p, .bool false] w fun e w' => e = .returned (.int .i64 (endI (some (p + 1)))) ∧ Below w.heap.size w w' := by
  unfold maxLen at hm
  have V := Lib.hid (fun w => ref_ValueNode x w hO.s hO.t)
  unfold ndV at V
  obtain ⟨d0, d1, d2, d3⟩ := hD
  rw [hs] at V
  have g5 : (x.op != 5) = true := by simp only [bne, h5]; rfl
  have g6 : (x.op != 6) = true := by simp only [bne, h6]; rfl
  clear hs hO
  go_enter Tryz.func130, Tryz.ntmps130
  go_wp2_with fail
  refine (V.out _).mono ?_
  rintro e w1 ⟨rfl, hb⟩
  obtain ⟨x0, x1, x2, x3⟩ := (nd4_box w x 35).keep hb
  have B := Lib.hid (below_box2 hb)
  clear hb
  go_wp2_with fail
  go_ret
  exact ⟨rfl, B.out⟩

/-- The contracts of ValueEnd, with so much fuel. -/
def RefC (P : List Nd) (A : Option Addr) (n c : Nat) (m : Nat) : Prop :=
  (∀ (q : Nat) (w : World), NdsAt w A P → n - q < m → Calls Tryz.prog 130 #[.slice A n c, .int .i64 q, .bool false] w fun e w' => e = .returned (.int .i64 (endI (partEnd P m q))) ∧ Below w.heap.size w w') ∧
  (∀ (q : Nat) (w : World), NdsAt w A P → n - q ≤ m → Calls Tryz.prog 130 #[.slice A n c, .int .i64 q, .bool true] w fun e w' => e = .returned (.int .i64 (endI (fieldEnd P m q))) ∧ Below w.heap.size w w')

set_option maxRecDepth 100000 in
set_option maxHeartbeats 1000000 in
theorem end_field (a : Addr) (n c p : Nat) (x : Nd) (r : Option Nat) (w : World) (hm : n ≤ maxLen) (hp : p < n) (hD : Nd4 w (a.add (p * 4)) x) (hO : NdOk x) (hs : shapedN x = true) (h7 : x.op = 7)
    (C : Hid (∀ w', Below w.heap.size w w' → Calls Tryz.prog 130 #[.slice (some a) n c, .int .i64 ((p : Int) + 1), .bool false] w' fun e w'' => e = .returned (.int .i64 (endI r)) ∧ Below w'.heap.size w' w'')) :
    Calls Tryz.prog 130 #[.slice (some a) n c, .int .i64 p, .bool true] w fun e w' => e = .returned (.int .i64 (endI r)) ∧ Below w.heap.size w w' := by
  unfold maxLen at hm
  have V := Lib.hid (fun w => ref_ValueNode x w hO.s hO.t)
  unfold ndV at V
  obtain ⟨d0, d1, d2, d3⟩ := hD
  rw [hs] at V
  rw [h7] at V d0
  have X := Lib.hid h7
  clear hs hO h7
  go_enter Tryz.func130, Tryz.ntmps130
  go_wp2_with fail
  refine (V.out _).mono ?_
  rintro e w1 ⟨rfl, hb⟩
  have D := (nd4_box w x 35)
  rw [X.out] at D
  obtain ⟨x0, x1, x2, x3⟩ := D.keep hb
  rw [X.out] at x0
  have B := Lib.hid (below_box2 hb)
  clear hb D
  go_wp2_with fail
  refine (C.out _ B.out).mono ?_
  rintro e w2 ⟨rfl, b2⟩
  go_wp2_with fail
  go_ret
  exact ⟨rfl, (bh B b2).out⟩
end Go.Proofs.YtnolmlhcikcceaaGreatDoor
namespace Go.Proofs.YtnolmlhcikcceaaGreatDoor
open Go.RowKit Go.Wk Go.Sort
set_option maxRecDepth 100000

set_option maxRecDepth 100000 in
set_option maxHeartbeats 8000000 in
theorem end_set (a : Addr) (P : List Nd) (n c p m : Nat) (w : World) (hn : n = P.length) (hc : n ≤ c) (hm : n ≤ maxLen) (hp : p < n) (hP : NdsAt w (some a) P) (hO : NdsOk P) (hs : shapedN (P[p]'(by omega)) = true)
    (h5 : (P[p]'(by omega)).op = 5) (ih : RefC P (some a) n c m) (hfu : n - p < m + 1) :
    Calls Tryz.prog 130 #[.slice (some a) n c, .int .i64 p, .bool false] w fun e w' => e = .returned (.int .i64 (endI (setLoop P (partEnd P m) (P[p]'(by omega)).n.toNat none (p + 1)))) ∧ Below w.heap.size w w' := by
  have HM := Lib.hid hm
  unfold maxLen at hm
  have HP := Lib.hid hP
  have HN := Lib.hid hn
  have HO := Lib.hid hO
  have IH := Lib.hid ih
  have hp' : p < P.length := by omega
  obtain ⟨b, hb0, D⟩ := hP.nd hp'
  injection hb0 with hb0
  subst hb0
  have V := Lib.hid (fun w => ref_ValueNode P[p] w (hO.at hp').s (hO.at hp').t)
  unfold ndV at V
  obtain ⟨d0, d1, d2, d3⟩ := D
  obtain ⟨-, -, -, hhi⟩ := hO.at hp'
  rw [hs] at V
  rw [h5] at V d0
  have D0 := nd4_box w P[p] 35
  rw [h5] at D0
  have X := Lib.hid h5
  generalize P[p] = x at *
  have hx0 : 0 ≤ x.n := by
    unfold shapedN at hs; rw [h5] at hs; simp at hs; exact hs.1.1
  clear hs hO h5 hP hn ih
  go_enter Tryz.func130, Tryz.ntmps130
  go_wp2_with fail
  refine (V.out _).mono ?_
  rintro e w1 ⟨rfl, hb⟩
  have D1 := Lib.hid (D0.keep hb)
  obtain ⟨x0, x1, x2, x3⟩ := D1.out
  rw [X.out] at x0
  have B := Lib.hid (below_box2 hb)
  clear hb D0
  go_wp2_with fail
  clear x0 x1 x2 x3 d0 d1 d2 d3
  go_loopw [8, 9, 10, 11] (fun en la i _ wr => ∃ (k q : Nat) (lo : Option Nat), en = .int .i64 q ∧ la = .int .i64 (endI lo) ∧ i = .int .i64 k ∧ (k : Int) ≤ x.n ∧ Hid (∀ l, lo = some l → l < q) ∧ q ≤ n ∧ p < q ∧
      Hid (setLoop P (partEnd P m) x.n.toNat none (p + 1) = setLoop P (partEnd P m) (x.n.toNat - k) lo q) ∧ Hid (Nd4 wr ⟨w.heap.size, 0, none⟩ x) ∧ Hid (Below w.heap.size w wr)) (fun _ _ i _ _ => (x.n - intOf i).toNat)
  case atStart => exact ⟨0, p + 1, none, by go_num, rfl, rfl, hx0, (by intro l hl; cases hl), by omega, by omega, rfl, D1.out, B.out⟩
  case round =>
    obtain ⟨k, q, lo, rfl, rfl, rfl, hk, hlo, hq, hpq, hE, hD, hB⟩ := hrel
    obtain ⟨x0, x1, x2, x3⟩ := hD.out
    rw [X.out] at x0
    by_cases hlt : (k : Int) < x.n
    · have N := Lib.hid (HP.out.keep hB.out)
      have C := Lib.hid (IH.out.1 q wr N.out (by omega))
      rcases hf : partEnd P m q with _ | e
      · have HF := Lib.hid (hE.out.trans (setLoop_stop (by omega) hf))
        rw [hf] at C
        simp only [endI] at C
        clear hf hE
        go_wp2_with fail
        refine (C.out).mono ?_
        rintro e w2 ⟨rfl, b2⟩
        go_wp2_with fail
        go_ret
        exact ⟨ret_i64 (by rw [HF.out]; rfl), (hB.out.trans (b2.mono hB.out.size))⟩
      · have HF := Lib.hid hf
        have hpe := partEnd_le _ _ _ hf
        rw [← HN.out] at hpe
        rw [hf] at C
        simp only [endI] at C
        clear hf
        rcases lo with _ | l
        · have HG := Lib.hid (hE.out.trans (setLoop_next (by omega) HF.out rfl))
          clear hE hlo
          simp only [endI]
          go_wp2_with fail
          refine (C.out).mono ?_
          rintro e w2 ⟨rfl, b2⟩
          have B2 := Lib.hid (hB.out.trans (b2.mono hB.out.size))
          have D2 := Lib.hid (hD.out.keep b2)
          clear b2 x0 x1 x2 x3
          go_wp2_with fail
          refine wp_region_quiet_below (by kernel_rfl) (by kernel_rfl) ?_
          repeat (first | go_big_quiet_step (fail) | quiet_step (fail))
          refine wpQuiet_nil ?_
          intro w3 hw'
          have B3 := Lib.hid (show Below w2.heap.size w2 w3 by obtain ⟨⟨d, os⟩, rfl⟩ := hw'; exact below_regrown _ _ _)
          clear hw'
          go_wp2_with fail
          refine wp_region_quiet_below (by kernel_rfl) (by kernel_rfl) ?_
          repeat (first | go_big_quiet_step (fail) | quiet_step (fail))
          refine wpQuiet_nil ?_
          intro w4 hw'
          have B4 := Lib.hid (show Below w3.heap.size w3 w4 by obtain ⟨⟨d, os⟩, rfl⟩ := hw'; exact below_regrown _ _ _)
          clear hw'
          go_wp2_with fail
          go_roundw
          case rel => exact ⟨k + 1, e, some q, rfl, rfl, by go_num, by omega, (by intro l hl; cases hl; exact hpe.1), by omega, by omega, HG, Lib.hid ((D2.out.keep B3.out).keep B4.out), bhid (bhid B2 B3 (Nat.le_refl _)) B4 (Nat.le_refl _)⟩
          case measure => simp [intOf]; omega
        · have hlq := hlo.out l rfl
          clear hlo
          have sN := fun w2 (hb : Below wr.heap.size wr w2) => ref_Nodes (some (a.add (l * 4))) (some (a.add (q * 4))) (q - l) (e - q) (c - l) (c - q) (seg P l q) (seg P q e) w2 (seg_length (by rw [← HN.out]; omega)).symm (seg_length (by rw [← HN.out]; omega)).symm (Nat.le_trans (by omega) HM.out) (Nat.le_trans (by omega) HM.out)
            ((N.out.keep hb).seg l q) ((N.out.keep hb).seg q e) (HO.out.seg l q) (HO.out.seg q e)
          have hr : rises P (some l) q e = decide (cmpNds (seg P l q) (seg P q e) < 0) := rfl
          generalize cmpNds (seg P l q) (seg P q e) = v at *
          have SN := Lib.hid sN
          simp only [endI]
          clear sN
          by_cases hv : v < 0
          · have HG := Lib.hid (hE.out.trans (setLoop_next (by omega) HF.out (by rw [hr]; exact decide_eq_true hv)))
            clear hE hr
            go_wp2_with fail
            refine (C.out).mono ?_
            rintro e w2 ⟨rfl, b2⟩
            have B2 := Lib.hid (hB.out.trans (b2.mono hB.out.size))
            have D2 := Lib.hid (hD.out.keep b2)
            have k0 := cell_regrown D2.out.c0
            rw [X.out] at k0
            have s1 := rq (w := w2) (fun w' h => SN.out w' (b2.trans (h.mono b2.size)))
            clear b2 x0 x1 x2 x3
            go_wp2_with fail
            refine wp_region_quiet_below (by kernel_rfl) (by kernel_rfl) ?_
            repeat (first | go_big_quiet_step (exact s1 _ _) | quiet_step (exact s1 _ _))
            refine wpQuiet_nil ?_
            intro w3 hw'
            have B3 := Lib.hid (show Below w2.heap.size w2 w3 by obtain ⟨⟨d, os⟩, rfl⟩ := hw'; exact below_regrown _ _ _)
            clear hw'
            clear k0 s1
            have k0 := cell_regrown (D2.out.keep B3.out).c0
            rw [X.out] at k0
            go_wp2_with fail
            refine wp_region_quiet_below (by kernel_rfl) (by kernel_rfl) ?_
            repeat (first | go_big_quiet_step (fail) | quiet_step (fail))
            refine wpQuiet_nil ?_
            intro w4 hw'
            have B4 := Lib.hid (show Below w3.heap.size w3 w4 by obtain ⟨⟨d, os⟩, rfl⟩ := hw'; exact below_regrown _ _ _)
            clear hw'
            go_wp2_with fail
            go_roundw
            case rel => exact ⟨k + 1, e, some q, rfl, rfl, by go_num, by omega, (by intro l hl; cases hl; exact hpe.1), by omega, by omega, HG, Lib.hid ((D2.out.keep B3.out).keep B4.out), bhid (bhid B2 B3 (Nat.le_refl _)) B4 (Nat.le_refl _)⟩
            case measure => simp [intOf]; omega
          · have HG := Lib.hid (hE.out.trans (setLoop_fall (by omega) HF.out (by rw [hr]; exact decide_eq_false hv)))
            clear hE hr
            go_wp2_with fail
            refine (C.out).mono ?_
            rintro e w2 ⟨rfl, b2⟩
            have B2 := Lib.hid (hB.out.trans (b2.mono hB.out.size))
            have D2 := Lib.hid (hD.out.keep b2)
            have k0 := cell_regrown D2.out.c0
            rw [X.out] at k0
            have s1 := rq (w := w2) (fun w' h => SN.out w' (b2.trans (h.mono b2.size)))
            clear b2 x0 x1 x2 x3
            go_wp2_with fail
            refine wp_region_quiet_below (by kernel_rfl) (by kernel_rfl) ?_
            repeat (first | go_big_quiet_step (exact s1 _ _) | quiet_step (exact s1 _ _))
            refine wpQuiet_nil ?_
            intro w3 hw'
            have B3 := Lib.hid (show Below w2.heap.size w2 w3 by obtain ⟨⟨d, os⟩, rfl⟩ := hw'; exact below_regrown _ _ _)
            clear hw'
            clear k0 s1
            go_wp2_with fail
            go_ret
            exact ⟨ret_i64 (by rw [HG.out]; rfl), (bhid B2 B3 (Nat.le_refl _)).out⟩
    · have HG := Lib.hid (hE.out.trans (by rw [show x.n.toNat - k = 0 by omega]; rfl : _ = some q))
      clear hE hlo
      go_wp2_with fail
      go_ret
      exact ⟨ret_i64 (by rw [HG.out]; rfl), hB.out⟩

set_option maxRecDepth 100000 in
set_option maxHeartbeats 8000000 in
theorem end_rec (a : Addr) (P : List Nd) (n c p m : Nat) (w : World) (hn : n = P.length) (_hc : n ≤ c) (hm : n ≤ maxLen) (hp : p < n) (hP : NdsAt w (some a) P) (hO : NdsOk P) (hs : shapedN (P[p]'(by omega)) = true)
    (h5 : (P[p]'(by omega)).op = 6) (ih : RefC P (some a) n c m) (hfu : n - p < m + 1) :
    Calls Tryz.prog 130 #[.slice (some a) n c, .int .i64 p, .bool false] w fun e w' => e = .returned (.int .i64 (endI (recLoop P (partEnd P m) (P[p]'(by omega)).n.toNat .empty (p + 1)))) ∧ Below w.heap.size w w' := by
  have HM := Lib.hid hm
  unfold maxLen at hm
  have HP := Lib.hid hP
  have HN := Lib.hid hn
  have HO := Lib.hid hO
  have IH := Lib.hid ih
  have hp' : p < P.length := by omega
  obtain ⟨b, hb0, D⟩ := hP.nd hp'
  injection hb0 with hb0
  subst hb0
  have V := Lib.hid (fun w => ref_ValueNode P[p] w (hO.at hp').s (hO.at hp').t)
  unfold ndV at V
  obtain ⟨d0, d1, d2, d3⟩ := D
  obtain ⟨-, -, -, hhi⟩ := hO.at hp'
  rw [hs] at V
  rw [h5] at V d0
  have D0 := nd4_box w P[p] 35
  rw [h5] at D0
  have X := Lib.hid h5
  generalize P[p] = x at *
  have hx0 : 0 ≤ x.n := by
    unfold shapedN at hs; rw [h5] at hs; simp at hs; exact hs.1.1
  clear hs hO h5 hP hn ih
  go_enter Tryz.func130, Tryz.ntmps130
  go_wp2_with fail
  refine (V.out _).mono ?_
  rintro e w1 ⟨rfl, hb⟩
  have D1 := Lib.hid (D0.keep hb)
  obtain ⟨x0, x1, x2, x3⟩ := D1.out
  rw [X.out] at x0
  have B := Lib.hid (below_box2 hb)
  clear hb D0
  go_wp2_with fail
  clear x0 x1 x2 x3 d0 d1 d2 d3
  go_loopw [8, 9, 10, 11] (fun en la i _ wr => ∃ (k q : Nat) (lo : Option Nat) (ls : ByteArray), en = .int .i64 q ∧ la = .int .i64 (endI lo) ∧ i = .int .i64 k ∧ (k : Int) ≤ x.n ∧ Hid ((lo = none ∧ ls = .empty) ∨ ∃ (l : Nat) (h : l < P.length), lo = some l ∧ P[l].s = ls) ∧ q ≤ n ∧ p < q ∧
      Hid (recLoop P (partEnd P m) x.n.toNat .empty (p + 1) = recLoop P (partEnd P m) (x.n.toNat - k) ls q) ∧ Hid (Nd4 wr ⟨w.heap.size, 0, none⟩ x) ∧ Hid (Below w.heap.size w wr)) (fun _ _ i _ _ => (x.n - intOf i).toNat)
  case atStart => exact ⟨0, p + 1, none, .empty, by go_num, rfl, rfl, hx0, .inl ⟨rfl, rfl⟩, by omega, by omega, rfl, D1.out, B.out⟩
  case round =>
    obtain ⟨k, q, lo, ls, rfl, rfl, rfl, hk, hlo, hq, hpq, hE, hD, hB⟩ := hrel
    obtain ⟨x0, x1, x2, x3⟩ := hD.out
    rw [X.out] at x0
    by_cases hlt : (k : Int) < x.n
    · have N := Lib.hid (HP.out.keep hB.out)
      have C := Lib.hid (IH.out.2 q wr N.out (by omega))
      rcases hf : fieldEnd P m q with _ | e
      · have HF := Lib.hid (hE.out.trans (recLoop_none (by omega) hf))
        rw [hf] at C
        simp only [endI] at C
        clear hf hE
        go_wp2_with fail
        refine (C.out).mono ?_
        rintro e w2 ⟨rfl, b2⟩
        go_wp2_with fail
        go_ret
        exact ⟨ret_i64 (by rw [HF.out]; rfl), (hB.out.trans (b2.mono hB.out.size))⟩
      · obtain ⟨hq', f7, fs, fe⟩ := fieldEnd_some hf
        have hpe := partEnd_le _ _ _ fe
        rw [← HN.out] at hpe
        rw [hf] at C
        simp only [endI] at C
        have FP := Lib.hid (field_pos f7 fs)
        have HY := Lib.hid (show ∀ s0, cmpB s0 P[q].s < 0 → fieldOk P s0 q = some P[q].s from fun s0 h => fieldOk_yes hq' (by rw [f7, fs, decide_eq_true h]; rfl))
        have HZ := Lib.hid (show ∀ s0, ¬ cmpB s0 P[q].s < 0 → fieldOk P s0 q = none from fun s0 h => fieldOk_no hq' (by rw [decide_eq_false h]; simp))
        have FE := Lib.hid fe
        have HQ := Lib.hid hq'
        have hqn : q < n := by omega
        clear hf f7 fs fe
        rcases hlo.out with ⟨rfl, rfl⟩ | ⟨l, hl, rfl, rfl⟩
        · have HG := Lib.hid (hE.out.trans (recLoop_next (by omega) (HY.out _ FP.out) FE.out))
          clear hE hlo
          simp only [endI]
          go_wp2_with fail
          refine (C.out).mono ?_
          rintro e w2 ⟨rfl, b2⟩
          have B2 := Lib.hid (hB.out.trans (b2.mono hB.out.size))
          have D2 := Lib.hid (hD.out.keep b2)
          clear b2 x0 x1 x2 x3
          go_wp2_with fail
          refine wp_region_quiet_below (by kernel_rfl) (by kernel_rfl) ?_
          repeat (first | go_big_quiet_step (fail) | quiet_step (fail))
          refine wpQuiet_nil ?_
          intro w3 hw'
          have B3 := Lib.hid (show Below w2.heap.size w2 w3 by obtain ⟨⟨d, os⟩, rfl⟩ := hw'; exact below_regrown _ _ _)
          clear hw'
          go_wp2_with fail
          refine wp_region_quiet_below (by kernel_rfl) (by kernel_rfl) ?_
          repeat (first | go_big_quiet_step (fail) | quiet_step (fail))
          refine wpQuiet_nil ?_
          intro w4 hw'
          have B4 := Lib.hid (show Below w3.heap.size w3 w4 by obtain ⟨⟨d, os⟩, rfl⟩ := hw'; exact below_regrown _ _ _)
          clear hw'
          go_wp2_with fail
          go_roundw
          case rel => exact ⟨k + 1, e, some q, _, rfl, rfl, by go_num, by omega, .inr ⟨q, HQ.out, rfl, rfl⟩, by omega, by omega, HG, Lib.hid ((D2.out.keep B3.out).keep B4.out), bhid (bhid B2 B3 (Nat.le_refl _)) B4 (Nat.le_refl _)⟩
          case measure => simp [intOf]; omega
        · have sN := Lib.hid (fun w2 => ref_Texts P[l].s P[q].s w2 (HO.out.at hl).s (HO.out.at hq').s)
          have hln : l < n := by rw [HN.out]; exact hl
          have E1 := Lib.hid (show ∀ w2, Below wr.heap.size wr w2 → Nd4 w2 (a.add (l * 4)) P[l] from fun w2 hb => by
            obtain ⟨a', e', h⟩ := (N.out.keep hb).nd hl; cases e'; exact h)
          have E2 := Lib.hid (show ∀ w2, Below wr.heap.size wr w2 → Nd4 w2 (a.add (q * 4)) P[q] from fun w2 hb => by
            obtain ⟨a', e', h⟩ := (N.out.keep hb).nd hq'; cases e'; exact h)
          have hkN : k < x.n.toNat := by omega
          have hyes := Lib.hid (fun h : cmpB P[l].s P[q].s < 0 => hE.out.trans (recLoop_next hkN (HY.out _ h) FE.out))
          have hno := Lib.hid (fun h : ¬ cmpB P[l].s P[q].s < 0 => hE.out.trans (recLoop_bad (f := partEnd P m) hkN (HZ.out P[l].s h)))
          have HQQ := Lib.hid (show ∃ h : q < P.length, P[q].s = P[q].s from ⟨HQ.out, rfl⟩)
          generalize hyl : P[l] = y at *
          generalize hzl : P[q] = z at *
          have HZL := Lib.hid hzl
          generalize cmpB y.s z.s = v at *
          clear hE hlo hyl hzl HY HZ FP
          simp only [endI]
          by_cases hv : v < 0
          · have HG := Lib.hid (hyes.out hv)
            clear hyes hno
            go_wp2_with fail
            refine (C.out).mono ?_
            rintro e w2 ⟨rfl, b2⟩
            have B2 := Lib.hid (hB.out.trans (b2.mono hB.out.size))
            have D2 := Lib.hid (hD.out.keep b2)
            have b2' := Lib.hid b2
            have k0 := cell_regrown D2.out.c0
            rw [X.out] at k0
            clear b2 x0 x1 x2 x3
            go_wp2_with fail
            refine wp_region_quiet_below (by kernel_rfl) (by kernel_rfl) ?_
            repeat (first | go_big_quiet_step (fail) | quiet_step (fail))
            refine wpQuiet_nil ?_
            intro w3 hw'
            have B3 := Lib.hid (show Below w2.heap.size w2 w3 by obtain ⟨⟨d, os⟩, rfl⟩ := hw'; exact below_regrown _ _ _)
            clear hw'
            clear k0
            have k0 := cell_regrown (D2.out.keep B3.out).c0
            rw [X.out] at k0
            have b3' := bh b2' B3.out
            have k1 := cell_regrown (E1.out _ b3'.out).c2
            have k2 := cell_regrown (E2.out _ b3'.out).c2
            have s1 := rq (w := w3) (fun w' _ => sN.out w')
            go_wp2_with fail
            refine wp_region_quiet_below (by kernel_rfl) (by kernel_rfl) ?_
            repeat (first | go_big_quiet_step (exact s1 _ _) | quiet_step (exact s1 _ _))
            refine wpQuiet_nil ?_
            intro w4 hw'
            have B4 := Lib.hid (show Below w3.heap.size w3 w4 by obtain ⟨⟨d, os⟩, rfl⟩ := hw'; exact below_regrown _ _ _)
            clear hw'
            clear k0 k1 k2 s1
            go_wp2_with fail
            go_roundw
            case rel => exact ⟨k + 1, e, some q, _, rfl, rfl, by go_num, by omega, .inr ⟨q, HQ.out, rfl, congrArg Nd.s HZL.out⟩, by omega, by omega, HG, Lib.hid ((D2.out.keep B3.out).keep B4.out), bhid (bhid B2 B3 (Nat.le_refl _)) B4 (Nat.le_refl _)⟩
            case measure => simp [intOf]; omega
          · have HG := Lib.hid (hno.out hv)
            clear hyes hno
            go_wp2_with fail
            refine (C.out).mono ?_
            rintro e w2 ⟨rfl, b2⟩
            have B2 := Lib.hid (hB.out.trans (b2.mono hB.out.size))
            have D2 := Lib.hid (hD.out.keep b2)
            have b2' := Lib.hid b2
            have k0 := cell_regrown D2.out.c0
            rw [X.out] at k0
            clear b2 x0 x1 x2 x3
            go_wp2_with fail
            refine wp_region_quiet_below (by kernel_rfl) (by kernel_rfl) ?_
            repeat (first | go_big_quiet_step (fail) | quiet_step (fail))
            refine wpQuiet_nil ?_
            intro w3 hw'
            have B3 := Lib.hid (show Below w2.heap.size w2 w3 by obtain ⟨⟨d, os⟩, rfl⟩ := hw'; exact below_regrown _ _ _)
            clear hw'
            clear k0
            have k0 := cell_regrown (D2.out.keep B3.out).c0
            rw [X.out] at k0
            have b3' := bh b2' B3.out
            have k1 := cell_regrown (E1.out _ b3'.out).c2
            have k2 := cell_regrown (E2.out _ b3'.out).c2
            have s1 := rq (w := w3) (fun w' _ => sN.out w')
            go_wp2_with fail
            refine wp_region_quiet_below (by kernel_rfl) (by kernel_rfl) ?_
            repeat (first | go_big_quiet_step (exact s1 _ _) | quiet_step (exact s1 _ _))
            refine wpQuiet_nil ?_
            intro w4 hw'
            have B4 := Lib.hid (show Below w3.heap.size w3 w4 by obtain ⟨⟨d, os⟩, rfl⟩ := hw'; exact below_regrown _ _ _)
            clear hw'
            clear k0 k1 k2 s1
            go_wp2_with fail
            go_ret
            exact ⟨ret_i64 (by rw [HG.out]; rfl), (bhid (bhid B2 B3 (Nat.le_refl _)) B4 (Nat.le_refl _)).out⟩
    · have HG := Lib.hid (hE.out.trans (by rw [show x.n.toNat - k = 0 by omega]; rfl : _ = some q))
      clear hE hlo
      go_wp2_with fail
      go_ret
      exact ⟨ret_i64 (by rw [HG.out]; rfl), hB.out⟩
end Go.Proofs.YtnolmlhcikcceaaGreatDoor
namespace Go.Proofs.YtnolmlhcikcceaaGreatDoor
open Go.RowKit Go.Wk Go.Sort
set_option maxRecDepth 100000

theorem ref_end (A : Option Addr) (P : List Nd) (n c : Nat) (hn : n = P.length) (hc : n ≤ c) (hm : n ≤ maxLen) (hO : NdsOk P) (m : Nat) : RefC P A n c m := by
  have field : ∀ m, (∀ (q : Nat) (w : World), NdsAt w A P → n - q < m → Calls Tryz.prog 130 #[.slice A n c, .int .i64 q, .bool false] w fun e w' => e = .returned (.int .i64 (endI (partEnd P m q))) ∧ Below w.heap.size w w') →
      (∀ (q : Nat) (w : World), NdsAt w A P → n - q ≤ m → Calls Tryz.prog 130 #[.slice A n c, .int .i64 q, .bool true] w fun e w' => e = .returned (.int .i64 (endI (fieldEnd P m q))) ∧ Below w.heap.size w w') := by
    intro m h q w hP hf
    by_cases hp : q < n
    · have hp' : q < P.length := by omega
      obtain ⟨a, rfl, D⟩ := hP.nd hp'
      by_cases hc : (decide (P[q].op = 7) && shapedN P[q]) = true
      · have e : fieldEnd P m q = partEnd P m (q + 1) := by unfold fieldEnd; rw [List.getElem?_eq_getElem hp']; simp only [hc, if_true]
        rw [e]
        simp only [Bool.and_eq_true, decide_eq_true_eq] at hc
        exact end_field a n c q P[q] _ w hm hp D (hO.at hp') hc.2 hc.1 (Lib.hid fun w' hb => by
          have := h (q + 1) w' (hP.keep hb) (by omega)
          simpa using this)
      · have e : fieldEnd P m q = none := by unfold fieldEnd; rw [List.getElem?_eq_getElem hp']; simp only [hc]; rfl
        rw [e]
        exact end_bad a n c q true P[q] w hp D (hO.at hp') (by
          rw [Bool.not_eq_true] at hc
          rcases hd : decide (P[q].op = 7) <;> rcases hs : shapedN P[q] <;> simp_all)
    · have e : fieldEnd P m q = none := by unfold fieldEnd; rw [List.getElem?_eq_none (by omega)]
      rw [e]
      exact end_out A n c q true w (by omega)
  induction m with
  | zero => exact ⟨fun q w _ h => by omega, field 0 (fun q w _ h => by omega)⟩
  | succ m ih =>
    refine ⟨?_, field (m + 1) ?_⟩
    all_goals
      intro p w hP hf
      by_cases hp : p < n
      · have hp' : p < P.length := by omega
        obtain ⟨a, rfl, D⟩ := hP.nd hp'
        have e : partEnd P (m + 1) p = if shapedN P[p] then (if P[p].op = 5 then setLoop P (partEnd P m) P[p].n.toNat none (p + 1) else if P[p].op = 6 then recLoop P (partEnd P m) P[p].n.toNat .empty (p + 1) else if P[p].op = 7 then none else some (p + 1)) else none := by
          simp only [partEnd, List.getElem?_eq_getElem hp']
        rw [e]
        by_cases hs : shapedN P[p] = true
        · rw [if_pos hs]
          by_cases h5 : P[p].op = 5
          · rw [if_pos h5]; exact end_set a P n c p m w hn hc hm hp hP hO hs h5 ih hf
          rw [if_neg h5]
          by_cases h6 : P[p].op = 6
          · rw [if_pos h6]; exact end_rec a P n c p m w hn hc hm hp hP hO hs h6 ih hf
          rw [if_neg h6]
          by_cases h7 : P[p].op = 7
          · rw [if_pos h7]; exact end_bad a n c p false P[p] w hp D (hO.at hp') (by simp [h7])
          rw [if_neg h7]
          exact end_leaf a n c p P[p] w hm hp D (hO.at hp') hs (beq_eq_false_iff_ne.2 h5) (beq_eq_false_iff_ne.2 h6) (beq_eq_false_iff_ne.2 h7)
        · rw [if_neg hs]
          exact end_bad a n c p false P[p] w hp D (hO.at hp') (by simp [hs])
      · have e : partEnd P (m + 1) p = none := by
          simp only [partEnd, List.getElem?_eq_none (by omega : P.length ≤ p)]
        rw [e]
        exact end_out A n c p false w (by omega)

theorem ref_ValueFault (A : Option Addr) (n c : Nat) (P : List Nd) (w : World) (h : Ns w A n c P) :
    Calls Tryz.prog 86 #[.slice A n c] w fun e w' => e = .returned (.int .i64 (valFault P)) ∧ Below w.heap.size w w' := by
  obtain ⟨hn, hc, hm, hP, hO⟩ := h
  have C := Lib.hid ((ref_end A P n c hn hc hm hO (n + 1)).1 0 w hP (by omega))
  by_cases h : 200 < n
  · have H := Lib.hid (show valFault P = 4 by unfold valFault; rw [if_pos (by omega)])
    clear C
    unfold maxLen at hm
    clear hn hP hO
    go_enter Tryz.func86, Tryz.ntmps86
    go_wp2_with fail
    go_ret
    exact ⟨ret_i64 H.out.symm, Below.refl _ _⟩
  · have H := Lib.hid (show valFault P = if partEnd P (n + 1) 0 = some n then 0 else 1 by unfold valFault; rw [if_neg (by omega), ← hn])
    unfold maxLen at hm
    clear hn hP hO
    rcases he : partEnd P (n + 1) 0 with _ | e
    · rw [he] at C H
      rw [if_neg (by simp)] at H
      simp only [endI] at C
      go_enter Tryz.func86, Tryz.ntmps86
      go_wp2_with fail
      refine (C.out).mono ?_
      rintro e w1 ⟨rfl, b1⟩
      have hne : ((-1 : Int) != (n : Int)) = true := by rw [bne_iff_ne]; omega
      go_wp2_with fail
      go_ret
      exact ⟨ret_i64 H.out.symm, b1⟩
    · rw [he] at C H
      clear he
      simp only [endI] at C
      by_cases he : e = n
      · subst he
        rw [if_pos rfl] at H
        go_enter Tryz.func86, Tryz.ntmps86
        go_wp2_with fail
        refine (C.out).mono ?_
        rintro e w1 ⟨rfl, b1⟩
        go_wp2_with fail
        go_ret
        exact ⟨ret_i64 H.out.symm, b1⟩
      · rw [if_neg (by intro q; injection q with q; exact he q)] at H
        have hne : (e != n) = true := by rw [bne_iff_ne]; exact he
        clear he
        go_enter Tryz.func86, Tryz.ntmps86
        go_wp2_with fail
        refine (C.out).mono ?_
        rintro e w1 ⟨rfl, b1⟩
        go_wp2_with fail
        go_ret
        exact ⟨ret_i64 H.out.symm, b1⟩

def slFaults (V : List Sl) : Int := faults (V.map (·.P))
theorem slFaults_at {V : List Sl} {k : Nat} (h : k < V.length) : slFaults (V.drop k) = or2 (valFault V[k].P) (slFaults (V.drop (k + 1))) := by
  unfold slFaults; rw [List.drop_eq_getElem_cons h]; rfl
theorem slFaults_end {V : List Sl} {k : Nat} (h : V.length ≤ k) : slFaults (V.drop k) = 0 := by
  unfold slFaults; rw [List.drop_of_length_le h]; rfl

end Go.Proofs.YtnolmlhcikcceaaGreatDoor
namespace Go.Wk
/-- The names that the reference's Parts tells. -/
def prtN (P : List Nd) : List ByteArray := if headOp P = 5 then (setParts P).map (fun _ => ⟨#[]⟩) else (recParts P).map (·.1)
end Go.Wk
namespace Go.Proofs.YtnolmlhcikcceaaGreatDoor
open Go.RowKit Go.Wk Go.Sort
set_option maxRecDepth 100000

def RefPartsPost (w : World) (L : List (List Nd)) (N : List ByteArray) (e : Ending) (w' : World) : Prop :=
  ∃ (v v' : Value) (V : List Sl), e = .returned (.tuple #[v, v']) ∧ TwoRows w' w.heap.size v v' V N ∧ V.map Sl.P = L ∧ Below w.heap.size w w'
/-- It lies in the block of another one. -/
def SubSl (A : Option Addr) (r : Sl) : Prop := ∀ a', r.A = some a' → ∃ a0, A = some a0 ∧ a'.block = a0.block
/-- .. and the parts lie in what was there. -/
def RefPartsPostO (A : Option Addr) (w : World) (L : List (List Nd)) (N : List ByteArray) (e : Ending) (w' : World) : Prop :=
  ∃ (v v' : Value) (V : List Sl), e = .returned (.tuple #[v, v']) ∧ TwoRows w' w.heap.size v v' V N ∧ V.map Sl.P = L ∧ Below w.heap.size w w' ∧ ∀ r ∈ V, SubSl A r
theorem addr_block (a : Addr) (k : Nat) : (a.add k).block = a.block := by unfold Addr.add; split <;> rfl
theorem apart_old {w w1 : World} {B n : Nat} {e : TypeId} {size : Nat} {v : Value} {xs : List Value} (h : w1.ownsRow B e size v n xs) {r : Sl} (hr : Ns w r.A r.n r.c r.P) (hB : w.heap.size ≤ B) : Apart r v.ownBlock := by
  intro h0 a ea q
  have := own_base h a.block q
  have := hr.at_.lt h0 a ea
  omega

set_option maxHeartbeats 8000000 in
theorem refParts_setO (A : Option Addr) (n c : Nat) (P : List Nd) (w : World) (h : Ns w A n c P) (hv : valFault P = 0) (h5 : headOp P = 5) :
    Calls Tryz.prog 79 #[.slice A n c] w (RefPartsPostO A w (setParts P) (prtN P)) := by
  obtain ⟨i0, hi, hz0, hz1, hz2⟩ := info_parts slInfo
  obtain ⟨j0, hj, jz0, jz1, jz2⟩ := info_parts strInfo
  obtain ⟨h200, hV⟩ := isV_zero.1 hv
  have hpos := hV.pos
  obtain ⟨a, rfl, D⟩ := h.at_.nd hpos
  have hn := h.len
  obtain ⟨hs0, _, hop, hx0, hN⟩ := set_loop hV h5
  have hE : setParts P = splitS P (partEnd P (P.length + 1)) P[0].n.toNat 1 := by unfold setParts; rw [hN]
  rw [hN] at hs0
  obtain ⟨-, -, -, hhi⟩ := h.ok.at hpos
  have K := Lib.hid (fun q w' (hb : Below w.heap.size w w') => (ref_end (some a) P n c hn h.cap h.max h.ok (P.length + 1)).1 q w' (h.at_.keep hb) (by omega))
  have HPN := Lib.hid (show prtN P = (setParts P).map (fun _ => ⟨#[]⟩) by unfold prtN; rw [if_pos h5])
  have HN := Lib.hid h
  have HL := Lib.hid hn
  have H0 := Lib.hid hs0
  have HE := Lib.hid hE
  rw [show a.add (0 * 4) = a from rfl] at D
  obtain ⟨d0, d1, d2, d3⟩ := D
  rw [hop] at d0
  have hcap := h.cap
  generalize P[0] = x at *
  have hn200 : n ≤ 200 := by omega
  have hn1 : 0 < n := by omega
  clear h hv h5 hV hn hs0 hE hN h200 hop d2 d3
  go_enter Tryz.func79, Tryz.ntmps79
  go_wp2_with fail
  go_loopw [4, 5, 6, 7, 8, 9] (fun v v' at_ i _ _ wr => ∃ (k q : Nat) (V : List Sl), i = .int .i64 k ∧ at_ = .int .i64 q ∧ (k : Int) ≤ x.n ∧ q ≤ n ∧ k + 1 ≤ q ∧ V.length = k ∧ Hid (setParts P = V.map Sl.P ++ splitS P (partEnd P (P.length + 1)) (x.n.toNat - k) q) ∧
      Hid (∃ lo, setLoop P (partEnd P (P.length + 1)) (x.n.toNat - k) lo q = some P.length) ∧ Hid (TwoRows wr w.heap.size v v' V (V.map fun _ => ⟨#[]⟩)) ∧ Hid (Below w.heap.size w wr) ∧ Hid (∀ r ∈ V, SubSl (some a) r)) (fun _ _ _ i _ _ _ => (x.n - intOf i).toNat)
  case atStart => exact ⟨0, 1, [], rfl, rfl, hx0, hn1, by omega, rfl, HE.out, ⟨none, H0.out⟩, ⟨OwnSls.nil _ _, World.ownsRow_nil _ _ _ 1, .inl rfl, (by intro r hr; cases hr)⟩, Below.refl _ _, (by intro r hr; cases hr)⟩
  case round =>
    obtain ⟨k, q, V, rfl, rfl, hk, hq, hkq, hVl, hE, hS, hT, hB, hOld⟩ := hrel
    have e0 := cell_keep hB.out d0
    have e1 := cell_keep hB.out d1
    by_cases hlt : (k : Int) < x.n
    · obtain ⟨e, hf, hS', hsp⟩ := setLoop_inv (by omega) hS.out
      have hle := partEnd_le _ _ _ hf
      rw [← HL.out] at hle
      have C := Lib.hid (K.out q wr hB.out)
      rw [hf] at C
      simp only [endI] at C
      have HE2 := Lib.hid (hE.out.trans (by rw [hsp] : _ = V.map Sl.P ++ (seg P q e :: splitS P (partEnd P (P.length + 1)) (x.n.toNat - (k + 1)) e)))
      have HS2 := Lib.hid hS'
      have hns := Lib.hid (ns_seg HN.out (show q ≤ e by omega) hle.2)
      clear hE hS hS' hsp hf
      go_wp2_with fail
      refine (C.out).mono ?_
      rintro e w1 ⟨rfl, b1⟩
      have B1 := bh hB b1
      have T1 := Lib.hid (hT.out.keep b1)
      have A1 := Lib.hid (apart_old (r := ⟨some (a.add (q * 4)), e - q, c - q, seg P q e⟩) T1.out.a.own hns.out (Nat.le_refl _))
      have A2 := Lib.hid (apart_old (r := ⟨some (a.add (q * 4)), e - q, c - q, seg P q e⟩) T1.out.b hns.out (Nat.le_refl _))
      have hsz1 := B1.out.size
      clear b1 hT hB e0 e1
      go_wp2_with (at_builtin; refine wpList_append_own_at _ rfl _ _ 138 rfl w.heap.size 27 i0 _ 1 24 Tryz.underlying138 hi hz0 hz1 hz2 rfl (by decide) _ V.length (V.map Sl.v) rfl (T1.out.a.own.alloc _) ⟨_, 0, none⟩ 1 1 [.slice (some (a.add (q * 4))) (e - q) (c - q)] rfl rfl (cell_one_new _ _ _) (by intro u hu; simp only [List.mem_cons, List.not_mem_nil, or_false] at hu; subst hu; rfl) ?c1 ?c2 ?c3 ?_)
      case c1 => unfold maxLen; omega
      case c2 => omega
      case c3 => simp; omega
      intro v1 w2 hown hgrow _ hat
      have T2 := Lib.hid (T1.out.part (r := ⟨some (a.add (q * 4)), e - q, c - q, seg P q e⟩) (hns.out.keep B1.out) A1.out A2.out (by rw [hVl]; exact hown) hgrow (by simpa using hat))
      have B2 := Lib.hid ((B1.out.alloc B1.out.size _).grown hgrow (by simp; omega) (fun g hg => by have := own_base T1.out.a.own g hg; omega))
      have hsz2 := B2.out.size
      clear hown hgrow hat A1 A2 T1 B1
      go_wp2_with (at_builtin; refine wpList_append_own_at _ rfl _ _ 42 rfl w.heap.size 9 j0 _ 1 16 Tryz.underlying42 hj jz0 jz1 jz2 rfl (by decide) _ (V.map fun _ => (⟨#[]⟩ : ByteArray)).length ((V.map fun _ => (⟨#[]⟩ : ByteArray)).map Value.string) rfl (T2.out.b.alloc _) ⟨_, 0, none⟩ 1 1 [.string ⟨#[]⟩] rfl rfl (cell_one_new _ _ _) (by intro u hu; simp only [List.mem_cons, List.not_mem_nil, or_false] at hu; subst hu; rfl) ?d1 ?d2 ?d3 ?_)
      case d1 => simp; unfold maxLen; omega
      case d2 => simp; omega
      case d3 => simp; omega
      intro v2 w3 hown hgrow _ hat
      have T3 := Lib.hid (T2.out.name (s := ⟨#[]⟩) (by simpa [hVl] using hown) hgrow (by simpa using hat))
      have B3 := Lib.hid ((B2.out.alloc B2.out.size _).grown hgrow (by simp; omega) (fun g hg => by have := own_base T2.out.b g hg; omega))
      have HE3 := Lib.hid (HE2.out.trans (show _ = (V ++ [(⟨some (a.add (q * 4)), e - q, c - q, seg P q e⟩ : Sl)]).map Sl.P ++ splitS P (partEnd P (P.length + 1)) (x.n.toNat - (k + 1)) e by simp))
      have T4 := Lib.hid (show TwoRows w3 w.heap.size v1 v2 (V ++ [(⟨some (a.add (q * 4)), e - q, c - q, seg P q e⟩ : Sl)]) ((V ++ [(⟨some (a.add (q * 4)), e - q, c - q, seg P q e⟩ : Sl)]).map fun _ => ⟨#[]⟩) by
        rw [List.map_append]; exact T3.out)
      have hl4 : (V ++ [(⟨some (a.add (q * 4)), e - q, c - q, seg P q e⟩ : Sl)]).length = k + 1 := by simp [hVl]
      have HO4 := Lib.hid (show ∀ r ∈ V ++ [(⟨some (a.add (q * 4)), e - q, c - q, seg P q e⟩ : Sl)], SubSl (some a) r from fun r hr => by
        rcases List.mem_append.1 hr with h1 | h1
        · exact hOld.out r h1
        · simp only [List.mem_cons, List.not_mem_nil, or_false] at h1
          subst h1
          intro a' ea
          injection ea with ea
          subst ea
          exact ⟨a, rfl, addr_block _ _⟩)
      clear hown hgrow hat HE2 B2 T2 T3 hOld
      go_wp2_with fail
      go_roundw
      case rel => exact ⟨k + 1, e, _, by go_num, rfl, by omega, by omega, by omega, hl4, HE3, HS2, T4, B3, HO4⟩
      case measure => simp [intOf]; omega
    · have HG := Lib.hid (hE.out.trans (show _ = V.map Sl.P by rw [show x.n.toNat - k = 0 by omega]; simp [splitS]))
      have HT := Lib.hid (show TwoRows wr w.heap.size u4 u5 V (prtN P) by
        rw [HPN.out, HG.out, List.map_map]; exact hT.out)
      clear hE hS hT
      go_wp2_with fail
      go_ret2
      exact ⟨_, _, V, rfl, HT.out, HG.out.symm, hB.out, hOld.out⟩

theorem refParts_set (A : Option Addr) (n c : Nat) (P : List Nd) (w : World) (h : Ns w A n c P) (hv : valFault P = 0) (h5 : headOp P = 5) :
    Calls Tryz.prog 79 #[.slice A n c] w (RefPartsPost w (setParts P) (prtN P)) :=
  (refParts_setO A n c P w h hv h5).mono fun _ _ ⟨v, v', V, q1, q2, q3, q4, _⟩ => ⟨v, v', V, q1, q2, q3, q4⟩

set_option maxHeartbeats 8000000 in
theorem refParts_rec (A : Option Addr) (n c : Nat) (P : List Nd) (w : World) (h : Ns w A n c P) (hv : valFault P = 0) (h6 : headOp P = 6) :
    Calls Tryz.prog 79 #[.slice A n c] w (RefPartsPost w ((recParts P).map (·.2)) (prtN P)) := by
  obtain ⟨i0, hi, hz0, hz1, hz2⟩ := info_parts slInfo
  obtain ⟨j0, hj, jz0, jz1, jz2⟩ := info_parts strInfo
  obtain ⟨h200, hV⟩ := isV_zero.1 hv
  have hpos := hV.pos
  obtain ⟨a, rfl, D⟩ := h.at_.nd hpos
  have hn := h.len
  obtain ⟨hs0, _, hop, hx0, hN⟩ := rec_loop hV h6
  have hE : recParts P = splitR P (partEnd P (P.length + 1)) P[0].n.toNat 1 := by unfold recParts; rw [hN]
  rw [hN] at hs0
  obtain ⟨-, -, -, hhi⟩ := h.ok.at hpos
  have K := Lib.hid (fun q w' (hb : Below w.heap.size w w') => (ref_end (some a) P n c hn h.cap h.max h.ok (P.length + 1)).1 q w' (h.at_.keep hb) (by omega))
  have HPN := Lib.hid (show prtN P = (recParts P).map (·.1) by unfold prtN; rw [if_neg (by omega)])
  have HN := Lib.hid h
  have HL := Lib.hid hn
  have H0 := Lib.hid hs0
  have HE := Lib.hid hE
  rw [show a.add (0 * 4) = a from rfl] at D
  obtain ⟨d0, d1, d2, d3⟩ := D
  rw [hop] at d0
  have hcap := h.cap
  generalize P[0] = x at *
  have hn200 : n ≤ 200 := by omega
  have hn1 : 0 < n := by omega
  clear h hv h6 hV hn hs0 hE hN h200 hop d2 d3
  go_enter Tryz.func79, Tryz.ntmps79
  go_wp2_with fail
  go_loopw [4, 5, 6, 7, 8, 9] (fun v v' at_ i _ _ wr => ∃ (k q : Nat) (V : List Sl) (X : List (ByteArray × List Nd)), i = .int .i64 k ∧ at_ = .int .i64 q ∧ (k : Int) ≤ x.n ∧ q ≤ n ∧ k + 1 ≤ q ∧ V.length = k ∧ X.length = k ∧ Hid (V.map Sl.P = X.map (·.2)) ∧ Hid (recParts P = X ++ splitR P (partEnd P (P.length + 1)) (x.n.toNat - k) q) ∧
      Hid (∃ lo, recLoop P (partEnd P (P.length + 1)) (x.n.toNat - k) lo q = some P.length) ∧ Hid (TwoRows wr w.heap.size v v' V (X.map (·.1))) ∧ Hid (Below w.heap.size w wr)) (fun _ _ _ i _ _ _ => (x.n - intOf i).toNat)
  case atStart => exact ⟨0, 1, [], [], rfl, rfl, hx0, hn1, by omega, rfl, rfl, rfl, HE.out, ⟨_, H0.out⟩, ⟨OwnSls.nil _ _, World.ownsRow_nil _ _ _ 1, .inl rfl, (by intro r hr; cases hr)⟩, Below.refl _ _⟩
  case round =>
    obtain ⟨k, q, V, X, rfl, rfl, hk, hq, hkq, hVl, hXl, hVX, hE, hS, hT, hB⟩ := hrel
    have e0 := cell_keep hB.out d0
    have e1 := cell_keep hB.out d1
    by_cases hlt : (k : Int) < x.n
    · obtain ⟨hq', e, hf, hS', hsp⟩ := recLoop_inv (by omega) hS.out
      have hle := partEnd_le _ _ _ hf
      rw [← HL.out] at hle
      have hqn : q < n := by omega
      obtain ⟨a', ha', ⟨-, -, q2, -⟩⟩ := (HN.out.at_.keep hB.out).nd hq'
      injection ha' with ha'
      subst ha'
      have C : Hid (Calls Tryz.prog 130 #[.slice (some a) n c, .int .i64 ((q : Int) + 1), .bool false] wr fun e' w' => e' = .returned (.int .i64 e) ∧ Below wr.heap.size wr w') := Lib.hid (by
        have := K.out (q + 1) wr hB.out
        rw [hf] at this
        simpa [endI] using this)
      have HE2 := Lib.hid (hE.out.trans (by rw [hsp] : _ = X ++ ((P[q].s, seg P (q + 1) e) :: splitR P (partEnd P (P.length + 1)) (x.n.toNat - (k + 1)) e)))
      have HS2 := Lib.hid hS'
      have hns := Lib.hid (ns_seg HN.out (show q + 1 ≤ e by omega) hle.2)
      generalize P[q].s = nm at *
      clear hE hS hS' hsp hf
      go_wp2_with fail
      refine (C.out).mono ?_
      rintro e w1 ⟨rfl, b1⟩
      have B1 := bh hB b1
      have T1 := Lib.hid (hT.out.keep b1)
      have A1 := Lib.hid (apart_old (r := ⟨some (a.add ((q + 1) * 4)), e - (q + 1), c - (q + 1), seg P (q + 1) e⟩) T1.out.a.own hns.out (Nat.le_refl _))
      have A2 := Lib.hid (apart_old (r := ⟨some (a.add ((q + 1) * 4)), e - (q + 1), c - (q + 1), seg P (q + 1) e⟩) T1.out.b hns.out (Nat.le_refl _))
      have hsz1 := B1.out.size
      clear b1 hT hB e0 e1 q2
      go_wp2_with (at_builtin; refine wpList_append_own_at _ rfl _ _ 138 rfl w.heap.size 27 i0 _ 1 24 Tryz.underlying138 hi hz0 hz1 hz2 rfl (by decide) _ V.length (V.map Sl.v) rfl (T1.out.a.own.alloc _) ⟨_, 0, none⟩ 1 1 [.slice (some (a.add ((q + 1) * 4))) (e - (q + 1)) (c - (q + 1))] rfl rfl (cell_one_new _ _ _) (by intro u hu; simp only [List.mem_cons, List.not_mem_nil, or_false] at hu; subst hu; rfl) ?c1 ?c2 ?c3 ?_)
      case c1 => unfold maxLen; omega
      case c2 => omega
      case c3 => simp; omega
      intro v1 w2 hown hgrow _ hat
      have T2 := Lib.hid (T1.out.part (r := ⟨some (a.add ((q + 1) * 4)), e - (q + 1), c - (q + 1), seg P (q + 1) e⟩) (hns.out.keep B1.out) A1.out A2.out (by rw [hVl]; exact hown) hgrow (by simpa using hat))
      have B2 := Lib.hid ((B1.out.alloc B1.out.size _).grown hgrow (by simp; omega) (fun g hg => by have := own_base T1.out.a.own g hg; omega))
      have hsz2 := B2.out.size
      clear hown hgrow hat A1 A2 T1 B1
      go_wp2_with (at_builtin; refine wpList_append_own_at _ rfl _ _ 42 rfl w.heap.size 9 j0 _ 1 16 Tryz.underlying42 hj jz0 jz1 jz2 rfl (by decide) _ (X.map (·.1)).length ((X.map (·.1)).map Value.string) rfl (T2.out.b.alloc _) ⟨_, 0, none⟩ 1 1 [.string nm] rfl rfl (cell_one_new _ _ _) (by intro u hu; simp only [List.mem_cons, List.not_mem_nil, or_false] at hu; subst hu; rfl) ?d1 ?d2 ?d3 ?_)
      case d1 => simp; unfold maxLen; omega
      case d2 => simp; omega
      case d3 => simp; omega
      intro v2 w3 hown hgrow _ hat
      have T3 := Lib.hid (T2.out.name (s := nm) (by simpa [hXl] using hown) hgrow (by simpa using hat))
      have B3 := Lib.hid ((B2.out.alloc B2.out.size _).grown hgrow (by simp; omega) (fun g hg => by have := own_base T2.out.b g hg; omega))
      have HE3 := Lib.hid (HE2.out.trans (show _ = (X ++ [(nm, seg P (q + 1) e)]) ++ splitR P (partEnd P (P.length + 1)) (x.n.toNat - (k + 1)) e by simp))
      have T4 := Lib.hid (show TwoRows w3 w.heap.size v1 v2 (V ++ [(⟨some (a.add ((q + 1) * 4)), e - (q + 1), c - (q + 1), seg P (q + 1) e⟩ : Sl)]) ((X ++ [(nm, seg P (q + 1) e)]).map (·.1)) by
        rw [List.map_append]; exact T3.out)
      have hl4 : (V ++ [(⟨some (a.add ((q + 1) * 4)), e - (q + 1), c - (q + 1), seg P (q + 1) e⟩ : Sl)]).length = k + 1 := by simp [hVl]
      have hl6 : (X ++ [(nm, seg P (q + 1) e)]).length = k + 1 := by simp [hXl]
      have HV5 := Lib.hid (show (V ++ [(⟨some (a.add ((q + 1) * 4)), e - (q + 1), c - (q + 1), seg P (q + 1) e⟩ : Sl)]).map Sl.P = (X ++ [(nm, seg P (q + 1) e)]).map (·.2) by
        rw [List.map_append, List.map_append, hVX.out]; rfl)
      clear hown hgrow hat HE2 B2 T2 T3
      go_wp2_with fail
      go_roundw
      case rel => exact ⟨k + 1, e, _, _, by go_num, rfl, by omega, by omega, by omega, hl4, hl6, HV5, HE3, HS2, T4, B3⟩
      case measure => simp [intOf]; omega
    · have HG := Lib.hid (hE.out.trans (show _ = X by rw [show x.n.toNat - k = 0 by omega]; simp [splitR]))
      have HT := Lib.hid (show TwoRows wr w.heap.size u4 u5 V (prtN P) by
        rw [HPN.out, HG.out]; exact hT.out)
      clear hE hS hT
      go_wp2_with fail
      go_ret2
      exact ⟨_, _, V, rfl, HT.out, by rw [HG.out]; exact hVX.out, hB.out⟩
theorem ref_Parts (A : Option Addr) (n c : Nat) (P : List Nd) (w : World) (h : Ns w A n c P) (hE : prtE P = 0) :
    Calls Tryz.prog 79 #[.slice A n c] w (RefPartsPost w (prtL P) (prtN P)) := by
  have hv : valFault P = 0 := by
    unfold prtE at hE
    by_cases h0 : valFault P = 0
    · exact h0
    · rw [if_neg h0] at hE; exact absurd hE h0
  by_cases h5 : headOp P = 5
  · have : prtL P = setParts P := by unfold prtL; rw [if_pos hE, if_pos h5]
    rw [this]; exact refParts_set A n c P w h hv h5
  · have h6 : headOp P = 6 := by
      unfold prtE at hE
      rw [if_pos hv] at hE
      by_cases h6 : headOp P = 6
      · exact h6
      · rw [if_neg (by omega)] at hE; omega
    have : prtL P = (recParts P).map (·.2) := by unfold prtL; rw [if_pos hE, if_neg h5]
    rw [this]; exact refParts_rec A n c P w h hv h6

/-- Lists of lists are alike. -/
def sameLs : List (List Nd) → List (List Nd) → Bool
  | [], [] => true
  | P :: r, Q :: s => decide (cmpNds P Q = 0) && sameLs r s
  | _, _ => false
theorem sameLs_self (L : List (List Nd)) : sameLs L L = true := by
  induction L with
  | nil => rfl
  | cons P L ih => simp [sameLs, ih, cmpNds_cmp.self]
end Go.Proofs.YtnolmlhcikcceaaGreatDoor
