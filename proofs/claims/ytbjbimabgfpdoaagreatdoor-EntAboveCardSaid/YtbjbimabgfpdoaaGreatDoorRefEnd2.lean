/-
  The reference's ValueEnd at sets and records; ValueFault.
-/
import Derived.Test.YtbjbimabgfpdoaaGreatDoorRefEnd
namespace Go.Proofs.YtbjbimabgfpdoaaGreatDoor
open Go.RowKit Go.Wk Go.Sort
set_option maxRecDepth 100000

set_option maxRecDepth 100000 in
set_option maxHeartbeats 8000000 in
theorem end_set (a : Addr) (P : List Nd) (n c p m : Nat) (w : World) (hn : n = P.length) (hc : n ≤ c) (hm : n ≤ maxLen) (hp : p < n) (hP : NdsAt w (some a) P) (hO : NdsOk P) (hs : shapedN (P[p]'(by omega)) = true)
    (h5 : (P[p]'(by omega)).op = 5) (ih : RefC P (some a) n c m) (hfu : n - p < m + 1) :
    Calls Tryz.prog 35 #[.slice (some a) n c, .int .i64 p, .bool false] w fun e w' => e = .returned (.int .i64 (endI (setLoop P (partEnd P m) (P[p]'(by omega)).n.toNat none (p + 1)))) ∧ Below w.heap.size w w' := by
  have HM := Lib.hid hm
  unfold maxLen at hm
  have HP := Lib.hid hP
  have HN := Lib.hid hn
  have HO := Lib.hid hO
  have IH := Lib.hid ih
  have hp' : p < P.length := by omega
  obtain ⟨b, hb0, D⟩ := hP.nd hp'
  injection hb0 with hb0
  subst hb0
  have V := Lib.hid (fun w => ref_ValueNode P[p] w (hO.at hp').s (hO.at hp').t)
  unfold ndV at V
  obtain ⟨d0, d1, d2, d3⟩ := D
  obtain ⟨-, -, -, hhi⟩ := hO.at hp'
  rw [hs] at V
  rw [h5] at V d0
  have D0 := nd4_box w P[p] 33
  rw [h5] at D0
  have X := Lib.hid h5
  generalize P[p] = x at *
  have hx0 : 0 ≤ x.n := by
    unfold shapedN at hs; rw [h5] at hs; simp at hs; exact hs.1.1
  clear hs hO h5 hP hn ih
  go_enter Tryz.func35, Tryz.ntmps35
  go_wp2_with fail
  refine (V.out _).mono ?_
  rintro e w1 ⟨rfl, hb⟩
  have D1 := Lib.hid (D0.keep hb)
  obtain ⟨x0, x1, x2, x3⟩ := D1.out
  rw [X.out] at x0
  have B := Lib.hid (below_box2 hb)
  clear hb D0
  go_wp2_with fail
  clear x0 x1 x2 x3 d0 d1 d2 d3
  go_loopw [8, 9, 10, 11] (fun en la i _ wr => ∃ (k q : Nat) (lo : Option Nat), en = .int .i64 q ∧ la = .int .i64 (endI lo) ∧ i = .int .i64 k ∧ (k : Int) ≤ x.n ∧ Hid (∀ l, lo = some l → l < q) ∧ q ≤ n ∧ p < q ∧
      Hid (setLoop P (partEnd P m) x.n.toNat none (p + 1) = setLoop P (partEnd P m) (x.n.toNat - k) lo q) ∧ Hid (Nd4 wr ⟨w.heap.size, 0, none⟩ x) ∧ Hid (Below w.heap.size w wr)) (fun _ _ i _ _ => (x.n - intOf i).toNat)
  case atStart => exact ⟨0, p + 1, none, by go_num, rfl, rfl, hx0, (by intro l hl; cases hl), by omega, by omega, rfl, D1.out, B.out⟩
  case round =>
    obtain ⟨k, q, lo, rfl, rfl, rfl, hk, hlo, hq, hpq, hE, hD, hB⟩ := hrel
    obtain ⟨x0, x1, x2, x3⟩ := hD.out
    rw [X.out] at x0
    by_cases hlt : (k : Int) < x.n
    · have N := Lib.hid (HP.out.keep hB.out)
      have C := Lib.hid (IH.out.1 q wr N.out (by omega))
      rcases hf : partEnd P m q with _ | e
      · have HF := Lib.hid (hE.out.trans (setLoop_stop (by omega) hf))
        rw [hf] at C
        simp only [endI] at C
        clear hf hE
        go_wp2_with fail
        refine (C.out).mono ?_
        rintro e w2 ⟨rfl, b2⟩
        go_wp2_with fail
        go_ret
        exact ⟨ret_i64 (by rw [HF.out]; rfl), (hB.out.trans (b2.mono hB.out.size))⟩
      · have HF := Lib.hid hf
        have hpe := partEnd_le _ _ _ hf
        rw [← HN.out] at hpe
        rw [hf] at C
        simp only [endI] at C
        clear hf
        rcases lo with _ | l
        · have HG := Lib.hid (hE.out.trans (setLoop_next (by omega) HF.out rfl))
          clear hE hlo
          simp only [endI]
          go_wp2_with fail
          refine (C.out).mono ?_
          rintro e w2 ⟨rfl, b2⟩
          have B2 := Lib.hid (hB.out.trans (b2.mono hB.out.size))
          have D2 := Lib.hid (hD.out.keep b2)
          clear b2 x0 x1 x2 x3
          go_wp2_with fail
          refine wp_region_quiet_below (by kernel_rfl) (by kernel_rfl) ?_
          repeat (first | go_big_quiet_step (fail) | quiet_step (fail))
          refine wpQuiet_nil ?_
          intro w3 hw'
          have B3 := Lib.hid (show Below w2.heap.size w2 w3 by obtain ⟨⟨d, os⟩, rfl⟩ := hw'; exact below_regrown _ _ _)
          clear hw'
          go_wp2_with fail
          refine wp_region_quiet_below (by kernel_rfl) (by kernel_rfl) ?_
          repeat (first | go_big_quiet_step (fail) | quiet_step (fail))
          refine wpQuiet_nil ?_
          intro w4 hw'
          have B4 := Lib.hid (show Below w3.heap.size w3 w4 by obtain ⟨⟨d, os⟩, rfl⟩ := hw'; exact below_regrown _ _ _)
          clear hw'
          go_wp2_with fail
          go_roundw
          case rel => exact ⟨k + 1, e, some q, rfl, rfl, by go_num, by omega, (by intro l hl; cases hl; exact hpe.1), by omega, by omega, HG, Lib.hid ((D2.out.keep B3.out).keep B4.out), bhid (bhid B2 B3 (Nat.le_refl _)) B4 (Nat.le_refl _)⟩
          case measure => simp [intOf]; omega
        · have hlq := hlo.out l rfl
          clear hlo
          have sN := fun w2 (hb : Below wr.heap.size wr w2) => ref_Nodes (some (a.add (l * 4))) (some (a.add (q * 4))) (q - l) (e - q) (c - l) (c - q) (seg P l q) (seg P q e) w2 (seg_length (by rw [← HN.out]; omega)).symm (seg_length (by rw [← HN.out]; omega)).symm (Nat.le_trans (by omega) HM.out) (Nat.le_trans (by omega) HM.out)
            ((N.out.keep hb).seg l q) ((N.out.keep hb).seg q e) (HO.out.seg l q) (HO.out.seg q e)
          have hr : rises P (some l) q e = decide (cmpNds (seg P l q) (seg P q e) < 0) := rfl
          generalize cmpNds (seg P l q) (seg P q e) = v at *
          have SN := Lib.hid sN
          simp only [endI]
          clear sN
          by_cases hv : v < 0
          · have HG := Lib.hid (hE.out.trans (setLoop_next (by omega) HF.out (by rw [hr]; exact decide_eq_true hv)))
            clear hE hr
            go_wp2_with fail
            refine (C.out).mono ?_
            rintro e w2 ⟨rfl, b2⟩
            have B2 := Lib.hid (hB.out.trans (b2.mono hB.out.size))
            have D2 := Lib.hid (hD.out.keep b2)
            have k0 := cell_regrown D2.out.c0
            rw [X.out] at k0
            have s1 := rq (w := w2) (fun w' h => SN.out w' (b2.trans (h.mono b2.size)))
            clear b2 x0 x1 x2 x3
            go_wp2_with fail
            refine wp_region_quiet_below (by kernel_rfl) (by kernel_rfl) ?_
            repeat (first | go_big_quiet_step (exact s1 _ _) | quiet_step (exact s1 _ _))
            refine wpQuiet_nil ?_
            intro w3 hw'
            have B3 := Lib.hid (show Below w2.heap.size w2 w3 by obtain ⟨⟨d, os⟩, rfl⟩ := hw'; exact below_regrown _ _ _)
            clear hw'
            clear k0 s1
            have k0 := cell_regrown (D2.out.keep B3.out).c0
            rw [X.out] at k0
            go_wp2_with fail
            refine wp_region_quiet_below (by kernel_rfl) (by kernel_rfl) ?_
            repeat (first | go_big_quiet_step (fail) | quiet_step (fail))
            refine wpQuiet_nil ?_
            intro w4 hw'
            have B4 := Lib.hid (show Below w3.heap.size w3 w4 by obtain ⟨⟨d, os⟩, rfl⟩ := hw'; exact below_regrown _ _ _)
            clear hw'
            go_wp2_with fail
            go_roundw
            case rel => exact ⟨k + 1, e, some q, rfl, rfl, by go_num, by omega, (by intro l hl; cases hl; exact hpe.1), by omega, by omega, HG, Lib.hid ((D2.out.keep B3.out).keep B4.out), bhid (bhid B2 B3 (Nat.le_refl _)) B4 (Nat.le_refl _)⟩
            case measure => simp [intOf]; omega
          · have HG := Lib.hid (hE.out.trans (setLoop_fall (by omega) HF.out (by rw [hr]; exact decide_eq_false hv)))
            clear hE hr
            go_wp2_with fail
            refine (C.out).mono ?_
            rintro e w2 ⟨rfl, b2⟩
            have B2 := Lib.hid (hB.out.trans (b2.mono hB.out.size))
            have D2 := Lib.hid (hD.out.keep b2)
            have k0 := cell_regrown D2.out.c0
            rw [X.out] at k0
            have s1 := rq (w := w2) (fun w' h => SN.out w' (b2.trans (h.mono b2.size)))
            clear b2 x0 x1 x2 x3
            go_wp2_with fail
            refine wp_region_quiet_below (by kernel_rfl) (by kernel_rfl) ?_
            repeat (first | go_big_quiet_step (exact s1 _ _) | quiet_step (exact s1 _ _))
            refine wpQuiet_nil ?_
            intro w3 hw'
            have B3 := Lib.hid (show Below w2.heap.size w2 w3 by obtain ⟨⟨d, os⟩, rfl⟩ := hw'; exact below_regrown _ _ _)
            clear hw'
            clear k0 s1
            go_wp2_with fail
            go_ret
            exact ⟨ret_i64 (by rw [HG.out]; rfl), (bhid B2 B3 (Nat.le_refl _)).out⟩
    · have HG := Lib.hid (hE.out.trans (by rw [show x.n.toNat - k = 0 by omega]; rfl : _ = some q))
      clear hE hlo
      go_wp2_with fail
      go_ret
      exact ⟨ret_i64 (by rw [HG.out]; rfl), hB.out⟩

set_option maxRecDepth 100000 in
set_option maxHeartbeats 8000000 in
theorem end_rec (a : Addr) (P : List Nd) (n c p m : Nat) (w : World) (hn : n = P.length) (_hc : n ≤ c) (hm : n ≤ maxLen) (hp : p < n) (hP : NdsAt w (some a) P) (hO : NdsOk P) (hs : shapedN (P[p]'(by omega)) = true)
    (h5 : (P[p]'(by omega)).op = 6) (ih : RefC P (some a) n c m) (hfu : n - p < m + 1) :
    Calls Tryz.prog 35 #[.slice (some a) n c, .int .i64 p, .bool false] w fun e w' => e = .returned (.int .i64 (endI (recLoop P (partEnd P m) (P[p]'(by omega)).n.toNat .empty (p + 1)))) ∧ Below w.heap.size w w' := by
  have HM := Lib.hid hm
  unfold maxLen at hm
  have HP := Lib.hid hP
  have HN := Lib.hid hn
  have HO := Lib.hid hO
  have IH := Lib.hid ih
  have hp' : p < P.length := by omega
  obtain ⟨b, hb0, D⟩ := hP.nd hp'
  injection hb0 with hb0
  subst hb0
  have V := Lib.hid (fun w => ref_ValueNode P[p] w (hO.at hp').s (hO.at hp').t)
  unfold ndV at V
  obtain ⟨d0, d1, d2, d3⟩ := D
  obtain ⟨-, -, -, hhi⟩ := hO.at hp'
  rw [hs] at V
  rw [h5] at V d0
  have D0 := nd4_box w P[p] 33
  rw [h5] at D0
  have X := Lib.hid h5
  generalize P[p] = x at *
  have hx0 : 0 ≤ x.n := by
    unfold shapedN at hs; rw [h5] at hs; simp at hs; exact hs.1.1
  clear hs hO h5 hP hn ih
  go_enter Tryz.func35, Tryz.ntmps35
  go_wp2_with fail
  refine (V.out _).mono ?_
  rintro e w1 ⟨rfl, hb⟩
  have D1 := Lib.hid (D0.keep hb)
  obtain ⟨x0, x1, x2, x3⟩ := D1.out
  rw [X.out] at x0
  have B := Lib.hid (below_box2 hb)
  clear hb D0
  go_wp2_with fail
  clear x0 x1 x2 x3 d0 d1 d2 d3
  go_loopw [8, 9, 10, 11] (fun en la i _ wr => ∃ (k q : Nat) (lo : Option Nat) (ls : ByteArray), en = .int .i64 q ∧ la = .int .i64 (endI lo) ∧ i = .int .i64 k ∧ (k : Int) ≤ x.n ∧ Hid ((lo = none ∧ ls = .empty) ∨ ∃ (l : Nat) (h : l < P.length), lo = some l ∧ P[l].s = ls) ∧ q ≤ n ∧ p < q ∧
      Hid (recLoop P (partEnd P m) x.n.toNat .empty (p + 1) = recLoop P (partEnd P m) (x.n.toNat - k) ls q) ∧ Hid (Nd4 wr ⟨w.heap.size, 0, none⟩ x) ∧ Hid (Below w.heap.size w wr)) (fun _ _ i _ _ => (x.n - intOf i).toNat)
  case atStart => exact ⟨0, p + 1, none, .empty, by go_num, rfl, rfl, hx0, .inl ⟨rfl, rfl⟩, by omega, by omega, rfl, D1.out, B.out⟩
  case round =>
    obtain ⟨k, q, lo, ls, rfl, rfl, rfl, hk, hlo, hq, hpq, hE, hD, hB⟩ := hrel
    obtain ⟨x0, x1, x2, x3⟩ := hD.out
    rw [X.out] at x0
    by_cases hlt : (k : Int) < x.n
    · have N := Lib.hid (HP.out.keep hB.out)
      have C := Lib.hid (IH.out.2 q wr N.out (by omega))
      rcases hf : fieldEnd P m q with _ | e
      · have HF := Lib.hid (hE.out.trans (recLoop_none (by omega) hf))
        rw [hf] at C
        simp only [endI] at C
        clear hf hE
        go_wp2_with fail
        refine (C.out).mono ?_
        rintro e w2 ⟨rfl, b2⟩
        go_wp2_with fail
        go_ret
        exact ⟨ret_i64 (by rw [HF.out]; rfl), (hB.out.trans (b2.mono hB.out.size))⟩
      · obtain ⟨hq', f7, fs, fe⟩ := fieldEnd_some hf
        have hpe := partEnd_le _ _ _ fe
        rw [← HN.out] at hpe
        rw [hf] at C
        simp only [endI] at C
        have FP := Lib.hid (field_pos f7 fs)
        have HY := Lib.hid (show ∀ s0, cmpB s0 P[q].s < 0 → fieldOk P s0 q = some P[q].s from fun s0 h => fieldOk_yes hq' (by rw [f7, fs, decide_eq_true h]; rfl))
        have HZ := Lib.hid (show ∀ s0, ¬ cmpB s0 P[q].s < 0 → fieldOk P s0 q = none from fun s0 h => fieldOk_no hq' (by rw [decide_eq_false h]; simp))
        have FE := Lib.hid fe
        have HQ := Lib.hid hq'
        have hqn : q < n := by omega
        clear hf f7 fs fe
        rcases hlo.out with ⟨rfl, rfl⟩ | ⟨l, hl, rfl, rfl⟩
        · have HG := Lib.hid (hE.out.trans (recLoop_next (by omega) (HY.out _ FP.out) FE.out))
          clear hE hlo
          simp only [endI]
          go_wp2_with fail
          refine (C.out).mono ?_
          rintro e w2 ⟨rfl, b2⟩
          have B2 := Lib.hid (hB.out.trans (b2.mono hB.out.size))
          have D2 := Lib.hid (hD.out.keep b2)
          clear b2 x0 x1 x2 x3
          go_wp2_with fail
          refine wp_region_quiet_below (by kernel_rfl) (by kernel_rfl) ?_
          repeat (first | go_big_quiet_step (fail) | quiet_step (fail))
          refine wpQuiet_nil ?_
          intro w3 hw'
          have B3 := Lib.hid (show Below w2.heap.size w2 w3 by obtain ⟨⟨d, os⟩, rfl⟩ := hw'; exact below_regrown _ _ _)
          clear hw'
          go_wp2_with fail
          refine wp_region_quiet_below (by kernel_rfl) (by kernel_rfl) ?_
          repeat (first | go_big_quiet_step (fail) | quiet_step (fail))
          refine wpQuiet_nil ?_
          intro w4 hw'
          have B4 := Lib.hid (show Below w3.heap.size w3 w4 by obtain ⟨⟨d, os⟩, rfl⟩ := hw'; exact below_regrown _ _ _)
          clear hw'
          go_wp2_with fail
          go_roundw
          case rel => exact ⟨k + 1, e, some q, _, rfl, rfl, by go_num, by omega, .inr ⟨q, HQ.out, rfl, rfl⟩, by omega, by omega, HG, Lib.hid ((D2.out.keep B3.out).keep B4.out), bhid (bhid B2 B3 (Nat.le_refl _)) B4 (Nat.le_refl _)⟩
          case measure => simp [intOf]; omega
        · have sN := Lib.hid (fun w2 => ref_Texts P[l].s P[q].s w2 (HO.out.at hl).s (HO.out.at hq').s)
          have hln : l < n := by rw [HN.out]; exact hl
          have E1 := Lib.hid (show ∀ w2, Below wr.heap.size wr w2 → Nd4 w2 (a.add (l * 4)) P[l] from fun w2 hb => by
            obtain ⟨a', e', h⟩ := (N.out.keep hb).nd hl; cases e'; exact h)
          have E2 := Lib.hid (show ∀ w2, Below wr.heap.size wr w2 → Nd4 w2 (a.add (q * 4)) P[q] from fun w2 hb => by
            obtain ⟨a', e', h⟩ := (N.out.keep hb).nd hq'; cases e'; exact h)
          have hkN : k < x.n.toNat := by omega
          have hyes := Lib.hid (fun h : cmpB P[l].s P[q].s < 0 => hE.out.trans (recLoop_next hkN (HY.out _ h) FE.out))
          have hno := Lib.hid (fun h : ¬ cmpB P[l].s P[q].s < 0 => hE.out.trans (recLoop_bad (f := partEnd P m) hkN (HZ.out P[l].s h)))
          have HQQ := Lib.hid (show ∃ h : q < P.length, P[q].s = P[q].s from ⟨HQ.out, rfl⟩)
          generalize hyl : P[l] = y at *
          generalize hzl : P[q] = z at *
          have HZL := Lib.hid hzl
          generalize cmpB y.s z.s = v at *
          clear hE hlo hyl hzl HY HZ FP
          simp only [endI]
          by_cases hv : v < 0
          · have HG := Lib.hid (hyes.out hv)
            clear hyes hno
            go_wp2_with fail
            refine (C.out).mono ?_
            rintro e w2 ⟨rfl, b2⟩
            have B2 := Lib.hid (hB.out.trans (b2.mono hB.out.size))
            have D2 := Lib.hid (hD.out.keep b2)
            have b2' := Lib.hid b2
            have k0 := cell_regrown D2.out.c0
            rw [X.out] at k0
            clear b2 x0 x1 x2 x3
            go_wp2_with fail
            refine wp_region_quiet_below (by kernel_rfl) (by kernel_rfl) ?_
            repeat (first | go_big_quiet_step (fail) | quiet_step (fail))
            refine wpQuiet_nil ?_
            intro w3 hw'
            have B3 := Lib.hid (show Below w2.heap.size w2 w3 by obtain ⟨⟨d, os⟩, rfl⟩ := hw'; exact below_regrown _ _ _)
            clear hw'
            clear k0
            have k0 := cell_regrown (D2.out.keep B3.out).c0
            rw [X.out] at k0
            have b3' := bh b2' B3.out
            have k1 := cell_regrown (E1.out _ b3'.out).c2
            have k2 := cell_regrown (E2.out _ b3'.out).c2
            have s1 := rq (w := w3) (fun w' _ => sN.out w')
            go_wp2_with fail
            refine wp_region_quiet_below (by kernel_rfl) (by kernel_rfl) ?_
            repeat (first | go_big_quiet_step (exact s1 _ _) | quiet_step (exact s1 _ _))
            refine wpQuiet_nil ?_
            intro w4 hw'
            have B4 := Lib.hid (show Below w3.heap.size w3 w4 by obtain ⟨⟨d, os⟩, rfl⟩ := hw'; exact below_regrown _ _ _)
            clear hw'
            clear k0 k1 k2 s1
            go_wp2_with fail
            go_roundw
            case rel => exact ⟨k + 1, e, some q, _, rfl, rfl, by go_num, by omega, .inr ⟨q, HQ.out, rfl, congrArg Nd.s HZL.out⟩, by omega, by omega, HG, Lib.hid ((D2.out.keep B3.out).keep B4.out), bhid (bhid B2 B3 (Nat.le_refl _)) B4 (Nat.le_refl _)⟩
            case measure => simp [intOf]; omega
          · have HG := Lib.hid (hno.out hv)
            clear hyes hno
            go_wp2_with fail
            refine (C.out).mono ?_
            rintro e w2 ⟨rfl, b2⟩
            have B2 := Lib.hid (hB.out.trans (b2.mono hB.out.size))
            have D2 := Lib.hid (hD.out.keep b2)
            have b2' := Lib.hid b2
            have k0 := cell_regrown D2.out.c0
            rw [X.out] at k0
            clear b2 x0 x1 x2 x3
            go_wp2_with fail
            refine wp_region_quiet_below (by kernel_rfl) (by kernel_rfl) ?_
            repeat (first | go_big_quiet_step (fail) | quiet_step (fail))
            refine wpQuiet_nil ?_
            intro w3 hw'
            have B3 := Lib.hid (show Below w2.heap.size w2 w3 by obtain ⟨⟨d, os⟩, rfl⟩ := hw'; exact below_regrown _ _ _)
            clear hw'
            clear k0
            have k0 := cell_regrown (D2.out.keep B3.out).c0
            rw [X.out] at k0
            have b3' := bh b2' B3.out
            have k1 := cell_regrown (E1.out _ b3'.out).c2
            have k2 := cell_regrown (E2.out _ b3'.out).c2
            have s1 := rq (w := w3) (fun w' _ => sN.out w')
            go_wp2_with fail
            refine wp_region_quiet_below (by kernel_rfl) (by kernel_rfl) ?_
            repeat (first | go_big_quiet_step (exact s1 _ _) | quiet_step (exact s1 _ _))
            refine wpQuiet_nil ?_
            intro w4 hw'
            have B4 := Lib.hid (show Below w3.heap.size w3 w4 by obtain ⟨⟨d, os⟩, rfl⟩ := hw'; exact below_regrown _ _ _)
            clear hw'
            clear k0 k1 k2 s1
            go_wp2_with fail
            go_ret
            exact ⟨ret_i64 (by rw [HG.out]; rfl), (bhid (bhid B2 B3 (Nat.le_refl _)) B4 (Nat.le_refl _)).out⟩
    · have HG := Lib.hid (hE.out.trans (by rw [show x.n.toNat - k = 0 by omega]; rfl : _ = some q))
      clear hE hlo
      go_wp2_with fail
      go_ret
      exact ⟨ret_i64 (by rw [HG.out]; rfl), hB.out⟩
end Go.Proofs.YtbjbimabgfpdoaaGreatDoor
