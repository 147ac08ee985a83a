/-
  NumRing: the walk of the law.
-/
import Derived.Test.YtbaccefcgblagaaDoorNum
import Derived.Test.YtbaccefcgblagaaDoorTold
namespace Go.Proofs.YtbaccefcgblagaaDoor
open Go.RowKit Go.Wk

theorem fact_NumRingV : numV 17 3 (-4) = -1 := by decide +kernel
theorem fact_NumRingE : numE 17 3 (-4) = 0 := by decide +kernel
theorem numV_comm (op a b : Int) (h : op = 17 ∨ op = 19) : numV op b a = numV op a b := by
  rcases h with rfl | rfl <;> simp [numV, numR, Int.add_comm, Int.mul_comm]
theorem numE_comm (op a b : Int) (h : op = 17 ∨ op = 19) : numE op b a = numE op a b := by
  rcases h with rfl | rfl <;> simp [numE, numR, Int.add_comm, Int.mul_comm]
theorem num_fit {op a b : Int} (hop : op = 17 ∨ op = 18 ∨ op = 19) (h : fits (numR op a b) = true) : numV op a b = numR op a b ∧ numE op a b = 0 := by
  unfold numV numE; rw [if_pos hop, if_pos hop, if_pos h, if_pos h]; exact ⟨rfl, rfl⟩
theorem num_over {op a b : Int} (hop : op = 17 ∨ op = 18 ∨ op = 19) (h : fits (numR op a b) = false) : numV op a b = 0 ∧ numE op a b = 5 := by
  unfold numV numE; rw [if_pos hop, if_pos hop, if_neg (by simp [h]), if_neg (by simp [h])]; exact ⟨rfl, rfl⟩
/-- A sum, difference or product that fits. -/
theorem Do_fit {op a b : Int} (hop : op = 17 ∨ op = 18 ∨ op = 19) (ha : I64 a) (hb : I64 b) {r : Int} (hr : numR op a b = r) (h : fits r = true) (w : World) :
    Calls Tryd.prog 14 #[.int .i64 op, .int .i64 a, .int .i64 b] w fun e w' => e = .returned (.tuple #[.int .i64 r, .nilIface]) ∧ w = w' := by
  have h0 := num_Do op a b w ha hb
  obtain ⟨e1, e2⟩ := num_fit hop (by rw [hr]; exact h)
  rw [e1, e2, hr] at h0; exact h0
theorem Do_over {op a b : Int} (hop : op = 17 ∨ op = 18 ∨ op = 19) (ha : I64 a) (hb : I64 b) (h : fits (numR op a b) = false) (w : World) :
    Calls Tryd.prog 14 #[.int .i64 op, .int .i64 a, .int .i64 b] w fun e w' => e = .returned (.tuple #[.int .i64 0, .iface 26 (.int .i64 5)]) ∧ w = w' := by
  have h0 := num_Do op a b w ha hb
  obtain ⟨e1, e2⟩ := num_over hop h
  rw [e1, e2] at h0; exact h0
theorem Neg_fit {a : Int} (ha : I64 a) (h : fits (0 - a) = true) (w : World) :
    Calls Tryd.prog 16 #[.int .i64 a] w fun e w' => e = .returned (.tuple #[.int .i64 (0 - a), .nilIface]) ∧ w = w' := by
  have h0 := num_Neg a w ha
  obtain ⟨e1, e2⟩ := num_fit (op := 18) (a := 0) (b := a) (by simp) h
  rw [e1, e2] at h0; exact h0
theorem Neg_over {a : Int} (ha : I64 a) (h : fits (0 - a) = false) (w : World) :
    Calls Tryd.prog 16 #[.int .i64 a] w fun e w' => e = .returned (.tuple #[.int .i64 0, .iface 26 (.int .i64 5)]) ∧ w = w' := by
  have h0 := num_Neg a w ha
  obtain ⟨e1, e2⟩ := num_over (op := 18) (a := 0) (b := a) (by simp) h
  rw [e1, e2] at h0; exact h0
theorem Neg_back {a : Int} (ha : I64 a) (h : fits (0 - a) = true) (w : World) :
    Calls Tryd.prog 16 #[.int .i64 (0 - a)] w fun e w' => e = .returned (.tuple #[.int .i64 a, .nilIface]) ∧ w = w' := by
  have h2 := Neg_fit (a := 0 - a) ((fits_iff _).1 h) (by rw [show 0 - (0 - a) = a by omega]; exact (fits_iff _).2 ha) w
  rw [show 0 - (0 - a) = a by omega] at h2; exact h2

set_option maxHeartbeats 4000000 in
set_option maxRecDepth 100000 in
theorem NumRing_walk (a b c : Int) (w : World) (a1 : -9223372036854775808 ≤ a) (a2 : a ≤ 9223372036854775807) (b1 : -9223372036854775808 ≤ b) (b2 : b ≤ 9223372036854775807) (c1 : -9223372036854775808 ≤ c) (c2 : c ≤ 9223372036854775807) (hg : Door w) :
    Calls Tryd.prog 5 #[.int .i64 a, .int .i64 b, .int .i64 c] w fun e w' => e = .returned (.bool true) ∧ Below w.heap.size w w' := by
  have ia : I64 a := ⟨a1, a2⟩
  have ib : I64 b := ⟨b1, b2⟩
  have ic : I64 c := ⟨c1, c2⟩
  have K0 := Lib.hid (fun w => Do_fit (op := 17) (a := 3) (b := -4) (r := -1) (by simp) (by unfold I64; omega) (by unfold I64; omega) (by decide) (by decide +kernel) w)
  have K1 := Lib.hid (fun op w => num_Do op a b w ia ib)
  have K2 := Lib.hid (fun (op : Int) (h : op = 17 ∨ op = 19) w => (show Calls Tryd.prog 14 #[.int .i64 op, .int .i64 b, .int .i64 a] w fun e w' => e = .returned (.tuple #[.int .i64 (numV op a b), errV (numE op a b)]) ∧ w = w' by
    have h0 := num_Do op b a w ib ia
    rw [numV_comm op a b h, numE_comm op a b h] at h0; exact h0))
  have Ia := Lib.hid ia; have Ib := Lib.hid ib; have Ic := Lib.hid ic
  clear ia ib ic a1 a2 b1 b2 c1 c2
  go_enter Tryd.func5, Tryd.ntmps5
  go_wp2_with fail
  refine (K0.out _).mono ?_
  rintro e w1 ⟨rfl, rfl⟩
  clear K0
  go_wp2
  go_loopw [6, 9, 10, 11, 12, 13, 14] (fun r o _ _ _ _ _ wr => ∃ n : Int, (n = 17 ∨ n = 19 ∨ n = 21) ∧ o = .int .i64 n ∧ r = .bool false ∧ Door wr ∧ Hid (Below w.heap.size w wr)) (fun _ o _ _ _ _ _ _ => (21 - intOf o).toNat)
  case atStart => exact ⟨17, by simp, rfl, rfl, hg, Below.refl _ _⟩
  case round =>
    obtain ⟨n, hn, rfl, rfl, hgr, hbr⟩ := hrel
    by_cases h21 : n = 21
    · subst h21
      clear hn K1 K2
      rcases f1 : fits (a + b) with _ | _
      · have Ka := Lib.hid (fun w => Do_over (op := 17) (by simp) Ia.out Ib.out f1 w)
        clear f1
        go_wp2_with fail
        refine (Ka.out _).mono ?_
        rintro e w1 ⟨rfl, rfl⟩
        clear Ka
        rcases f2 : fits (0 - a) with _ | _
        · have Kn := Lib.hid (fun w => Neg_over Ia.out f2 w)
          clear f2
          go_wp2_with fail
          refine (Kn.out _).mono ?_
          rintro e w1 ⟨rfl, rfl⟩
          clear Kn
          by_cases f3 : fits (a * b) = true ∧ fits (a * c) = true ∧ fits (b + c) = true
          · obtain ⟨f3, f4, f5⟩ := f3
            have Kp := Lib.hid (fun w => Do_fit (op := 19) (by simp) Ia.out Ib.out rfl f3 w)
            have Kq := Lib.hid (fun w => Do_fit (op := 19) (by simp) Ia.out Ic.out rfl f4 w)
            have Ks := Lib.hid (fun w => Do_fit (op := 17) (by simp) Ib.out Ic.out rfl f5 w)
            have Kt := Lib.hid (fun w => num_Do 17 (a * b) (a * c) w ((fits_iff _).1 f3) ((fits_iff _).1 f4))
            have Ku := Lib.hid (fun w => (show Calls Tryd.prog 14 #[.int .i64 19, .int .i64 a, .int .i64 (b + c)] w fun e w' => e = .returned (.tuple #[.int .i64 (numV 17 (a * b) (a * c)), errV (numE 17 (a * b) (a * c))]) ∧ w = w' by
              have h0 := num_Do 19 a (b + c) w Ia.out ((fits_iff _).1 f5)
              have e1 : numV 19 a (b + c) = numV 17 (a * b) (a * c) := by simp [numV, numR, Int.mul_add]
              have e2 : numE 19 a (b + c) = numE 17 (a * b) (a * c) := by simp [numE, numR, Int.mul_add]
              rw [e1, e2] at h0; exact h0))
            clear f3 f4 f5
            simp only [numR] at Kp Kq Ks
            generalize numV 17 (a * b) (a * c) = x at *
            generalize numE 17 (a * b) (a * c) = y at *
            generalize a * b = p at *
            generalize a * c = q at *
            generalize b + c = s at *
            clear Ia Ib Ic
            go_wp2_with fail
            refine (Kp.out _).mono ?_
            rintro e w1 ⟨rfl, rfl⟩
            go_wp2_with fail
            refine (Kq.out _).mono ?_
            rintro e w1 ⟨rfl, rfl⟩
            go_wp2_with fail
            refine (Ks.out _).mono ?_
            rintro e w1 ⟨rfl, rfl⟩
            go_wp2_with fail
            refine (Kt.out _).mono ?_
            rintro e w1 ⟨rfl, rfl⟩
            go_wp2_with fail
            refine (Ku.out _).mono ?_
            rintro e w1 ⟨rfl, rfl⟩
            go_wp2_with fail
            refine (same_Told _ _ _ hgr).mono ?_
            rintro e w1 ⟨rfl, hb1⟩
            rw [beq_self_eq_true]
            go_wp2
            go_ret
            exact ⟨rfl, hbr.out.trans (hb1.mono hbr.out.size)⟩
          · have Kp := Lib.hid (fun w => num_Do 19 a b w Ia.out Ib.out)
            have Kq := Lib.hid (fun w => num_Do 19 a c w Ia.out Ic.out)
            have Ks := Lib.hid (fun w => num_Do 17 b c w Ib.out Ic.out)
            have hne : numE 19 a b ≠ 0 ∨ (numE 19 a b = 0 ∧ numE 19 a c ≠ 0) ∨ (numE 19 a b = 0 ∧ numE 19 a c = 0 ∧ numE 17 b c ≠ 0) := by
              rcases q3 : fits (a * b) with _ | _
              · exact .inl (by rw [(num_over (op := 19) (a := a) (b := b) (by simp) q3).2]; decide)
              · rcases q4 : fits (a * c) with _ | _
                · exact .inr (.inl ⟨(num_fit (op := 19) (a := a) (b := b) (by simp) q3).2, by rw [(num_over (op := 19) (a := a) (b := c) (by simp) q4).2]; decide⟩)
                · rcases q5 : fits (b + c) with _ | _
                  · exact .inr (.inr ⟨(num_fit (op := 19) (a := a) (b := b) (by simp) q3).2, (num_fit (op := 19) (a := a) (b := c) (by simp) q4).2, by rw [(num_over (op := 17) (a := b) (b := c) (by simp) q5).2]; decide⟩)
                  · exact absurd ⟨q3, q4, q5⟩ f3
            generalize numV 19 a b = x1 at *
            generalize numE 19 a b = y1 at *
            generalize numV 19 a c = x2 at *
            generalize numE 19 a c = y2 at *
            generalize numV 17 b c = x3 at *
            generalize numE 17 b c = y3 at *
            clear Ia Ib Ic f3
            rcases hne with h1 | ⟨rfl, h1⟩ | ⟨rfl, rfl, h1⟩
            all_goals
              first | rw [errV_ne h1] at Kp | rw [errV_zero] at Kp
              first | rw [errV_ne h1] at Kq | rw [errV_zero] at Kq | skip
              first | rw [errV_ne h1] at Ks | skip
              clear h1
              go_wp2_with fail
              refine (Kp.out _).mono ?_
              rintro e w1 ⟨rfl, rfl⟩
              go_wp2_with fail
              refine (Kq.out _).mono ?_
              rintro e w1 ⟨rfl, rfl⟩
              go_wp2_with fail
              refine (Ks.out _).mono ?_
              rintro e w1 ⟨rfl, rfl⟩
              go_wp2
              go_ret
              exact ⟨rfl, hbr.out⟩
        · have Kn := Lib.hid (fun w => Neg_fit Ia.out f2 w)
          have Km := Lib.hid (fun w => Neg_back Ia.out f2 w)
          clear f2
          generalize 0 - a = m at *
          go_wp2_with fail
          refine (Kn.out _).mono ?_
          rintro e w1 ⟨rfl, rfl⟩
          go_wp2_with fail
          refine (Km.out _).mono ?_
          rintro e w1 ⟨rfl, rfl⟩
          clear Kn Km
          by_cases f3 : fits (a * b) = true ∧ fits (a * c) = true ∧ fits (b + c) = true
          · obtain ⟨f3, f4, f5⟩ := f3
            have Kp := Lib.hid (fun w => Do_fit (op := 19) (by simp) Ia.out Ib.out rfl f3 w)
            have Kq := Lib.hid (fun w => Do_fit (op := 19) (by simp) Ia.out Ic.out rfl f4 w)
            have Ks := Lib.hid (fun w => Do_fit (op := 17) (by simp) Ib.out Ic.out rfl f5 w)
            have Kt := Lib.hid (fun w => num_Do 17 (a * b) (a * c) w ((fits_iff _).1 f3) ((fits_iff _).1 f4))
            have Ku := Lib.hid (fun w => (show Calls Tryd.prog 14 #[.int .i64 19, .int .i64 a, .int .i64 (b + c)] w fun e w' => e = .returned (.tuple #[.int .i64 (numV 17 (a * b) (a * c)), errV (numE 17 (a * b) (a * c))]) ∧ w = w' by
              have h0 := num_Do 19 a (b + c) w Ia.out ((fits_iff _).1 f5)
              have e1 : numV 19 a (b + c) = numV 17 (a * b) (a * c) := by simp [numV, numR, Int.mul_add]
              have e2 : numE 19 a (b + c) = numE 17 (a * b) (a * c) := by simp [numE, numR, Int.mul_add]
              rw [e1, e2] at h0; exact h0))
            clear f3 f4 f5
            simp only [numR] at Kp Kq Ks
            generalize numV 17 (a * b) (a * c) = x at *
            generalize numE 17 (a * b) (a * c) = y at *
            generalize a * b = p at *
            generalize a * c = q at *
            generalize b + c = s at *
            clear Ia Ib Ic
            go_wp2_with fail
            refine (Kp.out _).mono ?_
            rintro e w1 ⟨rfl, rfl⟩
            go_wp2_with fail
            refine (Kq.out _).mono ?_
            rintro e w1 ⟨rfl, rfl⟩
            go_wp2_with fail
            refine (Ks.out _).mono ?_
            rintro e w1 ⟨rfl, rfl⟩
            go_wp2_with fail
            refine (Kt.out _).mono ?_
            rintro e w1 ⟨rfl, rfl⟩
            go_wp2_with fail
            refine (Ku.out _).mono ?_
            rintro e w1 ⟨rfl, rfl⟩
            go_wp2_with fail
            refine (same_Told _ _ _ hgr).mono ?_
            rintro e w1 ⟨rfl, hb1⟩
            rw [beq_self_eq_true]
            go_wp2
            go_ret
            exact ⟨rfl, hbr.out.trans (hb1.mono hbr.out.size)⟩
          · have Kp := Lib.hid (fun w => num_Do 19 a b w Ia.out Ib.out)
            have Kq := Lib.hid (fun w => num_Do 19 a c w Ia.out Ic.out)
            have Ks := Lib.hid (fun w => num_Do 17 b c w Ib.out Ic.out)
            have hne : numE 19 a b ≠ 0 ∨ (numE 19 a b = 0 ∧ numE 19 a c ≠ 0) ∨ (numE 19 a b = 0 ∧ numE 19 a c = 0 ∧ numE 17 b c ≠ 0) := by
              rcases q3 : fits (a * b) with _ | _
              · exact .inl (by rw [(num_over (op := 19) (a := a) (b := b) (by simp) q3).2]; decide)
              · rcases q4 : fits (a * c) with _ | _
                · exact .inr (.inl ⟨(num_fit (op := 19) (a := a) (b := b) (by simp) q3).2, by rw [(num_over (op := 19) (a := a) (b := c) (by simp) q4).2]; decide⟩)
                · rcases q5 : fits (b + c) with _ | _
                  · exact .inr (.inr ⟨(num_fit (op := 19) (a := a) (b := b) (by simp) q3).2, (num_fit (op := 19) (a := a) (b := c) (by simp) q4).2, by rw [(num_over (op := 17) (a := b) (b := c) (by simp) q5).2]; decide⟩)
                  · exact absurd ⟨q3, q4, q5⟩ f3
            generalize numV 19 a b = x1 at *
            generalize numE 19 a b = y1 at *
            generalize numV 19 a c = x2 at *
            generalize numE 19 a c = y2 at *
            generalize numV 17 b c = x3 at *
            generalize numE 17 b c = y3 at *
            clear Ia Ib Ic f3
            rcases hne with h1 | ⟨rfl, h1⟩ | ⟨rfl, rfl, h1⟩
            all_goals
              first | rw [errV_ne h1] at Kp | rw [errV_zero] at Kp
              first | rw [errV_ne h1] at Kq | rw [errV_zero] at Kq | skip
              first | rw [errV_ne h1] at Ks | skip
              clear h1
              go_wp2_with fail
              refine (Kp.out _).mono ?_
              rintro e w1 ⟨rfl, rfl⟩
              go_wp2_with fail
              refine (Kq.out _).mono ?_
              rintro e w1 ⟨rfl, rfl⟩
              go_wp2_with fail
              refine (Ks.out _).mono ?_
              rintro e w1 ⟨rfl, rfl⟩
              go_wp2
              go_ret
              exact ⟨rfl, hbr.out⟩
      · have Ka := Lib.hid (fun w => Do_fit (op := 17) (r := a + b) (by simp) Ia.out Ib.out rfl f1 w)
        have Kb := Lib.hid (fun w => Do_fit (op := 18) (a := a + b) (b := b) (r := a) (by simp) ((fits_iff _).1 f1) Ib.out (by simp [numR]) ((fits_iff _).2 Ia.out) w)
        clear f1
        generalize hx : a + b = x at *
        clear hx
        go_wp2_with fail
        refine (Ka.out _).mono ?_
        rintro e w1 ⟨rfl, rfl⟩
        go_wp2_with fail
        refine (Kb.out _).mono ?_
        rintro e w1 ⟨rfl, rfl⟩
        clear Ka Kb
        rcases f2 : fits (0 - a) with _ | _
        · have Kn := Lib.hid (fun w => Neg_over Ia.out f2 w)
          clear f2
          go_wp2_with fail
          refine (Kn.out _).mono ?_
          rintro e w1 ⟨rfl, rfl⟩
          clear Kn
          by_cases f3 : fits (a * b) = true ∧ fits (a * c) = true ∧ fits (b + c) = true
          · obtain ⟨f3, f4, f5⟩ := f3
            have Kp := Lib.hid (fun w => Do_fit (op := 19) (by simp) Ia.out Ib.out rfl f3 w)
            have Kq := Lib.hid (fun w => Do_fit (op := 19) (by simp) Ia.out Ic.out rfl f4 w)
            have Ks := Lib.hid (fun w => Do_fit (op := 17) (by simp) Ib.out Ic.out rfl f5 w)
            have Kt := Lib.hid (fun w => num_Do 17 (a * b) (a * c) w ((fits_iff _).1 f3) ((fits_iff _).1 f4))
            have Ku := Lib.hid (fun w => (show Calls Tryd.prog 14 #[.int .i64 19, .int .i64 a, .int .i64 (b + c)] w fun e w' => e = .returned (.tuple #[.int .i64 (numV 17 (a * b) (a * c)), errV (numE 17 (a * b) (a * c))]) ∧ w = w' by
              have h0 := num_Do 19 a (b + c) w Ia.out ((fits_iff _).1 f5)
              have e1 : numV 19 a (b + c) = numV 17 (a * b) (a * c) := by simp [numV, numR, Int.mul_add]
              have e2 : numE 19 a (b + c) = numE 17 (a * b) (a * c) := by simp [numE, numR, Int.mul_add]
              rw [e1, e2] at h0; exact h0))
            clear f3 f4 f5
            simp only [numR] at Kp Kq Ks
            generalize numV 17 (a * b) (a * c) = x at *
            generalize numE 17 (a * b) (a * c) = y at *
            generalize a * b = p at *
            generalize a * c = q at *
            generalize b + c = s at *
            clear Ia Ib Ic
            go_wp2_with fail
            refine (Kp.out _).mono ?_
            rintro e w1 ⟨rfl, rfl⟩
            go_wp2_with fail
            refine (Kq.out _).mono ?_
            rintro e w1 ⟨rfl, rfl⟩
            go_wp2_with fail
            refine (Ks.out _).mono ?_
            rintro e w1 ⟨rfl, rfl⟩
            go_wp2_with fail
            refine (Kt.out _).mono ?_
            rintro e w1 ⟨rfl, rfl⟩
            go_wp2_with fail
            refine (Ku.out _).mono ?_
            rintro e w1 ⟨rfl, rfl⟩
            go_wp2_with fail
            refine (same_Told _ _ _ hgr).mono ?_
            rintro e w1 ⟨rfl, hb1⟩
            rw [beq_self_eq_true]
            go_wp2
            go_ret
            exact ⟨rfl, hbr.out.trans (hb1.mono hbr.out.size)⟩
          · have Kp := Lib.hid (fun w => num_Do 19 a b w Ia.out Ib.out)
            have Kq := Lib.hid (fun w => num_Do 19 a c w Ia.out Ic.out)
            have Ks := Lib.hid (fun w => num_Do 17 b c w Ib.out Ic.out)
            have hne : numE 19 a b ≠ 0 ∨ (numE 19 a b = 0 ∧ numE 19 a c ≠ 0) ∨ (numE 19 a b = 0 ∧ numE 19 a c = 0 ∧ numE 17 b c ≠ 0) := by
              rcases q3 : fits (a * b) with _ | _
              · exact .inl (by rw [(num_over (op := 19) (a := a) (b := b) (by simp) q3).2]; decide)
              · rcases q4 : fits (a * c) with _ | _
                · exact .inr (.inl ⟨(num_fit (op := 19) (a := a) (b := b) (by simp) q3).2, by rw [(num_over (op := 19) (a := a) (b := c) (by simp) q4).2]; decide⟩)
                · rcases q5 : fits (b + c) with _ | _
                  · exact .inr (.inr ⟨(num_fit (op := 19) (a := a) (b := b) (by simp) q3).2, (num_fit (op := 19) (a := a) (b := c) (by simp) q4).2, by rw [(num_over (op := 17) (a := b) (b := c) (by simp) q5).2]; decide⟩)
                  · exact absurd ⟨q3, q4, q5⟩ f3
            generalize numV 19 a b = x1 at *
            generalize numE 19 a b = y1 at *
            generalize numV 19 a c = x2 at *
            generalize numE 19 a c = y2 at *
            generalize numV 17 b c = x3 at *
            generalize numE 17 b c = y3 at *
            clear Ia Ib Ic f3
            rcases hne with h1 | ⟨rfl, h1⟩ | ⟨rfl, rfl, h1⟩
            all_goals
              first | rw [errV_ne h1] at Kp | rw [errV_zero] at Kp
              first | rw [errV_ne h1] at Kq | rw [errV_zero] at Kq | skip
              first | rw [errV_ne h1] at Ks | skip
              clear h1
              go_wp2_with fail
              refine (Kp.out _).mono ?_
              rintro e w1 ⟨rfl, rfl⟩
              go_wp2_with fail
              refine (Kq.out _).mono ?_
              rintro e w1 ⟨rfl, rfl⟩
              go_wp2_with fail
              refine (Ks.out _).mono ?_
              rintro e w1 ⟨rfl, rfl⟩
              go_wp2
              go_ret
              exact ⟨rfl, hbr.out⟩
        · have Kn := Lib.hid (fun w => Neg_fit Ia.out f2 w)
          have Km := Lib.hid (fun w => Neg_back Ia.out f2 w)
          clear f2
          generalize 0 - a = m at *
          go_wp2_with fail
          refine (Kn.out _).mono ?_
          rintro e w1 ⟨rfl, rfl⟩
          go_wp2_with fail
          refine (Km.out _).mono ?_
          rintro e w1 ⟨rfl, rfl⟩
          clear Kn Km
          by_cases f3 : fits (a * b) = true ∧ fits (a * c) = true ∧ fits (b + c) = true
          · obtain ⟨f3, f4, f5⟩ := f3
            have Kp := Lib.hid (fun w => Do_fit (op := 19) (by simp) Ia.out Ib.out rfl f3 w)
            have Kq := Lib.hid (fun w => Do_fit (op := 19) (by simp) Ia.out Ic.out rfl f4 w)
            have Ks := Lib.hid (fun w => Do_fit (op := 17) (by simp) Ib.out Ic.out rfl f5 w)
            have Kt := Lib.hid (fun w => num_Do 17 (a * b) (a * c) w ((fits_iff _).1 f3) ((fits_iff _).1 f4))
            have Ku := Lib.hid (fun w => (show Calls Tryd.prog 14 #[.int .i64 19, .int .i64 a, .int .i64 (b + c)] w fun e w' => e = .returned (.tuple #[.int .i64 (numV 17 (a * b) (a * c)), errV (numE 17 (a * b) (a * c))]) ∧ w = w' by
              have h0 := num_Do 19 a (b + c) w Ia.out ((fits_iff _).1 f5)
              have e1 : numV 19 a (b + c) = numV 17 (a * b) (a * c) := by simp [numV, numR, Int.mul_add]
              have e2 : numE 19 a (b + c) = numE 17 (a * b) (a * c) := by simp [numE, numR, Int.mul_add]
              rw [e1, e2] at h0; exact h0))
            clear f3 f4 f5
            simp only [numR] at Kp Kq Ks
            generalize numV 17 (a * b) (a * c) = x at *
            generalize numE 17 (a * b) (a * c) = y at *
            generalize a * b = p at *
            generalize a * c = q at *
            generalize b + c = s at *
            clear Ia Ib Ic
            go_wp2_with fail
            refine (Kp.out _).mono ?_
            rintro e w1 ⟨rfl, rfl⟩
            go_wp2_with fail
            refine (Kq.out _).mono ?_
            rintro e w1 ⟨rfl, rfl⟩
            go_wp2_with fail
            refine (Ks.out _).mono ?_
            rintro e w1 ⟨rfl, rfl⟩
            go_wp2_with fail
            refine (Kt.out _).mono ?_
            rintro e w1 ⟨rfl, rfl⟩
            go_wp2_with fail
            refine (Ku.out _).mono ?_
            rintro e w1 ⟨rfl, rfl⟩
            go_wp2_with fail
            refine (same_Told _ _ _ hgr).mono ?_
            rintro e w1 ⟨rfl, hb1⟩
            rw [beq_self_eq_true]
            go_wp2
            go_ret
            exact ⟨rfl, hbr.out.trans (hb1.mono hbr.out.size)⟩
          · have Kp := Lib.hid (fun w => num_Do 19 a b w Ia.out Ib.out)
            have Kq := Lib.hid (fun w => num_Do 19 a c w Ia.out Ic.out)
            have Ks := Lib.hid (fun w => num_Do 17 b c w Ib.out Ic.out)
            have hne : numE 19 a b ≠ 0 ∨ (numE 19 a b = 0 ∧ numE 19 a c ≠ 0) ∨ (numE 19 a b = 0 ∧ numE 19 a c = 0 ∧ numE 17 b c ≠ 0) := by
              rcases q3 : fits (a * b) with _ | _
              · exact .inl (by rw [(num_over (op := 19) (a := a) (b := b) (by simp) q3).2]; decide)
              · rcases q4 : fits (a * c) with _ | _
                · exact .inr (.inl ⟨(num_fit (op := 19) (a := a) (b := b) (by simp) q3).2, by rw [(num_over (op := 19) (a := a) (b := c) (by simp) q4).2]; decide⟩)
                · rcases q5 : fits (b + c) with _ | _
                  · exact .inr (.inr ⟨(num_fit (op := 19) (a := a) (b := b) (by simp) q3).2, (num_fit (op := 19) (a := a) (b := c) (by simp) q4).2, by rw [(num_over (op := 17) (a := b) (b := c) (by simp) q5).2]; decide⟩)
                  · exact absurd ⟨q3, q4, q5⟩ f3
            generalize numV 19 a b = x1 at *
            generalize numE 19 a b = y1 at *
            generalize numV 19 a c = x2 at *
            generalize numE 19 a c = y2 at *
            generalize numV 17 b c = x3 at *
            generalize numE 17 b c = y3 at *
            clear Ia Ib Ic f3
            rcases hne with h1 | ⟨rfl, h1⟩ | ⟨rfl, rfl, h1⟩
            all_goals
              first | rw [errV_ne h1] at Kp | rw [errV_zero] at Kp
              first | rw [errV_ne h1] at Kq | rw [errV_zero] at Kq | skip
              first | rw [errV_ne h1] at Ks | skip
              clear h1
              go_wp2_with fail
              refine (Kp.out _).mono ?_
              rintro e w1 ⟨rfl, rfl⟩
              go_wp2_with fail
              refine (Kq.out _).mono ?_
              rintro e w1 ⟨rfl, rfl⟩
              go_wp2_with fail
              refine (Ks.out _).mono ?_
              rintro e w1 ⟨rfl, rfl⟩
              go_wp2
              go_ret
              exact ⟨rfl, hbr.out⟩
    · have hop : n = 17 ∨ n = 19 := by omega
      have k1 := Lib.hid (K1.out n)
      have k2 := Lib.hid (K2.out n hop)
      clear K1 K2
      generalize numV n a b = x at *
      generalize numE n a b = y at *
      have hle : n ≤ 19 := by omega
      have hge : 17 ≤ n := by omega
      go_wp2_with fail
      refine (k1.out _).mono ?_
      rintro e w1 ⟨rfl, rfl⟩
      go_wp2_with fail
      refine (k2.out _).mono ?_
      rintro e w1 ⟨rfl, rfl⟩
      go_wp2_with fail
      refine (same_Told _ _ _ hgr).mono ?_
      rintro e w1 ⟨rfl, hb1⟩
      have g1 := hgr.keep hb1
      have B1 := Lib.hid (hbr.out.trans (hb1.mono hbr.out.size))
      rw [beq_self_eq_true]
      clear hb1 hgr hbr
      go_wp2
      go_roundw
      case rel => exact ⟨n + 2, by omega, rfl, rfl, g1, B1⟩
      case measure => simp [intOf]; omega
end Go.Proofs.YtbaccefcgblagaaDoor
