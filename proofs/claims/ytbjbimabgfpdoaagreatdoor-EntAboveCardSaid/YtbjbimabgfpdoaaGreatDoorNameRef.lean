/-
  The contracts of the reference's checks of names and texts.
-/
import Derived.Test.YtbjbimabgfpdoaaGreatDoorName
namespace Go.Proofs.YtbjbimabgfpdoaaGreatDoor
open Go.RowKit Go.Wk

theorem ref_isLetter (n : Int) (w : World) (h0 : 0 ≤ n) (h1 : n ≤ 255) : Calls Tryz.prog 84 #[.int .u8 n] w fun e w' => e = .returned (.bool (isLet n)) ∧ w = w' := by
  go_enter Tryz.func84, Tryz.ntmps84
  go_wp2
  all_goals (go_ret; exact ⟨ret_bool (by unfold isLet; rw [Bool.eq_iff_iff]; simp; omega), rfl⟩)
theorem ref_isDigit (n : Int) (w : World) (h0 : 0 ≤ n) (h1 : n ≤ 255) : Calls Tryz.prog 85 #[.int .u8 n] w fun e w' => e = .returned (.bool (isDig n)) ∧ w = w' := by
  go_enter Tryz.func85, Tryz.ntmps85
  go_wp2
  all_goals (go_ret; exact ⟨ret_bool (by unfold isDig; rw [Bool.eq_iff_iff]; simp; omega), rfl⟩)

set_option maxHeartbeats 1000000 in
theorem ref_NameFault (s : ByteArray) (w : World) (hs : s.size ≤ maxLen) : Calls Tryz.prog 57 #[.string s] w fun e w' => e = .returned (.int .i64 (nameFault s)) ∧ w = w' := by
  unfold maxLen at hs
  go_enter Tryz.func57, Tryz.ntmps57
  go_wp2
  go_loop [2, 3] (fun r i => ∃ k : Nat, k ≤ s.size ∧ i = .int .i64 k ∧ r = .int .i64 0 ∧ Hid (0 < k → nameOk (s.data.toList.take k) = true)) (fun _ i => s.size - (intOf i).toNat)
  case atStart => exact ⟨0, Nat.zero_le _, rfl, rfl, fun h => absurd h (by omega)⟩
  case round =>
    obtain ⟨k, hk, rfl, rfl, hall⟩ := hrel
    by_cases hlt : k < s.size
    · have C1 := Lib.hid (fun w => ref_isLetter (s[k].toNat : Int) w (by omega) (by have := s[k].toNat_lt; omega))
      have C2 := Lib.hid (fun w => ref_isDigit (s[k].toNat : Int) w (by omega) (by have := s[k].toNat_lt; omega))
      by_cases hk0 : k = 0
      · subst hk0
        have G1 := Lib.hid (fun q : isLet (s[0].toNat : Int) = true => (show nameOk (s.data.toList.take 1) = true from nameOk_take_one hlt q))
        have G2 := Lib.hid (fun q : isLet (s[0].toNat : Int) = false => (show nameFault s = 1 by unfold nameFault; rw [nameOk_first hlt q]; rfl))
        clear hall
        rcases hx : isLet (s[0].toNat : Int) with _ | _ <;> rw [hx] at C1 G1 G2 <;> clear hx
        · go_wp2_with (go_at_call 84; refine (C1.out _).mono ?_; rintro e w' ⟨rfl, rfl⟩)
          go_ret
          exact ⟨by rw [G2.out (by simp)]; rfl, rfl⟩
        · go_wp2_with (go_at_call 84; refine (C1.out _).mono ?_; rintro e w' ⟨rfl, rfl⟩)
          go_round
          case rel => exact ⟨1, by omega, by go_num, rfl, fun _ => G1.out (by simp)⟩
          case measure => simp [intOf]; omega
      · have hst : isWrd s[k] = (isLet (s[k].toNat : Int) || isDig (s[k].toNat : Int)) := rfl
        have G1 := Lib.hid (fun q : isWrd s[k] = true => (show nameOk (s.data.toList.take (k + 1)) = true from nameOk_take_succ (by omega) hlt (hall.out (by omega)) q))
        have G2 := Lib.hid (fun q : isWrd s[k] = false => (show nameFault s = 1 by unfold nameFault; rw [nameOk_stop (by omega) hlt q]; rfl))
        rw [hst] at G1 G2
        have hk1 : ((k : Int) == 0) = false := by rw [beq_eq_false_iff_ne]; omega
        clear hst hall hk0
        rcases hx : isLet (s[k].toNat : Int) with _ | _ <;> rcases hy : isDig (s[k].toNat : Int) with _ | _ <;> rw [hx] at C1 G1 G2 <;> rw [hy] at C2 G1 G2 <;> clear hx hy
        all_goals go_wp2_with (first | (go_at_call 84; refine (C1.out _).mono ?_; rintro e w' ⟨rfl, rfl⟩) | (go_at_call 85; refine (C2.out _).mono ?_; rintro e w' ⟨rfl, rfl⟩))
        · go_ret
          exact ⟨by rw [G2.out (by simp)]; rfl, rfl⟩
        all_goals
          go_round
          case rel => exact ⟨k + 1, by omega, by go_num, rfl, fun _ => G1.out rfl⟩
          case measure => simp [intOf]; omega
    · by_cases h0 : s.size = 0
      · have H3 := Lib.hid (show nameFault s = 1 by unfold nameFault; rw [nameOk_empty h0]; rfl)
        have h1 : ((s.size : Int) == 0) = true := by rw [beq_iff_eq]; omega
        clear hall
        go_wp2
        go_ret
        exact ⟨by rw [H3.out]; rfl, rfl⟩
      · have H2 := Lib.hid (show nameOk s.data.toList = true from nameOk_end (by omega) (hall.out (by omega)))
        have h1 : ((s.size : Int) == 0) = false := by rw [beq_eq_false_iff_ne]; omega
        clear hall h0
        by_cases h20 : 20 < s.size
        · have H3 := Lib.hid (show nameFault s = 4 by unfold nameFault; rw [H2.out, if_pos rfl, if_pos h20])
          clear H2
          go_wp2
          go_ret
          exact ⟨by rw [H3.out]; rfl, rfl⟩
        · have H3 := Lib.hid (show nameFault s = 0 by unfold nameFault; rw [H2.out, if_pos rfl, if_neg h20])
          clear H2
          go_wp2
          go_ret
          exact ⟨by rw [H3.out]; rfl, rfl⟩

set_option maxHeartbeats 400000 in
theorem ref_TextFault (s : ByteArray) (w : World) (hs : s.size ≤ maxLen) : Calls Tryz.prog 58 #[.string s] w fun e w' => e = .returned (.int .i64 (textFault s)) ∧ Below w.heap.size w w' := by
  unfold maxLen at hs
  by_cases h60 : 60 < s.size
  · have H := Lib.hid (show textFault s = 4 by unfold textFault; rw [if_pos h60])
    go_enter Tryz.func58, Tryz.ntmps58
    go_wp2
    go_ret
    exact ⟨by rw [H.out]; rfl, Below.refl _ _⟩
  have H := Lib.hid (show textFault s = if s.data.toList.all isPrtB then 0 else 1 by unfold textFault; rw [if_neg (by omega)])
  go_enter Tryz.func58, Tryz.ntmps58
  go_wp2
  go_loopw [2, 3] (fun r i wr => ∃ k : Nat, k ≤ s.size ∧ i = .int .i64 k ∧ r = .int .i64 0 ∧ Hid ((s.data.toList.take k).all isPrtB = true) ∧ Below w.heap.size w wr) (fun _ i _ => s.size - (intOf i).toNat)
  case atStart => exact ⟨0, Nat.zero_le _, rfl, rfl, by simp [Hid], Below.refl _ _⟩
  case round =>
    obtain ⟨k, hk, rfl, rfl, hall, hb⟩ := hrel
    by_cases hlt : k < s.size
    · by_cases hp : 32 ≤ (s[k].toNat : Int) ∧ (s[k].toNat : Int) ≤ 126
      · have H2 := Lib.hid (show (s.data.toList.take (k + 1)).all isPrtB = true by rw [all_succ s isPrtB hlt, hall.out, Bool.true_and]; unfold isPrtB isPrt; simp; omega)
        obtain ⟨hp1, hp2⟩ := hp
        have q1 : decide ((s[k].toNat : Int) < 32) = false := by simp; omega
        clear hall
        go_wp2
        go_roundw
        case rel => exact ⟨k + 1, by omega, by go_num, rfl, H2, hb⟩
        case measure => simp [intOf]; omega
      · have H2 := Lib.hid (show s.data.toList.all isPrtB = false from all_stop hlt (by unfold isPrtB isPrt; rw [Bool.eq_false_iff]; simp; omega))
        clear hall
        by_cases hq : (s[k].toNat : Int) < 32
        · clear hp
          have q1 : decide ((s[k].toNat : Int) < 32) = true := by simp; omega
          go_wp2
          go_ret
          exact ⟨by rw [H.out, H2.out]; rfl, hb⟩
        · have hq2 : 126 < (s[k].toNat : Int) := by omega
          clear hp
          have q1 : decide ((s[k].toNat : Int) < 32) = false := by simp; omega
          go_wp2
          go_ret
          exact ⟨by rw [H.out, H2.out]; rfl, hb⟩
    · have H2 := Lib.hid (show s.data.toList.all isPrtB = true from (all_end (k := k) (by omega)).symm.trans hall.out)
      clear hall
      go_wp2
      go_ret
      exact ⟨by rw [H.out, H2.out]; rfl, hb⟩
end Go.Proofs.YtbjbimabgfpdoaaGreatDoor
