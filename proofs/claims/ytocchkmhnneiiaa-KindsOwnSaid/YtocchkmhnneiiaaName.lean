/-
  The contracts of the checks of names and texts, of the program and of the reference.
-/
import Derived.Test.YtocchkmhnneiiaaBase
import Derived.Test.YtocchkmhnneiiaaNameLaw
namespace Go.Proofs.Ytocchkmhnneiiaa
open Go.RowKit Go.Wk

theorem name_letter (n : Int) (w : World) (h0 : 0 ≤ n) (h1 : n ≤ 255) : Calls Try.prog 54 #[.int .u8 n] w fun e w' => e = .returned (.bool (isLet n)) ∧ w = w' := by
  go_enter Try.func54, Try.ntmps54
  go_wp2
  all_goals (go_ret; exact ⟨ret_bool (by unfold isLet; rw [Bool.eq_iff_iff]; simp; omega), rfl⟩)
theorem name_digit (n : Int) (w : World) (h0 : 0 ≤ n) (h1 : n ≤ 255) : Calls Try.prog 55 #[.int .u8 n] w fun e w' => e = .returned (.bool (isDig n)) ∧ w = w' := by
  go_enter Try.func55, Try.ntmps55
  go_wp2
  all_goals (go_ret; exact ⟨ret_bool (by unfold isDig; rw [Bool.eq_iff_iff]; simp; omega), rfl⟩)
/-- '[]byte(s)': a new row with the text's bytes. -/
theorem run_bytes (s : ByteArray) (w : World) : ∃ (c : Nat) (w1 : World), (convert 9 98 (.string s)).run Try.prog w = .ok (.slice (some ⟨w.heap.size, 0, none⟩) s.size c) w1 ∧ Below w.heap.size w w1 ∧
    ∀ (k : Nat) (h : k < s.size), w1.cell? ⟨w.heap.size, k, none⟩ = some (.int .u8 (s[k].toNat : Int)) := by
  have h := run_bytes_of_string (P := Try.prog) w 9 98 5 s Try.underlying9 Try.underlying98 Try.underlying5
  refine ⟨_, _, h, ((Below.refl _ _).drew).alloc (by simp) _, fun k hk => ?_⟩
  have e : w.heap.size = w.drew.heap.size := rfl
  rw [e, World.cell?_alloc_mark, bytesRow_at s _ k hk]
  rfl

set_option maxHeartbeats 400000 in
theorem name_Plain_full (s : ByteArray) (w : World) (h : 60 < s.size) (hs : s.size ≤ maxLen) : Calls Try.prog 56 #[.string s] w fun e w' => e = .returned (errV (textFault s)) ∧ Below w.heap.size w w' := by
  have H := Lib.hid (show textFault s = 4 by unfold textFault; rw [if_pos h])
  unfold maxLen at hs
  go_enter Try.func56, Try.ntmps56
  go_wp2
  go_ret
  exact ⟨by rw [H.out]; rfl, Below.refl _ _⟩

set_option maxRecDepth 100000 in
set_option maxHeartbeats 400000 in
theorem name_Plain_short (s : ByteArray) (w : World) (hs : s.size ≤ 60) : Calls Try.prog 56 #[.string s] w fun e w' => e = .returned (errV (textFault s)) ∧ Below w.heap.size w w' := by
  have H := Lib.hid (show textFault s = if s.data.toList.all isPrtB then 0 else 1 by unfold textFault; rw [if_neg (by omega)])
  obtain ⟨c, w1, hrun, hb, hcell⟩ := run_bytes s w
  have HC := Lib.hid hcell
  clear hcell
  go_enter Try.func56, Try.ntmps56
  go_wp2
  clear hrun
  go_loop [2, 4, 12] (fun r _ i => ∃ k : Nat, k ≤ s.size ∧ i = .int .i64 k ∧ r = .nilIface ∧ Hid ((s.data.toList.take k).all isPrtB = true)) (fun _ _ i => s.size - (intOf i).toNat)
  case atStart => exact ⟨0, Nat.zero_le _, rfl, rfl, by simp [Hid]⟩
  case round =>
    obtain ⟨k, hk, rfl, rfl, hall⟩ := hrel
    by_cases hlt : k < s.size
    · have hc := HC.out k hlt
      by_cases hp : 32 ≤ (s[k].toNat : Int) ∧ (s[k].toNat : Int) ≤ 126
      · have H2 := Lib.hid (show (s.data.toList.take (k + 1)).all isPrtB = true by
          rw [all_succ s isPrtB hlt, hall.out, Bool.true_and]; unfold isPrtB isPrt; simp; omega)
        obtain ⟨hp1, hp2⟩ := hp
        go_wp2
        go_round
        case rel => exact ⟨k + 1, by omega, by go_num, rfl, H2⟩
        case measure => simp [intOf]; omega
      · have H2 := Lib.hid (show s.data.toList.all isPrtB = false from all_stop hlt (by unfold isPrtB isPrt; rw [Bool.eq_false_iff]; simp; omega))
        by_cases hq : (s[k].toNat : Int) < 32
        · clear hp
          go_wp2
          go_ret
          exact ⟨by rw [H.out, H2.out]; rfl, hb⟩
        · have hq2 : 126 < (s[k].toNat : Int) := by omega
          clear hp
          go_wp2
          go_ret
          exact ⟨by rw [H.out, H2.out]; rfl, hb⟩
    · have H2 := Lib.hid (show s.data.toList.all isPrtB = true from (all_end (k := k) (by omega)).symm.trans hall.out)
      clear hall
      go_wp2
      go_ret
      exact ⟨by rw [H.out, H2.out]; rfl, hb⟩
theorem name_Plain (s : ByteArray) (w : World) (hs : s.size ≤ maxLen) : Calls Try.prog 56 #[.string s] w fun e w' => e = .returned (errV (textFault s)) ∧ Below w.heap.size w w' := by
  by_cases h : 60 < s.size
  · exact name_Plain_full s w h hs
  · exact name_Plain_short s w (by omega)

set_option maxHeartbeats 400000 in
theorem name_Check_empty (s : ByteArray) (w : World) (h : s.size = 0) : Calls Try.prog 38 #[.string s] w fun e w' => e = .returned (errV (nameFault s)) ∧ Below w.heap.size w w' := by
  have H := Lib.hid (show nameFault s = 1 by unfold nameFault; rw [nameOk_empty h]; rfl)
  have h1 : s = ⟨#[]⟩ := bytes_ext (List.eq_nil_of_length_eq_zero (by rw [Array.length_toList]; exact h))
  clear h
  subst h1
  go_enter Try.func38, Try.ntmps38
  go_wp2
  go_ret
  exact ⟨by rw [H.out]; rfl, Below.refl _ _⟩

theorem not_empty {s : ByteArray} (h : 0 < s.size) : s.toList = [] ↔ False := by
  rw [ByteArray.toList_eq]
  constructor
  · intro h'
    have : s.data.toList.length = 0 := by rw [h']; rfl
    rw [Array.length_toList] at this
    exact absurd (show s.size = 0 from this) (by omega)
  · exact False.elim

set_option maxHeartbeats 400000 in
theorem name_Check_first (s : ByteArray) (w : World) (h : 0 < s.size) (hl : isLet (s[0].toNat : Int) = false) : Calls Try.prog 38 #[.string s] w fun e w' => e = .returned (errV (nameFault s)) ∧ Below w.heap.size w w' := by
  have H := Lib.hid (show nameFault s = 1 by unfold nameFault; rw [nameOk_first h hl]; rfl)
  have he : s.toList.isEmpty = false := by rw [List.isEmpty_eq_false_iff]; exact fun q => (not_empty h).1 q
  have he2 : ¬ s.toList = [] := fun q => (not_empty h).1 q
  have C1 := Lib.hid (fun w => name_letter (s[0].toNat : Int) w (by omega) (by have := s[0].toNat_lt; omega))
  rw [hl] at C1
  clear hl
  go_enter Try.func38, Try.ntmps38
  go_wp2_with (go_at_call 54; refine (C1.out _).mono ?_; rintro e w' ⟨rfl, rfl⟩)
  go_ret
  exact ⟨by rw [H.out]; rfl, Below.refl _ _⟩

set_option maxRecDepth 100000 in
set_option maxHeartbeats 1000000 in
theorem name_Check_rest (s : ByteArray) (w : World) (h : 0 < s.size) (hs : s.size ≤ maxLen) (hl : isLet (s[0].toNat : Int) = true) : Calls Try.prog 38 #[.string s] w fun e w' => e = .returned (errV (nameFault s)) ∧ Below w.heap.size w w' := by
  have H := Lib.hid (show nameFault s = if s.data.toList.all isWrd then (if 20 < s.size then 4 else 0) else 1 by unfold nameFault; rw [nameOk_all h hl])
  have he : s.toList.isEmpty = false := by rw [List.isEmpty_eq_false_iff]; exact fun q => (not_empty h).1 q
  have he2 : ¬ s.toList = [] := fun q => (not_empty h).1 q
  have C1 := Lib.hid (fun w => name_letter (s[0].toNat : Int) w (by omega) (by have := s[0].toNat_lt; omega))
  rw [hl] at C1
  clear hl
  unfold maxLen at hs
  obtain ⟨c, w1, hrun, hb, hcell⟩ := run_bytes s w
  have HC := Lib.hid hcell
  clear hcell
  go_enter Try.func38, Try.ntmps38
  go_wp2_with (go_at_call 54; refine (C1.out _).mono ?_; rintro e w' ⟨rfl, rfl⟩)
  clear hrun C1
  go_loop [2, 4, 17] (fun r _ i => ∃ k : Nat, k ≤ s.size ∧ i = .int .i64 k ∧ r = .nilIface ∧ Hid ((s.data.toList.take k).all isWrd = true)) (fun _ _ i => s.size - (intOf i).toNat)
  case atStart => exact ⟨0, Nat.zero_le _, rfl, rfl, by simp [Hid]⟩
  case round =>
    obtain ⟨k, hk, rfl, rfl, hall⟩ := hrel
    by_cases hlt : k < s.size
    · have hc := HC.out k hlt
      have C1 := Lib.hid (fun w => name_letter (s[k].toNat : Int) w (by omega) (by have := s[k].toNat_lt; omega))
      have C2 := Lib.hid (fun w => name_digit (s[k].toNat : Int) w (by omega) (by have := s[k].toNat_lt; omega))
      have hst : isWrd s[k] = (isLet (s[k].toNat : Int) || isDig (s[k].toNat : Int)) := rfl
      have G1 := Lib.hid (fun q : isWrd s[k] = true => (show (s.data.toList.take (k + 1)).all isWrd = true by rw [all_succ s isWrd hlt, hall.out, Bool.true_and, q]))
      have G2 := Lib.hid (fun q : isWrd s[k] = false => (all_stop hlt q : s.data.toList.all isWrd = false))
      rw [hst] at G1 G2
      clear hst hall
      rcases hx : isLet (s[k].toNat : Int) with _ | _ <;> rcases hy : isDig (s[k].toNat : Int) with _ | _ <;> rw [hx] at C1 G1 G2 <;> rw [hy] at C2 G1 G2 <;> clear hx hy
      all_goals go_wp2_with (first | (go_at_call 54; refine (C1.out _).mono ?_; rintro e w' ⟨rfl, rfl⟩) | (go_at_call 55; refine (C2.out _).mono ?_; rintro e w' ⟨rfl, rfl⟩))
      · go_ret
        exact ⟨by rw [H.out, G2.out rfl]; rfl, hb⟩
      all_goals
        go_round
        case rel => exact ⟨k + 1, by omega, by go_num, rfl, G1.out rfl⟩
        case measure => simp [intOf]; omega
    · have H2 := Lib.hid (show s.data.toList.all isWrd = true from (all_end (k := k) (by omega)).symm.trans hall.out)
      clear hall
      by_cases h20 : 20 < s.size
      · have H3 := Lib.hid (show nameFault s = 4 by rw [H.out, H2.out, if_pos rfl, if_pos h20])
        clear H H2
        go_wp2
        go_ret
        exact ⟨by rw [H3.out]; rfl, hb⟩
      · have H3 := Lib.hid (show nameFault s = 0 by rw [H.out, H2.out, if_pos rfl, if_neg h20])
        clear H H2
        go_wp2
        go_ret
        exact ⟨by rw [H3.out]; rfl, hb⟩
theorem name_Check (s : ByteArray) (w : World) (hs : s.size ≤ maxLen) : Calls Try.prog 38 #[.string s] w fun e w' => e = .returned (errV (nameFault s)) ∧ Below w.heap.size w w' := by
  by_cases h : s.size = 0
  · exact name_Check_empty s w h
  · rcases hl : isLet ((s[0]'(by omega)).toNat : Int) with _ | _
    · exact name_Check_first s w (by omega) hl
    · exact name_Check_rest s w (by omega) hs hl

end Go.Proofs.Ytocchkmhnneiiaa
