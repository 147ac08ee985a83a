/-
  LikeSplits: the walk of the law.
-/
import Derived.Test.YtbaccefcgblagaaLike
namespace Go.Proofs.Ytbaccefcgblagaa
open Go.RowKit Go.Wk

theorem fact_LikeSplitsE : likeE ⟨#[97, 42, 99]⟩ ⟨#[97, 98, 98, 99]⟩ = 0 := by decide +kernel
theorem fact_LikeSplitsV : likeV ⟨#[97, 42, 99]⟩ ⟨#[97, 98, 98, 99]⟩ = true := by decide +kernel

theorem more_no {f g : Nat → Bool} {k n : Nat} (hf : f k = false) : (∃ i j, i < k ∧ i ≤ j ∧ j ≤ n ∧ f i = true ∧ g j = true) ↔ ∃ i j, i < k + 1 ∧ i ≤ j ∧ j ≤ n ∧ f i = true ∧ g j = true := by
  constructor
  · rintro ⟨i, j, h1, h2⟩; exact ⟨i, j, by omega, h2⟩
  · rintro ⟨i, j, h1, h2, h3, h4, h5⟩
    have : i ≠ k := fun e => by subst e; rw [hf] at h4; cases h4
    exact ⟨i, j, by omega, h2, h3, h4, h5⟩
theorem more_yes {f g : Nat → Bool} {k n : Nat} {b : Bool} (hf : f k = true) (hB : b = true ↔ ∃ i j, i < k ∧ i ≤ j ∧ j ≤ n ∧ f i = true ∧ g j = true) :
    (b = true ∨ ∃ j, k ≤ j ∧ j < n + 1 ∧ g j = true) ↔ ∃ i j, i < k + 1 ∧ i ≤ j ∧ j ≤ n ∧ f i = true ∧ g j = true := by
  rw [hB]
  constructor
  · rintro (⟨i, j, h1, h2⟩ | ⟨j, h1, h2, h3⟩)
    · exact ⟨i, j, by omega, h2⟩
    · exact ⟨k, j, by omega, h1, by omega, hf, h3⟩
  · rintro ⟨i, j, h1, h2, h3, h4, h5⟩
    by_cases e : i = k
    · subst e; exact .inr ⟨j, h2, by omega, h5⟩
    · exact .inl ⟨i, j, by omega, h2, h3, h4, h5⟩
theorem again_no {g : Nat → Bool} {k m : Nat} {b : Bool} (hg : g m = false) : (b = true ∨ ∃ j, k ≤ j ∧ j < m ∧ g j = true) ↔ b = true ∨ ∃ j, k ≤ j ∧ j < m + 1 ∧ g j = true := by
  constructor
  · rintro (h | ⟨j, h1, h2, h3⟩)
    · exact .inl h
    · exact .inr ⟨j, h1, by omega, h3⟩
  · rintro (h | ⟨j, h1, h2, h3⟩)
    · exact .inl h
    · have : j ≠ m := fun e => by subst e; rw [hg] at h3; cases h3
      exact .inr ⟨j, h1, by omega, h3⟩
theorem all_of {f g : Nat → Bool} {k n : Nat} (hk : n + 1 ≤ k) : (∃ i j, i ≤ j ∧ j ≤ n ∧ f i = true ∧ g j = true) ↔ ∃ i j, i < k ∧ i ≤ j ∧ j ≤ n ∧ f i = true ∧ g j = true :=
  ⟨fun ⟨i, j, h1, h2, h3⟩ => ⟨i, j, by omega, h1, h2, h3⟩, fun ⟨i, j, _, h⟩ => ⟨i, j, h⟩⟩

theorem data_append (a b : ByteArray) : (a ++ b).data.toList = a.data.toList ++ b.data.toList := by
  rw [ByteArray.data_append, Array.toList_append]
theorem textFault_iff (s : ByteArray) : textFault s = 0 ↔ s.size ≤ 60 ∧ s.data.toList.all isPrtB = true := by
  unfold textFault
  by_cases h : 60 < s.size
  · rw [if_pos h]; constructor
    · intro h; cases h
    · rintro ⟨h1, _⟩; omega
  · rw [if_neg h]
    cases s.data.toList.all isPrtB <;> simp <;> omega
theorem extract_take (s : ByteArray) (i : Nat) (h : i ≤ s.size) : (s.extract 0 i).data.toList = s.data.toList.take i ∧ (s.extract 0 i).size = i := by
  constructor
  · rw [ByteArray.data_extract, Array.toList_extract]; simp [List.extract]
  · rw [ByteArray.size_extract]; omega
theorem extract_drop (s : ByteArray) (i : Nat) (h : i ≤ s.size) : (s.extract i s.size).data.toList = s.data.toList.drop i ∧ (s.extract i s.size).size = s.size - i := by
  constructor
  · rw [ByteArray.data_extract, Array.toList_extract]
    simp only [List.extract]
    rw [List.take_of_length_le]
    rw [List.length_drop]
    simp
  · rw [ByteArray.size_extract]; omega

/-- The two parts of what goes well go well. -/
theorem parts_well {p q s : ByteArray} (h : likeE (p ++ ⟨#[42]⟩ ++ q) s = 0) :
    (∀ i, i ≤ s.size → likeE p (s.extract 0 i) = 0 ∧ likeV p (s.extract 0 i) = fitsS (signs p.data.toList) (s.data.toList.take i)) ∧
    (∀ i, i ≤ s.size → likeE q (s.extract i s.size) = 0 ∧ likeV q (s.extract i s.size) = fitsS (signs q.data.toList) (s.data.toList.drop i)) ∧
    likeV (p ++ ⟨#[42]⟩ ++ q) s = fitsS (signs (p.data.toList ++ 42 :: q.data.toList)) s.data.toList := by
  have hV : likeV (p ++ ⟨#[42]⟩ ++ q) s = fitsS (signs (p ++ ⟨#[42]⟩ ++ q).data.toList) s.data.toList := by unfold likeV; rw [h]; rfl
  rw [data_append, data_append, List.append_assoc] at hV
  unfold likeE at h
  by_cases h0 : textFault (p ++ ⟨#[42]⟩ ++ q) = 0
  · rw [if_pos h0] at h
    rw [textFault_iff] at h h0
    obtain ⟨a1, a2⟩ := h0
    obtain ⟨b1, b2⟩ := h
    rw [data_append, data_append, List.all_append, List.all_append] at a2
    simp only [Bool.and_eq_true] at a2
    rw [ByteArray.size_append, ByteArray.size_append] at a1
    have hp : textFault p = 0 := (textFault_iff p).2 ⟨by omega, a2.1.1⟩
    have hq : textFault q = 0 := (textFault_iff q).2 ⟨by omega, a2.2⟩
    refine ⟨fun i hi => ?_, fun i hi => ?_, hV⟩
    · obtain ⟨e1, e2⟩ := extract_take s i hi
      have : textFault (s.extract 0 i) = 0 := (textFault_iff _).2 ⟨by omega, by rw [e1]; exact List.all_eq_true.2 fun x hx => List.all_eq_true.1 b2 x (List.mem_of_mem_take hx)⟩
      have h3 : likeE p (s.extract 0 i) = 0 := by unfold likeE; rw [if_pos hp]; exact this
      exact ⟨h3, by unfold likeV; rw [h3, e1]; rfl⟩
    · obtain ⟨e1, e2⟩ := extract_drop s i hi
      have : textFault (s.extract i s.size) = 0 := (textFault_iff _).2 ⟨by omega, by rw [e1]; exact List.all_eq_true.2 fun x hx => List.all_eq_true.1 b2 x (List.mem_of_mem_drop hx)⟩
      have h3 : likeE q (s.extract i s.size) = 0 := by unfold likeE; rw [if_pos hq]; exact this
      exact ⟨h3, by unfold likeV; rw [h3, e1]; rfl⟩
  · rw [if_neg h0] at h; exact absurd h h0

set_option maxRecDepth 100000 in
set_option maxHeartbeats 4000000 in
theorem LikeSplits_long (p q s : ByteArray) (w : World) (hp : p.size ≤ maxLen) (hq : q.size ≤ maxLen)
    (h : 25 < p.size ∨ p.size ≤ 25 ∧ 25 < q.size ∨ ∃ h : 0 < p.size, p.size ≤ 25 ∧ q.size ≤ 25 ∧ (p[p.size - 1].toNat : Int) = 92) :
    Calls Try.prog 5 #[.string p, .string q, .string s] w fun e w' => e = .returned (.bool true) ∧ Below w.heap.size w w' := by
  have F := Lib.hid (fun w => like_Match ⟨#[97, 42, 99]⟩ ⟨#[97, 98, 98, 99]⟩ w (by decide) (by decide))
  rw [fact_LikeSplitsV, fact_LikeSplitsE, errV_zero] at F
  unfold maxLen at hp hq
  rcases h with h1 | ⟨h1, h2⟩ | ⟨h0, h1, h2, h3⟩
  all_goals
    go_enter Try.func5, Try.ntmps5
    go_wp2_with fail
    refine (F.out _).mono ?_
    rintro e w1 ⟨rfl, hb1⟩
    go_wp2
    go_ret
    exact ⟨rfl, hb1⟩

set_option maxRecDepth 100000 in
set_option maxHeartbeats 4000000 in
theorem LikeSplits_fault (p q s : ByteArray) (w : World) (hs : s.size ≤ maxLen) (h1 : p.size ≤ 25) (h2 : q.size ≤ 25) (h : p.size = 0 ∨ ∃ h : 0 < p.size, ((p[p.size - 1].toNat : Int) == 92) = false) (hE : likeE (p ++ ⟨#[42]⟩ ++ q) s ≠ 0) :
    Calls Try.prog 5 #[.string p, .string q, .string s] w fun e w' => e = .returned (.bool true) ∧ Below w.heap.size w w' := by
  have F := Lib.hid (fun w => like_Match ⟨#[97, 42, 99]⟩ ⟨#[97, 98, 98, 99]⟩ w (by decide) (by decide))
  rw [fact_LikeSplitsV, fact_LikeSplitsE, errV_zero] at F
  have X := Lib.hid (fun w => like_Match (p ++ ⟨#[42]⟩ ++ q) s w (by rw [ByteArray.size_append, ByteArray.size_append]; rw [show (⟨#[42]⟩ : ByteArray).size = 1 from rfl]; unfold maxLen; omega) hs)
  rw [errV_ne hE] at X
  clear hE
  unfold maxLen at hs
  rcases h with h3 | ⟨h3, h4⟩
  all_goals
    go_enter Try.func5, Try.ntmps5
    go_wp2_with fail
    refine (F.out _).mono ?_
    rintro e w1 ⟨rfl, hb1⟩
    go_wp2_with fail
    refine (X.out _).mono ?_
    rintro e w2 ⟨rfl, hb2⟩
    go_wp2
    go_ret
    exact ⟨rfl, hb1.trans (hb2.mono hb1.size)⟩

set_option maxRecDepth 100000 in
set_option maxHeartbeats 8000000 in
theorem LikeSplits_core (p q s : ByteArray) (w : World) (hs : s.size ≤ 60) (h1 : p.size ≤ 25) (h2 : q.size ≤ 25) (h : p.size = 0 ∨ ∃ h : 0 < p.size, ((p[p.size - 1].toNat : Int) == 92) = false) (t : Bool) (f g : Nat → Bool)
    (X : Hid (∀ w, Calls Try.prog 10 #[.string (p ++ ⟨#[42]⟩ ++ q), .string s] w fun e w' => e = .returned (.tuple #[.bool t, .nilIface]) ∧ Below w.heap.size w w'))
    (M1 : Hid (∀ i, i ≤ s.size → ∀ w, Calls Try.prog 10 #[.string p, .string (s.extract 0 i)] w fun e w' => e = .returned (.tuple #[.bool (f i), .nilIface]) ∧ Below w.heap.size w w'))
    (M2 : Hid (∀ i, i ≤ s.size → ∀ w, Calls Try.prog 10 #[.string q, .string (s.extract i s.size)] w fun e w' => e = .returned (.tuple #[.bool (g i), .nilIface]) ∧ Below w.heap.size w w'))
    (T : Hid (t = true ↔ ∃ i j, i ≤ j ∧ j ≤ s.size ∧ f i = true ∧ g j = true)) :
    Calls Try.prog 5 #[.string p, .string q, .string s] w fun e w' => e = .returned (.bool true) ∧ Below w.heap.size w w' := by
  have F := Lib.hid (fun w => like_Match ⟨#[97, 42, 99]⟩ ⟨#[97, 98, 98, 99]⟩ w (by decide) (by decide))
  rw [fact_LikeSplitsV, fact_LikeSplitsE, errV_zero] at F
  rcases h with h3 | ⟨h3, h4⟩
  all_goals
    go_enter Try.func5, Try.ntmps5
    go_wp2_with fail
    refine (F.out _).mono ?_
    rintro e w1 ⟨rfl, hb1⟩
    go_wp2_with fail
    refine (X.out _).mono ?_
    rintro e w2 ⟨rfl, hb2⟩
    have B2 := Lib.hid (hb1.trans (hb2.mono hb1.size))
    clear hb1 hb2 X F
    go_wp2
    go_loopw [6, 11, 12] (fun _ wt i wr => ∃ (k : Nat) (b : Bool), i = .int .i64 k ∧ wt = .bool b ∧ k ≤ s.size + 1 ∧ Hid (b = true ↔ ∃ i j, i < k ∧ i ≤ j ∧ j ≤ s.size ∧ f i = true ∧ g j = true) ∧ Hid (Below w.heap.size w wr)) (fun _ _ i _ => s.size + 1 - (intOf i).toNat)
    case atStart => exact ⟨0, false, rfl, rfl, by omega, ⟨(fun h => by cases h), (fun ⟨i, _, h, _⟩ => absurd h (by omega))⟩, B2⟩
    case round =>
      obtain ⟨k, b, rfl, rfl, hk, hB, hb⟩ := hrel
      by_cases hlt : k ≤ s.size
      · have m1 := Lib.hid (M1.out k hlt)
        rcases hf : f k with _ | _
        · rw [hf] at m1
          have HB := Lib.hid (show b = true ↔ ∃ i j, i < k + 1 ∧ i ≤ j ∧ j ≤ s.size ∧ f i = true ∧ g j = true from hB.out.trans (more_no hf))
          clear hf hB
          go_wp2_with fail
          refine (m1.out _).mono ?_
          rintro e w3 ⟨rfl, hb3⟩
          have B3 := Lib.hid (hb.out.trans (hb3.mono hb.out.size))
          clear hb3 hb
          obtain ⟨wo, rfl⟩ : ∃ wo : World, wo = w3 := ⟨_, rfl⟩
          go_wp2
          go_loopw [6, 11, 15] (fun _ wt j wr => j = .int .i64 k ∧ wt = .bool b ∧ Hid (Below w.heap.size w wr)) (fun _ _ _ _ => 0)
          case atStart => exact ⟨rfl, rfl, B3⟩
          case round =>
            obtain ⟨rfl, rfl, B4⟩ := hrel
            go_wp2
            go_roundw
            case rel => exact ⟨k + 1, b, by go_num, rfl, by omega, HB, B4⟩
            case measure => simp [intOf]; omega
        · rw [hf] at m1
          have HB := Lib.hid (show ∀ c : Bool, (c = true ↔ b = true ∨ ∃ j, k ≤ j ∧ j < s.size + 1 ∧ g j = true) → (c = true ↔ ∃ i j, i < k + 1 ∧ i ≤ j ∧ j ≤ s.size ∧ f i = true ∧ g j = true) from fun c hc => hc.trans (more_yes hf hB.out))
          clear hf hB
          go_wp2_with fail
          refine (m1.out _).mono ?_
          rintro e w3 ⟨rfl, hb3⟩
          have B3 := Lib.hid (hb.out.trans (hb3.mono hb.out.size))
          clear hb3 hb
          obtain ⟨wo, rfl⟩ : ∃ wo : World, wo = w3 := ⟨_, rfl⟩
          go_wp2
          go_loopw [6, 11, 15] (fun _ wt j wr => ∃ (kj : Nat) (c : Bool), j = .int .i64 kj ∧ wt = .bool c ∧ k ≤ kj ∧ kj ≤ s.size + 1 ∧ Hid (c = true ↔ b = true ∨ ∃ j, k ≤ j ∧ j < kj ∧ g j = true) ∧ Hid (Below w.heap.size w wr)) (fun _ _ j _ => s.size + 1 - (intOf j).toNat)
          case atStart => exact ⟨k, b, rfl, rfl, by omega, by omega, ⟨fun h => .inl h, fun h => h.elim id (fun ⟨j, h1, h2, _⟩ => absurd h2 (by omega))⟩, B3⟩
          case round =>
            obtain ⟨kj, c, rfl, rfl, hj1, hj2, hC, B4⟩ := hrel
            by_cases hjl : kj ≤ s.size
            · have m2 := Lib.hid (M2.out kj hjl)
              rcases hg : g kj with _ | _
              · rw [hg] at m2
                have HC := Lib.hid (show c = true ↔ b = true ∨ ∃ j, k ≤ j ∧ j < kj + 1 ∧ g j = true from hC.out.trans (again_no hg))
                clear hg hC
                go_wp2_with fail
                refine (m2.out _).mono ?_
                rintro e w4 ⟨rfl, hb4⟩
                have B5 := Lib.hid (B4.out.trans (hb4.mono B4.out.size))
                clear hb4 B4
                go_wp2
                go_roundw
                case rel => exact ⟨kj + 1, c, by go_num, rfl, by omega, by omega, HC, B5⟩
                case measure => simp [intOf]; omega
              · rw [hg] at m2
                have HC := Lib.hid (show (true = true) ↔ b = true ∨ ∃ j, k ≤ j ∧ j < kj + 1 ∧ g j = true from ⟨fun _ => .inr ⟨kj, hj1, by omega, hg⟩, fun _ => rfl⟩)
                clear hg hC
                go_wp2_with fail
                refine (m2.out _).mono ?_
                rintro e w4 ⟨rfl, hb4⟩
                have B5 := Lib.hid (B4.out.trans (hb4.mono B4.out.size))
                clear hb4 B4
                go_wp2
                go_roundw
                case rel => exact ⟨kj + 1, true, by go_num, rfl, by omega, by omega, by simpa [Hid] using HC.out, B5⟩
                case measure => simp [intOf]; omega
            · obtain rfl : kj = s.size + 1 := by omega
              have HB2 := Lib.hid (HB.out c hC.out)
              clear hC HB
              go_wp2
              go_roundw
              case rel => exact ⟨k + 1, c, by go_num, rfl, by omega, HB2, B4⟩
              case measure => simp [intOf]; omega
      · have HV := Lib.hid (show t = b by rw [Bool.eq_iff_iff, hB.out, T.out]; exact all_of (by omega))
        clear hB
        go_wp2
        go_ret
        exact ⟨by rw [HV.out]; simp, hb.out⟩

theorem LikeSplits_walk (p q s : ByteArray) (w : World) (hp : p.size ≤ maxLen) (hq : q.size ≤ maxLen) (hs : s.size ≤ maxLen) :
    Calls Try.prog 5 #[.string p, .string q, .string s] w fun e w' => e = .returned (.bool true) ∧ Below w.heap.size w w' := by
  by_cases h : 25 < p.size ∨ p.size ≤ 25 ∧ 25 < q.size ∨ ∃ h : 0 < p.size, p.size ≤ 25 ∧ q.size ≤ 25 ∧ (p[p.size - 1].toNat : Int) = 92
  · exact LikeSplits_long p q s w hp hq h
  · have h1 : p.size ≤ 25 := by omega
    have h2 : q.size ≤ 25 := by omega
    have h3 : p.size = 0 ∨ ∃ h : 0 < p.size, ((p[p.size - 1].toNat : Int) == 92) = false := by
      by_cases h0 : 0 < p.size
      · exact .inr ⟨h0, beq_eq_false_iff_ne.2 fun e => h (.inr (.inr ⟨h0, h1, h2, e⟩))⟩
      · exact .inl (by omega)
    by_cases hE : likeE (p ++ ⟨#[42]⟩ ++ q) s = 0
    · obtain ⟨m1, m2, hV⟩ := parts_well hE
      have hs60 : s.size ≤ 60 := by
        unfold likeE at hE
        split at hE
        · exact textFault_zero hE
        · rename_i h0; exact absurd hE h0
      have hlast : ∀ hh : p.data.toList ≠ [], p.data.toList.getLast hh ≠ 92 := by
        intro hh e
        have hl : 0 < p.size := by
          rcases Nat.eq_zero_or_pos p.size with h0 | h0
          · exact absurd (List.eq_nil_of_length_eq_zero (by rw [Array.length_toList]; exact h0)) hh
          · exact h0
        refine h (.inr (.inr ⟨hl, h1, h2, ?_⟩))
        rw [List.getLast_eq_getElem] at e
        have e' : p[p.size - 1] = 92 := e
        rw [e']; rfl
      refine LikeSplits_core p q s w hs60 h1 h2 h3 _ (fun i => fitsS (signs p.data.toList) (s.data.toList.take i)) (fun i => fitsS (signs q.data.toList) (s.data.toList.drop i)) (Lib.hid fun w => ?_) (Lib.hid fun i hi w => ?_) (Lib.hid fun i hi w => ?_)
        (Lib.hid (by rw [splits hlast, show s.data.toList.length = s.size from Array.length_toList]))
      · have := like_Match (p ++ ⟨#[42]⟩ ++ q) s w (by rw [ByteArray.size_append, ByteArray.size_append]; rw [show (⟨#[42]⟩ : ByteArray).size = 1 from rfl]; unfold maxLen; omega) hs
        rw [hE, hV] at this; exact this
      · have := like_Match p (s.extract 0 i) w hp (by rw [(extract_take s i hi).2]; omega)
        rw [(m1 i hi).1, (m1 i hi).2] at this; exact this
      · have := like_Match q (s.extract i s.size) w hq (by rw [(extract_drop s i hi).2]; omega)
        rw [(m2 i hi).1, (m2 i hi).2] at this; exact this
    · exact LikeSplits_fault p q s w hs h1 h2 h3 hE
end Go.Proofs.Ytbaccefcgblagaa
