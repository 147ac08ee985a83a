/-
  The contracts of the comparisons of texts and uids, of the program and of the reference.
-/
import Derived.Test.YtbjbimabgfpdoaaGreatDoorBase
import Derived.Test.YtbjbimabgfpdoaaGreatDoorShelf
import Derived.Test.YtbjbimabgfpdoaaGreatDoorTextLaw
namespace Go.Proofs.YtbjbimabgfpdoaaGreatDoor
open Go.RowKit Go.Wk
set_option maxRecDepth 100000

set_option maxHeartbeats 400000 in
theorem cmp_Or2 (x y : Int) (ad : Addr) (w : World) (h0 : w.cell? ad = some (.int .i64 x)) (h1 : w.cell? ⟨ad.block, ad.off + 1, none⟩ = some (.int .i64 y)) :
    Calls Tryz.prog 72 #[.slice (some ad) 2 2] w fun e w' => e = .returned (.int .i64 (or2 x y)) ∧ w = w' := by
  go_enter Tryz.func72, Tryz.ntmps72
  go_wp2
  go_loop [5, 8] (fun s i => ∃ k : Nat, k ≤ 2 ∧ i = .int .i64 k ∧ (1 ≤ k → x = 0) ∧ (2 ≤ k → y = 0)) (fun _ i => 2 - (intOf i).toNat)
  case atStart => exact ⟨0, by omega, rfl, by omega, by omega⟩
  case round =>
    obtain ⟨k, hk, rfl, hx, hy⟩ := hrel
    have hk3 : k = 0 ∨ k = 1 ∨ k = 2 := by omega
    rcases hk3 with rfl | rfl | rfl
    · by_cases hx0 : x = 0
      · subst hx0
        go_wp2
        go_round
        case rel => exact ⟨1, by omega, by go_num, by simp, by omega⟩
        case measure => simp [intOf]
      · go_wp2
        go_ret
        exact ⟨ret_i64 (by simp [or2, hx0]), rfl⟩
    · by_cases hy0 : y = 0
      · have hx0 := hx (by omega)
        clear hx hy
        subst hy0
        go_wp2
        go_round
        case rel => exact ⟨2, by omega, by go_num, by simp [hx0], by simp⟩
        case measure => simp [intOf]
      · have hx0 := hx (by omega)
        clear hx hy
        subst hx0
        go_wp2
        go_ret
        exact ⟨ret_i64 (by simp [or2]), rfl⟩
    · have hx0 := hx (by omega)
      have hy0 := hy (by omega)
      clear hx hy
      subst hx0
      subst hy0
      go_wp2
      go_ret
      exact ⟨ret_i64 (by simp [or2]), rfl⟩

theorem strings_Compare (a b : ByteArray) (w : World) :
    Calls Tryz.prog 73 #[.string a, .string b] w fun e w' => e = .returned (.int .i64 (cmpB a b)) ∧ w' = w := Tryz.strings_Compare a b w

set_option maxHeartbeats 400000 in
theorem name_Compare (a b c d : ByteArray) (w : World) :
    Calls Tryz.prog 50 #[.agg #[.string a, .string b], .agg #[.string c, .string d]] w fun e w' => e = .returned (.int .i64 (cmpUid a b c d)) ∧ Below w.heap.size w w' := by
  go_enter Tryz.func50, Tryz.ntmps50
  go_wp2
  refine still_tail 10 (by kernel_rfl) (by kernel_rfl) ?_
  simp only [List.take_succ_cons, List.take_zero, List.drop_succ_cons, List.drop_zero]
  iterate 4 still_step
  still_call (strings_Compare _ _ _)
  iterate 4 still_step
  still_call (strings_Compare _ _ _)
  refine wpStill_nil ?_
  go_wp2_with (go_at_call 72; refine (cmp_Or2 (cmpB a c) (cmpB b d) _ _ (by go_simp) (by go_simp)).mono ?_; rintro e w' ⟨rfl, rfl⟩)
  go_ret
  exact ⟨rfl, ((((Below.refl _ _).alloc (Nat.le_refl _) _).alloc (by simp) _).alloc (by simp; omega) _).drew⟩

theorem ref_Numbers (a b : Int) (w : World) :
    Calls Tryz.prog 86 #[.int .i64 a, .int .i64 b] w fun e w' => e = .returned (.int .i64 (cmpI a b)) ∧ w = w' := by
  by_cases h1 : a < b
  · go_enter Tryz.func86, Tryz.ntmps86
    go_wp2
    go_ret
    exact ⟨ret_i64 (by unfold cmpI; split <;> (try split) <;> omega), rfl⟩
  · by_cases h2 : b < a
    · go_enter Tryz.func86, Tryz.ntmps86
      go_wp2
      go_ret
      exact ⟨ret_i64 (by unfold cmpI; split <;> (try split) <;> omega), rfl⟩
    · go_enter Tryz.func86, Tryz.ntmps86
      go_wp2
      go_ret
      exact ⟨ret_i64 (by unfold cmpI; split <;> (try split) <;> omega), rfl⟩

theorem cmpB_at (a b : ByteArray) : cmpB a b = Lib.compareBytes (a.data.toList.drop 0) (b.data.toList.drop 0) := rfl
theorem cmpB_less {a b : ByteArray} {k : Nat} (h1 : k < a.size) (h2 : k < b.size) (hc : cmpB a b = Lib.compareBytes (a.data.toList.drop k) (b.data.toList.drop k)) (h : (a[k].toNat : Int) < b[k].toNat) : cmpB a b = -1 :=
  hc.trans (compareBytes_less (by simpa using h1) (by simpa using h2) (UInt8.lt_iff_toNat_lt.2 (show a[k].toNat < b[k].toNat by omega)))
theorem cmpB_more {a b : ByteArray} {k : Nat} (h1 : k < a.size) (h2 : k < b.size) (hc : cmpB a b = Lib.compareBytes (a.data.toList.drop k) (b.data.toList.drop k)) (h : (b[k].toNat : Int) < a[k].toNat) : cmpB a b = 1 :=
  hc.trans (compareBytes_more (by simpa using h1) (by simpa using h2) (UInt8.lt_iff_toNat_lt.2 (show b[k].toNat < a[k].toNat by omega)))
theorem cmpB_step {a b : ByteArray} {k : Nat} (h1 : k < a.size) (h2 : k < b.size) (hc : cmpB a b = Lib.compareBytes (a.data.toList.drop k) (b.data.toList.drop k)) (h : (a[k].toNat : Int) = b[k].toNat) :
    cmpB a b = Lib.compareBytes (a.data.toList.drop (k + 1)) (b.data.toList.drop (k + 1)) :=
  hc.trans (compareBytes_step (by simpa using h1) (by simpa using h2) (UInt8.toNat_inj.1 (show a[k].toNat = b[k].toNat by omega)))
theorem cmpB_end {a b : ByteArray} {k : Nat} (h : a.size ≤ k ∨ b.size ≤ k) (ha : k ≤ a.size) (hb : k ≤ b.size) (hc : cmpB a b = Lib.compareBytes (a.data.toList.drop k) (b.data.toList.drop k)) : cmpB a b = cmpI a.size b.size :=
  hc.trans ((compareBytes_end (by simpa using h) (by simpa using ha) (by simpa using hb)).trans (by simp))

set_option maxHeartbeats 400000 in
theorem ref_Texts (a b : ByteArray) (w : World) (ha : a.size ≤ maxLen) (_hb : b.size ≤ maxLen) :
    Calls Tryz.prog 59 #[.string a, .string b] w fun e w' => e = .returned (.int .i64 (cmpB a b)) ∧ Below w.heap.size w w' := by
  unfold maxLen at ha _hb
  go_enter Tryz.func59, Tryz.ntmps59
  go_wp2
  go_loopw [4, 5] (fun r i wr => ∃ k : Nat, k ≤ a.size ∧ k ≤ b.size ∧ i = .int .i64 k ∧ r = .int .i64 0 ∧ Hid (cmpB a b = Lib.compareBytes (a.data.toList.drop k) (b.data.toList.drop k)) ∧ Below w.heap.size w wr) (fun _ i _ => a.size - (intOf i).toNat)
  case atStart => exact ⟨0, Nat.zero_le _, Nat.zero_le _, rfl, rfl, cmpB_at a b, Below.refl _ _⟩
  case round =>
    obtain ⟨k, hka, hkb, rfl, rfl, hc, hbel⟩ := hrel
    by_cases h1 : k < a.size
    · by_cases h2 : k < b.size
      · by_cases e1 : (a[k].toNat : Int) < b[k].toNat
        · have H := Lib.hid (cmpB_less h1 h2 hc.out e1); clear hc
          go_wp2
          go_quiet (fail)
          go_wp2
          go_ret
          exact ⟨ret_i64 H.out.symm, by first | exact hbel.drewN _ | exact (hbel.drewN _).drewN _⟩
        · by_cases e2 : (b[k].toNat : Int) < a[k].toNat
          · have H := Lib.hid (cmpB_more h1 h2 hc.out e2); clear hc
            go_wp2
            go_quiet (fail)
            go_wp2
            go_quiet (fail)
            go_wp2
            go_ret
            exact ⟨ret_i64 H.out.symm, by first | exact hbel.drewN _ | exact (hbel.drewN _).drewN _⟩
          · have H := Lib.hid (cmpB_step h1 h2 hc.out (by omega)); clear hc
            go_wp2
            go_quiet (fail)
            go_wp2
            go_quiet (fail)
            go_wp2
            go_roundw
            case rel => exact ⟨k + 1, by omega, by omega, by go_num, rfl, H, by first | exact hbel.drewN _ | exact (hbel.drewN _).drewN _⟩
            case measure => simp [intOf]; omega
      · have H := Lib.hid (cmpB_end (.inr (by omega)) hka hkb hc.out); clear hc
        go_wp2_with (go_at_call 86; refine (ref_Numbers _ _ _).mono ?_; rintro e w' ⟨rfl, rfl⟩)
        go_ret
        exact ⟨ret_i64 H.out.symm, hbel⟩
    · have H := Lib.hid (cmpB_end (.inl (by omega)) hka hkb hc.out); clear hc
      go_wp2_with (go_at_call 86; refine (ref_Numbers _ _ _).mono ?_; rintro e w' ⟨rfl, rfl⟩)
      go_ret
      exact ⟨ret_i64 H.out.symm, hbel⟩

set_option maxHeartbeats 400000 in
theorem ref_Uids (a b c d : ByteArray) (w : World) (ha : a.size ≤ maxLen) (hb : b.size ≤ maxLen) (hc : c.size ≤ maxLen) (hd : d.size ≤ maxLen) :
    Calls Tryz.prog 47 #[.agg #[.string a, .string b], .agg #[.string c, .string d]] w fun e w' => e = .returned (.int .i64 (cmpUid a b c d)) ∧ Below w.heap.size w w' := by
  go_enter Tryz.func47, Tryz.ntmps47
  go_wp2_with fail
  refine (ref_Texts a c _ ha hc).mono ?_
  rintro e w1 ⟨rfl, hb1⟩
  obtain ⟨hc1, hf1⟩ := bcell hb1
  by_cases h0 : cmpB a c = 0
  · have H := Lib.hid (show cmpUid a b c d = cmpB b d by unfold cmpUid or2; rw [if_pos h0])
    rw [h0]
    clear h0
    go_wp2_with fail
    refine (ref_Texts b d _ hb hd).mono ?_
    rintro e w2 ⟨rfl, hb2⟩
    go_wp2
    go_ret
    exact ⟨ret_i64 H.out.symm, (((Below.refl _ _).alloc (Nat.le_refl _) _).alloc (by simp) _).trans ((hb1.mono (by simp; omega)).trans (hb2.mono (by have := hb1.size; simp at this; omega)))⟩
  · have H := Lib.hid (show cmpUid a b c d = cmpB a c by unfold cmpUid or2; rw [if_neg h0])
    have h1 : (cmpB a c == 0) = false := by simpa using h0
    go_wp2
    go_ret
    exact ⟨ret_i64 H.out.symm, (((Below.refl _ _).alloc (Nat.le_refl _) _).alloc (by simp) _).trans (hb1.mono (by simp; omega))⟩
end Go.Proofs.YtbjbimabgfpdoaaGreatDoor
