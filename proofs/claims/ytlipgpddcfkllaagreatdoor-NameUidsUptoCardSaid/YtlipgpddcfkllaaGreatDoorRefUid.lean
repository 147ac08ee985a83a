/-
  The document's UidFault, UidOf.
-/
import Derived.Test.YtlipgpddcfkllaaGreatDoorRefQuo
import Derived.Test.YtlipgpddcfkllaaGreatDoorUidRw
namespace Go.Wk
/-- The first colon: what rdU reads there. -/
theorem take_noColon {s : ByteArray} {i : Nat} (hi : i ≤ s.size) (h : ∀ j, (hj : j < i) → (s[j]'(by omega)).toNat ≠ 58) : ∀ b ∈ s.data.toList.take i, b ≠ 58 := by
  intro b hb
  obtain ⟨j, hj, e⟩ := List.getElem_of_mem hb
  rw [List.getElem_take] at e
  have hj' : j < i := by rw [List.length_take] at hj; omega
  intro e2
  subst e
  exact h j hj' (by rw [show s[j] = s.data.toList[j]'(by rw [size_toList]; omega) from rfl, e2]; rfl)
theorem cut2_at {s : ByteArray} {i : Nat} (h1 : i + 1 < s.size) (h : ∀ j, (hj : j < i) → (s[j]'(by omega)).toNat ≠ 58) (e0 : s[i].toNat = 58) (e1 : s[i + 1].toNat = 58) :
    cut2 s = (bytesOf (s.data.toList.take i), bytesOf (s.data.toList.drop (i + 2))) := by
  have a0 : i < s.data.toList.length := by rw [size_toList]; omega
  have a1 : i + 1 < s.data.toList.length := by rw [size_toList]; omega
  have d0 : s.data.toList.drop i = s[i] :: s.data.toList.drop (i + 1) := List.drop_eq_getElem_cons a0
  have d1 : s.data.toList.drop (i + 1) = s[i + 1] :: s.data.toList.drop (i + 2) := List.drop_eq_getElem_cons a1
  rw [show s[i] = 58 from UInt8.toNat_inj.1 e0] at d0
  rw [show s[i + 1] = 58 from UInt8.toNat_inj.1 e1] at d1
  have e : s.data.toList = s.data.toList.take i ++ 58 :: 58 :: s.data.toList.drop (i + 2) := by
    conv => lhs; rw [← List.take_append_drop i s.data.toList, d0, d1]
  unfold cut2
  have := cut_colons (k := s.data.toList.take i) (r := s.data.toList.drop (i + 2)) (take_noColon (by omega) h)
  rw [← e] at this
  rw [this]
theorem rdU_colon {s : ByteArray} {u : Ud} {i : Nat} (hr : rdU s = some u) (hi : i ≤ s.size) (h : ∀ j, (hj : j < i) → (s[j]'(by omega)).toNat ≠ 58) (he : ∀ h' : i < s.size, s[i].toNat = 58) :
    ∃ h1 : i + 1 < s.size, s[i + 1].toNat = 58 := by
  obtain ⟨hu, rfl⟩ := rdU_some.1 hr
  have hn := name_noColon (uidFault_zero.1 hu).1
  have hd : (wrt u).data.toList = u.1.data.toList ++ 58 :: 58 :: (quoted u.2).data.toList := bytesOf_data _
  have hsz := wrt_size u
  have hq := quoted_size u.2
  have at_ : ∀ j (hj : j < (wrt u).size), (wrt u)[j] = (u.1.data.toList ++ 58 :: 58 :: (quoted u.2).data.toList)[j]'(by rw [← hd, size_toList]; exact hj) := fun j hj => by
    have : (wrt u)[j] = (wrt u).data.toList[j]'(by rw [size_toList]; exact hj) := rfl
    rw [this]
    congr 1
  have hk : u.1.data.toList.length = u.1.size := size_toList _
  have e1 : i = u.1.size := by
    rcases Nat.lt_trichotomy i u.1.size with hlt | h0 | hgt
    · exfalso
      have hi' : i < (wrt u).size := by omega
      have := he hi'
      rw [at_ i hi', List.getElem_append_left (by omega)] at this
      exact hn _ (List.getElem_mem _) (UInt8.toNat_inj.1 this)
    · exact h0
    · exfalso
      have hj' : u.1.size < (wrt u).size := by omega
      have := h u.1.size hgt
      rw [at_ _ hj'] at this
      apply this
      simp [hk]
  subst e1
  refine ⟨by omega, ?_⟩
  rw [at_ _ (by omega)]
  simp [List.getElem_append_right, hk]
end Go.Wk
namespace Go.Proofs.YtlipgpddcfkllaaGreatDoor
open Go.RowKit Go.Wk
set_option maxRecDepth 100000

set_option maxHeartbeats 1000000 in
theorem ref_UidFault (a b : ByteArray) (w : World) (ha : a.size ≤ maxLen) (hb : b.size ≤ maxLen) :
    Calls Tryz.prog 14 #[.agg #[.string a, .string b]] w fun e w' => e = .returned (.int .i64 (uidFault (a, b))) ∧ Below w.heap.size w w' := by
  have KN := Lib.hid (fun w => ref_NameFault a w ha)
  have KT := Lib.hid (fun w => ref_TextFault b w hb)
  have CC := Lib.hid (two_cells w (.string a) (.string b) 34)
  have B0 := Lib.hid (below_box w (.cells #[.string a, .string b] 34))
  by_cases h1 : nameFault a = 0
  · have HE := Lib.hid (show uidFault (a, b) = textFault b from if_pos h1)
    rw [h1] at KN
    rw [HE.out]
    clear h1
    go_enter Tryz.func14, Tryz.ntmps14
    go_wp2_with fail
    obtain ⟨w0, hw0⟩ : ∃ w0, w.alloc (.cells #[.string a, .string b] 34) = w0 := ⟨_, rfl⟩
    rw [hw0] at CC B0 ⊢
    clear hw0
    refine (KN.out w0).mono ?_
    rintro e w1 ⟨rfl, rfl⟩
    obtain ⟨c0, c1⟩ := CC.out
    go_wp2_with fail
    refine (KT.out _).mono ?_
    rintro e w2 ⟨rfl, b2⟩
    have B2 := bh B0 b2
    go_wp2_with fail
    go_ret
    exact ⟨rfl, B2.out⟩
  · have HE := Lib.hid (show uidFault (a, b) = nameFault a from if_neg h1)
    have h0i : (nameFault a == 0) = false := by simp; exact h1
    rw [HE.out]
    clear h1
    generalize nameFault a = nf at *
    go_enter Tryz.func14, Tryz.ntmps14
    go_wp2_with fail
    obtain ⟨w0, hw0⟩ : ∃ w0, w.alloc (.cells #[.string a, .string b] 34) = w0 := ⟨_, rfl⟩
    rw [hw0] at CC B0 ⊢
    clear hw0
    refine (KN.out w0).mono ?_
    rintro e w1 ⟨rfl, rfl⟩
    go_wp2_with fail
    go_ret
    exact ⟨rfl, B0.out⟩

set_option maxHeartbeats 4000000 in
theorem ref_UidOf (s : ByteArray) (w : World) (hs : s.size ≤ 140737488355328) :
    Calls Tryz.prog 15 #[.string s] w fun e w' => e = .returned (.tuple #[.agg #[.string (rdV s).1, .string (rdV s).2], .bool (rdU s).isSome]) ∧ Below w.heap.size w w' := by
  have B0 := Lib.hid (below_box w (.cells #[.string ⟨#[]⟩, .string ⟨#[]⟩] 34))
  have V0 := Lib.hid (vr2_new w (.string ⟨#[]⟩) (.string ⟨#[]⟩) 34)
  go_enter Tryz.func15, Tryz.ntmps15
  go_wp2_with fail
  obtain ⟨w0, hw0⟩ : ∃ w0, w.alloc (.cells #[.string ⟨#[]⟩, .string ⟨#[]⟩] 34) = w0 := ⟨_, rfl⟩
  rw [hw0] at V0 B0 ⊢
  clear hw0
  go_loopw [4] (fun i wr => ∃ k : Nat, ∃ hk : k ≤ s.size, i = .int .i64 k ∧ wr = w0 ∧ Hid (∀ j, (hj : j < k) → (s[j]'(by omega)).toNat ≠ 58)) (fun i _ => s.size - (intOf i).toNat)
  case atStart => exact ⟨0, Nat.zero_le _, rfl, rfl, fun j hj => absurd hj (Nat.not_lt_zero _)⟩
  case round =>
    obtain ⟨k, hk, rfl, rfl, hN⟩ := hrel
    by_cases hgo : ∃ h : k < s.size, s[k].toNat ≠ 58
    · obtain ⟨hlt, h58⟩ := hgo
      have HN := Lib.hid (show ∀ j, (hj : j < k + 1) → (s[j]'(by omega)).toNat ≠ 58 from fun j hj => by
        rcases Nat.lt_or_ge j k with h | h
        · exact hN.out j h
        · have : j = k := by omega
          subst this; exact h58)
      have h58i : ((s[k].toNat : Int) != 58) = true := by simp; omega
      clear h58
      go_wp2_with fail
      go_roundw
      case rel => exact ⟨k + 1, by omega, by go_num, trivial, HN⟩
      case measure => simp [intOf]; omega
    · have he : ∀ h' : k < s.size, s[k].toNat = 58 := fun h' => Classical.byContradiction fun e => hgo ⟨h', e⟩
      clear hgo
      by_cases hA : ∃ h : k + 1 < s.size, s[k + 1].toNat = 58
      · obtain ⟨hlt2, h58⟩ := hA
        have hlt : k < s.size := by omega
        have e58 := he hlt
        have C2 := cut2_at hlt2 hN.out e58 h58
        have E1 := Lib.hid (show s.extract 0 k = (cut2 s).1 by rw [C2, Lib.extract_eq]; simp [bytesOf])
        have E2 := Lib.hid (show s.extract (k + 2) s.size = (cut2 s).2 by rw [C2, Lib.extract_eq, List.take_of_length_le (by rw [List.length_drop, size_toList]; exact Nat.le_refl _)]; rfl)
        obtain ⟨z1, z2⟩ := cut2_le s
        have h58i : ((s[k + 1].toNat : Int) != 58) = false := by simp; omega
        clear he C2 hN
        rcases hb : bare (cut2 s).2 with _ | id
        · have HV := Lib.hid (show rdV s = (⟨#[]⟩, ⟨#[]⟩) ∧ (rdU s).isSome = false by
            have : rdU s = none := by unfold rdU; rw [hb]
            exact ⟨(rd_none this).2, by rw [this]; rfl⟩)
          have KB := Lib.hid (fun w' => law_Bare_none (cut2 s).2 w' hb (by omega))
          clear hb
          rw [← E2.out] at KB
          go_wp2_with fail
          refine (KB.out wr).mono ?_
          rintro e w1 ⟨⟨o, rfl⟩, b1⟩
          have B1 := bh B0 b1
          obtain ⟨c0, c1, z0, z1⟩ := V0.out.keep b1
          have VS := Lib.hid ((V0.out.keep b1).set (.string ⟨#[]⟩) (.string ⟨#[]⟩))
          clear b1 KB
          go_wp2_with fail
          obtain ⟨g0, g1, -, -⟩ := VS.out
          refine bodyPost_ret (v := .tuple #[.agg #[.string ⟨#[]⟩, .string ⟨#[]⟩], .bool false]) (by simp [results, Tryz.results15, go_sem, g0, g1]) rfl ⟨by rw [HV.out.1, HV.out.2], (B1.out.setCell (p := ⟨w.heap.size, 0, none⟩) (Nat.le_refl _) _).setCell (p := ⟨w.heap.size, 1, none⟩) (Nat.le_refl _) _⟩
        · have KB := Lib.hid (fun w' => law_Bare_some (cut2 s).2 id w' hb (by omega))
          have KN := Lib.hid (fun w' => ref_NameFault (cut2 s).1 w' (by unfold maxLen; omega))
          rw [← E2.out] at KB
          by_cases hn : nameFault (cut2 s).1 = 0
          · have HV := Lib.hid (show rdV s = ((cut2 s).1, id) ∧ (rdU s).isSome = true by
              have : rdU s = some ((cut2 s).1, id) := by unfold rdU; rw [hb]; exact if_pos hn
              exact ⟨(rd_some this).2, by rw [this]; rfl⟩)
            rw [hn] at KN
            clear hb hn
            rw [← E1.out] at KN HV
            go_wp2_with fail
            refine (KB.out wr).mono ?_
            rintro e w1 ⟨rfl, b1⟩
            have B1 := bh B0 b1
            obtain ⟨c0, c1, z0, z1⟩ := V0.out.keep b1
            have VS := Lib.hid ((V0.out.keep b1).set (.string (s.extract 0 k)) (.string id))
            clear b1 KB
            go_wp2_with fail
            refine (KN.out w1).mono ?_
            rintro e w2 ⟨rfl, rfl⟩
            go_wp2_with fail
            obtain ⟨g0, g1, -, -⟩ := VS.out
            refine bodyPost_ret (v := .tuple #[.agg #[.string (s.extract 0 k), .string id], .bool true]) (by simp [results, Tryz.results15, go_sem, g0, g1]) rfl ⟨by rw [HV.out.1, HV.out.2], (B1.out.setCell (p := ⟨w.heap.size, 0, none⟩) (Nat.le_refl _) _).setCell (p := ⟨w.heap.size, 1, none⟩) (Nat.le_refl _) _⟩
          · have HV := Lib.hid (show rdV s = (⟨#[]⟩, ⟨#[]⟩) ∧ (rdU s).isSome = false by
              have : rdU s = none := by unfold rdU; rw [hb]; exact if_neg hn
              exact ⟨(rd_none this).2, by rw [this]; rfl⟩)
            have hni : (nameFault (cut2 s).1 != 0) = true := by simp; exact hn
            clear hb hn
            generalize nameFault (cut2 s).1 = nf at *
            rw [← E1.out] at KN
            go_wp2_with fail
            refine (KB.out wr).mono ?_
            rintro e w1 ⟨rfl, b1⟩
            have B1 := bh B0 b1
            obtain ⟨c0, c1, z0, z1⟩ := V0.out.keep b1
            have VS := Lib.hid ((V0.out.keep b1).set (.string ⟨#[]⟩) (.string ⟨#[]⟩))
            clear b1 KB
            go_wp2_with fail
            refine (KN.out w1).mono ?_
            rintro e w2 ⟨rfl, rfl⟩
            go_wp2_with fail
            obtain ⟨g0, g1, -, -⟩ := VS.out
            refine bodyPost_ret (v := .tuple #[.agg #[.string ⟨#[]⟩, .string ⟨#[]⟩], .bool false]) (by simp [results, Tryz.results15, go_sem, g0, g1]) rfl ⟨by rw [HV.out.1, HV.out.2], (B1.out.setCell (p := ⟨w.heap.size, 0, none⟩) (Nat.le_refl _) _).setCell (p := ⟨w.heap.size, 1, none⟩) (Nat.le_refl _) _⟩
      · have HV := Lib.hid (show rdV s = (⟨#[]⟩, ⟨#[]⟩) ∧ (rdU s).isSome = false by
          have : rdU s = none := by
            rcases hr : rdU s with _ | u
            · rfl
            · exact absurd (rdU_colon hr hk hN.out he) hA
          exact ⟨(rd_none this).2, by rw [this]; rfl⟩)
        obtain ⟨c0, c1, z0, z1⟩ := V0.out
        have VS := Lib.hid (V0.out.set (.string ⟨#[]⟩) (.string ⟨#[]⟩))
        by_cases hlt : k < s.size
        · have e58 := he hlt
          by_cases hlt2 : k + 1 < s.size
          · have h58i : ((s[k + 1].toNat : Int) != 58) = true := by
              have : s[k + 1].toNat ≠ 58 := fun e => hA ⟨hlt2, e⟩
              simp; omega
            clear hA he
            go_wp2_with fail
            obtain ⟨g0, g1, -, -⟩ := VS.out
            refine bodyPost_ret (v := .tuple #[.agg #[.string ⟨#[]⟩, .string ⟨#[]⟩], .bool false]) (by simp [results, Tryz.results15, go_sem, g0, g1]) rfl ⟨by rw [HV.out.1, HV.out.2], (B0.out.setCell (p := ⟨w.heap.size, 0, none⟩) (Nat.le_refl _) _).setCell (p := ⟨w.heap.size, 1, none⟩) (Nat.le_refl _) _⟩
          · have hk1 : (s.size : Int) ≤ (k : Int) + 1 := by omega
            clear hA he
            go_wp2_with fail
            obtain ⟨g0, g1, -, -⟩ := VS.out
            refine bodyPost_ret (v := .tuple #[.agg #[.string ⟨#[]⟩, .string ⟨#[]⟩], .bool false]) (by simp [results, Tryz.results15, go_sem, g0, g1]) rfl ⟨by rw [HV.out.1, HV.out.2], (B0.out.setCell (p := ⟨w.heap.size, 0, none⟩) (Nat.le_refl _) _).setCell (p := ⟨w.heap.size, 1, none⟩) (Nat.le_refl _) _⟩
        · have hk1 : (s.size : Int) ≤ (k : Int) + 1 := by omega
          clear hA he
          go_wp2_with fail
          obtain ⟨g0, g1, -, -⟩ := VS.out
          refine bodyPost_ret (v := .tuple #[.agg #[.string ⟨#[]⟩, .string ⟨#[]⟩], .bool false]) (by simp [results, Tryz.results15, go_sem, g0, g1]) rfl ⟨by rw [HV.out.1, HV.out.2], (B0.out.setCell (p := ⟨w.heap.size, 0, none⟩) (Nat.le_refl _) _).setCell (p := ⟨w.heap.size, 1, none⟩) (Nat.le_refl _) _⟩
end Go.Proofs.YtlipgpddcfkllaaGreatDoor
