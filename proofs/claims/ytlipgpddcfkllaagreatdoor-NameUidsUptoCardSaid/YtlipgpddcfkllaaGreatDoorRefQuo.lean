/-
  The document's Quoted, Bare.
-/
import Derived.Test.YtlipgpddcfkllaaGreatDoorQuoLaw
import Derived.Test.YtlipgpddcfkllaaGreatDoorNameRef
namespace Go.Proofs.YtlipgpddcfkllaaGreatDoor
open Go.RowKit Go.Wk
set_option maxRecDepth 100000

theorem bytesOf_app (a b : List UInt8) : bytesOf a ++ bytesOf b = bytesOf (a ++ b) := by
  refine bytes_ext ?_
  rw [bytesOf_data]
  simp [ByteArray.data_append, bytesOf]
theorem one_byte (s : ByteArray) {k : Nat} (h : k < s.size) : s.extract k (k + 1) = bytesOf [s[k]] := by
  refine bytes_ext ?_
  rw [bytesOf_data, ByteArray.data_extract, Array.toList_extract]
  have h' : k < s.data.toList.length := by simpa using h
  rw [List.extract_eq_take_drop, List.drop_eq_getElem_cons h', Nat.add_sub_cancel_left]
  rfl
theorem quo_snoc (s : ByteArray) {k : Nat} (h : k < s.size) : quo (s.data.toList.take (k + 1)) = quo (s.data.toList.take k) ++ if s[k].toNat = 34 ∨ s[k].toNat = 92 then [92, s[k]] else [s[k]] := by
  have h' : k < s.data.toList.length := by simpa using h
  have e : s.data.toList.take (k + 1) = s.data.toList.take k ++ [s[k]] := by rw [List.take_succ_eq_append_getElem h']; rfl
  have t34 : s[k] = 34 ↔ s[k].toNat = 34 := ⟨fun e => by rw [e]; rfl, fun e => UInt8.toNat_inj.1 e⟩
  have t92 : s[k] = 92 ↔ s[k].toNat = 92 := ⟨fun e => by rw [e]; rfl, fun e => UInt8.toNat_inj.1 e⟩
  rw [e, quo_append]
  congr 1
  by_cases h1 : s[k] = 34 ∨ s[k] = 92
  · rw [quo, if_pos h1, if_pos (h1.imp t34.1 t92.1)]; rfl
  · rw [quo, if_neg h1, if_neg (fun e => h1 (e.imp t34.2 t92.2))]; rfl
theorem quo_take_len (l : List UInt8) (k : Nat) : (quo (l.take k)).length ≤ 2 * l.length := by
  have h1 := (quo_length (l.take k)).2
  have h2 : (l.take k).length ≤ l.length := by rw [List.length_take]; omega
  omega
set_option maxHeartbeats 2000000 in
theorem ref_Quoted (s : ByteArray) (w : World) (hs : s.size ≤ 60) :
    Calls Tryz.prog 9 #[.string s] w fun e w' => e = .returned (.string (Wk.quoted s)) ∧ Below w.heap.size w w' := by
  go_enter Tryz.func9, Tryz.ntmps9
  go_wp2_with fail
  go_loopw [3, 4] (fun o i wr => ∃ (k : Nat) (x : ByteArray), k ≤ s.size ∧ i = .int .i64 k ∧ o = .string x ∧ Hid (x = bytesOf (34 :: quo (s.data.toList.take k))) ∧ Hid (Below w.heap.size w wr)) (fun _ i _ => s.size - (intOf i).toNat)
  case atStart => exact ⟨0, ⟨#[34]⟩, Nat.zero_le _, rfl, rfl, rfl, Below.refl _ _⟩
  case round =>
    obtain ⟨k, x, hk, rfl, rfl, hx, hB⟩ := hrel
    have hxs : x.size ≤ 121 := by
      rw [hx.out, bytesOf_size, List.length_cons]
      have := quo_take_len s.data.toList k
      rw [size_toList] at this
      omega
    by_cases hlt : k < s.size
    · have ES := Lib.hid (one_byte s hlt)
      have hes : (s.extract k (k + 1)).size = 1 := by rw [ES.out, bytesOf_size]; rfl
      have QS := Lib.hid (quo_snoc s hlt)
      by_cases hq : s[k].toNat = 34 ∨ s[k].toNat = 92
      · have HX := Lib.hid (show x ++ ⟨#[92]⟩ ++ s.extract k (k + 1) = bytesOf (34 :: quo (s.data.toList.take (k + 1))) by
          rw [QS.out, if_pos hq, ES.out, hx.out, show (⟨#[92]⟩ : ByteArray) = bytesOf [92] from rfl, bytesOf_app, bytesOf_app]; simp)
        rcases hq with hq | hq
        · go_wp2_with fail
          go_roundw
          case rel => exact ⟨k + 1, _, by omega, by go_num, rfl, HX, hB⟩
          case measure => simp [intOf]; omega
        · go_wp2_with fail
          go_roundw
          case rel => exact ⟨k + 1, _, by omega, by go_num, rfl, HX, hB⟩
          case measure => simp [intOf]; omega
      · have HX := Lib.hid (show x ++ s.extract k (k + 1) = bytesOf (34 :: quo (s.data.toList.take (k + 1))) by
          rw [QS.out, if_neg hq, ES.out, hx.out, bytesOf_app]; simp)
        have h1 : ((s[k].toNat : Int) == 34) = false := by
          have : s[k].toNat ≠ 34 := fun e => hq (.inl e)
          simp; omega
        have h2 : ((s[k].toNat : Int) == 92) = false := by
          have : s[k].toNat ≠ 92 := fun e => hq (.inr e)
          simp; omega
        clear hq
        go_wp2_with fail
        go_roundw
        case rel => exact ⟨k + 1, _, by omega, by go_num, rfl, HX, hB⟩
        case measure => simp [intOf]; omega
    · have HX := Lib.hid (show x ++ ⟨#[34]⟩ = Wk.quoted s by
        rw [hx.out, List.take_of_length_le (by simp; omega), show (⟨#[34]⟩ : ByteArray) = bytesOf [34] from rfl, bytesOf_app]; rfl)
      go_wp2_with fail
      go_ret
      exact ⟨by rw [← HX.out]; rfl, hB.out⟩
theorem bar_sign (c : UInt8) (r : List UInt8) : bar (92 :: c :: r) = c :: bar r := by rw [bar, if_pos rfl]
theorem bar_last : bar [92] = [] := by simp [bar]
theorem text_le0 {k : ByteArray} (h : textFault k = 0) : k.size ≤ 60 := by
  unfold textFault at h
  by_cases h1 : 60 < k.size
  · rw [if_pos h1] at h; cases h
  · omega
theorem body_len (s : ByteArray) : (body s).length = s.size - 2 := by
  unfold body
  rw [List.length_take, List.length_drop, size_toList]
  omega
theorem body_drop {s : ByteArray} {i : Nat} (h0 : 1 ≤ i) (h : i + 1 < s.size) : (body s).drop (i - 1) = s[i] :: (body s).drop i := by
  have h' : i < s.data.toList.length := by rw [size_toList]; omega
  have e : s.data.toList.drop i = s[i] :: s.data.toList.drop (i + 1) := List.drop_eq_getElem_cons h'
  unfold body
  rw [List.drop_take, List.drop_take, List.drop_drop, List.drop_drop, show 1 + (i - 1) = i by omega, show s.size - 2 - (i - 1) = (s.size - 2 - i) + 1 by omega, e, List.take_succ_cons, Nat.add_comm i 1]
theorem body_drop_nil {s : ByteArray} {i : Nat} (h : s.size ≤ i + 1) : (body s).drop (i - 1) = [] := List.drop_of_length_le (by rw [body_len]; omega)
set_option maxHeartbeats 4000000 in
/-- What the document's Bare tells. -/
theorem ref_Bare (s : ByteArray) (w : World) (hs : s.size ≤ 140737488355328) :
    Calls Tryz.prog 11 #[.string s] w fun e w' => (∃ o, e = .returned (.tuple #[.string o, .bool (bare s).isSome]) ∧ ∀ u, bare s = some u → o = u) ∧ Below w.heap.size w w' := by
  go_enter Tryz.func11, Tryz.ntmps11
  go_wp2_with fail
  go_loopw [4, 5] (fun o i wr => ∃ (k : Nat) (acc : List UInt8) (x : ByteArray), 1 ≤ k ∧ k ≤ s.size + 1 ∧ i = .int .i64 k ∧ o = .string x ∧ Hid (x = bytesOf acc) ∧ Hid (bar (body s) = acc ++ bar ((body s).drop (k - 1))) ∧ acc.length ≤ k ∧ Hid (Below w.heap.size w wr)) (fun _ i _ => s.size + 1 - (intOf i).toNat)
  case atStart => exact ⟨1, [], ⟨#[]⟩, Nat.le_refl _, by omega, rfl, rfl, rfl, rfl, by simp, Below.refl _ _⟩
  case round =>
    obtain ⟨k, acc, x, h1, hk, rfl, rfl, hx, hA, ha, hB⟩ := hrel
    have hxs : x.size ≤ 140737488355330 := by rw [hx.out, bytesOf_size]; omega
    by_cases hlt : k + 1 < s.size
    · have HD := Lib.hid (body_drop h1 hlt)
      have hi : (k : Int) < (s.size : Int) - 1 := by omega
      by_cases h92 : s[k].toNat = 92
      · have E92 := Lib.hid (show s[k] = 92 from UInt8.toNat_inj.1 h92)
        by_cases hlt2 : k + 2 < s.size
        · have HD2 := Lib.hid (body_drop (i := k + 1) (by omega) hlt2)
          have ES := Lib.hid (one_byte s (k := k + 1) (by omega))
          have hes : (s.extract (k + 1) (k + 1 + 1)).size = 1 := by rw [ES.out, bytesOf_size]; rfl
          have HA := Lib.hid (show bar (body s) = (acc ++ [s[k + 1]]) ++ bar ((body s).drop (k + 1)) by
            rw [hA.out, HD.out, E92.out]
            have := HD2.out
            rw [Nat.add_sub_cancel] at this
            rw [this, bar_sign]; simp)
          have HX := Lib.hid (show x ++ s.extract (k + 1) (k + 1 + 1) = bytesOf (acc ++ [s[k + 1]]) by rw [ES.out, hx.out, bytesOf_app])
          have hi2 : (k : Int) + 1 < (s.size : Int) - 1 := by omega
          go_wp2_with fail
          go_roundw
          case rel => exact ⟨k + 2, _, _, by omega, by omega, by go_num, rfl, HX, HA, by simp; omega, hB⟩
          case measure => simp [intOf]; omega
        · have HA := Lib.hid (show bar (body s) = acc ++ bar ((body s).drop (k + 1)) by
            rw [hA.out, HD.out, E92.out, List.drop_of_length_le (by rw [body_len]; omega), List.drop_of_length_le (by rw [body_len]; omega), bar_last]; rfl)
          have hi2 : ¬ (k : Int) + 1 < (s.size : Int) - 1 := by omega
          go_wp2_with fail
          go_roundw
          case rel => exact ⟨k + 2, acc, x, by omega, by omega, by go_num, rfl, hx, HA, by omega, hB⟩
          case measure => simp [intOf]; omega
      · have ES := Lib.hid (one_byte s (k := k) (by omega))
        have hes : (s.extract k (k + 1)).size = 1 := by rw [ES.out, bytesOf_size]; rfl
        have HA := Lib.hid (show bar (body s) = (acc ++ [s[k]]) ++ bar ((body s).drop (k + 1 - 1)) by
          rw [hA.out, HD.out, bar_plain (fun e => h92 (by rw [e]; rfl)), Nat.add_sub_cancel]; simp)
        have HX := Lib.hid (show x ++ s.extract k (k + 1) = bytesOf (acc ++ [s[k]]) by rw [ES.out, hx.out, bytesOf_app])
        go_wp2_with fail
        go_roundw
        case rel => exact ⟨k + 1, _, _, by omega, by omega, by go_num, rfl, HX, HA, by simp; omega, hB⟩
        case measure => simp [intOf]; omega
    · have HE := Lib.hid (show x = bytesOf (bar (body s)) by
        rw [hA.out, body_drop_nil (by omega), hx.out]; simp [bar])
      have HW := Lib.hid (bare_way s)
      rw [← HE.out] at HW
      have hi : ¬ (k : Int) < (s.size : Int) - 1 := by omega
      have KT := Lib.hid (ref_TextFault x wr (by unfold maxLen; omega))
      go_wp2_with fail
      refine (KT.out).mono ?_
      rintro e w1 ⟨rfl, b1⟩
      have B1 := bh hB b1
      clear b1 KT hB
      by_cases h0 : textFault x = 0
      · have KQ := Lib.hid (ref_Quoted x w1 (text_le0 h0))
        have H0 := Lib.hid h0
        rw [h0]
        clear h0
        go_wp2_with fail
        refine (KQ.out).mono ?_
        rintro e w2 ⟨rfl, b2⟩
        have B2 := bh B1 b2
        clear b2 KQ B1
        by_cases hq : Wk.quoted x = s
        · have HS := Lib.hid ((HW.out.1.1 ⟨H0.out, hq⟩))
          rw [hq]
          clear hq
          go_wp2_with fail
          go_ret2
          exact ⟨⟨x, by rw [HS.out]; rfl, HW.out.2⟩, B2.out⟩
        · have HS := Lib.hid (show (bare s).isSome = false by
            rw [Bool.eq_false_iff]; intro h; exact hq (HW.out.1.2 h).2)
          have hq2 : ((Wk.quoted x).toList == s.toList) = false := beq_eq_false_iff_ne.2 (fun h => hq (toList_inj h))
          go_wp2_with fail
          go_ret2
          exact ⟨⟨x, by rw [HS.out]; rfl, HW.out.2⟩, B2.out⟩
      · have HS := Lib.hid (show (bare s).isSome = false by
          rw [Bool.eq_false_iff]; intro h; exact h0 (HW.out.1.2 h).1)
        have h0i : (textFault x == 0) = false := by simp; exact h0
        go_wp2_with fail
        go_ret2
        exact ⟨⟨x, by rw [HS.out]; rfl, HW.out.2⟩, B1.out⟩
theorem law_Bare_none (s : ByteArray) (w : World) (h : bare s = none) (hs : s.size ≤ 140737488355328) :
    Calls Tryz.prog 11 #[.string s] w fun e w' => (∃ o, e = .returned (.tuple #[.string o, .bool false])) ∧ Below w.heap.size w w' :=
  (ref_Bare s w hs).mono fun e w' ⟨⟨o, h1, _⟩, hb⟩ => ⟨⟨o, by rw [h1, h]; rfl⟩, hb⟩
theorem law_Bare_some (s u : ByteArray) (w : World) (h : bare s = some u) (hs : s.size ≤ 140737488355328) :
    Calls Tryz.prog 11 #[.string s] w fun e w' => e = .returned (.tuple #[.string u, .bool true]) ∧ Below w.heap.size w w' :=
  (ref_Bare s w hs).mono fun e w' ⟨⟨o, h1, h2⟩, hb⟩ => ⟨by rw [h1, h, h2 u h]; rfl, hb⟩
end Go.Proofs.YtlipgpddcfkllaaGreatDoor
