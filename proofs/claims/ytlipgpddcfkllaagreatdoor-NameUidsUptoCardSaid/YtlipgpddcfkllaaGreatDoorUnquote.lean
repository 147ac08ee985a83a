/-
  name.Unquote: what was quoted.
-/
import Derived.Test.YtlipgpddcfkllaaGreatDoorBuilder
import Derived.Test.YtlipgpddcfkllaaGreatDoorQuoLaw
import Derived.Test.YtlipgpddcfkllaaGreatDoorName
namespace Go.Proofs.YtlipgpddcfkllaaGreatDoor
open Go.RowKit Go.Wk
set_option maxRecDepth 100000

theorem body_extract (s : ByteArray) (h : 2 ≤ s.size) : (s.extract 1 (s.size - 1)).data.toList = body s := by
  unfold body
  rw [ByteArray.data_extract, Array.toList_extract]
  simp
  congr 1
  omega
theorem bareV_none {s : ByteArray} (h : bare s = none) : bareV s = ⟨#[]⟩ ∧ bareE s = 1 := by
  unfold bareV bareE; rw [h]; exact ⟨rfl, rfl⟩
theorem bareV_some {s u : ByteArray} (h : bare s = some u) : bareV s = u ∧ bareE s = 0 := by
  unfold bareV bareE; rw [h]; exact ⟨rfl, rfl⟩
theorem inQ_not {s : ByteArray} (hq : ¬ inQ s) (h : 2 ≤ s.size) : s[0].toNat ≠ 34 ∨ s[s.size - 1].toNat ≠ 34 := by
  by_cases h0 : s[0].toNat = 34
  · refine .inr fun h1 => hq ⟨h, ?_, ?_⟩
    · have : s.data.toList[0]? = some s[0] := List.getElem?_eq_getElem (by simp; omega)
      rw [this]; exact congrArg some (UInt8.toNat_inj.1 h0)
    · have : s.data.toList[s.size - 1]? = some s[s.size - 1] := List.getElem?_eq_getElem (by simp; omega)
      rw [this]; exact congrArg some (UInt8.toNat_inj.1 h1)
  · exact .inl h0
theorem inQ_at {s : ByteArray} (hq : inQ s) : ∃ (h : 2 ≤ s.size), s[0].toNat = 34 ∧ s[s.size - 1].toNat = 34 := by
  obtain ⟨h, q0, q1⟩ := hq
  refine ⟨h, ?_, ?_⟩
  · have : s.data.toList[0]? = some s[0] := List.getElem?_eq_getElem (by simp; omega)
    rw [this] at q0; injection q0 with q0; rw [q0]; rfl
  · have : s.data.toList[s.size - 1]? = some s[s.size - 1] := List.getElem?_eq_getElem (by simp; omega)
    rw [this] at q1; injection q1 with q1; rw [q1]; rfl
set_option maxHeartbeats 4000000 in
theorem name_Unquote (s : ByteArray) (w : World) (hs : s.size ≤ 140737488355328) :
    Calls Tryz.prog 12 #[.string s] w fun e w' => e = .returned (.tuple #[.string (bareV s), errV (bareE s)]) ∧ Below w.heap.size w w' := by
  by_cases hq : inQ s
  · have HQ := Lib.hid (show bare s = (match unq (body s) with | some l => if textFault (bytesOf l) = 0 then some (bytesOf l) else none | none => none) from if_pos hq)
    obtain ⟨h2, q0, q1⟩ := inQ_at hq
    have HX := Lib.hid (body_extract s h2)
    have hXs : (s.extract 1 (s.size - 1)).size ≤ s.size := by rw [ByteArray.size_extract]; omega
    clear hq
    have hd : decide ((s.size : Int) < 2) = false := decide_eq_false (by omega)
    go_enter Tryz.func12, Tryz.ntmps12
    go_wp2_with fail
    generalize s.extract 1 (s.size - 1) = X at *
    rw [← HX.out] at HQ
    clear HX hd
    have BL := Lib.hid (bld_new w w.heap.size (Nat.le_refl _))
    have B0 := Lib.hid (below_box w (.cells #[.pointer none, .slice none 0 0] 71))
    obtain ⟨w0, hw0⟩ : ∃ w0, w.alloc (.cells #[.pointer none, .slice none 0 0] 71) = w0 := ⟨_, rfl⟩
    rw [hw0] at BL B0 ⊢
    clear hw0
    go_loopw [6] (fun i wr => ∃ (k : Nat) (acc : List UInt8), k ≤ X.size ∧ i = .int .i64 k ∧ Hid (unq X.data.toList = (unq (X.data.toList.drop k)).map (acc ++ ·)) ∧ acc.length ≤ k ∧ Hid (Bld w.heap.size w.heap.size acc wr) ∧ Hid (Below w.heap.size w wr)) (fun i _ => X.size - (intOf i).toNat)
    case atStart => exact ⟨0, [], Nat.zero_le _, rfl, Lib.hid (by rw [List.drop_zero]; simp), Nat.le_refl _, BL, B0⟩
    case round =>
      clear BL B0
      obtain ⟨k, acc, hk, rfl, hU, ha, hBl, hB⟩ := hrel
      by_cases hlt : k < X.size
      · have hdr : X.data.toList.drop k = X[k] :: X.data.toList.drop (k + 1) := List.drop_eq_getElem_cons (by simpa using hlt)
        have HD := Lib.hid hdr
        clear hdr
        by_cases h34 : X[k].toNat = 34
        · have HN := Lib.hid (bareV_none (s := s) (by
            rw [HQ.out, hU.out, HD.out, show X[k] = 34 from UInt8.toNat_inj.1 h34, unq_quote]; rfl))
          go_wp2_with fail
          go_ret2
          exact ⟨by rw [HN.out.1, HN.out.2]; rfl, hB.out⟩
        · by_cases h92 : X[k].toNat = 92
          · have E92 := Lib.hid (show X[k] = 92 from UInt8.toNat_inj.1 h92)
            by_cases hlt2 : k + 1 < X.size
            · have hdr2 : X.data.toList.drop (k + 1) = X[k + 1] :: X.data.toList.drop (k + 2) := List.drop_eq_getElem_cons (by simpa using hlt2)
              have HD2 := Lib.hid hdr2
              clear hdr2
              by_cases hc : X[k + 1].toNat = 34 ∨ X[k + 1].toNat = 92
              · rcases hc with hc | hc
                · have EC := Lib.hid (show X[k + 1] = 34 from UInt8.toNat_inj.1 hc)
                  have HU2 := Lib.hid (show unq X.data.toList = (unq (X.data.toList.drop (k + 2))).map ((acc ++ [34]) ++ ·) by
                    rw [hU.out, HD.out, E92.out, HD2.out, EC.out, unq_sign (by decide), Option.map_map]
                    congr 1
                    funext x
                    simp)
                  have KW := Lib.hid (bld_WriteByteL w.heap.size w.heap.size acc 34 wr hBl.out (by omega) hB.out.size)
                  go_wp2_with fail
                  refine (KW.out).mono ?_
                  rintro e w1 ⟨rfl, L1, b1⟩
                  have BL1 := Lib.hid L1
                  have B1 := Lib.hid (hB.out.trans b1)
                  clear L1 b1 KW hB hBl hU
                  go_wp2_with fail
                  go_roundw
                  case rel => exact ⟨k + 2, acc ++ [34], by omega, by go_num, HU2, by simp; omega, BL1, B1⟩
                  case measure => simp [intOf]; omega
                · have EC := Lib.hid (show X[k + 1] = 92 from UInt8.toNat_inj.1 hc)
                  have HU2 := Lib.hid (show unq X.data.toList = (unq (X.data.toList.drop (k + 2))).map ((acc ++ [92]) ++ ·) by
                    rw [hU.out, HD.out, E92.out, HD2.out, EC.out, unq_sign (by decide), Option.map_map]
                    congr 1
                    funext x
                    simp)
                  have KW := Lib.hid (bld_WriteByteL w.heap.size w.heap.size acc 92 wr hBl.out (by omega) hB.out.size)
                  go_wp2_with fail
                  refine (KW.out).mono ?_
                  rintro e w1 ⟨rfl, L1, b1⟩
                  have BL1 := Lib.hid L1
                  have B1 := Lib.hid (hB.out.trans b1)
                  clear L1 b1 KW hB hBl hU
                  go_wp2_with fail
                  go_roundw
                  case rel => exact ⟨k + 2, acc ++ [92], by omega, by go_num, HU2, by simp; omega, BL1, B1⟩
                  case measure => simp [intOf]; omega
              · have HN := Lib.hid (bareV_none (s := s) (by
                  rw [HQ.out, hU.out, HD.out, E92.out, HD2.out, unq_bad (fun e => hc (e.imp (fun e => by rw [e]; rfl) (fun e => by rw [e]; rfl)))]; rfl))
                have hc1 : ((X[k + 1].toNat : Int) != 34) = true := by
                  have : X[k + 1].toNat ≠ 34 := fun e => hc (.inl e)
                  simp; omega
                have hc2 : ((X[k + 1].toNat : Int) != 92) = true := by
                  have : X[k + 1].toNat ≠ 92 := fun e => hc (.inr e)
                  simp; omega
                clear hc
                go_wp2_with fail
                go_ret2
                exact ⟨by rw [HN.out.1, HN.out.2]; rfl, hB.out⟩
            · have HN := Lib.hid (bareV_none (s := s) (by
                rw [HQ.out, hU.out, HD.out, E92.out, List.drop_of_length_le (by simp; omega), unq_last]; rfl))
              have ek : ((k : Int) + 1 == (X.size : Int)) = true := by simp; omega
              go_wp2_with fail
              go_ret2
              exact ⟨by rw [HN.out.1, HN.out.2]; rfl, hB.out⟩
          · have HU2 := Lib.hid (show unq X.data.toList = (unq (X.data.toList.drop (k + 1))).map ((acc ++ [X[k]]) ++ ·) by
              rw [hU.out, HD.out, unq_plain (fun e => e.elim (fun e => h34 (by rw [e]; rfl)) (fun e => h92 (by rw [e]; rfl))), Option.map_map]
              congr 1
              funext x
              simp)
            have KW := Lib.hid (bld_WriteByteL w.heap.size w.heap.size acc X[k] wr hBl.out (by omega) hB.out.size)
            go_wp2_with fail
            refine (KW.out).mono ?_
            rintro e w1 ⟨rfl, L1, b1⟩
            have BL1 := Lib.hid L1
            have B1 := Lib.hid (hB.out.trans b1)
            clear L1 b1 KW hB hBl hU
            go_wp2_with fail
            go_roundw
            case rel => exact ⟨k + 1, acc ++ [X[k]], by omega, by go_num, HU2, by simp; omega, BL1, B1⟩
            case measure => simp [intOf]; omega
      · have HE := Lib.hid (show unq X.data.toList = some acc by rw [hU.out, List.drop_of_length_le (by simp; omega)]; simp [unq])
        have hac : (bytesOf acc).size ≤ maxLen := by rw [bytesOf_size]; unfold maxLen; omega
        have KS := Lib.hid (fun w' h hb => bld_String w.heap.size w.heap.size acc w' h hb)
        go_wp2_with fail
        refine (KS.out wr hBl.out hB.out.size).mono ?_
        rintro e w1 ⟨rfl, L1, b1, -⟩
        have BL1 := Lib.hid L1
        have B1 := Lib.hid (hB.out.trans b1)
        have KP := Lib.hid (name_Plain (bytesOf acc) w1 hac)
        clear L1 b1 hB hBl hU
        go_wp2_with fail
        refine (KP.out).mono ?_
        rintro e w2 ⟨rfl, b2⟩
        have BL2 := Lib.hid (BL1.out.keep b2)
        have B2 := bh B1 b2
        clear b2 KP BL1 B1
        by_cases h0 : textFault (bytesOf acc) = 0
        · have HN := Lib.hid (bareV_some (s := s) (u := bytesOf acc) (by rw [HQ.out, HE.out]; exact if_pos h0))
          rw [h0, errV_zero]
          clear h0
          go_wp2_with fail
          refine (KS.out w2 BL2.out B2.out.size).mono ?_
          rintro e w3 ⟨rfl, -, b3, -⟩
          have B3 := Lib.hid (B2.out.trans b3)
          go_wp2_with fail
          go_ret2
          exact ⟨by rw [HN.out.1, HN.out.2]; rfl, B3.out⟩
        · have HN := Lib.hid (bareV_none (s := s) (by rw [HQ.out, HE.out]; exact if_neg h0))
          rw [errV_ne h0]
          clear h0
          go_wp2_with fail
          go_ret2
          exact ⟨by rw [HN.out.1, HN.out.2]; rfl, B2.out⟩
  · obtain ⟨e1, e2⟩ := bareV_none (s := s) (if_neg hq)
    rw [e1, e2]
    clear e1 e2
    by_cases h2 : s.size < 2
    · go_enter Tryz.func12, Tryz.ntmps12
      go_wp2_with fail
      go_ret2
      exact ⟨rfl, Below.refl _ _⟩
    · have hn := inQ_not hq (by omega)
      clear hq
      by_cases h0 : s[0].toNat = 34
      · have h1 : s[s.size - 1].toNat ≠ 34 := hn.resolve_left (fun h => h h0)
        have hf : ((s[s.size - 1].toNat : Int) != 34) = true := by simp; omega
        clear hn h1
        go_enter Tryz.func12, Tryz.ntmps12
        go_wp2_with fail
        go_ret2
        exact ⟨rfl, Below.refl _ _⟩
      · clear hn
        go_enter Tryz.func12, Tryz.ntmps12
        go_wp2_with fail
        go_ret2
        exact ⟨rfl, Below.refl _ _⟩
end Go.Proofs.YtlipgpddcfkllaaGreatDoor
