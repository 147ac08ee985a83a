/-
  like.Short: a pattern without needless stars.
-/
import Derived.Test.YtfbgaefbalbohaaDoorLike
import Derived.Test.YtfbgaefbalbohaaDoorShortLaw
import Derived.Test.YtfbgaefbalbohaaDoorBuilder
import Derived.Deep.Onto
namespace Go.Proofs.YtfbgaefbalbohaaDoor
open Go.RowKit Go.Wk Go.Sort
set_option maxRecDepth 100000

theorem bs {a b c : World} (h : Hid (Below a.heap.size a b)) (k : Below b.heap.size b c) : Hid (Below a.heap.size a c) :=
  Lib.hid (h.out.trans (k.mono h.out.size))
/-- A box of the call's own abides what a builder does. -/
theorem box_others {w w' : World} {b g : Nat} {x y : Value} {t : TypeId} (h : w.heap[g]? = some (.cells #[x, y] t (0, 0))) (hk : Lib.OthersKept 5 (some b) w w') (ht : t ≠ 5) (hb : g ≠ b) :
    w'.heap[g]? = some (.cells #[x, y] t (0, 0)) := hk g _ h (by simpa using hb) (fun c fz q => by injection q with _ q _; exact ht q)
theorem box_cell {w : World} {g : Nat} {x y : Value} {t : TypeId} (h : w.heap[g]? = some (.cells #[x, y] t (0, 0))) : w.cell? ⟨g, 0, none⟩ = some x ∧ w.cell? ⟨g, 1, none⟩ = some y := by
  constructor <;> simp [World.cell?, h]
set_option maxHeartbeats 4000000 in
theorem like_Short (s : ByteArray) (w : World) (hs : s.size ≤ maxLen) :
    Calls Tryd.prog 10 #[.string s] w fun e w' => e = .returned (.tuple #[.string (shortV s), errV (textFault s)]) ∧ Below w.heap.size w w' := by
  have P1 := Lib.hid (fun w => name_Plain s w hs)
  by_cases h0 : textFault s = 0
  · have H0 := Lib.hid h0
    have hV := Lib.hid (show shortV s = ⟨(shortS false (signs s.data.toList)).toArray⟩ by unfold shortV; rw [if_pos h0])
    have R := Lib.hid (fun w => like_readO s w (textFault_zero h0))
    have hG : (signs s.data.toList).length ≤ 60 := by
      have := signs_length s.data.toList
      have := textFault_zero h0
      have : s.data.toList.length = s.size := Array.length_toList
      omega
    rw [h0, errV_zero] at P1
    generalize signs s.data.toList = G at *
    clear h0
    go_enter Tryd.func10, Tryd.ntmps10
    go_wp2_with fail
    refine (P1.out _).mono ?_
    rintro e w1 ⟨rfl, b1⟩
    have D0 := Lib.hid (bld_new w1 w.heap.size b1.size)
    have B1 := Lib.hid (b1.alloc b1.size (.cells #[.pointer none, .slice none 0 0] 61))
    have hb0 := b1.size
    clear b1
    go_wp2_with fail
    refine (R.out _).mono ?_
    rintro e w2 ⟨A, c, rfl, hO, b2⟩
    have D1 := Lib.hid (D0.out.keep b2)
    have B2 := bs B1 b2
    have O1 := Lib.hid (World.ownsRow.mono hO (show w1.heap.size + 1 ≤ _ by simp))
    clear hO b2 D0 B1 R
    go_wp2_with fail
    go_loopw [6, 17] (fun last i wr => ∃ (k : Nat) (lb : Bool) (l : List UInt8), k ≤ G.length ∧ i = .int .i64 k ∧ last = .bool lb ∧ l.length ≤ 2 * k ∧ Hid (shortS false G = l ++ shortS lb (G.drop k)) ∧ Hid (Bld w.heap.size w1.heap.size l wr) ∧ Hid (wr.ownsRow (w1.heap.size + 1) 65 2 (.slice A G.length c) G.length (signCells G)) ∧ Hid (Below w.heap.size w wr)) (fun _ i _ => G.length - (intOf i).toNat)
    case atStart => exact ⟨0, false, [], Nat.zero_le _, rfl, rfl, by simp, rfl, D1, O1, B2⟩
    case round =>
      obtain ⟨k, lb, l, hk, rfl, rfl, hl, hE, hD, hO, hB⟩ := hrel
      by_cases hlt : k < G.length
      · obtain ⟨hn, hS⟩ := own_signs hO.out
        obtain ⟨a, rfl, c0, c1⟩ := hS k G[k] (List.getElem?_eq_getElem hlt)
        have NB := Lib.hid (show ∀ g, (Value.slice (some a) G.length c).ownBlock = some g → g ≠ w1.heap.size from fun g hg => by have := own_base hO.out g hg; omega)
        have hszr := hB.out.size
        have hD2 := hD.out
        have hdr : shortS lb (G.drop k) = shortS lb (G[k] :: G.drop (k + 1)) := by rw [List.drop_eq_getElem_cons hlt]
        have HE1 := Lib.hid (hE.out.trans (by rw [hdr]))
        generalize G[k] = x at *
        clear hE hdr hS hn
        rcases x with _ | b
        · simp only [signByte, Option.isNone_none] at c0 c1
          have BX := Lib.hid (hB.out.alloc hszr (.cells #[.int .u8 0, .bool true] 65))
          have HX := Lib.hid (heap_alloc_new wr (.cells #[.int .u8 0, .bool true] 65))
          have OX := Lib.hid (hO.out.alloc (.cells #[.int .u8 0, .bool true] 65))
          have DX := Lib.hid (hD.out.keep ((Below.refl _ _).alloc (Nat.le_refl _) (.cells #[.int .u8 0, .bool true] 65)))
          have hbw : w1.heap.size < wr.heap.size := hD.out.lt
          have hba : w.heap.size ≤ (wr.alloc (.cells #[.int .u8 0, .bool true] 65)).heap.size := by simp; omega
          cases lb
          · have HE2 := Lib.hid (show shortS false G = (l ++ [42]) ++ shortS true (G.drop (k + 1)) by rw [HE1.out]; simp [shortS])
            have C := Lib.hid (bld_WriteByte w.heap.size w1.heap.size l 42 _ DX.out (by omega) hba)
            rw [show ((42 : UInt8).toNat : Int) = 42 from rfl] at C
            clear hO hB hD hD2 HE1 DX
            go_wp2_with fail
            refine (C.out).mono ?_
            rintro e w3 ⟨rfl, D3, b3, k3⟩
            obtain ⟨q0, q1⟩ := box_cell (box_others HX.out k3 (by decide) (by omega))
            have DD := Lib.hid D3
            have OO := Lib.hid (row_others OX.out k3 (by decide) NB.out)
            have BB := Lib.hid (BX.out.trans b3)
            clear D3 b3 k3 HX OX BX C
            go_wp2_with fail
            go_roundw
            case rel => exact ⟨k + 1, true, _, by omega, by go_num, rfl, by simp; omega, HE2, DD, OO, BB⟩
            case measure => simp [intOf]; omega
          · have HE2 := Lib.hid (show shortS false G = l ++ shortS true (G.drop (k + 1)) by rw [HE1.out]; simp [shortS])
            obtain ⟨q0, q1⟩ := box_cell HX.out
            clear hO hB hD hD2 HE1 HX
            go_wp2_with fail
            go_roundw
            case rel => exact ⟨k + 1, true, l, by omega, by go_num, rfl, by omega, HE2, DX, OX, BX⟩
            case measure => simp [intOf]; omega
        · simp only [signByte, Option.isNone_some] at c0 c1
          have BX := Lib.hid (hB.out.alloc hszr (.cells #[.int .u8 b.toNat, .bool false] 65))
          have HX := Lib.hid (heap_alloc_new wr (.cells #[.int .u8 b.toNat, .bool false] 65))
          have OX := Lib.hid (hO.out.alloc (.cells #[.int .u8 b.toNat, .bool false] 65))
          have DX := Lib.hid (hD.out.keep ((Below.refl _ _).alloc (Nat.le_refl _) (.cells #[.int .u8 b.toNat, .bool false] 65)))
          have hbw : w1.heap.size < wr.heap.size := hD.out.lt
          have hba : w.heap.size ≤ (wr.alloc (.cells #[.int .u8 b.toNat, .bool false] 65)).heap.size := by simp; omega
          by_cases h42 : b = 42
          · subst h42
            rw [show ((42 : UInt8).toNat : Int) = 42 from rfl] at c0 BX HX OX DX hba
            have HE2 := Lib.hid (show shortS false G = (l ++ [92, 42]) ++ shortS false (G.drop (k + 1)) by rw [HE1.out]; simp [shortS])
            have C := Lib.hid (bld_WriteString w.heap.size w1.heap.size l ⟨#[92, 42]⟩ _ DX.out (by omega) (by decide) hba)
            clear hO hB hD hD2 HE1 DX
            go_wp2_with fail
            refine (C.out).mono ?_
            rintro e w3 ⟨rfl, D3, b3, k3⟩
            obtain ⟨q0, q1⟩ := box_cell (box_others HX.out k3 (by decide) (by omega))
            have DD := Lib.hid D3
            have OO := Lib.hid (row_others OX.out k3 (by decide) NB.out)
            have BB := Lib.hid (BX.out.trans b3)
            clear D3 b3 k3 HX OX BX C
            go_wp2_with fail
            go_roundw
            case rel => exact ⟨k + 1, false, _, by omega, by go_num, rfl, by simp; omega, HE2, DD, OO, BB⟩
            case measure => simp [intOf]; omega
          · have hn : ((b.toNat : Int) == 42) = false := beq_eq_false_iff_ne.2 (fun q => h42 (UInt8.toNat_inj.1 (by have : (42 : UInt8).toNat = 42 := rfl; omega)))
            have HE2 := Lib.hid (show shortS false G = (l ++ [b]) ++ shortS false (G.drop (k + 1)) by rw [HE1.out]; simp [shortS, h42])
            have C := Lib.hid (bld_WriteByte w.heap.size w1.heap.size l b _ DX.out (by omega) hba)
            clear hO hB hD hD2 HE1 DX h42
            go_wp2_with fail
            refine (C.out).mono ?_
            rintro e w3 ⟨rfl, D3, b3, k3⟩
            obtain ⟨q0, q1⟩ := box_cell (box_others HX.out k3 (by decide) (by omega))
            have DD := Lib.hid D3
            have OO := Lib.hid (row_others OX.out k3 (by decide) NB.out)
            have BB := Lib.hid (BX.out.trans b3)
            clear D3 b3 k3 HX OX BX C
            go_wp2_with fail
            go_roundw
            case rel => exact ⟨k + 1, false, _, by omega, by go_num, rfl, by simp; omega, HE2, DD, OO, BB⟩
            case measure => simp [intOf]; omega
      · have HE1 := Lib.hid (show shortS false G = l by rw [hE.out, List.drop_of_length_le (by omega)]; cases lb <;> simp [shortS])
        have hszr := hB.out.size
        have C := Lib.hid (bld_String w.heap.size w1.heap.size l wr hD.out hszr)
        have BW := Lib.hid hB.out
        clear hE hD hO hB
        go_wp2_with fail
        refine (C.out).mono ?_
        rintro e w3 ⟨rfl, -, b3, -⟩
        have BB := Lib.hid (BW.out.trans b3)
        clear b3
        go_wp2_with fail
        go_ret2
        exact ⟨by rw [hV.out, HE1.out, H0.out]; rfl, BB.out⟩
  · have H0 := Lib.hid (errV_ne h0)
    have hV := Lib.hid (show shortV s = ⟨#[]⟩ by unfold shortV; rw [if_neg h0])
    rw [errV_ne h0] at P1
    clear h0
    go_enter Tryd.func10, Tryd.ntmps10
    go_wp2_with fail
    refine (P1.out _).mono ?_
    rintro e w1 ⟨rfl, b1⟩
    go_wp2_with fail
    go_ret2
    exact ⟨by rw [hV.out, H0.out]; rfl, b1⟩
end Go.Proofs.YtfbgaefbalbohaaDoor
