/-
  The reference's RecOf: the fields by their ranks.
-/
import Derived.Test.YtfbgaefbalbohaaDoorRdSls
import Derived.Test.YtfbgaefbalbohaaDoorRecLaw
import Derived.Test.YtfbgaefbalbohaaDoorRefVal
import Derived.Test.YtfbgaefbalbohaaDoorNameRef
import Derived.Test.YtfbgaefbalbohaaDoorSetOf
import Derived.Laws.OwnMore
namespace Go.Wk
theorem recChk_step {N : List ByteArray} {x : Fld} {r : List Fld} : recChk N (x :: r) = or2 (nameFault x.1) (or2 (if hadB N x.1 then 6 else 0) (or2 (valFault x.2) (recChk (N ++ [x.1]) r))) := rfl
/-- What is checked behind the first k. -/
theorem chk_at {N : List ByteArray} {L : List (List Nd)} (hl : N.length = L.length) {k : Nat} (h : k < N.length) :
    recChk (N.take k) ((N.zip L).drop k) = or2 (nameFault N[k]) (or2 (if hadB (N.take k) N[k] then 6 else 0) (or2 (valFault (L[k]'(by omega))) (recChk (N.take (k + 1)) ((N.zip L).drop (k + 1))))) := by
  have hz : k < (N.zip L).length := by simp; omega
  rw [List.drop_eq_getElem_cons hz, recChk_step, List.getElem_zip, List.take_append_getElem h]
theorem hadB_step {N : List ByteArray} {j : Nat} (h : j < N.length) (s : ByteArray) : hadB (N.take (j + 1)) s = (hadB (N.take j) s || decide (cmpB N[j] s = 0)) := by
  unfold hadB; rw [← List.take_append_getElem h, List.any_append]; simp
theorem zip_flat {N : List ByteArray} {L : List (List Nd)} (hl : N.length = L.length) {k : Nat} (h : k < N.length) :
    (flatR ((N.zip L).take (k + 1))).length = (flatR ((N.zip L).take k)).length + (1 + (L[k]'(by omega)).length) := by
  have hz : k < (N.zip L).length := by simp; omega
  rw [flatR_step _ _ hz, List.length_append, List.getElem_zip]; simp; omega
theorem flatR_filter_le (Z : List Fld) (p : Fld → Bool) : (flatR (Z.filter p)).length ≤ (flatR Z).length := by
  induction Z with
  | nil => simp
  | cons x r ih =>
    simp only [List.filter_cons, flatR, List.length_cons, List.length_append]
    split
    · simp only [flatR, List.length_cons, List.length_append]; omega
    · omega
theorem flatR_ge (Z : List Fld) : Z.length ≤ (flatR Z).length := by
  induction Z with
  | nil => simp
  | cons x r ih => simp only [flatR, List.length_cons, List.length_append]; omega
theorem filter_take (Z : List Fld) (p : Fld → Bool) {i : Nat} (h : i < Z.length) : (Z.take (i + 1)).filter p = (Z.take i).filter p ++ if p Z[i] = true then [Z[i]] else [] := by
  rw [← List.take_append_getElem h, List.filter_append, List.filter_cons]; simp
end Go.Wk
namespace Go.Proofs.YtfbgaefbalbohaaDoor
open Go.RowKit Go.Wk Go.Sort
set_option maxRecDepth 100000

def RRecPost (w : World) (N : List ByteArray) (L : List (List Nd)) (e : Ending) (w' : World) : Prop :=
  ∃ (A : Option Addr) (n c : Nat), e = .returned (.tuple #[.slice A n c, .int .i64 (recE N L)]) ∧ Ns w' A n c (recV N L) ∧ Below w.heap.size w w'
theorem rrec_err {w w' : World} {N : List ByteArray} {L : List (List Nd)} {x : Int} (h : recE N L = x) (h0 : x ≠ 0) (hb : Below w.heap.size w w') : RRecPost w N L (.returned (.tuple #[.slice none 0 0, .int .i64 x])) w' :=
  ⟨none, 0, 0, by rw [h], by rw [recV_err (by rw [h]; exact h0)]; exact ns_nil _, hb⟩
theorem TxAt.at {w : World} {A : Option Addr} {N : List ByteArray} (h : TxAt w A N) {k : Nat} (hk : k < N.length) : ∃ a, A = some a ∧ w.cell? (a.add k) = some (.string N[k]) := h k N[k] (List.getElem?_eq_getElem hk)

theorem flatR_ok {Z : List Fld} (h : ∀ y ∈ Z, y.1.size ≤ maxLen ∧ NdsOk y.2) : NdsOk (flatR Z) := by
  induction Z with
  | nil => intro x hx; cases hx
  | cons y r ih =>
    intro x hx
    simp only [flatR] at hx
    rcases List.mem_cons.1 hx with rfl | hx
    · exact ⟨(h y (by simp)).1, Nat.zero_le _, by show _ ≤ (0 : Int); omega, by show (0 : Int) ≤ _; omega⟩
    · rcases List.mem_append.1 hx with hx | hx
      · exact (h y (by simp)).2 x hx
      · exact ih (fun z hz => h z (by simp [hz])) x hx
theorem texts_all {a b : ByteArray} (ha : a.size ≤ maxLen) (hb : b.size ≤ maxLen) (w : World) : ∀ w', Below w.heap.size w w' → Calls Tryd.prog 47 #[.string a, .string b] w' fun e w'' => e = .returned (.int .i64 (cmpB a b)) ∧ Below w'.heap.size w' w'' :=
  fun w' _ => ref_Texts a b w' ha hb
set_option maxHeartbeats 1600000 in
/-- Where something is wrong with a name or a value. -/
theorem ref_RecOf (A : Option Addr) (n c : Nat) (N : List ByteArray) (A' : Option Addr) (m c' : Nat) (V : List Sl) (w : World) (hn : n = N.length) (hn2 : n ≤ 5864062014634 * 2) (hT : TxAt w A N) (hz : ∀ x ∈ N, x.size ≤ maxLen) (hm : m = V.length) (hm2 : m ≤ 5864062014634) (hV : SlsAt w A' V) :
    Calls Tryd.prog 17 #[.slice A n c, .slice A' m c'] w (RRecPost w N (V.map Sl.P)) := by
  obtain ⟨i0, hi, hz0, hz1, hz2⟩ := info_parts ndInfo
  have HT := Lib.hid hT
  have HV := Lib.hid hV
  have HN := Lib.hid hn
  have HM := Lib.hid hm
  have HZ := Lib.hid hz
  clear hT hV hz
  by_cases hnm : n = m
  · subst hnm
    have HL := Lib.hid (show N.length = (V.map Sl.P).length by rw [List.length_map, ← hn, ← hm])
    have HR := Lib.hid (show recE N (V.map Sl.P) = or2 (recChk [] (N.zip (V.map Sl.P))) (if 200 < (flatR (N.zip (V.map Sl.P))).length + 1 then 4 else 0) by unfold recE; rw [if_pos HL.out])
    have HLV := Lib.hid (show ∀ k, (h : k < V.length) → ∀ h', (V.map Sl.P)[k]'h' = V[k].P from fun k h h' => by simp)
    generalize V.map Sl.P = L at *
    clear hn hm
    go_enter Tryd.func17, Tryd.ntmps17
    go_wp2_with fail
    go_loopw [6, 7, 8, 9] (fun z i _ _ wr => ∃ (k : Nat) (s : Int), k ≤ n ∧ i = .int .i64 k ∧ z = .int .i64 s ∧ 0 ≤ s ∧ s ≤ 500 ∧ Hid (s ≤ 200 → s = ((flatR ((N.zip L).take k)).length : Int) + 1) ∧ Hid (200 < s → 200 < (flatR (N.zip L)).length + 1) ∧ Hid (recChk [] (N.zip L) = recChk (N.take k) ((N.zip L).drop k)) ∧ Hid (∀ j, (h : j < V.length) → j < k → valFault V[j].P = 0) ∧ Hid (Below w.heap.size w wr)) (fun _ i _ _ _ => n - (intOf i).toNat)
    case atStart => exact ⟨0, 1, Nat.zero_le _, rfl, rfl, by omega, by omega, Lib.hid (fun _ => by simp [flatR]), Lib.hid (fun h => by omega), Lib.hid (by simp), Lib.hid (fun j _ h => by omega), Below.refl _ _⟩
    case round =>
      obtain ⟨k, s, hk, rfl, rfl, hs0, hs1, hS, hF, hC, hO, hB⟩ := hrel
      by_cases hlt : k < n
      · have hk1 : k < N.length := by rw [← HN.out]; exact hlt
        have hk2 : k < V.length := by rw [← HM.out]; exact hlt
        obtain ⟨a, rfl, c0⟩ := (HT.out.keep hB.out).at hk1
        obtain ⟨b, rfl, c1, hs⟩ := (HV.out.keep hB.out).at hk2
        have HC := Lib.hid (hC.out.trans (chk_at HL.out hk1))
        have hkl : k < L.length := by rw [← HL.out]; exact hk1
        have eL : L[k] = V[k].P := HLV.out k hk2 hkl
        have HFL := Lib.hid (zip_flat HL.out hk1)
        rw [eL] at HC HFL
        have zz := HZ.out _ (List.getElem_mem hk1)
        have C1 := Lib.hid (ref_NameFault N[k] wr zz)
        have N1 := Lib.hid hs
        clear hC eL hs
        by_cases h1 : nameFault N[k] = 0
        · rw [h1, or2_zero] at HC
          rw [h1] at C1
          clear h1
          go_wp2_with fail
          refine (C1.out).mono ?_
          rintro e w1 ⟨rfl, rfl⟩
          go_wp2_with fail
          go_loopw [9] (fun j wj => ∃ q : Nat, q ≤ k ∧ j = .int .i64 q ∧ Hid (hadB (N.take q) N[k] = false) ∧ Hid (Below wr.heap.size wr wj)) (fun j _ => k - (intOf j).toNat)
          case atStart => exact ⟨0, Nat.zero_le _, rfl, Lib.hid rfl, Below.refl _ _⟩
          case round =>
            obtain ⟨q, hq, rfl, hH, hJ⟩ := hrel
            by_cases hlq : q < k
            · have hq1 : q < N.length := by omega
              have d0 := cell_keep hJ.out c0
              obtain ⟨a2, ha2, d1⟩ := (HT.out.keep (bhid hB hJ (Nat.le_refl _)).out).at hq1
              injection ha2 with ha2
              subst ha2
              have k0 := cell_regrown d0
              have k1 := cell_regrown d1
              have HS := Lib.hid (hadB_step hq1 N[k])
              have BJ := bhid hB hJ (Nat.le_refl _)
              go_wp2_with fail
              refine wp_region_quiet_below (by kernel_rfl) (by kernel_rfl) ?_
              repeat (first | go_big_quiet_step (fail) | quiet_step (fail))
              refine wpQuiet_nil ?_
              intro w2 hw'
              have B2 := Lib.hid (show Below wr.heap.size wr w2 by obtain ⟨⟨d, os⟩, rfl⟩ := hw'; exact below_regrown _ _ _)
              clear hw'
              have B3 := bhid hJ B2 (Nat.le_refl _)
              have BJ3 := bhid BJ B2 (by have := BJ.out.size; omega)
              clear hJ B2 k0 k1 d0 d1 BJ
              by_cases he : N[q] = N[k]
              · have HE := Lib.hid (show recE N L = 6 by
                  have hh : hadB (N.take k) N[k] = true := hadB_iff.2 (by
                    rw [← he]
                    exact List.getElem_mem (l := N.take k) (n := q) (by simp; omega) |> fun h => by simpa using h)
                  have e := HC.out
                  rw [hh, if_pos rfl] at e
                  rw [HR.out, e]; rfl)
                have e1 : (N[q].toList == N[k].toList) = true := by rw [he]; exact beq_self_eq_true _
                rw [e1]
                clear he HS HC hH e1
                go_wp2
                go_ret2
                exact rrec_err HE.out (by decide) BJ3.out
              · have H2 := Lib.hid (show hadB (N.take (q + 1)) N[k] = false by
                  rw [HS.out, hH.out, Bool.false_or, decide_eq_false_iff_not]
                  exact fun z => he ((cmpB_cmp.zero _ _).1 z))
                have e1 : (N[q].toList == N[k].toList) = false := beq_eq_false_iff_ne.2 (fun z => he (toList_inj z))
                rw [e1]
                clear he HS hH e1
                go_wp2
                go_roundw
                case rel => exact ⟨q + 1, by omega, by go_num, H2, B3⟩
                case measure => simp [intOf]; omega
            · have HH := Lib.hid (show hadB (N.take k) N[k] = false by have := hH.out; rwa [show q = k by omega] at this)
              have HC2 := Lib.hid (HC.out.trans (by rw [HH.out, if_neg (by simp), or2_zero] : _ = or2 (valFault V[k].P) (recChk (N.take (k + 1)) ((N.zip L).drop (k + 1)))))
              have BJ := bhid hB hJ (Nat.le_refl _)
              have d1 := cell_keep hJ.out c1
              have N2 := Lib.hid (N1.out.keep hJ.out)
              have C2 := Lib.hid (ref_ValueFault _ _ _ _ _ N2.out)
              clear HC hH HH hJ hB c0 c1 N1 C1
              by_cases h2 : valFault V[k].P = 0
              · rw [h2, or2_zero] at HC2
                rw [h2] at C2
                have O2 := Lib.hid (show ∀ j, (h : j < V.length) → j < k + 1 → valFault V[j].P = 0 from fun j h hj => by
                  rcases Nat.lt_or_ge j k with h3 | h3
                  · exact hO.out j h h3
                  · have : j = k := by omega
                    subst this; exact h2)
                have hP2 := (isV_zero.1 h2).1
                have HNL := Lib.hid N2.out.len
                have hvn : V[k].n ≤ 200 := by rw [N2.out.len]; exact hP2
                have HP2 := Lib.hid hP2
                clear hP2
                clear h2
                go_wp2_with fail
                refine (C2.out).mono ?_
                rintro e w3 ⟨rfl, b3⟩
                have d2 := cell_keep b3 d1
                have B3 := bh BJ b3
                clear b3 BJ d1 C2 N2
                by_cases h200 : s ≤ 200
                · have HS2 := Lib.hid (show s + (1 + (V[k].n : Int)) = ((flatR ((N.zip L).take (k + 1))).length : Int) + 1 by
                    have h1 := hS.out h200
                    have h2 := HFL.out
                    have h3 := HNL.out
                    omega)
                  have HF2 := Lib.hid (show 200 < s + (1 + (V[k].n : Int)) → 200 < (flatR (N.zip L)).length + 1 from fun h => by
                    have h1 := HS2.out
                    have h2 := flatR_take_le (N.zip L) (k + 1)
                    omega)
                  go_wp2_with fail
                  go_roundw
                  case rel => exact ⟨k + 1, s + (1 + (V[k].n : Int)), by omega, by go_num, rfl, by omega, by omega, Lib.hid (fun _ => HS2.out), HF2, HC2, O2, B3⟩
                  case measure => simp [intOf]; omega
                · go_wp2_with fail
                  go_roundw
                  case rel => exact ⟨k + 1, s, by omega, by go_num, rfl, by omega, by omega, Lib.hid (fun h => by omega), hF, HC2, O2, B3⟩
                  case measure => simp [intOf]; omega
              · have HE := Lib.hid (show recE N L = valFault V[k].P by
                  have e := HC2.out.trans (or2_ne h2 _)
                  rw [HR.out, e, or2_ne h2])
                have H2 := Lib.hid h2
                have e2 : (valFault V[k].P != 0) = true := by rw [bne_iff_ne]; exact h2
                clear h2 HC2
                go_wp2_with fail
                refine (C2.out).mono ?_
                rintro e w3 ⟨rfl, b3⟩
                have B3 := bh BJ b3
                clear b3
                go_wp2_with fail
                go_ret2
                exact rrec_err HE.out H2.out B3.out
        · have HE := Lib.hid (show recE N L = nameFault N[k] by
            have e := HC.out.trans (or2_ne h1 _)
            rw [HR.out, e, or2_ne h1])
          have H1 := Lib.hid h1
          have e1 : (nameFault N[k] != 0) = true := by rw [bne_iff_ne]; exact h1
          clear h1 HC
          go_wp2_with fail
          refine (C1.out).mono ?_
          rintro e w1 ⟨rfl, rfl⟩
          go_wp2_with fail
          go_ret2
          exact rrec_err HE.out H1.out hB.out
      · have hkn : k = n := by omega
        have HC0 := Lib.hid (show recChk [] (N.zip L) = 0 by
          rw [hC.out, List.drop_of_length_le (by rw [List.length_zip, ← HL.out, ← HN.out]; omega)]; rfl)
        have HS0 := Lib.hid (show s ≤ 200 → s = ((flatR (N.zip L)).length : Int) + 1 from fun h => by
          have := hS.out h
          rwa [List.take_of_length_le (by rw [List.length_zip, ← HL.out, ← HN.out]; omega)] at this)
        clear hC hS hkn
        by_cases h200 : s ≤ 200
        · have HE := Lib.hid (show recE N L = 0 by
            rw [HR.out, HC0.out, or2_zero, if_neg (by have := HS0.out h200; omega)])
          have HV0 := Lib.hid (recV_eq HE.out)
          have hfl : (flatR (N.zip L)).length ≤ 199 := by have := HS0.out h200; omega
          obtain ⟨-, hnd, -⟩ := recChk_zero.1 HC0.out
          have HPK := Lib.hid (fun r hr => pickR hnd r hr)
          have hlz : (N.zip L).length = n := by rw [List.length_zip, ← HL.out, ← HN.out]; omega
          have hls : (sortR (N.zip L)).length = n := by rw [(perm_sortR _).length_eq, hlz]
          have HFS := Lib.hid (show ∀ r, (flatR ((sortR (N.zip L)).take r)).length ≤ 199 from fun r => Nat.le_trans (flatR_take_le _ r) (by rw [flatR_perm (perm_sortR _)]; exact hfl))
          have HFF := Lib.hid (show ∀ r i, (flatR (((N.zip L).take i).filter fun x => decide (aheadR (N.zip L) x.1 = r))).length ≤ 199 from fun r i => Nat.le_trans (flatR_filter_le _ _) (Nat.le_trans (flatR_take_le _ i) hfl))
          have hn200 : n ≤ 200 := by have := flatR_ge (N.zip L); omega
          have HZ1 := Lib.hid (show ∀ i, (h : i < N.length) → ∃ h', (N.zip L)[i]'h' = (N[i], V[i]'(by rw [← HM.out, HN.out]; exact h) |>.P) from fun i h => by
            have h2 : i < L.length := by rw [← HL.out]; exact h
            refine ⟨by rw [List.length_zip]; omega, ?_⟩
            rw [List.getElem_zip, HLV.out i (by rw [← HM.out, HN.out]; exact h) h2])
          have HOK := Lib.hid (show ∀ x ∈ N.zip L, NdsOk x.2 from fun x hx => by
            obtain ⟨i, hi, rfl⟩ := List.getElem_of_mem hx
            have hi1 : i < N.length := by rw [List.length_zip] at hi; omega
            obtain ⟨h', e⟩ := HZ1.out i hi1
            rw [e]
            obtain ⟨-, -, -, q⟩ := HV.out.at (k := i) (by rw [← HM.out, HN.out]; exact hi1)
            exact q.ok)
          generalize hZ : N.zip L = Z at *
          have HZZ := Lib.hid hZ
          generalize hSS : sortR Z = S at *
          have HSS := Lib.hid hSS
          have R0 := Lib.hid (row_one wr (recHead n))
          have HVF := Lib.hid (show ∀ j, (h : j < V.length) → valFault V[j].P = 0 from fun j h => hO.out j h (by have := HM.out; omega))
          clear hnd hfl hZ hSS HS0 hF hO HC0 HR
          obtain ⟨w0, rfl⟩ : ∃ w0 : World, w0 = wr := ⟨_, rfl⟩
          have B0 := hB
          clear hB
          go_wp2_with fail
          go_loopw [10, 11, 12, 13, 14] (fun o r _ _ _ wk => ∃ r' : Nat, r' ≤ n ∧ r = .int .i64 r' ∧ Hid (wk.ownsRow w0.heap.size 45 4 o (recHead n :: flatR (S.take r')).length (ndCells (recHead n :: flatR (S.take r')))) ∧ Hid (Below w0.heap.size w0 wk)) (fun _ r _ _ _ _ => n - (intOf r).toNat)
          case atStart => exact ⟨0, Nat.zero_le _, rfl, R0, below_box _ _⟩
          case round =>
            obtain ⟨r, hr, rfl, hR, hB⟩ := hrel
            by_cases hlr : r < n
            · go_wp2_with fail
              go_loopw [10, 12, 13, 14] (fun o i _ _ wk => ∃ i' : Nat, i' ≤ n ∧ i = .int .i64 i' ∧ Hid (wk.ownsRow w0.heap.size 45 4 o (recHead n :: (flatR (S.take r) ++ flatR ((Z.take i').filter fun x => decide (aheadR Z x.1 = r)))).length (ndCells (recHead n :: (flatR (S.take r) ++ flatR ((Z.take i').filter fun x => decide (aheadR Z x.1 = r)))))) ∧ Hid (Below w0.heap.size w0 wk)) (fun _ i _ _ _ => n - (intOf i).toNat)
              case atStart => exact ⟨0, Nat.zero_le _, rfl, Lib.hid (by simpa [flatR] using hR.out), hB⟩
              case round =>
                clear hR hB
                obtain ⟨i, hi', rfl, hR, hB⟩ := hrel
                obtain ⟨w4, rfl⟩ : ∃ w4 : World, w4 = wr := ⟨_, rfl⟩
                by_cases hli : i < n
                · have hi1 : i < N.length := by rw [← HN.out]; exact hli
                  have hi2 : i < V.length := by rw [← HM.out]; exact hli
                  obtain ⟨hiz, eiz⟩ := HZ1.out i hi1
                  have BW := bhid B0 hB (by have := B0.out.size; omega)
                  obtain ⟨a, rfl, c0⟩ := (HT.out.keep BW.out).at hi1
                  have zi := HZ.out _ (List.getElem_mem hi1)
                  have EIZ := Lib.hid eiz
                  clear eiz
                  go_wp2_with fail
                  go_loopw [13, 14] (fun ah j wk => ∃ j' : Nat, j' ≤ n ∧ j = .int .i64 j' ∧ ah = .int .i64 (aheadR (Z.take j') N[i]) ∧ Hid (Below w4.heap.size w4 wk)) (fun _ j _ => n - (intOf j).toNat)
                  case atStart => exact ⟨0, Nat.zero_le _, rfl, rfl, Below.refl _ _⟩
                  case round =>
                    obtain ⟨j, hj, rfl, rfl, hJ⟩ := hrel
                    have hah := aheadR_le (Z.take j) N[i]
                    have hah2 : (Z.take j).length ≤ 200 := by simp; omega
                    by_cases hlj : j < n
                    · have hj1 : j < N.length := by rw [← HN.out]; exact hlj
                      obtain ⟨hjz, ejz⟩ := HZ1.out j hj1
                      have HST := Lib.hid (show aheadR (Z.take (j + 1)) N[i] = aheadR (Z.take j) N[i] + if cmpB N[j] N[i] < 0 then 1 else 0 by rw [aheadR_step _ _ _ hjz, ejz])
                      have d0 := cell_keep hJ.out c0
                      obtain ⟨a2, ha2, d1⟩ := (HT.out.keep (bhid BW hJ (by have := BW.out.size; omega)).out).at hj1
                      injection ha2 with ha2
                      subst ha2
                      have zj := HZ.out _ (List.getElem_mem hj1)
                      have K := rq (w := wr) (texts_all zj zi wr)
                      have k0 := cell_regrown d0
                      have k1 := cell_regrown d1
                      clear ejz
                      go_wp2_with fail
                      refine wp_region_quiet_below (by kernel_rfl) (by kernel_rfl) ?_
                      repeat (first | go_big_quiet_step (exact K _ _) | quiet_step (exact K _ _))
                      refine wpQuiet_nil ?_
                      intro w5 hw'
                      have B5 := Lib.hid (show Below wr.heap.size wr w5 by obtain ⟨⟨d, os⟩, rfl⟩ := hw'; exact below_regrown _ _ _)
                      clear hw'
                      have BJ := bhid hJ B5 (by have := hJ.out.size; omega)
                      clear K k0 k1 d0 d1 hJ B5
                      by_cases hc : cmpB N[j] N[i] < 0
                      · rw [decide_eq_true hc]
                        have HA2 := Lib.hid (show ((aheadR (Z.take (j + 1)) N[i] : Nat) : Int) = (aheadR (Z.take j) N[i] : Nat) + 1 by rw [HST.out, if_pos hc]; omega)
                        clear hc HST
                        go_wp2_with fail
                        go_roundw
                        case rel => exact ⟨j + 1, by omega, by go_num, by rw [HA2.out], BJ⟩
                        case measure => simp [intOf]; omega
                      · rw [decide_eq_false hc]
                        have HA2 := Lib.hid (show ((aheadR (Z.take (j + 1)) N[i] : Nat) : Int) = (aheadR (Z.take j) N[i] : Nat) by rw [HST.out, if_neg hc]; omega)
                        clear hc HST
                        go_wp2_with fail
                        go_roundw
                        case rel => exact ⟨j + 1, by omega, by go_num, by rw [HA2.out], BJ⟩
                        case measure => simp [intOf]; omega
                    · have ez : Z.take j = Z := List.take_of_length_le (by omega)
                      rw [ez] at hah
                      rw [ez]
                      have RK := Lib.hid (hR.out.kept (grown_of_below hJ.out none) (by cases hv : u10.ownBlock <;> simp))
                      have BK := bhid hB hJ (by have := hB.out.size; omega)
                      have d0 := cell_keep hJ.out c0
                      have HFT := Lib.hid (filter_take Z (fun x => decide (aheadR Z x.1 = r)) hiz)
                      have BWJ := bhid BW hJ (by have := BW.out.size; omega)
                      have hl1 := HFS.out r
                      have hl2 := HFF.out r i
                      clear hJ hR hB BW c0 ez hah2
                      by_cases hq : aheadR Z N[i] = r
                      · have e1 : (((aheadR Z N[i] : Nat) : Int) == (r : Int)) = true := by rw [hq]; exact beq_self_eq_true _
                        obtain ⟨b, rfl, q, hs⟩ := (HV.out.keep BWJ.out).at hi2
                        have hv := HVF.out i hi2
                        obtain ⟨hv2, hV2⟩ := isV_zero.1 hv
                        obtain ⟨a2, ea, -⟩ := hs.at_.nd hV2.pos
                        rw [ea] at q
                        have EA := Lib.hid ea
                        have HCS := Lib.hid (show ∀ w', Below wr.heap.size wr w' → ∀ j u, (ndCells V[i].P)[j]? = some u → w'.cell? (a2.add j) = some u from fun w' hw => by
                          have := hs.at_.keep hw
                          rw [ea] at this
                          exact this.cells)
                        have HRN := Lib.hid hs.len
                        have hrn : V[i].n ≤ 200 := by rw [hs.len]; exact hv2
                        have HOLD := Lib.hid (show a2.block < w.heap.size by
                          obtain ⟨-, -, -, hs0⟩ := HV.out.at hi2
                          exact hs0.at_.lt hV2.pos a2 ea)
                        have HROW := Lib.hid (show recHead n :: (flatR (S.take r) ++ flatR ((Z.take (i + 1)).filter fun x => decide (aheadR Z x.1 = r))) = ((recHead n :: (flatR (S.take r) ++ flatR ((Z.take i).filter fun x => decide (aheadR Z x.1 = r)))) ++ [fieldN N[i]]) ++ V[i].P by
                          rw [HFT.out, EIZ.out, if_pos (by simp only [decide_eq_true_eq]; exact hq), flatR_append, flatR_one]
                          simp)
                        have hX0 : (recHead n :: (flatR (S.take r) ++ flatR ((Z.take i).filter fun x => decide (aheadR Z x.1 = r)))).length ≤ 400 := by simp; omega
                        generalize hX : recHead n :: (flatR (S.take r) ++ flatR ((Z.take i).filter fun x => decide (aheadR Z x.1 = r))) = X at RK HROW hX0
                        have hsz := BK.out.size
                        clear hX hs hv hv2 hV2 ea HFT
                        rw [show ((aheadR Z N[i] : Nat) : Int) = (r : Int) by rw [hq]]
                        clear e1 hq hah
                        go_wp2_with (at_builtin; refine wpList_append_own _ rfl _ _ 31 rfl w0.heap.size 45 i0 _ 4 48 Tryd.underlying31 hi hz0 hz1 hz2 rfl (by decide) _ X.length (ndCells X) rfl (RK.out.alloc _) ⟨_, 0, none⟩ 1 1 (ndCells [fieldN N[i]]) rfl rfl (cells_new _ _ _) (ndCells_one _) ?c1 ?c2 ?c3 ?_)
                        case c1 => unfold maxLen; omega
                        case c2 => omega
                        case c3 => simp; omega
                        intro v1 w6 hown hgrow _
                        have B6 := Lib.hid ((BK.out.alloc BK.out.size _).grown hgrow (by simp; omega) (fun g hg => by have := own_base RK.out g hg; omega))
                        have BW6 := bhid B0 B6 (by have := B0.out.size; omega)
                        have OW := Lib.hid (show w6.ownsRow w0.heap.size 45 4 v1 (X ++ [fieldN N[i]]).length (ndCells (X ++ [fieldN N[i]])) by
                          rw [List.length_append, ndCells_append]; exact hown)
                        have h16 : (X ++ [fieldN N[i]]).length ≤ 401 := by simp; omega
                        obtain ⟨b6, hb6, q6, hs6⟩ := (HV.out.keep BW6.out).at hi2
                        injection hb6 with hb6
                        subst hb6
                        rw [EA.out] at q6
                        have HC6 := Lib.hid (show ∀ j u, (ndCells V[i].P)[j]? = some u → w6.cell? (a2.add j) = some u from by
                          have := hs6.at_
                          rw [EA.out] at this
                          exact this.cells)
                        clear hown hgrow RK HCS hs6 EA q d0
                        generalize hX1 : X ++ [fieldN N[i]] = X1 at OW HROW h16
                        clear hX1
                        have hsz6 := B6.out.size
                        go_wp2_with (at_builtin; refine wpList_append_own _ rfl _ _ 31 rfl w0.heap.size 45 i0 _ 4 48 Tryd.underlying31 hi hz0 hz1 hz2 rfl (by decide) _ X1.length (ndCells X1) rfl OW.out a2 V[i].n V[i].c (ndCells V[i].P) rfl (by simp [ndCells_length, HRN.out]) HC6.out (ndCells_one _) ?c1 ?c2 ?c3 ?_)
                        case c1 => unfold maxLen; omega
                        case c2 => omega
                        case c3 => omega
                        intro v2 w7 hown2 hgrow2 _
                        have OW2 := Lib.hid (show w7.ownsRow w0.heap.size 45 4 v2 (X1 ++ V[i].P).length (ndCells (X1 ++ V[i].P)) by
                          rw [List.length_append, ndCells_append, ← HRN.out]; exact hown2)
                        have B7 := Lib.hid (B6.out.grown hgrow2 (by omega) (fun g hg => by have := own_base OW.out g hg; omega))
                        rw [← HROW.out] at OW2
                        clear hown2 hgrow2 OW B6 HROW
                        go_wp2_with fail
                        go_roundw
                        case rel => exact ⟨i + 1, by omega, by go_num, OW2, B7⟩
                        case measure => simp [intOf]; omega
                      · have e1 : (((aheadR Z N[i] : Nat) : Int) == (r : Int)) = false := beq_eq_false_iff_ne.2 (fun z => hq (by omega))
                        have RK2 := Lib.hid (show wr.ownsRow w0.heap.size 45 4 u10 (recHead n :: (flatR (S.take r) ++ flatR ((Z.take (i + 1)).filter fun x => decide (aheadR Z x.1 = r)))).length (ndCells (recHead n :: (flatR (S.take r) ++ flatR ((Z.take (i + 1)).filter fun x => decide (aheadR Z x.1 = r))))) by
                          rw [HFT.out, EIZ.out, if_neg (by simp only [decide_eq_true_eq]; exact hq), List.append_nil]
                          exact RK.out)
                        clear hq HFT RK
                        go_wp2_with fail
                        go_roundw
                        case rel => exact ⟨i + 1, by omega, by go_num, RK2, BK⟩
                        case measure => simp [intOf]; omega
                · have HPR := Lib.hid (show (Z.take i).filter (fun x => decide (aheadR Z x.1 = r)) = [S[r]'(by omega)] by
                    rw [List.take_of_length_le (by omega)]; exact HPK.out r (by omega))
                  have HT2 := Lib.hid (show recHead n :: (flatR (S.take r) ++ flatR ((Z.take i).filter fun x => decide (aheadR Z x.1 = r))) = recHead n :: flatR (S.take (r + 1)) by
                    rw [HPR.out, flatR_step S r (by omega), flatR_one])
                  have R2 := Lib.hid (by have := hR.out; rw [HT2.out] at this; exact this)
                  clear hR HPR HT2
                  go_wp2_with fail
                  go_roundw
                  case rel => exact ⟨r + 1, by omega, by go_num, R2, hB⟩
                  case measure => simp [intOf]; omega
            · obtain ⟨A5, c5, rfl, hc5, hA5, -⟩ := nds_of_own hR.out
              have HX := Lib.hid (show recHead n :: flatR (S.take r) = recV N L by
                rw [HV0.out, List.take_of_length_le (by omega), ← HN.out])
              have hlen : (recHead n :: flatR (S.take r)).length ≤ 200 := by have := HFS.out r; simp; omega
              have NN := Lib.hid (show Ns wr A5 (recHead n :: flatR (S.take r)).length c5 (recV N L) by
                rw [← HX.out]
                refine ⟨rfl, hc5, by unfold maxLen; omega, hA5, ?_⟩
                intro x hx
                rcases List.mem_cons.1 hx with rfl | hx
                · exact ⟨Nat.zero_le _, Nat.zero_le _, by show _ ≤ (n : Int); omega, by show (n : Int) ≤ _; omega⟩
                · refine flatR_ok (Z := S.take r) (fun y hy => ?_) x hx
                  have hy2 : y ∈ Z := by
                    have := List.mem_of_mem_take hy
                    rw [← HSS.out] at this
                    exact (perm_sortR Z).mem_iff.1 this
                  refine ⟨?_, HOK.out y hy2⟩
                  obtain ⟨t, ht, rfl⟩ := List.getElem_of_mem hy2
                  have ht1 : t < N.length := by rw [← HN.out]; omega
                  obtain ⟨h', e⟩ := HZ1.out t ht1
                  rw [e]
                  exact HZ.out _ (List.getElem_mem ht1))
              have B6 := bhid B0 hB (by have := B0.out.size; omega)
              clear hR hB hc5 hA5
              go_wp2_with fail
              go_ret2
              exact ⟨A5, _, c5, by rw [HE.out]; rfl, NN.out, B6.out⟩
        · have HE := Lib.hid (show recE N L = 4 by
            rw [HR.out, HC0.out, or2_zero, if_pos (hF.out (by omega))])
          clear HS0
          go_wp2_with fail
          go_ret2
          exact rrec_err HE.out (by decide) hB.out
  · have HE := Lib.hid (show recE N (V.map Sl.P) = 1 by unfold recE; rw [if_neg (by rw [List.length_map, ← hn, ← hm]; exact hnm)])
    have e0 : (n != m) = true := by rw [bne_iff_ne]; exact hnm
    clear hnm hn hm
    go_enter Tryd.func17, Tryd.ntmps17
    go_wp2_with fail
    go_ret2
    exact rrec_err HE.out (by decide) (Below.refl _ _)
end Go.Proofs.YtfbgaefbalbohaaDoor
