/-
  ValSame: the walk of the law.
-/
import Derived.Test.YtfbgaefbalbohaaSetOf
import Derived.Test.YtfbgaefbalbohaaValOrder
import Derived.Test.YtfbgaefbalbohaaRdSls
namespace Go.Proofs.Ytfbgaefbalbohaa
open Go.RowKit Go.Wk Go.Sort
set_option maxRecDepth 100000

theorem same_factE : Wk.setE [[numN 5], [numN 5]] = 0 := by decide +kernel
theorem same_factV : setV [[numN 5], [numN 5]] = [setHead 1, numN 5] := (cmpNds_cmp.zero _ _).1 (by decide +kernel)
/-- What is there of the values, whatever the order. -/
theorem same_other {L M : List (List Nd)} (h : Wk.setE L = 0) (hm : ∀ x, x ∈ M ↔ x ∈ L) : Wk.setE M = 0 ∧ setV M = setV L := by
  have hf := (setE_zero.1 h).1
  have hg : faults M = 0 := faults_zero.2 fun P hP => faults_zero.1 hf P ((hm P).1 hP)
  obtain ⟨a, b⟩ := setV_congr hm hg hf
  exact ⟨a.trans h, b⟩
theorem sls_two {w : World} {b : Nat} {r1 r2 : Sl} (c0 : w.cell? ⟨b, 0, none⟩ = some r1.v) (c1 : w.cell? ⟨b, 1, none⟩ = some r2.v) (h1 : Ns w r1.A r1.n r1.c r1.P) (h2 : Ns w r2.A r2.n r2.c r2.P) : SlsAt w (some ⟨b, 0, none⟩) [r1, r2] := by
  intro k r hk
  match k, hk with
  | 0, hk => simp at hk; subst hk; exact ⟨_, rfl, c0, h1⟩
  | 1, hk => simp at hk; subst hk; exact ⟨_, rfl, by rw [show (⟨b, 0, none⟩ : Addr).add 1 = ⟨b, 1, none⟩ from rfl]; exact c1, h2⟩

theorem Ns.alike2 {w : World} {A B : Option Addr} {n m c d : Nat} {P : List Nd} (h : Ns w A n c P) (k : Ns w B m d P) :
    Calls Try.prog 8 #[.slice A n c, .slice B m d] w fun e w' => e = .returned (.bool true) ∧ Below w.heap.size w w' := by
  have := h.same k
  rwa [cmpNds_cmp.self, decide_eq_true rfl] at this
def anyP (L : List Sl) (Q : List Nd) : Bool := L.any fun r => decide (cmpNds r.P Q = 0)
theorem anyP_step {P8 : List Sl} {j : Nat} (h : j < P8.length) (Q : List Nd) : anyP (P8.take (j + 1)) Q = (anyP (P8.take j) Q || decide (cmpNds P8[j].P Q = 0)) := by
  unfold anyP; rw [← List.take_append_getElem h, List.any_append]; simp
theorem anyP_mem {L : List Sl} {Q : List Nd} (h : Q ∈ L.map Sl.P) : anyP L Q = true := by
  obtain ⟨r, h1, h2⟩ := List.mem_map.1 h
  exact List.any_eq_true.2 ⟨r, h1, by rw [h2, cmpNds_cmp.self]; rfl⟩
theorem insP_len' (p : List Nd) (l : List (List Nd)) : (insP p l).length ≤ l.length + 1 := by
  induction l with
  | nil => simp [insP]
  | cons q r ih =>
    simp only [insP]
    split
    · simp
    · split
      · simp
      · simp; omega
theorem setL_len' (l : List (List Nd)) : (setL l).length ≤ l.length := by
  induction l with
  | nil => simp [setL]
  | cons p r ih => have := insP_len' p (setL r); simp only [setL, List.length_cons]; omega
set_option maxHeartbeats 16000000 in
theorem ValSame_walk (A : Option Addr) (n c : Nat) (V : List Sl) (A' : Option Addr) (m c' : Nat) (I : List Int) (w : World) (hn : n = V.length) (hnm : n ≤ 2000000) (hV : SlsAt w A V) (hm : m = I.length) (hmm : m ≤ 2000000) (hI : IsAt w A' I) :
    Calls Try.prog 3 #[.slice A n c, .slice A' m c'] w fun e w' => e = .returned (.bool true) ∧ Below w.heap.size w w' := by
  obtain ⟨i0, hi, hz0, hz1, hz2⟩ := info_parts slInfo
  have HV := Lib.hid hV
  have HI := Lib.hid hI
  have HN := Lib.hid hn
  have HM := Lib.hid hm
  have C2 := Lib.hid (fun w' hb => val_SetOf A n c V w' hn (by omega) (hV.keep (w' := w') hb))
  clear hV hI hn hm
  go_enter Try.func3, Try.ntmps3
  go_wp2_with fail
  refine (law_num1 5 w (by omega) (by omega)).mono ?_
  rintro e w1 ⟨rfl, b1, N1⟩
  have B1 := Lib.hid b1
  have H1 := Lib.hid N1
  clear b1 N1
  go_wp2_with fail
  refine (law_num1 5 w1 (by omega) (by omega)).mono ?_
  rintro e w2 ⟨rfl, b2, N2⟩
  have B2 := bh B1 b2
  have hs12 := b2.size
  replace H1 := Lib.hid (H1.out.keep b2)
  have H2 := Lib.hid N2
  have hl1 := H1.out.at_.lt (by simp) _ rfl
  have hl2 := H2.out.at_.lt (by simp) _ rfl
  clear b2 N2 B1
  have F := Lib.hid (val_SetOf (some ⟨w2.heap.size, 0, none⟩) 2 2 [⟨some ⟨w.heap.size, 0, none⟩, 1, 1, [numN 5]⟩, ⟨some ⟨w1.heap.size, 0, none⟩, 1, 1, [numN 5]⟩] (w2.alloc (.cells #[.slice (some ⟨w.heap.size, 0, none⟩) 1 1, .slice (some ⟨w1.heap.size, 0, none⟩) 1 1] 24)) rfl (by omega)
    (sls_two (by simp [Sl.v]) (by simp [Sl.v]) (H1.out.keep (below_box _ _)) (H2.out.keep (below_box _ _))))
  have E0 : ([⟨some ⟨w.heap.size, 0, none⟩, 1, 1, [numN 5]⟩, ⟨some ⟨w1.heap.size, 0, none⟩, 1, 1, [numN 5]⟩] : List Sl).map Sl.P = [[numN 5], [numN 5]] := rfl
  rw [E0] at F
  unfold SetPost at F
  rw [same_factE, same_factV, errV_zero] at F
  clear E0
  have B2a := Lib.hid (B2.out.alloc B2.out.size (.cells #[.slice (some ⟨w.heap.size, 0, none⟩) 1 1, .slice (some ⟨w1.heap.size, 0, none⟩) 1 1] 24))
  go_wp2_with fail
  refine (F.out).mono ?_
  rintro e w3 ⟨A3, n3, c3, rfl, N3, b3⟩
  have B3 := bh B2a b3
  obtain ⟨a3, rfl, D3⟩ := N3.at_.nd (k := 0) (by simp)
  have hn3 : n3 = 2 := N3.len
  subst hn3
  have d1 : w3.cell? ⟨a3.block, a3.off + 1, none⟩ = some (.int .i64 1) := D3.c1
  clear b3 B2 B2a F H1 H2 N3 D3 hl1 hl2 hs12
  have C2' := Lib.hid (C2.out _ B3.out)
  unfold SetPost at C2'
  by_cases hE : Wk.setE (V.map Sl.P) = 0
  · have HE := Lib.hid hE
    rw [hE, errV_zero] at C2'
    clear hE C2
    go_wp2_with fail
    refine (C2'.out).mono ?_
    rintro e w4 ⟨A4, n4, c4, rfl, N4, b4⟩
    have B4 := bh B3 b4
    have H4 := Lib.hid N4
    clear b4 B3 N4 d1 C2'
    go_wp2_with fail
    go_loopw [9, 10] (fun v i wr => ∃ (k : Nat) (U : List Sl), k ≤ m ∧ i = .int .i64 k ∧ U.length ≤ k ∧ Hid (∀ r ∈ U, r ∈ V) ∧ Hid (OwnSls wr w4.heap.size v U) ∧ Hid (Below w4.heap.size w4 wr)) (fun _ i _ => m - (intOf i).toNat)
    case atStart => exact ⟨0, [], Nat.zero_le _, rfl, Nat.le_refl _, Lib.hid (by intro r hr; cases hr), OwnSls.nil _ _, Below.refl _ _⟩
    case round =>
      obtain ⟨k, U, hk, rfl, hU, hS, hO, hB⟩ := hrel
      have BB := bhid B4 hB (by have := B4.out.size; omega)
      by_cases hlt : k < m
      · have hk1 : k < I.length := by rw [← HM.out]; exact hlt
        obtain ⟨a, rfl, q⟩ := (HI.out.keep BB.out) k I[k] (List.getElem?_eq_getElem hk1)
        by_cases h0 : 0 ≤ I[k]
        · obtain ⟨j, hj⟩ := Int.eq_ofNat_of_zero_le h0
          rw [hj] at q
          clear h0 hj
          by_cases hjn : j < n
          · have hj1 : j < V.length := by rw [← HN.out]; exact hjn
            obtain ⟨b, rfl, q2, -⟩ := (HV.out.keep BB.out).at hj1
            obtain ⟨-, -, -, hs0⟩ := HV.out.at hj1
            have HS0 := Lib.hid hs0
            have HR := Lib.hid (List.getElem_mem hj1)
            generalize V[j] = r at *
            clear hs0
            have A1 := Lib.hid (show Apart r u9.ownBlock by
              intro h0 a' ea q'
              have := own_base hO.out.own a'.block q'
              have := HS0.out.at_.lt h0 a' ea
              have := B4.out.size
              omega)
            have N1 := Lib.hid (HS0.out.keep BB.out)
            have hsz1 := hB.out.size
            go_wp2_with (at_builtin; refine wpList_append_own_at _ rfl _ _ 22 rfl w4.heap.size 24 i0 _ 1 24 Try.underlying22 hi hz0 hz1 hz2 rfl (by decide) _ U.length (U.map Sl.v) rfl (hO.out.own.alloc _) ⟨_, 0, none⟩ 1 1 [.slice r.A r.n r.c] rfl rfl (cell_one_new _ _ _) (by intro u hu; simp only [List.mem_cons, List.not_mem_nil, or_false] at hu; subst hu; rfl) ?c1 ?c2 ?c3 ?_)
            case c1 => unfold maxLen; omega
            case c2 => omega
            case c3 => simp; omega
            intro v1 w5 hown hgrow _ hat
            have B5 := Lib.hid ((hB.out.alloc hB.out.size _).grown hgrow (by simp; omega) (fun g hg => by have := own_base hO.out.own g hg; omega))
            have O5 := Lib.hid (hO.out.snoc (r := r) N1.out A1.out hown hgrow (by simpa using hat))
            have S5 := Lib.hid (show ∀ x ∈ U ++ [r], x ∈ V from fun x hx => by
              rcases List.mem_append.1 hx with h | h
              · exact hS.out x h
              · simp only [List.mem_cons, List.not_mem_nil, or_false] at h
                subst h; exact HR.out)
            have hl2 : (U ++ [r]).length ≤ k + 1 := by simp; omega
            clear hown hgrow hat hO hS N1 A1 hB BB q q2
            go_wp2_with fail
            go_roundw
            case rel => exact ⟨k + 1, U ++ [r], by omega, by go_num, hl2, S5, O5, B5⟩
            case measure => simp [intOf]; omega
          · go_wp2_with fail
            go_roundw
            case rel => exact ⟨k + 1, U, by omega, by go_num, by omega, hS, hO, hB⟩
            case measure => simp [intOf]; omega
        · generalize I[k] = z at *
          go_wp2_with fail
          go_roundw
          case rel => exact ⟨k + 1, U, by omega, by go_num, by omega, hS, hO, hB⟩
          case measure => simp [intOf]; omega
      · clear BB
        go_wp2_with fail
        go_loopw [9, 11] (fun v i wr => ∃ (j : Nat) (U : List Sl), j ≤ n ∧ i = .int .i64 ((j : Int) - 1) ∧ U.length ≤ m + (n - j) ∧ Hid (∀ r ∈ U, r ∈ V) ∧ Hid (∀ t, (h : t < V.length) → j ≤ t → V[t] ∈ U) ∧ Hid (OwnSls wr w4.heap.size v U) ∧ Hid (Below w4.heap.size w4 wr)) (fun _ i _ => (intOf i + 1).toNat)
        case atStart => exact ⟨n, U, Nat.le_refl _, rfl, by omega, hS, Lib.hid (fun t h h2 => by have := HN.out; omega), hO, hB⟩
        case round =>
          clear hS hO hB hU hk hlt
          obtain ⟨j, U, hj, rfl, hU, hS, hT, hO, hB⟩ := hrel
          have BB := bhid B4 hB (by have := B4.out.size; omega)
          rcases j with _ | j
          · rw [show (((0 : Nat) : Int) - 1) = -1 from rfl]
            have HU := Lib.hid (show ∀ x, x ∈ U.map Sl.P ↔ x ∈ V.map Sl.P from fun x => by
              rw [List.mem_map, List.mem_map]
              constructor
              · rintro ⟨r, h1, h2⟩; exact ⟨r, hS.out r h1, h2⟩
              · rintro ⟨r, h1, h2⟩
                obtain ⟨t, h3, rfl⟩ := List.getElem_of_mem h1
                exact ⟨_, hT.out t h3 (Nat.zero_le _), h2⟩)
            obtain ⟨E6, V6⟩ := same_other HE.out HU.out
            obtain ⟨A9, c9, rfl, -, hS9⟩ := hO.out.at
            have C6 := Lib.hid (val_SetOf A9 U.length c9 U wr rfl (by omega) hS9)
            unfold SetPost at C6
            rw [E6, V6, errV_zero] at C6
            replace H4 := Lib.hid (H4.out.keep hB.out)
            obtain ⟨W1, W2, W3⟩ := setV_isV HE.out
            have HP8 := Lib.hid (show prtE (setV (V.map Sl.P)) = 0 ∧ prtL (setV (V.map Sl.P)) = setL (V.map Sl.P) by
              have e : prtE (setV (V.map Sl.P)) = 0 := by unfold prtE; rw [if_pos W1, if_pos (.inl W2)]
              exact ⟨e, by unfold prtL; rw [if_pos e, if_pos W2, W3]⟩)
            have HP9 := Lib.hid (show Wk.setE (setL (V.map Sl.P)) = 0 ∧ setV (setL (V.map Sl.P)) = setV (V.map Sl.P) by
              obtain ⟨-, -, q1, q2⟩ := setV_parts W1 W2
              rw [W3] at q1 q2
              exact ⟨q1, q2⟩)
            have HF := Lib.hid W1
            have HMEM := Lib.hid (show ∀ k, (h : k < V.length) → V[k].P ∈ setL (V.map Sl.P) from fun k h => mem_setL.2 (List.mem_map_of_mem (List.getElem_mem h)))
            have hlen := Lib.hid (show (setL (V.map Sl.P)).length ≤ V.length by have := setL_len' (V.map Sl.P); rwa [List.length_map] at this)
            generalize setV (V.map Sl.P) = S at *
            generalize setL (V.map Sl.P) = L at *
            have B5 := BB
            clear hS hT hO hB hU BB hS9 E6 V6 W1 W2 W3 HU B4
            go_wp2_with fail
            refine (C6.out).mono ?_
            rintro e w6 ⟨A6, n6, c6, rfl, N6, b6⟩
            have B6 := bh B5 b6
            replace H4 := Lib.hid (H4.out.keep b6)
            clear b6 B5
            have H6 := Lib.hid N6
            clear N6 C6
            go_wp2_with fail
            refine (H6.out.alike2 H4.out).mono ?_
            rintro e w7 ⟨rfl, b7⟩
            have B7 := bh B6 b7
            replace H4 := Lib.hid (H4.out.keep b7)
            clear b7 B6
            clear H6
            have C8 := Lib.hid (val_Parts _ _ _ _ _ H4.out)
            unfold PartsPost at C8
            rw [HP8.out.1, HP8.out.2, errV_zero] at C8
            go_wp2_with fail
            refine (C8.out).mono ?_
            rintro e w8 ⟨v8, P8, rfl, O8, e8, -, b8⟩
            have B8 := bh B7 b8
            replace H4 := Lib.hid (H4.out.keep b8)
            clear b8 B7
            obtain ⟨A8, c8, rfl, -, S8⟩ := O8.at
            have HS8 := Lib.hid S8
            have E8 := Lib.hid e8
            have hl8 : P8.length ≤ 2000000 := by
              have h1 := congrArg List.length E8.out
              have h2 := hlen.out
              have h3 := HN.out
              simp only [List.length_map] at h1; omega
            have C9 := Lib.hid (val_SetOf A8 P8.length c8 P8 w8 rfl (by omega) S8)
            unfold SetPost at C9
            rw [E8.out, HP9.out.1, HP9.out.2, errV_zero] at C9
            clear O8 S8 e8 C8
            go_wp2_with fail
            refine (C9.out).mono ?_
            rintro e w9 ⟨A10, n10, c10, rfl, N10, b9⟩
            have B9 := bh B8 b9
            replace H4 := Lib.hid (H4.out.keep b9)
            replace HS8 := Lib.hid (HS8.out.keep b9)
            clear b9 B8
            have H9 := Lib.hid N10
            clear N10 C9
            go_wp2_with fail
            refine (H9.out.alike2 H4.out).mono ?_
            rintro e w10 ⟨rfl, b10⟩
            have B10 := bh B9 b10
            replace H4 := Lib.hid (H4.out.keep b10)
            replace HS8 := Lib.hid (HS8.out.keep b10)
            clear b10 B9
            clear H9
            have C11 := Lib.hid (val_Check_ns H4.out)
            rw [HF.out, errV_zero] at C11
            go_wp2_with fail
            refine (C11.out).mono ?_
            rintro e w11 ⟨rfl, b11⟩
            have B11 := bh B10 b11
            replace HS8 := Lib.hid (HS8.out.keep b11)
            clear b11 B10
            clear C11 H4
            go_wp2_with fail
            go_loopw [20, 21, 22, 23] (fun i _ _ _ wr => ∃ k : Nat, k ≤ n ∧ i = .int .i64 k ∧ Hid (Below w11.heap.size w11 wr)) (fun i _ _ _ _ => n - (intOf i).toNat)
            case atStart => exact ⟨0, Nat.zero_le _, rfl, Below.refl _ _⟩
            case round =>
              obtain ⟨k, hk, rfl, hB⟩ := hrel
              by_cases hlt : k < n
              · have hk1 : k < V.length := by rw [← HN.out]; exact hlt
                go_wp2_with fail
                go_loopw [21, 22, 23] (fun b t _ wr => ∃ j : Nat, j ≤ P8.length ∧ t = .int .i64 j ∧ b = .bool (anyP (P8.take j) V[k].P) ∧ Hid (Below w11.heap.size w11 wr)) (fun _ t _ _ => P8.length - (intOf t).toNat)
                case atStart => exact ⟨0, Nat.zero_le _, rfl, rfl, hB⟩
                case round =>
                  clear hB
                  obtain ⟨j, hj, rfl, rfl, hB⟩ := hrel
                  have BB := bhid B11 hB (by have := B11.out.size; omega)
                  by_cases hlt2 : j < P8.length
                  · obtain ⟨a, rfl, p1, s1⟩ := (HS8.out.keep hB.out).at hlt2
                    obtain ⟨b, rfl, p2, s2⟩ := (HV.out.keep BB.out).at hk1
                    have HA := Lib.hid (anyP_step (P8 := P8) hlt2 V[k].P)
                    have K := rq (w := wr) (fun w' h => (s1.keep h).same (s2.keep h))
                    have k1 := cell_regrown p1
                    have k2 := cell_regrown p2
                    clear s1 s2
                    go_wp2_with fail
                    refine wp_region_quiet_below (by kernel_rfl) (by kernel_rfl) ?_
                    repeat (first | go_big_quiet_step (exact K _ _) | quiet_step (exact K _ _))
                    refine wpQuiet_nil ?_
                    intro w12 hw'
                    have B12 := Lib.hid (show Below wr.heap.size wr w12 by obtain ⟨⟨d, os⟩, rfl⟩ := hw'; exact below_regrown _ _ _)
                    clear hw'
                    have BX := bhid hB B12 (by have := hB.out.size; omega)
                    clear K k1 k2 p1 p2 hB B12 BB
                    by_cases h0 : cmpNds P8[j].P V[k].P = 0
                    · rw [decide_eq_true h0]
                      rw [decide_eq_true h0, Bool.or_true] at HA
                      clear h0
                      go_wp2_with fail
                      go_roundw
                      case rel => exact ⟨j + 1, by omega, by go_num, by rw [HA.out], BX⟩
                      case measure => simp [intOf]; omega
                    · rw [decide_eq_false h0]
                      rw [decide_eq_false h0, Bool.or_false] at HA
                      clear h0
                      go_wp2_with fail
                      go_roundw
                      case rel => exact ⟨j + 1, by omega, by go_num, by rw [HA.out], BX⟩
                      case measure => simp [intOf]; omega
                  · have HA := Lib.hid (show anyP (P8.take j) V[k].P = true by
                      rw [List.take_of_length_le (by omega)]
                      exact anyP_mem (by rw [E8.out]; exact HMEM.out k hk1))
                    rw [HA.out]
                    go_wp2_with fail
                    go_roundw
                    case rel => exact ⟨k + 1, by omega, by go_num, hB⟩
                    case measure => simp [intOf]; omega
              · go_wp2_with fail
                go_ret
                exact ⟨rfl, (bhid B11 hB (by have := B11.out.size; omega)).out⟩
          · have ej : (((j + 1 : Nat) : Int) - 1) = (j : Int) := by omega
            rw [ej]
            have hj1 : j < V.length := by rw [← HN.out]; omega
            obtain ⟨b, rfl, q2, -⟩ := (HV.out.keep BB.out).at hj1
            obtain ⟨-, -, -, hs0⟩ := HV.out.at hj1
            have HS0 := Lib.hid hs0
            have HR := Lib.hid (List.getElem_mem hj1)
            have T5 := Lib.hid (show ∀ t, (h : t < V.length) → j ≤ t → V[t] ∈ U ++ [V[j]] from fun t h h2 => by
              rcases Nat.lt_or_ge j t with h3 | h3
              · exact List.mem_append_left _ (hT.out t h (by omega))
              · have : t = j := by omega
                subst this; simp)
            generalize V[j] = r at *
            clear hs0 hT ej
            have A1 := Lib.hid (show Apart r u9.ownBlock by
              intro h0 a' ea q'
              have := own_base hO.out.own a'.block q'
              have := HS0.out.at_.lt h0 a' ea
              have := B4.out.size
              omega)
            have N1 := Lib.hid (HS0.out.keep BB.out)
            have hsz1 := hB.out.size
            go_wp2_with (at_builtin; refine wpList_append_own_at _ rfl _ _ 22 rfl w4.heap.size 24 i0 _ 1 24 Try.underlying22 hi hz0 hz1 hz2 rfl (by decide) _ U.length (U.map Sl.v) rfl (hO.out.own.alloc _) ⟨_, 0, none⟩ 1 1 [.slice r.A r.n r.c] rfl rfl (cell_one_new _ _ _) (by intro u hu; simp only [List.mem_cons, List.not_mem_nil, or_false] at hu; subst hu; rfl) ?c1 ?c2 ?c3 ?_)
            case c1 => unfold maxLen; omega
            case c2 => omega
            case c3 => simp; omega
            intro v1 w5 hown hgrow _ hat
            have B5 := Lib.hid ((hB.out.alloc hB.out.size _).grown hgrow (by simp; omega) (fun g hg => by have := own_base hO.out.own g hg; omega))
            have O5 := Lib.hid (hO.out.snoc (r := r) N1.out A1.out hown hgrow (by simpa using hat))
            have S5 := Lib.hid (show ∀ x ∈ U ++ [r], x ∈ V from fun x hx => by
              rcases List.mem_append.1 hx with h | h
              · exact hS.out x h
              · simp only [List.mem_cons, List.not_mem_nil, or_false] at h
                subst h; exact HR.out)
            have hl2 : (U ++ [r]).length ≤ m + (n - j) := by simp; omega
            clear hown hgrow hat hO hS N1 A1 hB BB q2
            go_wp2_with fail
            go_roundw
            case rel => exact ⟨j, U ++ [r], by omega, rfl, hl2, S5, T5, O5, B5⟩
            case measure => simp [intOf]
  · rw [errV_ne hE] at C2'
    clear hE
    go_wp2_with fail
    refine (C2'.out).mono ?_
    rintro e w4 ⟨A4, n4, c4, rfl, -, b4⟩
    have B4 := bh B3 b4
    clear b4 B3
    go_wp2_with fail
    go_ret
    exact ⟨rfl, B4.out⟩
end Go.Proofs.Ytfbgaefbalbohaa
