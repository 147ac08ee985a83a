/-
  ref joinRecs: the least above two types of records; ref JoinKinds.
  kinds.own: the type that a value has of its own: of what has no parts.
-/
import Derived.Test.YtmekockjgldndaaGreatDoorQc17
namespace Go.Wk
/-- The names of the first so many of two. -/
def namesK (f g : Fl) : Nat → List ByteArray
  | 0 => []
  | 1 => f.list.map (·.1)
  | _ => f.list.map (·.1) ++ g.list.map (·.1)
theorem names_snoc {L : List Kfd} {j : Nat} (h : j < L.length) (pre : List ByteArray) : pre ++ (L.take (j + 1)).map (·.1) = (pre ++ (L.take j).map (·.1)) ++ [L[j].1] := by
  rw [List.take_succ_eq_append_getElem h, List.map_append, List.append_assoc]
  rfl
theorem lastN_size {J : List Kfd} {i m : Nat} (h : ∀ y ∈ J, y.1.size ≤ m) : (lastN J i).size ≤ m := by
  cases i with
  | zero => exact Nat.zero_le _
  | succ i =>
    show ((J[i]?.map (·.1)).getD emp).size ≤ m
    rcases hx : J[i]? with _ | y
    · exact Nat.zero_le _
    · exact h y (List.mem_of_getElem? hx)
end Go.Wk
namespace Go.Proofs.YtmekockjgldndaaGreatDoor
open Go.RowKit Go.Wk Go.Sort
set_option maxRecDepth 100000

/-- One of the two that joinRecs looks at. -/
theorem both_at {f g : Fl} {a b : Addr} {n c m d : Nat} {wk : World} {B k : Nat} (hk : k < 2) (c0 : wk.cell? ⟨B, 0, none⟩ = some (.slice (some a) n c)) (c1 : wk.cell? ⟨B, 1, none⟩ = some (.slice (some b) m d)) (hvf : f.validFrom emp) (hvg : g.validFrom emp) (ha : Ns wk (some a) n c (Kd.fs f).flat) (hb : Ns wk (some b) m d (Kd.fs g).flat) (hn : n ≤ 2000) (hm : m ≤ 2000) :
    ∃ (hh : Fl) (x : Addr) (p q : Nat), wk.cell? ⟨B, k, none⟩ = some (.slice (some x) p q) ∧ Ns wk (some x) p q (Kd.fs hh).flat ∧ hh.validFrom emp ∧ p ≤ 2000 ∧ namesK f g (k + 1) = namesK f g k ++ hh.list.map (·.1) := by
  rcases (show k = 0 ∨ k = 1 by omega) with rfl | rfl
  · exact ⟨f, a, n, c, c0, ha, hvf, hn, by simp [namesK]⟩
  · exact ⟨g, b, m, d, c1, hb, hvg, hm, by simp [namesK]⟩
set_option maxHeartbeats 8000000 in
theorem rj_rec (N : Nat) (ih : JnRC N) (f g : Fl) (hfs : f.sz ≤ N) (hsz : f.sz + g.sz ≤ 1998) (hvf : f.validFrom emp) (hvg : g.validFrom emp) (A B : Option Addr) (n c m d : Nat) (w : World) (h : Ns w A n c (Kd.fs f).flat) (k : Ns w B m d (Kd.fs g).flat) :
    Calls Tryz.prog 104 #[.slice A n c, .slice B m d] w (JnR w (.fs (joinF f g (restF g f))) (fun _ => False)) := by
  obtain ⟨i0, hi, hz0, hz1, hz2⟩ := info_parts ndInfo
  have hkf : (Kd.fs f).valid := hvf
  have hkg : (Kd.fs g).valid := hvg
  have haf : f.asc := hkf.ok.1
  have hag : g.asc := hkg.ok.1
  obtain ⟨a, rfl, hn1, -, -⟩ := head_at h
  obtain ⟨b, rfl, hm1, -, -⟩ := head_at k
  have hn2 : n ≤ 2000 := by rw [h.len, flat_len]; simp only [Kd.sz]; omega
  have hm2 : m ≤ 2000 := by rw [k.len, flat_len]; simp only [Kd.sz]; omega
  have hnc := h.cap
  have hmd := k.cap
  have hjs : (joinF f g (restF g f)).sz ≤ 1999 := by
    have h1 := joinK_sz hkf.ok hkg.ok
    have h2 : joinK (.fs f) (.fs g) = .fs (joinF f g (restF g f)) := by simp [joinK, isAny, isNone]
    rw [h2] at h1
    simp only [Kd.sz] at h1
    omega
  have hjv : (Kd.fs (joinF f g (restF g f))).valid := by
    have h2 : joinK (.fs f) (.fs g) = .fs (joinF f g (restF g f)) := by simp [joinK, isAny, isNone]
    rw [← h2]
    exact join_valid _ _ _ (Nat.le_refl _) hkf hkg
  have HJL := Lib.hid (show (joinL f g).length ≤ 1999 by
    unfold joinL
    rw [len_list']
    have := fl_len_flat (joinF f g (restF g f))
    rw [flat_lenF] at this
    omega)
  have HOL := Lib.hid (fun (x : Int) i => show (outJ x (joinL f g) i).length ≤ 2000 by
    have h1 := outJ_len x (joinL f g) i
    unfold joinL at h1
    rw [list_ofL] at h1
    unfold joinL
    omega)
  have KA := Lib.hid (fun s w' (hs : s.size ≤ maxLen) (hb : Below w.heap.size w w') => ref_FieldKind f hvf (some a) n c s w' (h.keep hb) (by omega) hs)
  have KB := Lib.hid (fun s w' (hs : s.size ≤ maxLen) (hb : Below w.heap.size w w') => ref_FieldKind g hvg (some b) m d s w' (k.keep hb) (by omega) hs)
  have LA := Lib.hid (KLeft.start hvf)
  have LB := Lib.hid (KLeft.start hvg)
  have HA := Lib.hid h
  have HB := Lib.hid k
  have HVF := Lib.hid hvf
  have HVG := Lib.hid hvg
  have HNX := Lib.hid (fun i hi nx hx => next_at hvf hvg haf hag (i := i) hi (nx := nx) hx)
  have HJA := Lib.hid (fun i hi => join_at haf hag (i := i) hi)
  have HSZ := Lib.hid (fun s m k m' k' (e1 : f.find s = some (m, k)) (e2 : g.find s = some (m', k')) => show k.sz ≤ N ∧ k.sz + k'.sz ≤ 2000 from ⟨by have := find_sz e1; omega, by have := find_sz e1; have := find_sz e2; omega⟩)
  have HJN := Lib.hid (fun (y : Kfd) (hy : y ∈ joinL f g) => show y.1.size ≤ maxLen ∧ y.1.size ≤ 100 by
    have := name_small (valid_mem (f := joinF f g (restF g f)) (x := emp) hjv y hy).1
    exact ⟨by unfold maxLen; omega, by omega⟩)
  have HALL := Lib.hid (outJ_all (f := f) (g := g))
  have HKV := Lib.hid (fun (hl : (Kd.fs (joinF f g (restF g f))).sz ≤ 1000000) => Kd.valid.nds hjv hl)
  have HJS := Lib.hid hjs
  have R0 := Lib.hid (row_nd1 w ⟨46, 0, emp, emp⟩)
  have B1 := Lib.hid (below_box w (.cells #[.int .i64 46, .int .i64 0, .string ⟨#[]⟩, .string ⟨#[]⟩] 44))
  generalize hJ : joinL f g = J at *
  generalize hF : joinF f g (restF g f) = jf at *
  have HABL := Lib.hid (show a.block < w.heap.size from h.at_.lt (by rw [← h.len]; omega) a rfl)
  have HBBL := Lib.hid (show b.block < w.heap.size from k.at_.lt (by rw [← k.len]; omega) b rfl)
  have IH := Lib.hid ih
  clear h k ih hfs hsz hkf hkg haf hag hjs hjv hJ hF
  go_enter Tryz.func104, Tryz.ntmps104
  go_wp2_with fail
  go_loopg [5, 6] J.length (fun g out last wr => ∃ i : Nat, i ≤ J.length ∧ J.length - i ≤ g ∧ last = .string (lastN J i) ∧ Hid (wr.ownsRow w.heap.size 44 4 out (outJ i J i).length (ndCells (outJ i J i))) ∧ Hid (Below w.heap.size w wr))
  case atStart => exact ⟨0, Nat.zero_le _, by omega, rfl, R0.out, B1⟩
  case round =>
    obtain ⟨i, hiJ, hg, rfl, hR, hB⟩ := hrel
    obtain ⟨W1, rfl⟩ : ∃ W1, W1 = wr := ⟨_, rfl⟩
    have hls : (lastN J i).size ≤ maxLen := lastN_size fun y hy => (HJN.out y hy).1
    have HNI := Lib.hid (fun nx hx => HNX.out i hiJ nx hx)
    have HLN := Lib.hid (show ∀ hl : i < J.length, lastN J (i + 1) = J[i].1 from fun hl => by simp [lastN, List.getElem?_eq_getElem hl])
    generalize lastN J i = last at *
    have BB := Lib.hid (below_box W1 (.cells #[.slice (some a) n c, .slice (some b) m d] 22))
    have HC := Lib.hid (cells_new W1 [.slice (some a) n c, .slice (some b) m d] 22)
    have HC0 := Lib.hid (show (W1.alloc (.cells #[.slice (some a) n c, .slice (some b) m d] 22)).cell? ⟨W1.heap.size, 0, none⟩ = some (.slice (some a) n c) from HC.out 0 _ rfl)
    have HC1 := Lib.hid (show (W1.alloc (.cells #[.slice (some a) n c, .slice (some b) m d] 22)).cell? ⟨W1.heap.size, 1, none⟩ = some (.slice (some b) m d) from HC.out 1 _ rfl)
    clear HC
    go_wp2_with fail
    go_loopw [7, 9] (fun nx kk wk => ∃ (k : Nat) (s : ByteArray), kk = .int .i64 k ∧ k ≤ 2 ∧ nx = .string s ∧ s.size ≤ maxLen ∧ Hid (NextIs (namesK f g k) last s) ∧ Hid (Below W1.heap.size W1 wk) ∧ Hid (wk.cell? ⟨W1.heap.size, 0, none⟩ = some (.slice (some a) n c)) ∧ Hid (wk.cell? ⟨W1.heap.size, 1, none⟩ = some (.slice (some b) m d))) (fun _ kk _ => 2 - (intOf kk).toNat)
    case atStart => exact ⟨0, emp, rfl, by omega, rfl, Nat.zero_le _, NextIs.nil _, BB, HC0, HC1⟩
    case round =>
      obtain ⟨k, s, rfl, hk, rfl, hss, hN, hK, hC0, hC1⟩ := hrel
      obtain ⟨W2, rfl⟩ : ∃ W2, W2 = wr := ⟨_, rfl⟩
      have BK := bhid hB hK (Nat.le_refl _)
      by_cases hk2 : k < 2
      · obtain ⟨hh, x, p, q, cx, nsx, vx, px, ex⟩ := both_at (f := f) (g := g) hk2 hC0.out hC1.out HVF.out HVG.out (HA.out.keep BK.out) (HB.out.keep BK.out) hn2 hm2
        have FO := Lib.hid (ref_FieldsOf hh vx (some x) p q W2 nsx (by omega))
        have NX := Lib.hid nsx
        have EX := Lib.hid ex
        have LX := Lib.hid (KLeft.start vx)
        have VX := Lib.hid vx
        have hhl : hh.len < p := by
          rw [nsx.len, Kd.flat, List.length_cons]
          have := fl_len_flat hh
          omega
        have HLH := Lib.hid (len_list' hh)
        have hlt : W1.heap.size < W2.heap.size := block_lt_of_cell cx
        clear nsx ex vx
        go_wp2_with fail
        refine FO.out.mono ?_
        rintro e w5 ⟨A5, c5, rfl, hc5, hI5, b5⟩
        have I5 := Lib.hid hI5
        have B5 := Lib.hid b5
        have cx5 := Lib.hid (cell_keep b5 cx)
        clear hI5 b5 FO cx
        go_wp2_with fail
        go_loopw [7, 11] (fun nx ii wj => ∃ (j : Nat) (s : ByteArray), ii = .int .i64 j ∧ j ≤ hh.len ∧ nx = .string s ∧ s.size ≤ maxLen ∧ Hid (NextIs (namesK f g k ++ (hh.list.take j).map (·.1)) last s) ∧ Hid (Below w5.heap.size w5 wj)) (fun _ ii _ => hh.len - (intOf ii).toNat)
        case atStart => exact ⟨0, s, rfl, Nat.zero_le _, rfl, hss, Lib.hid (by simpa using hN.out), Below.refl _ _⟩
        case round =>
          obtain ⟨j, nx, rfl, hj, rfl, hsn, hM, hJ⟩ := hrel
          have BJ := Lib.hid (B5.out.trans (hJ.out.mono B5.out.size))
          by_cases hlt2 : j < hh.len
          · have hjl : j < hh.list.length := by rw [HLH.out]; exact hlt2
            obtain ⟨qq, hq, hfd⟩ := LX.out.at j _ (List.getElem?_eq_getElem hjl)
            obtain ⟨ai, rfl, hci⟩ := (I5.out.keep hJ.out) j qq hq
            obtain ⟨a', ea, p0, p1, p2, p3⟩ := (NX.out.keep BJ.out).at_ qq _ hfd.nd
            injection ea with ea
            subst ea
            have hqn : qq < p := by rw [NX.out.len]; exact (List.getElem?_eq_some_iff.1 hfd.nd).1
            have hys := (NX.out.ok _ (List.mem_of_getElem? hfd.nd)).s
            have HST := Lib.hid (show NextIs (namesK f g k ++ (hh.list.take (j + 1)).map (·.1)) last (nextStep last nx hh.list[j].1) by
              rw [names_snoc hjl]
              exact hM.out.step (valid_ne VX.out _ (List.getElem_mem hjl)))
            have cxj := cell_keep hJ.out cx5.out
            simp only [fldNd] at p2 hys
            generalize hh.list[j] = y at *
            obtain ⟨ys, ym, yk⟩ := y
            simp only at p2 hys HST
            clear hfd p0 p1 p3 hq hM
            have k0 := cell_regrown cxj
            have k1 := cell_regrown hci
            have k2 := cell_regrown p2
            go_wp2_with fail
            refine wp_region_quiet_below (by kernel_rfl) (by kernel_rfl) ?_
            repeat (first | go_big_quiet_step (fail) | quiet_step (fail))
            refine wpQuiet_nil ?_
            intro w6 hw'
            have B6 := Lib.hid (show Below wr.heap.size wr w6 by obtain ⟨⟨d, os⟩, rfl⟩ := hw'; exact below_regrown _ _ _)
            clear hw'
            clear k0 k1 k2 cxj hci p2
            have J6 := bhid hJ B6 (Nat.le_refl _)
            have T1 := Lib.hid (ref_Texts ys last w6 hys hls)
            clear hJ B6 BJ
            go_wp2_with fail
            refine T1.out.mono ?_
            rintro e w7 ⟨rfl, b7⟩
            have J7 := Lib.hid (J6.out.trans (b7.mono J6.out.size))
            clear b7 T1 J6
            by_cases h1 : 0 < cmpB ys last
            · rcases emp_or' nx with rfl | ⟨h2, hne1, hne2⟩
              · have HST2 := Lib.hid (show NextIs (namesK f g k ++ (hh.list.take (j + 1)).map (·.1)) last ys by
                  have := HST.out
                  unfold nextStep at this
                  rwa [if_pos ⟨h1, .inl rfl⟩] at this)
                go_wp2_with fail
                go_roundw
                case rel => exact ⟨j + 1, ys, by go_num, hlt2, rfl, hys, HST2, J7⟩
                case measure => simp [intOf]; omega
              · have T2 := Lib.hid (ref_Texts ys nx w7 hys hsn)
                go_wp2_with fail
                refine T2.out.mono ?_
                rintro e w8 ⟨rfl, b8⟩
                have J8 := Lib.hid (J7.out.trans (b8.mono J7.out.size))
                clear b8 T2 J7
                by_cases h3 : cmpB ys nx < 0
                · have HST2 := Lib.hid (show NextIs (namesK f g k ++ (hh.list.take (j + 1)).map (·.1)) last ys by
                    have := HST.out
                    unfold nextStep at this
                    rwa [if_pos ⟨h1, .inr h3⟩] at this)
                  go_wp2_with fail
                  go_roundw
                  case rel => exact ⟨j + 1, ys, by go_num, hlt2, rfl, hys, HST2, J8⟩
                  case measure => simp [intOf]; omega
                · have HST2 := Lib.hid (show NextIs (namesK f g k ++ (hh.list.take (j + 1)).map (·.1)) last nx by
                    have := HST.out
                    unfold nextStep at this
                    rwa [if_neg (fun h => h.2.elim h2 h3)] at this)
                  go_wp2_with fail
                  go_roundw
                  case rel => exact ⟨j + 1, nx, by go_num, hlt2, rfl, hsn, HST2, J8⟩
                  case measure => simp [intOf]; omega
            · have HST2 := Lib.hid (show NextIs (namesK f g k ++ (hh.list.take (j + 1)).map (·.1)) last nx by
                have := HST.out
                unfold nextStep at this
                rwa [if_neg (fun h => h1 h.1)] at this)
              go_wp2_with fail
              go_roundw
              case rel => exact ⟨j + 1, nx, by go_num, hlt2, rfl, hsn, HST2, J7⟩
              case measure => simp [intOf]; omega
          · have HN2 := Lib.hid (show NextIs (namesK f g (k + 1)) last nx by
              have := hM.out
              rw [List.take_of_length_le (by rw [HLH.out]; omega)] at this
              rw [EX.out]; exact this)
            have K2 := Lib.hid (hK.out.trans (BJ.out.mono hK.out.size))
            have c0' := Lib.hid (cell_keep BJ.out hC0.out)
            have c1' := Lib.hid (cell_keep BJ.out hC1.out)
            clear hM hN hJ I5 NX LX VX EX
            go_wp2_with fail
            go_roundw
            case rel => exact ⟨k + 1, nx, by go_num, by omega, rfl, hsn, HN2, K2, c0', c1'⟩
            case measure => simp [intOf]; omega
      · obtain rfl : k = 2 := by omega
        have HNM := Lib.hid (HNI.out s hN.out)
        have hRk := Lib.hid (hR.out.kept (grown_of_below hK.out none) (by cases hv : u5.ownBlock <;> simp))
        clear hN HNI hC0 hC1 hR hB
        by_cases hiL : i < J.length
        · obtain ⟨hs1, hs2⟩ := HNM.out.1 hiL
          have HJX := Lib.hid (HJA.out i hiL)
          have HST := Lib.hid (fun (z : Int) => outJ_step (J := J) hiL z)
          have HLS := Lib.hid (HLN.out hiL)
          have hjl := HJL.out
          have HO1 := Lib.hid (HOL.out i i)
          have HO2 := Lib.hid (HOL.out ((i + 1 : Nat) : Int) (i + 1))
          have HYL0 := Lib.hid (show (J[i].2.2).flat.length ≤ 2000 by
            have h1 := HOL.out 0 (i + 1)
            rw [outJ_step hiL] at h1
            simp only [List.length_cons, List.length_append] at h1
            omega)
          clear HNM HJA HLN
          generalize J[i] = y at *
          obtain ⟨ys, ym, yk⟩ := y
          simp only at hs1 HJX HST HLS HYL0
          have HYL := HYL0
          subst hs1
          rcases emp_or' s with hne | ⟨-, hne1, hne2⟩
          · exact absurd hne hs2
          have CA := Lib.hid (KA.out s W2 hss BK.out)
          rcases hRk.out.2 with ⟨-, h0⟩ | ⟨gb, cap, cur, hu5, hgB, -⟩
          · simp [outJ] at h0
          subst hu5
          have hgw : gb < W2.heap.size := own_lt hRk.out gb rfl
          go_wp2_with fail
          refine CA.out.mono ?_
          rintro e w3 ⟨rfl, b3⟩
          have B3 := Lib.hid (BK.out.trans (b3.mono BK.out.size))
          have R3 := Lib.hid (own_kept_below hRk.out b3)
          have hz3 := b3.size
          have CB := Lib.hid (KB.out s w3 hss B3.out)
          clear b3 CA BK
          go_wp2_with fail
          refine CB.out.mono ?_
          rintro e w4 ⟨rfl, b4⟩
          have B4 := Lib.hid (B3.out.trans (b4.mono B3.out.size))
          have R4 := Lib.hid (own_kept_below R3.out b4)
          have hz4 := b4.size
          clear b4 CB B3 R3 hRk
          have PA := Lib.hid (fun q m k w' (hf : KFld (Kd.fs f).flat q s m k) (hb : Below w.heap.size w w') => ref_PartKind _ q s m k hf a n c w' (HA.out.keep hb))
          have PB := Lib.hid (fun q m k w' (hf : KFld (Kd.fs g).flat q s m k) (hb : Below w.heap.size w w') => ref_PartKind _ q s m k hf b _ d w' (HB.out.keep hb))
          have BX4 := Lib.hid (B4.out.alloc B4.out.size (.cells #[.int .i64 47, .int .i64 0, .string s, .string ⟨#[]⟩] 44))
          have RX4 := Lib.hid (R4.out.alloc (.cells #[.int .i64 47, .int .i64 0, .string s, .string ⟨#[]⟩] 44))
          have XC := cells_new w4 [.int .i64 47, .int .i64 0, .string s, .string ⟨#[]⟩] 44
          have X0 := Lib.hid (show (w4.alloc (.cells #[.int .i64 47, .int .i64 0, .string s, .string ⟨#[]⟩] 44)).cell? ⟨w4.heap.size, 0, none⟩ = some (.int .i64 47) from XC 0 _ rfl)
          have X1 := Lib.hid (show (w4.alloc (.cells #[.int .i64 47, .int .i64 0, .string s, .string ⟨#[]⟩] 44)).cell? ⟨w4.heap.size, 1, none⟩ = some (.int .i64 0) from XC 1 _ rfl)
          have X2 := Lib.hid (show (w4.alloc (.cells #[.int .i64 47, .int .i64 0, .string s, .string ⟨#[]⟩] 44)).cell? ⟨w4.heap.size, 2, none⟩ = some (.string s) from XC 2 _ rfl)
          have X3 := Lib.hid (show (w4.alloc (.cells #[.int .i64 47, .int .i64 0, .string s, .string ⟨#[]⟩] 44)).cell? ⟨w4.heap.size, 3, none⟩ = some (.string ⟨#[]⟩) from XC 3 _ rfl)
          have XF := Lib.hid (show (w4.alloc (.cells #[.int .i64 47, .int .i64 0, .string s, .string ⟨#[]⟩] 44)).frozen? ⟨w4.heap.size, 1, none⟩ = false by have h := heap_alloc_new w4 (.cells #[.int .i64 47, .int .i64 0, .string s, .string ⟨#[]⟩] 44); unfold World.frozen?; rw [h]; simp)
          clear XC B4 R4
          have HX := HJX.out
          have habl : a.block < w.heap.size ∧ b.block < w.heap.size := ⟨HABL.out, HBBL.out⟩
          obtain ⟨habl1, habl2⟩ := habl
          rcases hff : f.find s with _ | ⟨m1, k1⟩
          · rcases hgf : g.find s with _ | ⟨m2, k2⟩
            · rw [hff, hgf] at HX; cases HX
            · rw [hff, hgf] at HX
              simp only [jn, Option.some.injEq, Prod.mk.injEq] at HX
              obtain ⟨rfl, rfl⟩ := HX
              obtain ⟨q2, hq2, hfd2⟩ := posOf_some LB.out hgf
              rw [posOf_none hff, hq2]
              have FD := Lib.hid hfd2
              clear hfd2 hff hgf hq2
              go_wp2_with fail
              refine (PB.out q2 m2 k2 _ FD.out BX4.out).mono ?_
              rintro e wz ⟨rfl, b5⟩
              have Bz := Lib.hid (BX4.out.trans (b5.mono BX4.out.size))
              have NO := Lib.hid (part_ns FD.out (HB.out.keep Bz.out))
              have Rz := Lib.hid (own_kept_below RX4.out b5)
              have Y0 := Lib.hid (cell_keep b5 X0.out)
              have Y1 := Lib.hid (cell_keep b5 X1.out)
              have Y2 := Lib.hid (cell_keep b5 X2.out)
              have Y3 := Lib.hid (cell_keep b5 X3.out)
              clear b5 X0 X1 X2 X3 XF RX4 BX4 PA PB
              have NB := Lib.hid (show (b.add ((q2 + 1) * 4)).block ≠ gb by rw [add_block]; omega)

              have hgx : gb < w4.heap.size := by omega
              have hgne : gb ≠ w4.heap.size := by omega
              have hxz : w4.heap.size < wz.heap.size := block_lt_of_cell Y0.out
              have hlen := HO1.out
              have hlen0 : 0 < (outJ (i : Int) J i).length := by simp [outJ]
              have c1' : wz.cell? ⟨gb, 1, none⟩ = some (.int .i64 i) := by
                rw [Rz.out.cellAt 1 (by simp [outJ]; omega)]; rfl
              have f1 := Rz.out.frozenAt 1
              obtain ⟨rowS, grS⟩ := Rz.out.stored 1 (.int .i64 ((i : Int) + 1))
              rw [show (ndCells (outJ (i : Int) J i)).set 1 (.int .i64 ((i : Int) + 1)) = ndCells (outJ ((i : Int) + 1) J i) from rfl] at rowS
              have RS := Lib.hid rowS
              have NS := Lib.hid (NO.out.but grS (fun _ b e => by injection e with e; subst e; exact NB.out))
              have BS := Lib.hid (Bz.out.grown grS Bz.out.size (fun k hk => by injection hk with hk; omega))
              have Z0 := Lib.hid (grS.cell Y0.out (fun e => hgne (Option.some.inj e).symm))
              have Z1 := Lib.hid (grS.cell Y1.out (fun e => hgne (Option.some.inj e).symm))
              have Z2 := Lib.hid (grS.cell Y2.out (fun e => hgne (Option.some.inj e).symm))
              have Z3 := Lib.hid (grS.cell Y3.out (fun e => hgne (Option.some.inj e).symm))
              have hss := BS.out.size
              clear rowS grS Rz NO Bz
              have CN := cells_new (wz.setCell ⟨gb, 1, none⟩ (.int .i64 ((i : Int) + 1))) (ndCells [⟨47, 0, s, ⟨#[]⟩⟩]) 44
              rw [show (wz.setCell ⟨gb, 1, none⟩ (.int .i64 ((i : Int) + 1))).heap.size = wz.heap.size by simp [World.setCell]] at CN
              obtain ⟨y0, y1, y2, y3⟩ := And.intro Y0.out (And.intro Y1.out (And.intro Y2.out Y3.out))
              go_wp2_with (at_builtin; refine wpList_append_own _ rfl _ _ 22 rfl w.heap.size 44 i0 _ 4 48 Tryz.underlying22 hi hz0 hz1 hz2 rfl (by decide) _ (outJ (i : Int) J i).length (ndCells (outJ ((i : Int) + 1) J i)) rfl (RS.out.alloc _) ⟨wz.heap.size, 0, none⟩ 1 1 (ndCells [⟨47, 0, s, ⟨#[]⟩⟩]) rfl rfl CN (ndCells_one _) ?c1 ?c2 ?c3 ?_)
              case c1 => unfold maxLen; omega
              case c2 => omega
              case c3 => simp; omega
              intro v1 w6 hown hgrow _
              have hown' : w6.ownsRow w.heap.size 44 4 v1 (outJ ((i : Int) + 1) J i ++ [(⟨47, 0, s, ⟨#[]⟩⟩ : Nd)]).length (ndCells (outJ ((i : Int) + 1) J i ++ [(⟨47, 0, s, ⟨#[]⟩⟩ : Nd)])) := by
                rw [ndCells_append, List.length_append]; exact hown
              obtain ⟨A6, c6, rfl, -⟩ := nds_of_own hown'
              have hl6 : (outJ ((i : Int) + 1) J i ++ [(⟨47, 0, s, ⟨#[]⟩⟩ : Nd)]).length = (outJ (i : Int) J i).length + 1 := by rw [List.length_append]; rfl
              rw [hl6] at hown'
              rw [hl6]
              have HL6 := Lib.hid hl6
              have O6 := Lib.hid hown'
              have N6 := Lib.hid ((NS.out.keep (below_box _ _)).but (R := gb) hgrow (fun _ b e => by injection e with e; subst e; exact NB.out))
              have B6 := Lib.hid (below_append BS.out (Nat.le_refl _) RS.out _ hgrow)
              have hs6 := B6.out.size
              have hykl : k2.flat.length ≤ 2000 := HYL.out
              clear CN hown hown' hgrow hl6 y0 y1 y2 y3 Z0 Z1 Z2 Z3 NS BS RS c1' f1 Y0 Y1 Y2 Y3
              go_wp2_with (at_builtin; refine wpList_append_own _ rfl _ _ 22 rfl w.heap.size 44 i0 _ 4 48 Tryz.underlying22 hi hz0 hz1 hz2 rfl (by decide) _ ((outJ (i : Int) J i).length + 1) (ndCells (outJ ((i : Int) + 1) J i ++ [(⟨47, 0, s, ⟨#[]⟩⟩ : Nd)])) rfl O6.out _ k2.flat.length _ (ndCells k2.flat) rfl (ndCells_length _) N6.out.at_.cells (ndCells_one _) ?d1 ?d2 ?d3 ?_)
              case d1 => unfold maxLen; omega
              case d2 => omega
              case d3 => exact hs6
              intro v2 w7 hown2 hgrow2 _
              have B7 := Lib.hid (B6.out.grown hgrow2 hs6 (own_base O6.out))
              have O7 := Lib.hid (show w7.ownsRow w.heap.size 44 4 v2 (outJ ((i + 1 : Nat) : Int) J (i + 1)).length (ndCells (outJ ((i + 1 : Nat) : Int) J (i + 1))) by
                have e : outJ ((i + 1 : Nat) : Int) J (i + 1) = (outJ ((i : Int) + 1) J i ++ [(⟨47, 0, s, ⟨#[]⟩⟩ : Nd)]) ++ k2.flat := by
                  rw [HST.out]; simp [outJ, fldNd, emp]
                rw [e, ndCells_append, List.length_append, HL6.out]
                exact hown2)
              obtain ⟨A7, c7, rfl, -⟩ := nds_of_own O7.out
              clear hown2 hgrow2 O6 N6 B6
              go_wp2_with fail
              go_roundg (J.length - (i + 1))
              case measure => omega
              case rel => exact ⟨i + 1, by omega, Nat.le_refl _, by rw [HLS.out], O7, B7⟩
          · rcases hgf : g.find s with _ | ⟨m2, k2⟩
            · rw [hff, hgf] at HX
              simp only [jn, Option.some.injEq, Prod.mk.injEq] at HX
              obtain ⟨rfl, rfl⟩ := HX
              obtain ⟨q2, hq2, hfd2⟩ := posOf_some LA.out hff
              rw [posOf_none hgf, hq2]
              have FD := Lib.hid hfd2
              have hq0 : decide ((q2 : Int) < 0) = false := decide_eq_false (by omega)
              clear hfd2 hff hgf hq2
              go_wp2_with fail
              refine (PA.out q2 m1 k1 _ FD.out BX4.out).mono ?_
              rintro e wz ⟨rfl, b5⟩
              have Bz := Lib.hid (BX4.out.trans (b5.mono BX4.out.size))
              have NO := Lib.hid (part_ns FD.out (HA.out.keep Bz.out))
              have Rz := Lib.hid (own_kept_below RX4.out b5)
              have Y0 := Lib.hid (cell_keep b5 X0.out)
              have Y1 := Lib.hid (cell_keep b5 X1.out)
              have Y2 := Lib.hid (cell_keep b5 X2.out)
              have Y3 := Lib.hid (cell_keep b5 X3.out)
              clear b5 X0 X1 X2 X3 XF RX4 BX4 PA PB
              have NB := Lib.hid (show (a.add ((q2 + 1) * 4)).block ≠ gb by rw [add_block]; omega)

              have hgx : gb < w4.heap.size := by omega
              have hgne : gb ≠ w4.heap.size := by omega
              have hxz : w4.heap.size < wz.heap.size := block_lt_of_cell Y0.out
              have hlen := HO1.out
              have hlen0 : 0 < (outJ (i : Int) J i).length := by simp [outJ]
              have c1' : wz.cell? ⟨gb, 1, none⟩ = some (.int .i64 i) := by
                rw [Rz.out.cellAt 1 (by simp [outJ]; omega)]; rfl
              have f1 := Rz.out.frozenAt 1
              obtain ⟨rowS, grS⟩ := Rz.out.stored 1 (.int .i64 ((i : Int) + 1))
              rw [show (ndCells (outJ (i : Int) J i)).set 1 (.int .i64 ((i : Int) + 1)) = ndCells (outJ ((i : Int) + 1) J i) from rfl] at rowS
              have RS := Lib.hid rowS
              have NS := Lib.hid (NO.out.but grS (fun _ b e => by injection e with e; subst e; exact NB.out))
              have BS := Lib.hid (Bz.out.grown grS Bz.out.size (fun k hk => by injection hk with hk; omega))
              have Z0 := Lib.hid (grS.cell Y0.out (fun e => hgne (Option.some.inj e).symm))
              have Z1 := Lib.hid (grS.cell Y1.out (fun e => hgne (Option.some.inj e).symm))
              have Z2 := Lib.hid (grS.cell Y2.out (fun e => hgne (Option.some.inj e).symm))
              have Z3 := Lib.hid (grS.cell Y3.out (fun e => hgne (Option.some.inj e).symm))
              have hss := BS.out.size
              clear rowS grS Rz NO Bz
              have CN := cells_new (wz.setCell ⟨gb, 1, none⟩ (.int .i64 ((i : Int) + 1))) (ndCells [⟨47, 0, s, ⟨#[]⟩⟩]) 44
              rw [show (wz.setCell ⟨gb, 1, none⟩ (.int .i64 ((i : Int) + 1))).heap.size = wz.heap.size by simp [World.setCell]] at CN
              obtain ⟨y0, y1, y2, y3⟩ := And.intro Y0.out (And.intro Y1.out (And.intro Y2.out Y3.out))
              go_wp2_with (at_builtin; refine wpList_append_own _ rfl _ _ 22 rfl w.heap.size 44 i0 _ 4 48 Tryz.underlying22 hi hz0 hz1 hz2 rfl (by decide) _ (outJ (i : Int) J i).length (ndCells (outJ ((i : Int) + 1) J i)) rfl (RS.out.alloc _) ⟨wz.heap.size, 0, none⟩ 1 1 (ndCells [⟨47, 0, s, ⟨#[]⟩⟩]) rfl rfl CN (ndCells_one _) ?c1 ?c2 ?c3 ?_)
              case c1 => unfold maxLen; omega
              case c2 => omega
              case c3 => simp; omega
              intro v1 w6 hown hgrow _
              have hown' : w6.ownsRow w.heap.size 44 4 v1 (outJ ((i : Int) + 1) J i ++ [(⟨47, 0, s, ⟨#[]⟩⟩ : Nd)]).length (ndCells (outJ ((i : Int) + 1) J i ++ [(⟨47, 0, s, ⟨#[]⟩⟩ : Nd)])) := by
                rw [ndCells_append, List.length_append]; exact hown
              obtain ⟨A6, c6, rfl, -⟩ := nds_of_own hown'
              have hl6 : (outJ ((i : Int) + 1) J i ++ [(⟨47, 0, s, ⟨#[]⟩⟩ : Nd)]).length = (outJ (i : Int) J i).length + 1 := by rw [List.length_append]; rfl
              rw [hl6] at hown'
              rw [hl6]
              have HL6 := Lib.hid hl6
              have O6 := Lib.hid hown'
              have N6 := Lib.hid ((NS.out.keep (below_box _ _)).but (R := gb) hgrow (fun _ b e => by injection e with e; subst e; exact NB.out))
              have B6 := Lib.hid (below_append BS.out (Nat.le_refl _) RS.out _ hgrow)
              have hs6 := B6.out.size
              have hykl : k1.flat.length ≤ 2000 := HYL.out
              clear CN hown hown' hgrow hl6 y0 y1 y2 y3 Z0 Z1 Z2 Z3 NS BS RS c1' f1 Y0 Y1 Y2 Y3
              go_wp2_with (at_builtin; refine wpList_append_own _ rfl _ _ 22 rfl w.heap.size 44 i0 _ 4 48 Tryz.underlying22 hi hz0 hz1 hz2 rfl (by decide) _ ((outJ (i : Int) J i).length + 1) (ndCells (outJ ((i : Int) + 1) J i ++ [(⟨47, 0, s, ⟨#[]⟩⟩ : Nd)])) rfl O6.out _ k1.flat.length _ (ndCells k1.flat) rfl (ndCells_length _) N6.out.at_.cells (ndCells_one _) ?d1 ?d2 ?d3 ?_)
              case d1 => unfold maxLen; omega
              case d2 => omega
              case d3 => exact hs6
              intro v2 w7 hown2 hgrow2 _
              have B7 := Lib.hid (B6.out.grown hgrow2 hs6 (own_base O6.out))
              have O7 := Lib.hid (show w7.ownsRow w.heap.size 44 4 v2 (outJ ((i + 1 : Nat) : Int) J (i + 1)).length (ndCells (outJ ((i + 1 : Nat) : Int) J (i + 1))) by
                have e : outJ ((i + 1 : Nat) : Int) J (i + 1) = (outJ ((i : Int) + 1) J i ++ [(⟨47, 0, s, ⟨#[]⟩⟩ : Nd)]) ++ k1.flat := by
                  rw [HST.out]; simp [outJ, fldNd, emp]
                rw [e, ndCells_append, List.length_append, HL6.out]
                exact hown2)
              obtain ⟨A7, c7, rfl, -⟩ := nds_of_own O7.out
              clear hown2 hgrow2 O6 N6 B6
              go_wp2_with fail
              go_roundg (J.length - (i + 1))
              case measure => omega
              case rel => exact ⟨i + 1, by omega, Nat.le_refl _, by rw [HLS.out], O7, B7⟩
            · rw [hff, hgf] at HX
              simp only [jn, Option.some.injEq, Prod.mk.injEq] at HX
              obtain ⟨rfl, rfl⟩ := HX
              obtain ⟨q1, hq1, hfd1⟩ := posOf_some LA.out hff
              obtain ⟨q2, hq2, hfd2⟩ := posOf_some LB.out hgf
              rw [hq1, hq2]
              have FD1 := Lib.hid hfd1
              have FD2 := Lib.hid hfd2
              have hz12 := HSZ.out _ _ _ _ _ hff hgf
              have hq01 : decide ((q1 : Int) < 0) = false := decide_eq_false (by omega)
              have hq02 : decide ((q2 : Int) < 0) = false := decide_eq_false (by omega)
              have hq1n : q1 < n := by rw [HA.out.len]; exact (List.getElem?_eq_some_iff.1 hfd1.nd).1
              have hq2m : q2 < m := by rw [HB.out.len]; exact (List.getElem?_eq_some_iff.1 hfd2.nd).1
              have JK := Lib.hid (fun w' (hb : Below w.heap.size w w') => IH.out k1 k2 hz12.1 hz12.2 FD1.out.valid FD2.out.valid _ _ _ _ _ _ w' (part_ns FD1.out (HA.out.keep hb)) (part_ns FD2.out (HB.out.keep hb)))
              clear hfd1 hfd2 hff hgf hq1 hq2
              go_wp2_with fail
              refine (PA.out q1 m1 k1 _ FD1.out BX4.out).mono ?_
              rintro e w5 ⟨rfl, b5⟩
              have B5 := Lib.hid (BX4.out.trans (b5.mono BX4.out.size))
              have R5 := Lib.hid (own_kept_below RX4.out b5)
              have X50 := Lib.hid (cell_keep b5 X0.out)
              have X51 := Lib.hid (cell_keep b5 X1.out)
              have X52 := Lib.hid (cell_keep b5 X2.out)
              have X53 := Lib.hid (cell_keep b5 X3.out)
              have XF5 := Lib.hid ((b5.frozen (p := ⟨w4.heap.size, 1, none⟩) (by simp)).trans XF.out)
              clear b5 X0 X1 X2 X3 XF RX4 BX4 PA
              go_wp2_with fail
              refine (PB.out q2 m2 k2 _ FD2.out B5.out).mono ?_
              rintro e w6 ⟨rfl, b6⟩
              have B6 := Lib.hid (B5.out.trans (b6.mono B5.out.size))
              have R6 := Lib.hid (own_kept_below R5.out b6)
              have hx5 : w4.heap.size < w5.heap.size := block_lt_of_cell X50.out
              have X60 := Lib.hid (cell_keep b6 X50.out)
              have X61 := Lib.hid (cell_keep b6 X51.out)
              have X62 := Lib.hid (cell_keep b6 X52.out)
              have X63 := Lib.hid (cell_keep b6 X53.out)
              have XF6 := Lib.hid ((b6.frozen (p := ⟨w4.heap.size, 1, none⟩) hx5).trans XF5.out)
              have JK6 := Lib.hid (JK.out w6 B6.out)
              clear b6 X50 X51 X52 X53 XF5 R5 B5 PB JK
              go_wp2_with fail
              refine (JK6.out).mono ?_
              rintro e w7 ⟨A7, c7, rfl, n7, b7, hD⟩
              obtain ⟨a7, rfl, -, -, -⟩ := head_at n7
              have B7 := Lib.hid (B6.out.trans (b7.mono B6.out.size))
              have R7 := Lib.hid (own_kept_below R6.out b7)
              have hx6 : w4.heap.size < w6.heap.size := block_lt_of_cell X60.out
              have X70 := Lib.hid (cell_keep b7 X60.out)
              have X71 := Lib.hid (cell_keep b7 X61.out)
              have X72 := Lib.hid (cell_keep b7 X62.out)
              have X73 := Lib.hid (cell_keep b7 X63.out)
              have XF7 := Lib.hid ((b7.frozen (p := ⟨w4.heap.size, 1, none⟩) hx6).trans XF6.out)
              have hx7 : w4.heap.size < w7.heap.size := block_lt_of_cell X70.out
              have NB := Lib.hid (show a7.block ≠ gb from by
                rcases hD a7 rfl with h | ⟨x, hx, hxb⟩ | ⟨x, hx, hxb⟩
                · omega
                · injection hx with hx; rw [← hxb, ← hx, add_block]; omega
                · injection hx with hx; rw [← hxb, ← hx, add_block]; omega)
              have NX4 := Lib.hid (show a7.block ≠ w4.heap.size from by
                rcases hD a7 rfl with h | ⟨x, hx, hxb⟩ | ⟨x, hx, hxb⟩
                · omega
                · injection hx with hx; rw [← hxb, ← hx, add_block]; omega
                · injection hx with hx; rw [← hxb, ← hx, add_block]; omega)
              have N7 := Lib.hid n7
              clear b7 X60 X61 X62 X63 XF6 R6 B6 JK6 hD n7
              obtain ⟨a', ea, -, p1, -, -⟩ := (HA.out.keep B7.out).at_ q1 _ FD1.out.nd
              injection ea with ea
              subst ea
              obtain ⟨a', ea, -, p2, -, -⟩ := (HB.out.keep B7.out).at_ q2 _ FD2.out.nd
              injection ea with ea
              subst ea
              simp only [fldNd] at p1 p2
              clear FD1 FD2
              cases m1
              · simp only [Bool.false_eq_true, if_false] at p1
                obtain ⟨wz, hwz⟩ : ∃ wz, wz = w7 := ⟨_, rfl⟩
                subst hwz
                have Bz := B7
                have Rz := R7
                have NO := N7
                have Y0 := X70
                have Y1 := X71
                have Y2 := X72
                have Y3 := X73
                clear B7 R7 N7 X70 X71 X72 X73 XF7

                have hgx : gb < w4.heap.size := by omega
                have hgne : gb ≠ w4.heap.size := by omega
                have hxz : w4.heap.size < wz.heap.size := block_lt_of_cell Y0.out
                have hlen := HO1.out
                have hlen0 : 0 < (outJ (i : Int) J i).length := by simp [outJ]
                have c1' : wz.cell? ⟨gb, 1, none⟩ = some (.int .i64 i) := by
                  rw [Rz.out.cellAt 1 (by simp [outJ]; omega)]; rfl
                have f1 := Rz.out.frozenAt 1
                obtain ⟨rowS, grS⟩ := Rz.out.stored 1 (.int .i64 ((i : Int) + 1))
                rw [show (ndCells (outJ (i : Int) J i)).set 1 (.int .i64 ((i : Int) + 1)) = ndCells (outJ ((i : Int) + 1) J i) from rfl] at rowS
                have RS := Lib.hid rowS
                have NS := Lib.hid (NO.out.but grS (fun _ b e => by injection e with e; subst e; exact NB.out))
                have BS := Lib.hid (Bz.out.grown grS Bz.out.size (fun k hk => by injection hk with hk; omega))
                have Z0 := Lib.hid (grS.cell Y0.out (fun e => hgne (Option.some.inj e).symm))
                have Z1 := Lib.hid (grS.cell Y1.out (fun e => hgne (Option.some.inj e).symm))
                have Z2 := Lib.hid (grS.cell Y2.out (fun e => hgne (Option.some.inj e).symm))
                have Z3 := Lib.hid (grS.cell Y3.out (fun e => hgne (Option.some.inj e).symm))
                have hss := BS.out.size
                clear rowS grS Rz NO Bz
                have CN := cells_new (wz.setCell ⟨gb, 1, none⟩ (.int .i64 ((i : Int) + 1))) (ndCells [⟨47, 0, s, ⟨#[]⟩⟩]) 44
                rw [show (wz.setCell ⟨gb, 1, none⟩ (.int .i64 ((i : Int) + 1))).heap.size = wz.heap.size by simp [World.setCell]] at CN
                obtain ⟨y0, y1, y2, y3⟩ := And.intro Y0.out (And.intro Y1.out (And.intro Y2.out Y3.out))
                go_wp2_with (at_builtin; refine wpList_append_own _ rfl _ _ 22 rfl w.heap.size 44 i0 _ 4 48 Tryz.underlying22 hi hz0 hz1 hz2 rfl (by decide) _ (outJ (i : Int) J i).length (ndCells (outJ ((i : Int) + 1) J i)) rfl (RS.out.alloc _) ⟨wz.heap.size, 0, none⟩ 1 1 (ndCells [⟨47, 0, s, ⟨#[]⟩⟩]) rfl rfl CN (ndCells_one _) ?c1 ?c2 ?c3 ?_)
                case c1 => unfold maxLen; omega
                case c2 => omega
                case c3 => simp; omega
                intro v1 w6 hown hgrow _
                have hown' : w6.ownsRow w.heap.size 44 4 v1 (outJ ((i : Int) + 1) J i ++ [(⟨47, 0, s, ⟨#[]⟩⟩ : Nd)]).length (ndCells (outJ ((i : Int) + 1) J i ++ [(⟨47, 0, s, ⟨#[]⟩⟩ : Nd)])) := by
                  rw [ndCells_append, List.length_append]; exact hown
                obtain ⟨A6, c6, rfl, -⟩ := nds_of_own hown'
                have hl6 : (outJ ((i : Int) + 1) J i ++ [(⟨47, 0, s, ⟨#[]⟩⟩ : Nd)]).length = (outJ (i : Int) J i).length + 1 := by rw [List.length_append]; rfl
                rw [hl6] at hown'
                rw [hl6]
                have HL6 := Lib.hid hl6
                have O6 := Lib.hid hown'
                have N6 := Lib.hid ((NS.out.keep (below_box _ _)).but (R := gb) hgrow (fun _ b e => by injection e with e; subst e; exact NB.out))
                have B6 := Lib.hid (below_append BS.out (Nat.le_refl _) RS.out _ hgrow)
                have hs6 := B6.out.size
                have hykl : (joinK k1 k2).flat.length ≤ 2000 := HYL.out
                clear CN hown hown' hgrow hl6 y0 y1 y2 y3 Z0 Z1 Z2 Z3 NS BS RS c1' f1 Y0 Y1 Y2 Y3
                go_wp2_with (at_builtin; refine wpList_append_own _ rfl _ _ 22 rfl w.heap.size 44 i0 _ 4 48 Tryz.underlying22 hi hz0 hz1 hz2 rfl (by decide) _ ((outJ (i : Int) J i).length + 1) (ndCells (outJ ((i : Int) + 1) J i ++ [(⟨47, 0, s, ⟨#[]⟩⟩ : Nd)])) rfl O6.out _ (joinK k1 k2).flat.length _ (ndCells (joinK k1 k2).flat) rfl (ndCells_length _) N6.out.at_.cells (ndCells_one _) ?d1 ?d2 ?d3 ?_)
                case d1 => unfold maxLen; omega
                case d2 => omega
                case d3 => exact hs6
                intro v2 w7 hown2 hgrow2 _
                have B7 := Lib.hid (B6.out.grown hgrow2 hs6 (own_base O6.out))
                have O7 := Lib.hid (show w7.ownsRow w.heap.size 44 4 v2 (outJ ((i + 1 : Nat) : Int) J (i + 1)).length (ndCells (outJ ((i + 1 : Nat) : Int) J (i + 1))) by
                  have e : outJ ((i + 1 : Nat) : Int) J (i + 1) = (outJ ((i : Int) + 1) J i ++ [(⟨47, 0, s, ⟨#[]⟩⟩ : Nd)]) ++ (joinK k1 k2).flat := by
                    rw [HST.out]; simp [outJ, fldNd, emp]
                  rw [e, ndCells_append, List.length_append, HL6.out]
                  exact hown2)
                obtain ⟨A7, c7, rfl, -⟩ := nds_of_own O7.out
                clear hown2 hgrow2 O6 N6 B6
                go_wp2_with fail
                go_roundg (J.length - (i + 1))
                case measure => omega
                case rel => exact ⟨i + 1, by omega, Nat.le_refl _, by rw [HLS.out], O7, B7⟩
              · simp only [if_true] at p1
                cases m2
                · simp only [Bool.false_eq_true, if_false] at p2
                  obtain ⟨wz, hwz⟩ : ∃ wz, wz = w7 := ⟨_, rfl⟩
                  subst hwz
                  have Bz := B7
                  have Rz := R7
                  have NO := N7
                  have Y0 := X70
                  have Y1 := X71
                  have Y2 := X72
                  have Y3 := X73
                  clear B7 R7 N7 X70 X71 X72 X73 XF7

                  have hgx : gb < w4.heap.size := by omega
                  have hgne : gb ≠ w4.heap.size := by omega
                  have hxz : w4.heap.size < wz.heap.size := block_lt_of_cell Y0.out
                  have hlen := HO1.out
                  have hlen0 : 0 < (outJ (i : Int) J i).length := by simp [outJ]
                  have c1' : wz.cell? ⟨gb, 1, none⟩ = some (.int .i64 i) := by
                    rw [Rz.out.cellAt 1 (by simp [outJ]; omega)]; rfl
                  have f1 := Rz.out.frozenAt 1
                  obtain ⟨rowS, grS⟩ := Rz.out.stored 1 (.int .i64 ((i : Int) + 1))
                  rw [show (ndCells (outJ (i : Int) J i)).set 1 (.int .i64 ((i : Int) + 1)) = ndCells (outJ ((i : Int) + 1) J i) from rfl] at rowS
                  have RS := Lib.hid rowS
                  have NS := Lib.hid (NO.out.but grS (fun _ b e => by injection e with e; subst e; exact NB.out))
                  have BS := Lib.hid (Bz.out.grown grS Bz.out.size (fun k hk => by injection hk with hk; omega))
                  have Z0 := Lib.hid (grS.cell Y0.out (fun e => hgne (Option.some.inj e).symm))
                  have Z1 := Lib.hid (grS.cell Y1.out (fun e => hgne (Option.some.inj e).symm))
                  have Z2 := Lib.hid (grS.cell Y2.out (fun e => hgne (Option.some.inj e).symm))
                  have Z3 := Lib.hid (grS.cell Y3.out (fun e => hgne (Option.some.inj e).symm))
                  have hss := BS.out.size
                  clear rowS grS Rz NO Bz
                  have CN := cells_new (wz.setCell ⟨gb, 1, none⟩ (.int .i64 ((i : Int) + 1))) (ndCells [⟨47, 0, s, ⟨#[]⟩⟩]) 44
                  rw [show (wz.setCell ⟨gb, 1, none⟩ (.int .i64 ((i : Int) + 1))).heap.size = wz.heap.size by simp [World.setCell]] at CN
                  obtain ⟨y0, y1, y2, y3⟩ := And.intro Y0.out (And.intro Y1.out (And.intro Y2.out Y3.out))
                  go_wp2_with (at_builtin; refine wpList_append_own _ rfl _ _ 22 rfl w.heap.size 44 i0 _ 4 48 Tryz.underlying22 hi hz0 hz1 hz2 rfl (by decide) _ (outJ (i : Int) J i).length (ndCells (outJ ((i : Int) + 1) J i)) rfl (RS.out.alloc _) ⟨wz.heap.size, 0, none⟩ 1 1 (ndCells [⟨47, 0, s, ⟨#[]⟩⟩]) rfl rfl CN (ndCells_one _) ?c1 ?c2 ?c3 ?_)
                  case c1 => unfold maxLen; omega
                  case c2 => omega
                  case c3 => simp; omega
                  intro v1 w6 hown hgrow _
                  have hown' : w6.ownsRow w.heap.size 44 4 v1 (outJ ((i : Int) + 1) J i ++ [(⟨47, 0, s, ⟨#[]⟩⟩ : Nd)]).length (ndCells (outJ ((i : Int) + 1) J i ++ [(⟨47, 0, s, ⟨#[]⟩⟩ : Nd)])) := by
                    rw [ndCells_append, List.length_append]; exact hown
                  obtain ⟨A6, c6, rfl, -⟩ := nds_of_own hown'
                  have hl6 : (outJ ((i : Int) + 1) J i ++ [(⟨47, 0, s, ⟨#[]⟩⟩ : Nd)]).length = (outJ (i : Int) J i).length + 1 := by rw [List.length_append]; rfl
                  rw [hl6] at hown'
                  rw [hl6]
                  have HL6 := Lib.hid hl6
                  have O6 := Lib.hid hown'
                  have N6 := Lib.hid ((NS.out.keep (below_box _ _)).but (R := gb) hgrow (fun _ b e => by injection e with e; subst e; exact NB.out))
                  have B6 := Lib.hid (below_append BS.out (Nat.le_refl _) RS.out _ hgrow)
                  have hs6 := B6.out.size
                  have hykl : (joinK k1 k2).flat.length ≤ 2000 := HYL.out
                  clear CN hown hown' hgrow hl6 y0 y1 y2 y3 Z0 Z1 Z2 Z3 NS BS RS c1' f1 Y0 Y1 Y2 Y3
                  go_wp2_with (at_builtin; refine wpList_append_own _ rfl _ _ 22 rfl w.heap.size 44 i0 _ 4 48 Tryz.underlying22 hi hz0 hz1 hz2 rfl (by decide) _ ((outJ (i : Int) J i).length + 1) (ndCells (outJ ((i : Int) + 1) J i ++ [(⟨47, 0, s, ⟨#[]⟩⟩ : Nd)])) rfl O6.out _ (joinK k1 k2).flat.length _ (ndCells (joinK k1 k2).flat) rfl (ndCells_length _) N6.out.at_.cells (ndCells_one _) ?d1 ?d2 ?d3 ?_)
                  case d1 => unfold maxLen; omega
                  case d2 => omega
                  case d3 => exact hs6
                  intro v2 w7 hown2 hgrow2 _
                  have B7 := Lib.hid (B6.out.grown hgrow2 hs6 (own_base O6.out))
                  have O7 := Lib.hid (show w7.ownsRow w.heap.size 44 4 v2 (outJ ((i + 1 : Nat) : Int) J (i + 1)).length (ndCells (outJ ((i + 1 : Nat) : Int) J (i + 1))) by
                    have e : outJ ((i + 1 : Nat) : Int) J (i + 1) = (outJ ((i : Int) + 1) J i ++ [(⟨47, 0, s, ⟨#[]⟩⟩ : Nd)]) ++ (joinK k1 k2).flat := by
                      rw [HST.out]; simp [outJ, fldNd, emp]
                    rw [e, ndCells_append, List.length_append, HL6.out]
                    exact hown2)
                  obtain ⟨A7, c7, rfl, -⟩ := nds_of_own O7.out
                  clear hown2 hgrow2 O6 N6 B6
                  go_wp2_with fail
                  go_roundg (J.length - (i + 1))
                  case measure => omega
                  case rel => exact ⟨i + 1, by omega, Nat.le_refl _, by rw [HLS.out], O7, B7⟩
                · simp only [if_true] at p2
                  have x1 := X71.out
                  have xf := XF7.out
                  have hne7 : (a.add (q1 * 4)).block ≠ w4.heap.size := by rw [add_block]; omega
                  have gs : w7.grownBy (w7.setCell ⟨w4.heap.size, 1, none⟩ (.int .i64 1)) (some w4.heap.size) := grown_setCell w7 ⟨w4.heap.size, 1, none⟩ (.int .i64 1)
                  have hgne0 : gb ≠ w4.heap.size := by omega
                  have Bz := Lib.hid (B7.out.grown gs B7.out.size (fun k hk => by injection hk with hk; omega))
                  have Rz := Lib.hid (R7.out.kept gs (.inr (fun e => hgne0 (Option.some.inj e))))
                  have NA7 := Lib.hid (show a7.block ≠ w4.heap.size from NX4.out)
                  have NO := Lib.hid (N7.out.but gs (fun _ b e => by injection e with e; subst e; exact NA7.out))
                  have Y1 := Lib.hid (World.cell?_setCell_same w7 ⟨w4.heap.size, 1, none⟩ (.int .i64 1) x1)
                  have Y0 := Lib.hid ((World.cell?_setCell_other w7 ⟨w4.heap.size, 1, none⟩ ⟨w4.heap.size, 0, none⟩ (.int .i64 1) (by simp)).trans X70.out)
                  have Y2 := Lib.hid ((World.cell?_setCell_other w7 ⟨w4.heap.size, 1, none⟩ ⟨w4.heap.size, 2, none⟩ (.int .i64 1) (by simp)).trans X72.out)
                  have Y3 := Lib.hid ((World.cell?_setCell_other w7 ⟨w4.heap.size, 1, none⟩ ⟨w4.heap.size, 3, none⟩ (.int .i64 1) (by simp)).trans X73.out)
                  have g1 : w7.cell? ⟨gb, 1, none⟩ = some (.int .i64 i) := by
                    rw [R7.out.cellAt 1 (by simp [outJ]; have := HO1.out; omega)]; rfl
                  have gf := R7.out.frozenAt 1
                  have z0 := X70.out
                  have z2 := X72.out
                  have z3 := X73.out
                  clear gs B7 R7 N7 X70 X71 X72 X73 XF7

                  have hgx : gb < w4.heap.size := by omega
                  have hgne : gb ≠ w4.heap.size := by omega
                  have hxz : w4.heap.size < (w7.setCell ⟨w4.heap.size, 1, none⟩ (.int .i64 1)).heap.size := block_lt_of_cell Y0.out
                  have hlen := HO1.out
                  have hlen0 : 0 < (outJ (i : Int) J i).length := by simp [outJ]
                  have c1' : (w7.setCell ⟨w4.heap.size, 1, none⟩ (.int .i64 1)).cell? ⟨gb, 1, none⟩ = some (.int .i64 i) := by
                    rw [Rz.out.cellAt 1 (by simp [outJ]; omega)]; rfl
                  have f1 := Rz.out.frozenAt 1
                  obtain ⟨rowS, grS⟩ := Rz.out.stored 1 (.int .i64 ((i : Int) + 1))
                  rw [show (ndCells (outJ (i : Int) J i)).set 1 (.int .i64 ((i : Int) + 1)) = ndCells (outJ ((i : Int) + 1) J i) from rfl] at rowS
                  have RS := Lib.hid rowS
                  have NS := Lib.hid (NO.out.but grS (fun _ b e => by injection e with e; subst e; exact NB.out))
                  have BS := Lib.hid (Bz.out.grown grS Bz.out.size (fun k hk => by injection hk with hk; omega))
                  have Z0 := Lib.hid (grS.cell Y0.out (fun e => hgne (Option.some.inj e).symm))
                  have Z1 := Lib.hid (grS.cell Y1.out (fun e => hgne (Option.some.inj e).symm))
                  have Z2 := Lib.hid (grS.cell Y2.out (fun e => hgne (Option.some.inj e).symm))
                  have Z3 := Lib.hid (grS.cell Y3.out (fun e => hgne (Option.some.inj e).symm))
                  have hss := BS.out.size
                  clear rowS grS Rz NO Bz
                  have CN := cells_new ((w7.setCell ⟨w4.heap.size, 1, none⟩ (.int .i64 1)).setCell ⟨gb, 1, none⟩ (.int .i64 ((i : Int) + 1))) (ndCells [⟨47, 1, s, ⟨#[]⟩⟩]) 44
                  rw [show ((w7.setCell ⟨w4.heap.size, 1, none⟩ (.int .i64 1)).setCell ⟨gb, 1, none⟩ (.int .i64 ((i : Int) + 1))).heap.size = w7.heap.size by simp [World.setCell]] at CN
                  obtain ⟨y0, y1, y2, y3⟩ := And.intro Y0.out (And.intro Y1.out (And.intro Y2.out Y3.out))
                  go_wp2_with (at_builtin; refine wpList_append_own _ rfl _ _ 22 rfl w.heap.size 44 i0 _ 4 48 Tryz.underlying22 hi hz0 hz1 hz2 rfl (by decide) _ (outJ (i : Int) J i).length (ndCells (outJ ((i : Int) + 1) J i)) rfl (RS.out.alloc _) ⟨w7.heap.size, 0, none⟩ 1 1 (ndCells [⟨47, 1, s, ⟨#[]⟩⟩]) rfl rfl CN (ndCells_one _) ?c1 ?c2 ?c3 ?_)
                  case c1 => unfold maxLen; omega
                  case c2 => omega
                  case c3 => simp; omega
                  intro v1 w6 hown hgrow _
                  have hown' : w6.ownsRow w.heap.size 44 4 v1 (outJ ((i : Int) + 1) J i ++ [(⟨47, 1, s, ⟨#[]⟩⟩ : Nd)]).length (ndCells (outJ ((i : Int) + 1) J i ++ [(⟨47, 1, s, ⟨#[]⟩⟩ : Nd)])) := by
                    rw [ndCells_append, List.length_append]; exact hown
                  obtain ⟨A6, c6, rfl, -⟩ := nds_of_own hown'
                  have hl6 : (outJ ((i : Int) + 1) J i ++ [(⟨47, 1, s, ⟨#[]⟩⟩ : Nd)]).length = (outJ (i : Int) J i).length + 1 := by rw [List.length_append]; rfl
                  rw [hl6] at hown'
                  rw [hl6]
                  have HL6 := Lib.hid hl6
                  have O6 := Lib.hid hown'
                  have N6 := Lib.hid ((NS.out.keep (below_box _ _)).but (R := gb) hgrow (fun _ b e => by injection e with e; subst e; exact NB.out))
                  have B6 := Lib.hid (below_append BS.out (Nat.le_refl _) RS.out _ hgrow)
                  have hs6 := B6.out.size
                  have hykl : (joinK k1 k2).flat.length ≤ 2000 := HYL.out
                  clear CN hown hown' hgrow hl6 y0 y1 y2 y3 Z0 Z1 Z2 Z3 NS BS RS c1' f1 Y0 Y1 Y2 Y3
                  go_wp2_with (at_builtin; refine wpList_append_own _ rfl _ _ 22 rfl w.heap.size 44 i0 _ 4 48 Tryz.underlying22 hi hz0 hz1 hz2 rfl (by decide) _ ((outJ (i : Int) J i).length + 1) (ndCells (outJ ((i : Int) + 1) J i ++ [(⟨47, 1, s, ⟨#[]⟩⟩ : Nd)])) rfl O6.out _ (joinK k1 k2).flat.length _ (ndCells (joinK k1 k2).flat) rfl (ndCells_length _) N6.out.at_.cells (ndCells_one _) ?d1 ?d2 ?d3 ?_)
                  case d1 => unfold maxLen; omega
                  case d2 => omega
                  case d3 => exact hs6
                  intro v2 w7 hown2 hgrow2 _
                  have B7 := Lib.hid (B6.out.grown hgrow2 hs6 (own_base O6.out))
                  have O7 := Lib.hid (show w7.ownsRow w.heap.size 44 4 v2 (outJ ((i + 1 : Nat) : Int) J (i + 1)).length (ndCells (outJ ((i + 1 : Nat) : Int) J (i + 1))) by
                    have e : outJ ((i + 1 : Nat) : Int) J (i + 1) = (outJ ((i : Int) + 1) J i ++ [(⟨47, 1, s, ⟨#[]⟩⟩ : Nd)]) ++ (joinK k1 k2).flat := by
                      rw [HST.out]; simp [outJ, fldNd, emp]
                    rw [e, ndCells_append, List.length_append, HL6.out]
                    exact hown2)
                  obtain ⟨A7, c7, rfl, -⟩ := nds_of_own O7.out
                  clear hown2 hgrow2 O6 N6 B6
                  go_wp2_with fail
                  go_roundg (J.length - (i + 1))
                  case measure => omega
                  case rel => exact ⟨i + 1, by omega, Nat.le_refl _, by rw [HLS.out], O7, B7⟩
        · have hiE : i = J.length := by omega
          have hs0 : s = ⟨#[]⟩ := HNM.out.2 hiE
          subst hs0
          have HA2 := Lib.hid (show outJ (i : Int) J i = (Kd.fs jf).flat by rw [hiE]; exact HALL.out)
          obtain ⟨A5, c5, hu5, -⟩ := nds_of_own hRk.out
          subst hu5
          have hsz : (Kd.fs jf).sz ≤ 1000000 := by have := HJS.out; simp only [Kd.sz]; omega
          have NK := Lib.hid (HKV.out hsz)
          have HLL := Lib.hid (HOL.out i i)
          clear hsz HNM HJA HLN HOL
          go_wp2_with fail
          go_ret
          have R9 := hRk.out
          have hl9 := HLL.out
          rw [HA2.out] at R9 hl9
          refine ⟨A5, c5, by rw [HA2.out]; rfl, ns_of_row R9 (by omega) NK.out, BK.out, fun y hy => .inl ?_⟩
          subst hy
          exact own_base R9 _ rfl
/-- JoinKinds. -/
theorem ref_Join : ∀ N : Nat, JnRC N
  | 0 => fun k1 _ h => by cases k1 <;> simp [Kd.sz] at h
  | N + 1 => by
    intro k1 k2 hsz hs2 v1 v2 A B n c m d w h k
    obtain ⟨a, ea, hn1, d0, d2⟩ := head_at h
    obtain ⟨b, eb, hm1, e0, e2⟩ := head_at k
    have hl : n ≤ 4000 := by rw [h.len, flat_len]; omega
    have hl2 : m ≤ 4000 := by rw [k.len, flat_len]; omega
    by_cases h49 : opN k1 = 49
    · rw [none_op v1 h49, join_comm (by trivial) v2.ok, join_none rfl, ea, eb]
      refine (rj_right a b n c m d _ _ _ _ w hn1 hm1 hl hl2 h.cap k.cap d0 d2 e0 e2 h49).mono ?_
      rintro e w' ⟨rfl, hb⟩
      subst eb
      exact ⟨some b, d, by rw [k.len], by have := k.keep hb; rwa [k.len] at this, hb, fun x hx => .inr (.inr ⟨b, rfl, by injection hx with hx; rw [hx]⟩)⟩
    by_cases g49 : opN k2 = 49
    · rw [none_op v2 g49, join_none rfl, ea, eb]
      refine (rj_left a b n c m d _ _ _ _ w hn1 hm1 hl hl2 h.cap k.cap d0 d2 e0 e2 h49 g49).mono ?_
      rintro e w' ⟨rfl, hb⟩
      subst ea
      exact ⟨some a, c, by rw [h.len], by have := h.keep hb; rwa [h.len] at this, hb, fun x hx => .inr (.inl ⟨a, rfl, by injection hx with hx; rw [hx]⟩)⟩
    by_cases hd : opN k1 ≠ opN k2 ∨ nmN k1 ≠ nmN k2
    · have hr : joinK k1 k2 = .base 48 := by
        by_cases a48 : opN k1 = 48
        · rw [any_op v1 a48, join_comm (by trivial) v2.ok, join_any rfl]
        · by_cases b48 : opN k2 = 48
          · rw [any_op v2 b48, join_any rfl]
          · exact join_no v1 v2 h49 b48 a48 g49 hd
      rw [hr, ea, eb]
      refine (rj_any a b n c m d _ _ _ _ w hn1 hm1 hl hl2 h.cap k.cap d0 d2 e0 e2 h49 g49 ?_).mono fun e w' hh => jn_weak hh
      by_cases ho : opN k1 = opN k2
      · refine .inr ⟨hd.resolve_left (fun q => q ho), fun e45 => ?_, fun e46 => ?_⟩
        · refine hd.elim (fun q => q ho) fun q => q ?_
          have : ∀ k : Kd, k.valid → opN k = 45 → nmN k = emp := fun k v e => by
            cases k with
            | base x => rfl
            | ent s => simp [opN] at e
            | set q => rfl
            | fs f => rfl
          rw [this k1 v1 e45, this k2 v2 (ho ▸ e45)]
        · refine hd.elim (fun q => q ho) fun q => q ?_
          have : ∀ k : Kd, k.valid → opN k = 46 → nmN k = emp := fun k v e => by
            cases k with
            | base x => rfl
            | ent s => simp [opN] at e
            | set q => rfl
            | fs f => rfl
          rw [this k1 v1 e46, this k2 v2 (ho ▸ e46)]
      · exact .inl ho
    · have ho : opN k1 = opN k2 := Decidable.byContradiction fun e => hd (.inl e)
      have hs : nmN k1 = nmN k2 := Decidable.byContradiction fun e => hd (.inr e)
      have same : opN k1 ≠ 45 → opN k1 ≠ 46 → joinK k1 k2 = k1 → Calls Tryz.prog 55 #[.slice A n c, .slice B m d] w (JnR w (joinK k1 k2) fun g => InB A g ∨ InB B g) := fun q1 q2 hr => by
        rw [hr, ea, eb]
        refine (rj_same a b n c m d _ _ _ _ w hn1 hm1 hl hl2 h.cap k.cap d0 d2 e0 e2 h49 q1 q2 ho hs).mono ?_
        rintro e w' ⟨rfl, hb⟩
        subst ea
        exact ⟨some a, c, by rw [h.len], by have := h.keep hb; rwa [h.len] at this, hb, fun x hx => .inr (.inl ⟨a, rfl, by injection hx with hx; rw [hx]⟩)⟩
      rcases same_head v1 v2 ho hs with ⟨x, rfl, rfl⟩ | ⟨s, rfl, rfl⟩ | ⟨p, q, rfl, rfl⟩ | ⟨f, g, rfl, rfl⟩
      · have hx := opN_base v1
        exact same (by have : opN (.base x) = x := rfl; omega) (by have : opN (.base x) = x := rfl; omega) (join_self v1.ok)
      · exact same (show (44 : Int) ≠ 45 by decide) (show (44 : Int) ≠ 46 by decide) (join_self v1.ok)
      · have hr : joinK (.set p) (.set q) = .set (joinK p q) := by simp [joinK, isAny, isNone]
        simp only [Kd.sz] at hsz hs2
        rw [hr]
        exact (rj_set N (ref_Join N) p q (by omega) (by omega) v1 v2 A B n c m d w h k).mono fun e w' hh => jn_weak hh
      · have hr : joinK (.fs f) (.fs g) = .fs (joinF f g (restF g f)) := by simp [joinK, isAny, isNone]
        simp only [Kd.sz] at hsz hs2
        rw [hr]
        have HR := Lib.hid (rj_rec N (ref_Join N) f g (by omega) (by omega) v1 v2 A B n c m d w h k)
        have hnc := h.cap
        have hmd := k.cap
        subst ea eb
        have k0 := cell_regrown d0
        have k1 := cell_regrown e0
        simp only [opN] at d0 e0
        clear h k same hr hsz hs2 v1 v2 h49 g49 hd ho hs d2 e2
        go_enter Tryz.func55, Tryz.ntmps55
        go_wp2_with fail
        refine HR.out.mono ?_
        rintro e w1 ⟨A1, c1, rfl, h1, h2, h3⟩
        have H1 := Lib.hid h1
        have H2 := Lib.hid h2
        have H3 := Lib.hid h3
        clear h1 h2 h3
        go_wp2_with fail
        go_ret
        exact jn_weak ⟨A1, c1, rfl, H1.out, H2.out, H3.out⟩
end Go.Proofs.YtmekockjgldndaaGreatDoor
namespace Go.Proofs.YtmekockjgldndaaGreatDoor
open Go.RowKit Go.Wk Go.Sort
set_option maxRecDepth 100000

/-- What own tells. -/
def OwnPost (w : World) (k : Kd) (e : Ending) (w' : World) : Prop := ∃ u, e = .returned (.agg u.toArray) ∧ KAt w' (fun b => w.heap.size ≤ b) k u ∧ Below w.heap.size w w'
def OwnC (N : Nat) : Prop := ∀ (A : Option Addr) (n c : Nat) (P : List Nd) (w : World), P.length ≤ N → P.length ≤ 200 → Ns w A n c P → IsV P → Calls Tryz.prog 54 #[.slice A n c] w (OwnPost w (ownV P))
set_option maxHeartbeats 4000000 in
theorem own_leaf (A : Option Addr) (n c : Nat) (P : List Nd) (w : World) (hns : Ns w A n c P) (hV : IsV P) (h5 : headOp P ≠ 5) (h6 : headOp P ≠ 6) :
    Calls Tryz.prog 54 #[.slice A n c] w (OwnPost w (ownV P)) := by
  have hop := isV_op hV
  have e1 := @ownV_1 P
  have e2 := @ownV_2 P
  have e3 := @ownV_3 P
  have e4 := @ownV_4 P
  generalize ownV P = kk at *
  obtain ⟨x, r, rfl, -, -⟩ := isV_head hV
  change x.op = 1 → _ at e1
  change x.op = 2 → _ at e2
  change x.op = 3 → _ at e3
  change x.op = 4 → kk = .ent x.s at e4
  change x.op = 1 ∨ x.op = 2 ∨ x.op = 3 ∨ x.op = 4 ∨ x.op = 5 ∨ x.op = 6 at hop
  change x.op ≠ 5 at h5
  change x.op ≠ 6 at h6
  obtain ⟨a, rfl, q0, q1, q2, q3⟩ := hns.at_ 0 x rfl
  rw [show a.add (0 * 4) = a from rfl] at q0 q1 q2 q3
  have hl : a.block < w.heap.size := block_lt_of_cell q0
  have hn1 : 1 ≤ n := by rw [hns.len, List.length_cons]; omega
  have hm := hns.max
  unfold maxLen at hm
  have HB := Lib.hid (fun o1 o2 => (below_box w o1).trans ((below_box (w.alloc o1) o2).mono (by simp)))
  clear hns hV
  rcases hop with h | h | h | h | h | h
  · rw [e1 h]
    rw [h] at q0
    clear h h5 h6 e1 e2 e3 e4
    go_enter Tryz.func54, Tryz.ntmps54
    go_wp2_with fail
    refine bodyPost_ret (v := .agg #[.int .i64 41, .int .i64 0, .string ⟨#[]⟩, .string ⟨#[]⟩, .pointer none, .slice none 0 0]) (by simp [results, Tryz.results54, go_sem]) rfl ?_
    exact ⟨[.int .i64 41, .int .i64 0, .string ⟨#[]⟩, .string ⟨#[]⟩, .pointer none, .slice none 0 0], rfl, ⟨0, rfl⟩, HB.out _ _⟩
  · rw [e2 h]
    rw [h] at q0
    clear h h5 h6 e1 e2 e3 e4
    go_enter Tryz.func54, Tryz.ntmps54
    go_wp2_with fail
    refine bodyPost_ret (v := .agg #[.int .i64 42, .int .i64 0, .string ⟨#[]⟩, .string ⟨#[]⟩, .pointer none, .slice none 0 0]) (by simp [results, Tryz.results54, go_sem]) rfl ?_
    exact ⟨[.int .i64 42, .int .i64 0, .string ⟨#[]⟩, .string ⟨#[]⟩, .pointer none, .slice none 0 0], rfl, ⟨0, rfl⟩, HB.out _ _⟩
  · rw [e3 h]
    rw [h] at q0
    clear h h5 h6 e1 e2 e3 e4
    go_enter Tryz.func54, Tryz.ntmps54
    go_wp2_with fail
    refine bodyPost_ret (v := .agg #[.int .i64 43, .int .i64 0, .string ⟨#[]⟩, .string ⟨#[]⟩, .pointer none, .slice none 0 0]) (by simp [results, Tryz.results54, go_sem]) rfl ?_
    exact ⟨[.int .i64 43, .int .i64 0, .string ⟨#[]⟩, .string ⟨#[]⟩, .pointer none, .slice none 0 0], rfl, ⟨0, rfl⟩, HB.out _ _⟩
  · rw [e4 h]
    rw [h] at q0
    clear h h5 h6 e1 e2 e3 e4
    go_enter Tryz.func54, Tryz.ntmps54
    go_wp2_with fail
    refine bodyPost_ret (v := .agg #[.int .i64 44, .int .i64 0, .string x.s, .string ⟨#[]⟩, .pointer none, .slice none 0 0]) (by simp [results, Tryz.results54, go_sem]) rfl ?_
    exact ⟨[.int .i64 44, .int .i64 0, .string x.s, .string ⟨#[]⟩, .pointer none, .slice none 0 0], rfl, ⟨0, rfl⟩, HB.out _ _⟩
  · exact absurd h h5
  · exact absurd h h6
theorem fold_snoc {L : List (List Nd)} {k : Nat} (h : k < L.length) : ((L.take (k + 1)).map ownV).foldl joinK (.base 49) = joinK (((L.take k).map ownV).foldl joinK (.base 49)) (ownV L[k]) := by
  rw [List.take_succ_eq_append_getElem h, List.map_append, List.foldl_append]
  rfl
theorem fold_sz {L : List (List Nd)} (hL : ∀ Q ∈ L, IsV Q) (k : Nat) : (((L.take k).map ownV).foldl joinK (.base 49)).sz ≤ 1 + 2 * L.flatten.length := by
  have h1 := join_all_sz ((L.take k).map ownV) (.base 49) trivial (fun y hy => by
    obtain ⟨Q, hQ, rfl⟩ := List.mem_map.1 hy
    exact own_ok (hL Q (List.mem_of_mem_take hQ)))
  have h2 : (((L.take k).map ownV).map Kd.sz).sum ≤ 2 * (L.take k).flatten.length := by
    rw [flat_sum, List.map_map, ← sum_two]
    exact sum_le _ _ _ fun Q hQ => own_sz (hL Q (List.mem_of_mem_take hQ))
  have h3 : (L.take k).flatten.length ≤ L.flatten.length := by
    have e : L.flatten = (L.take k).flatten ++ (L.drop k).flatten := by rw [← List.flatten_append, List.take_append_drop]
    rw [e, List.length_append]; omega
  have h4 : (Kd.base 49).sz = 1 := rfl
  omega
theorem fold_valid {L : List (List Nd)} (hL : ∀ Q ∈ L, IsV Q) (k : Nat) : (((L.take k).map ownV).foldl joinK (.base 49)).valid :=
  join_all_valid _ _ (by unfold Kd.valid baseOp; omega) (fun y hy => by
    obtain ⟨Q, hQ, rfl⟩ := List.mem_map.1 hy
    exact own_valid (hL Q (List.mem_of_mem_take hQ)))
end Go.Proofs.YtmekockjgldndaaGreatDoor
