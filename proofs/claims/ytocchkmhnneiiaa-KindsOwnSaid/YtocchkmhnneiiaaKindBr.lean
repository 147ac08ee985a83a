/-
  kinds.below: of records.
-/
import Derived.Test.YtocchkmhnneiiaaKindBel
import Derived.Test.YtocchkmhnneiiaaKindAll
namespace Go.Proofs.Ytocchkmhnneiiaa
open Go.RowKit Go.Wk Go.Sort
set_option maxRecDepth 100000

set_option maxHeartbeats 8000000 in
theorem below_recs (N : Nat) (ih : BelC N) (f g : Fl) (va vb : List Value) (w : World) (B : Nat → Prop) (h : f.sz ≤ N) (hp : f.sz ≤ 90000) (hq : g.sz ≤ 90000) (ha : KAt w B (.fs f) va) (hb : KAt w B (.fs g) vb) (vf : (Kd.fs f).valid) (vg : (Kd.fs g).valid) (hB : ∀ b, B b → b < w.heap.size) :
    Calls Try.prog 18 #[.agg va.toArray, .agg vb.toArray] w fun e w' => e = .returned (.bool (belowF f g && mustF g f)) ∧ Below w.heap.size w w' := by
  have of := valid_fs.1 vf
  have og := valid_fs.1 vg
  clear vf vg
  obtain ⟨n1, A1, c1, rfl, hc1, hm1, k1⟩ := ha
  obtain ⟨n2, A2, c2, rfl, hc2, hm2, k2⟩ := hb
  have L1 := len_sz f
  have L2 := len_sz g
  rw [len_list] at hc1 hc2 L1 L2 ⊢
  rw [len_list]
  obtain ⟨m1, hn1⟩ : ∃ m1, m1 = f.list.length := ⟨_, rfl⟩
  obtain ⟨m2, hn2⟩ : ∃ m2, m2 = g.list.length := ⟨_, rfl⟩
  rw [← hn1] at hc1 L1 ⊢
  rw [← hn2] at hc2 L2 ⊢
  have KF := Lib.hid k1
  have KG := Lib.hid k2
  have HN1 := Lib.hid hn1
  have HN2 := Lib.hid hn2
  have HBD := Lib.hid hB
  have IH := Lib.hid ih
  clear k1 k2 hn1 hn2 hB ih
  have HB := Lib.hid ((below_box w (.cells #[.int .i64 46, .int .i64 n1, .string ⟨#[]⟩, .string ⟨#[]⟩, .pointer none, .slice A1 m1 c1] 39)).trans ((below_box _ (.cells #[.int .i64 46, .int .i64 n2, .string ⟨#[]⟩, .string ⟨#[]⟩, .pointer none, .slice A2 m2 c2] 39)).mono (by simp)))
  have hsz : (w.alloc (.cells #[.int .i64 46, .int .i64 n1, .string ⟨#[]⟩, .string ⟨#[]⟩, .pointer none, .slice A1 m1 c1] 39)).heap.size = w.heap.size + 1 := by simp
  have X1 := (bx6_new w (.int .i64 46) (.int .i64 n1) (.string ⟨#[]⟩) (.string ⟨#[]⟩) (.pointer none) (.slice A1 m1 c1) 39).keep (below_box _ (.cells #[.int .i64 46, .int .i64 n2, .string ⟨#[]⟩, .string ⟨#[]⟩, .pointer none, .slice A2 m2 c2] 39))
  have X2 := bx6_new (w.alloc (.cells #[.int .i64 46, .int .i64 n1, .string ⟨#[]⟩, .string ⟨#[]⟩, .pointer none, .slice A1 m1 c1] 39)) (.int .i64 46) (.int .i64 n2) (.string ⟨#[]⟩) (.string ⟨#[]⟩) (.pointer none) (.slice A2 m2 c2) 39
  rw [hsz] at X2
  obtain ⟨res, hres⟩ : ∃ res, res = (belowF f g && mustF g f) := ⟨_, rfl⟩
  have HRES := Lib.hid (hres.trans (by rw [belowF_all, mustF_all]))
  rw [← hres]
  clear hres
  change Calls Try.prog 18 #[.agg #[.int .i64 46, .int .i64 n1, .string ⟨#[]⟩, .string ⟨#[]⟩, .pointer none, .slice A1 m1 c1], .agg #[.int .i64 46, .int .i64 n2, .string ⟨#[]⟩, .string ⟨#[]⟩, .pointer none, .slice A2 m2 c2]] w _
  go_enter Try.func18, Try.ntmps18
  go_wp2_with fail
  obtain ⟨w2, hw2⟩ : ∃ w2, (w.alloc (.cells #[.int .i64 46, .int .i64 n1, .string ⟨#[]⟩, .string ⟨#[]⟩, .pointer none, .slice A1 m1 c1] 39)).alloc (.cells #[.int .i64 46, .int .i64 n2, .string ⟨#[]⟩, .string ⟨#[]⟩, .pointer none, .slice A2 m2 c2] 39) = w2 := ⟨_, rfl⟩
  have HZ := Lib.hid (show w2.heap.size = w.heap.size + 2 by rw [← hw2]; simp)
  rw [hw2] at X1 X2 HB ⊢
  have HX1 := Lib.hid X1
  have HX2 := Lib.hid X2
  clear hw2 hsz X1 X2
  go_loopw [58] (fun i wr => ∃ k : Nat, i = .int .i64 k ∧ k ≤ m1 ∧ Hid ((f.list.take k).all (oneIn g) = true) ∧ Hid (Below w2.heap.size w2 wr)) (fun i _ => m1 - (intOf i).toNat)
  case atStart => exact ⟨0, rfl, Nat.zero_le _, Lib.hid rfl, Lib.hid (Below.refl _ _)⟩
  case round =>
    obtain ⟨k, rfl, hk, hAll, hW⟩ := hrel
    have HX1r := Lib.hid (HX1.out.keep hW.out)
    have HX2r := Lib.hid (HX2.out.keep hW.out)
    have HBr := Lib.hid (HB.out.trans (hW.out.mono (by have := HZ.out; omega)))
    by_cases hlt : k < m1
    · have hkl : k < f.list.length := by rw [← HN1.out]; exact hlt
      obtain ⟨a, rfl, hfd⟩ := ((KF.out.cong (w' := wr) (fun b hb => HBr.out.block b (HBD.out b hb))).at) k _ (List.getElem?_eq_getElem hkl)
      rw [Nat.zero_add] at hfd
      have HBAD := Lib.hid (fun hx => all_bad (p := oneIn g) hkl hx)
      have HGOOD := Lib.hid (fun hx => all_take_succ (p := oneIn g) hkl hAll.out hx)
      have HYO := Lib.hid (show f.list[k].2.2.valid ∧ f.list[k].2.2.sz < f.sz from by
        have hfi := (find_list of.1 (s := f.list[k].1) (m := f.list[k].2.1) (k := f.list[k].2.2)).2 (List.getElem_mem hkl)
        exact ⟨find_valid of.2 hfi, find_sz hfi⟩)
      obtain ⟨y, hy⟩ : ∃ y, y = f.list[k] := ⟨_, rfl⟩
      rw [← hy] at hfd HBAD HGOOD HYO
      clear hy
      obtain ⟨o, nn, s0, t0, p, A', m', c', hkat, q0, q1, q2, q3, q4, q5, q6, q7⟩ := hfd.cells
      have HKY := Lib.hid hkat
      clear hfd hkat
      have hm1w : m1 ≤ 100000 := by omega
      have hm2w : m2 ≤ 100000 := by omega
      obtain ⟨x0, x1, x2, x3, x4, x5, -, -, -, -, -, -⟩ := HX2r.out
      have hl2 : w.heap.size + 1 < wr.heap.size := block_lt_of_cell x0
      have Ba := below_box wr (.cells #[.string y.1, .bool y.2.1, .int .i64 o, .int .i64 nn, .string s0, .string t0, .pointer p, .slice A' m' c'] 51)
      have Y4 := bx8_new wr (.string y.1) (.bool y.2.1) (.int .i64 o) (.int .i64 nn) (.string s0) (.string t0) (.pointer p) (.slice A' m' c') 51
      go_wp2_with fail
      obtain ⟨wa, hwa⟩ : ∃ wa, wr.alloc (.cells #[.string y.1, .bool y.2.1, .int .i64 o, .int .i64 nn, .string s0, .string t0, .pointer p, .slice A' m' c'] 51) = wa := ⟨_, rfl⟩
      rw [hwa] at Ba Y4 ⊢
      clear hwa x0 x1 x2 x3 x4 x5 q0 q1 q2 q3 q4 q5 q6 q7
      have hBa : Below w.heap.size w wa := HBr.out.trans (Ba.mono HBr.out.size)
      refine (kind_find A2 m2 c2 g B _ _ _ _ _ y.1 wa (KG.out.cong (fun b hb => hBa.block b (HBD.out b hb))) HN2.out hm2w hc2 og.1 (fun b hb => Nat.lt_of_lt_of_le (HBD.out b hb) hBa.size)).mono ?_
      rintro e w4 ⟨b4, hpost⟩
      have Y5 := Lib.hid (Y4.keep b4)
      have BW4 := Lib.hid (hW.out.trans ((Ba.trans (b4.mono Ba.size)).mono hW.out.size))
      have BW5 := BW4
      have HKY4 := Lib.hid (HKY.out.cong (w' := w4) fun b hb => (Ba.trans (b4.mono Ba.size)).block b (Nat.lt_of_lt_of_le (HBD.out b hb) HBr.out.size))
      have HS4 := Lib.hid (show w2.heap.size ≤ w4.heap.size from BW4.out.size)
      have HBw4 := Lib.hid (show w.heap.size ≤ w4.heap.size by have := HZ.out; have := HS4.out; omega)
      clear b4 Ba Y4 hBa hW
      obtain ⟨y0, y1, y2, y3, y4, y5, y6, y7, -, -, -, -, -, -, -, -⟩ := Y5.out
      have hl5 : wr.heap.size < w4.heap.size := block_lt_of_cell y0
      rcases hfg : g.find y.1 with _ | ⟨mm, k'⟩
      · rw [hfg] at hpost
        have hpost : e = .returned (.tuple #[.agg #[.string ⟨#[]⟩, .bool false, .int .i64 0, .int .i64 0, .string ⟨#[]⟩, .string ⟨#[]⟩, .pointer none, .slice none 0 0], .bool false]) := hpost
        subst hpost
        have HX := Lib.hid (show oneIn g y = false by unfold oneIn; rw [hfg])
        obtain rfl : res = false := by rw [HRES.out, HBAD.out HX.out]; rfl
        clear hfg
        go_wp2_with fail
        go_ret
        exact ⟨rfl, HB.out.trans ((BW5.out.trans ((below_box _ _).mono HS4.out)).mono (by have := HZ.out; omega))⟩
      · rw [hfg] at hpost
        obtain ⟨u, rfl, hk'⟩ := hpost
        have HFG := Lib.hid hfg
        have HKO := Lib.hid (show k'.valid ∧ k'.sz < g.sz from ⟨find_valid og.2 hfg, find_sz hfg⟩)
        obtain ⟨o2, n2', s2, t2, p2, A2', m2', c2', rfl⟩ := kat_six hk'
        have HC := Lib.hid (fun w' (hb : Below w4.heap.size w4 w') => IH.out y.2.2 k' _ _ w' B (by have := HYO.out.2; omega) (by have := HYO.out.2; omega) (by have := HKO.out.2; omega) (HKY4.out.cong fun b hb' => hb.block b (Nat.lt_of_lt_of_le (HBD.out b hb') HBw4.out)) (hk'.cong fun b hb' => hb.block b (Nat.lt_of_lt_of_le (HBD.out b hb') HBw4.out)) HYO.out.1 HKO.out.1 (fun b hb' => Nat.lt_of_lt_of_le (HBD.out b hb') (Nat.le_trans HBw4.out hb.size)))
        clear hk' hfg
        cases hm' : mm with
        | true =>
          subst hm'
          cases hym : y.2.1 with
          | false =>
            rw [hym] at y1
            have HX := Lib.hid (show oneIn g y = false by unfold oneIn; rw [HFG.out]; simp [hym])
            obtain rfl : res = false := by rw [HRES.out, HBAD.out HX.out]; rfl
            go_wp2_with fail
            go_ret
            exact ⟨rfl, HB.out.trans ((BW5.out.trans ((below_box _ _).mono HS4.out)).mono (by have := HZ.out; omega))⟩
          | true =>
            rw [hym] at y1
            go_wp2_with fail
            refine (HC.out _ (below_box _ _)).mono ?_
            rintro e w6 ⟨rfl, b6⟩
            have B6 := Lib.hid (BW5.out.trans (((below_box _ _).trans (b6.mono (by simp))).mono HS4.out))
            clear b6 HC
            rcases hr : belowK y.2.2 k' with _ | _
            · have HX := Lib.hid (show oneIn g y = false by unfold oneIn; rw [HFG.out]; simp [hr])
              obtain rfl : res = false := by rw [HRES.out, HBAD.out HX.out]; rfl
              go_wp2_with fail
              go_ret
              exact ⟨rfl, HB.out.trans (B6.out.mono (by have := HZ.out; omega))⟩
            · have HX := Lib.hid (show oneIn g y = true by unfold oneIn; rw [HFG.out]; simp [hr, hym])
              have HG2 := Lib.hid (HGOOD.out HX.out)
              go_wp2_with fail
              go_roundw
              case rel => exact ⟨k + 1, by go_num, hlt, HG2, B6⟩
              case measure => simp [intOf]; omega
        | false =>
          subst hm'
          go_wp2_with fail
          refine (HC.out _ (below_box _ _)).mono ?_
          rintro e w6 ⟨rfl, b6⟩
          have B6 := Lib.hid (BW5.out.trans (((below_box _ _).trans (b6.mono (by simp))).mono HS4.out))
          clear b6 HC
          rcases hr : belowK y.2.2 k' with _ | _
          · have HX := Lib.hid (show oneIn g y = false by unfold oneIn; rw [HFG.out]; simp [hr])
            obtain rfl : res = false := by rw [HRES.out, HBAD.out HX.out]; rfl
            go_wp2_with fail
            go_ret
            exact ⟨rfl, HB.out.trans (B6.out.mono (by have := HZ.out; omega))⟩
          · have HX := Lib.hid (show oneIn g y = true by unfold oneIn; rw [HFG.out]; simp [hr])
            have HG2 := Lib.hid (HGOOD.out HX.out)
            go_wp2_with fail
            go_roundw
            case rel => exact ⟨k + 1, by go_num, hlt, HG2, B6⟩
            case measure => simp [intOf]; omega
    · have hk1 : k = m1 := by omega
      have HA1 := Lib.hid (show f.list.all (oneIn g) = true by
        have := hAll.out
        rwa [hk1, HN1.out, List.take_length] at this)
      clear hAll hk1
      obtain ⟨x0, x1, x2, x3, x4, x5, -, -, -, -, -, -⟩ := HX1r.out
      obtain ⟨z0, z1, z2, z3, z4, z5, -, -, -, -, -, -⟩ := HX2r.out
      have hm1w : m1 ≤ 100000 := by omega
      have hm2w : m2 ≤ 100000 := by omega
      go_wp2_with fail
      go_loopw [92] (fun i wr2 => ∃ k : Nat, i = .int .i64 k ∧ k ≤ m2 ∧ Hid ((g.list.take k).all (fun y : Kfd => !y.2.1 || (f.find y.1).isSome) = true) ∧ Hid (Below w2.heap.size w2 wr2)) (fun i _ => m2 - (intOf i).toNat)
      case atStart => exact ⟨0, rfl, Nat.zero_le _, Lib.hid rfl, hW⟩
      case round =>
        clear x0 x1 x2 x3 x4 x5 z0 z1 z2 z3 z4 z5 HX1r HX2r HBr hW
        obtain ⟨k2, rfl, hk2, hAll, hW⟩ := hrel
        have HX1r := Lib.hid (HX1.out.keep hW.out)
        have HX2r := Lib.hid (HX2.out.keep hW.out)
        have HBr := Lib.hid (HB.out.trans (hW.out.mono (by have := HZ.out; omega)))
        by_cases hlt2 : k2 < m2
        · have hkl : k2 < g.list.length := by rw [← HN2.out]; exact hlt2
          obtain ⟨a, rfl, hfd⟩ := ((KG.out.cong (w' := wr) (fun b hb => HBr.out.block b (HBD.out b hb))).at) k2 _ (List.getElem?_eq_getElem hkl)
          rw [Nat.zero_add] at hfd
          have HBAD := Lib.hid (fun hx => all_bad (p := (fun y : Kfd => !y.2.1 || (f.find y.1).isSome)) hkl hx)
          have HGOOD := Lib.hid (fun hx => all_take_succ (p := (fun y : Kfd => !y.2.1 || (f.find y.1).isSome)) hkl hAll.out hx)
          obtain ⟨y, hy⟩ : ∃ y, y = g.list[k2] := ⟨_, rfl⟩
          rw [← hy] at hfd HBAD HGOOD
          clear hy
          obtain ⟨o, nn, s0, t0, p, A', m', c', hkat, q0, q1, q2, q3, q4, q5, q6, q7⟩ := hfd.cells
          clear hfd hkat
          obtain ⟨x0, x1, x2, x3, x4, x5, -, -, -, -, -, -⟩ := HX1r.out
          have hl2 : w.heap.size < wr.heap.size := block_lt_of_cell x0
          have Ba := below_box wr (.cells #[.string y.1, .bool y.2.1, .int .i64 o, .int .i64 nn, .string s0, .string t0, .pointer p, .slice A' m' c'] 51)
          have Y4 := bx8_new wr (.string y.1) (.bool y.2.1) (.int .i64 o) (.int .i64 nn) (.string s0) (.string t0) (.pointer p) (.slice A' m' c') 51
          go_wp2_with fail
          obtain ⟨wa, hwa⟩ : ∃ wa, wr.alloc (.cells #[.string y.1, .bool y.2.1, .int .i64 o, .int .i64 nn, .string s0, .string t0, .pointer p, .slice A' m' c'] 51) = wa := ⟨_, rfl⟩
          rw [hwa] at Ba Y4 ⊢
          clear hwa x0 x1 x2 x3 x4 x5 q0 q1 q2 q3 q4 q5 q6 q7
          have hBa : Below w.heap.size w wa := HBr.out.trans (Ba.mono HBr.out.size)
          refine (kind_find A1 m1 c1 f B _ _ _ _ _ y.1 wa (KF.out.cong (fun b hb => hBa.block b (HBD.out b hb))) HN1.out hm1w hc1 of.1 (fun b hb => Nat.lt_of_lt_of_le (HBD.out b hb) hBa.size)).mono ?_
          rintro e w4 ⟨b4, hpost⟩
          have Y5 := Lib.hid (Y4.keep b4)
          have BW4 := Lib.hid (hW.out.trans ((Ba.trans (b4.mono Ba.size)).mono hW.out.size))
          have HS4 := Lib.hid (show w2.heap.size ≤ w4.heap.size from BW4.out.size)
          have BWa := Lib.hid (fun o => BW4.out.trans ((below_box w4 o).mono HS4.out))
          clear b4 Ba Y4 hBa hW
          obtain ⟨y0, y1, y2, y3, y4, y5, y6, y7, -, -, -, -, -, -, -, -⟩ := Y5.out
          have hl5 : wr.heap.size < w4.heap.size := block_lt_of_cell y0
          rcases hfg : f.find y.1 with _ | ⟨mm, k'⟩
          · rw [hfg] at hpost
            have hpost : e = .returned (.tuple #[.agg #[.string ⟨#[]⟩, .bool false, .int .i64 0, .int .i64 0, .string ⟨#[]⟩, .string ⟨#[]⟩, .pointer none, .slice none 0 0], .bool false]) := hpost
            subst hpost
            cases hym : y.2.1 with
            | true =>
              rw [hym] at y1
              have HX := Lib.hid (show (fun y : Kfd => !y.2.1 || (f.find y.1).isSome) y = false by simp [hfg, hym])
              obtain rfl : res = false := by rw [HRES.out, HBAD.out HX.out, Bool.and_false]
              clear hfg
              go_wp2_with fail
              go_ret
              exact ⟨rfl, HB.out.trans ((BWa.out _).mono (by have := HZ.out; omega))⟩
            | false =>
              rw [hym] at y1
              have HX := Lib.hid (show (fun y : Kfd => !y.2.1 || (f.find y.1).isSome) y = true by simp [hym])
              have HG2 := Lib.hid (HGOOD.out HX.out)
              clear hfg
              go_wp2_with fail
              go_roundw
              case rel => exact ⟨k2 + 1, by go_num, hlt2, HG2, Lib.hid (BWa.out _)⟩
              case measure => simp [intOf]; omega
          · rw [hfg] at hpost
            obtain ⟨u, rfl, hk'⟩ := hpost
            obtain ⟨o2, n2', s2, t2, p2, A2', m2', c2', rfl⟩ := kat_six hk'
            have HX := Lib.hid (show (fun y : Kfd => !y.2.1 || (f.find y.1).isSome) y = true by simp [hfg])
            have HG2 := Lib.hid (HGOOD.out HX.out)
            clear hk' hfg
            obtain ⟨ym, hym⟩ : ∃ ym, ym = y.2.1 := ⟨_, rfl⟩
            rw [← hym] at y1
            clear hym
            cases ym
            all_goals
              go_wp2_with fail
              go_roundw
              case rel => exact ⟨k2 + 1, by go_num, hlt2, HG2, Lib.hid (BWa.out _)⟩
              case measure => simp [intOf]; omega
        · have hk2e : k2 = m2 := by omega
          obtain rfl : res = true := by
            have := hAll.out
            rw [hk2e, HN2.out, List.take_length] at this
            rw [HRES.out, HA1.out, this]
            rfl
          go_wp2_with fail
          go_ret
          exact ⟨rfl, HBr.out⟩
end Go.Proofs.Ytocchkmhnneiiaa
