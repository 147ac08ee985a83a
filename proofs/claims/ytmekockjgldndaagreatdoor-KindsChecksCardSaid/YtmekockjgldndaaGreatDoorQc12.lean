/-
  kinds.below: of records.
  kinds.below: is a type below another one.
  The head of a type: its op and name; types of one head; where it lies.
  val.split at a record: the values and their names, each in a row of its own.
  val.Parts and val.Get.
  The reference's ValueNode and UidFault.
  The reference's order of nodes.
-/
import Derived.Lib.SlicesS
import Derived.Test.YtmekockjgldndaaGreatDoorQc11
namespace Go.Proofs.YtmekockjgldndaaGreatDoor
open Go.RowKit Go.Wk Go.Sort
set_option maxRecDepth 100000

set_option maxHeartbeats 8000000 in
theorem below_recs (N : Nat) (ih : BelC N) (f g : Fl) (va vb : List Value) (w : World) (B : Nat → Prop) (h : f.sz ≤ N) (hp : f.sz ≤ 90000) (hq : g.sz ≤ 90000) (ha : KAt w B (.fs f) va) (hb : KAt w B (.fs g) vb) (vf : (Kd.fs f).valid) (vg : (Kd.fs g).valid) (hB : ∀ b, B b → b < w.heap.size) :
    Calls Tryz.prog 53 #[.agg va.toArray, .agg vb.toArray] w fun e w' => e = .returned (.bool (belowF f g && mustF g f)) ∧ Below w.heap.size w w' := by
  have of := valid_fs.1 vf
  have og := valid_fs.1 vg
  clear vf vg
  obtain ⟨n1, A1, c1, rfl, hc1, hm1, k1⟩ := ha
  obtain ⟨n2, A2, c2, rfl, hc2, hm2, k2⟩ := hb
  have L1 := len_sz f
  have L2 := len_sz g
  rw [len_list] at hc1 hc2 L1 L2 ⊢
  rw [len_list]
  obtain ⟨m1, hn1⟩ : ∃ m1, m1 = f.list.length := ⟨_, rfl⟩
  obtain ⟨m2, hn2⟩ : ∃ m2, m2 = g.list.length := ⟨_, rfl⟩
  rw [← hn1] at hc1 L1 ⊢
  rw [← hn2] at hc2 L2 ⊢
  have KF := Lib.hid k1
  have KG := Lib.hid k2
  have HN1 := Lib.hid hn1
  have HN2 := Lib.hid hn2
  have HBD := Lib.hid hB
  have IH := Lib.hid ih
  clear k1 k2 hn1 hn2 hB ih
  have HB := Lib.hid ((below_box w (.cells #[.int .i64 46, .int .i64 n1, .string ⟨#[]⟩, .string ⟨#[]⟩, .pointer none, .slice A1 m1 c1] 85)).trans ((below_box _ (.cells #[.int .i64 46, .int .i64 n2, .string ⟨#[]⟩, .string ⟨#[]⟩, .pointer none, .slice A2 m2 c2] 85)).mono (by simp)))
  have hsz : (w.alloc (.cells #[.int .i64 46, .int .i64 n1, .string ⟨#[]⟩, .string ⟨#[]⟩, .pointer none, .slice A1 m1 c1] 85)).heap.size = w.heap.size + 1 := by simp
  have X1 := (bx6_new w (.int .i64 46) (.int .i64 n1) (.string ⟨#[]⟩) (.string ⟨#[]⟩) (.pointer none) (.slice A1 m1 c1) 85).keep (below_box _ (.cells #[.int .i64 46, .int .i64 n2, .string ⟨#[]⟩, .string ⟨#[]⟩, .pointer none, .slice A2 m2 c2] 85))
  have X2 := bx6_new (w.alloc (.cells #[.int .i64 46, .int .i64 n1, .string ⟨#[]⟩, .string ⟨#[]⟩, .pointer none, .slice A1 m1 c1] 85)) (.int .i64 46) (.int .i64 n2) (.string ⟨#[]⟩) (.string ⟨#[]⟩) (.pointer none) (.slice A2 m2 c2) 85
  rw [hsz] at X2
  obtain ⟨res, hres⟩ : ∃ res, res = (belowF f g && mustF g f) := ⟨_, rfl⟩
  have HRES := Lib.hid (hres.trans (by rw [belowF_all, mustF_all]))
  rw [← hres]
  clear hres
  change Calls Tryz.prog 53 #[.agg #[.int .i64 46, .int .i64 n1, .string ⟨#[]⟩, .string ⟨#[]⟩, .pointer none, .slice A1 m1 c1], .agg #[.int .i64 46, .int .i64 n2, .string ⟨#[]⟩, .string ⟨#[]⟩, .pointer none, .slice A2 m2 c2]] w _
  go_enter Tryz.func53, Tryz.ntmps53
  go_wp2_with fail
  obtain ⟨w2, hw2⟩ : ∃ w2, (w.alloc (.cells #[.int .i64 46, .int .i64 n1, .string ⟨#[]⟩, .string ⟨#[]⟩, .pointer none, .slice A1 m1 c1] 85)).alloc (.cells #[.int .i64 46, .int .i64 n2, .string ⟨#[]⟩, .string ⟨#[]⟩, .pointer none, .slice A2 m2 c2] 85) = w2 := ⟨_, rfl⟩
  have HZ := Lib.hid (show w2.heap.size = w.heap.size + 2 by rw [← hw2]; simp)
  rw [hw2] at X1 X2 HB ⊢
  have HX1 := Lib.hid X1
  have HX2 := Lib.hid X2
  clear hw2 hsz X1 X2
  go_loopw [58] (fun i wr => ∃ k : Nat, i = .int .i64 k ∧ k ≤ m1 ∧ Hid ((f.list.take k).all (oneIn g) = true) ∧ Hid (Below w2.heap.size w2 wr)) (fun i _ => m1 - (intOf i).toNat)
  case atStart => exact ⟨0, rfl, Nat.zero_le _, Lib.hid rfl, Lib.hid (Below.refl _ _)⟩
  case round =>
    obtain ⟨k, rfl, hk, hAll, hW⟩ := hrel
    have HX1r := Lib.hid (HX1.out.keep hW.out)
    have HX2r := Lib.hid (HX2.out.keep hW.out)
    have HBr := Lib.hid (HB.out.trans (hW.out.mono (by have := HZ.out; omega)))
    by_cases hlt : k < m1
    · have hkl : k < f.list.length := by rw [← HN1.out]; exact hlt
      obtain ⟨a, rfl, hfd⟩ := ((KF.out.cong (w' := wr) (fun b hb => HBr.out.block b (HBD.out b hb))).at) k _ (List.getElem?_eq_getElem hkl)
      rw [Nat.zero_add] at hfd
      have HBAD := Lib.hid (fun hx => all_bad (p := oneIn g) hkl hx)
      have HGOOD := Lib.hid (fun hx => all_take_succ (p := oneIn g) hkl hAll.out hx)
      have HYO := Lib.hid (show f.list[k].2.2.valid ∧ f.list[k].2.2.sz < f.sz from by
        have hfi := (find_list of.1 (s := f.list[k].1) (m := f.list[k].2.1) (k := f.list[k].2.2)).2 (List.getElem_mem hkl)
        exact ⟨find_valid of.2 hfi, find_sz hfi⟩)
      obtain ⟨y, hy⟩ : ∃ y, y = f.list[k] := ⟨_, rfl⟩
      rw [← hy] at hfd HBAD HGOOD HYO
      clear hy
      obtain ⟨o, nn, s0, t0, p, A', m', c', hkat, q0, q1, q2, q3, q4, q5, q6, q7⟩ := hfd.cells
      have HKY := Lib.hid hkat
      clear hfd hkat
      have hm1w : m1 ≤ 100000 := by omega
      have hm2w : m2 ≤ 100000 := by omega
      obtain ⟨x0, x1, x2, x3, x4, x5, -, -, -, -, -, -⟩ := HX2r.out
      have hl2 : w.heap.size + 1 < wr.heap.size := block_lt_of_cell x0
      have Ba := below_box wr (.cells #[.string y.1, .bool y.2.1, .int .i64 o, .int .i64 nn, .string s0, .string t0, .pointer p, .slice A' m' c'] 168)
      have Y4 := bx8_new wr (.string y.1) (.bool y.2.1) (.int .i64 o) (.int .i64 nn) (.string s0) (.string t0) (.pointer p) (.slice A' m' c') 168
      go_wp2_with fail
      obtain ⟨wa, hwa⟩ : ∃ wa, wr.alloc (.cells #[.string y.1, .bool y.2.1, .int .i64 o, .int .i64 nn, .string s0, .string t0, .pointer p, .slice A' m' c'] 168) = wa := ⟨_, rfl⟩
      rw [hwa] at Ba Y4 ⊢
      clear hwa x0 x1 x2 x3 x4 x5 q0 q1 q2 q3 q4 q5 q6 q7
      have hBa : Below w.heap.size w wa := HBr.out.trans (Ba.mono HBr.out.size)
      refine (kind_find A2 m2 c2 g B _ _ _ _ _ y.1 wa (KG.out.cong (fun b hb => hBa.block b (HBD.out b hb))) HN2.out hm2w hc2 og.1 (fun b hb => Nat.lt_of_lt_of_le (HBD.out b hb) hBa.size)).mono ?_
      rintro e w4 ⟨b4, hpost⟩
      have Y5 := Lib.hid (Y4.keep b4)
      have BW4 := Lib.hid (hW.out.trans ((Ba.trans (b4.mono Ba.size)).mono hW.out.size))
      have BW5 := BW4
      have HKY4 := Lib.hid (HKY.out.cong (w' := w4) fun b hb => (Ba.trans (b4.mono Ba.size)).block b (Nat.lt_of_lt_of_le (HBD.out b hb) HBr.out.size))
      have HS4 := Lib.hid (show w2.heap.size ≤ w4.heap.size from BW4.out.size)
      have HBw4 := Lib.hid (show w.heap.size ≤ w4.heap.size by have := HZ.out; have := HS4.out; omega)
      clear b4 Ba Y4 hBa hW
      obtain ⟨y0, y1, y2, y3, y4, y5, y6, y7, -, -, -, -, -, -, -, -⟩ := Y5.out
      have hl5 : wr.heap.size < w4.heap.size := block_lt_of_cell y0
      rcases hfg : g.find y.1 with _ | ⟨mm, k'⟩
      · rw [hfg] at hpost
        have hpost : e = .returned (.tuple #[.agg #[.string ⟨#[]⟩, .bool false, .int .i64 0, .int .i64 0, .string ⟨#[]⟩, .string ⟨#[]⟩, .pointer none, .slice none 0 0], .bool false]) := hpost
        subst hpost
        have HX := Lib.hid (show oneIn g y = false by unfold oneIn; rw [hfg])
        obtain rfl : res = false := by rw [HRES.out, HBAD.out HX.out]; rfl
        clear hfg
        go_wp2_with fail
        go_ret
        exact ⟨rfl, HB.out.trans ((BW5.out.trans ((below_box _ _).mono HS4.out)).mono (by have := HZ.out; omega))⟩
      · rw [hfg] at hpost
        obtain ⟨u, rfl, hk'⟩ := hpost
        have HFG := Lib.hid hfg
        have HKO := Lib.hid (show k'.valid ∧ k'.sz < g.sz from ⟨find_valid og.2 hfg, find_sz hfg⟩)
        obtain ⟨o2, n2', s2, t2, p2, A2', m2', c2', rfl⟩ := kat_six hk'
        have HC := Lib.hid (fun w' (hb : Below w4.heap.size w4 w') => IH.out y.2.2 k' _ _ w' B (by have := HYO.out.2; omega) (by have := HYO.out.2; omega) (by have := HKO.out.2; omega) (HKY4.out.cong fun b hb' => hb.block b (Nat.lt_of_lt_of_le (HBD.out b hb') HBw4.out)) (hk'.cong fun b hb' => hb.block b (Nat.lt_of_lt_of_le (HBD.out b hb') HBw4.out)) HYO.out.1 HKO.out.1 (fun b hb' => Nat.lt_of_lt_of_le (HBD.out b hb') (Nat.le_trans HBw4.out hb.size)))
        clear hk' hfg
        cases hm' : mm with
        | true =>
          subst hm'
          cases hym : y.2.1 with
          | false =>
            rw [hym] at y1
            have HX := Lib.hid (show oneIn g y = false by unfold oneIn; rw [HFG.out]; simp [hym])
            obtain rfl : res = false := by rw [HRES.out, HBAD.out HX.out]; rfl
            go_wp2_with fail
            go_ret
            exact ⟨rfl, HB.out.trans ((BW5.out.trans ((below_box _ _).mono HS4.out)).mono (by have := HZ.out; omega))⟩
          | true =>
            rw [hym] at y1
            go_wp2_with fail
            refine (HC.out _ (below_box _ _)).mono ?_
            rintro e w6 ⟨rfl, b6⟩
            have B6 := Lib.hid (BW5.out.trans (((below_box _ _).trans (b6.mono (by simp))).mono HS4.out))
            clear b6 HC
            rcases hr : belowK y.2.2 k' with _ | _
            · have HX := Lib.hid (show oneIn g y = false by unfold oneIn; rw [HFG.out]; simp [hr])
              obtain rfl : res = false := by rw [HRES.out, HBAD.out HX.out]; rfl
              go_wp2_with fail
              go_ret
              exact ⟨rfl, HB.out.trans (B6.out.mono (by have := HZ.out; omega))⟩
            · have HX := Lib.hid (show oneIn g y = true by unfold oneIn; rw [HFG.out]; simp [hr, hym])
              have HG2 := Lib.hid (HGOOD.out HX.out)
              go_wp2_with fail
              go_roundw
              case rel => exact ⟨k + 1, by go_num, hlt, HG2, B6⟩
              case measure => simp [intOf]; omega
        | false =>
          subst hm'
          go_wp2_with fail
          refine (HC.out _ (below_box _ _)).mono ?_
          rintro e w6 ⟨rfl, b6⟩
          have B6 := Lib.hid (BW5.out.trans (((below_box _ _).trans (b6.mono (by simp))).mono HS4.out))
          clear b6 HC
          rcases hr : belowK y.2.2 k' with _ | _
          · have HX := Lib.hid (show oneIn g y = false by unfold oneIn; rw [HFG.out]; simp [hr])
            obtain rfl : res = false := by rw [HRES.out, HBAD.out HX.out]; rfl
            go_wp2_with fail
            go_ret
            exact ⟨rfl, HB.out.trans (B6.out.mono (by have := HZ.out; omega))⟩
          · have HX := Lib.hid (show oneIn g y = true by unfold oneIn; rw [HFG.out]; simp [hr])
            have HG2 := Lib.hid (HGOOD.out HX.out)
            go_wp2_with fail
            go_roundw
            case rel => exact ⟨k + 1, by go_num, hlt, HG2, B6⟩
            case measure => simp [intOf]; omega
    · have hk1 : k = m1 := by omega
      have HA1 := Lib.hid (show f.list.all (oneIn g) = true by
        have := hAll.out
        rwa [hk1, HN1.out, List.take_length] at this)
      clear hAll hk1
      obtain ⟨x0, x1, x2, x3, x4, x5, -, -, -, -, -, -⟩ := HX1r.out
      obtain ⟨z0, z1, z2, z3, z4, z5, -, -, -, -, -, -⟩ := HX2r.out
      have hm1w : m1 ≤ 100000 := by omega
      have hm2w : m2 ≤ 100000 := by omega
      go_wp2_with fail
      go_loopw [92] (fun i wr2 => ∃ k : Nat, i = .int .i64 k ∧ k ≤ m2 ∧ Hid ((g.list.take k).all (fun y : Kfd => !y.2.1 || (f.find y.1).isSome) = true) ∧ Hid (Below w2.heap.size w2 wr2)) (fun i _ => m2 - (intOf i).toNat)
      case atStart => exact ⟨0, rfl, Nat.zero_le _, Lib.hid rfl, hW⟩
      case round =>
        clear x0 x1 x2 x3 x4 x5 z0 z1 z2 z3 z4 z5 HX1r HX2r HBr hW
        obtain ⟨k2, rfl, hk2, hAll, hW⟩ := hrel
        have HX1r := Lib.hid (HX1.out.keep hW.out)
        have HX2r := Lib.hid (HX2.out.keep hW.out)
        have HBr := Lib.hid (HB.out.trans (hW.out.mono (by have := HZ.out; omega)))
        by_cases hlt2 : k2 < m2
        · have hkl : k2 < g.list.length := by rw [← HN2.out]; exact hlt2
          obtain ⟨a, rfl, hfd⟩ := ((KG.out.cong (w' := wr) (fun b hb => HBr.out.block b (HBD.out b hb))).at) k2 _ (List.getElem?_eq_getElem hkl)
          rw [Nat.zero_add] at hfd
          have HBAD := Lib.hid (fun hx => all_bad (p := (fun y : Kfd => !y.2.1 || (f.find y.1).isSome)) hkl hx)
          have HGOOD := Lib.hid (fun hx => all_take_succ (p := (fun y : Kfd => !y.2.1 || (f.find y.1).isSome)) hkl hAll.out hx)
          obtain ⟨y, hy⟩ : ∃ y, y = g.list[k2] := ⟨_, rfl⟩
          rw [← hy] at hfd HBAD HGOOD
          clear hy
          obtain ⟨o, nn, s0, t0, p, A', m', c', hkat, q0, q1, q2, q3, q4, q5, q6, q7⟩ := hfd.cells
          clear hfd hkat
          obtain ⟨x0, x1, x2, x3, x4, x5, -, -, -, -, -, -⟩ := HX1r.out
          have hl2 : w.heap.size < wr.heap.size := block_lt_of_cell x0
          have Ba := below_box wr (.cells #[.string y.1, .bool y.2.1, .int .i64 o, .int .i64 nn, .string s0, .string t0, .pointer p, .slice A' m' c'] 168)
          have Y4 := bx8_new wr (.string y.1) (.bool y.2.1) (.int .i64 o) (.int .i64 nn) (.string s0) (.string t0) (.pointer p) (.slice A' m' c') 168
          go_wp2_with fail
          obtain ⟨wa, hwa⟩ : ∃ wa, wr.alloc (.cells #[.string y.1, .bool y.2.1, .int .i64 o, .int .i64 nn, .string s0, .string t0, .pointer p, .slice A' m' c'] 168) = wa := ⟨_, rfl⟩
          rw [hwa] at Ba Y4 ⊢
          clear hwa x0 x1 x2 x3 x4 x5 q0 q1 q2 q3 q4 q5 q6 q7
          have hBa : Below w.heap.size w wa := HBr.out.trans (Ba.mono HBr.out.size)
          refine (kind_find A1 m1 c1 f B _ _ _ _ _ y.1 wa (KF.out.cong (fun b hb => hBa.block b (HBD.out b hb))) HN1.out hm1w hc1 of.1 (fun b hb => Nat.lt_of_lt_of_le (HBD.out b hb) hBa.size)).mono ?_
          rintro e w4 ⟨b4, hpost⟩
          have Y5 := Lib.hid (Y4.keep b4)
          have BW4 := Lib.hid (hW.out.trans ((Ba.trans (b4.mono Ba.size)).mono hW.out.size))
          have HS4 := Lib.hid (show w2.heap.size ≤ w4.heap.size from BW4.out.size)
          have BWa := Lib.hid (fun o => BW4.out.trans ((below_box w4 o).mono HS4.out))
          clear b4 Ba Y4 hBa hW
          obtain ⟨y0, y1, y2, y3, y4, y5, y6, y7, -, -, -, -, -, -, -, -⟩ := Y5.out
          have hl5 : wr.heap.size < w4.heap.size := block_lt_of_cell y0
          rcases hfg : f.find y.1 with _ | ⟨mm, k'⟩
          · rw [hfg] at hpost
            have hpost : e = .returned (.tuple #[.agg #[.string ⟨#[]⟩, .bool false, .int .i64 0, .int .i64 0, .string ⟨#[]⟩, .string ⟨#[]⟩, .pointer none, .slice none 0 0], .bool false]) := hpost
            subst hpost
            cases hym : y.2.1 with
            | true =>
              rw [hym] at y1
              have HX := Lib.hid (show (fun y : Kfd => !y.2.1 || (f.find y.1).isSome) y = false by simp [hfg, hym])
              obtain rfl : res = false := by rw [HRES.out, HBAD.out HX.out, Bool.and_false]
              clear hfg
              go_wp2_with fail
              go_ret
              exact ⟨rfl, HB.out.trans ((BWa.out _).mono (by have := HZ.out; omega))⟩
            | false =>
              rw [hym] at y1
              have HX := Lib.hid (show (fun y : Kfd => !y.2.1 || (f.find y.1).isSome) y = true by simp [hym])
              have HG2 := Lib.hid (HGOOD.out HX.out)
              clear hfg
              go_wp2_with fail
              go_roundw
              case rel => exact ⟨k2 + 1, by go_num, hlt2, HG2, Lib.hid (BWa.out _)⟩
              case measure => simp [intOf]; omega
          · rw [hfg] at hpost
            obtain ⟨u, rfl, hk'⟩ := hpost
            obtain ⟨o2, n2', s2, t2, p2, A2', m2', c2', rfl⟩ := kat_six hk'
            have HX := Lib.hid (show (fun y : Kfd => !y.2.1 || (f.find y.1).isSome) y = true by simp [hfg])
            have HG2 := Lib.hid (HGOOD.out HX.out)
            clear hk' hfg
            obtain ⟨ym, hym⟩ : ∃ ym, ym = y.2.1 := ⟨_, rfl⟩
            rw [← hym] at y1
            clear hym
            cases ym
            all_goals
              go_wp2_with fail
              go_roundw
              case rel => exact ⟨k2 + 1, by go_num, hlt2, HG2, Lib.hid (BWa.out _)⟩
              case measure => simp [intOf]; omega
        · have hk2e : k2 = m2 := by omega
          obtain rfl : res = true := by
            have := hAll.out
            rw [hk2e, HN2.out, List.take_length] at this
            rw [HRES.out, HA1.out, this]
            rfl
          go_wp2_with fail
          go_ret
          exact ⟨rfl, HBr.out⟩
end Go.Proofs.YtmekockjgldndaaGreatDoor
namespace Go.Proofs.YtmekockjgldndaaGreatDoor
open Go.RowKit Go.Wk Go.Sort
set_option maxRecDepth 100000

theorem opN_base {x : Int} (h : (Kd.base x).valid) : x = 41 ∨ x = 42 ∨ x = 43 ∨ x = 48 ∨ x = 49 := h
/-- Types of one op and one name. -/
theorem same_head {a b : Kd} (ha : a.valid) (hb : b.valid) (h1 : opN a = opN b) (h2 : nmN a = nmN b) :
    (∃ x, a = .base x ∧ b = .base x) ∨ (∃ s, a = .ent s ∧ b = .ent s) ∨ (∃ p q, a = .set p ∧ b = .set q) ∨ ∃ f g, a = .fs f ∧ b = .fs g := by
  cases a with
  | base x =>
    have := opN_base ha
    cases b with
    | base y => simp only [opN] at h1; exact .inl ⟨x, rfl, by rw [h1]⟩
    | ent s => simp only [opN] at h1; omega
    | set q => simp only [opN] at h1; omega
    | fs g => simp only [opN] at h1; omega
  | ent s =>
    cases b with
    | base y => have := opN_base hb; simp only [opN] at h1; omega
    | ent t => simp only [nmN] at h2; exact .inr (.inl ⟨s, rfl, by rw [h2]⟩)
    | set q => simp [opN] at h1
    | fs g => simp [opN] at h1
  | set p =>
    cases b with
    | base y => have := opN_base hb; simp only [opN] at h1; omega
    | ent t => simp [opN] at h1
    | set q => exact .inr (.inr (.inl ⟨p, q, rfl, rfl⟩))
    | fs g => simp [opN] at h1
  | fs f =>
    cases b with
    | base y => have := opN_base hb; simp only [opN] at h1; omega
    | ent t => simp [opN] at h1
    | set q => simp [opN] at h1
    | fs g => exact .inr (.inr (.inr ⟨f, g, rfl, rfl⟩))
theorem none_op {a : Kd} (ha : a.valid) (h : opN a = 49) : a = .base 49 := by
  cases a with
  | base x => simp only [opN] at h; rw [h]
  | _ => simp [opN] at h
theorem any_op {a : Kd} (ha : a.valid) (h : opN a = 48) : a = .base 48 := by
  cases a with
  | base x => simp only [opN] at h; rw [h]
  | _ => simp [opN] at h
theorem below_no {a b : Kd} (h1 : opN a ≠ 49) (h2 : opN b ≠ 48) (h : opN a ≠ opN b ∨ nmN a ≠ nmN b) : belowK a b = false := by
  rw [Bool.eq_false_iff]
  intro e
  have hb : b ≠ .base 48 := fun q => h2 (by rw [q]; rfl)
  have ha : a ≠ .base 49 := fun q => h1 (by rw [q]; rfl)
  cases a with
  | base x =>
    rcases below_base.1 e with e | e | e
    · exact ha (by rw [e])
    · exact hb e
    · subst e; simp at h
  | ent s =>
    rcases below_ent.1 e with e | e
    · exact hb e
    · subst e; simp at h
  | set p =>
    rcases below_set.1 e with e | ⟨q, e, -⟩
    · exact hb e
    · subst e; simp [opN, nmN] at h
  | fs f =>
    rcases below_fs.1 e with e | ⟨g, e, -⟩
    · exact hb e
    · subst e; simp [opN, nmN] at h
theorem kat_none {w : World} {B : Nat → Prop} {k : Kd} {v : List Value} (h : KAt w B k v) (hb : (∃ x, k = .base x) ∨ ∃ s, k = .ent s) : ∃ (n : Int) , v = [.int .i64 (opN k), .int .i64 n, .string (nmN k), .string emp, .pointer none, .slice none 0 0] := by
  rcases hb with ⟨x, rfl⟩ | ⟨s, rfl⟩
  · obtain ⟨n, rfl⟩ := h; exact ⟨n, rfl⟩
  · obtain ⟨n, rfl⟩ := h; exact ⟨n, rfl⟩
theorem kind_below : ∀ N : Nat, BelC N
  | 0 => fun a _ _ _ _ _ h => by cases a <;> simp [Kd.sz] at h
  | N + 1 => by
    intro a b va vb w B h h1 h2 ha hb va' vb' hB
    obtain ⟨n1, p1, A1, m1, c1, e1⟩ := kat_head ha
    obtain ⟨n2, p2, A2, m2, c2, e2⟩ := kat_head hb
    by_cases hn : opN a = 49 ∨ opN b = 48
    · have hr : belowK a b = true := by
        rcases hn with hn | hn
        · rw [none_op va' hn]; exact none_below _ _ rfl
        · rw [any_op vb' hn]; exact below_any _ _ rfl
      rw [hr, e1, e2]
      exact below_end _ _ _ _ _ _ _ _ _ _ _ _ _ _ _ _ w hn
    · have h49 : opN a ≠ 49 := fun e => hn (.inl e)
      have h48 : opN b ≠ 48 := fun e => hn (.inr e)
      by_cases hd : opN a ≠ opN b ∨ nmN a ≠ nmN b
      · rw [below_no h49 h48 hd, e1, e2]
        exact below_differ _ _ _ _ _ _ _ _ _ _ _ _ _ _ _ _ w h49 h48 hd
      · have ho : opN a = opN b := Decidable.byContradiction fun e => hd (.inl e)
        have hs : nmN a = nmN b := Decidable.byContradiction fun e => hd (.inr e)
        rcases same_head va' vb' ho hs with ⟨x, rfl, rfl⟩ | ⟨s, rfl, rfl⟩ | ⟨p, q, rfl, rfl⟩ | ⟨f, g, rfl, rfl⟩
        · obtain ⟨k1, rfl⟩ := kat_none ha (.inl ⟨x, rfl⟩)
          obtain ⟨k2, rfl⟩ := kat_none hb (.inl ⟨x, rfl⟩)
          rw [below_base.2 (.inr (.inr rfl))]
          exact below_same x k1 k2 emp emp emp none none w h49 h48 (fun e => by have := opN_base va'; omega)
        · obtain ⟨k1, rfl⟩ := kat_none ha (.inr ⟨s, rfl⟩)
          obtain ⟨k2, rfl⟩ := kat_none hb (.inr ⟨s, rfl⟩)
          rw [below_ent.2 (.inr rfl)]
          exact below_same 44 k1 k2 s emp emp none none w h49 h48 (by decide)
        · have hr : belowK (.set p) (.set q) = belowK p q := by simp [belowK, isAny]
          simp only [Kd.sz] at h h1 h2
          rw [hr]
          exact below_sets N (kind_below N) p q va vb w B (by omega) (by omega) (by omega) ha hb va' vb' hB
        · have hr : belowK (.fs f) (.fs g) = (belowF f g && mustF g f) := by simp [belowK, isAny]
          simp only [Kd.sz] at h h1 h2
          rw [hr]
          exact below_recs N (kind_below N) f g va vb w B (by omega) (by omega) (by omega) ha hb va' vb' hB
end Go.Proofs.YtmekockjgldndaaGreatDoor
namespace Go.Proofs.YtmekockjgldndaaGreatDoor
open Go.RowKit Go.Wk Go.Sort
set_option maxRecDepth 100000

theorem flat_head (k : Kd) : ∃ (x : Int) (r : List Nd), k.flat = ⟨opN k, x, nmN k, emp⟩ :: r := by
  cases k with
  | base x => exact ⟨_, _, rfl⟩
  | ent s => exact ⟨_, _, rfl⟩
  | set q => exact ⟨_, _, rfl⟩
  | fs f => exact ⟨_, _, rfl⟩
/-- The head of a type's nodes, as it lies. -/
theorem head_at {w : World} {A : Option Addr} {n c : Nat} {k : Kd} (h : Ns w A n c k.flat) : ∃ a, A = some a ∧ 1 ≤ n ∧ w.cell? a = some (.int .i64 (opN k)) ∧ w.cell? ⟨a.block, a.off + 2, none⟩ = some (.string (nmN k)) := by
  obtain ⟨x, r, e⟩ := flat_head k
  obtain ⟨a, ea, d0, d1, d2, d3⟩ := h.at_ 0 ⟨opN k, x, nmN k, emp⟩ (by rw [e]; rfl)
  exact ⟨a, ea, by rw [h.len]; exact flat_pos k, d0, d2⟩
theorem fl_len_flat (g : Fl) : g.len ≤ g.flat.length := by
  induction g using Fl.rec (motive_1 := fun _ => True) with
  | nil => exact Nat.zero_le _
  | cons s m k r _ ih => simp only [Fl.len, Fl.flat, List.length_cons, List.length_append]; omega
  | _ => trivial
theorem row_nd1 (w : World) (x : Nd) : (w.alloc (.cells #[.int .i64 x.op, .int .i64 x.n, .string x.s, .string x.t] 44)).ownsRow w.heap.size 44 4 (.slice (some ⟨w.heap.size, 0, none⟩) 1 1) 1 (ndCells [x]) :=
  ⟨rfl, .inr ⟨_, 1, _, rfl, Nat.le_refl _, heap_alloc_new w _, Nat.le_refl _, by unfold maxLen; omega, rfl, rfl⟩⟩
end Go.Proofs.YtmekockjgldndaaGreatDoor
namespace Go.Wk
theorem recLoop_inv {v : List Nd} {f : Nat → Option Nat} {N k : Nat} {q n : Nat} (hk : k < N) (h : ∃ lo, recLoop v f (N - k) lo q = some n) :
    ∃ (hq : q < v.length) (e : Nat), f (q + 1) = some e ∧ (∃ lo, recLoop v f (N - (k + 1)) lo e = some n) ∧ splitR v f (N - k) q = (v[q].s, seg v (q + 1) e) :: splitR v f (N - (k + 1)) e := by
  obtain ⟨lo, h⟩ := h
  obtain ⟨j, hj⟩ : ∃ j, N - k = j + 1 := ⟨N - k - 1, by omega⟩
  rw [hj] at h
  rw [hj, show N - (k + 1) = j by omega]
  simp only [recLoop] at h
  by_cases hq : q < v.length
  · refine ⟨hq, ?_⟩
    split at h
    · cases h
    · rename_i s hs
      rcases hf : f (q + 1) with _ | e
      · rw [hf] at h; cases h
      · rw [hf] at h
        exact ⟨e, rfl, ⟨_, h⟩, by simp only [splitR, hf]; unfold nmAt; rw [List.getElem?_eq_getElem hq]⟩
  · rw [fieldOk_out (by omega)] at h; cases h
end Go.Wk
namespace Go.Proofs.YtmekockjgldndaaGreatDoor
open Go.RowKit Go.Wk Go.Sort
set_option maxRecDepth 100000

/-- Two rows of the call's own: slices of nodes, and texts. -/
structure TwoRows (w : World) (B : Nat) (v v' : Value) (V : List Sl) (N : List ByteArray) : Prop where
  a : OwnSls w B v V
  b : w.ownsRow B 9 1 v' N.length (N.map Value.string)
  ab : v.ownBlock = none ∨ v.ownBlock ≠ v'.ownBlock
  ap : ∀ r ∈ V, Apart r v'.ownBlock
theorem TwoRows.keep {w w' : World} {B : Nat} {v v' : Value} {V : List Sl} {N : List ByteArray} (h : TwoRows w B v v' V N) (hb : Below w.heap.size w w') : TwoRows w' B v v' V N :=
  ⟨h.a.keep hb, own_kept_below h.b hb, h.ab, h.ap⟩
theorem TwoRows.other {w w' : World} {B R : Nat} {v v' : Value} {V : List Sl} {N : List ByteArray} (h : TwoRows w B v v' V N) (hg : w.grownBy w' (some R)) (hR : R < B) (hL : Later R V) : TwoRows w' B v v' V N :=
  ⟨h.a.row hg (own_ne h.a.own hR) hL.apart, h.b.kept hg (own_ne h.b hR), h.ab, h.ap⟩
theorem strInfo : (Tryz.prog.info? 9).map (fun i => (i.zero, i.size, i.bytes)) = some (some (.string ⟨#[]⟩), 1, 16) := by kernel_rfl
/-- A name more. -/
theorem TwoRows.name {w w' : World} {B : Nat} {v v' v1 : Value} {V : List Sl} {N : List ByteArray} {s : ByteArray} {o : Obj} (h : TwoRows w B v v' V N)
    (hown : w'.ownsRow B 9 1 v1 (N.length + 1) (N.map Value.string ++ [.string s])) (hg : (w.alloc o).grownBy w' v'.ownBlock) (hat : v1.ownBlock = v'.ownBlock ∨ v1.ownBlock = some (w.alloc o).heap.size) : TwoRows w' B v v1 V (N ++ [s]) := by
  have hba : Below w.heap.size w (w.alloc o) := below_box w o
  refine ⟨(h.a.keep hba).row hg h.ab h.ap, by simpa using hown, ?_, fun r hr h0 a e => ?_⟩
  · rcases hv : v.ownBlock with _ | g
    · exact .inl rfl
    · have hlt := own_lt h.a.own g hv
      refine .inr ?_
      rcases hat with q | q
      · rw [q, ← hv]
        rcases h.ab with z | z
        · rw [hv] at z; cases z
        · exact z
      · rw [q]; intro z; injection z with z; simp at z; omega
  · rcases hat with q | q
    · rw [q]; exact h.ap r hr h0 a e
    · rw [q]
      have := (h.a.each r hr).at_.lt h0 a e
      intro z; injection z with z; simp at z; omega
/-- A slice more. -/
theorem TwoRows.part {w w' : World} {B : Nat} {v v' v1 : Value} {V : List Sl} {N : List ByteArray} {r : Sl} {o : Obj} (h : TwoRows w B v v' V N) (hr : Ns w r.A r.n r.c r.P) (ha : Apart r v.ownBlock) (ha' : Apart r v'.ownBlock)
    (hown : w'.ownsRow B 22 1 v1 (V.length + 1) (V.map Sl.v ++ [r.v])) (hg : (w.alloc o).grownBy w' v.ownBlock) (hat : v1.ownBlock = v.ownBlock ∨ v1.ownBlock = some (w.alloc o).heap.size) : TwoRows w' B v1 v' (V ++ [r]) N := by
  have hba : Below w.heap.size w (w.alloc o) := below_box w o
  refine ⟨h.a.snoc hr ha hown hg hat, (own_kept_below h.b hba).kept hg ?_, ?_, ?_⟩
  · rcases h.ab with z | z
    · rw [z]; cases v'.ownBlock <;> simp
    · exact .inr (fun q => z q.symm)
  · rcases hv : v1.ownBlock with _ | g
    · exact .inl rfl
    · refine .inr ?_
      rcases hat with q | q
      · rcases h.ab with z | z
        · rw [hv, z] at q; cases q
        · rw [← hv, q]; exact z
      · intro z
        have := own_lt h.b g z.symm
        rw [hv] at q
        injection q with q
        simp at q
        omega
  · intro x hx
    rcases List.mem_append.1 hx with h1 | h1
    · exact h.ap x h1
    · simp only [List.mem_cons, List.not_mem_nil, or_false] at h1
      subst h1; exact ha'

set_option maxHeartbeats 8000000 in
theorem split_rec (A : Option Addr) (n c : Nat) (P : List Nd) (w : World) (h : Ns w A n c P) (hv : valFault P = 0) (h6 : headOp P = 6) :
    Calls Tryz.prog 171 #[.slice A n c] w (SplitPost w ((recParts P).map (·.2)) ((recParts P).map (·.1))) := by
  obtain ⟨i0, hi, hz0, hz1, hz2⟩ := info_parts slInfo
  obtain ⟨j0, hj, jz0, jz1, jz2⟩ := info_parts strInfo
  obtain ⟨h200, hV⟩ := isV_zero.1 hv
  have hpos := hV.pos
  obtain ⟨a, rfl, D⟩ := h.at_.nd hpos
  have hn := h.len
  obtain ⟨hs0, _, hop, hx0, hN⟩ := rec_loop hV h6
  have hE : recParts P = splitR P (partEnd P (P.length + 1)) P[0].n.toNat 1 := by unfold recParts; rw [hN]
  rw [hN] at hs0
  obtain ⟨-, -, -, hhi⟩ := h.ok.at hpos
  have K := Lib.hid (fun q w' (hb : Below w.heap.size w w') rd hq => val_part (some a) P n c w.heap.size hn h.cap h.max h.ok (fun h0 a' e => by have := h.at_.lt h0 a' e; omega) (P.length + 1) q w' rd (h.at_.keep hb) (by omega : n - q < P.length + 1))
  have HN := Lib.hid h
  have HL := Lib.hid hn
  have H0 := Lib.hid hs0
  have HE := Lib.hid hE
  rw [show a.add (0 * 4) = a from rfl] at D
  obtain ⟨d0, d1, d2, d3⟩ := D
  have r0 : RdAt (w.alloc (.cells #[.slice (some a) n c, .int .i64 1] 149)) w.heap.size (.slice (some a) n c) 1 := ⟨by simp, by simp, by simp⟩
  rw [hop] at d0
  have d1' := fun o : Obj => cell_keep (below_box w o) d1
  generalize P[0] = x at *
  have hn200 : n ≤ 200 := by omega
  have hn1 : 0 < n := by omega
  clear h hv h6 hV hn hs0 hE hN h200 hop
  go_enter Tryz.func171, Tryz.ntmps171
  go_wp2_with fail
  clear d1'
  go_loopw [2, 3, 12] (fun v v' i wr => ∃ (k q : Nat) (V : List Sl) (X : List (ByteArray × List Nd)), i = .int .i64 k ∧ (k : Int) ≤ x.n ∧ q ≤ n ∧ k + 1 ≤ q ∧ V.length = k ∧ X.length = k ∧ Hid (V.map Sl.P = X.map (·.2)) ∧ Hid (recParts P = X ++ splitR P (partEnd P (P.length + 1)) (x.n.toNat - k) q) ∧
      Hid (∃ lo, recLoop P (partEnd P (P.length + 1)) (x.n.toNat - k) lo q = some P.length) ∧ Hid (TwoRows wr (w.heap.size + 1) v v' V (X.map (·.1))) ∧ Hid (Later w.heap.size V) ∧ Hid (RdAt wr w.heap.size (.slice (some a) n c) q) ∧ Hid (Below w.heap.size w wr)) (fun _ _ i _ => (x.n - intOf i).toNat)
  case atStart => exact ⟨0, 1, [], [], rfl, hx0, hn1, by omega, rfl, rfl, rfl, HE.out, ⟨_, H0.out⟩, ⟨OwnSls.nil _ _, World.ownsRow_nil _ _ _ 1, .inl rfl, (by intro r hr; cases hr)⟩, (by intro r hr; cases hr), r0, below_box _ _⟩
  case round =>
    obtain ⟨k, q, V, X, rfl, hk, hq, hkq, hVl, hXl, hVX, hE, hS, hT, hLt, hrd, hB⟩ := hrel
    have e0 := cell_keep hB.out d0
    by_cases hlt : (k : Int) < x.n
    · obtain ⟨hq', e, hf, hS', hsp⟩ := recLoop_inv (by omega) hS.out
      have hle := partEnd_le _ _ _ hf
      rw [← HL.out] at hle
      have hqn : q < n := by omega
      obtain ⟨a', ha', ⟨-, -, q2, -⟩⟩ := (HN.out.at_.keep hB.out).nd hq'
      injection ha' with ha'
      subst ha'
      have HE2 := Lib.hid (hE.out.trans (by rw [hsp] : _ = X ++ ((P[q].s, seg P (q + 1) e) :: splitR P (partEnd P (P.length + 1)) (x.n.toNat - (k + 1)) e)))
      have HS2 := Lib.hid hS'
      have HF := Lib.hid hf
      have hsg : (seg P (q + 1) e).length = e - (q + 1) := seg_length (by rw [← HL.out]; omega)
      have HSG := Lib.hid hsg
      generalize P[q].s = nm at *
      obtain ⟨c0, c1, f1⟩ := hrd.out
      have hsz1 := hB.out.size
      have hRl := hrd.out.lt
      clear hE hS hS' hsp hf hsg
      go_wp2_with (at_builtin; refine wpList_append_own_at _ rfl _ _ 48 rfl (w.heap.size + 1) 9 j0 _ 1 16 Tryz.underlying48 hj jz0 jz1 jz2 rfl (by decide) _ (X.map (·.1)).length ((X.map (·.1)).map Value.string) rfl (hT.out.b.alloc _) ⟨_, 0, none⟩ 1 1 [.string nm] rfl rfl (cell_one_new _ _ _) (by intro u hu; simp only [List.mem_cons, List.not_mem_nil, or_false] at hu; subst hu; rfl) ?c1 ?c2 ?c3 ?_)
      case c1 => simp; unfold maxLen; omega
      case c2 => simp; omega
      case c3 => simp; omega
      intro v1 w1 hown hgrow _ hat
      have T1 := Lib.hid (hT.out.name (s := nm) (by simpa [hXl] using hown) hgrow (by simpa using hat))
      have B1 := Lib.hid ((hB.out.alloc hB.out.size _).grown hgrow (by simp; omega) (fun g hg => by have := own_base hT.out.b g hg; omega))
      have R1 := Lib.hid ((hrd.out.keep (below_box wr _)).row hgrow (own_ne' hT.out.b (by omega)))
      have R2 := Lib.hid (R1.out.put (q + 1))
      have T2 := Lib.hid (T1.out.other (R := w.heap.size) (grown_setCell w1 ⟨w.heap.size, 1, none⟩ (.int .i64 (q + 1 : Nat))) (by omega) hLt.out)
      have B2 := Lib.hid (B1.out.setCell (p := ⟨w.heap.size, 1, none⟩) (Nat.le_refl _) (.int .i64 (q + 1 : Nat)))
      have hRl1 := R1.out.lt
      obtain ⟨c0', c1', f1'⟩ := R1.out
      have C := Lib.hid (K.out (q + 1) _ B2.out R2.out (by rw [← HL.out]; omega))
      rw [HF.out] at C
      clear hown hgrow hat hT hB hrd c0 c1 f1 q2 T1 B1 R1
      go_wp2_with fail
      refine C.out.mono ?_
      rintro e' w3 hpost
      obtain ⟨rfl, r3, g3⟩ := hpost
      have B3 := Lib.hid (B2.out.trans (below_of_grown g3 (Nat.le_refl _) B2.out.size))
      have T3 := Lib.hid (T2.out.other g3 (by omega) hLt.out)
      have CL := Lib.hid (clone_nodes (a.add ((q + 1) * 4)) (e - (q + 1)) (c - (q + 1)) (seg P (q + 1) e) w3 (ns_seg (HN.out.keep B3.out) (by omega) hle.2) (by rw [HSG.out]; omega))
      have R3 := Lib.hid r3
      have hsz2 := B3.out.size
      have hsz3 : w.heap.size < w3.heap.size := R3.out.lt
      clear r3 g3 T2 B2 R2 c0' c1' f1'
      go_wp2_with fail
      refine CL.out.mono ?_
      rintro e' w4 hpost
      obtain ⟨A3, c3, rfl, n3, l3, b4⟩ := hpost
      have B4 := bh B3 b4
      have T4 := Lib.hid (T3.out.keep b4)
      have R4 := Lib.hid (R3.out.keep b4)
      have N4 := Lib.hid (show Ns w4 (⟨A3, (seg P (q + 1) e).length, c3, seg P (q + 1) e⟩ : Sl).A _ _ _ from n3)
      have L4 := Lib.hid (hLt.out.snoc (r := ⟨A3, (seg P (q + 1) e).length, c3, seg P (q + 1) e⟩) (fun a' h' => by have := l3 a' h'; omega))
      have A4 : Hid (Apart ⟨A3, (seg P (q + 1) e).length, c3, seg P (q + 1) e⟩ u2.ownBlock) := by
        intro h0 a' e' q'
        have h1 := own_lt T3.out.a.own a'.block q'
        have h2 := l3 a' e'
        omega
      have A5 : Hid (Apart ⟨A3, (seg P (q + 1) e).length, c3, seg P (q + 1) e⟩ v1.ownBlock) := by
        intro h0 a' e' q'
        have h1 := own_lt T3.out.b a'.block q'
        have h2 := l3 a' e'
        omega
      have hsz4 := B4.out.size
      have hsz5 := b4.size
      clear b4 n3 l3 T3 R3 B3 hLt
      go_wp2_with (at_builtin; refine wpList_append_own_at _ rfl _ _ 89 rfl (w.heap.size + 1) 22 i0 _ 1 24 Tryz.underlying89 hi hz0 hz1 hz2 rfl (by decide) _ V.length (V.map Sl.v) rfl (T4.out.a.own.alloc _) ⟨_, 0, none⟩ 1 1 [.slice A3 (seg P (q + 1) e).length c3] rfl rfl (cell_one_new _ _ _) (by intro u hu; simp only [List.mem_cons, List.not_mem_nil, or_false] at hu; subst hu; rfl) ?d1 ?d2 ?d3 ?_)
      case d1 => unfold maxLen; omega
      case d2 => omega
      case d3 => simp; omega
      intro v2 w5 hown hgrow _ hat
      have B5 := Lib.hid ((B4.out.alloc B4.out.size _).grown hgrow (by simp; omega) (fun g hg => by have := own_base T4.out.a.own g hg; omega))
      have R5 := Lib.hid ((R4.out.keep (below_box w4 _)).row hgrow (own_ne' T4.out.a.own (by omega)))
      have T5 := Lib.hid (T4.out.part (r := ⟨A3, (seg P (q + 1) e).length, c3, seg P (q + 1) e⟩) N4.out A4.out A5.out (by rw [hVl]; exact hown) hgrow (by simpa using hat))
      have HE5 := Lib.hid (HE2.out.trans (show _ = (X ++ [(nm, seg P (q + 1) e)]) ++ splitR P (partEnd P (P.length + 1)) (x.n.toNat - (k + 1)) e by simp))
      have hl5 : (V ++ [(⟨A3, (seg P (q + 1) e).length, c3, seg P (q + 1) e⟩ : Sl)]).length = k + 1 := by simp [hVl]
      have hl6 : (X ++ [(nm, seg P (q + 1) e)]).length = k + 1 := by simp [hXl]
      have HV5 := Lib.hid (show (V ++ [(⟨A3, (seg P (q + 1) e).length, c3, seg P (q + 1) e⟩ : Sl)]).map Sl.P = (X ++ [(nm, seg P (q + 1) e)]).map (·.2) by
        rw [List.map_append, List.map_append, hVX.out]; rfl)
      have T6 := Lib.hid (show TwoRows w5 (w.heap.size + 1) v2 v1 (V ++ [(⟨A3, (seg P (q + 1) e).length, c3, seg P (q + 1) e⟩ : Sl)]) ((X ++ [(nm, seg P (q + 1) e)]).map (·.1)) by
        rw [List.map_append]; exact T5.out)
      clear hown hgrow hat R4 N4 A4 A5 HE2 B4 T5
      go_wp2_with fail
      go_roundw
      case rel => exact ⟨k + 1, e, _, _, by go_num, by omega, by omega, by omega, hl5, hl6, HV5, HE5, HS2, T6, L4, R5, B5⟩
      case measure => simp [intOf]; omega
    · have HG := Lib.hid (hE.out.trans (show _ = X by rw [show x.n.toNat - k = 0 by omega]; simp [splitR]))
      clear hE hS hrd
      go_wp2_with fail
      go_ret2
      exact ⟨_, _, V, rfl, hT.out.a.mono (by omega), by rw [HG.out]; exact hVX.out, by rw [HG.out]; exact own_mono hT.out.b (by omega), hLt.out, hB.out⟩
end Go.Proofs.YtmekockjgldndaaGreatDoor
namespace Go.Wk
/-- The error of Parts. -/
def prtE (P : List Nd) : Int := if valFault P = 0 then (if headOp P = 5 ∨ headOp P = 6 then 0 else 2) else valFault P
def prtL (P : List Nd) : List (List Nd) := if prtE P = 0 then (if headOp P = 5 then setParts P else (recParts P).map (·.2)) else []
/-- What a record has by a name. -/
def getR (P : List Nd) (s : ByteArray) : Option (List Nd) := ((recParts P).find? fun x => decide (cmpB x.1 s = 0)).map (·.2)
def getE (P : List Nd) (s : ByteArray) : Int := if valFault P = 0 then (if headOp P = 6 then (if (getR P s).isSome then 0 else 3) else 2) else valFault P
def getV (P : List Nd) (s : ByteArray) : List Nd := if getE P s = 0 then (getR P s).getD [] else []
theorem headOp_at {P : List Nd} (h : 0 < P.length) : headOp P = P[0].op := by
  rcases P with _ | ⟨x, r⟩
  · simp at h
  · rfl
theorem find_at {α : Type} {l : List α} {p : α → Bool} {k : Nat} (h : k < l.length) (hp : p l[k] = true) (hn : ∀ j, (hj : j < k) → p (l[j]'(by omega)) = false) : l.find? p = some l[k] := by
  rw [List.find?_eq_some_iff_getElem]
  exact ⟨hp, k, h, rfl, fun j hj => by rw [hn j hj]; rfl⟩
theorem idx_ways (N : List ByteArray) (s : ByteArray) : (∃ (k : Nat) (h : k < N.length), Lib.idxOfS N s = k ∧ N[k] = s ∧ ∀ j, (hj : j < k) → (N[j]'(by omega)) ≠ s) ∨ (Lib.idxOfS N s = -1 ∧ ∀ j, (hj : j < N.length) → N[j] ≠ s) := by
  unfold Lib.idxOfS
  have key : ∀ (N : List ByteArray) (i : Nat), (∃ (k : Nat) (h : k < N.length), Lib.idxFromS N s i = ((i + k : Nat) : Int) ∧ N[k] = s ∧ ∀ j, (hj : j < k) → (N[j]'(by omega)) ≠ s) ∨ (Lib.idxFromS N s i = -1 ∧ ∀ j, (hj : j < N.length) → N[j] ≠ s) := by
    intro N
    induction N with
    | nil => intro i; exact .inr ⟨rfl, fun j hj => by simp at hj⟩
    | cons x N ih =>
      intro i
      by_cases hx : x = s
      · exact .inl ⟨0, by simp, by simp [Lib.idxFromS, hx], hx, fun j hj => by omega⟩
      · rcases ih (i + 1) with ⟨k, hk, h1, h2, h3⟩ | ⟨h1, h2⟩
        · refine .inl ⟨k + 1, by simp; omega, ?_, h2, fun j hj => ?_⟩
          · simp only [Lib.idxFromS, hx]
            rw [if_neg (by simp), h1]; congr 1; omega
          · rcases j with _ | j
            · exact hx
            · exact h3 j (by omega)
        · refine .inr ⟨?_, fun j hj => ?_⟩
          · simp only [Lib.idxFromS, hx]
            rw [if_neg (by simp)]; exact h1
          · rcases j with _ | j
            · exact hx
            · exact h2 j (by simpa using hj)
  have := key N 0
  simpa using this
end Go.Wk
namespace Go.Proofs.YtmekockjgldndaaGreatDoor
open Go.RowKit Go.Wk Go.Sort
set_option maxRecDepth 100000

theorem val_Check_ns {A : Option Addr} {n c : Nat} {P : List Nd} {w : World} (h : Ns w A n c P) : Calls Tryz.prog 36 #[.slice A n c] w fun e w' => e = .returned (errV (valFault P)) ∧ Below w.heap.size w w' :=
  val_Check A n c P w h.len h.cap h.max h.at_ h.ok

/-- What Parts tells. -/
def PartsPost (w : World) (P : List Nd) (e : Ending) (w' : World) : Prop :=
  ∃ (v : Value) (V : List Sl), e = .returned (.tuple #[v, errV (prtE P)]) ∧ OwnSls w' w.heap.size v V ∧ V.map Sl.P = prtL P ∧ (∀ r ∈ V, ∀ a, r.A = some a → w.heap.size ≤ a.block) ∧ Below w.heap.size w w'

set_option maxHeartbeats 2000000 in
theorem val_Parts (A : Option Addr) (n c : Nat) (P : List Nd) (w : World) (h : Ns w A n c P) :
    Calls Tryz.prog 102 #[.slice A n c] w (PartsPost w P) := by
  have K := Lib.hid (val_Check_ns h)
  have H := Lib.hid h
  by_cases h0 : valFault P = 0
  · have hV := (isV_zero.1 h0).2
    have hpos := hV.pos
    obtain ⟨a, rfl, D⟩ := h.at_.nd hpos
    rw [show a.add (0 * 4) = a from rfl] at D
    have hn1 : 0 < n := by rw [h.len]; exact hpos
    have d0 := D.c0
    rw [← headOp_at hpos] at d0
    rw [h0, errV_zero] at K
    by_cases h5 : headOp P = 5
    · have S := Lib.hid (fun w' hb => split_set (some a) n c P w' (h.keep hb) h0 h5)
      have hE : prtE P = 0 := by unfold prtE; rw [if_pos h0, if_pos (.inl h5)]
      have HL := Lib.hid (show prtL P = setParts P by unfold prtL; rw [if_pos hE, if_pos h5])
      have HE := Lib.hid hE
      rw [h5] at d0
      clear h h0 hV D h5 hE
      go_enter Tryz.func102, Tryz.ntmps102
      go_wp2_with fail
      refine (K.out).mono ?_
      rintro e w1 ⟨rfl, b1⟩
      replace d0 := cell_keep b1 d0
      have B1 := Lib.hid b1
      clear b1
      go_wp2_with fail
      refine (S.out _ B1.out).mono ?_
      rintro e w2 ⟨v, v', V, rfl, hO, hVL, -, hF, b2⟩
      have HF := Lib.hid (fun r hr a h => Nat.le_trans B1.out.size (Nat.le_of_lt (hF r hr a h)))
      have HO := Lib.hid (hO.mono B1.out.size)
      have HV := Lib.hid (hVL.trans HL.out.symm)
      have B2 := bh B1 b2
      clear hO hVL hF b2
      go_wp2_with fail
      go_ret2
      exact ⟨v, V, by rw [HE.out]; rfl, HO.out, HV.out, HF.out, B2.out⟩
    · by_cases h6 : headOp P = 6
      · have S := Lib.hid (fun w' hb => split_rec (some a) n c P w' (h.keep hb) h0 h6)
        have hE : prtE P = 0 := by unfold prtE; rw [if_pos h0, if_pos (.inr h6)]
        have HL := Lib.hid (show prtL P = (recParts P).map (·.2) by unfold prtL; rw [if_pos hE, if_neg h5])
        have HE := Lib.hid hE
        rw [h6] at d0
        clear h h0 hV D h5 h6 hE
        go_enter Tryz.func102, Tryz.ntmps102
        go_wp2_with fail
        refine (K.out).mono ?_
        rintro e w1 ⟨rfl, b1⟩
        replace d0 := cell_keep b1 d0
        have B1 := Lib.hid b1
        clear b1
        go_wp2_with fail
        refine (S.out _ B1.out).mono ?_
        rintro e w2 ⟨v, v', V, rfl, hO, hVL, -, hF, b2⟩
        have HF := Lib.hid (fun r hr a h => Nat.le_trans B1.out.size (Nat.le_of_lt (hF r hr a h)))
        have HO := Lib.hid (hO.mono B1.out.size)
        have HV := Lib.hid (hVL.trans HL.out.symm)
        have B2 := bh B1 b2
        clear hO hVL hF b2
        go_wp2_with fail
        go_ret2
        exact ⟨v, V, by rw [HE.out]; rfl, HO.out, HV.out, HF.out, B2.out⟩
      · have hE : prtE P = 2 := by unfold prtE; rw [if_pos h0, if_neg (by omega)]
        have HL := Lib.hid (show prtL P = [] by unfold prtL; rw [if_neg (by omega)])
        have HE := Lib.hid hE
        have g5 : (headOp P != 5) = true := by rw [bne_iff_ne]; exact h5
        have g6 : (headOp P != 6) = true := by rw [bne_iff_ne]; exact h6
        clear h h0 hV D h5 h6 hE
        go_enter Tryz.func102, Tryz.ntmps102
        go_wp2_with fail
        refine (K.out).mono ?_
        rintro e w1 ⟨rfl, b1⟩
        replace d0 := cell_keep b1 d0
        have B1 := Lib.hid b1
        clear b1
        go_wp2_with fail
        go_ret2
        exact ⟨_, [], by rw [HE.out]; rfl, OwnSls.nil _ _, HL.out.symm, (by intro r hr; cases hr), B1.out⟩
  · have hE : prtE P = valFault P := by unfold prtE; rw [if_neg h0]
    have HL := Lib.hid (show prtL P = [] by unfold prtL; rw [if_neg (by rw [hE]; exact h0)])
    have HE := Lib.hid hE
    rw [errV_ne h0] at K
    have HX := Lib.hid (errV_ne h0)
    clear h h0 hE
    go_enter Tryz.func102, Tryz.ntmps102
    go_wp2_with fail
    refine (K.out).mono ?_
    rintro e w1 ⟨rfl, b1⟩
    go_wp2_with fail
    go_ret2
    exact ⟨_, [], by rw [HE.out, HX.out]; rfl, OwnSls.nil _ _, HL.out.symm, (by intro r hr; cases hr), b1⟩

theorem strs_index {w : World} {B : Nat} {v : Value} {N : List ByteArray} (s : ByteArray) (h : w.ownsRow B 9 1 v N.length (N.map Value.string)) (hN : N.length ≤ 100000) :
    Calls Tryz.prog 107 #[v, .string s] w fun e w' => e = .returned (.int .i64 (Lib.idxOfS N s)) ∧ w' = w := by
  rcases h.2 with ⟨rfl, h0⟩ | ⟨g, cap, cur, rfl, -, -, hc, -⟩
  · have : N = [] := List.eq_nil_of_length_eq_zero h0
    subst this
    exact Tryz.slices_Index_string_empty none 0 s w
  · have := Tryz.slices_Index_string g 0 N.length cap N s w (Nat.le_refl _) (by omega) (fun j hj => by
      have e := h.cells (g := g) rfl j (.string N[j]) (by rw [List.getElem?_map, List.getElem?_eq_getElem hj]; rfl)
      rw [addr_add] at e
      rw [e]
      simp [hj])
    rw [List.take_length] at this
    exact this

def GetPost (w : World) (P : List Nd) (s : ByteArray) (e : Ending) (w' : World) : Prop :=
  ∃ (A : Option Addr) (n c : Nat), e = .returned (.tuple #[.slice A n c, errV (getE P s)]) ∧ Ns w' A n c (getV P s) ∧ (∀ a, A = some a → w.heap.size ≤ a.block ∨ True) ∧ Below w.heap.size w w'
theorem recParts_len {P : List Nd} (h : valFault P = 0) (h6 : headOp P = 6) : (recParts P).length ≤ 200 := by
  obtain ⟨h1, h2⟩ := isV_zero.1 h
  obtain ⟨e, -, h3, -⟩ := isV_rec h2 h6
  have : (recParts P).length ≤ (flatR (recParts P)).length := by
    generalize recParts P = l
    induction l with
    | nil => simp
    | cons x l ih => simp only [flatR, List.length_cons, List.length_append]; omega
  have hl := congrArg List.length e
  simp only [List.length_cons] at hl
  omega

set_option maxHeartbeats 2000000 in
theorem val_Get (A : Option Addr) (n c : Nat) (P : List Nd) (s : ByteArray) (w : World) (h : Ns w A n c P) :
    Calls Tryz.prog 196 #[.slice A n c, .string s] w (GetPost w P s) := by
  have K := Lib.hid (val_Check_ns h)
  by_cases h0 : valFault P = 0
  · have hV := (isV_zero.1 h0).2
    have hpos := hV.pos
    obtain ⟨a, rfl, D⟩ := h.at_.nd hpos
    rw [show a.add (0 * 4) = a from rfl] at D
    have hn1 : 0 < n := by rw [h.len]; exact hpos
    have d0 := D.c0
    rw [← headOp_at hpos] at d0
    rw [h0, errV_zero] at K
    by_cases h6 : headOp P = 6
    · have S := Lib.hid (fun w' hb => split_rec (some a) n c P w' (h.keep hb) h0 h6)
      have HG := Lib.hid (show getE P s = if (getR P s).isSome then 0 else 3 by unfold getE; rw [if_pos h0, if_pos h6])
      have HLn := Lib.hid (recParts_len h0 h6)
      rw [h6] at d0
      clear h h0 hV D h6
      go_enter Tryz.func196, Tryz.ntmps196
      go_wp2_with fail
      refine (K.out).mono ?_
      rintro e w1 ⟨rfl, b1⟩
      replace d0 := cell_keep b1 d0
      have B1 := Lib.hid b1
      clear b1
      go_wp2_with fail
      refine (S.out _ B1.out).mono ?_
      rintro e w2 ⟨v, v', V, rfl, hO, hVL, hN, -, b2⟩
      have B2 := bh B1 b2
      have I := Lib.hid (strs_index s hN (by simp; have := HLn.out; omega))
      have HV := Lib.hid hVL
      have hVl := congrArg List.length hVL
      simp only [List.length_map] at hVl
      obtain ⟨A2, c2, rfl, hc2, hS2⟩ := hO.at
      have HS := Lib.hid hS2
      clear hO hVL hN b2 hS2
      rcases idx_ways ((recParts P).map (·.1)) s with ⟨k, hk, hi, hkk, hlt⟩ | ⟨hi, hno⟩
      · have hk' : k < (recParts P).length := by simpa using hk
        have hkV : k < V.length := by omega
        have hR : getR P s = some (recParts P)[k].2 := by
          unfold getR
          rw [find_at hk' (decide_eq_true ((cmpB_cmp.zero _ _).2 (by simpa using hkk))) (fun j hj => decide_eq_false (fun q => hlt j hj (by simpa using (cmpB_cmp.zero _ _).1 q)))]
          rfl
        obtain ⟨a2, rfl, q2, n2⟩ := HS.out.at hkV
        have hP : V[k].P = (recParts P)[k].2 := by
          have := congrArg (fun l => l[k]?) HV.out
          simp only [List.getElem?_map, List.getElem?_eq_getElem hkV, List.getElem?_eq_getElem hk', Option.map_some, Option.some.injEq] at this
          exact this
        have HE2 := Lib.hid (show getE P s = 0 by rw [HG.out, hR]; rfl)
        have HV2 := Lib.hid (show getV P s = V[k].P by unfold getV; rw [if_pos HE2.out, hR, hP]; rfl)
        have HN2 := Lib.hid n2
        rw [hi] at I
        generalize V[k] = r at *
        clear hk hi hkk hlt hR hP n2 hVl hk'
        go_wp2_with fail
        refine I.out.mono ?_
        rintro e w3 ⟨rfl, rfl⟩
        go_wp2_with fail
        go_ret2
        exact ⟨r.A, r.n, r.c, by rw [HE2.out]; rfl, by rw [HV2.out]; exact HN2.out, fun _ _ => .inr trivial, B2.out⟩
      · have hR : getR P s = none := by
          unfold getR
          rw [List.find?_eq_none.2 (fun x hx => by
            obtain ⟨j, hj, rfl⟩ := List.getElem_of_mem hx
            have := hno j (by simpa using hj)
            simp only [decide_eq_true_eq]
            intro q
            exact this (by simpa using (cmpB_cmp.zero _ _).1 q))]
          rfl
        have HE2 := Lib.hid (show getE P s = 3 by rw [HG.out, hR]; rfl)
        have HV2 := Lib.hid (show getV P s = [] by unfold getV; rw [HE2.out]; rfl)
        rw [hi] at I
        clear hi hno hR hVl
        go_wp2_with fail
        refine I.out.mono ?_
        rintro e w3 ⟨rfl, rfl⟩
        go_wp2_with fail
        go_ret2
        exact ⟨none, 0, 0, by rw [HE2.out]; rfl, by rw [HV2.out]; exact ⟨rfl, Nat.le_refl _, by unfold maxLen; omega, fun k x hx => by simp at hx, fun x hx => by cases hx⟩, fun _ _ => .inr trivial, B2.out⟩
    · have hE : getE P s = 2 := by unfold getE; rw [if_pos h0, if_neg h6]
      have HV2 := Lib.hid (show getV P s = [] by unfold getV; rw [hE]; rfl)
      have HE := Lib.hid hE
      have g6 : (headOp P != 6) = true := by rw [bne_iff_ne]; exact h6
      clear h h0 hV D h6 hE
      go_enter Tryz.func196, Tryz.ntmps196
      go_wp2_with fail
      refine (K.out).mono ?_
      rintro e w1 ⟨rfl, b1⟩
      replace d0 := cell_keep b1 d0
      have B1 := Lib.hid b1
      clear b1
      go_wp2_with fail
      go_ret2
      exact ⟨none, 0, 0, by rw [HE.out]; rfl, by rw [HV2.out]; exact ⟨rfl, Nat.le_refl _, by unfold maxLen; omega, fun k x hx => by simp at hx, fun x hx => by cases hx⟩, fun _ _ => .inr trivial, B1.out⟩
  · have hE : getE P s = valFault P := by unfold getE; rw [if_neg h0]
    have HV2 := Lib.hid (show getV P s = [] by unfold getV; rw [if_neg (by rw [hE]; exact h0)])
    have HE := Lib.hid hE
    rw [errV_ne h0] at K
    have HX := Lib.hid (errV_ne h0)
    clear h h0 hE
    go_enter Tryz.func196, Tryz.ntmps196
    go_wp2_with fail
    refine (K.out).mono ?_
    rintro e w1 ⟨rfl, b1⟩
    go_wp2_with fail
    go_ret2
    exact ⟨none, 0, 0, by rw [HE.out, HX.out]; rfl, by rw [HV2.out]; exact ⟨rfl, Nat.le_refl _, by unfold maxLen; omega, fun k x hx => by simp at hx, fun x hx => by cases hx⟩, fun _ _ => .inr trivial, b1⟩
end Go.Proofs.YtmekockjgldndaaGreatDoor
namespace Go.Proofs.YtmekockjgldndaaGreatDoor
open Go.RowKit Go.Wk Go.Sort
set_option maxRecDepth 100000

theorem ref_UidFault (s t : ByteArray) (w : World) (hs : s.size ≤ maxLen) (ht : t.size ≤ maxLen) :
    Calls Tryz.prog 90 #[.agg #[.string s, .string t]] w fun e w' => e = .returned (.int .i64 (or2 (nameFault s) (textFault t))) ∧ Below w.heap.size w w' := by
  have N := Lib.hid (fun w => ref_NameFault s w hs)
  have T := Lib.hid (fun w => ref_TextFault t w ht)
  by_cases h1 : nameFault s = 0
  · rw [h1] at N
    have H := Lib.hid (show or2 (nameFault s) (textFault t) = textFault t by rw [h1, or2_zero])
    clear h1
    go_enter Tryz.func90, Tryz.ntmps90
    go_wp2_with fail
    refine (N.out _).mono ?_
    rintro e w1 ⟨rfl, rfl⟩
    go_wp2_with fail
    refine (T.out _).mono ?_
    rintro e w2 ⟨rfl, b2⟩
    go_wp2_with fail
    go_ret
    exact ⟨ret_i64 H.out.symm, below_box2 b2⟩
  · have H := Lib.hid (show or2 (nameFault s) (textFault t) = nameFault s from or2_ne h1 _)
    have h2 : (nameFault s == 0) = false := beq_eq_false_iff_ne.2 h1
    clear h1
    go_enter Tryz.func90, Tryz.ntmps90
    go_wp2_with fail
    refine (N.out _).mono ?_
    rintro e w1 ⟨rfl, rfl⟩
    go_wp2_with fail
    go_ret
    exact ⟨ret_i64 H.out.symm, below_box _ _⟩

theorem refNode_bool (n : Int) (s t : ByteArray) (w : World) :
    Calls Tryz.prog 99 #[.agg #[.int .i64 1, .int .i64 n, .string s, .string t]] w fun e w' => e = .returned (.bool ((decide (n = 0) || decide (n = 1)) && noB s && noB t)) ∧ Below w.heap.size w w' := by
  rcases empty_or s with rfl | ⟨s1, s2, s3⟩ <;> rcases empty_or t with rfl | ⟨t1, t2, t3⟩
  · by_cases h0 : 0 ≤ n
    · by_cases h1 : n ≤ 1
      · go_enter Tryz.func99, Tryz.ntmps99
        go_wp2
        go_ret
        exact ⟨ret_bool (by have : n = 0 ∨ n = 1 := by omega
                            rcases this with rfl | rfl <;> rfl), below_box _ _⟩
      · go_enter Tryz.func99, Tryz.ntmps99
        go_wp2
        go_ret
        exact ⟨ret_bool (by rw [decide_eq_false (show ¬ n = 0 by omega), decide_eq_false (show ¬ n = 1 by omega)]; rfl), below_box _ _⟩
    · go_enter Tryz.func99, Tryz.ntmps99
      go_wp2
      go_ret
      exact ⟨ret_bool (by rw [decide_eq_false (show ¬ n = 0 by omega), decide_eq_false (show ¬ n = 1 by omega)]; rfl), below_box _ _⟩
  all_goals
    go_enter Tryz.func99, Tryz.ntmps99
    go_wp2
    go_ret
    exact ⟨ret_bool (by simp [*]), below_box _ _⟩
theorem refNode_num (n : Int) (s t : ByteArray) (w : World) :
    Calls Tryz.prog 99 #[.agg #[.int .i64 2, .int .i64 n, .string s, .string t]] w fun e w' => e = .returned (.bool (noB s && noB t)) ∧ Below w.heap.size w w' := by
  rcases empty_or s with rfl | ⟨s1, s2, s3⟩ <;> rcases empty_or t with rfl | ⟨t1, t2, t3⟩
  all_goals
    go_enter Tryz.func99, Tryz.ntmps99
    go_wp2
    go_ret
    exact ⟨ret_bool (by simp [*, noB_empty]), below_box _ _⟩
theorem refNode_many (o n : Int) (s t : ByteArray) (w : World) (ho : o = 5 ∨ o = 6) :
    Calls Tryz.prog 99 #[.agg #[.int .i64 o, .int .i64 n, .string s, .string t]] w fun e w' => e = .returned (.bool (decide (0 ≤ n) && noB s && noB t)) ∧ Below w.heap.size w w' := by
  by_cases h0 : 0 ≤ n
  · rcases ho with rfl | rfl <;> rcases empty_or s with rfl | ⟨s1, s2, s3⟩ <;> rcases empty_or t with rfl | ⟨t1, t2, t3⟩
    all_goals
      go_enter Tryz.func99, Tryz.ntmps99
      go_wp2
      go_ret
      exact ⟨ret_bool (by simp [*, noB_empty]), below_box _ _⟩
  · rcases ho with rfl | rfl <;> rcases empty_or s with rfl | ⟨s1, s2, s3⟩ <;> rcases empty_or t with rfl | ⟨t1, t2, t3⟩
    all_goals
      go_enter Tryz.func99, Tryz.ntmps99
      go_wp2
      go_ret
      exact ⟨ret_bool (by first | rfl | (rw [decide_eq_false (show ¬ 0 ≤ n by omega)]; rfl)), below_box _ _⟩
theorem refNode_text (n : Int) (s t : ByteArray) (w : World) (hs : s.size ≤ maxLen) :
    Calls Tryz.prog 99 #[.agg #[.int .i64 3, .int .i64 n, .string s, .string t]] w fun e w' => e = .returned (.bool (decide (n = 0) && noB t && decide (textFault s = 0))) ∧ Below w.heap.size w w' := by
  have P := Lib.hid (fun w => ref_TextFault s w hs)
  by_cases h0 : n = 0
  · subst h0
    rcases empty_or s with rfl | ⟨s1, s2, s3⟩ <;> rcases empty_or t with rfl | ⟨t1, t2, t3⟩
    · have e : textFault ⟨#[]⟩ = 0 := by decide
      rw [e] at P
      go_enter Tryz.func99, Tryz.ntmps99
      go_wp2_with fail
      refine (P.out _).mono ?_
      rintro e w1 ⟨rfl, hb⟩
      go_wp2
      go_ret
      exact ⟨ret_bool (by simp [e, noB_empty]), below_box2 hb⟩
    · go_enter Tryz.func99, Tryz.ntmps99
      go_wp2
      go_ret
      exact ⟨ret_bool (by simp [t3]), below_box _ _⟩
    · by_cases h1 : textFault s = 0
      · rw [h1] at P
        go_enter Tryz.func99, Tryz.ntmps99
        go_wp2_with fail
        refine (P.out _).mono ?_
        rintro e w1 ⟨rfl, hb⟩
        go_wp2
        go_ret
        exact ⟨ret_bool (by simp [h1, noB_empty]), below_box2 hb⟩
      · have h2 : (textFault s == 0) = false := beq_eq_false_iff_ne.2 h1
        go_enter Tryz.func99, Tryz.ntmps99
        go_wp2_with fail
        refine (P.out _).mono ?_
        rintro e w1 ⟨rfl, hb⟩
        go_wp2
        go_ret
        exact ⟨ret_bool (by simp [h1]), below_box2 hb⟩
    · go_enter Tryz.func99, Tryz.ntmps99
      go_wp2
      go_ret
      exact ⟨ret_bool (by simp [t3]), below_box _ _⟩
  · have e0 : (n != 0) = true := by rw [bne_iff_ne]; exact h0
    rcases empty_or s with rfl | ⟨s1, s2, s3⟩ <;> rcases empty_or t with rfl | ⟨t1, t2, t3⟩
    all_goals
      go_enter Tryz.func99, Tryz.ntmps99
      go_wp2
      go_ret
      exact ⟨ret_bool (by simp [h0]), below_box _ _⟩
theorem refNode_ent (n : Int) (s t : ByteArray) (w : World) (hs : s.size ≤ maxLen) (ht : t.size ≤ maxLen) :
    Calls Tryz.prog 99 #[.agg #[.int .i64 4, .int .i64 n, .string s, .string t]] w fun e w' => e = .returned (.bool (decide (n = 0) && decide (nameFault s = 0) && decide (textFault t = 0))) ∧ Below w.heap.size w w' := by
  have P := Lib.hid (fun w => ref_UidFault s t w hs ht)
  have H := Lib.hid (show (or2 (nameFault s) (textFault t) == 0) = (decide (nameFault s = 0) && decide (textFault t = 0)) by
    by_cases h : nameFault s = 0
    · rw [h, or2_zero]; simp; rfl
    · rw [or2_ne h, beq_eq_false_iff_ne.2 h]; simp [h])
  by_cases h0 : n = 0
  · subst h0
    rcases empty_or s with rfl | ⟨s1, s2, s3⟩ <;> rcases empty_or t with rfl | ⟨t1, t2, t3⟩
    all_goals
      go_enter Tryz.func99, Tryz.ntmps99
      go_wp2_with fail
      refine (P.out _).mono ?_
      rintro e w1 ⟨rfl, hb⟩
      go_wp2
      go_ret
      exact ⟨ret_bool (by rw [H.out]; simp), below_box2 hb⟩
  · have e0 : (n != 0) = true := by rw [bne_iff_ne]; exact h0
    rcases empty_or s with rfl | ⟨s1, s2, s3⟩ <;> rcases empty_or t with rfl | ⟨t1, t2, t3⟩
    all_goals
      go_enter Tryz.func99, Tryz.ntmps99
      go_wp2
      go_ret
      exact ⟨ret_bool (by simp [h0]), below_box _ _⟩
theorem refNode_field (n : Int) (s t : ByteArray) (w : World) (hs : s.size ≤ maxLen) :
    Calls Tryz.prog 99 #[.agg #[.int .i64 7, .int .i64 n, .string s, .string t]] w fun e w' => e = .returned (.bool (decide (n = 0) && noB t && decide (nameFault s = 0))) ∧ Below w.heap.size w w' := by
  have P := Lib.hid (fun w => ref_NameFault s w hs)
  have H : (nameFault s == 0) = decide (nameFault s = 0) := rfl
  by_cases h0 : n = 0
  · subst h0
    rcases empty_or s with rfl | ⟨s1, s2, s3⟩ <;> rcases empty_or t with rfl | ⟨t1, t2, t3⟩
    · have e : nameFault ⟨#[]⟩ = 1 := by decide
      rw [e] at P
      go_enter Tryz.func99, Tryz.ntmps99
      go_wp2_with fail
      refine (P.out _).mono ?_
      rintro e w1 ⟨rfl, rfl⟩
      go_wp2
      go_ret
      exact ⟨ret_bool (by simp [e]), below_box _ _⟩
    · go_enter Tryz.func99, Tryz.ntmps99
      go_wp2
      go_ret
      exact ⟨ret_bool (by simp [t3]), below_box _ _⟩
    · by_cases h1 : nameFault s = 0
      · rw [h1] at P
        go_enter Tryz.func99, Tryz.ntmps99
        go_wp2_with fail
        refine (P.out _).mono ?_
        rintro e w1 ⟨rfl, rfl⟩
        go_wp2
        go_ret
        exact ⟨ret_bool (by simp [h1, noB_empty]), below_box _ _⟩
      · have h2 : (nameFault s == 0) = false := beq_eq_false_iff_ne.2 h1
        go_enter Tryz.func99, Tryz.ntmps99
        go_wp2_with fail
        refine (P.out _).mono ?_
        rintro e w1 ⟨rfl, rfl⟩
        go_wp2
        go_ret
        exact ⟨ret_bool (by simp [h1]), below_box _ _⟩
    · go_enter Tryz.func99, Tryz.ntmps99
      go_wp2
      go_ret
      exact ⟨ret_bool (by simp [t3]), below_box _ _⟩
  · have e0 : (n != 0) = true := by rw [bne_iff_ne]; exact h0
    rcases empty_or s with rfl | ⟨s1, s2, s3⟩ <;> rcases empty_or t with rfl | ⟨t1, t2, t3⟩
    all_goals
      go_enter Tryz.func99, Tryz.ntmps99
      go_wp2
      go_ret
      exact ⟨ret_bool (by simp [h0]), below_box _ _⟩
theorem refNode_other (o n : Int) (s t : ByteArray) (w : World) (h1 : (o == 1) = false) (h2 : (o == 2) = false) (h3 : (o == 3) = false) (h4 : (o == 4) = false) (h5 : (o == 5) = false) (h6 : (o == 6) = false) (h7 : (o == 7) = false) :
    Calls Tryz.prog 99 #[.agg #[.int .i64 o, .int .i64 n, .string s, .string t]] w fun e w' => e = .returned (.bool false) ∧ Below w.heap.size w w' := by
  by_cases h0 : n = 0
  · subst h0
    rcases empty_or s with rfl | ⟨s1, s2, s3⟩ <;> rcases empty_or t with rfl | ⟨t1, t2, t3⟩
    all_goals
      go_enter Tryz.func99, Tryz.ntmps99
      go_wp2
      go_ret
      exact ⟨rfl, below_box _ _⟩
  · have e0 : (n != 0) = true := by rw [bne_iff_ne]; exact h0
    rcases empty_or s with rfl | ⟨s1, s2, s3⟩ <;> rcases empty_or t with rfl | ⟨t1, t2, t3⟩
    all_goals
      go_enter Tryz.func99, Tryz.ntmps99
      go_wp2
      go_ret
      exact ⟨rfl, below_box _ _⟩
theorem ref_ValueNode (x : Nd) (w : World) (hs : x.s.size ≤ maxLen) (ht : x.t.size ≤ maxLen) :
    Calls Tryz.prog 99 #[ndV x] w fun e w' => e = .returned (.bool (shapedN x)) ∧ Below w.heap.size w w' := by
  obtain ⟨o, n, s, t⟩ := x
  unfold ndV shapedN
  simp only at hs ht ⊢
  by_cases h1 : o = 1
  · subst h1; rw [if_pos rfl]; exact refNode_bool n s t w
  rw [if_neg h1]
  by_cases h2 : o = 2
  · subst h2; rw [if_pos rfl]; exact refNode_num n s t w
  rw [if_neg h2]
  by_cases h3 : o = 3
  · subst h3; rw [if_pos rfl]; exact refNode_text n s t w hs
  rw [if_neg h3]
  by_cases h4 : o = 4
  · subst h4; rw [if_pos rfl]; exact refNode_ent n s t w hs ht
  rw [if_neg h4]
  by_cases h5 : o = 5 ∨ o = 6
  · rw [if_pos h5]; exact refNode_many o n s t w h5
  rw [if_neg h5]
  by_cases h7 : o = 7
  · subst h7; rw [if_pos rfl]; exact refNode_field n s t w hs
  rw [if_neg h7]
  exact refNode_other o n s t w (beq_eq_false_iff_ne.2 h1) (beq_eq_false_iff_ne.2 h2) (beq_eq_false_iff_ne.2 h3) (beq_eq_false_iff_ne.2 h4) (beq_eq_false_iff_ne.2 fun q => h5 (.inl q)) (beq_eq_false_iff_ne.2 fun q => h5 (.inr q)) (beq_eq_false_iff_ne.2 h7)
end Go.Proofs.YtmekockjgldndaaGreatDoor
namespace Go.Proofs.YtmekockjgldndaaGreatDoor
open Go.RowKit Go.Wk Go.Sort
set_option maxRecDepth 100000

theorem cmpNds_ends {P Q : List Nd} {k : Nat} (h : P.length ≤ k ∨ Q.length ≤ k) (h1 : k ≤ P.length) (h2 : k ≤ Q.length) : cmpNds (P.drop k) (Q.drop k) = cmpI P.length Q.length := by
  by_cases a : P.length ≤ k
  · by_cases b : Q.length ≤ k
    · rw [cmpNds_end0 a b]; unfold cmpI; split <;> (try split) <;> omega
    · rw [cmpNds_end1 a (by omega)]; unfold cmpI; rw [if_pos (by omega)]
  · rw [cmpNds_end2 (by omega) (by omega)]; unfold cmpI; rw [if_neg (by omega), if_pos (by omega)]
set_option maxRecDepth 100000 in
set_option maxHeartbeats 4000000 in
theorem ref_Nodes (A B : Option Addr) (n m c d : Nat) (P Q : List Nd) (w : World) (hn : n = P.length) (hm : m = Q.length) (hln : n ≤ maxLen) (_hlm : m ≤ maxLen) (hP : NdsAt w A P) (hQ : NdsAt w B Q) (oP : NdsOk P) (oQ : NdsOk Q) :
    Calls Tryz.prog 100 #[.slice A n c, .slice B m d] w fun e w' => e = .returned (.int .i64 (cmpNds P Q)) ∧ Below w.heap.size w w' := by
  unfold maxLen at hln _hlm
  have HN := Lib.hid hn
  have HM := Lib.hid hm
  have HP := Lib.hid hP
  have HQ := Lib.hid hQ
  have OP := Lib.hid oP
  have OQ := Lib.hid oQ
  clear hn hm hP hQ oP oQ
  go_enter Tryz.func100, Tryz.ntmps100
  go_wp2_with fail
  go_loopw [4, 5] (fun _ i wr => ∃ k : Nat, k ≤ n ∧ k ≤ m ∧ i = .int .i64 k ∧ Hid (cmpNds P Q = cmpNds (P.drop k) (Q.drop k)) ∧ Hid (Below w.heap.size w wr)) (fun _ i _ => n - (intOf i).toNat)
  case atStart => exact ⟨0, Nat.zero_le _, Nat.zero_le _, rfl, rfl, Below.refl _ _⟩
  case round =>
    obtain ⟨k, hkn, hkm, rfl, hc, hbel⟩ := hrel
    by_cases h1 : k < n
    · have h1' : k < P.length := by rw [← HN.out]; exact h1
      obtain ⟨a, rfl, D⟩ := (HP.out.keep hbel.out).nd h1'
      by_cases h2 : k < m
      · have h2' : k < Q.length := by rw [← HM.out]; exact h2
        obtain ⟨b, rfl, E⟩ := (HQ.out.keep hbel.out).nd h2'
        have HA := Lib.hid (hc.out.trans (cmpNds_at h1' h2'))
        have N1 := fun w => ref_Numbers P[k].op Q[k].op w
        have N2 := fun w => ref_Numbers P[k].n Q[k].n w
        have N3 := fun w => ref_Texts P[k].s Q[k].s w (OP.out.at h1').s (OQ.out.at h2').s
        have N4 := fun w => ref_Texts P[k].t Q[k].t w (OP.out.at h1').t (OQ.out.at h2').t
        have HX : cmpNd P[k] Q[k] = or4 (cmpI P[k].op Q[k].op) (cmpI P[k].n Q[k].n) (cmpB P[k].s Q[k].s) (cmpB P[k].t Q[k].t) := rfl
        rw [HX] at HA
        generalize P[k] = x at *
        generalize Q[k] = y at *
        generalize cmpI x.op y.op = v1 at *
        generalize cmpI x.n y.n = v2 at *
        generalize cmpB x.s y.s = v3 at *
        generalize cmpB x.t y.t = v4 at *
        clear hc HX
        have k1 := cell_regrown D.c0
        have k2 := cell_regrown E.c0
        have s1 := rqs (w := wr) N1
        have M2 := Lib.hid N2
        have M3 := Lib.hid N3
        have M4 := Lib.hid N4
        have HD := Lib.hid D
        have HE := Lib.hid E
        clear N1 N2 N3 N4 D E
        go_wp2_with fail
        refine wp_region_quiet_below (by kernel_rfl) (by kernel_rfl) ?_
        repeat (first | go_big_quiet_step (exact s1 _ _) | quiet_step (exact s1 _ _))
        refine wpQuiet_nil ?_
        intro w1 hw'
        have B1 := Lib.hid (show Below wr.heap.size wr w1 by obtain ⟨⟨d, os⟩, rfl⟩ := hw'; exact below_regrown _ _ _)
        clear hw'
        clear k1 k2 s1
        by_cases e1 : v1 = 0
        · subst e1
          have k1 := cell_regrown (HD.out.keep B1.out).c1
          have k2 := cell_regrown (HE.out.keep B1.out).c1
          have s1 := rqs (w := w1) M2.out
          go_wp2_with fail
          refine wp_region_quiet_below (by kernel_rfl) (by kernel_rfl) ?_
          repeat (first | go_big_quiet_step (exact s1 _ _) | quiet_step (exact s1 _ _))
          refine wpQuiet_nil ?_
          intro w2 hw'
          have B2 := Lib.hid (show Below w1.heap.size w1 w2 by obtain ⟨⟨d, os⟩, rfl⟩ := hw'; exact below_regrown _ _ _)
          clear hw'
          replace B2 := bh B1 B2.out
          clear k1 k2 s1
          by_cases e2 : v2 = 0
          · subst e2
            have k1 := cell_regrown (HD.out.keep B2.out).c2
            have k2 := cell_regrown (HE.out.keep B2.out).c2
            have s1 := rq (w := w2) (fun w' _ => M3.out w')
            go_wp2_with fail
            refine wp_region_quiet_below (by kernel_rfl) (by kernel_rfl) ?_
            repeat (first | go_big_quiet_step (exact s1 _ _) | quiet_step (exact s1 _ _))
            refine wpQuiet_nil ?_
            intro w3 hw'
            have B3 := Lib.hid (show Below w2.heap.size w2 w3 by obtain ⟨⟨d, os⟩, rfl⟩ := hw'; exact below_regrown _ _ _)
            clear hw'
            replace B3 := bh B2 B3.out
            clear k1 k2 s1
            by_cases e3 : v3 = 0
            · subst e3
              have k1 := cell_regrown (HD.out.keep B3.out).c3
              have k2 := cell_regrown (HE.out.keep B3.out).c3
              have s1 := rq (w := w3) (fun w' _ => M4.out w')
              go_wp2_with fail
              refine wp_region_quiet_below (by kernel_rfl) (by kernel_rfl) ?_
              repeat (first | go_big_quiet_step (exact s1 _ _) | quiet_step (exact s1 _ _))
              refine wpQuiet_nil ?_
              intro w4 hw'
              have B4 := Lib.hid (show Below w3.heap.size w3 w4 by obtain ⟨⟨d, os⟩, rfl⟩ := hw'; exact below_regrown _ _ _)
              clear hw'
              replace B4 := bh B3 B4.out
              clear k1 k2 s1
              by_cases e4 : v4 = 0
              · subst e4
                have HB := Lib.hid (HA.out.trans (show _ = cmpNds (P.drop (k + 1)) (Q.drop (k + 1)) from rfl))
                go_wp2_with fail
                go_roundw
                case rel => exact ⟨k + 1, by omega, by omega, by go_num, HB, bhid hbel B4 (Nat.le_refl _)⟩
                case measure => simp [intOf]; omega
              · have HB := Lib.hid (HA.out.trans (show _ = v4 by unfold or4; rw [or2_zero, or2_zero, or2_zero, or2_ne e4]))
                have e4' : (v4 != 0) = true := by rw [bne_iff_ne]; exact e4
                clear e4
                go_wp2_with fail
                go_ret
                exact ⟨ret_i64 HB.out.symm, (bhid hbel B4 (Nat.le_refl _)).out⟩
            · have HB := Lib.hid (HA.out.trans (show _ = v3 by unfold or4; rw [or2_zero, or2_zero, or2_ne e3, or2_ne e3]))
              have e3' : (v3 != 0) = true := by rw [bne_iff_ne]; exact e3
              have e3'' : (v3 == 0) = false := beq_eq_false_iff_ne.2 e3
              clear e3
              go_wp2_with fail
              go_ret
              exact ⟨ret_i64 HB.out.symm, (bhid hbel B3 (Nat.le_refl _)).out⟩
          · have HB := Lib.hid (HA.out.trans (show _ = v2 by unfold or4; rw [or2_zero, or2_ne e2, or2_ne e2]))
            have e3' : (v2 != 0) = true := by rw [bne_iff_ne]; exact e2
            have e3'' : (v2 == 0) = false := beq_eq_false_iff_ne.2 e2
            clear e2
            go_wp2_with fail
            go_ret
            exact ⟨ret_i64 HB.out.symm, (bhid hbel B2 (Nat.le_refl _)).out⟩
        · have HB := Lib.hid (HA.out.trans (show _ = v1 by unfold or4; rw [or2_ne e1, or2_ne e1]))
          have e3' : (v1 != 0) = true := by rw [bne_iff_ne]; exact e1
          have e3'' : (v1 == 0) = false := beq_eq_false_iff_ne.2 e1
          clear e1
          go_wp2_with fail
          go_ret
          exact ⟨ret_i64 HB.out.symm, (bhid hbel B1 (Nat.le_refl _)).out⟩
      · have HB := Lib.hid (hc.out.trans (cmpNds_ends (.inr (by rw [← HM.out]; omega)) (by rw [← HN.out]; omega) (by rw [← HM.out]; omega)))
        rw [← HN.out, ← HM.out] at HB
        clear hc
        go_wp2_with fail
        refine (ref_Numbers _ _ _).mono ?_
        rintro e w1 ⟨rfl, rfl⟩
        go_wp2_with fail
        go_ret
        exact ⟨ret_i64 HB.out.symm, hbel.out⟩
    · have HB := Lib.hid (hc.out.trans (cmpNds_ends (.inl (by rw [← HN.out]; omega)) (by rw [← HN.out]; omega) (by rw [← HM.out]; omega)))
      rw [← HN.out, ← HM.out] at HB
      clear hc
      go_wp2_with fail
      refine (ref_Numbers _ _ _).mono ?_
      rintro e w1 ⟨rfl, rfl⟩
      go_wp2_with fail
      go_ret
      exact ⟨ret_i64 HB.out.symm, hbel.out⟩
end Go.Proofs.YtmekockjgldndaaGreatDoor
