/-
  slices.CompactFunc over slices of nodes, with val.SetOf's function: without what is as the one before it.
  slices.Clone of slices of nodes: the same slices in a row of the call's own.
  The reference's order of nodes.
  The reference's ValueEnd, ValueFault and Faults.
  The reference's ValueEnd at sets and records; ValueFault.
  The reference's ValueEnd outright; ValueFault and Faults.
-/
import Derived.Test.YtcdpoamiejompaaGreatDoorQe24
namespace Go.Proofs.YtcdpoamiejompaaGreatDoor
open Go.RowKit Go.Wk Go.Sort
set_option maxRecDepth 100000

theorem setOf1 (r s : Sl) (w : World) (h : Ns w r.A r.n r.c r.P) (k : Ns w s.A s.n s.c s.P) :
    Calls Tryz.prog 168 #[r.v, s.v] w fun e w' => e = .returned (.bool (cmpNds r.P s.P == 0)) ∧ Below w.heap.size w w' := by
  have HC := Lib.hid (ns_orderD h k)
  clear h k
  unfold Sl.v at HC ⊢
  go_enter Tryz.func168, Tryz.ntmps168
  go_wp2_with fail
  refine HC.out.mono ?_
  rintro e w1 ⟨rfl, hb⟩
  have HB := Lib.hid hb.b
  clear hb HC
  go_wp2_with fail
  go_ret
  exact ⟨rfl, HB.out⟩

/-- The row while it is compacted: what is kept, then what was not yet looked at. -/
def CRow (w : World) (g cap : Nat) (V Y : List Sl) (m : Nat) : Prop :=
  ∃ cur, w.heap[g]? = some (.cells cur 25 (0, 0)) ∧ cur.size = cap ∧ (∀ j (h : j < Y.length), cur[j]? = some Y[j].v) ∧ ∀ j (h : j < V.length), m ≤ j → cur[j]? = some V[j].v
theorem CRow.keep {w w' : World} {g cap m : Nat} {V Y : List Sl} (h : CRow w g cap V Y m) (hb : Below w.heap.size w w') : CRow w' g cap V Y m := by
  obtain ⟨cur, h1, h2⟩ := h
  exact ⟨cur, by rw [(grown_of_below hb none).block g (Array.getElem?_eq_some_iff.1 h1).1 (by simp)]; exact h1, h2⟩
theorem CRow.cell {w : World} {g cap m : Nat} {V Y : List Sl} (h : CRow w g cap V Y m) {j : Nat} (hj : j < V.length) (hm : m ≤ j) : w.cell? ⟨g, j, none⟩ = some V[j].v ∧ w.frozen? ⟨g, j, none⟩ = false := by
  obtain ⟨cur, h1, -, -, h4⟩ := h
  exact ⟨by simp [World.cell?, h1, h4 j hj hm], by simp [World.frozen?, h1]⟩
theorem CRow.skip {w : World} {g cap m : Nat} {V Y : List Sl} (h : CRow w g cap V Y m) : CRow w g cap V Y (m + 1) := by
  obtain ⟨cur, h1, h2, h3, h4⟩ := h
  exact ⟨cur, h1, h2, h3, fun j hj hm => h4 j hj (by omega)⟩
theorem CRow.put {w : World} {g cap m : Nat} {V Y : List Sl} (h : CRow w g cap V Y m) (r : Sl) (hY : Y.length ≤ m) (hc : Y.length < cap) : CRow (w.setCell ⟨g, Y.length, none⟩ r.v) g cap V (Y ++ [r]) (m + 1) := by
  obtain ⟨cur, h1, h2, h3, h4⟩ := h
  refine ⟨cur.setIfInBounds Y.length r.v, ?_, by simpa using h2, fun j hj => ?_, fun j hj hm => ?_⟩
  · rw [setCell_eq]
    simp [mapBlock, Array.getElem?_modify, h1, onCells]
  · by_cases e : j = Y.length
    · subst e
      simp [show Y.length < cur.size by omega]
    · have : j < Y.length := by simp at hj; omega
      rw [Array.getElem?_setIfInBounds_ne (by omega), h3 j this]
      simp [List.getElem_append_left this]
  · rw [Array.getElem?_setIfInBounds_ne (by omega)]
    exact h4 j hj (by omega)
theorem CRow.clear {g cap : Nat} {Y : List Sl} : ∀ (vs : List Value) (o : Nat) (w : World), CRow w g cap [] Y 0 → Y.length ≤ o → CRow (w.setCells g o vs) g cap [] Y 0
  | [], _, _, h, _ => h
  | v :: r, o, w, h, ho => by
    refine CRow.clear r (o + 1) _ ?_ (by omega)
    obtain ⟨cur, h1, h2, h3, -⟩ := h
    refine ⟨cur.setIfInBounds o v, ?_, by simpa using h2, fun j hj => ?_, fun j hj => by simp at hj⟩
    · rw [setCell_eq]
      simp [mapBlock, Array.getElem?_modify, h1, onCells]
    · rw [Array.getElem?_setIfInBounds_ne (by omega)]
      exact h3 j hj
theorem grown_set (w : World) (g o : Nat) (v : Value) : w.grownBy (w.setCell ⟨g, o, none⟩ v) (some g) := by
  rw [setCell_eq]
  refine ⟨rfl, rfl, rfl, by simp [mapBlock], fun k hk hne => ?_⟩
  have : g ≠ k := fun e => hne (by rw [e])
  simp [mapBlock, Array.getElem?_modify, this]
theorem grown_sets (g : Nat) : ∀ (vs : List Value) (o : Nat) (w : World), w.grownBy (w.setCells g o vs) (some g)
  | [], _, w => World.grownBy.refl w _
  | v :: r, o, w => (grown_set w g o v).trans (grown_sets g r (o + 1) _)
/-- The row, cut to what is kept, is the call's own. -/
theorem CRow.own {w w' : World} {B g cap m n : Nat} {V Y U : List Sl} (h : OwnSls w B (.slice (some ⟨g, 0, none⟩) n cap) V) (hc : CRow w' g cap U Y m) (hg : w.grownBy w' (some g)) (hY : ∀ x ∈ Y, x ∈ V) (hl : Y.length ≤ n) : OwnSls w' B (.slice (some ⟨g, 0, none⟩) Y.length cap) Y := by
  obtain ⟨cur, c1, c2, c3, -⟩ := hc
  rcases h.own.2 with ⟨e0, -⟩ | ⟨g', cap', cur', e0, hBg, hh, h1, h2, h3, h4⟩
  · cases e0
  injection e0 with e1 _ e2
  injection e1 with e1
  injection e1 with e1
  subst e1 e2
  refine ⟨⟨by simp, .inr ⟨g, cap, cur, rfl, hBg, c1, by have := h.own.1; omega, h2, by simpa using c2, ?_⟩⟩, fun r hr => (h.each r (hY r hr)).row hg (h.apart r (hY r hr)), fun r hr => h.apart r (hY r hr)⟩
  apply List.ext_getElem?
  intro j
  by_cases hj : j < Y.length
  · rw [List.getElem?_take_of_lt (by omega), Array.getElem?_toList, c3 j hj]
    simp [hj]
  · rw [List.getElem?_take_eq_none (by omega), List.getElem?_eq_none (by simp; omega)]
theorem crow_of {w : World} {B g cap : Nat} {V : List Sl} (h : OwnSls w B (.slice (some ⟨g, 0, none⟩) V.length cap) V) : CRow w g cap V [] 0 ∧ V.length ≤ cap := by
  rcases h.own.2 with ⟨e0, -⟩ | ⟨g', cap', cur, e0, hBg, hh, h1, h2, h3, h4⟩
  · cases e0
  injection e0 with e1 _ e2
  injection e1 with e1
  injection e1 with e1
  subst e1 e2
  refine ⟨⟨cur, hh, by simpa using h3, fun j hj => by simp at hj, fun j hj _ => ?_⟩, h1⟩
  have e : (cur.toList.take (V.length * 1))[j]? = (V.map Sl.v)[j]? := by rw [h4]
  rw [List.getElem?_take_of_lt (by omega), Array.getElem?_toList] at e
  rw [e]; simp [hj]
theorem CRow.take {w : World} {g cap : Nat} {V : List Sl} (h : CRow w g cap V [] 0) (k : Nat) : CRow w g cap V (V.take k) k := by
  obtain ⟨cur, h1, h2, h3, h4⟩ := h
  refine ⟨cur, h1, h2, fun j hj => ?_, fun j hj _ => h4 j hj (Nat.zero_le _)⟩
  have hj' : j < V.length := by simp at hj; omega
  rw [h4 j hj' (Nat.zero_le _), List.getElem_take]
theorem CRow.forget {w : World} {g cap m : Nat} {V Y : List Sl} (h : CRow w g cap V Y m) : CRow w g cap [] Y 0 := by
  obtain ⟨cur, h1, h2, h3, h4⟩ := h
  exact ⟨cur, h1, h2, h3, fun j hj => by simp at hj⟩
theorem CRow.there {w : World} {g cap m : Nat} {V Y : List Sl} (h : CRow w g cap V Y m) {j : Nat} (hj : j < cap) : (∃ v, w.cell? ⟨g, j, none⟩ = some v) ∧ w.frozen? ⟨g, j, none⟩ = false := by
  obtain ⟨cur, h1, h2, -, -⟩ := h
  exact ⟨⟨cur[j]'(by omega), by simp [World.cell?, h1, show j < cur.size by omega]⟩, by simp [World.frozen?, h1]⟩
theorem zero_sl (w : World) : (zeroValue 25).run Tryz.prog w = .ok (.slice none 0 0) w := by kernel_rfl
theorem goL_start {V : List Sl} {p : Sl} {k : Nat} (h : k < V.length) (h0 : cmpNds V[k].P p.P = 0) (he : compactL V = V.take k ++ goL p (V.drop k)) : compactL V = V.take k ++ goL V[k] (V.drop (k + 1)) := by
  rw [he, goL_eq h h0]
set_option maxHeartbeats 4000000 in
theorem compact_sls (w : World) (B g cap : Nat) (V : List Sl) (h : OwnSls w B (.slice (some ⟨g, 0, none⟩) V.length cap) V) (hs : V.length ≤ 5864062014634) :
    Calls Tryz.prog 167 #[.slice (some ⟨g, 0, none⟩) V.length cap, .func (.func 168) #[] #[]] w fun e w' =>
      e = .returned (.slice (some ⟨g, 0, none⟩) (compactL V).length cap) ∧ OwnSls w' B (.slice (some ⟨g, 0, none⟩) (compactL V).length cap) (compactL V) ∧ w.grownBy w' (some g) := by
  have HR := Lib.hid (crow_of h).1
  have hcap := (crow_of h).2
  have HH := Lib.hid h
  clear h
  by_cases h2 : V.length < 2
  · have HC := Lib.hid (compact_short h2)
    go_enter Tryz.func167, Tryz.ntmps167
    go_wp2
    go_ret
    rw [HC.out]
    exact ⟨rfl, HH.out, World.grownBy.refl _ _⟩
  · go_enter Tryz.func167, Tryz.ntmps167
    go_wp2
    go_loopw [5] (fun i wr => ∃ k : Nat, 1 ≤ k ∧ k ≤ V.length ∧ i = .int .i64 k ∧ Hid (∃ p, V[k - 1]? = some p ∧ compactL V = V.take k ++ goL p (V.drop k)) ∧ Hid (Below w.heap.size w wr)) (fun i _ => V.length - (intOf i).toNat)
    case atStart => exact ⟨1, Nat.le_refl _, by omega, rfl, ⟨V[0], by simp, compact_start (by omega)⟩, Below.refl _ _⟩
    case round =>
      obtain ⟨k, hk1, hk2, rfl, hc, hb⟩ := hrel
      by_cases hlt : k < V.length
      · obtain ⟨a1, f1⟩ := (HR.out.keep hb.out).cell hlt (Nat.zero_le _)
        obtain ⟨a0, f0⟩ := (HR.out.keep hb.out).cell (j := k - 1) (by omega) (Nat.zero_le _)
        have n1 := (HH.out.each _ (List.getElem_mem hlt)).keep hb.out
        have n0 := (HH.out.each _ (List.getElem_mem (show k - 1 < V.length by omega))).keep hb.out
        have s1 := rq (w := wr) (fun w' h => setOf1 V[k] V[k - 1] w' (n1.keep h) (n0.keep h))
        clear n1 n0
        unfold Sl.v at a1 a0 s1
        have k1 := cell_regrown a1
        have k0 := cell_regrown a0
        go_wp2_with fail
        refine wp_region_quiet_below (by kernel_rfl) (by kernel_rfl) ?_
        repeat (first | go_big_quiet_step (exact s1 _ _) | quiet_step (exact s1 _ _))
        refine wpQuiet_nil ?_
        intro w1 hw'
        have B1 := Lib.hid (show Below wr.heap.size wr w1 by obtain ⟨⟨d, os⟩, rfl⟩ := hw'; exact below_regrown _ _ _)
        clear hw'
        clear s1 k1 k0 a1 a0 f1 f0
        by_cases h0 : cmpNds V[k].P V[k - 1].P = 0
        · have e0 : (cmpNds V[k].P V[k - 1].P == 0) = true := by rw [h0]; rfl
          have HI := Lib.hid (show (V.take k).length = k ∧ ∃ p, V[k + 1 - 1]? = some p ∧ compactL V = V.take k ++ goL p (V.drop (k + 1)) by
            obtain ⟨p, hp, he⟩ := hc.out
            have hp' : V[k - 1] = p := by
              rw [List.getElem?_eq_getElem (by omega)] at hp; injection hp
            subst hp'
            exact ⟨by simp; omega, V[k], by simp [hlt], goL_start hlt h0 he⟩)
          have HB := bhid hb B1 (Nat.le_refl _)
          have R1 := Lib.hid ((HR.out.keep HB.out).take k)
          have G1 := Lib.hid (grown_of_below HB.out (some g))
          rw [e0]
          clear hc hb B1 h0 e0
          have hlc : k < cap := by omega
          go_wp2
          go_loopw [5, 7] (fun i j wr => ∃ (kk k2 : Nat) (Y : List Sl), i = .int .i64 kk ∧ j = .int .i64 k2 ∧ 1 ≤ k2 ∧ k + k2 ≤ V.length ∧ kk ≤ k + k2 - 1 ∧ Hid (Y.length = kk ∧ ∃ p, V[k + k2 - 1]? = some p ∧ compactL V = Y ++ goL p (V.drop (k + k2))) ∧ Hid (CRow wr g cap V Y (k + k2 - 1)) ∧ Hid (w.grownBy wr (some g))) (fun _ j _ => V.length - (intOf j).toNat)
          case atStart => exact ⟨k, 1, V.take k, rfl, rfl, Nat.le_refl _, by omega, by omega, HI, R1, G1⟩
          case round =>
            obtain ⟨kk, k2, Y, rfl, rfl, g1, g2, g3, hI, hR, hG⟩ := hrel
            by_cases hlt2 : k + k2 < V.length
            · obtain ⟨a1, f1⟩ := hR.out.cell hlt2 (by omega)
              obtain ⟨a0, f0⟩ := hR.out.cell (j := k + k2 - 1) (by omega) (by omega)
              have n1 := (HH.out.each _ (List.getElem_mem hlt2)).row hG.out (HH.out.apart _ (List.getElem_mem hlt2))
              have n0 := (HH.out.each _ (List.getElem_mem (show k + k2 - 1 < V.length by omega))).row hG.out (HH.out.apart _ (List.getElem_mem (show k + k2 - 1 < V.length by omega)))
              have s1 := rq (w := wr) (fun w' h => setOf1 V[k + k2] V[k + k2 - 1] w' (n1.keep h) (n0.keep h))
              clear n1 n0
              unfold Sl.v at a1 a0 s1
              have a0' : wr.cell? ⟨g, k + (k2 - 1), none⟩ = some (.slice V[k + k2 - 1].A V[k + k2 - 1].n V[k + k2 - 1].c) := by rw [show k + (k2 - 1) = k + k2 - 1 by omega]; exact a0
              have f0' : wr.frozen? ⟨g, k + (k2 - 1), none⟩ = false := by rw [show k + (k2 - 1) = k + k2 - 1 by omega]; exact f0
              clear a0 f0
              have k1 := cell_regrown a1
              have k0 := cell_regrown a0'
              go_wp2_with fail
              refine wp_region_quiet_below (by kernel_rfl) (by kernel_rfl) ?_
              repeat (first | go_big_quiet_step (exact s1 _ _) | quiet_step (exact s1 _ _))
              refine wpQuiet_nil ?_
              intro w1 hw'
              have B1 := Lib.hid (show Below wr.heap.size wr w1 by obtain ⟨⟨d, os⟩, rfl⟩ := hw'; exact below_regrown _ _ _)
              clear hw'
              clear s1 k1 k0 a1 a0' f1 f0'
              have G2 := Lib.hid (hG.out.trans (grown_of_below B1.out (some g)))
              have R2 := Lib.hid (hR.out.keep B1.out)
              clear hG hR B1
              by_cases h0 : cmpNds V[k + k2].P V[k + k2 - 1].P = 0
              · have e0 : (cmpNds V[k + k2].P V[k + k2 - 1].P == 0) = true := by rw [h0]; rfl
                have HJ := Lib.hid (show Y.length = kk ∧ ∃ p, V[k + (k2 + 1) - 1]? = some p ∧ compactL V = Y ++ goL p (V.drop (k + (k2 + 1))) by
                  obtain ⟨hl, p, hp, he⟩ := hI.out
                  have hp' : V[k + k2 - 1] = p := by
                    rw [List.getElem?_eq_getElem (by omega)] at hp; injection hp
                  subst hp'
                  refine ⟨hl, V[k + k2], by rw [show k + (k2 + 1) - 1 = k + k2 by omega]; exact List.getElem?_eq_getElem hlt2, ?_⟩
                  rw [he, goL_eq hlt2 h0]; rfl)
                have R3 := Lib.hid (show CRow w1 g cap V Y (k + (k2 + 1) - 1) by
                  have := R2.out.skip
                  rwa [show k + k2 - 1 + 1 = k + (k2 + 1) - 1 by omega] at this)
                rw [e0]
                clear hI R2 h0 e0
                go_wp2
                go_roundw
                case rel => exact ⟨kk, k2 + 1, Y, rfl, by go_num, by omega, by omega, by omega, HJ, R3, G2⟩
                case measure => simp [intOf]; omega
              · have e0 : (cmpNds V[k + k2].P V[k + k2 - 1].P == 0) = false := beq_eq_false_iff_ne.2 h0
                have HJ := Lib.hid (show (Y ++ [V[k + k2]]).length = kk + 1 ∧ ∃ p, V[k + (k2 + 1) - 1]? = some p ∧ compactL V = (Y ++ [V[k + k2]]) ++ goL p (V.drop (k + (k2 + 1))) by
                  obtain ⟨hl, p, hp, he⟩ := hI.out
                  have hp' : V[k + k2 - 1] = p := by
                    rw [List.getElem?_eq_getElem (by omega)] at hp; injection hp
                  subst hp'
                  refine ⟨by simp [hl], V[k + k2], by rw [show k + (k2 + 1) - 1 = k + k2 by omega]; exact List.getElem?_eq_getElem hlt2, ?_⟩
                  rw [he, goL_ne hlt2 h0, List.append_assoc]; rfl)
                have R3 := Lib.hid (show CRow (w1.setCell ⟨g, kk, none⟩ V[k + k2].v) g cap V (Y ++ [V[k + k2]]) (k + (k2 + 1) - 1) by
                  have := R2.out.put V[k + k2] (by rw [hI.out.1]; omega) (by rw [hI.out.1]; omega)
                  rwa [show k + k2 - 1 + 1 = k + (k2 + 1) - 1 by omega, hI.out.1] at this)
                have G3 := Lib.hid (G2.out.trans (grown_set w1 g kk V[k + k2].v))
                obtain ⟨a1, f1⟩ := R2.out.cell hlt2 (by omega)
                obtain ⟨⟨vk, ak⟩, fk⟩ := R2.out.there (j := kk) (by omega)
                unfold Sl.v at a1
                rw [e0]
                clear hI R2 G2 h0 e0
                go_wp2
                go_roundw
                case rel => exact ⟨kk + 1, k2 + 1, _, by go_num, by go_num, by omega, by omega, by omega, HJ, R3, G3⟩
                case measure => simp [intOf]; omega
            · have HY := Lib.hid (show compactL V = Y ∧ Y.length = kk by
                obtain ⟨hl, p, hp, he⟩ := hI.out
                exact ⟨by rw [he, goL_end (by omega), List.append_nil], hl⟩)
              have hcl : ∀ ty, (Builtin.clear_ #[59] ty #[.slice (some ⟨g, kk, none⟩) (V.length - kk) (cap - kk)]).run Tryz.prog wr = .ok (.tuple #[]) (wr.setCells g kk (List.replicate (V.length - kk) (.slice none 0 0))) :=
                fun ty => Lib.run_clear_slice wr _ _ ty _ Tryz.underlying59 zero_sl rfl rfl g kk _ _ (by omega) (fun j hj => by obtain ⟨⟨v, q⟩, -⟩ := hR.out.there (j := kk + j) (by omega); rw [q]; rfl) (fun j hj => (hR.out.there (j := kk + j) (by omega)).2)
              have G2 := Lib.hid (hG.out.trans (grown_sets g (List.replicate (V.length - kk) (.slice none 0 0)) kk wr))
              have R2 := Lib.hid (CRow.clear (List.replicate (V.length - kk) (.slice none 0 0)) kk wr hR.out.forget (by rw [HY.out.2]; exact Nat.le_refl _))
              clear hI hR hG
              go_wp2
              go_ret
              have hl := HY.out.2
              have hy := HY.out.1
              refine ⟨by rw [hy, hl]; rfl, ?_, G2.out⟩
              rw [hy]
              exact CRow.own HH.out R2.out G2.out (fun x hx => compact_sub (by rw [hy]; exact hx)) (by omega)
        · have e0 : (cmpNds V[k].P V[k - 1].P == 0) = false := beq_eq_false_iff_ne.2 h0
          have HC := Lib.hid (show ∃ p, V[k]? = some p ∧ compactL V = V.take (k + 1) ++ goL p (V.drop (k + 1)) by
            obtain ⟨p, hp, he⟩ := hc.out
            have hp' : V[k - 1] = p := by
              rw [List.getElem?_eq_getElem (by omega)] at hp; injection hp
            subst hp'
            refine ⟨V[k], by simp [hlt], ?_⟩
            rw [he, goL_ne hlt h0, ← List.take_append_getElem hlt, List.append_assoc]
            rfl)
          rw [e0]
          clear hc
          have HB := bhid hb B1 (Nat.le_refl _)
          clear hb B1
          go_wp2
          go_roundw
          case rel => exact ⟨k + 1, by omega, by omega, by go_num, HC, HB⟩
          case measure => simp [intOf]; omega
      · have HC := Lib.hid (show compactL V = V by
          obtain ⟨p, hp, he⟩ := hc.out
          rw [he, goL_end (by omega), List.take_of_length_le (by omega), List.append_nil])
        clear hc
        go_wp2
        go_ret
        rw [HC.out]
        exact ⟨rfl, HH.out.keep hb.out, grown_of_below hb.out _⟩
end Go.Proofs.YtcdpoamiejompaaGreatDoor
namespace Go.Proofs.YtcdpoamiejompaaGreatDoor
open Go.RowKit Go.Wk Go.Sort
set_option maxRecDepth 100000

theorem SlsAt.cells {w : World} {a : Addr} {V : List Sl} (h : SlsAt w (some a) V) : ∀ j u, (V.map Sl.v)[j]? = some u → w.cell? (a.add j) = some u := by
  intro j u hu
  rw [List.getElem?_map] at hu
  rcases hv : V[j]? with _ | r
  · rw [hv] at hu; cases hu
  · rw [hv] at hu
    simp only [Option.map_some, Option.some.injEq] at hu
    subst hu
    obtain ⟨b, e, q, -⟩ := h j r hv
    injection e with e
    subst e
    exact q
def Clone2Post (w : World) (V : List Sl) (e : Ending) (w' : World) : Prop := ∃ v, e = .returned v ∧ OwnSls w' w.heap.size v V ∧ Below w.heap.size w w'
set_option maxHeartbeats 1000000 in
theorem clone_sls (A : Option Addr) (n c : Nat) (V : List Sl) (w : World) (hn : n = V.length) (hm : n * 24 ≤ 140737488355328) (h : SlsAt w A V) :
    Calls Tryz.prog 165 #[.slice A n c] w (Clone2Post w V) := by
  obtain ⟨i0, hi, hz0, hz1, hz2⟩ := info_parts slInfo
  subst hn
  rcases A with _ | a
  · have h0 : V = [] := by
      rcases V with _ | ⟨r, V⟩
      · rfl
      · obtain ⟨a, e, -⟩ := h 0 r rfl
        cases e
    subst h0
    have hnil := fun w : World => Lib.run_eql_slice_nil (P := Tryz.prog) w 59 25 none 0 c 0 0 Tryz.underlying59
    simp only [Option.isNone_none] at hnil
    show Calls _ _ #[.slice none 0 c] w _
    clear h
    go_enter Tryz.func165, Tryz.ntmps165
    go_wp2_with fail
    go_ret
    exact ⟨_, rfl, OwnSls.nil _ _, Below.refl _ _⟩
  · have hnil := fun w : World => Lib.run_eql_slice_nil (P := Tryz.prog) w 59 25 (some a) V.length c 0 0 Tryz.underlying59
    simp only [Option.isNone_some] at hnil
    have HC := Lib.hid (fun w' hb => (h.keep (w' := w') hb).cells)
    have HE := Lib.hid (show ∀ r ∈ V, Ns w r.A r.n r.c r.P from fun r hr => by
      obtain ⟨k, hk, rfl⟩ := List.getElem_of_mem hr
      obtain ⟨-, -, -, q⟩ := h.at hk
      exact q)
    have hB : ∀ W : World, (W.alloc (.cells #[] 25)).ownsRow W.heap.size 25 1 (.slice (some ⟨W.heap.size, 0, none⟩) 0 0) 0 [] := fun W =>
      ⟨rfl, .inr ⟨_, 0, #[], rfl, Nat.le_refl _, heap_alloc_new W _, Nat.le_refl _, by unfold maxLen; omega, rfl, rfl⟩⟩
    clear h
    go_enter Tryz.func165, Tryz.ntmps165
    go_wp2_with (at_builtin; refine wpList_append_own_at _ rfl _ _ 59 rfl w.heap.size 25 i0 _ 1 24 Tryz.underlying59 hi hz0 hz1 hz2 rfl (by decide) _ 0 [] rfl (hB w) a V.length c (V.map Sl.v) rfl (by simp) (HC.out _ (below_box _ _)) (by intro u hu; obtain ⟨r, -, rfl⟩ := List.mem_map.1 hu; rfl) ?c1 ?c2 ?c3 ?_)
    case c1 => unfold maxLen; omega
    case c2 => omega
    case c3 => simp
    intro v1 w1 hown hgrow _ hat
    have B1 := Lib.hid ((below_box w (.cells #[] 25)).grown hgrow (by simp) (fun k hk => by simp [Value.ownBlock] at hk; omega))
    have O1 := Lib.hid (show OwnSls w1 w.heap.size v1 V from ⟨by simpa using hown, fun r hr => (HE.out r hr).keep B1.out, fun r hr h0 a' ea q => by
      have := own_base hown a'.block q
      have := (HE.out r hr).at_.lt h0 a' ea
      omega⟩)
    clear hown hgrow hat hnil
    go_wp2_with fail
    go_ret
    exact ⟨_, rfl, O1.out, B1.out⟩
end Go.Proofs.YtcdpoamiejompaaGreatDoor
namespace Go.Proofs.YtcdpoamiejompaaGreatDoor
open Go.RowKit Go.Wk Go.Sort
set_option maxRecDepth 100000

theorem cmpNds_ends {P Q : List Nd} {k : Nat} (h : P.length ≤ k ∨ Q.length ≤ k) (h1 : k ≤ P.length) (h2 : k ≤ Q.length) : cmpNds (P.drop k) (Q.drop k) = cmpI P.length Q.length := by
  by_cases a : P.length ≤ k
  · by_cases b : Q.length ≤ k
    · rw [cmpNds_end0 a b]; unfold cmpI; split <;> (try split) <;> omega
    · rw [cmpNds_end1 a (by omega)]; unfold cmpI; rw [if_pos (by omega)]
  · rw [cmpNds_end2 (by omega) (by omega)]; unfold cmpI; rw [if_neg (by omega), if_pos (by omega)]
set_option maxRecDepth 100000 in
set_option maxHeartbeats 4000000 in
theorem ref_Nodes (A B : Option Addr) (n m c d : Nat) (P Q : List Nd) (w : World) (hn : n = P.length) (hm : m = Q.length) (hln : n ≤ maxLen) (_hlm : m ≤ maxLen) (hP : NdsAt w A P) (hQ : NdsAt w B Q) (oP : NdsOk P) (oQ : NdsOk Q) :
    Calls Tryz.prog 112 #[.slice A n c, .slice B m d] w fun e w' => e = .returned (.int .i64 (cmpNds P Q)) ∧ Below w.heap.size w w' := by
  unfold maxLen at hln _hlm
  have HN := Lib.hid hn
  have HM := Lib.hid hm
  have HP := Lib.hid hP
  have HQ := Lib.hid hQ
  have OP := Lib.hid oP
  have OQ := Lib.hid oQ
  clear hn hm hP hQ oP oQ
  go_enter Tryz.func112, Tryz.ntmps112
  go_wp2_with fail
  go_loopw [4, 5] (fun _ i wr => ∃ k : Nat, k ≤ n ∧ k ≤ m ∧ i = .int .i64 k ∧ Hid (cmpNds P Q = cmpNds (P.drop k) (Q.drop k)) ∧ Hid (Below w.heap.size w wr)) (fun _ i _ => n - (intOf i).toNat)
  case atStart => exact ⟨0, Nat.zero_le _, Nat.zero_le _, rfl, rfl, Below.refl _ _⟩
  case round =>
    obtain ⟨k, hkn, hkm, rfl, hc, hbel⟩ := hrel
    by_cases h1 : k < n
    · have h1' : k < P.length := by rw [← HN.out]; exact h1
      obtain ⟨a, rfl, D⟩ := (HP.out.keep hbel.out).nd h1'
      by_cases h2 : k < m
      · have h2' : k < Q.length := by rw [← HM.out]; exact h2
        obtain ⟨b, rfl, E⟩ := (HQ.out.keep hbel.out).nd h2'
        have HA := Lib.hid (hc.out.trans (cmpNds_at h1' h2'))
        have N1 := fun w => ref_Numbers P[k].op Q[k].op w
        have N2 := fun w => ref_Numbers P[k].n Q[k].n w
        have N3 := fun w => ref_Texts P[k].s Q[k].s w (OP.out.at h1').s (OQ.out.at h2').s
        have N4 := fun w => ref_Texts P[k].t Q[k].t w (OP.out.at h1').t (OQ.out.at h2').t
        have HX : cmpNd P[k] Q[k] = or4 (cmpI P[k].op Q[k].op) (cmpI P[k].n Q[k].n) (cmpB P[k].s Q[k].s) (cmpB P[k].t Q[k].t) := rfl
        rw [HX] at HA
        generalize P[k] = x at *
        generalize Q[k] = y at *
        generalize cmpI x.op y.op = v1 at *
        generalize cmpI x.n y.n = v2 at *
        generalize cmpB x.s y.s = v3 at *
        generalize cmpB x.t y.t = v4 at *
        clear hc HX
        have k1 := cell_regrown D.c0
        have k2 := cell_regrown E.c0
        have s1 := rqs (w := wr) N1
        have M2 := Lib.hid N2
        have M3 := Lib.hid N3
        have M4 := Lib.hid N4
        have HD := Lib.hid D
        have HE := Lib.hid E
        clear N1 N2 N3 N4 D E
        go_wp2_with fail
        refine wp_region_quiet_below (by kernel_rfl) (by kernel_rfl) ?_
        repeat (first | go_big_quiet_step (exact s1 _ _) | quiet_step (exact s1 _ _))
        refine wpQuiet_nil ?_
        intro w1 hw'
        have B1 := Lib.hid (show Below wr.heap.size wr w1 by obtain ⟨⟨d, os⟩, rfl⟩ := hw'; exact below_regrown _ _ _)
        clear hw'
        clear k1 k2 s1
        by_cases e1 : v1 = 0
        · subst e1
          have k1 := cell_regrown (HD.out.keep B1.out).c1
          have k2 := cell_regrown (HE.out.keep B1.out).c1
          have s1 := rqs (w := w1) M2.out
          go_wp2_with fail
          refine wp_region_quiet_below (by kernel_rfl) (by kernel_rfl) ?_
          repeat (first | go_big_quiet_step (exact s1 _ _) | quiet_step (exact s1 _ _))
          refine wpQuiet_nil ?_
          intro w2 hw'
          have B2 := Lib.hid (show Below w1.heap.size w1 w2 by obtain ⟨⟨d, os⟩, rfl⟩ := hw'; exact below_regrown _ _ _)
          clear hw'
          replace B2 := bh B1 B2.out
          clear k1 k2 s1
          by_cases e2 : v2 = 0
          · subst e2
            have k1 := cell_regrown (HD.out.keep B2.out).c2
            have k2 := cell_regrown (HE.out.keep B2.out).c2
            have s1 := rq (w := w2) (fun w' _ => M3.out w')
            go_wp2_with fail
            refine wp_region_quiet_below (by kernel_rfl) (by kernel_rfl) ?_
            repeat (first | go_big_quiet_step (exact s1 _ _) | quiet_step (exact s1 _ _))
            refine wpQuiet_nil ?_
            intro w3 hw'
            have B3 := Lib.hid (show Below w2.heap.size w2 w3 by obtain ⟨⟨d, os⟩, rfl⟩ := hw'; exact below_regrown _ _ _)
            clear hw'
            replace B3 := bh B2 B3.out
            clear k1 k2 s1
            by_cases e3 : v3 = 0
            · subst e3
              have k1 := cell_regrown (HD.out.keep B3.out).c3
              have k2 := cell_regrown (HE.out.keep B3.out).c3
              have s1 := rq (w := w3) (fun w' _ => M4.out w')
              go_wp2_with fail
              refine wp_region_quiet_below (by kernel_rfl) (by kernel_rfl) ?_
              repeat (first | go_big_quiet_step (exact s1 _ _) | quiet_step (exact s1 _ _))
              refine wpQuiet_nil ?_
              intro w4 hw'
              have B4 := Lib.hid (show Below w3.heap.size w3 w4 by obtain ⟨⟨d, os⟩, rfl⟩ := hw'; exact below_regrown _ _ _)
              clear hw'
              replace B4 := bh B3 B4.out
              clear k1 k2 s1
              by_cases e4 : v4 = 0
              · subst e4
                have HB := Lib.hid (HA.out.trans (show _ = cmpNds (P.drop (k + 1)) (Q.drop (k + 1)) from rfl))
                go_wp2_with fail
                go_roundw
                case rel => exact ⟨k + 1, by omega, by omega, by go_num, HB, bhid hbel B4 (Nat.le_refl _)⟩
                case measure => simp [intOf]; omega
              · have HB := Lib.hid (HA.out.trans (show _ = v4 by unfold or4; rw [or2_zero, or2_zero, or2_zero, or2_ne e4]))
                have e4' : (v4 != 0) = true := by rw [bne_iff_ne]; exact e4
                clear e4
                go_wp2_with fail
                go_ret
                exact ⟨ret_i64 HB.out.symm, (bhid hbel B4 (Nat.le_refl _)).out⟩
            · have HB := Lib.hid (HA.out.trans (show _ = v3 by unfold or4; rw [or2_zero, or2_zero, or2_ne e3, or2_ne e3]))
              have e3' : (v3 != 0) = true := by rw [bne_iff_ne]; exact e3
              have e3'' : (v3 == 0) = false := beq_eq_false_iff_ne.2 e3
              clear e3
              go_wp2_with fail
              go_ret
              exact ⟨ret_i64 HB.out.symm, (bhid hbel B3 (Nat.le_refl _)).out⟩
          · have HB := Lib.hid (HA.out.trans (show _ = v2 by unfold or4; rw [or2_zero, or2_ne e2, or2_ne e2]))
            have e3' : (v2 != 0) = true := by rw [bne_iff_ne]; exact e2
            have e3'' : (v2 == 0) = false := beq_eq_false_iff_ne.2 e2
            clear e2
            go_wp2_with fail
            go_ret
            exact ⟨ret_i64 HB.out.symm, (bhid hbel B2 (Nat.le_refl _)).out⟩
        · have HB := Lib.hid (HA.out.trans (show _ = v1 by unfold or4; rw [or2_ne e1, or2_ne e1]))
          have e3' : (v1 != 0) = true := by rw [bne_iff_ne]; exact e1
          have e3'' : (v1 == 0) = false := beq_eq_false_iff_ne.2 e1
          clear e1
          go_wp2_with fail
          go_ret
          exact ⟨ret_i64 HB.out.symm, (bhid hbel B1 (Nat.le_refl _)).out⟩
      · have HB := Lib.hid (hc.out.trans (cmpNds_ends (.inr (by rw [← HM.out]; omega)) (by rw [← HN.out]; omega) (by rw [← HM.out]; omega)))
        rw [← HN.out, ← HM.out] at HB
        clear hc
        go_wp2_with fail
        refine (ref_Numbers _ _ _).mono ?_
        rintro e w1 ⟨rfl, rfl⟩
        go_wp2_with fail
        go_ret
        exact ⟨ret_i64 HB.out.symm, hbel.out⟩
    · have HB := Lib.hid (hc.out.trans (cmpNds_ends (.inl (by rw [← HN.out]; omega)) (by rw [← HN.out]; omega) (by rw [← HM.out]; omega)))
      rw [← HN.out, ← HM.out] at HB
      clear hc
      go_wp2_with fail
      refine (ref_Numbers _ _ _).mono ?_
      rintro e w1 ⟨rfl, rfl⟩
      go_wp2_with fail
      go_ret
      exact ⟨ret_i64 HB.out.symm, hbel.out⟩
end Go.Proofs.YtcdpoamiejompaaGreatDoor
namespace Go.Wk
def fieldEnd (v : List Nd) (m p : Nat) : Option Nat :=
  match v[p]? with
  | none => none
  | some x => if decide (x.op = 7) && shapedN x then partEnd v m (p + 1) else none
def endI : Option Nat → Int
  | none => -1
  | some e => e
theorem nameFault_pos {s : ByteArray} (h : nameFault s = 0) : 0 < s.size := by
  rcases Nat.eq_zero_or_pos s.size with h0 | h0
  · exfalso; unfold nameFault at h; rw [nameOk_empty h0] at h; simp at h
  · exact h0
theorem cmpB_empty {s : ByteArray} (h : 0 < s.size) : cmpB .empty s < 0 := by
  unfold cmpB
  rcases hl : s.data.toList with _ | ⟨x, l⟩
  · have : s.data.toList.length = 0 := by rw [hl]; rfl
    rw [Array.length_toList] at this
    have h' : 0 < s.data.size := h
    omega
  · show Lib.compareBytes [] (x :: l) < 0
    simp [Lib.compareBytes]
theorem field_pos {x : Nd} (h7 : x.op = 7) (hs : shapedN x = true) : cmpB .empty x.s < 0 := by
  unfold shapedN at hs
  rw [h7] at hs
  simp at hs
  exact cmpB_empty (nameFault_pos hs.2)
theorem fieldEnd_some {v : List Nd} {m q e : Nat} (h : fieldEnd v m q = some e) : ∃ hq : q < v.length, v[q].op = 7 ∧ shapedN v[q] = true ∧ partEnd v m (q + 1) = some e := by
  unfold fieldEnd at h
  by_cases hq : q < v.length
  · rw [List.getElem?_eq_getElem hq] at h
    simp only at h
    split at h
    · rename_i hc
      simp at hc
      exact ⟨hq, hc.1, hc.2, h⟩
    · cases h
  · rw [List.getElem?_eq_none (by omega)] at h; cases h
theorem recLoop_none {v : List Nd} {N k m : Nat} {last : ByteArray} {q : Nat} (hk : k < N) (h : fieldEnd v m q = none) : recLoop v (partEnd v m) (N - k) last q = none := by
  rcases hf : fieldOk v last q with _ | s
  · exact recLoop_bad hk hf
  · refine recLoop_stop hk hf ?_
    unfold fieldOk at hf
    unfold fieldEnd at h
    split at hf
    · cases hf
    · rename_i x hx
      rw [hx] at h
      simp only at h
      split at hf
      · rename_i hc
        simp only [Bool.and_eq_true] at hc
        rw [if_pos (by rw [hc.1.1, hc.1.2]; rfl)] at h
        exact h
      · cases hf
end Go.Wk
namespace Go.Proofs.YtcdpoamiejompaaGreatDoor
open Go.RowKit Go.Wk Go.Sort
set_option maxRecDepth 100000

theorem nd4_box (w : World) (x : Nd) (t : TypeId) : Nd4 (w.alloc (.cells #[.int .i64 x.op, .int .i64 x.n, .string x.s, .string x.t] t)) ⟨w.heap.size, 0, none⟩ x :=
  ⟨by simp, by simp, by simp, by simp⟩

theorem end_out (A : Option Addr) (n c p : Nat) (f : Bool) (w : World) (h : n ≤ p) :
    Calls Tryz.prog 66 #[.slice A n c, .int .i64 p, .bool f] w fun e w' => e = .returned (.int .i64 (endI none)) ∧ Below w.heap.size w w' := by
  go_enter Tryz.func66, Tryz.ntmps66
  go_wp2_with fail
  go_ret
  exact ⟨rfl, Below.refl _ _⟩

set_option maxRecDepth 100000 in
set_option maxHeartbeats 1000000 in
theorem end_bad (a : Addr) (n c p : Nat) (f : Bool) (x : Nd) (w : World) (hp : p < n) (hD : Nd4 w (a.add (p * 4)) x) (hO : NdOk x) (h : (shapedN x && (decide (x.op = 7) == f)) = false) :
    Calls Tryz.prog 66 #[.slice (some a) n c, .int .i64 p, .bool f] w fun e w' => e = .returned (.int .i64 (endI none)) ∧ Below w.heap.size w w' := by
  have V := Lib.hid (fun w => ref_ValueNode x w hO.s hO.t)
  unfold ndV at V
  obtain ⟨d0, d1, d2, d3⟩ := hD
  by_cases hs : shapedN x = true
  · rw [hs] at V h
    have h7 : (x.op == 7) = !f := by
      have : (x.op == 7) = decide (x.op = 7) := rfl
      rw [this]
      rcases hd : decide (x.op = 7) <;> rcases f <;> simp_all
    clear h hs hO
    cases f
    all_goals
      simp only [Bool.not_true, Bool.not_false] at h7
      go_enter Tryz.func66, Tryz.ntmps66
      go_wp2_with fail
      refine (V.out _).mono ?_
      rintro e w1 ⟨rfl, hb⟩
      obtain ⟨x0, x1, x2, x3⟩ := (nd4_box w x 42).keep hb
      have B := Lib.hid (below_box2 hb)
      clear hb
      go_wp2_with fail
      go_ret
      exact ⟨rfl, B.out⟩
  · rw [Bool.not_eq_true] at hs
    rw [hs] at V
    clear h hs hO
    go_enter Tryz.func66, Tryz.ntmps66
    go_wp2_with fail
    refine (V.out _).mono ?_
    rintro e w1 ⟨rfl, hb⟩
    go_wp2_with fail
    go_ret
    exact ⟨rfl, below_box2 hb⟩

set_option maxRecDepth 100000 in
set_option maxHeartbeats 1000000 in
theorem end_leaf (a : Addr) (n c p : Nat) (x : Nd) (w : World) (hm : n ≤ maxLen) (hp : p < n) (hD : Nd4 w (a.add (p * 4)) x) (hO : NdOk x) (hs : shapedN x = true) (h5 : (x.op == 5) = false) (h6 : (x.op == 6) = false) (h7 : (x.op == 7) = false) :
    Calls Tryz.prog 66 #[.slice (some a) n c, .int .i64 p, .bool false] w fun e w' => e = .returned (.int .i64 (endI (some (p + 1)))) ∧ Below w.heap.size w w' := by
  unfold maxLen at hm
  have V := Lib.hid (fun w => ref_ValueNode x w hO.s hO.t)
  unfold ndV at V
  obtain ⟨d0, d1, d2, d3⟩ := hD
  rw [hs] at V
  have g5 : (x.op != 5) = true := by simp only [bne, h5]; rfl
  have g6 : (x.op != 6) = true := by simp only [bne, h6]; rfl
  clear hs hO
  go_enter Tryz.func66, Tryz.ntmps66
  go_wp2_with fail
  refine (V.out _).mono ?_
  rintro e w1 ⟨rfl, hb⟩
  obtain ⟨x0, x1, x2, x3⟩ := (nd4_box w x 42).keep hb
  have B := Lib.hid (below_box2 hb)
  clear hb
  go_wp2_with fail
  go_ret
  exact ⟨rfl, B.out⟩

/-- The contracts of ValueEnd, with so much fuel. -/
def RefC (P : List Nd) (A : Option Addr) (n c : Nat) (m : Nat) : Prop :=
  (∀ (q : Nat) (w : World), NdsAt w A P → n - q < m → Calls Tryz.prog 66 #[.slice A n c, .int .i64 q, .bool false] w fun e w' => e = .returned (.int .i64 (endI (partEnd P m q))) ∧ Below w.heap.size w w') ∧
  (∀ (q : Nat) (w : World), NdsAt w A P → n - q ≤ m → Calls Tryz.prog 66 #[.slice A n c, .int .i64 q, .bool true] w fun e w' => e = .returned (.int .i64 (endI (fieldEnd P m q))) ∧ Below w.heap.size w w')

set_option maxRecDepth 100000 in
set_option maxHeartbeats 1000000 in
theorem end_field (a : Addr) (n c p : Nat) (x : Nd) (r : Option Nat) (w : World) (hm : n ≤ maxLen) (hp : p < n) (hD : Nd4 w (a.add (p * 4)) x) (hO : NdOk x) (hs : shapedN x = true) (h7 : x.op = 7)
    (C : Hid (∀ w', Below w.heap.size w w' → Calls Tryz.prog 66 #[.slice (some a) n c, .int .i64 ((p : Int) + 1), .bool false] w' fun e w'' => e = .returned (.int .i64 (endI r)) ∧ Below w'.heap.size w' w'')) :
    Calls Tryz.prog 66 #[.slice (some a) n c, .int .i64 p, .bool true] w fun e w' => e = .returned (.int .i64 (endI r)) ∧ Below w.heap.size w w' := by
  unfold maxLen at hm
  have V := Lib.hid (fun w => ref_ValueNode x w hO.s hO.t)
  unfold ndV at V
  obtain ⟨d0, d1, d2, d3⟩ := hD
  rw [hs] at V
  rw [h7] at V d0
  have X := Lib.hid h7
  clear hs hO h7
  go_enter Tryz.func66, Tryz.ntmps66
  go_wp2_with fail
  refine (V.out _).mono ?_
  rintro e w1 ⟨rfl, hb⟩
  have D := (nd4_box w x 42)
  rw [X.out] at D
  obtain ⟨x0, x1, x2, x3⟩ := D.keep hb
  rw [X.out] at x0
  have B := Lib.hid (below_box2 hb)
  clear hb D
  go_wp2_with fail
  refine (C.out _ B.out).mono ?_
  rintro e w2 ⟨rfl, b2⟩
  go_wp2_with fail
  go_ret
  exact ⟨rfl, (bh B b2).out⟩
end Go.Proofs.YtcdpoamiejompaaGreatDoor
namespace Go.Proofs.YtcdpoamiejompaaGreatDoor
open Go.RowKit Go.Wk Go.Sort
set_option maxRecDepth 100000

set_option maxRecDepth 100000 in
set_option maxHeartbeats 8000000 in
theorem end_set (a : Addr) (P : List Nd) (n c p m : Nat) (w : World) (hn : n = P.length) (hc : n ≤ c) (hm : n ≤ maxLen) (hp : p < n) (hP : NdsAt w (some a) P) (hO : NdsOk P) (hs : shapedN (P[p]'(by omega)) = true)
    (h5 : (P[p]'(by omega)).op = 5) (ih : RefC P (some a) n c m) (hfu : n - p < m + 1) :
    Calls Tryz.prog 66 #[.slice (some a) n c, .int .i64 p, .bool false] w fun e w' => e = .returned (.int .i64 (endI (setLoop P (partEnd P m) (P[p]'(by omega)).n.toNat none (p + 1)))) ∧ Below w.heap.size w w' := by
  have HM := Lib.hid hm
  unfold maxLen at hm
  have HP := Lib.hid hP
  have HN := Lib.hid hn
  have HO := Lib.hid hO
  have IH := Lib.hid ih
  have hp' : p < P.length := by omega
  obtain ⟨b, hb0, D⟩ := hP.nd hp'
  injection hb0 with hb0
  subst hb0
  have V := Lib.hid (fun w => ref_ValueNode P[p] w (hO.at hp').s (hO.at hp').t)
  unfold ndV at V
  obtain ⟨d0, d1, d2, d3⟩ := D
  obtain ⟨-, -, -, hhi⟩ := hO.at hp'
  rw [hs] at V
  rw [h5] at V d0
  have D0 := nd4_box w P[p] 42
  rw [h5] at D0
  have X := Lib.hid h5
  generalize P[p] = x at *
  have hx0 : 0 ≤ x.n := by
    unfold shapedN at hs; rw [h5] at hs; simp at hs; exact hs.1.1
  clear hs hO h5 hP hn ih
  go_enter Tryz.func66, Tryz.ntmps66
  go_wp2_with fail
  refine (V.out _).mono ?_
  rintro e w1 ⟨rfl, hb⟩
  have D1 := Lib.hid (D0.keep hb)
  obtain ⟨x0, x1, x2, x3⟩ := D1.out
  rw [X.out] at x0
  have B := Lib.hid (below_box2 hb)
  clear hb D0
  go_wp2_with fail
  clear x0 x1 x2 x3 d0 d1 d2 d3
  go_loopw [8, 9, 10, 11] (fun en la i _ wr => ∃ (k q : Nat) (lo : Option Nat), en = .int .i64 q ∧ la = .int .i64 (endI lo) ∧ i = .int .i64 k ∧ (k : Int) ≤ x.n ∧ Hid (∀ l, lo = some l → l < q) ∧ q ≤ n ∧ p < q ∧
      Hid (setLoop P (partEnd P m) x.n.toNat none (p + 1) = setLoop P (partEnd P m) (x.n.toNat - k) lo q) ∧ Hid (Nd4 wr ⟨w.heap.size, 0, none⟩ x) ∧ Hid (Below w.heap.size w wr)) (fun _ _ i _ _ => (x.n - intOf i).toNat)
  case atStart => exact ⟨0, p + 1, none, by go_num, rfl, rfl, hx0, (by intro l hl; cases hl), by omega, by omega, rfl, D1.out, B.out⟩
  case round =>
    obtain ⟨k, q, lo, rfl, rfl, rfl, hk, hlo, hq, hpq, hE, hD, hB⟩ := hrel
    obtain ⟨x0, x1, x2, x3⟩ := hD.out
    rw [X.out] at x0
    by_cases hlt : (k : Int) < x.n
    · have N := Lib.hid (HP.out.keep hB.out)
      have C := Lib.hid (IH.out.1 q wr N.out (by omega))
      rcases hf : partEnd P m q with _ | e
      · have HF := Lib.hid (hE.out.trans (setLoop_stop (by omega) hf))
        rw [hf] at C
        simp only [endI] at C
        clear hf hE
        go_wp2_with fail
        refine (C.out).mono ?_
        rintro e w2 ⟨rfl, b2⟩
        go_wp2_with fail
        go_ret
        exact ⟨ret_i64 (by rw [HF.out]; rfl), (hB.out.trans (b2.mono hB.out.size))⟩
      · have HF := Lib.hid hf
        have hpe := partEnd_le _ _ _ hf
        rw [← HN.out] at hpe
        rw [hf] at C
        simp only [endI] at C
        clear hf
        rcases lo with _ | l
        · have HG := Lib.hid (hE.out.trans (setLoop_next (by omega) HF.out rfl))
          clear hE hlo
          simp only [endI]
          go_wp2_with fail
          refine (C.out).mono ?_
          rintro e w2 ⟨rfl, b2⟩
          have B2 := Lib.hid (hB.out.trans (b2.mono hB.out.size))
          have D2 := Lib.hid (hD.out.keep b2)
          clear b2 x0 x1 x2 x3
          go_wp2_with fail
          refine wp_region_quiet_below (by kernel_rfl) (by kernel_rfl) ?_
          repeat (first | go_big_quiet_step (fail) | quiet_step (fail))
          refine wpQuiet_nil ?_
          intro w3 hw'
          have B3 := Lib.hid (show Below w2.heap.size w2 w3 by obtain ⟨⟨d, os⟩, rfl⟩ := hw'; exact below_regrown _ _ _)
          clear hw'
          go_wp2_with fail
          refine wp_region_quiet_below (by kernel_rfl) (by kernel_rfl) ?_
          repeat (first | go_big_quiet_step (fail) | quiet_step (fail))
          refine wpQuiet_nil ?_
          intro w4 hw'
          have B4 := Lib.hid (show Below w3.heap.size w3 w4 by obtain ⟨⟨d, os⟩, rfl⟩ := hw'; exact below_regrown _ _ _)
          clear hw'
          go_wp2_with fail
          go_roundw
          case rel => exact ⟨k + 1, e, some q, rfl, rfl, by go_num, by omega, (by intro l hl; cases hl; exact hpe.1), by omega, by omega, HG, Lib.hid ((D2.out.keep B3.out).keep B4.out), bhid (bhid B2 B3 (Nat.le_refl _)) B4 (Nat.le_refl _)⟩
          case measure => simp [intOf]; omega
        · have hlq := hlo.out l rfl
          clear hlo
          have sN := fun w2 (hb : Below wr.heap.size wr w2) => ref_Nodes (some (a.add (l * 4))) (some (a.add (q * 4))) (q - l) (e - q) (c - l) (c - q) (seg P l q) (seg P q e) w2 (seg_length (by rw [← HN.out]; omega)).symm (seg_length (by rw [← HN.out]; omega)).symm (Nat.le_trans (by omega) HM.out) (Nat.le_trans (by omega) HM.out)
            ((N.out.keep hb).seg l q) ((N.out.keep hb).seg q e) (HO.out.seg l q) (HO.out.seg q e)
          have hr : rises P (some l) q e = decide (cmpNds (seg P l q) (seg P q e) < 0) := rfl
          generalize cmpNds (seg P l q) (seg P q e) = v at *
          have SN := Lib.hid sN
          simp only [endI]
          clear sN
          by_cases hv : v < 0
          · have HG := Lib.hid (hE.out.trans (setLoop_next (by omega) HF.out (by rw [hr]; exact decide_eq_true hv)))
            clear hE hr
            go_wp2_with fail
            refine (C.out).mono ?_
            rintro e w2 ⟨rfl, b2⟩
            have B2 := Lib.hid (hB.out.trans (b2.mono hB.out.size))
            have D2 := Lib.hid (hD.out.keep b2)
            have k0 := cell_regrown D2.out.c0
            rw [X.out] at k0
            have s1 := rq (w := w2) (fun w' h => SN.out w' (b2.trans (h.mono b2.size)))
            clear b2 x0 x1 x2 x3
            go_wp2_with fail
            refine wp_region_quiet_below (by kernel_rfl) (by kernel_rfl) ?_
            repeat (first | go_big_quiet_step (exact s1 _ _) | quiet_step (exact s1 _ _))
            refine wpQuiet_nil ?_
            intro w3 hw'
            have B3 := Lib.hid (show Below w2.heap.size w2 w3 by obtain ⟨⟨d, os⟩, rfl⟩ := hw'; exact below_regrown _ _ _)
            clear hw'
            clear k0 s1
            have k0 := cell_regrown (D2.out.keep B3.out).c0
            rw [X.out] at k0
            go_wp2_with fail
            refine wp_region_quiet_below (by kernel_rfl) (by kernel_rfl) ?_
            repeat (first | go_big_quiet_step (fail) | quiet_step (fail))
            refine wpQuiet_nil ?_
            intro w4 hw'
            have B4 := Lib.hid (show Below w3.heap.size w3 w4 by obtain ⟨⟨d, os⟩, rfl⟩ := hw'; exact below_regrown _ _ _)
            clear hw'
            go_wp2_with fail
            go_roundw
            case rel => exact ⟨k + 1, e, some q, rfl, rfl, by go_num, by omega, (by intro l hl; cases hl; exact hpe.1), by omega, by omega, HG, Lib.hid ((D2.out.keep B3.out).keep B4.out), bhid (bhid B2 B3 (Nat.le_refl _)) B4 (Nat.le_refl _)⟩
            case measure => simp [intOf]; omega
          · have HG := Lib.hid (hE.out.trans (setLoop_fall (by omega) HF.out (by rw [hr]; exact decide_eq_false hv)))
            clear hE hr
            go_wp2_with fail
            refine (C.out).mono ?_
            rintro e w2 ⟨rfl, b2⟩
            have B2 := Lib.hid (hB.out.trans (b2.mono hB.out.size))
            have D2 := Lib.hid (hD.out.keep b2)
            have k0 := cell_regrown D2.out.c0
            rw [X.out] at k0
            have s1 := rq (w := w2) (fun w' h => SN.out w' (b2.trans (h.mono b2.size)))
            clear b2 x0 x1 x2 x3
            go_wp2_with fail
            refine wp_region_quiet_below (by kernel_rfl) (by kernel_rfl) ?_
            repeat (first | go_big_quiet_step (exact s1 _ _) | quiet_step (exact s1 _ _))
            refine wpQuiet_nil ?_
            intro w3 hw'
            have B3 := Lib.hid (show Below w2.heap.size w2 w3 by obtain ⟨⟨d, os⟩, rfl⟩ := hw'; exact below_regrown _ _ _)
            clear hw'
            clear k0 s1
            go_wp2_with fail
            go_ret
            exact ⟨ret_i64 (by rw [HG.out]; rfl), (bhid B2 B3 (Nat.le_refl _)).out⟩
    · have HG := Lib.hid (hE.out.trans (by rw [show x.n.toNat - k = 0 by omega]; rfl : _ = some q))
      clear hE hlo
      go_wp2_with fail
      go_ret
      exact ⟨ret_i64 (by rw [HG.out]; rfl), hB.out⟩

set_option maxRecDepth 100000 in
set_option maxHeartbeats 8000000 in
theorem end_rec (a : Addr) (P : List Nd) (n c p m : Nat) (w : World) (hn : n = P.length) (_hc : n ≤ c) (hm : n ≤ maxLen) (hp : p < n) (hP : NdsAt w (some a) P) (hO : NdsOk P) (hs : shapedN (P[p]'(by omega)) = true)
    (h5 : (P[p]'(by omega)).op = 6) (ih : RefC P (some a) n c m) (hfu : n - p < m + 1) :
    Calls Tryz.prog 66 #[.slice (some a) n c, .int .i64 p, .bool false] w fun e w' => e = .returned (.int .i64 (endI (recLoop P (partEnd P m) (P[p]'(by omega)).n.toNat .empty (p + 1)))) ∧ Below w.heap.size w w' := by
  have HM := Lib.hid hm
  unfold maxLen at hm
  have HP := Lib.hid hP
  have HN := Lib.hid hn
  have HO := Lib.hid hO
  have IH := Lib.hid ih
  have hp' : p < P.length := by omega
  obtain ⟨b, hb0, D⟩ := hP.nd hp'
  injection hb0 with hb0
  subst hb0
  have V := Lib.hid (fun w => ref_ValueNode P[p] w (hO.at hp').s (hO.at hp').t)
  unfold ndV at V
  obtain ⟨d0, d1, d2, d3⟩ := D
  obtain ⟨-, -, -, hhi⟩ := hO.at hp'
  rw [hs] at V
  rw [h5] at V d0
  have D0 := nd4_box w P[p] 42
  rw [h5] at D0
  have X := Lib.hid h5
  generalize P[p] = x at *
  have hx0 : 0 ≤ x.n := by
    unfold shapedN at hs; rw [h5] at hs; simp at hs; exact hs.1.1
  clear hs hO h5 hP hn ih
  go_enter Tryz.func66, Tryz.ntmps66
  go_wp2_with fail
  refine (V.out _).mono ?_
  rintro e w1 ⟨rfl, hb⟩
  have D1 := Lib.hid (D0.keep hb)
  obtain ⟨x0, x1, x2, x3⟩ := D1.out
  rw [X.out] at x0
  have B := Lib.hid (below_box2 hb)
  clear hb D0
  go_wp2_with fail
  clear x0 x1 x2 x3 d0 d1 d2 d3
  go_loopw [8, 9, 10, 11] (fun en la i _ wr => ∃ (k q : Nat) (lo : Option Nat) (ls : ByteArray), en = .int .i64 q ∧ la = .int .i64 (endI lo) ∧ i = .int .i64 k ∧ (k : Int) ≤ x.n ∧ Hid ((lo = none ∧ ls = .empty) ∨ ∃ (l : Nat) (h : l < P.length), lo = some l ∧ P[l].s = ls) ∧ q ≤ n ∧ p < q ∧
      Hid (recLoop P (partEnd P m) x.n.toNat .empty (p + 1) = recLoop P (partEnd P m) (x.n.toNat - k) ls q) ∧ Hid (Nd4 wr ⟨w.heap.size, 0, none⟩ x) ∧ Hid (Below w.heap.size w wr)) (fun _ _ i _ _ => (x.n - intOf i).toNat)
  case atStart => exact ⟨0, p + 1, none, .empty, by go_num, rfl, rfl, hx0, .inl ⟨rfl, rfl⟩, by omega, by omega, rfl, D1.out, B.out⟩
  case round =>
    obtain ⟨k, q, lo, ls, rfl, rfl, rfl, hk, hlo, hq, hpq, hE, hD, hB⟩ := hrel
    obtain ⟨x0, x1, x2, x3⟩ := hD.out
    rw [X.out] at x0
    by_cases hlt : (k : Int) < x.n
    · have N := Lib.hid (HP.out.keep hB.out)
      have C := Lib.hid (IH.out.2 q wr N.out (by omega))
      rcases hf : fieldEnd P m q with _ | e
      · have HF := Lib.hid (hE.out.trans (recLoop_none (by omega) hf))
        rw [hf] at C
        simp only [endI] at C
        clear hf hE
        go_wp2_with fail
        refine (C.out).mono ?_
        rintro e w2 ⟨rfl, b2⟩
        go_wp2_with fail
        go_ret
        exact ⟨ret_i64 (by rw [HF.out]; rfl), (hB.out.trans (b2.mono hB.out.size))⟩
      · obtain ⟨hq', f7, fs, fe⟩ := fieldEnd_some hf
        have hpe := partEnd_le _ _ _ fe
        rw [← HN.out] at hpe
        rw [hf] at C
        simp only [endI] at C
        have FP := Lib.hid (field_pos f7 fs)
        have HY := Lib.hid (show ∀ s0, cmpB s0 P[q].s < 0 → fieldOk P s0 q = some P[q].s from fun s0 h => fieldOk_yes hq' (by rw [f7, fs, decide_eq_true h]; rfl))
        have HZ := Lib.hid (show ∀ s0, ¬ cmpB s0 P[q].s < 0 → fieldOk P s0 q = none from fun s0 h => fieldOk_no hq' (by rw [decide_eq_false h]; simp))
        have FE := Lib.hid fe
        have HQ := Lib.hid hq'
        have hqn : q < n := by omega
        clear hf f7 fs fe
        rcases hlo.out with ⟨rfl, rfl⟩ | ⟨l, hl, rfl, rfl⟩
        · have HG := Lib.hid (hE.out.trans (recLoop_next (by omega) (HY.out _ FP.out) FE.out))
          clear hE hlo
          simp only [endI]
          go_wp2_with fail
          refine (C.out).mono ?_
          rintro e w2 ⟨rfl, b2⟩
          have B2 := Lib.hid (hB.out.trans (b2.mono hB.out.size))
          have D2 := Lib.hid (hD.out.keep b2)
          clear b2 x0 x1 x2 x3
          go_wp2_with fail
          refine wp_region_quiet_below (by kernel_rfl) (by kernel_rfl) ?_
          repeat (first | go_big_quiet_step (fail) | quiet_step (fail))
          refine wpQuiet_nil ?_
          intro w3 hw'
          have B3 := Lib.hid (show Below w2.heap.size w2 w3 by obtain ⟨⟨d, os⟩, rfl⟩ := hw'; exact below_regrown _ _ _)
          clear hw'
          go_wp2_with fail
          refine wp_region_quiet_below (by kernel_rfl) (by kernel_rfl) ?_
          repeat (first | go_big_quiet_step (fail) | quiet_step (fail))
          refine wpQuiet_nil ?_
          intro w4 hw'
          have B4 := Lib.hid (show Below w3.heap.size w3 w4 by obtain ⟨⟨d, os⟩, rfl⟩ := hw'; exact below_regrown _ _ _)
          clear hw'
          go_wp2_with fail
          go_roundw
          case rel => exact ⟨k + 1, e, some q, _, rfl, rfl, by go_num, by omega, .inr ⟨q, HQ.out, rfl, rfl⟩, by omega, by omega, HG, Lib.hid ((D2.out.keep B3.out).keep B4.out), bhid (bhid B2 B3 (Nat.le_refl _)) B4 (Nat.le_refl _)⟩
          case measure => simp [intOf]; omega
        · have sN := Lib.hid (fun w2 => ref_Texts P[l].s P[q].s w2 (HO.out.at hl).s (HO.out.at hq').s)
          have hln : l < n := by rw [HN.out]; exact hl
          have E1 := Lib.hid (show ∀ w2, Below wr.heap.size wr w2 → Nd4 w2 (a.add (l * 4)) P[l] from fun w2 hb => by
            obtain ⟨a', e', h⟩ := (N.out.keep hb).nd hl; cases e'; exact h)
          have E2 := Lib.hid (show ∀ w2, Below wr.heap.size wr w2 → Nd4 w2 (a.add (q * 4)) P[q] from fun w2 hb => by
            obtain ⟨a', e', h⟩ := (N.out.keep hb).nd hq'; cases e'; exact h)
          have hkN : k < x.n.toNat := by omega
          have hyes := Lib.hid (fun h : cmpB P[l].s P[q].s < 0 => hE.out.trans (recLoop_next hkN (HY.out _ h) FE.out))
          have hno := Lib.hid (fun h : ¬ cmpB P[l].s P[q].s < 0 => hE.out.trans (recLoop_bad (f := partEnd P m) hkN (HZ.out P[l].s h)))
          have HQQ := Lib.hid (show ∃ h : q < P.length, P[q].s = P[q].s from ⟨HQ.out, rfl⟩)
          generalize hyl : P[l] = y at *
          generalize hzl : P[q] = z at *
          have HZL := Lib.hid hzl
          generalize cmpB y.s z.s = v at *
          clear hE hlo hyl hzl HY HZ FP
          simp only [endI]
          by_cases hv : v < 0
          · have HG := Lib.hid (hyes.out hv)
            clear hyes hno
            go_wp2_with fail
            refine (C.out).mono ?_
            rintro e w2 ⟨rfl, b2⟩
            have B2 := Lib.hid (hB.out.trans (b2.mono hB.out.size))
            have D2 := Lib.hid (hD.out.keep b2)
            have b2' := Lib.hid b2
            have k0 := cell_regrown D2.out.c0
            rw [X.out] at k0
            clear b2 x0 x1 x2 x3
            go_wp2_with fail
            refine wp_region_quiet_below (by kernel_rfl) (by kernel_rfl) ?_
            repeat (first | go_big_quiet_step (fail) | quiet_step (fail))
            refine wpQuiet_nil ?_
            intro w3 hw'
            have B3 := Lib.hid (show Below w2.heap.size w2 w3 by obtain ⟨⟨d, os⟩, rfl⟩ := hw'; exact below_regrown _ _ _)
            clear hw'
            clear k0
            have k0 := cell_regrown (D2.out.keep B3.out).c0
            rw [X.out] at k0
            have b3' := bh b2' B3.out
            have k1 := cell_regrown (E1.out _ b3'.out).c2
            have k2 := cell_regrown (E2.out _ b3'.out).c2
            have s1 := rq (w := w3) (fun w' _ => sN.out w')
            go_wp2_with fail
            refine wp_region_quiet_below (by kernel_rfl) (by kernel_rfl) ?_
            repeat (first | go_big_quiet_step (exact s1 _ _) | quiet_step (exact s1 _ _))
            refine wpQuiet_nil ?_
            intro w4 hw'
            have B4 := Lib.hid (show Below w3.heap.size w3 w4 by obtain ⟨⟨d, os⟩, rfl⟩ := hw'; exact below_regrown _ _ _)
            clear hw'
            clear k0 k1 k2 s1
            go_wp2_with fail
            go_roundw
            case rel => exact ⟨k + 1, e, some q, _, rfl, rfl, by go_num, by omega, .inr ⟨q, HQ.out, rfl, congrArg Nd.s HZL.out⟩, by omega, by omega, HG, Lib.hid ((D2.out.keep B3.out).keep B4.out), bhid (bhid B2 B3 (Nat.le_refl _)) B4 (Nat.le_refl _)⟩
            case measure => simp [intOf]; omega
          · have HG := Lib.hid (hno.out hv)
            clear hyes hno
            go_wp2_with fail
            refine (C.out).mono ?_
            rintro e w2 ⟨rfl, b2⟩
            have B2 := Lib.hid (hB.out.trans (b2.mono hB.out.size))
            have D2 := Lib.hid (hD.out.keep b2)
            have b2' := Lib.hid b2
            have k0 := cell_regrown D2.out.c0
            rw [X.out] at k0
            clear b2 x0 x1 x2 x3
            go_wp2_with fail
            refine wp_region_quiet_below (by kernel_rfl) (by kernel_rfl) ?_
            repeat (first | go_big_quiet_step (fail) | quiet_step (fail))
            refine wpQuiet_nil ?_
            intro w3 hw'
            have B3 := Lib.hid (show Below w2.heap.size w2 w3 by obtain ⟨⟨d, os⟩, rfl⟩ := hw'; exact below_regrown _ _ _)
            clear hw'
            clear k0
            have k0 := cell_regrown (D2.out.keep B3.out).c0
            rw [X.out] at k0
            have b3' := bh b2' B3.out
            have k1 := cell_regrown (E1.out _ b3'.out).c2
            have k2 := cell_regrown (E2.out _ b3'.out).c2
            have s1 := rq (w := w3) (fun w' _ => sN.out w')
            go_wp2_with fail
            refine wp_region_quiet_below (by kernel_rfl) (by kernel_rfl) ?_
            repeat (first | go_big_quiet_step (exact s1 _ _) | quiet_step (exact s1 _ _))
            refine wpQuiet_nil ?_
            intro w4 hw'
            have B4 := Lib.hid (show Below w3.heap.size w3 w4 by obtain ⟨⟨d, os⟩, rfl⟩ := hw'; exact below_regrown _ _ _)
            clear hw'
            clear k0 k1 k2 s1
            go_wp2_with fail
            go_ret
            exact ⟨ret_i64 (by rw [HG.out]; rfl), (bhid (bhid B2 B3 (Nat.le_refl _)) B4 (Nat.le_refl _)).out⟩
    · have HG := Lib.hid (hE.out.trans (by rw [show x.n.toNat - k = 0 by omega]; rfl : _ = some q))
      clear hE hlo
      go_wp2_with fail
      go_ret
      exact ⟨ret_i64 (by rw [HG.out]; rfl), hB.out⟩
end Go.Proofs.YtcdpoamiejompaaGreatDoor
namespace Go.Proofs.YtcdpoamiejompaaGreatDoor
open Go.RowKit Go.Wk Go.Sort
set_option maxRecDepth 100000

theorem ref_end (A : Option Addr) (P : List Nd) (n c : Nat) (hn : n = P.length) (hc : n ≤ c) (hm : n ≤ maxLen) (hO : NdsOk P) (m : Nat) : RefC P A n c m := by
  have field : ∀ m, (∀ (q : Nat) (w : World), NdsAt w A P → n - q < m → Calls Tryz.prog 66 #[.slice A n c, .int .i64 q, .bool false] w fun e w' => e = .returned (.int .i64 (endI (partEnd P m q))) ∧ Below w.heap.size w w') →
      (∀ (q : Nat) (w : World), NdsAt w A P → n - q ≤ m → Calls Tryz.prog 66 #[.slice A n c, .int .i64 q, .bool true] w fun e w' => e = .returned (.int .i64 (endI (fieldEnd P m q))) ∧ Below w.heap.size w w') := by
    intro m h q w hP hf
    by_cases hp : q < n
    · have hp' : q < P.length := by omega
      obtain ⟨a, rfl, D⟩ := hP.nd hp'
      by_cases hc : (decide (P[q].op = 7) && shapedN P[q]) = true
      · have e : fieldEnd P m q = partEnd P m (q + 1) := by unfold fieldEnd; rw [List.getElem?_eq_getElem hp']; simp only [hc, if_true]
        rw [e]
        simp only [Bool.and_eq_true, decide_eq_true_eq] at hc
        exact end_field a n c q P[q] _ w hm hp D (hO.at hp') hc.2 hc.1 (Lib.hid fun w' hb => by
          have := h (q + 1) w' (hP.keep hb) (by omega)
          simpa using this)
      · have e : fieldEnd P m q = none := by unfold fieldEnd; rw [List.getElem?_eq_getElem hp']; simp only [hc]; rfl
        rw [e]
        exact end_bad a n c q true P[q] w hp D (hO.at hp') (by
          rw [Bool.not_eq_true] at hc
          rcases hd : decide (P[q].op = 7) <;> rcases hs : shapedN P[q] <;> simp_all)
    · have e : fieldEnd P m q = none := by unfold fieldEnd; rw [List.getElem?_eq_none (by omega)]
      rw [e]
      exact end_out A n c q true w (by omega)
  induction m with
  | zero => exact ⟨fun q w _ h => by omega, field 0 (fun q w _ h => by omega)⟩
  | succ m ih =>
    refine ⟨?_, field (m + 1) ?_⟩
    all_goals
      intro p w hP hf
      by_cases hp : p < n
      · have hp' : p < P.length := by omega
        obtain ⟨a, rfl, D⟩ := hP.nd hp'
        have e : partEnd P (m + 1) p = if shapedN P[p] then (if P[p].op = 5 then setLoop P (partEnd P m) P[p].n.toNat none (p + 1) else if P[p].op = 6 then recLoop P (partEnd P m) P[p].n.toNat .empty (p + 1) else if P[p].op = 7 then none else some (p + 1)) else none := by
          simp only [partEnd, List.getElem?_eq_getElem hp']
        rw [e]
        by_cases hs : shapedN P[p] = true
        · rw [if_pos hs]
          by_cases h5 : P[p].op = 5
          · rw [if_pos h5]; exact end_set a P n c p m w hn hc hm hp hP hO hs h5 ih hf
          rw [if_neg h5]
          by_cases h6 : P[p].op = 6
          · rw [if_pos h6]; exact end_rec a P n c p m w hn hc hm hp hP hO hs h6 ih hf
          rw [if_neg h6]
          by_cases h7 : P[p].op = 7
          · rw [if_pos h7]; exact end_bad a n c p false P[p] w hp D (hO.at hp') (by simp [h7])
          rw [if_neg h7]
          exact end_leaf a n c p P[p] w hm hp D (hO.at hp') hs (beq_eq_false_iff_ne.2 h5) (beq_eq_false_iff_ne.2 h6) (beq_eq_false_iff_ne.2 h7)
        · rw [if_neg hs]
          exact end_bad a n c p false P[p] w hp D (hO.at hp') (by simp [hs])
      · have e : partEnd P (m + 1) p = none := by
          simp only [partEnd, List.getElem?_eq_none (by omega : P.length ≤ p)]
        rw [e]
        exact end_out A n c p false w (by omega)

theorem ref_ValueFault (A : Option Addr) (n c : Nat) (P : List Nd) (w : World) (h : Ns w A n c P) :
    Calls Tryz.prog 44 #[.slice A n c] w fun e w' => e = .returned (.int .i64 (valFault P)) ∧ Below w.heap.size w w' := by
  obtain ⟨hn, hc, hm, hP, hO⟩ := h
  have C := Lib.hid ((ref_end A P n c hn hc hm hO (n + 1)).1 0 w hP (by omega))
  by_cases h : 200 < n
  · have H := Lib.hid (show valFault P = 4 by unfold valFault; rw [if_pos (by omega)])
    clear C
    unfold maxLen at hm
    clear hn hP hO
    go_enter Tryz.func44, Tryz.ntmps44
    go_wp2_with fail
    go_ret
    exact ⟨ret_i64 H.out.symm, Below.refl _ _⟩
  · have H := Lib.hid (show valFault P = if partEnd P (n + 1) 0 = some n then 0 else 1 by unfold valFault; rw [if_neg (by omega), ← hn])
    unfold maxLen at hm
    clear hn hP hO
    rcases he : partEnd P (n + 1) 0 with _ | e
    · rw [he] at C H
      rw [if_neg (by simp)] at H
      simp only [endI] at C
      go_enter Tryz.func44, Tryz.ntmps44
      go_wp2_with fail
      refine (C.out).mono ?_
      rintro e w1 ⟨rfl, b1⟩
      have hne : ((-1 : Int) != (n : Int)) = true := by rw [bne_iff_ne]; omega
      go_wp2_with fail
      go_ret
      exact ⟨ret_i64 H.out.symm, b1⟩
    · rw [he] at C H
      clear he
      simp only [endI] at C
      by_cases he : e = n
      · subst he
        rw [if_pos rfl] at H
        go_enter Tryz.func44, Tryz.ntmps44
        go_wp2_with fail
        refine (C.out).mono ?_
        rintro e w1 ⟨rfl, b1⟩
        go_wp2_with fail
        go_ret
        exact ⟨ret_i64 H.out.symm, b1⟩
      · rw [if_neg (by intro q; injection q with q; exact he q)] at H
        have hne : (e != n) = true := by rw [bne_iff_ne]; exact he
        clear he
        go_enter Tryz.func44, Tryz.ntmps44
        go_wp2_with fail
        refine (C.out).mono ?_
        rintro e w1 ⟨rfl, b1⟩
        go_wp2_with fail
        go_ret
        exact ⟨ret_i64 H.out.symm, b1⟩

def slFaults (V : List Sl) : Int := faults (V.map (·.P))
theorem slFaults_at {V : List Sl} {k : Nat} (h : k < V.length) : slFaults (V.drop k) = or2 (valFault V[k].P) (slFaults (V.drop (k + 1))) := by
  unfold slFaults; rw [List.drop_eq_getElem_cons h]; rfl
theorem slFaults_end {V : List Sl} {k : Nat} (h : V.length ≤ k) : slFaults (V.drop k) = 0 := by
  unfold slFaults; rw [List.drop_of_length_le h]; rfl

end Go.Proofs.YtcdpoamiejompaaGreatDoor
