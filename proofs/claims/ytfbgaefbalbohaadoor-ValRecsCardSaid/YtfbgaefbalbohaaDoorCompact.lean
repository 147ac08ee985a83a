/-
  slices.CompactFunc over slices of nodes, with val.SetOf's function: without what is as the one before it.
-/
import Derived.Test.YtfbgaefbalbohaaDoorSort
import Derived.Test.YtfbgaefbalbohaaDoorCompactLaw
namespace Go.Proofs.YtfbgaefbalbohaaDoor
open Go.RowKit Go.Wk Go.Sort
set_option maxRecDepth 100000

theorem setOf1 (r s : Sl) (w : World) (h : Ns w r.A r.n r.c r.P) (k : Ns w s.A s.n s.c s.P) :
    Calls Tryd.prog 44 #[r.v, s.v] w fun e w' => e = .returned (.bool (cmpNds r.P s.P == 0)) ∧ Below w.heap.size w w' := by
  have HC := Lib.hid (ns_orderD h k)
  clear h k
  unfold Sl.v at HC ⊢
  go_enter Tryd.func44, Tryd.ntmps44
  go_wp2_with fail
  refine HC.out.mono ?_
  rintro e w1 ⟨rfl, hb⟩
  have HB := Lib.hid hb.b
  clear hb HC
  go_wp2_with fail
  go_ret
  exact ⟨rfl, HB.out⟩

/-- The row while it is compacted: what is kept, then what was not yet looked at. -/
def CRow (w : World) (g cap : Nat) (V Y : List Sl) (m : Nat) : Prop :=
  ∃ cur, w.heap[g]? = some (.cells cur 31 (0, 0)) ∧ cur.size = cap ∧ (∀ j (h : j < Y.length), cur[j]? = some Y[j].v) ∧ ∀ j (h : j < V.length), m ≤ j → cur[j]? = some V[j].v
theorem CRow.keep {w w' : World} {g cap m : Nat} {V Y : List Sl} (h : CRow w g cap V Y m) (hb : Below w.heap.size w w') : CRow w' g cap V Y m := by
  obtain ⟨cur, h1, h2⟩ := h
  exact ⟨cur, by rw [(grown_of_below hb none).block g (Array.getElem?_eq_some_iff.1 h1).1 (by simp)]; exact h1, h2⟩
theorem CRow.cell {w : World} {g cap m : Nat} {V Y : List Sl} (h : CRow w g cap V Y m) {j : Nat} (hj : j < V.length) (hm : m ≤ j) : w.cell? ⟨g, j, none⟩ = some V[j].v ∧ w.frozen? ⟨g, j, none⟩ = false := by
  obtain ⟨cur, h1, -, -, h4⟩ := h
  exact ⟨by simp [World.cell?, h1, h4 j hj hm], by simp [World.frozen?, h1]⟩
theorem CRow.skip {w : World} {g cap m : Nat} {V Y : List Sl} (h : CRow w g cap V Y m) : CRow w g cap V Y (m + 1) := by
  obtain ⟨cur, h1, h2, h3, h4⟩ := h
  exact ⟨cur, h1, h2, h3, fun j hj hm => h4 j hj (by omega)⟩
theorem CRow.put {w : World} {g cap m : Nat} {V Y : List Sl} (h : CRow w g cap V Y m) (r : Sl) (hY : Y.length ≤ m) (hc : Y.length < cap) : CRow (w.setCell ⟨g, Y.length, none⟩ r.v) g cap V (Y ++ [r]) (m + 1) := by
  obtain ⟨cur, h1, h2, h3, h4⟩ := h
  refine ⟨cur.setIfInBounds Y.length r.v, ?_, by simpa using h2, fun j hj => ?_, fun j hj hm => ?_⟩
  · rw [setCell_eq]
    simp [mapBlock, Array.getElem?_modify, h1, onCells]
  · by_cases e : j = Y.length
    · subst e
      simp [show Y.length < cur.size by omega]
    · have : j < Y.length := by simp at hj; omega
      rw [Array.getElem?_setIfInBounds_ne (by omega), h3 j this]
      simp [List.getElem_append_left this]
  · rw [Array.getElem?_setIfInBounds_ne (by omega)]
    exact h4 j hj (by omega)
theorem CRow.clear {g cap : Nat} {Y : List Sl} : ∀ (vs : List Value) (o : Nat) (w : World), CRow w g cap [] Y 0 → Y.length ≤ o → CRow (w.setCells g o vs) g cap [] Y 0
  | [], _, _, h, _ => h
  | v :: r, o, w, h, ho => by
    refine CRow.clear r (o + 1) _ ?_ (by omega)
    obtain ⟨cur, h1, h2, h3, -⟩ := h
    refine ⟨cur.setIfInBounds o v, ?_, by simpa using h2, fun j hj => ?_, fun j hj => by simp at hj⟩
    · rw [setCell_eq]
      simp [mapBlock, Array.getElem?_modify, h1, onCells]
    · rw [Array.getElem?_setIfInBounds_ne (by omega)]
      exact h3 j hj
theorem grown_set (w : World) (g o : Nat) (v : Value) : w.grownBy (w.setCell ⟨g, o, none⟩ v) (some g) := by
  rw [setCell_eq]
  refine ⟨rfl, rfl, rfl, by simp [mapBlock], fun k hk hne => ?_⟩
  have : g ≠ k := fun e => hne (by rw [e])
  simp [mapBlock, Array.getElem?_modify, this]
theorem grown_sets (g : Nat) : ∀ (vs : List Value) (o : Nat) (w : World), w.grownBy (w.setCells g o vs) (some g)
  | [], _, w => World.grownBy.refl w _
  | v :: r, o, w => (grown_set w g o v).trans (grown_sets g r (o + 1) _)
/-- The row, cut to what is kept, is the call's own. -/
theorem CRow.own {w w' : World} {B g cap m n : Nat} {V Y U : List Sl} (h : OwnSls w B (.slice (some ⟨g, 0, none⟩) n cap) V) (hc : CRow w' g cap U Y m) (hg : w.grownBy w' (some g)) (hY : ∀ x ∈ Y, x ∈ V) (hl : Y.length ≤ n) : OwnSls w' B (.slice (some ⟨g, 0, none⟩) Y.length cap) Y := by
  obtain ⟨cur, c1, c2, c3, -⟩ := hc
  rcases h.own.2 with ⟨e0, -⟩ | ⟨g', cap', cur', e0, hBg, hh, h1, h2, h3, h4⟩
  · cases e0
  injection e0 with e1 _ e2
  injection e1 with e1
  injection e1 with e1
  subst e1 e2
  refine ⟨⟨by simp, .inr ⟨g, cap, cur, rfl, hBg, c1, by have := h.own.1; omega, h2, by simpa using c2, ?_⟩⟩, fun r hr => (h.each r (hY r hr)).row hg (h.apart r (hY r hr)), fun r hr => h.apart r (hY r hr)⟩
  apply List.ext_getElem?
  intro j
  by_cases hj : j < Y.length
  · rw [List.getElem?_take_of_lt (by omega), Array.getElem?_toList, c3 j hj]
    simp [hj]
  · rw [List.getElem?_take_eq_none (by omega), List.getElem?_eq_none (by simp; omega)]
theorem crow_of {w : World} {B g cap : Nat} {V : List Sl} (h : OwnSls w B (.slice (some ⟨g, 0, none⟩) V.length cap) V) : CRow w g cap V [] 0 ∧ V.length ≤ cap := by
  rcases h.own.2 with ⟨e0, -⟩ | ⟨g', cap', cur, e0, hBg, hh, h1, h2, h3, h4⟩
  · cases e0
  injection e0 with e1 _ e2
  injection e1 with e1
  injection e1 with e1
  subst e1 e2
  refine ⟨⟨cur, hh, by simpa using h3, fun j hj => by simp at hj, fun j hj _ => ?_⟩, h1⟩
  have e : (cur.toList.take (V.length * 1))[j]? = (V.map Sl.v)[j]? := by rw [h4]
  rw [List.getElem?_take_of_lt (by omega), Array.getElem?_toList] at e
  rw [e]; simp [hj]
theorem CRow.take {w : World} {g cap : Nat} {V : List Sl} (h : CRow w g cap V [] 0) (k : Nat) : CRow w g cap V (V.take k) k := by
  obtain ⟨cur, h1, h2, h3, h4⟩ := h
  refine ⟨cur, h1, h2, fun j hj => ?_, fun j hj _ => h4 j hj (Nat.zero_le _)⟩
  have hj' : j < V.length := by simp at hj; omega
  rw [h4 j hj' (Nat.zero_le _), List.getElem_take]
theorem CRow.forget {w : World} {g cap m : Nat} {V Y : List Sl} (h : CRow w g cap V Y m) : CRow w g cap [] Y 0 := by
  obtain ⟨cur, h1, h2, h3, h4⟩ := h
  exact ⟨cur, h1, h2, h3, fun j hj => by simp at hj⟩
theorem CRow.there {w : World} {g cap m : Nat} {V Y : List Sl} (h : CRow w g cap V Y m) {j : Nat} (hj : j < cap) : (∃ v, w.cell? ⟨g, j, none⟩ = some v) ∧ w.frozen? ⟨g, j, none⟩ = false := by
  obtain ⟨cur, h1, h2, -, -⟩ := h
  exact ⟨⟨cur[j]'(by omega), by simp [World.cell?, h1, show j < cur.size by omega]⟩, by simp [World.frozen?, h1]⟩
theorem zero_sl (w : World) : (zeroValue 31).run Tryd.prog w = .ok (.slice none 0 0) w := by kernel_rfl
theorem goL_start {V : List Sl} {p : Sl} {k : Nat} (h : k < V.length) (h0 : cmpNds V[k].P p.P = 0) (he : compactL V = V.take k ++ goL p (V.drop k)) : compactL V = V.take k ++ goL V[k] (V.drop (k + 1)) := by
  rw [he, goL_eq h h0]
set_option maxHeartbeats 4000000 in
theorem compact_sls (w : World) (B g cap : Nat) (V : List Sl) (h : OwnSls w B (.slice (some ⟨g, 0, none⟩) V.length cap) V) (hs : V.length ≤ 5864062014634) :
    Calls Tryd.prog 43 #[.slice (some ⟨g, 0, none⟩) V.length cap, .func (.func 44) #[] #[]] w fun e w' =>
      e = .returned (.slice (some ⟨g, 0, none⟩) (compactL V).length cap) ∧ OwnSls w' B (.slice (some ⟨g, 0, none⟩) (compactL V).length cap) (compactL V) ∧ w.grownBy w' (some g) := by
  have HR := Lib.hid (crow_of h).1
  have hcap := (crow_of h).2
  have HH := Lib.hid h
  clear h
  by_cases h2 : V.length < 2
  · have HC := Lib.hid (compact_short h2)
    go_enter Tryd.func43, Tryd.ntmps43
    go_wp2
    go_ret
    rw [HC.out]
    exact ⟨rfl, HH.out, World.grownBy.refl _ _⟩
  · go_enter Tryd.func43, Tryd.ntmps43
    go_wp2
    go_loopw [5] (fun i wr => ∃ k : Nat, 1 ≤ k ∧ k ≤ V.length ∧ i = .int .i64 k ∧ Hid (∃ p, V[k - 1]? = some p ∧ compactL V = V.take k ++ goL p (V.drop k)) ∧ Hid (Below w.heap.size w wr)) (fun i _ => V.length - (intOf i).toNat)
    case atStart => exact ⟨1, Nat.le_refl _, by omega, rfl, ⟨V[0], by simp, compact_start (by omega)⟩, Below.refl _ _⟩
    case round =>
      obtain ⟨k, hk1, hk2, rfl, hc, hb⟩ := hrel
      by_cases hlt : k < V.length
      · obtain ⟨a1, f1⟩ := (HR.out.keep hb.out).cell hlt (Nat.zero_le _)
        obtain ⟨a0, f0⟩ := (HR.out.keep hb.out).cell (j := k - 1) (by omega) (Nat.zero_le _)
        have n1 := (HH.out.each _ (List.getElem_mem hlt)).keep hb.out
        have n0 := (HH.out.each _ (List.getElem_mem (show k - 1 < V.length by omega))).keep hb.out
        have s1 := rq (w := wr) (fun w' h => setOf1 V[k] V[k - 1] w' (n1.keep h) (n0.keep h))
        clear n1 n0
        unfold Sl.v at a1 a0 s1
        have k1 := cell_regrown a1
        have k0 := cell_regrown a0
        go_wp2_with fail
        refine wp_region_quiet_below (by kernel_rfl) (by kernel_rfl) ?_
        repeat (first | go_big_quiet_step (exact s1 _ _) | quiet_step (exact s1 _ _))
        refine wpQuiet_nil ?_
        intro w1 hw'
        have B1 := Lib.hid (show Below wr.heap.size wr w1 by obtain ⟨⟨d, os⟩, rfl⟩ := hw'; exact below_regrown _ _ _)
        clear hw'
        clear s1 k1 k0 a1 a0 f1 f0
        by_cases h0 : cmpNds V[k].P V[k - 1].P = 0
        · have e0 : (cmpNds V[k].P V[k - 1].P == 0) = true := by rw [h0]; rfl
          have HI := Lib.hid (show (V.take k).length = k ∧ ∃ p, V[k + 1 - 1]? = some p ∧ compactL V = V.take k ++ goL p (V.drop (k + 1)) by
            obtain ⟨p, hp, he⟩ := hc.out
            have hp' : V[k - 1] = p := by
              rw [List.getElem?_eq_getElem (by omega)] at hp; injection hp
            subst hp'
            exact ⟨by simp; omega, V[k], by simp [hlt], goL_start hlt h0 he⟩)
          have HB := bhid hb B1 (Nat.le_refl _)
          have R1 := Lib.hid ((HR.out.keep HB.out).take k)
          have G1 := Lib.hid (grown_of_below HB.out (some g))
          rw [e0]
          clear hc hb B1 h0 e0
          have hlc : k < cap := by omega
          go_wp2
          go_loopw [5, 7] (fun i j wr => ∃ (kk k2 : Nat) (Y : List Sl), i = .int .i64 kk ∧ j = .int .i64 k2 ∧ 1 ≤ k2 ∧ k + k2 ≤ V.length ∧ kk ≤ k + k2 - 1 ∧ Hid (Y.length = kk ∧ ∃ p, V[k + k2 - 1]? = some p ∧ compactL V = Y ++ goL p (V.drop (k + k2))) ∧ Hid (CRow wr g cap V Y (k + k2 - 1)) ∧ Hid (w.grownBy wr (some g))) (fun _ j _ => V.length - (intOf j).toNat)
          case atStart => exact ⟨k, 1, V.take k, rfl, rfl, Nat.le_refl _, by omega, by omega, HI, R1, G1⟩
          case round =>
            obtain ⟨kk, k2, Y, rfl, rfl, g1, g2, g3, hI, hR, hG⟩ := hrel
            by_cases hlt2 : k + k2 < V.length
            · obtain ⟨a1, f1⟩ := hR.out.cell hlt2 (by omega)
              obtain ⟨a0, f0⟩ := hR.out.cell (j := k + k2 - 1) (by omega) (by omega)
              have n1 := (HH.out.each _ (List.getElem_mem hlt2)).row hG.out (HH.out.apart _ (List.getElem_mem hlt2))
              have n0 := (HH.out.each _ (List.getElem_mem (show k + k2 - 1 < V.length by omega))).row hG.out (HH.out.apart _ (List.getElem_mem (show k + k2 - 1 < V.length by omega)))
              have s1 := rq (w := wr) (fun w' h => setOf1 V[k + k2] V[k + k2 - 1] w' (n1.keep h) (n0.keep h))
              clear n1 n0
              unfold Sl.v at a1 a0 s1
              have a0' : wr.cell? ⟨g, k + (k2 - 1), none⟩ = some (.slice V[k + k2 - 1].A V[k + k2 - 1].n V[k + k2 - 1].c) := by rw [show k + (k2 - 1) = k + k2 - 1 by omega]; exact a0
              have f0' : wr.frozen? ⟨g, k + (k2 - 1), none⟩ = false := by rw [show k + (k2 - 1) = k + k2 - 1 by omega]; exact f0
              clear a0 f0
              have k1 := cell_regrown a1
              have k0 := cell_regrown a0'
              go_wp2_with fail
              refine wp_region_quiet_below (by kernel_rfl) (by kernel_rfl) ?_
              repeat (first | go_big_quiet_step (exact s1 _ _) | quiet_step (exact s1 _ _))
              refine wpQuiet_nil ?_
              intro w1 hw'
              have B1 := Lib.hid (show Below wr.heap.size wr w1 by obtain ⟨⟨d, os⟩, rfl⟩ := hw'; exact below_regrown _ _ _)
              clear hw'
              clear s1 k1 k0 a1 a0' f1 f0'
              have G2 := Lib.hid (hG.out.trans (grown_of_below B1.out (some g)))
              have R2 := Lib.hid (hR.out.keep B1.out)
              clear hG hR B1
              by_cases h0 : cmpNds V[k + k2].P V[k + k2 - 1].P = 0
              · have e0 : (cmpNds V[k + k2].P V[k + k2 - 1].P == 0) = true := by rw [h0]; rfl
                have HJ := Lib.hid (show Y.length = kk ∧ ∃ p, V[k + (k2 + 1) - 1]? = some p ∧ compactL V = Y ++ goL p (V.drop (k + (k2 + 1))) by
                  obtain ⟨hl, p, hp, he⟩ := hI.out
                  have hp' : V[k + k2 - 1] = p := by
                    rw [List.getElem?_eq_getElem (by omega)] at hp; injection hp
                  subst hp'
                  refine ⟨hl, V[k + k2], by rw [show k + (k2 + 1) - 1 = k + k2 by omega]; exact List.getElem?_eq_getElem hlt2, ?_⟩
                  rw [he, goL_eq hlt2 h0]; rfl)
                have R3 := Lib.hid (show CRow w1 g cap V Y (k + (k2 + 1) - 1) by
                  have := R2.out.skip
                  rwa [show k + k2 - 1 + 1 = k + (k2 + 1) - 1 by omega] at this)
                rw [e0]
                clear hI R2 h0 e0
                go_wp2
                go_roundw
                case rel => exact ⟨kk, k2 + 1, Y, rfl, by go_num, by omega, by omega, by omega, HJ, R3, G2⟩
                case measure => simp [intOf]; omega
              · have e0 : (cmpNds V[k + k2].P V[k + k2 - 1].P == 0) = false := beq_eq_false_iff_ne.2 h0
                have HJ := Lib.hid (show (Y ++ [V[k + k2]]).length = kk + 1 ∧ ∃ p, V[k + (k2 + 1) - 1]? = some p ∧ compactL V = (Y ++ [V[k + k2]]) ++ goL p (V.drop (k + (k2 + 1))) by
                  obtain ⟨hl, p, hp, he⟩ := hI.out
                  have hp' : V[k + k2 - 1] = p := by
                    rw [List.getElem?_eq_getElem (by omega)] at hp; injection hp
                  subst hp'
                  refine ⟨by simp [hl], V[k + k2], by rw [show k + (k2 + 1) - 1 = k + k2 by omega]; exact List.getElem?_eq_getElem hlt2, ?_⟩
                  rw [he, goL_ne hlt2 h0, List.append_assoc]; rfl)
                have R3 := Lib.hid (show CRow (w1.setCell ⟨g, kk, none⟩ V[k + k2].v) g cap V (Y ++ [V[k + k2]]) (k + (k2 + 1) - 1) by
                  have := R2.out.put V[k + k2] (by rw [hI.out.1]; omega) (by rw [hI.out.1]; omega)
                  rwa [show k + k2 - 1 + 1 = k + (k2 + 1) - 1 by omega, hI.out.1] at this)
                have G3 := Lib.hid (G2.out.trans (grown_set w1 g kk V[k + k2].v))
                obtain ⟨a1, f1⟩ := R2.out.cell hlt2 (by omega)
                obtain ⟨⟨vk, ak⟩, fk⟩ := R2.out.there (j := kk) (by omega)
                unfold Sl.v at a1
                rw [e0]
                clear hI R2 G2 h0 e0
                go_wp2
                go_roundw
                case rel => exact ⟨kk + 1, k2 + 1, _, by go_num, by go_num, by omega, by omega, by omega, HJ, R3, G3⟩
                case measure => simp [intOf]; omega
            · have HY := Lib.hid (show compactL V = Y ∧ Y.length = kk by
                obtain ⟨hl, p, hp, he⟩ := hI.out
                exact ⟨by rw [he, goL_end (by omega), List.append_nil], hl⟩)
              have hcl : ∀ ty, (Builtin.clear_ #[30] ty #[.slice (some ⟨g, kk, none⟩) (V.length - kk) (cap - kk)]).run Tryd.prog wr = .ok (.tuple #[]) (wr.setCells g kk (List.replicate (V.length - kk) (.slice none 0 0))) :=
                fun ty => Lib.run_clear_slice wr _ _ ty _ Tryd.underlying30 zero_sl rfl rfl g kk _ _ (by omega) (fun j hj => by obtain ⟨⟨v, q⟩, -⟩ := hR.out.there (j := kk + j) (by omega); rw [q]; rfl) (fun j hj => (hR.out.there (j := kk + j) (by omega)).2)
              have G2 := Lib.hid (hG.out.trans (grown_sets g (List.replicate (V.length - kk) (.slice none 0 0)) kk wr))
              have R2 := Lib.hid (CRow.clear (List.replicate (V.length - kk) (.slice none 0 0)) kk wr hR.out.forget (by rw [HY.out.2]; exact Nat.le_refl _))
              clear hI hR hG
              go_wp2
              go_ret
              have hl := HY.out.2
              have hy := HY.out.1
              refine ⟨by rw [hy, hl]; rfl, ?_, G2.out⟩
              rw [hy]
              exact CRow.own HH.out R2.out G2.out (fun x hx => compact_sub (by rw [hy]; exact hx)) (by omega)
        · have e0 : (cmpNds V[k].P V[k - 1].P == 0) = false := beq_eq_false_iff_ne.2 h0
          have HC := Lib.hid (show ∃ p, V[k]? = some p ∧ compactL V = V.take (k + 1) ++ goL p (V.drop (k + 1)) by
            obtain ⟨p, hp, he⟩ := hc.out
            have hp' : V[k - 1] = p := by
              rw [List.getElem?_eq_getElem (by omega)] at hp; injection hp
            subst hp'
            refine ⟨V[k], by simp [hlt], ?_⟩
            rw [he, goL_ne hlt h0, ← List.take_append_getElem hlt, List.append_assoc]
            rfl)
          rw [e0]
          clear hc
          have HB := bhid hb B1 (Nat.le_refl _)
          clear hb B1
          go_wp2
          go_roundw
          case rel => exact ⟨k + 1, by omega, by omega, by go_num, HC, HB⟩
          case measure => simp [intOf]; omega
      · have HC := Lib.hid (show compactL V = V by
          obtain ⟨p, hp, he⟩ := hc.out
          rw [he, goL_end (by omega), List.take_of_length_le (by omega), List.append_nil])
        clear hc
        go_wp2
        go_ret
        rw [HC.out]
        exact ⟨rfl, HH.out.keep hb.out, grown_of_below hb.out _⟩
end Go.Proofs.YtfbgaefbalbohaaDoor
