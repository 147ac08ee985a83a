/-
  EntSteps: a step, and then any. The walk of the law.
-/
import Derived.Test.YtbjbimabgfpdoaaGreatEntOrder
import Derived.Test.YtbjbimabgfpdoaaGreatEntUp
namespace Go.Proofs.YtbjbimabgfpdoaaGreat
open Go.RowKit Go.Wk
set_option maxRecDepth 100000

theorem stp_mem {E : List En} (hn : (E.map En.u).Nodup) {x : En} (hx : x ∈ E) {p : Ud} : Stp (graphE E) x.u p ↔ p ∈ x.ups := by
  refine ⟨fun ⟨e, he, h1, h2⟩ => ?_, fun h => ⟨(x.u, x.ups), List.mem_map.2 ⟨x, hx, rfl⟩, rfl, h⟩⟩
  obtain ⟨y, hy, rfl⟩ := List.mem_map.1 he
  have : y = x := by
    obtain ⟨i, hi, rfl⟩ := List.getElem_of_mem hy
    obtain ⟨j, hj, rfl⟩ := List.getElem_of_mem hx
    have hp := List.pairwise_iff_getElem.1 hn
    rcases Nat.lt_trichotomy i j with hlt | he | hlt
    · have q := hp i j (by simpa using hi) (by simpa using hj) hlt
      rw [List.getElem_map, List.getElem_map] at q
      exact absurd h1 q
    · subst he; rfl
    · have q := hp j i (by simpa using hj) (by simpa using hi) hlt
      rw [List.getElem_map, List.getElem_map] at q
      exact absurd h1.symm q
  subst this; exact h2
theorem steps_law {E : List En} (h : storeF E = 0) {x : En} (hx : x ∈ E) (b : Ud) : Abv (graphE E) x.u b ↔ ∃ p ∈ x.ups, inB E p b = true := by
  have hn := (ents_ok E [] (store_ok h).2.1).2.2
  constructor
  · intro hb
    obtain ⟨p, h1, h2⟩ := hb.split
    exact ⟨p, (stp_mem hn hx).1 h1, (in_iff h).2 (h2.imp (fun e => e.symm) id)⟩
  · rintro ⟨p, h1, h2⟩
    have s := (stp_mem hn hx).2 h1
    rcases (in_iff h).1 h2 with rfl | h3
    · exact .one s
    · exact .more s h3
theorem steps_none {E : List En} {a : Ud} {U : List Ud} (h : ∀ x ∈ E, x.u ≠ a) (hU : UpOf E a U) : U = [] := by
  rcases U with _ | ⟨y, U⟩
  · rfl
  · obtain ⟨e, he, h1⟩ := abv_src ((hU.mem y).1 (by simp))
    obtain ⟨x, hx, rfl⟩ := List.mem_map.1 he
    exact absurd h1 (h x hx)
/-- Where the entity of a uid stands among the first k. -/
def HereAt (E : List En) (a : Ud) (k : Nat) (z : Int) : Prop := (z = -1 ∧ ∀ x ∈ E.take k, x.u ≠ a) ∨ ∃ (j : Nat) (h : j < E.length), z = j ∧ j < k ∧ E[j].u = a
theorem HereAt.step {E : List En} {a : Ud} {k : Nat} {z : Int} (h : HereAt E a k z) (hk : k < E.length) : HereAt E a (k + 1) (if E[k].u = a then (k : Int) else z) := by
  by_cases he : E[k].u = a
  · rw [if_pos he]; exact .inr ⟨k, hk, rfl, by omega, he⟩
  · rw [if_neg he]
    rcases h with ⟨rfl, h⟩ | ⟨j, hj, rfl, h1, h2⟩
    · refine .inl ⟨rfl, fun x hx => ?_⟩
      rw [List.take_succ_eq_append_getElem hk] at hx
      rcases List.mem_append.1 hx with hx | hx
      · exact h x hx
      · simp only [List.mem_cons, List.not_mem_nil, or_false] at hx; subst hx; exact he
    · exact .inr ⟨j, hj, rfl, by omega, h2⟩
theorem steps_any {E : List En} (h : storeF E = 0) {x : En} (hx : x ∈ E) {U : List Ud} (hU : UpOf E x.u U) (b : Ud) : hadU U b = x.ups.any fun p => inB E p b := by
  rw [Bool.eq_iff_iff, hadU_iff, hU.mem, steps_law h hx, List.any_eq_true]
theorem any_step {P : List Ud} {k : Nat} (h : k < P.length) (f : Ud → Bool) : (P.take (k + 1)).any f = ((P.take k).any f || f P[k]) := by
  rw [List.take_succ_eq_append_getElem h, List.any_append]; simp
theorem asc_at {U : List Ud} (h : U.Pairwise fun x y => cfU x y < 0) {t : Nat} (h0 : 0 < t) (ht : t < U.length) : cfU (U[t - 1]'(by omega)) U[t] < 0 := List.pairwise_iff_getElem.1 h (t - 1) t (by omega) ht (by omega)
set_option maxHeartbeats 4000000 in
theorem EntSteps_walk (A : Option Addr) (n c : Nat) (E : List En) (x1 y1 x2 y2 : ByteArray) (w : World) (h : Es w A n c E) (h1 : x1.size ≤ maxLen) (h2 : y1.size ≤ maxLen) (h3 : x2.size ≤ maxLen) (h4 : y2.size ≤ maxLen) :
    Calls Tryz.prog 3 #[.slice A n c, .agg #[.string x1, .string y1], .agg #[.string x2, .string y2]] w fun e w' => e = .returned (.bool true) ∧ Below w.heap.size w w' := by
  have HH := Lib.hid h
  have HL := Lib.hid h.len
  have hmax := h.max
  unfold maxLen at hmax
  have KF := Lib.hid law_above
  have U1 := Lib.hid (show UOk (x1, y1) from ⟨h1, h2⟩)
  have U2 := Lib.hid (show UOk (x2, y2) from ⟨h3, h4⟩)
  clear h h1 h2 h3 h4
  go_enter Tryz.func3, Tryz.ntmps3
  go_wp2_with fail
  have Pa := Lib.hid (vr2_new w (.string x1) (.string y1) 24)
  have B0 := Lib.hid (below_box w (.cells #[.string x1, .string y1] 24))
  have hsz : (w.alloc (.cells #[.string x1, .string y1] 24)).heap.size = w.heap.size + 1 := by simp
  obtain ⟨w0, hw0⟩ : ∃ w0, w.alloc (.cells #[.string x1, .string y1] 24) = w0 := ⟨_, rfl⟩
  rw [hw0] at Pa B0 hsz ⊢
  rw [← hsz]
  clear hw0 hsz
  have P1 := Lib.hid (Pa.out.keep (below_box w0 (.cells #[.string x2, .string y2] 24)))
  have Q1 := Lib.hid (vr2_new w0 (.string x2) (.string y2) 24)
  have B1 := bh B0 (below_box w0 (.cells #[.string x2, .string y2] 24))
  obtain ⟨w1, hw1⟩ : ∃ w1, w0.alloc (.cells #[.string x2, .string y2] 24) = w1 := ⟨_, rfl⟩
  rw [hw1] at P1 Q1 B1 ⊢
  clear hw1 Pa B0
  refine (KF.out w1).mono ?_
  rintro e w2 ⟨rfl, b2⟩
  have P2 := Lib.hid (P1.out.keep b2)
  have Q2 := Lib.hid (Q1.out.keep b2)
  have B2 := bh B1 b2
  clear P1 Q1 B1 b2 KF
  obtain ⟨p0, p1, -, -⟩ := P2.out
  have K3 := Lib.hid (ent_Above A n c E (x1, y1) w2 (HH.out.keep B2.out) U1.out)
  unfold udV at K3
  go_wp2_with fail
  refine K3.out.mono ?_
  rintro e w3 ⟨A', n', c', U, rfl, hus, -, hup, b3⟩
  have P3 := Lib.hid (P2.out.keep b3)
  have Q3 := Lib.hid (Q2.out.keep b3)
  have B3 := bh B2 b3
  have HUS := Lib.hid hus
  have HUP := Lib.hid hup
  clear P2 Q2 B2 b3 hus hup p0 p1 K3
  by_cases hs : storeF E = 0
  · have HS := Lib.hid hs
    rw [hs, errV_zero]
    clear hs
    go_wp2_with fail
    go_loopw [10, 11] (fun hv i wr => ∃ (k : Nat) (z : Int), k ≤ n ∧ i = .int .i64 k ∧ hv = .int .i64 z ∧ Hid (HereAt E (x1, y1) k z) ∧ Hid (Below w3.heap.size w3 wr)) (fun _ i _ => n - (intOf i).toNat)
    case atStart => exact ⟨0, -1, Nat.zero_le _, rfl, rfl, .inl ⟨rfl, fun x hx => by simp at hx⟩, Below.refl _ _⟩
    case round =>
      obtain ⟨k, z, hk, rfl, rfl, hZ, hB⟩ := hrel
      by_cases hlt : k < n
      · have hlt' : k < E.length := by rw [← HL.out]; exact hlt
        have HT := Lib.hid (hZ.out.step hlt')
        obtain ⟨a, rfl, q0, q1, -, -, -⟩ := (HH.out.keep (B3.out.trans (hB.out.mono B3.out.size))).at_ k _ (List.getElem?_eq_getElem hlt')
        obtain ⟨t0, t1, -, -⟩ := P3.out.keep hB.out
        have v0 := cell_regrown t0
        have v1 := cell_regrown t1
        generalize E[k].u = u at *
        by_cases he : u = (x1, y1)
        · rw [if_pos he] at HT
          subst he
          have k0 := cell_regrown q0
          have k1 := cell_regrown q1
          clear q0 q1 t0 t1
          go_wp2_with fail
          refine wp_region_quiet_below (by kernel_rfl) (by kernel_rfl) ?_
          repeat (first | go_big_quiet_step (fail) | quiet_step (fail))
          refine wpQuiet_nil ?_
          intro w5 hw'
          have b5 := Lib.hid (show Below wr.heap.size wr w5 by obtain ⟨⟨d, os⟩, rfl⟩ := hw'; exact below_regrown _ _ _)
          clear hw'
          have B5 := bhid hB b5 (Nat.le_refl _)
          clear k0 k1 v0 v1 hB b5
          go_wp2_with fail
          go_roundw
          case rel => exact ⟨k + 1, (k : Int), by omega, by go_num, rfl, HT, B5⟩
          case measure => simp [intOf]; omega
        · rw [if_neg he] at HT
          have k0 := cell_regrown q0
          have k1 := cell_regrown q1
          have hne := uid_ne he
          clear q0 q1 t0 t1 he
          rcases hne with h1 | ⟨h1, h2⟩
          · go_wp2_with fail
            refine wp_region_quiet_below (by kernel_rfl) (by kernel_rfl) ?_
            repeat (first | go_big_quiet_step (fail) | quiet_step (fail))
            refine wpQuiet_nil ?_
            intro w5 hw'
            have b5 := Lib.hid (show Below wr.heap.size wr w5 by obtain ⟨⟨d, os⟩, rfl⟩ := hw'; exact below_regrown _ _ _)
            clear hw'
            have B5 := bhid hB b5 (Nat.le_refl _)
            clear k0 k1 v0 v1 hB b5
            go_wp2_with fail
            go_roundw
            case rel => exact ⟨k + 1, z, by omega, by go_num, rfl, HT, B5⟩
            case measure => simp [intOf]; omega
          · go_wp2_with fail
            refine wp_region_quiet_below (by kernel_rfl) (by kernel_rfl) ?_
            repeat (first | go_big_quiet_step (fail) | quiet_step (fail))
            refine wpQuiet_nil ?_
            intro w5 hw'
            have b5 := Lib.hid (show Below wr.heap.size wr w5 by obtain ⟨⟨d, os⟩, rfl⟩ := hw'; exact below_regrown _ _ _)
            clear hw'
            have B5 := bhid hB b5 (Nat.le_refl _)
            clear k0 k1 v0 v1 hB b5
            go_wp2_with fail
            go_roundw
            case rel => exact ⟨k + 1, z, by omega, by go_num, rfl, HT, B5⟩
            case measure => simp [intOf]; omega
      · have hkE : E.take k = E := List.take_of_length_le (by rw [← HL.out]; omega)
        obtain ⟨w4, rfl⟩ : ∃ w4 : World, w4 = wr := ⟨_, rfl⟩
        have HB1 := bh B3 hB.out
        have HU1 := Lib.hid (HUS.out.keep hB.out)
        have Q4 := Lib.hid (Q3.out.keep hB.out)
        have HULen := Lib.hid HUS.out.len
        have hmaxU := HUS.out.max
        unfold maxLen at hmaxU
        rcases hZ.out with ⟨rfl, hno⟩ | ⟨j, hj, rfl, hjk, hju⟩
        · rw [hkE] at hno
          have hU0 : U = [] := steps_none hno (HUP.out HS.out)
          have hn0 : n' = 0 := by rw [HULen.out, hU0]; rfl
          clear hno hU0 hkE hZ
          subst hn0
          go_wp2_with fail
          go_ret
          exact ⟨rfl, HB1.out⟩
        · have HX := Lib.hid (List.getElem_mem hj)
          have HUPE := Lib.hid (HUP.out HS.out)
          have HFIN := Lib.hid (steps_any HS.out HX.out (by rw [hju]; exact HUPE.out) (x2, y2))
          obtain ⟨x, hx⟩ : ∃ x, x = E[j] := ⟨_, rfl⟩
          have HXE := Lib.hid (show E[j]? = some x by rw [List.getElem?_eq_getElem hj, hx])
          rw [← hx] at HX HFIN
          have hjn : j < n := by rw [HL.out]; exact hj
          clear hx hju hkE hZ hB HUP HUS Q3 P3
          go_wp2_with fail
          go_loopw [12, 13] (fun hs i wk => ∃ t : Nat, t ≤ n' ∧ i = .int .i64 t ∧ hs = .bool (hadU (U.take t) (x2, y2)) ∧ Hid (Below w4.heap.size w4 wk)) (fun _ i _ => n' - (intOf i).toNat)
          case atStart => exact ⟨0, Nat.zero_le _, rfl, rfl, Below.refl _ _⟩
          case round =>
            obtain ⟨t, ht, rfl, rfl, hB⟩ := hrel
            by_cases htn : t < n'
            · have htl : t < U.length := by rw [← HULen.out]; exact htn
              have HT := Lib.hid (hadU_take htl (x2, y2))
              obtain ⟨a, rfl, q0, q1⟩ := (HU1.out.keep hB.out).at_ t _ (List.getElem?_eq_getElem htl)
              obtain ⟨t0, t1, -, -⟩ := Q4.out.keep hB.out
              have v0 := cell_regrown t0
              have v1 := cell_regrown t1
              have HBW := bh HB1 hB.out
              have HCH := Lib.hid (fun (h0 : 0 < t) => asc_at HUPE.out.asc h0 htl)
              have HUO := Lib.hid (HU1.out.ok)
              have HMT := Lib.hid (List.getElem_mem htl)
              obtain ⟨y, hy⟩ : ∃ y, y = U[t] := ⟨_, rfl⟩
              have HYT := Lib.hid (show U[t]? = some y by rw [List.getElem?_eq_getElem htl, hy])
              rw [← hy] at q0 q1 HT HCH HMT
              clear hy
              have k0 := cell_regrown q0
              have k1 := cell_regrown q1
              by_cases he : y = (x2, y2)
              · rw [decide_eq_true he, Bool.or_true] at HT
                have e1 : y.1 = x2 := by rw [he]
                have e2 : y.2 = y2 := by rw [he]
                have HYE := Lib.hid (And.intro e1 e2)
                rw [e1] at k0
                rw [e2] at k1
                clear he e1 e2 q0 q1 t0 t1
                go_wp2_with fail
                refine wp_region_quiet_below (by kernel_rfl) (by kernel_rfl) ?_
                repeat (first | go_big_quiet_step (fail) | quiet_step (fail))
                refine wpQuiet_nil ?_
                intro w5 hw'
                have b5 := Lib.hid (show Below wr.heap.size wr w5 by obtain ⟨⟨d, os⟩, rfl⟩ := hw'; exact below_regrown _ _ _)
                clear hw'
                have B5 := bhid hB b5 (Nat.le_refl _)
                clear k0 k1 v0 v1
                go_wp2_with fail
                rcases Nat.eq_zero_or_pos t with h0 | h0
                · subst h0
                  refine wp_region_quiet_below (by kernel_rfl) (by kernel_rfl) ?_
                  repeat (first | go_big_quiet_step (fail) | quiet_step (fail))
                  refine wpQuiet_nil ?_
                  intro w6 hw'
                  have b6 := Lib.hid (show Below w5.heap.size w5 w6 by obtain ⟨⟨d, os⟩, rfl⟩ := hw'; exact below_regrown _ _ _)
                  clear hw'
                  have B6 := bhid B5 b6 (Nat.le_refl _)
                  go_wp2_with fail
                  go_roundw
                  case rel => exact ⟨0 + 1, by omega, by go_num, by rw [HT.out], B6⟩
                  case measure => simp [intOf]; omega
                · obtain ⟨s, rfl⟩ : ∃ s, t = s + 1 := ⟨t - 1, by omega⟩
                  have hsl : s < U.length := by omega
                  have HNEG := Lib.hid (show cfU U[s] y < 0 from HCH.out (by omega))
                  have z2 := HUO.out _ (List.getElem_mem hsl)
                  have z3 := HUO.out _ HMT.out
                  obtain ⟨a', ea, q0, q1⟩ := (HU1.out.keep B5.out).at_ s _ (List.getElem?_eq_getElem hsl)
                  injection ea with ea
                  subst ea
                  obtain ⟨a', ea, r0, r1⟩ := (HU1.out.keep B5.out).at_ (s + 1) y HYT.out
                  injection ea with ea
                  subst ea
                  generalize U[s] = y' at *
                  have K := rq (w := w5) (fun w' _ => ref_Uids y'.1 y'.2 y.1 y.2 w' z2.1 z2.2 z3.1 z3.2)
                  unfold cfU at HNEG
                  have hneg := HNEG.out
                  have k0 := cell_regrown q0
                  have k1 := cell_regrown q1
                  have v0 := cell_regrown r0
                  have v1 := cell_regrown r1
                  generalize cmpUid y'.1 y'.2 y.1 y.2 = cu at *
                  clear q0 q1 r0 r1 z2 z3
                  refine wp_region_quiet_below (by kernel_rfl) (by kernel_rfl) ?_
                  repeat (first | go_big_quiet_step (exact K _ _) | quiet_step (exact K _ _))
                  refine wpQuiet_nil ?_
                  intro w6 hw'
                  have b6 := Lib.hid (show Below w5.heap.size w5 w6 by obtain ⟨⟨d, os⟩, rfl⟩ := hw'; exact below_regrown _ _ _)
                  clear hw'
                  have B6 := bhid B5 b6 (Nat.le_refl _)
                  clear k0 k1 v0 v1 K
                  go_wp2_with fail
                  go_roundw
                  case rel => exact ⟨s + 1 + 1, by omega, by go_num, by rw [HT.out], B6⟩
                  case measure => simp [intOf]; omega
              · rw [decide_eq_false he, Bool.or_false] at HT
                have hne := uid_ne he
                dsimp only at hne
                clear he q0 q1 t0 t1
                rcases hne with h1 | ⟨h1, h2⟩
                · go_wp2_with fail
                  refine wp_region_quiet_below (by kernel_rfl) (by kernel_rfl) ?_
                  repeat (first | go_big_quiet_step (fail) | quiet_step (fail))
                  refine wpQuiet_nil ?_
                  intro w5 hw'
                  have b5 := Lib.hid (show Below wr.heap.size wr w5 by obtain ⟨⟨d, os⟩, rfl⟩ := hw'; exact below_regrown _ _ _)
                  clear hw'
                  have B5 := bhid hB b5 (Nat.le_refl _)
                  clear k0 k1 v0 v1
                  go_wp2_with fail
                  clear h1
                  rcases Nat.eq_zero_or_pos t with h0 | h0
                  · subst h0
                    refine wp_region_quiet_below (by kernel_rfl) (by kernel_rfl) ?_
                    repeat (first | go_big_quiet_step (fail) | quiet_step (fail))
                    refine wpQuiet_nil ?_
                    intro w6 hw'
                    have b6 := Lib.hid (show Below w5.heap.size w5 w6 by obtain ⟨⟨d, os⟩, rfl⟩ := hw'; exact below_regrown _ _ _)
                    clear hw'
                    have B6 := bhid B5 b6 (Nat.le_refl _)
                    go_wp2_with fail
                    go_roundw
                    case rel => exact ⟨0 + 1, by omega, by go_num, by rw [HT.out], B6⟩
                    case measure => simp [intOf]; omega
                  · obtain ⟨s, rfl⟩ : ∃ s, t = s + 1 := ⟨t - 1, by omega⟩
                    have hsl : s < U.length := by omega
                    have HNEG := Lib.hid (show cfU U[s] y < 0 from HCH.out (by omega))
                    have z2 := HUO.out _ (List.getElem_mem hsl)
                    have z3 := HUO.out _ HMT.out
                    obtain ⟨a', ea, q0, q1⟩ := (HU1.out.keep B5.out).at_ s _ (List.getElem?_eq_getElem hsl)
                    injection ea with ea
                    subst ea
                    obtain ⟨a', ea, r0, r1⟩ := (HU1.out.keep B5.out).at_ (s + 1) y HYT.out
                    injection ea with ea
                    subst ea
                    generalize U[s] = y' at *
                    have K := rq (w := w5) (fun w' _ => ref_Uids y'.1 y'.2 y.1 y.2 w' z2.1 z2.2 z3.1 z3.2)
                    unfold cfU at HNEG
                    have hneg := HNEG.out
                    have k0 := cell_regrown q0
                    have k1 := cell_regrown q1
                    have v0 := cell_regrown r0
                    have v1 := cell_regrown r1
                    generalize cmpUid y'.1 y'.2 y.1 y.2 = cu at *
                    clear q0 q1 r0 r1 z2 z3
                    refine wp_region_quiet_below (by kernel_rfl) (by kernel_rfl) ?_
                    repeat (first | go_big_quiet_step (exact K _ _) | quiet_step (exact K _ _))
                    refine wpQuiet_nil ?_
                    intro w6 hw'
                    have b6 := Lib.hid (show Below w5.heap.size w5 w6 by obtain ⟨⟨d, os⟩, rfl⟩ := hw'; exact below_regrown _ _ _)
                    clear hw'
                    have B6 := bhid B5 b6 (Nat.le_refl _)
                    clear k0 k1 v0 v1 K
                    go_wp2_with fail
                    go_roundw
                    case rel => exact ⟨s + 1 + 1, by omega, by go_num, by rw [HT.out], B6⟩
                    case measure => simp [intOf]; omega
                · go_wp2_with fail
                  refine wp_region_quiet_below (by kernel_rfl) (by kernel_rfl) ?_
                  repeat (first | go_big_quiet_step (fail) | quiet_step (fail))
                  refine wpQuiet_nil ?_
                  intro w5 hw'
                  have b5 := Lib.hid (show Below wr.heap.size wr w5 by obtain ⟨⟨d, os⟩, rfl⟩ := hw'; exact below_regrown _ _ _)
                  clear hw'
                  have B5 := bhid hB b5 (Nat.le_refl _)
                  clear k0 k1 v0 v1
                  go_wp2_with fail
                  clear h1 h2
                  rcases Nat.eq_zero_or_pos t with h0 | h0
                  · subst h0
                    refine wp_region_quiet_below (by kernel_rfl) (by kernel_rfl) ?_
                    repeat (first | go_big_quiet_step (fail) | quiet_step (fail))
                    refine wpQuiet_nil ?_
                    intro w6 hw'
                    have b6 := Lib.hid (show Below w5.heap.size w5 w6 by obtain ⟨⟨d, os⟩, rfl⟩ := hw'; exact below_regrown _ _ _)
                    clear hw'
                    have B6 := bhid B5 b6 (Nat.le_refl _)
                    go_wp2_with fail
                    go_roundw
                    case rel => exact ⟨0 + 1, by omega, by go_num, by rw [HT.out], B6⟩
                    case measure => simp [intOf]; omega
                  · obtain ⟨s, rfl⟩ : ∃ s, t = s + 1 := ⟨t - 1, by omega⟩
                    have hsl : s < U.length := by omega
                    have HNEG := Lib.hid (show cfU U[s] y < 0 from HCH.out (by omega))
                    have z2 := HUO.out _ (List.getElem_mem hsl)
                    have z3 := HUO.out _ HMT.out
                    obtain ⟨a', ea, q0, q1⟩ := (HU1.out.keep B5.out).at_ s _ (List.getElem?_eq_getElem hsl)
                    injection ea with ea
                    subst ea
                    obtain ⟨a', ea, r0, r1⟩ := (HU1.out.keep B5.out).at_ (s + 1) y HYT.out
                    injection ea with ea
                    subst ea
                    generalize U[s] = y' at *
                    have K := rq (w := w5) (fun w' _ => ref_Uids y'.1 y'.2 y.1 y.2 w' z2.1 z2.2 z3.1 z3.2)
                    unfold cfU at HNEG
                    have hneg := HNEG.out
                    have k0 := cell_regrown q0
                    have k1 := cell_regrown q1
                    have v0 := cell_regrown r0
                    have v1 := cell_regrown r1
                    generalize cmpUid y'.1 y'.2 y.1 y.2 = cu at *
                    clear q0 q1 r0 r1 z2 z3
                    refine wp_region_quiet_below (by kernel_rfl) (by kernel_rfl) ?_
                    repeat (first | go_big_quiet_step (exact K _ _) | quiet_step (exact K _ _))
                    refine wpQuiet_nil ?_
                    intro w6 hw'
                    have b6 := Lib.hid (show Below w5.heap.size w5 w6 by obtain ⟨⟨d, os⟩, rfl⟩ := hw'; exact below_regrown _ _ _)
                    clear hw'
                    have B6 := bhid B5 b6 (Nat.le_refl _)
                    clear k0 k1 v0 v1 K
                    go_wp2_with fail
                    go_roundw
                    case rel => exact ⟨s + 1 + 1, by omega, by go_num, by rw [HT.out], B6⟩
                    case measure => simp [intOf]; omega
            · have HHAS := Lib.hid (show hadU (U.take t) (x2, y2) = hadU U (x2, y2) by rw [List.take_of_length_le (by rw [← HULen.out]; omega)])
              obtain ⟨w5, rfl⟩ : ∃ w5 : World, w5 = wr := ⟨_, rfl⟩
              have HB5 := bh HB1 hB.out
              have Q5 := Lib.hid (Q4.out.keep hB.out)
              clear Q4 HU1 HB1 hB
              rw [HHAS.out, HFIN.out]
              obtain ⟨a, rfl, -, -, q2, -, hxo⟩ := (HH.out.keep HB5.out).at_ j x HXE.out
              have HXL := Lib.hid hxo.us.len
              have hxm := hxo.us.max
              unfold maxLen at hxm
              have HXU := Lib.hid hxo.us
              have KI := Lib.hid (fun (p : Ud) (hp : UOk p) w' (hb : Below w.heap.size w w') => ent_In (some a) n c E p (x2, y2) w' (HH.out.keep hb) hp U2.out)
              unfold udV at KI
              dsimp only at KI
              rw [HS.out, errV_zero] at KI
              clear hxo
              go_wp2_with fail
              go_loopw [14, 15] (fun wn i wk => ∃ t : Nat, t ≤ x.un ∧ i = .int .i64 t ∧ wn = .bool ((x.ups.take t).any fun p => inB E p (x2, y2)) ∧ Hid (Below w5.heap.size w5 wk)) (fun _ i _ => x.un - (intOf i).toNat)
              case atStart => exact ⟨0, Nat.zero_le _, rfl, by simp, Below.refl _ _⟩
              case round =>
                obtain ⟨t, ht, rfl, rfl, hB⟩ := hrel
                have q2' := cell_keep hB.out q2
                by_cases htn : t < x.un
                · have htl : t < x.ups.length := by rw [← HXL.out]; exact htn
                  obtain ⟨b, eb, q3, q4⟩ := (HXU.out.keep hB.out).at_ t _ (List.getElem?_eq_getElem htl)
                  have HT := Lib.hid (any_step htl fun p => inB E p (x2, y2))
                  have hpo : UOk x.ups[t] := HXU.out.ok _ (List.getElem_mem htl)
                  have HBW := bh HB5 hB.out
                  obtain ⟨t0, t1, -, -⟩ := Q5.out.keep hB.out
                  rw [eb] at q2'
                  generalize x.ups[t] = p at *
                  have hq : ∀ w', Below wr.heap.size wr w' → Below w.heap.size w w' := fun w' hb => HBW.out.trans (hb.mono HBW.out.size)
                  have K := rq (w := wr) (v := .tuple #[.bool (inB E p (x2, y2)), .nilIface]) (fun w' hb => KI.out p hpo w' (hq w' hb))
                  clear hq
                  have k0 := cell_regrown q3
                  have k1 := cell_regrown q4
                  have k2 := cell_regrown q2'
                  have v0 := cell_regrown t0
                  have v1 := cell_regrown t1
                  clear q3 q4 t0 t1
                  go_wp2_with fail
                  refine wp_region_quiet_below (by kernel_rfl) (by kernel_rfl) ?_
                  repeat (first | go_big_quiet_step (exact K _ _) | quiet_step (exact K _ _))
                  refine wpQuiet_nil ?_
                  intro w6 hw'
                  have b6 := Lib.hid (show Below wr.heap.size wr w6 by obtain ⟨⟨d, os⟩, rfl⟩ := hw'; exact below_regrown _ _ _)
                  clear hw'
                  have B6 := bhid hB b6 (Nat.le_refl _)
                  clear k0 k1 k2 v0 v1 K q2'
                  rcases hin : inB E p (x2, y2) with _ | _
                  · rw [hin, Bool.or_false] at HT
                    clear hin
                    go_wp2_with fail
                    go_roundw
                    case rel => exact ⟨t + 1, by omega, by go_num, by rw [HT.out], B6⟩
                    case measure => simp [intOf]; omega
                  · rw [hin, Bool.or_true] at HT
                    clear hin
                    go_wp2_with fail
                    go_roundw
                    case rel => exact ⟨t + 1, by omega, by go_num, by rw [HT.out], B6⟩
                    case measure => simp [intOf]; omega
                · have HAL := Lib.hid (show x.ups.take t = x.ups by rw [List.take_of_length_le (by rw [← HXL.out]; omega)])
                  have BW := bh HB5 hB.out
                  rw [HAL.out]
                  generalize (x.ups.any fun p => inB E p (x2, y2)) = bb at *
                  go_wp2_with fail
                  go_ret
                  refine ⟨?_, BW.out⟩
                  cases bb <;> rfl
  · rw [errV_ne hs]
    generalize storeF E = f at *
    clear hs
    go_wp2_with fail
    go_ret
    exact ⟨rfl, B3.out⟩
end Go.Proofs.YtbjbimabgfpdoaaGreat
