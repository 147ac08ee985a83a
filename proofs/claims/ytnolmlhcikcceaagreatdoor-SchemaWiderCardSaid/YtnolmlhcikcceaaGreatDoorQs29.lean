/-
  The reference's StoreFault: what is wrong with a store.
  Plain: a store by a schema: what is wrong, entity by entity; each by itself; with a type that is more. No program in sight.
  ref StoreFits: what is wrong with a store by a schema.
  schema.Store.
-/
import Derived.Test.YtnolmlhcikcceaaGreatDoorQs28
namespace Go.Proofs.YtnolmlhcikcceaaGreatDoor
open Go.RowKit Go.Wk
set_option maxRecDepth 100000

theorem ref_uidF (u : Ud) (hu : u.1.size ≤ maxLen ∧ u.2.size ≤ maxLen) (w : World) :
    Calls Tryz.prog 76 #[.agg #[.string u.1, .string u.2]] w fun e w' => e = .returned (.int .i64 (uidFault (u.1, u.2))) ∧ Below w.heap.size w w' := ref_UidFault u.1 u.2 w hu.1 hu.2
set_option maxHeartbeats 4000000 in
theorem ref_entityFault (x : En) (w : World) (h : EnOk w x) :
    Calls Tryz.prog 77 #[x.v] w fun e w' => e = .returned (.int .i64 (entF x)) ∧ Below w.heap.size w w' := by
  have V0 := Lib.hid (vr4_new w x 38)
  obtain ⟨u, UA, un, uc, ups, NA, nn, nc, P⟩ := x
  obtain ⟨-, -, hus, hns⟩ := h
  have KU := Lib.hid ref_uidF
  have KV := Lib.hid (fun w' hb => ref_ValueFault _ _ _ _ w' (hns.keep (w' := w') hb))
  have HU := Lib.hid hus
  have HN := Lib.hid hns
  have B0 := Lib.hid (below_box w (.cells #[.string u.1, .string u.2, .slice UA un uc, .slice NA nn nc] 38))
  have hlen := hus.len
  have hcap := hus.cap
  dsimp only at hlen hcap V0 KV HU HN
  clear hus hns
  unfold En.v
  dsimp only
  by_cases h6 : 6 < un
  · have HE := Lib.hid (show entF ⟨u, UA, un, uc, ups, NA, nn, nc, P⟩ = 4 by unfold entF; rw [if_pos (by dsimp only; omega)])
    rw [HE.out]
    clear hlen
    go_enter Tryz.func77, Tryz.ntmps77
    go_wp2_with fail
    go_ret
    exact ⟨rfl, B0.out⟩
  · have HE := Lib.hid (show entF ⟨u, UA, un, uc, ups, NA, nn, nc, P⟩ = if upsFault [] ups = 0 then (if valFault P = 0 then (if headOp P = 6 then 0 else 2) else valFault P) else upsFault [] ups by unfold entF; rw [if_neg (by dsimp only; omega)])
    generalize entF ⟨u, UA, un, uc, ups, NA, nn, nc, P⟩ = EF at *
    have HL := Lib.hid hlen
    have hd : decide ((6 : Int) < (un : Int)) = false := decide_eq_false (by omega)
    clear hlen
    go_enter Tryz.func77, Tryz.ntmps77
    go_wp2_with fail
    obtain ⟨w0, hw0⟩ : ∃ w0, w.alloc (.cells #[.string u.1, .string u.2, .slice UA un uc, .slice NA nn nc] 38) = w0 := ⟨_, rfl⟩
    rw [hw0] at V0 B0 ⊢
    clear hw0
    go_loopw [3, 5] (fun i _ wr => ∃ k : Nat, k ≤ un ∧ i = .int .i64 k ∧ Hid (upsFault [] ups = upsFault (ups.take k) (ups.drop k)) ∧ Hid (Below w.heap.size w wr) ∧ Hid (Vr4 wr w.heap.size ⟨u, UA, un, uc, ups, NA, nn, nc, P⟩)) (fun i _ _ => un - (intOf i).toNat)
    case atStart => exact ⟨0, Nat.zero_le _, rfl, rfl, B0, V0⟩
    case round =>
      clear B0 V0
      obtain ⟨k, hk, rfl, hF, hB, hV⟩ := hrel
      obtain ⟨c0, c1, c2, c3⟩ := hV.out
      dsimp only at c0 c1 c2 c3
      by_cases hlt : k < un
      · have hlt' : k < ups.length := by rw [← HL.out]; exact hlt
        have HS := Lib.hid (ups_step hlt')
        obtain ⟨a, rfl, q0, q1⟩ := (HU.out.at_.keep hB.out) k _ (List.getElem?_eq_getElem hlt')
        have hok := HU.out.ok _ (List.getElem_mem hlt')
        have K1 := Lib.hid (KU.out ups[k] hok wr)
        have HXK := Lib.hid (List.getElem?_eq_getElem hlt')
        generalize ups[k] = p at *
        go_wp2_with fail
        refine K1.out.mono ?_
        rintro e w2 ⟨rfl, b2⟩
        have B2 := bh hB b2
        have V2 := Lib.hid (hV.out.keep b2)
        clear K1 b2 hB hV c0 c1 c2 c3 q0 q1
        obtain ⟨c0, c1, c2, c3⟩ := V2.out
        dsimp only at c0 c1 c2 c3
        by_cases hu : uidFault (p.1, p.2) = 0
        · have hu' : uidFault p = 0 := hu
          rw [hu]
          rw [if_pos hu'] at HS
          clear hu hu'
          go_wp2_with fail
          go_loopw [5] (fun j wj => ∃ q : Nat, q ≤ k ∧ j = .int .i64 q ∧ Hid (hadU (ups.take q) p = false) ∧ Hid (Below w2.heap.size w2 wj)) (fun j _ => k - (intOf j).toNat)
          case atStart => exact ⟨0, Nat.zero_le _, rfl, Lib.hid rfl, Below.refl _ _⟩
          case round =>
            clear c0 c1 c2 c3
            obtain ⟨q, hq, rfl, hH, hJ⟩ := hrel
            have BJ := bh B2 hJ.out
            have VJ := Lib.hid (V2.out.keep hJ.out)
            obtain ⟨c0, c1, c2, c3⟩ := VJ.out
            dsimp only at c0 c1 c2 c3
            by_cases hlq : q < k
            · have hlq' : q < ups.length := by omega
              have HT := Lib.hid (hadU_take hlq' p)
              obtain ⟨a', ea, q0, q1⟩ := (HU.out.at_.keep BJ.out) q _ (List.getElem?_eq_getElem hlq')
              injection ea with ea
              subst ea
              obtain ⟨a', ea, r0, r1⟩ := (HU.out.at_.keep BJ.out) k _ HXK.out
              injection ea with ea
              subst ea
              have HM := Lib.hid (show ups[q] = p → hadU (ups.take k) p = true from fun e => hadU_iff.2 (by
                rw [← e]
                exact List.mem_take_iff_getElem.2 ⟨q, by omega, rfl⟩))
              generalize ups[q] = y at *
              have v0 := cell_regrown r0
              have v1 := cell_regrown r1
              have k2 := cell_regrown c2
              by_cases he : y = p
              · have HE2 := Lib.hid (show EF = 6 by
                  have := HS.out
                  rw [HM.out he, if_pos rfl] at this
                  rw [HE.out, hF.out, this]; rfl)
                rw [he] at q0 q1
                have k0 := cell_regrown q0
                have k1 := cell_regrown q1
                clear he q0 q1 r0 r1 HT HM HS hF
                go_wp2_with fail
                refine wp_region_quiet_below (by kernel_rfl) (by kernel_rfl) ?_
                repeat (first | go_big_quiet_step (fail) | quiet_step (fail))
                refine wpQuiet_nil ?_
                intro w5 hw'
                have b5 := Lib.hid (show Below wr.heap.size wr w5 by obtain ⟨⟨d, os⟩, rfl⟩ := hw'; exact below_regrown _ _ _)
                clear hw'
                have B5 := bh BJ b5.out
                clear k0 k1 k2 v0 v1
                go_wp2_with fail
                go_ret
                exact ⟨ret_i64 HE2.out.symm, B5.out⟩
              · rw [decide_eq_false he, Bool.or_false, hH.out] at HT
                have hne := uid_ne he
                have k0 := cell_regrown q0
                have k1 := cell_regrown q1
                clear he q0 q1 r0 r1 HM
                rcases hne with h1 | ⟨h1, h2⟩
                · go_wp2_with fail
                  refine wp_region_quiet_below (by kernel_rfl) (by kernel_rfl) ?_
                  repeat (first | go_big_quiet_step (fail) | quiet_step (fail))
                  refine wpQuiet_nil ?_
                  intro w5 hw'
                  have b5 := Lib.hid (show Below wr.heap.size wr w5 by obtain ⟨⟨d, os⟩, rfl⟩ := hw'; exact below_regrown _ _ _)
                  clear hw'
                  have B5 := bhid hJ b5 (Nat.le_refl _)
                  clear k0 k1 k2 v0 v1
                  go_wp2_with fail
                  go_roundw
                  case rel => exact ⟨q + 1, by omega, by go_num, HT, B5⟩
                  case measure => simp [intOf]; omega
                · go_wp2_with fail
                  refine wp_region_quiet_below (by kernel_rfl) (by kernel_rfl) ?_
                  repeat (first | go_big_quiet_step (fail) | quiet_step (fail))
                  refine wpQuiet_nil ?_
                  intro w5 hw'
                  have b5 := Lib.hid (show Below wr.heap.size wr w5 by obtain ⟨⟨d, os⟩, rfl⟩ := hw'; exact below_regrown _ _ _)
                  clear hw'
                  have B5 := bhid hJ b5 (Nat.le_refl _)
                  clear k0 k1 k2 v0 v1
                  go_wp2_with fail
                  go_roundw
                  case rel => exact ⟨q + 1, by omega, by go_num, HT, B5⟩
                  case measure => simp [intOf]; omega
            · have HF := Lib.hid (show upsFault [] ups = upsFault (ups.take (k + 1)) (ups.drop (k + 1)) by
                have h1 := HS.out
                have h2 := hH.out
                rw [show q = k by omega] at h2
                rw [h2, if_neg (by decide)] at h1
                exact hF.out.trans h1)
              clear HS hF
              go_wp2_with fail
              go_roundw
              case rel => exact ⟨k + 1, by omega, by go_num, HF, BJ, VJ⟩
              case measure => simp [intOf]; omega
        · have hu' : uidFault p ≠ 0 := hu
          rw [if_neg hu'] at HS
          have HE2 := Lib.hid (show EF = uidFault (p.1, p.2) by rw [HE.out, hF.out, HS.out, if_neg hu'])
          have hun : (uidFault (p.1, p.2) != 0) = true := by rw [bne_iff_ne]; exact hu
          clear hu hu' HS hF
          generalize uidFault (p.1, p.2) = f at *
          go_wp2_with fail
          go_ret
          exact ⟨ret_i64 HE2.out.symm, B2.out⟩
      · have HF := Lib.hid (show upsFault [] ups = 0 by rw [hF.out, List.drop_of_length_le (by rw [← HL.out]; omega)]; rfl)
        have HE2 := Lib.hid (show EF = if valFault P = 0 then (if headOp P = 6 then 0 else 2) else valFault P by rw [HE.out, if_pos HF.out])
        clear hF
        go_wp2_with fail
        refine (KV.out wr hB.out).mono ?_
        rintro e w2 ⟨rfl, b2⟩
        have B2 := bh hB b2
        have V2 := Lib.hid (hV.out.keep b2)
        clear hB hV c0 c1 c2 c3 b2
        by_cases hv : valFault P = 0
        · have hpos := (isV_zero.1 hv).2.pos
          obtain ⟨a, rfl, D⟩ := (HN.out.at_.keep B2.out).nd hpos
          rw [show a.add (0 * 4) = a from rfl] at D
          have hop : headOp P = P[0].op := headOp_at hpos
          have hn0 : 0 < nn := by rw [HN.out.len]; exact hpos
          rw [hv]
          rw [if_pos hv, hop] at HE2
          obtain ⟨d0, -, -, -⟩ := D
          obtain ⟨op, ho⟩ : ∃ op, op = P[0].op := ⟨_, rfl⟩
          rw [← ho] at d0 HE2
          have e3 := V2.out.c3
          dsimp only at e3
          clear hv hop ho
          by_cases h6o : op = 6
          · rw [if_pos h6o] at HE2
            subst h6o
            go_wp2_with fail
            go_ret
            exact ⟨ret_i64 HE2.out.symm, B2.out⟩
          · rw [if_neg h6o] at HE2
            have h6i : (op != 6) = true := by simp; exact h6o
            clear h6o
            go_wp2_with fail
            go_ret
            exact ⟨ret_i64 HE2.out.symm, B2.out⟩
        · rw [if_neg hv] at HE2
          have hv0 : (valFault P == 0) = false := by simp; exact hv
          clear hv
          generalize valFault P = f at *
          go_wp2_with fail
          go_ret
          exact ⟨ret_i64 HE2.out.symm, B2.out⟩
theorem ents_ups {L : List En} {M : List En} (h : entsFault M L = 0) : (allUps L).length ≤ 6 * L.length := allUps_len L fun x hx => ((ents_ok L M h).1 x hx).2
open Classical in
/-- Is one above another one. -/
noncomputable def abvB (E : List En) (u t : Ud) : Bool := decide (Abv (graphE E) u t)
theorem abvB_iff {E : List En} {u t : Ud} : abvB E u t = true ↔ Abv (graphE E) u t := by unfold abvB; exact @decide_eq_true_iff _ (_)
theorem ref_OverB (A : Option Addr) (n c : Nat) (E : List En) (u t : Ud) (w : World) (h : Es w A n c E) (hu : UOk u) (ha : (allUps E).length ≤ 900) :
    Calls Tryz.prog 78 #[.slice A n c, udV u, udV t, .int .i64 n] w fun e w' => e = .returned (.bool (abvB E u t)) ∧ Below w.heap.size w w' :=
  (ref_Over A n c E u t w h hu ha).mono fun e w' ⟨⟨b, he, hb⟩, h2⟩ => ⟨by rw [he, show b = abvB E u t from Bool.eq_iff_iff.2 (hb.trans abvB_iff.symm)], h2⟩
set_option maxHeartbeats 4000000 in
theorem ref_StoreFault (A : Option Addr) (n c : Nat) (E : List En) (w : World) (h : Es w A n c E) :
    Calls Tryz.prog 34 #[.slice A n c] w fun e w' => e = .returned (.int .i64 (storeF E)) ∧ Below w.heap.size w w' := by
  have hlen := h.len
  by_cases h16 : 16 < n
  · have HE := Lib.hid (show storeF E = 4 by unfold storeF; rw [if_pos (by omega)])
    rw [HE.out]
    clear hlen h
    go_enter Tryz.func34, Tryz.ntmps34
    go_wp2_with fail
    go_ret
    exact ⟨rfl, Below.refl _ _⟩
  · have HE := Lib.hid (show storeF E = _ by unfold storeF; rw [if_neg (by omega)])
    generalize storeF E = SF at *
    have HH := Lib.hid h
    have HUO := Lib.hid h.uok
    have HL := Lib.hid hlen
    have hd : decide ((16 : Int) < (n : Int)) = false := decide_eq_false (by omega)
    clear hlen h
    go_enter Tryz.func34, Tryz.ntmps34
    go_wp2_with fail
    go_loopw [3, 4, 5] (fun i _ _ wr => ∃ k : Nat, k ≤ n ∧ i = .int .i64 k ∧ Hid (entsFault [] E = entsFault (E.take k) (E.drop k)) ∧ Hid (Below w.heap.size w wr)) (fun i _ _ _ => n - (intOf i).toNat)
    case atStart => exact ⟨0, Nat.zero_le _, rfl, rfl, Lib.hid (Below.refl _ _)⟩
    case round =>
      obtain ⟨k, hk, rfl, hF, hB⟩ := hrel
      by_cases hlt : k < n
      · have hlt' : k < E.length := by rw [← HL.out]; exact hlt
        have HS := Lib.hid (ents_step hlt')
        have HXE := Lib.hid (List.getElem?_eq_getElem hlt')
        obtain ⟨a, rfl, q0, q1, q2, q3, hxo⟩ := (HH.out.at_.keep hB.out) k _ (List.getElem?_eq_getElem hlt')
        have hok := HUO.out _ (List.getElem_mem hlt')
        generalize E[k] = x at *
        have KU := Lib.hid (ref_uidF x.u hok wr)
        have KE := Lib.hid (fun w' hb => ref_entityFault x w' (hxo.keep (w' := w') hb))
        unfold En.v at KE
        have HXO := Lib.hid hxo
        clear hxo hok
        go_wp2_with fail
        refine KU.out.mono ?_
        rintro e w2 ⟨rfl, b2⟩
        have B2 := bh hB b2
        have KE2 := Lib.hid (fun w' (hb : Below w2.heap.size w2 w') => KE.out w' (b2.trans (hb.mono b2.size)))
        clear KU KE b2 hB q0 q1 q2 q3
        by_cases hu : uidFault x.u = 0
        · have hu' : uidFault (x.u.1, x.u.2) = 0 := hu
          rw [if_pos hu] at HS
          rw [hu']
          clear hu hu'
          go_wp2_with fail
          go_loopw [4, 5] (fun e j wj => ∃ q : Nat, q ≤ k ∧ j = .int .i64 q ∧ Hid ((e = .int .i64 0 ∧ hadE (E.take q) x.u = false) ∨ (e = .int .i64 6 ∧ hadE (E.take k) x.u = true)) ∧ Hid (Below w2.heap.size w2 wj)) (fun _ j _ => k - (intOf j).toNat)
          case atStart => exact ⟨0, Nat.zero_le _, rfl, Lib.hid (.inl ⟨rfl, rfl⟩), Below.refl _ _⟩
          case round =>
            obtain ⟨q, hq, rfl, hH, hJ⟩ := hrel
            have BJ := bh B2 hJ.out
            rcases hH.out with ⟨rfl, hN⟩ | ⟨rfl, hY⟩
            · by_cases hlq : q < k
              · have hlq' : q < E.length := by omega
                have HT := Lib.hid (hadE_take hlq' x.u)
                obtain ⟨a', ea, z0, z1, -, -, -⟩ := (HH.out.at_.keep BJ.out) q _ (List.getElem?_eq_getElem hlq')
                injection ea with ea
                subst ea
                obtain ⟨a', ea, r0, r1, -, -, -⟩ := (HH.out.at_.keep BJ.out) k x HXE.out
                injection ea with ea
                subst ea
                have HM := Lib.hid (show E[q].u = x.u → hadE (E.take k) x.u = true from fun e => hadE_iff.2 ⟨E[q], List.mem_take_iff_getElem.2 ⟨q, by omega, rfl⟩, e⟩)
                generalize E[q] = y at *
                have v0 := cell_regrown r0
                have v1 := cell_regrown r1
                by_cases he : y.u = x.u
                · have HM2 := Lib.hid (HM.out he)
                  rw [he] at z0 z1
                  have k0 := cell_regrown z0
                  have k1 := cell_regrown z1
                  clear he z0 z1 r0 r1 HT HM
                  go_wp2_with fail
                  refine wp_region_quiet_below (by kernel_rfl) (by kernel_rfl) ?_
                  repeat (first | go_big_quiet_step (fail) | quiet_step (fail))
                  refine wpQuiet_nil ?_
                  intro w5 hw'
                  have b5 := Lib.hid (show Below wr.heap.size wr w5 by obtain ⟨⟨d, os⟩, rfl⟩ := hw'; exact below_regrown _ _ _)
                  clear hw'
                  have B5 := bhid hJ b5 (Nat.le_refl _)
                  clear k0 k1 v0 v1
                  go_wp2_with fail
                  go_roundw
                  case rel => exact ⟨q + 1, by omega, by go_num, Lib.hid (.inr ⟨rfl, HM2.out⟩), B5⟩
                  case measure => simp [intOf]; omega
                · rw [decide_eq_false he, Bool.or_false, hN] at HT
                  have hne := uid_ne he
                  have k0 := cell_regrown z0
                  have k1 := cell_regrown z1
                  clear he z0 z1 r0 r1 HM
                  rcases hne with h1 | ⟨h1, h2⟩
                  · go_wp2_with fail
                    refine wp_region_quiet_below (by kernel_rfl) (by kernel_rfl) ?_
                    repeat (first | go_big_quiet_step (fail) | quiet_step (fail))
                    refine wpQuiet_nil ?_
                    intro w5 hw'
                    have b5 := Lib.hid (show Below wr.heap.size wr w5 by obtain ⟨⟨d, os⟩, rfl⟩ := hw'; exact below_regrown _ _ _)
                    clear hw'
                    have B5 := bhid hJ b5 (Nat.le_refl _)
                    clear k0 k1 v0 v1
                    go_wp2_with fail
                    go_roundw
                    case rel => exact ⟨q + 1, by omega, by go_num, Lib.hid (.inl ⟨rfl, HT.out⟩), B5⟩
                    case measure => simp [intOf]; omega
                  · go_wp2_with fail
                    refine wp_region_quiet_below (by kernel_rfl) (by kernel_rfl) ?_
                    repeat (first | go_big_quiet_step (fail) | quiet_step (fail))
                    refine wpQuiet_nil ?_
                    intro w5 hw'
                    have b5 := Lib.hid (show Below wr.heap.size wr w5 by obtain ⟨⟨d, os⟩, rfl⟩ := hw'; exact below_regrown _ _ _)
                    clear hw'
                    have B5 := bhid hJ b5 (Nat.le_refl _)
                    clear k0 k1 v0 v1
                    go_wp2_with fail
                    go_roundw
                    case rel => exact ⟨q + 1, by omega, by go_num, Lib.hid (.inl ⟨rfl, HT.out⟩), B5⟩
                    case measure => simp [intOf]; omega
              · rw [show q = k by omega] at hN
                rw [hN, if_neg (by decide)] at HS
                obtain ⟨a', ea, r0, r1, r2, r3, -⟩ := (HH.out.at_.keep BJ.out) k x HXE.out
                injection ea with ea
                subst ea
                have KE3 := Lib.hid (KE2.out wr hJ.out)
                clear hN hH
                go_wp2_with fail
                refine KE3.out.mono ?_
                rintro e w6 ⟨rfl, b6⟩
                have B6 := bh BJ b6
                clear b6 KE3 r0 r1 r2 r3
                by_cases hE : entF x = 0
                · rw [if_pos hE] at HS
                  rw [hE]
                  have HF := Lib.hid (hF.out.trans HS.out)
                  clear HS hE hF
                  go_wp2_with fail
                  go_roundw
                  case rel => exact ⟨k + 1, by omega, by go_num, HF, B6⟩
                  case measure => simp [intOf]; omega
                · rw [if_neg hE] at HS
                  have HE2 := Lib.hid (show SF = entF x by rw [HE.out, hF.out, HS.out, if_neg hE])
                  have h0 : (entF x != 0) = true := by rw [bne_iff_ne]; exact hE
                  clear hE HS hF
                  generalize entF x = f at *
                  go_wp2_with fail
                  go_ret
                  exact ⟨ret_i64 HE2.out.symm, B6.out⟩
            · rw [hY, if_pos rfl] at HS
              have HE2 := Lib.hid (show SF = 6 by rw [HE.out, hF.out, HS.out]; rfl)
              clear hY HS hF hH
              by_cases hlq : q < k
              · go_wp2_with fail
                go_ret
                exact ⟨ret_i64 HE2.out.symm, BJ.out⟩
              · go_wp2_with fail
                go_ret
                exact ⟨ret_i64 HE2.out.symm, BJ.out⟩
        · have hu' : uidFault (x.u.1, x.u.2) ≠ 0 := hu
          rw [if_neg hu] at HS
          have HE2 := Lib.hid (show SF = uidFault (x.u.1, x.u.2) by rw [HE.out, hF.out, HS.out, if_neg hu])
          have h0 : (uidFault (x.u.1, x.u.2) != 0) = true := by rw [bne_iff_ne]; exact hu'
          have h1 : (uidFault (x.u.1, x.u.2) == 0) = false := by simpa using hu'
          clear hu hu' HS hF
          generalize uidFault (x.u.1, x.u.2) = f at *
          go_wp2_with fail
          go_loopw [4, 5] (fun e j wj => e = .int .i64 f ∧ j = .int .i64 0 ∧ wj = w2) (fun _ j _ => k - (intOf j).toNat)
          case atStart => exact ⟨rfl, rfl, rfl⟩
          case round =>
            obtain ⟨rfl, rfl, rfl⟩ := hrel
            rcases Nat.eq_zero_or_pos k with hk0 | hk0
            · subst hk0
              go_wp2_with fail
              go_ret
              exact ⟨ret_i64 HE2.out.symm, B2.out⟩
            · go_wp2_with fail
              go_ret
              exact ⟨ret_i64 HE2.out.symm, B2.out⟩
      · have HF := Lib.hid (show entsFault [] E = 0 by rw [hF.out, List.drop_of_length_le (by rw [← HL.out]; omega)]; rfl)
        have HA := Lib.hid (show (allUps E).length ≤ 900 from by have := ents_ups HF.out; have := HL.out; omega)
        have HE7 := Lib.hid (show (∃ x ∈ E, Abv (graphE E) x.u x.u) → SF = 7 from fun h => by
          have e := HE.out
          rw [if_pos HF.out, if_pos h] at e; exact e)
        have HE0 := Lib.hid (show ¬ (∃ x ∈ E, Abv (graphE E) x.u x.u) → SF = 0 from fun h => by
          have e := HE.out
          rw [if_pos HF.out, if_neg h] at e; exact e)
        obtain ⟨w2, rfl⟩ : ∃ w2 : World, w2 = wr := ⟨_, rfl⟩
        have B2 := hB
        clear hF hB HE
        go_wp2_with fail
        go_loopw [6] (fun i wr => ∃ k : Nat, k ≤ n ∧ i = .int .i64 k ∧ Hid (∀ y ∈ E.take k, ¬ Abv (graphE E) y.u y.u) ∧ Hid (Below w2.heap.size w2 wr)) (fun i _ => n - (intOf i).toNat)
        case atStart => exact ⟨0, Nat.zero_le _, rfl, Lib.hid (fun y hy => by simp at hy), Below.refl _ _⟩
        case round =>
          obtain ⟨k, hk, rfl, hN, hB⟩ := hrel
          have BW := bh B2 hB.out
          by_cases hlt : k < n
          · have hlt' : k < E.length := by rw [← HL.out]; exact hlt
            obtain ⟨a, rfl, q0, q1, -, -, -⟩ := (HH.out.at_.keep BW.out) k _ (List.getElem?_eq_getElem hlt')
            have hok := HUO.out _ (List.getElem_mem hlt')
            have HM := Lib.hid (List.getElem_mem hlt')
            have HTK := Lib.hid (List.take_succ_eq_append_getElem hlt')
            generalize E[k] = x at *
            have hq : ∀ w', Below wr.heap.size wr w' → Below w.heap.size w w' := fun w' hb => BW.out.trans (hb.mono BW.out.size)
            have KO := rq (w := wr) (v := .bool (abvB E x.u x.u)) (fun w' hb => ref_OverB (some a) n c E x.u x.u w' (HH.out.keep (hq w' hb)) hok HA.out)
            unfold udV at KO
            have k0 := cell_regrown q0
            have k1 := cell_regrown q1
            clear hq q0 q1
            go_wp2_with fail
            refine wp_region_quiet_below (by kernel_rfl) (by kernel_rfl) ?_
            repeat (first | go_big_quiet_step (exact KO _ _) | quiet_step (exact KO _ _))
            refine wpQuiet_nil ?_
            intro w6 hw'
            have b6 := Lib.hid (show Below wr.heap.size wr w6 by obtain ⟨⟨d, os⟩, rfl⟩ := hw'; exact below_regrown _ _ _)
            clear hw'
            have B6 := bhid hB b6 (Nat.le_refl _)
            have BW6 := bh BW b6.out
            clear k0 k1 KO
            rcases ho : abvB E x.u x.u with _ | _
            · have HN2 := Lib.hid (show ∀ y ∈ E.take (k + 1), ¬ Abv (graphE E) y.u y.u from fun y hy => by
                rw [HTK.out] at hy
                rcases List.mem_append.1 hy with hy | hy
                · exact hN.out y hy
                · simp only [List.mem_cons, List.not_mem_nil, or_false] at hy
                  subst hy
                  intro h
                  rw [abvB_iff.2 h] at ho; cases ho)
              clear ho
              go_wp2_with fail
              go_roundw
              case rel => exact ⟨k + 1, by omega, by go_num, HN2, B6⟩
              case measure => simp [intOf]; omega
            · have HE2 := Lib.hid (HE7.out ⟨x, HM.out, abvB_iff.1 ho⟩)
              clear ho
              go_wp2_with fail
              go_ret
              exact ⟨ret_i64 HE2.out.symm, BW6.out⟩
          · have HE2 := Lib.hid (HE0.out (fun ⟨y, hy, h⟩ => hN.out y (by rw [List.take_of_length_le (by rw [← HL.out]; omega)]; exact hy) h))
            go_wp2_with fail
            go_ret
            exact ⟨ret_i64 HE2.out.symm, BW.out⟩
end Go.Proofs.YtnolmlhcikcceaaGreatDoor
namespace Go.Proofs.YtnolmlhcikcceaaGreatDoor
open Go.RowKit Go.Wk Go.Maps

/-- What is wrong with entities by a schema's kinds. -/
def fitsF (K : List KD) : List En → Int
  | [] => 0
  | x :: r => or2 (fitF K x.u x.ups x.P) (fitsF K r)
theorem fitsF_step {K : List KD} {E : List En} {i : Nat} (h : i < E.length) : fitsF K (E.drop i) = or2 (fitF K E[i].u E[i].ups E[i].P) (fitsF K (E.drop (i + 1))) := by
  rw [List.drop_eq_getElem_cons h]; rfl
theorem fitsF_zero {K : List KD} : ∀ {E : List En}, fitsF K E = 0 ↔ ∀ x ∈ E, fitF K x.u x.ups x.P = 0
  | [] => by simp [fitsF]
  | x :: r => by
    rw [fitsF, or2_zero_iff, fitsF_zero (E := r)]
    simp
/-- What is wrong with a store by a schema. -/
noncomputable def stoF (K : List KD) (L : List AD) (E : List En) : Int := or2 (schF K L) (or2 (storeF E) (fitsF K E))
theorem stoF_zero {K : List KD} {L : List AD} {E : List En} : stoF K L E = 0 ↔ schF K L = 0 ∧ storeF E = 0 ∧ ∀ x ∈ E, fitF K x.u x.ups x.P = 0 := by
  unfold stoF
  rw [or2_zero_iff, or2_zero_iff, fitsF_zero]
theorem storeF_zero {E : List En} : storeF E = 0 ↔ E.length ≤ 16 ∧ entsFault [] E = 0 ∧ ¬ ∃ x ∈ E, Abv (graphE E) x.u x.u := by
  unfold storeF
  constructor
  · intro h
    split at h
    · cases h
    · rename_i h1
      split at h
      · rename_i h2
        split at h
        · cases h
        · rename_i h3; exact ⟨by omega, h2, h3⟩
      · rename_i h2; exact absurd h h2
  · rintro ⟨h1, h2, h3⟩
    rw [if_neg (by omega), if_pos h2, if_neg h3]
theorem entF_zero {x : En} (h : entF x = 0) : valFault x.P = 0 ∧ headOp x.P = 6 := by
  unfold entF at h
  split at h
  · cases h
  · split at h
    · split at h
      · rename_i h1
        split at h
        · rename_i h2; exact ⟨h1, h2⟩
        · cases h
      · rename_i h1; exact absurd h h1
    · rename_i h1; exact absurd h h1
/-- The record of an entity of a store. -/
theorem ent_rec {E M : List En} (h : entsFault M E = 0) {x : En} (hx : x ∈ E) : valFault x.P = 0 ∧ headOp x.P = 6 := entF_zero ((ents_ok E M h).1 x hx).2
/-- A type in the place of a kind's. -/
def wideK : List KD → Nat → List Nd → List KD
  | [], _, _ => []
  | d :: r, 0, T => ⟨d.nm, d.up, T⟩ :: r
  | d :: r, i + 1, T => d :: wideK r i T
theorem wideK_len : ∀ (K : List KD) (k : Nat) (T : List Nd), (wideK K k T).length = K.length
  | [], _, _ => rfl
  | _ :: _, 0, _ => rfl
  | _ :: r, i + 1, T => by simp only [wideK, List.length_cons, wideK_len r i T]
theorem wideK_kind : ∀ (K : List KD) (k : Nat) (T : List Nd) (s : ByteArray), (kindOf K s = none ∧ kindOf (wideK K k T) s = none) ∨
    ∃ d d', kindOf K s = some d ∧ kindOf (wideK K k T) s = some d' ∧ d'.up = d.up ∧ (d' = d ∨ (K[k]? = some d ∧ d'.P = T))
  | [], _, _, _ => .inl ⟨rfl, rfl⟩
  | d :: r, 0, T, s => by
    by_cases h : d.nm = s
    · exact .inr ⟨d, ⟨d.nm, d.up, T⟩, by simp [kindOf, h], by simp [kindOf, wideK, h], rfl, .inr ⟨rfl, rfl⟩⟩
    · rcases hk : kindOf r s with _ | d'
      · left
        unfold kindOf at hk ⊢
        simp [wideK, h, hk]
      · right
        refine ⟨d', d', ?_, ?_, rfl, .inl rfl⟩ <;> (unfold kindOf at hk ⊢; simp [wideK, h, hk])
  | d :: r, i + 1, T, s => by
    by_cases h : d.nm = s
    · exact .inr ⟨d, d, by simp [kindOf, h], by simp [kindOf, wideK, h], rfl, .inl rfl⟩
    · have e1 : kindOf (d :: r) s = kindOf r s := by simp [kindOf, h]
      have e2 : kindOf (wideK (d :: r) (i + 1) T) s = kindOf (wideK r i T) s := by simp [kindOf, wideK, h]
      rw [e1, e2, List.getElem?_cons_succ]
      exact wideK_kind r i T s
theorem wideK_kds {T : List Nd} (hT : recF T = 0) : ∀ (K : List KD) (k : Nat) (N : List ByteArray), kdsF N K = 0 → kdsF N (wideK K k T) = 0
  | [], _, _, h => h
  | d :: r, 0, N, h => by
    simp only [kdsF, or2_zero_iff, kdF, wideK] at h ⊢
    exact ⟨⟨h.1.1, h.1.2.1, h.1.2.2.1, h.1.2.2.2.1, hT⟩, h.2⟩
  | d :: r, i + 1, N, h => by
    simp only [kdsF, or2_zero_iff, wideK] at h ⊢
    exact ⟨h.1, wideK_kds hT r i _ h.2⟩
/-- Who may be more is still what it was. -/
theorem wider_law {K : List KD} {L : List AD} {E : List En} {k : Nat} {d : KD} {T : List Nd} (h : stoF K L E = 0) (hk : K[k]? = some d) (hb : bothF d.P T = 0) (hB : belB d.P T = true) :
    (schF (wideK K k T) L = 0 → stoF (wideK K k T) L E = 0) ∧ (schF (wideK K k T) L ≠ 0 → headOp T ≠ 46) := by
  obtain ⟨h1, h2, h3⟩ := stoF_zero.1 h
  constructor
  · intro hs
    refine stoF_zero.2 ⟨hs, h2, fun x hx => ?_⟩
    have h4 := h3 x hx
    have hv : valFault x.P = 0 := (ent_rec (storeF_zero.1 h2).2.1 hx).1
    unfold fitF at h4 ⊢
    rcases wideK_kind K k T x.u.1 with ⟨e1, e2⟩ | ⟨a, b, e1, e2, e3, e4⟩
    · rw [e1] at h4; cases h4
    · rw [e1] at h4
      rw [e2]
      dsimp only at h4 ⊢
      split at h4
      · rename_i hc
        rw [Bool.and_eq_true] at hc
        refine if_pos ?_
        rw [Bool.and_eq_true, e3]
        refine ⟨hc.1, ?_⟩
        rcases e4 with rfl | ⟨e4, e5⟩
        · exact hc.2
        · rw [hk] at e4
          injection e4 with e4
          subst e4
          rw [e5]
          exact (fits_law hb (has_zero.2 ⟨(both_zero.1 hb).1, hv⟩) hB hc.2).2
      · cases h4
  · intro hs h46
    refine hs (schF_zero.2 ?_)
    obtain ⟨a1, a2, a3, a4⟩ := schF_zero.1 h1
    refine ⟨by rw [wideK_len]; exact a1, a2, wideK_kds ?_ K k [] a3, a4⟩
    unfold recF
    rw [or2_zero_iff]
    exact ⟨(both_zero.1 hb).2, if_pos h46⟩
end Go.Proofs.YtnolmlhcikcceaaGreatDoor
namespace Go.Proofs.YtnolmlhcikcceaaGreatDoor
open Go.RowKit Go.Wk Go.Sort
set_option maxRecDepth 100000

/-- The index of a kind of a name; below 0: there is none. -/
def koI (s : Sc) (x : ByteArray) : Int := match s.K.findIdx? (fun y => decide (y.d.nm = x)) with
  | some i => (i : Int)
  | none => -1
theorem koI_at {s : Sc} {x : ByteArray} {i : Nat} (h : i < s.K.length) (hs : s.K[i].d.nm = x) (hn : ∀ y ∈ s.K.take i, y.d.nm ≠ x) : koI s x = (i : Int) := by
  unfold koI
  rw [List.findIdx?_eq_some_iff_getElem.2 ⟨h, by simp [hs], fun j hj => by
    simpa using hn s.K[j] (List.mem_take_iff_getElem.2 ⟨j, by omega, rfl⟩)⟩]
theorem koI_none {s : Sc} {x : ByteArray} (hn : ∀ y ∈ s.K, y.d.nm ≠ x) : koI s x = -1 := by
  unfold koI
  rw [List.findIdx?_eq_none_iff.2 (fun y hy => by simpa using hn y hy)]
theorem koI_ways (s : Sc) (x : ByteArray) : (kindOf s.k x = none ∧ koI s x = -1) ∨ ∃ i, ∃ h : i < s.K.length, kindOf s.k x = some s.K[i].d ∧ koI s x = (i : Int) := by
  unfold koI
  rcases hf : s.K.findIdx? (fun y => decide (y.d.nm = x)) with _ | i
  · left
    refine ⟨?_, by rw [hf]⟩
    unfold kindOf Sc.k
    rw [List.find?_eq_none]
    intro y hy
    obtain ⟨z, hz, rfl⟩ := List.mem_map.1 hy
    have := List.findIdx?_eq_none_iff.1 hf z hz
    simpa using this
  · right
    obtain ⟨h, hp, hn⟩ := List.findIdx?_eq_some_iff_getElem.1 hf
    refine ⟨i, h, ?_, by rw [hf]⟩
    unfold kindOf Sc.k
    rw [List.find?_map]
    rw [find_at_first (i := i) h (by simpa using hp) (fun y hy => by
      obtain ⟨j, hj, rfl⟩ := List.mem_take_iff_getElem.1 hy
      simpa using hn j (by omega))]
    rfl
set_option maxHeartbeats 2000000 in
theorem ref_KindOfI (s : Sc) (x : ByteArray) (w : World) (h : ScOk w s) :
    Calls Tryz.prog 35 #[s.v, .string x] w fun e w' => e = .returned (.int .i64 (koI s x)) ∧ Below w.heap.size w w' := by
  have HKL2 := Lib.hid h.k.len
  have HKS := Lib.hid h.k
  have hkx := h.k.max
  unfold maxLen at hkx
  have V0 := Lib.hid (vs_new w s 25)
  have B0 := Lib.hid (below_box w (.cells #[.slice s.KA s.kn s.kc, .slice s.AA s.an s.ac] 25))
  have HV := Lib.hid (show s.v = .agg #[.slice s.KA s.kn s.kc, .slice s.AA s.an s.ac] from rfl)
  rw [HV.out]
  clear h
  go_enter Tryz.func35, Tryz.ntmps35
  go_wp2_with fail
  go_loopw [5] (fun i wr => ∃ k : Nat, i = .int .i64 k ∧ k ≤ s.kn ∧ Hid (∀ y ∈ s.K.take k, y.d.nm ≠ x) ∧ Hid (Below w.heap.size w wr) ∧ Hid (Vs wr w.heap.size s)) (fun i _ => s.kn - (intOf i).toNat)
  case atStart => exact ⟨0, rfl, Nat.zero_le _, Lib.hid (by intro y hy; simp at hy), B0, V0⟩
  case round =>
    obtain ⟨k, rfl, hk, hN, hB, hV⟩ := hrel
    obtain ⟨v0, v1⟩ := hV.out
    clear B0 V0
    by_cases hlt : k < s.kn
    · have hkl : k < s.K.length := by rw [← HKL2.out]; exact hlt
      obtain ⟨a, ea, q0, -, -, -⟩ := (HKS.out.keep hB.out).at_ k _ (List.getElem?_eq_getElem hkl)
      rw [ea] at v0
      by_cases hs : s.K[k].d.nm = x
      · have HP := Lib.hid (koI_at hkl hs hN.out)
        rw [hs] at q0
        clear hN hV hs
        go_wp2_with fail
        go_ret
        exact ⟨by rw [HP.out]; rfl, hB.out⟩
      · have HN2 := Lib.hid (show ∀ y ∈ s.K.take (k + 1), y.d.nm ≠ x from fun y hy => by
          rw [List.take_succ_eq_append_getElem hkl, List.mem_append] at hy
          rcases hy with hy | hy
          · exact hN.out y hy
          · simp only [List.mem_cons, List.not_mem_nil, or_false] at hy
            subst hy; exact hs)
        have f6 : (s.K[k].d.nm.toList == x.toList) = false := beq_eq_false_iff_ne.2 (fun q => hs (toList_inj q))
        generalize s.K[k] = z at *
        clear hN hs
        go_wp2_with fail
        go_roundw
        case rel => exact ⟨k + 1, by go_num, hlt, HN2, hB, hV⟩
        case measure => simp [intOf]; omega
    · have HP := Lib.hid (koI_none (s := s) (x := x) (fun y hy => hN.out y (by rw [List.take_of_length_le (by rw [← HKL2.out]; omega)]; exact hy)))
      clear hN hV
      go_wp2_with fail
      go_ret
      exact ⟨by rw [HP.out]; rfl, hB.out⟩
theorem all_take_step {P : List Ud} {q : Nat} (h : q < P.length) (g : Ud → Bool) (h1 : (P.take q).all g = true) (h2 : g P[q] = true) : (P.take (q + 1)).all g = true := by
  rw [List.take_succ_eq_append_getElem h, List.all_append, h1]
  simp [h2]
theorem all_not {P : List Ud} {q : Nat} (h : q < P.length) (g : Ud → Bool) (h2 : g P[q] = false) : P.all g = false := by
  rw [List.all_eq_false]
  exact ⟨P[q], List.getElem_mem h, by rw [h2]; simp⟩
set_option maxHeartbeats 8000000 in
theorem ref_StoreFits (s : Sc) (A : Option Addr) (n c : Nat) (E : List En) (w : World) (h : ScOk w s) (hE : Es w A n c E) :
    Calls Tryz.prog 13 #[s.v, .slice A n c] w fun e w' => e = .returned (.int .i64 (stoF s.k s.a E)) ∧ Below w.heap.size w w' := by
  have V0 := Lib.hid (vs_new w s 25)
  have B0 := Lib.hid (below_box w (.cells #[.slice s.KA s.kn s.kc, .slice s.AA s.an s.ac] 25))
  have HV := Lib.hid (show s.v = .agg #[.slice s.KA s.kn s.kc, .slice s.AA s.an s.ac] from rfl)
  have C1 := Lib.hid (fun w' (hb : Below w.heap.size w w') => ref_SchemaFault s w' (h.keep hb))
  have C2 := Lib.hid (fun w' (hb : Below w.heap.size w w') => ref_StoreFault A n c E w' (hE.keep hb))
  have C3 := Lib.hid (fun x w' (hb : Below w.heap.size w w') => ref_KindOfI s x w' (h.keep hb))
  have CK := Lib.hid (fun i (hi : i < s.K.length) w' (hb : Below w.heap.size w w') => (h.keep hb).k.at_ i _ (List.getElem?_eq_getElem hi))
  have CE := Lib.hid (fun i (hi : i < E.length) w' (hb : Below w.heap.size w w') => (hE.keep hb).at_ i _ (List.getElem?_eq_getElem hi))
  have HL := Lib.hid hE.len
  have HKL := Lib.hid h.k.len
  have hnx := hE.max
  have hkx := h.k.max
  unfold maxLen at hnx hkx
  rw [HV.out] at C1 C3 ⊢
  have HR := Lib.hid (show stoF s.k s.a E = or2 (schF s.k s.a) (or2 (storeF E) (fitsF s.k E)) from rfl)
  generalize stoF s.k s.a E = F at *
  clear h hE
  go_enter Tryz.func13, Tryz.ntmps13
  go_wp2_with fail
  refine (C1.out _ B0.out).mono ?_
  rintro e w1 ⟨rfl, b1⟩
  have B1 := bh B0 b1
  have V1 := Lib.hid (V0.out.keep b1)
  clear b1 B0 V0
  by_cases g1 : schF s.k s.a = 0
  · rw [g1, or2_zero] at HR
    rw [g1]
    have HKA := Lib.hid (fun i (hi : i < s.K.length) => recF_zero (kdsF_all _ _ (schF_zero.1 g1).2.2.1 _ (List.mem_map.2 ⟨s.K[i], List.getElem_mem hi, rfl⟩)).1)
    clear g1
    go_wp2_with fail
    refine (C2.out _ B1.out).mono ?_
    rintro e w2 ⟨rfl, b2⟩
    have B2 := bh B1 b2
    have V2 := Lib.hid (V1.out.keep b2)
    clear b2 B1 V1
    by_cases g2 : storeF E = 0
    · rw [g2, or2_zero] at HR
      rw [g2]
      have HEV := Lib.hid (show ∀ i (hi : i < E.length), valFault E[i].P = 0 from fun i hi => (ent_rec (storeF_zero.1 g2).2.1 (List.getElem_mem hi)).1)
      clear g2 C1 C2
      go_wp2_with fail
      go_loopw [6, 8] (fun i _ wr => ∃ k : Nat, i = .int .i64 k ∧ k ≤ n ∧ Hid (F = fitsF s.k (E.drop k)) ∧ Hid (Below w.heap.size w wr) ∧ Hid (Vs wr w.heap.size s)) (fun i _ _ => n - (intOf i).toNat)
      case atStart => exact ⟨0, rfl, Nat.zero_le _, HR, B2, V2⟩
      case round =>
        obtain ⟨k, rfl, hk, hF, hB, hV⟩ := hrel
        clear B2 V2 HR
        by_cases hlt : k < n
        · have hkl : k < E.length := by rw [← HL.out]; exact hlt
          have HS := Lib.hid (hF.out.trans (fitsF_step hkl))
          have CX := Lib.hid (fun w' (hb : Below w.heap.size w w') => CE.out k hkl w' hb)
          have HXV := Lib.hid (HEV.out k hkl)
          generalize E[k] = x at *
          obtain ⟨a, rfl, q0, q1, q2, q3, hx⟩ := CX.out wr hB.out
          clear hF
          obtain ⟨v0, v1⟩ := hV.out
          have R1 := rq (w := wr) (fun w' hb => C3.out x.u.1 w' (hB.out.trans (hb.mono hB.out.size)))
          have k0 := cell_regrown v0
          have k1 := cell_regrown v1
          have k2 := cell_regrown q0
          have HW := koI_ways s x.u.1
          generalize koI s x.u.1 = ki at *
          go_wp2_with fail
          refine wp_region_quiet_below (by kernel_rfl) (by kernel_rfl) ?_
          repeat (first | go_big_quiet_step (exact R1 _ _) | quiet_step (exact R1 _ _))
          refine wpQuiet_nil ?_
          intro w3 hw'
          have B4 := Lib.hid (show Below wr.heap.size wr w3 by obtain ⟨⟨d, os⟩, rfl⟩ := hw'; exact below_regrown _ _ _)
          clear hw'
          have B3 := bh hB B4.out
          have V3 := Lib.hid (hV.out.keep B4.out)
          clear B4 hB hV q0 q1 q2 q3 hx v0 v1 k0 k1 k2 R1
          rcases HW with ⟨ha, rfl⟩ | ⟨i, hi, ha, rfl⟩
          · have HR2 := Lib.hid (show F = 3 by rw [HS.out]; unfold fitF; rw [ha]; rfl)
            go_wp2_with fail
            go_ret
            exact ⟨by rw [HR2.out]; rfl, B3.out⟩
          · have HIN : i < s.kn := by rw [HKL.out]; exact hi
            obtain ⟨f, hkin⟩ := HKA.out i hi
            have HKIN := Lib.hid hkin
            have CD := Lib.hid (fun w' (hb : Below w.heap.size w w') => CK.out i hi w' hb)
            have HS2 := Lib.hid (show F = or2 (if (x.ups.all fun p => hadB s.K[i].d.up p.1) && kHasB s.K[i].d.P x.P then 0 else 2) (fitsF s.k (E.drop (k + 1))) by rw [HS.out]; unfold fitF; rw [ha])
            generalize s.K[i] = d at *
            have f0 : decide ((i : Int) < 0) = false := decide_eq_false (by omega)
            clear ha hkin HS hi
            go_wp2_with fail
            go_loopw [8] (fun p wr => ∃ q : Nat, p = .int .i64 q ∧ q ≤ x.un ∧ Hid ((x.ups.take q).all (fun p => hadB d.d.up p.1) = true) ∧ Hid (Below w.heap.size w wr) ∧ Hid (Vs wr w.heap.size s)) (fun p _ => x.un - (intOf p).toNat)
            case atStart => exact ⟨0, rfl, Nat.zero_le _, Lib.hid rfl, B3, V3⟩
            case round =>
              obtain ⟨q, rfl, hq, hA, hB, hV⟩ := hrel
              clear B3 V3
              obtain ⟨a1, ea, q0, q1, q2, q3, hx⟩ := CX.out wr hB.out
              injection ea with ea
              subst ea
              obtain ⟨b, eb, d0, d1, d2, hd⟩ := CD.out wr hB.out
              obtain ⟨v0, v1⟩ := hV.out
              rw [eb] at v0
              have hxm := hx.us.max
              unfold maxLen at hxm
              by_cases hlq : q < x.un
              · have hql : q < x.ups.length := by rw [← hx.us.len]; exact hlq
                obtain ⟨ua, eu, r0, r1⟩ := hx.us.at_ q _ (List.getElem?_eq_getElem hql)
                rw [eu] at q2
                have HA2 := Lib.hid (all_take_step hql (fun p => hadB d.d.up p.1) hA.out)
                have HA3 := Lib.hid (all_not hql (fun p => hadB d.d.up p.1))
                try dsimp only at HA2 HA3
                generalize x.ups[q] = y at *
                have P1 : ∀ w', Below wr.heap.size wr w' → Calls Tryz.prog 36 #[.string y.1, .slice d.UA d.un d.uc] w' fun e w'' => e = .returned (.bool (hadB d.d.up y.1)) ∧ Below w'.heap.size w' w'' := fun w' hb => ref_amongB _ _ _ _ _ w' (hd.us.keep hb)
                have R1 := rq (w := wr) P1
                have k0 := cell_regrown v0
                have k1 := cell_regrown q2
                have k2 := cell_regrown r0
                have k3 := cell_regrown d1
                generalize hadB d.d.up y.1 = g at *
                clear P1 hd hx q0 q1 q3 d0 d2 v1
                cases g
                · have HR2 := Lib.hid (show F = 2 by rw [HS2.out, HA3.out rfl]; rfl)
                  clear HA2 HA3 HS2
                  go_wp2_with fail
                  refine wp_region_quiet_below (by kernel_rfl) (by kernel_rfl) ?_
                  repeat (first | go_big_quiet_step (exact R1 _ _) | quiet_step (exact R1 _ _))
                  refine wpQuiet_nil ?_
                  intro w4 hw'
                  have B4 := Lib.hid (show Below wr.heap.size wr w4 by obtain ⟨⟨d, os⟩, rfl⟩ := hw'; exact below_regrown _ _ _)
                  clear hw'
                  go_wp2_with fail
                  go_ret
                  exact ⟨by rw [HR2.out]; rfl, (bh hB B4.out).out⟩
                · have HA := Lib.hid (HA2.out rfl)
                  clear HA2 HA3
                  go_wp2_with fail
                  refine wp_region_quiet_below (by kernel_rfl) (by kernel_rfl) ?_
                  repeat (first | go_big_quiet_step (exact R1 _ _) | quiet_step (exact R1 _ _))
                  refine wpQuiet_nil ?_
                  intro w4 hw'
                  have B4 := Lib.hid (show Below wr.heap.size wr w4 by obtain ⟨⟨d, os⟩, rfl⟩ := hw'; exact below_regrown _ _ _)
                  clear hw'
                  have V4 := Lib.hid (hV.out.keep B4.out)
                  have B5 := bh hB B4.out
                  clear k0 k1 k2 k3 v0 q2 r0 r1 d1 hB hV R1 B4
                  go_wp2_with fail
                  go_roundw
                  case rel => exact ⟨q + 1, by go_num, hlq, HA, B5, V4⟩
                  case measure => simp [intOf]; omega
              · have HA2 := Lib.hid (show x.ups.all (fun p => hadB d.d.up p.1) = true by
                  have := hA.out
                  rwa [List.take_of_length_le (by rw [← hx.us.len]; omega)] at this)
                have P1 : ∀ w', Below wr.heap.size wr w' → Calls Tryz.prog 37 #[.slice d.NA d.nn d.nc, .slice x.NA x.nn x.nc] w' fun e w'' => e = .returned (.bool (kHasB d.d.P x.P)) ∧ Below w'.heap.size w' w'' := fun w' hb => ref_HasKB HKIN.out HXV.out (hd.ns.keep hb) (hx.ns.keep hb)
                have R1 := rq (w := wr) P1
                have k0 := cell_regrown v0
                have k1 := cell_regrown q3
                have k3 := cell_regrown d2
                rw [HA2.out, Bool.true_and] at HS2
                generalize kHasB d.d.P x.P = g at *
                clear P1 hd hx q0 q1 d0 d1 v1 hA HA2
                cases g
                · have HR2 := Lib.hid (show F = 2 by rw [HS2.out]; rfl)
                  clear HS2
                  go_wp2_with fail
                  refine wp_region_quiet_below (by kernel_rfl) (by kernel_rfl) ?_
                  repeat (first | go_big_quiet_step (exact R1 _ _) | quiet_step (exact R1 _ _))
                  refine wpQuiet_nil ?_
                  intro w4 hw'
                  have B4 := Lib.hid (show Below wr.heap.size wr w4 by obtain ⟨⟨d, os⟩, rfl⟩ := hw'; exact below_regrown _ _ _)
                  clear hw'
                  go_wp2_with fail
                  go_ret
                  exact ⟨by rw [HR2.out]; rfl, (bh hB B4.out).out⟩
                · have HF := Lib.hid (show F = fitsF s.k (E.drop (k + 1)) by rw [HS2.out]; rfl)
                  clear HS2
                  go_wp2_with fail
                  refine wp_region_quiet_below (by kernel_rfl) (by kernel_rfl) ?_
                  repeat (first | go_big_quiet_step (exact R1 _ _) | quiet_step (exact R1 _ _))
                  refine wpQuiet_nil ?_
                  intro w4 hw'
                  have B4 := Lib.hid (show Below wr.heap.size wr w4 by obtain ⟨⟨d, os⟩, rfl⟩ := hw'; exact below_regrown _ _ _)
                  clear hw'
                  have V4 := Lib.hid (hV.out.keep B4.out)
                  have B5 := bh hB B4.out
                  clear k0 k1 k3 v0 q2 q3 d2 hB hV R1 B4
                  go_wp2_with fail
                  go_roundw
                  case rel => exact ⟨k + 1, by go_num, hlt, HF, B5, V4⟩
                  case measure => simp [intOf]; omega
        · have HR2 := Lib.hid (show F = 0 by rw [hF.out, List.drop_eq_nil_of_le (by rw [← HL.out]; omega)]; rfl)
          clear hF
          go_wp2_with fail
          go_ret
          exact ⟨by rw [HR2.out]; rfl, hB.out⟩
    · rw [or2_ne g2] at HR
      have f1 : (storeF E == 0) = false := beq_eq_false_iff_ne.2 g2
      generalize storeF E = r at *
      clear g2
      go_wp2_with fail
      go_loopw [6, 8] (fun i _ wr => i = .int .i64 0 ∧ Hid (Below w.heap.size w wr)) (fun _ _ _ => 0)
      case atStart => exact ⟨rfl, B2⟩
      case round =>
        obtain ⟨rfl, hB⟩ := hrel
        by_cases hn : (0 : Int) < (n : Int)
        · go_wp2_with fail
          go_ret
          exact ⟨by rw [HR.out]; rfl, hB.out⟩
        · go_wp2_with fail
          go_ret
          exact ⟨by rw [HR.out]; rfl, hB.out⟩
  · rw [or2_ne g1] at HR
    have f1 : (schF s.k s.a == 0) = false := beq_eq_false_iff_ne.2 g1
    generalize schF s.k s.a = r at *
    clear g1
    go_wp2_with fail
    go_loopw [6, 8] (fun i _ wr => i = .int .i64 0 ∧ Hid (Below w.heap.size w wr)) (fun _ _ _ => 0)
    case atStart => exact ⟨rfl, B1⟩
    case round =>
      obtain ⟨rfl, hB⟩ := hrel
      by_cases hn : (0 : Int) < (n : Int)
      · go_wp2_with fail
        go_ret
        exact ⟨by rw [HR.out]; rfl, hB.out⟩
      · go_wp2_with fail
        go_ret
        exact ⟨by rw [HR.out]; rfl, hB.out⟩
end Go.Proofs.YtnolmlhcikcceaaGreatDoor
namespace Go.Proofs.YtnolmlhcikcceaaGreatDoor
open Go.RowKit Go.Wk Go.Sort
set_option maxRecDepth 100000

set_option maxHeartbeats 8000000 in
theorem schema_Store (s : Sc) (A : Option Addr) (n c : Nat) (E : List En) (w : World) (h : ScOk w s) (hE : Es w A n c E) :
    Calls Tryz.prog 9 #[s.v, .slice A n c] w fun e w' => e = .returned (errV (stoF s.k s.a E)) ∧ Below w.heap.size w w' := by
  have V0 := Lib.hid (vs_new w s 25)
  have B0 := Lib.hid (below_box w (.cells #[.slice s.KA s.kn s.kc, .slice s.AA s.an s.ac] 25))
  have HV := Lib.hid (show s.v = .agg #[.slice s.KA s.kn s.kc, .slice s.AA s.an s.ac] from rfl)
  have C1 := Lib.hid (fun w' (hb : Below w.heap.size w w') => schema_Check s w' (h.keep hb))
  have C2 := Lib.hid (fun w' (hb : Below w.heap.size w w') => ent_Check A n c E w' (hE.keep hb))
  have C3 := Lib.hid (fun x w' (hb : Below w.heap.size w w') => schema_Kind s x w' (h.keep hb))
  have CK := Lib.hid (fun i (hi : i < s.K.length) w' (hb : Below w.heap.size w w') => (let ⟨_, _, _, _, _, h⟩ := (h.keep hb).k.at_ i _ (List.getElem?_eq_getElem hi); h : KnOk w' s.K[i]))
  have CE := Lib.hid (fun i (hi : i < E.length) w' (hb : Below w.heap.size w w') => (hE.keep hb).at_ i _ (List.getElem?_eq_getElem hi))
  have HL := Lib.hid hE.len
  have hnx := hE.max
  unfold maxLen at hnx
  rw [HV.out] at C1 C3 ⊢
  have HR := Lib.hid (show stoF s.k s.a E = or2 (schF s.k s.a) (or2 (storeF E) (fitsF s.k E)) from rfl)
  generalize stoF s.k s.a E = F at *
  clear h hE
  go_enter Tryz.func9, Tryz.ntmps9
  go_wp2_with fail
  refine (C1.out _ B0.out).mono ?_
  rintro e w1 ⟨rfl, b1⟩
  have B1 := bh B0 b1
  have V1 := Lib.hid (V0.out.keep b1)
  clear b1 B0 V0
  by_cases g1 : schF s.k s.a = 0
  · rw [g1, or2_zero] at HR
    rw [g1, errV_zero]
    have HKA := Lib.hid (fun i (hi : i < s.K.length) => recF_zero (kdsF_all _ _ (schF_zero.1 g1).2.2.1 _ (List.mem_map.2 ⟨s.K[i], List.getElem_mem hi, rfl⟩)).1)
    clear g1
    go_wp2_with fail
    refine (C2.out _ B1.out).mono ?_
    rintro e w2 ⟨rfl, b2⟩
    have B2 := bh B1 b2
    have V2 := Lib.hid (V1.out.keep b2)
    clear b2 B1 V1
    by_cases g2 : storeF E = 0
    · rw [g2, or2_zero] at HR
      rw [g2, errV_zero]
      have HEV := Lib.hid (show ∀ i (hi : i < E.length), valFault E[i].P = 0 from fun i hi => (ent_rec (storeF_zero.1 g2).2.1 (List.getElem_mem hi)).1)
      clear g2 C1 C2
      go_wp2_with fail
      go_loopw [27] (fun i wr => ∃ k : Nat, i = .int .i64 k ∧ k ≤ n ∧ Hid (F = fitsF s.k (E.drop k)) ∧ Hid (Below w.heap.size w wr) ∧ Hid (Vs wr w.heap.size s)) (fun i _ => n - (intOf i).toNat)
      case atStart => exact ⟨0, rfl, Nat.zero_le _, HR, B2, V2⟩
      case round =>
        obtain ⟨k, rfl, hk, hF, hB, hV⟩ := hrel
        clear B2 V2 HR
        by_cases hlt : k < n
        · have hkl : k < E.length := by rw [← HL.out]; exact hlt
          have HS := Lib.hid (hF.out.trans (fitsF_step hkl))
          have CX := Lib.hid (fun w' (hb : Below w.heap.size w w') => CE.out k hkl w' hb)
          have HXV := Lib.hid (HEV.out k hkl)
          generalize E[k] = x at *
          have HOK := Lib.hid (fun w' (hb : Below w.heap.size w w') => (let ⟨_, _, _, _, _, _, h⟩ := CX.out w' hb; h : EnOk w' x))
          obtain ⟨a, rfl, q0, q1, q2, q3, -⟩ := CX.out wr hB.out
          clear hF
          obtain ⟨v0, v1⟩ := hV.out
          have HLT := block_lt_of_cell v0
          have BB := below_box wr (.cells #[.string x.u.1, .string x.u.2, .slice x.UA x.un x.uc, .slice x.NA x.nn x.nc] 38)
          have B3 := bh hB BB
          have V3 := Lib.hid (hV.out.keep BB)
          have X3 := Lib.hid (vr4_new wr x 38)
          clear BB
          go_wp2_with fail
          refine (C3.out x.u.1 _ B3.out).mono ?_
          rintro e w4 ⟨hc, b4⟩
          have B4 := bh B3 b4
          have V4 := Lib.hid (V3.out.keep b4)
          have X4 := Lib.hid (X3.out.keep b4)
          clear b4 hB hV q0 q1 q2 q3 v0 v1 B3 V3 X3 HLT
          generalize wr.heap.size = be at *
          rcases hc with ⟨ha, rfl⟩ | ⟨i, hi, ha, rfl⟩
          · have HR2 := Lib.hid (show F = 3 by rw [HS.out]; unfold fitF; rw [ha]; rfl)
            clear ha HS
            go_wp2_with fail
            go_ret
            exact ⟨by rw [HR2.out]; rfl, (bh B4 (below_box _ _)).out⟩
          · obtain ⟨f, hkin⟩ := HKA.out i hi
            have HKIN := Lib.hid hkin
            have CD := Lib.hid (fun w' (hb : Below w.heap.size w w') => CK.out i hi w' hb)
            have HS2 := Lib.hid (show F = or2 (if (x.ups.all fun p => hadB s.K[i].d.up p.1) && kHasB s.K[i].d.P x.P then 0 else 2) (fitsF s.k (E.drop (k + 1))) by rw [HS.out]; unfold fitF; rw [ha])
            generalize s.K[i] = d at *
            clear ha hkin HS hi
            have BB := below_box w4 (.cells #[.string d.d.nm, .slice d.UA d.un d.uc, .slice d.NA d.nn d.nc] 44)
            have B5 := bh B4 BB
            have V5 := Lib.hid (V4.out.keep BB)
            have X5 := Lib.hid (X4.out.keep BB)
            have D5 := Lib.hid (vk_new w4 d 44)
            obtain ⟨x0, x1, x2, x3⟩ := X4.out
            have HLT := block_lt_of_cell x0
            clear BB
            go_wp2_with fail
            obtain ⟨w5, hw5⟩ : ∃ w5, w4.alloc (.cells #[.string d.d.nm, .slice d.UA d.un d.uc, .slice d.NA d.nn d.nc] 44) = w5 := ⟨_, rfl⟩
            rw [hw5] at B5 V5 X5 D5 ⊢
            clear hw5 B4 V4 X4 x0 x1 x2 x3 HLT
            generalize w4.heap.size = bk at *
            go_loopw [45] (fun p wr => ∃ q : Nat, p = .int .i64 q ∧ q ≤ x.un ∧ Hid ((x.ups.take q).all (fun p => hadB d.d.up p.1) = true) ∧ Hid (Below w.heap.size w wr) ∧ Hid (Vs wr w.heap.size s) ∧ Hid (Vr4 wr be x) ∧ Hid (Vk wr bk d)) (fun p _ => x.un - (intOf p).toNat)
            case atStart => exact ⟨0, rfl, Nat.zero_le _, Lib.hid rfl, B5, V5, X5, D5⟩
            case round =>
              obtain ⟨q, rfl, hq, hA, hB, hV, hX, hD⟩ := hrel
              clear B5 V5 X5 D5
              have hx := HOK.out wr hB.out
              have hd := CD.out wr hB.out
              have hxm := hx.us.max
              unfold maxLen at hxm
              obtain ⟨x0, x1, x2, x3⟩ := hX.out
              obtain ⟨d0, d1, d2⟩ := hD.out
              by_cases hlq : q < x.un
              · have hql : q < x.ups.length := by rw [← hx.us.len]; exact hlq
                obtain ⟨ua, eu, r0, r1⟩ := hx.us.at_ q _ (List.getElem?_eq_getElem hql)
                rw [eu]
                have HA2 := Lib.hid (all_take_step hql (fun p => hadB d.d.up p.1) hA.out)
                have HA3 := Lib.hid (all_not hql (fun p => hadB d.d.up p.1))
                try dsimp only at HA2 HA3
                generalize x.ups[q] = y at *
                have BB := below_box wr (.cells #[.string y.1, .string y.2] 33)
                have B6 := bh hB BB
                have V6 := Lib.hid (hV.out.keep BB)
                have X6 := Lib.hid (hX.out.keep BB)
                have D6 := Lib.hid (hD.out.keep BB)
                have HLT := block_lt_of_cell d0
                clear BB
                go_wp2_with fail
                refine (strs_Contains _ _ _ _ y.1 _ (CD.out _ B6.out).us).mono ?_
                rintro e w7 ⟨rfl, b7⟩
                have B7 := bh B6 b7
                have V7 := Lib.hid (V6.out.keep b7)
                have X7 := Lib.hid (X6.out.keep b7)
                have D7 := Lib.hid (D6.out.keep b7)
                clear b7 B6 V6 X6 D6 hB hV hX hD x0 x1 x2 x3 d0 d1 d2 r0 r1 hx hd
                generalize hadB d.d.up y.1 = g at *
                cases g
                · have HR2 := Lib.hid (show F = 2 by rw [HS2.out, HA3.out rfl]; rfl)
                  clear HA2 HA3 HS2
                  go_wp2_with fail
                  go_ret
                  exact ⟨by rw [HR2.out]; rfl, B7.out⟩
                · have HA := Lib.hid (HA2.out rfl)
                  clear HA2 HA3
                  go_wp2_with fail
                  go_roundw
                  case rel => exact ⟨q + 1, by go_num, hlq, HA, B7, V7, X7, D7⟩
                  case measure => simp [intOf]; omega
              · have HA2 := Lib.hid (show x.ups.all (fun p => hadB d.d.up p.1) = true by
                  have := hA.out
                  rwa [List.take_of_length_le (by rw [← hx.us.len]; omega)] at this)
                rw [HA2.out, Bool.true_and] at HS2
                have e0 : kHasE d.d.P x.P = 0 := by unfold kHasE; rw [if_pos HKIN.out.zero]; exact HXV.out
                clear hA HA2
                go_wp2_with fail
                refine (hd.ns.kinds_Has hx.ns).mono ?_
                rintro e w7 ⟨rfl, b7⟩
                have B7 := bh hB b7
                have V7 := Lib.hid (hV.out.keep b7)
                rw [e0, errV_zero]
                clear b7 hB hV hX hD x0 x1 x2 x3 d0 d1 d2 hx hd e0
                generalize kHasB d.d.P x.P = g at *
                cases g
                · have HR2 := Lib.hid (show F = 2 by rw [HS2.out]; rfl)
                  clear HS2
                  go_wp2_with fail
                  go_ret
                  exact ⟨by rw [HR2.out]; rfl, B7.out⟩
                · have HF := Lib.hid (show F = fitsF s.k (E.drop (k + 1)) by rw [HS2.out]; rfl)
                  clear HS2
                  go_wp2_with fail
                  go_roundw
                  case rel => exact ⟨k + 1, by go_num, hlt, HF, B7, V7⟩
                  case measure => simp [intOf]; omega
        · have HR2 := Lib.hid (show F = 0 by rw [hF.out, List.drop_eq_nil_of_le (by rw [← HL.out]; omega)]; rfl)
          clear hF
          go_wp2_with fail
          go_ret
          exact ⟨by rw [HR2.out]; rfl, hB.out⟩
    · rw [or2_ne g2] at HR
      have HEV := Lib.hid (errV_ne g2)
      rw [HEV.out]
      generalize storeF E = r at *
      clear g2
      go_wp2_with fail
      go_ret
      exact ⟨by rw [HR.out, HEV.out]; rfl, B2.out⟩
  · rw [or2_ne g1] at HR
    have HEV := Lib.hid (errV_ne g1)
    rw [HEV.out]
    generalize schF s.k s.a = r at *
    clear g1
    go_wp2_with fail
    go_ret
    exact ⟨by rw [HR.out, HEV.out]; rfl, B1.out⟩
end Go.Proofs.YtnolmlhcikcceaaGreatDoor
