/-
  ent.one: what is wrong with an entity.
-/
import Derived.Test.YtbjbimabgfpdoaaGreatDoorUds
namespace Go.Proofs.YtbjbimabgfpdoaaGreatDoor
open Go.RowKit Go.Wk
set_option maxRecDepth 100000

/-- The cells of an entity in a variable. -/
structure Vr4 (w : World) (b : Nat) (x : En) : Prop where
  c0 : w.cell? ⟨b, 0, none⟩ = some (.string x.u.1)
  c1 : w.cell? ⟨b, 1, none⟩ = some (.string x.u.2)
  c2 : w.cell? ⟨b, 2, none⟩ = some (.slice x.UA x.un x.uc)
  c3 : w.cell? ⟨b, 3, none⟩ = some (.slice x.NA x.nn x.nc)
theorem Vr4.keep {w w' : World} {b : Nat} {x : En} (h : Vr4 w b x) (hb : Below w.heap.size w w') : Vr4 w' b x := ⟨cell_keep hb h.c0, cell_keep hb h.c1, cell_keep hb h.c2, cell_keep hb h.c3⟩
theorem vr4_new (w : World) (x : En) (t : TypeId) : Vr4 (w.alloc (.cells #[.string x.u.1, .string x.u.2, .slice x.UA x.un x.uc, .slice x.NA x.nn x.nc] t)) w.heap.size x :=
  ⟨cell_row (heap_alloc_last w _) rfl, cell_row (heap_alloc_last w _) rfl, cell_row (heap_alloc_last w _) rfl, cell_row (heap_alloc_last w _) rfl⟩
theorem ups_step {L : List Ud} {k : Nat} (h : k < L.length) : upsFault (L.take k) (L.drop k) = if uidFault L[k] = 0 then (if hadU (L.take k) L[k] = true then 6 else upsFault (L.take (k + 1)) (L.drop (k + 1))) else uidFault L[k] := by
  rw [List.drop_eq_getElem_cons h, List.take_succ_eq_append_getElem h]
  rfl
set_option maxHeartbeats 4000000 in
theorem ent_one (x : En) (w : World) (h : EnOk w x) :
    Calls Tryz.prog 28 #[x.v] w fun e w' => e = .returned (errV (entF x)) ∧ Below w.heap.size w w' := by
  have V0 := Lib.hid (vr4_new w x 36)
  obtain ⟨u, UA, un, uc, ups, NA, nn, nc, P⟩ := x
  obtain ⟨-, -, hus, hns⟩ := h
  have KW := Lib.hid (fun (u : Ud) (hu : u.1.size ≤ maxLen ∧ u.2.size ≤ maxLen) w => name_Write u.1 u.2 w hu.1 hu.2)
  have KC := Lib.hid (fun (k : Nat) (hk : k ≤ un) (u : Ud) w' hb => uids_Contains UA k uc (ups.take k) u w' ((hus.keep (w' := w') hb).take hk))
  have KV := Lib.hid (fun w' hb => val_Check_ns (hns.keep (w' := w') hb))
  have HU := Lib.hid hus
  have HN := Lib.hid hns
  have B0 := Lib.hid (below_box w (.cells #[.string u.1, .string u.2, .slice UA un uc, .slice NA nn nc] 36))
  have hlen := hus.len
  have hcap := hus.cap
  dsimp only at hlen hcap V0 KC KV HU HN
  clear hus hns
  unfold En.v
  dsimp only
  by_cases h6 : 6 < un
  · have HE := Lib.hid (show entF ⟨u, UA, un, uc, ups, NA, nn, nc, P⟩ = 4 by unfold entF; rw [if_pos (by dsimp only; omega)])
    rw [HE.out]
    clear hlen
    go_enter Tryz.func28, Tryz.ntmps28
    go_wp2_with fail
    go_ret
    exact ⟨rfl, B0.out⟩
  · have HE := Lib.hid (show entF ⟨u, UA, un, uc, ups, NA, nn, nc, P⟩ = if upsFault [] ups = 0 then (if valFault P = 0 then (if headOp P = 6 then 0 else 2) else valFault P) else upsFault [] ups by unfold entF; rw [if_neg (by dsimp only; omega)])
    generalize entF ⟨u, UA, un, uc, ups, NA, nn, nc, P⟩ = EF at *
    have HL := Lib.hid hlen
    have hd : decide ((6 : Int) < (un : Int)) = false := decide_eq_false (by omega)
    clear hlen
    go_enter Tryz.func28, Tryz.ntmps28
    go_wp2_with fail
    obtain ⟨w0, hw0⟩ : ∃ w0, w.alloc (.cells #[.string u.1, .string u.2, .slice UA un uc, .slice NA nn nc] 36) = w0 := ⟨_, rfl⟩
    rw [hw0] at V0 B0 ⊢
    clear hw0
    go_loopw [3, 4, 5, 6, 16] (fun _ _ _ _ i wr => ∃ k : Nat, k ≤ un ∧ i = .int .i64 k ∧ Hid (upsFault [] ups = upsFault (ups.take k) (ups.drop k)) ∧ Hid (Below w.heap.size w wr) ∧ Hid (Vr4 wr w.heap.size ⟨u, UA, un, uc, ups, NA, nn, nc, P⟩)) (fun _ _ _ _ i _ => un - (intOf i).toNat)
    case atStart => exact ⟨0, Nat.zero_le _, rfl, rfl, B0, V0⟩
    case round =>
      clear B0 V0
      obtain ⟨k, hk, rfl, hF, hB, hV⟩ := hrel
      obtain ⟨c0, c1, c2, c3⟩ := hV.out
      dsimp only at c0 c1 c2 c3
      by_cases hlt : k < un
      · have hlt' : k < ups.length := by rw [← HL.out]; exact hlt
        have HS := Lib.hid (ups_step hlt')
        obtain ⟨a, rfl, q0, q1⟩ := (HU.out.at_.keep hB.out) k _ (List.getElem?_eq_getElem hlt')
        have hok := HU.out.ok _ (List.getElem_mem hlt')
        have K1 := Lib.hid (KW.out ups[k] hok)
        have K2 := Lib.hid (KC.out k hk ups[k])
        generalize ups[k] = p at *
        go_wp2_with fail
        have B1 := bh hB (below_box wr (.cells #[.string p.1, .string p.2] 30))
        have V1 := Lib.hid (hV.out.keep (below_box wr (.cells #[.string p.1, .string p.2] 30)))
        have P1 := Lib.hid (vr2_new wr (.string p.1) (.string p.2) 30)
        obtain ⟨w1, hw1⟩ : ∃ w1, wr.alloc (.cells #[.string p.1, .string p.2] 30) = w1 := ⟨_, rfl⟩
        rw [hw1] at V1 B1 P1 ⊢
        clear hw1 hB hV c0 c1 c2 c3 q0 q1
        refine (K1.out w1).mono ?_
        rintro e w2 ⟨rfl, b2⟩
        have B2 := bh B1 b2
        have V2 := Lib.hid (V1.out.keep b2)
        have P2 := Lib.hid (P1.out.keep b2)
        clear K1 b2 B1 V1 P1
        by_cases hu : uidFault (p.1, p.2) = 0
        · have hu' : uidFault p = 0 := hu
          rw [hu, errV_zero]
          rw [if_pos hu'] at HS
          clear hu hu'
          have k2 := cell_regrown V2.out.c2
          have v0 := cell_regrown P2.out.c0
          have v1 := cell_regrown P2.out.c1
          have KK := rq (w := w2) (fun w' hb => K2.out w' (B2.out.trans (hb.mono B2.out.size)))
          dsimp only at k2
          go_wp2_with fail
          refine wp_region_quiet_below (by kernel_rfl) (by kernel_rfl) ?_
          repeat (first | go_big_quiet_step (exact KK _ _) | quiet_step (exact KK _ _))
          refine wpQuiet_nil ?_
          intro w3 hw'
          have b3 := Lib.hid (show Below w2.heap.size w2 w3 by obtain ⟨⟨d, os⟩, rfl⟩ := hw'; exact below_regrown _ _ _)
          clear hw'
          have B3 := bh B2 b3.out
          have V3 := Lib.hid (V2.out.keep b3.out)
          clear k2 v0 v1 KK b3 B2 V2 P2 K2
          rcases hh : hadU (ups.take k) p with _ | _
          · rw [hh, if_neg (by decide)] at HS
            have HF := Lib.hid (hF.out.trans HS.out)
            clear hh HS hF
            go_wp2_with fail
            go_roundw
            case rel => exact ⟨k + 1, by omega, by go_num, HF, B3, V3⟩
            case measure => simp [intOf]; omega
          · rw [hh, if_pos rfl] at HS
            have HF := Lib.hid (hF.out.trans HS.out)
            have HE2 := Lib.hid (show EF = 6 by rw [HE.out, HF.out]; rfl)
            clear hh HS hF
            go_wp2_with fail
            go_ret
            exact ⟨by rw [HE2.out]; rfl, B3.out⟩
        · have hu' : uidFault p ≠ 0 := hu
          rw [if_neg hu'] at HS
          have HE2 := Lib.hid (show EF = uidFault (p.1, p.2) by rw [HE.out, hF.out, HS.out, if_neg hu'])
          rw [errV_ne hu]
          have hun := Lib.hid hu
          clear hu hu' HS hF
          generalize uidFault (p.1, p.2) = f at *
          go_wp2_with fail
          go_ret
          exact ⟨by rw [HE2.out, errV_ne hun.out]; rfl, B2.out⟩
      · have HF := Lib.hid (show upsFault [] ups = 0 by rw [hF.out, List.drop_of_length_le (by rw [← HL.out]; omega)]; rfl)
        have HE2 := Lib.hid (show EF = if valFault P = 0 then (if headOp P = 6 then 0 else 2) else valFault P by rw [HE.out, if_pos HF.out])
        have K3 := Lib.hid (fun w' hb => KV.out w' hb)
        clear hF
        go_wp2_with fail
        refine (K3.out wr hB.out).mono ?_
        rintro e w2 ⟨rfl, b2⟩
        have B2 := bh hB b2
        have V2 := Lib.hid (hV.out.keep b2)
        clear hB hV c0 c1 c2 c3 b2
        by_cases hv : valFault P = 0
        · have hpos := (isV_zero.1 hv).2.pos
          obtain ⟨a, rfl, D⟩ := (HN.out.at_.keep B2.out).nd hpos
          rw [show a.add (0 * 4) = a from rfl] at D
          have hop : headOp P = P[0].op := headOp_at hpos
          have hn0 : 0 < nn := by rw [HN.out.len]; exact hpos
          rw [hv, errV_zero]
          rw [if_pos hv, hop] at HE2
          obtain ⟨d0, -, -, -⟩ := D
          obtain ⟨op, ho⟩ : ∃ op, op = P[0].op := ⟨_, rfl⟩
          rw [← ho] at d0 HE2
          have e3 := V2.out.c3
          dsimp only at e3
          clear hv hop ho
          by_cases h6o : op = 6
          · rw [if_pos h6o] at HE2
            subst h6o
            go_wp2_with fail
            go_ret
            exact ⟨by rw [HE2.out]; rfl, B2.out⟩
          · rw [if_neg h6o] at HE2
            have h6i : (op != 6) = true := by simp; exact h6o
            clear h6o
            go_wp2_with fail
            go_ret
            exact ⟨by rw [HE2.out]; rfl, B2.out⟩
        · rw [if_neg hv] at HE2
          rw [errV_ne hv]
          have hvn := Lib.hid hv
          clear hv
          generalize valFault P = f at *
          go_wp2_with fail
          go_ret
          exact ⟨by rw [HE2.out, errV_ne hvn.out]; rfl, B2.out⟩
end Go.Proofs.YtbjbimabgfpdoaaGreatDoor
