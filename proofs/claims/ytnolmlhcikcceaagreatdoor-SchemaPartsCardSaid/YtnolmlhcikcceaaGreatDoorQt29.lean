/-
  The reference's StoreFault: what is wrong with a store.
  Plain: a store by a schema: what is wrong, entity by entity; each by itself; with a type that is more. No program in sight.
  ref StoreFits: what is wrong with a store by a schema.
  schema.Store.
-/
import Derived.Test.YtnolmlhcikcceaaGreatDoorQt28
namespace Go.Proofs.YtnolmlhcikcceaaGreatDoor
open Go.RowKit Go.Wk
set_option maxRecDepth 100000

end Go.Proofs.YtnolmlhcikcceaaGreatDoor
namespace Go.Proofs.YtnolmlhcikcceaaGreatDoor
open Go.RowKit Go.Wk Go.Maps

/-- What is wrong with entities by a schema's kinds. -/
def fitsF (K : List KD) : List En → Int
  | [] => 0
  | x :: r => or2 (fitF K x.u x.ups x.P) (fitsF K r)
theorem fitsF_step {K : List KD} {E : List En} {i : Nat} (h : i < E.length) : fitsF K (E.drop i) = or2 (fitF K E[i].u E[i].ups E[i].P) (fitsF K (E.drop (i + 1))) := by
  rw [List.drop_eq_getElem_cons h]; rfl
theorem fitsF_zero {K : List KD} : ∀ {E : List En}, fitsF K E = 0 ↔ ∀ x ∈ E, fitF K x.u x.ups x.P = 0
  | [] => by simp [fitsF]
  | x :: r => by
    rw [fitsF, or2_zero_iff, fitsF_zero (E := r)]
    simp
/-- What is wrong with a store by a schema. -/
noncomputable def stoF (K : List KD) (L : List AD) (E : List En) : Int := or2 (schF K L) (or2 (storeF E) (fitsF K E))
theorem stoF_zero {K : List KD} {L : List AD} {E : List En} : stoF K L E = 0 ↔ schF K L = 0 ∧ storeF E = 0 ∧ ∀ x ∈ E, fitF K x.u x.ups x.P = 0 := by
  unfold stoF
  rw [or2_zero_iff, or2_zero_iff, fitsF_zero]
theorem storeF_zero {E : List En} : storeF E = 0 ↔ E.length ≤ 16 ∧ entsFault [] E = 0 ∧ ¬ ∃ x ∈ E, Abv (graphE E) x.u x.u := by
  unfold storeF
  constructor
  · intro h
    split at h
    · cases h
    · rename_i h1
      split at h
      · rename_i h2
        split at h
        · cases h
        · rename_i h3; exact ⟨by omega, h2, h3⟩
      · rename_i h2; exact absurd h h2
  · rintro ⟨h1, h2, h3⟩
    rw [if_neg (by omega), if_pos h2, if_neg h3]
theorem abv_sub {G H : List (Ud × List Ud)} (h : ∀ e ∈ G, e ∈ H) {u p : Ud} (k : Abv G u p) : Abv H u p := by
  have hs : ∀ {a b : Ud}, Stp G a b → Stp H a b := fun ⟨e, h1, h2⟩ => ⟨e, h e h1, h2⟩
  induction k with
  | one k => exact .one (hs k)
  | more k _ ih => exact .more (hs k) ih
theorem entF_zero {x : En} (h : entF x = 0) : valFault x.P = 0 ∧ headOp x.P = 6 := by
  unfold entF at h
  split at h
  · cases h
  · split at h
    · split at h
      · rename_i h1
        split at h
        · rename_i h2; exact ⟨h1, h2⟩
        · cases h
      · rename_i h1; exact absurd h h1
    · rename_i h1; exact absurd h h1
/-- The record of an entity of a store. -/
theorem ent_rec {E M : List En} (h : entsFault M E = 0) {x : En} (hx : x ∈ E) : valFault x.P = 0 ∧ headOp x.P = 6 := entF_zero ((ents_ok E M h).1 x hx).2
/-- One entity of a store is a store. -/
theorem store_one {E : List En} (h : storeF E = 0) {x : En} (hx : x ∈ E) : storeF [x] = 0 := by
  obtain ⟨h1, h2, h3⟩ := storeF_zero.1 h
  obtain ⟨ok, -, -⟩ := ents_ok E [] h2
  obtain ⟨o1, o2⟩ := ok x hx
  refine storeF_zero.2 ⟨by simp, ?_, ?_⟩
  · unfold entsFault
    rw [if_pos o1, if_neg (by unfold hadE; simp), if_pos o2]
    rfl
  · rintro ⟨y, hy, ha⟩
    simp only [List.mem_cons, List.not_mem_nil, or_false] at hy
    subst hy
    refine h3 ⟨y, hx, abv_sub (fun e he => ?_) ha⟩
    simp only [graphE, List.map_cons, List.map_nil, List.mem_cons, List.not_mem_nil, or_false] at he
    subst he
    exact List.mem_map.2 ⟨y, hx, rfl⟩
/-- Each by itself. -/
theorem stoF_parts {K : List KD} {L : List AD} {E : List En} (h1 : schF K L = 0) (h2 : storeF E = 0) : stoF K L E = 0 ↔ ∀ x ∈ E, stoF K L [x] = 0 := by
  rw [stoF_zero]
  constructor
  · rintro ⟨-, -, h⟩ x hx
    exact stoF_zero.2 ⟨h1, store_one h2 hx, fun y hy => by
      simp only [List.mem_cons, List.not_mem_nil, or_false] at hy
      subst hy; exact h y hx⟩
  · intro h
    exact ⟨h1, h2, fun x hx => (stoF_zero.1 (h x hx)).2.2 x (by simp)⟩
/-- With an act more. -/
theorem asks_more {T : ByteArray} {K : List KD} {L : List AD} {x : AD} {a b c : Ud} {P : List Nd} (h1 : schF K (L ++ [x]) = 0) (h2 : asksF T K L a b c P = 0) : asksF T K (L ++ [x]) a b c P = 0 := by
  unfold asksF at h2 ⊢
  rw [or2_zero_iff, or2_zero_iff] at h2
  obtain ⟨-, h3, h4⟩ := h2
  rw [or2_zero_iff, or2_zero_iff]
  refine ⟨h1, h3, ?_⟩
  unfold fitA at h4 ⊢
  have : actOf L b.2 ≠ none := fun e => by rw [e] at h4; cases h4
  obtain ⟨d, hd⟩ := Option.ne_none_iff_exists'.1 this
  have he : actOf (L ++ [x]) b.2 = some d := by
    unfold actOf at hd ⊢
    rw [List.find?_append, hd]; rfl
  rw [he]
  rw [hd] at h4
  exact h4
end Go.Proofs.YtnolmlhcikcceaaGreatDoor
namespace Go.Proofs.YtnolmlhcikcceaaGreatDoor
open Go.RowKit Go.Wk Go.Sort
set_option maxRecDepth 100000

theorem all_take_step {P : List Ud} {q : Nat} (h : q < P.length) (g : Ud → Bool) (h1 : (P.take q).all g = true) (h2 : g P[q] = true) : (P.take (q + 1)).all g = true := by
  rw [List.take_succ_eq_append_getElem h, List.all_append, h1]
  simp [h2]
theorem all_not {P : List Ud} {q : Nat} (h : q < P.length) (g : Ud → Bool) (h2 : g P[q] = false) : P.all g = false := by
  rw [List.all_eq_false]
  exact ⟨P[q], List.getElem_mem h, by rw [h2]; simp⟩
end Go.Proofs.YtnolmlhcikcceaaGreatDoor
namespace Go.Proofs.YtnolmlhcikcceaaGreatDoor
open Go.RowKit Go.Wk Go.Sort
set_option maxRecDepth 100000

set_option maxHeartbeats 8000000 in
theorem schema_Store (s : Sc) (A : Option Addr) (n c : Nat) (E : List En) (w : World) (h : ScOk w s) (hE : Es w A n c E) :
    Calls Tryz.prog 9 #[s.v, .slice A n c] w fun e w' => e = .returned (errV (stoF s.k s.a E)) ∧ Below w.heap.size w w' := by
  have V0 := Lib.hid (vs_new w s 25)
  have B0 := Lib.hid (below_box w (.cells #[.slice s.KA s.kn s.kc, .slice s.AA s.an s.ac] 25))
  have HV := Lib.hid (show s.v = .agg #[.slice s.KA s.kn s.kc, .slice s.AA s.an s.ac] from rfl)
  have C1 := Lib.hid (fun w' (hb : Below w.heap.size w w') => schema_Check s w' (h.keep hb))
  have C2 := Lib.hid (fun w' (hb : Below w.heap.size w w') => ent_Check A n c E w' (hE.keep hb))
  have C3 := Lib.hid (fun x w' (hb : Below w.heap.size w w') => schema_Kind s x w' (h.keep hb))
  have CK := Lib.hid (fun i (hi : i < s.K.length) w' (hb : Below w.heap.size w w') => (let ⟨_, _, _, _, _, h⟩ := (h.keep hb).k.at_ i _ (List.getElem?_eq_getElem hi); h : KnOk w' s.K[i]))
  have CE := Lib.hid (fun i (hi : i < E.length) w' (hb : Below w.heap.size w w') => (hE.keep hb).at_ i _ (List.getElem?_eq_getElem hi))
  have HL := Lib.hid hE.len
  have hnx := hE.max
  unfold maxLen at hnx
  rw [HV.out] at C1 C3 ⊢
  have HR := Lib.hid (show stoF s.k s.a E = or2 (schF s.k s.a) (or2 (storeF E) (fitsF s.k E)) from rfl)
  generalize stoF s.k s.a E = F at *
  clear h hE
  go_enter Tryz.func9, Tryz.ntmps9
  go_wp2_with fail
  refine (C1.out _ B0.out).mono ?_
  rintro e w1 ⟨rfl, b1⟩
  have B1 := bh B0 b1
  have V1 := Lib.hid (V0.out.keep b1)
  clear b1 B0 V0
  by_cases g1 : schF s.k s.a = 0
  · rw [g1, or2_zero] at HR
    rw [g1, errV_zero]
    have HKA := Lib.hid (fun i (hi : i < s.K.length) => recF_zero (kdsF_all _ _ (schF_zero.1 g1).2.2.1 _ (List.mem_map.2 ⟨s.K[i], List.getElem_mem hi, rfl⟩)).1)
    clear g1
    go_wp2_with fail
    refine (C2.out _ B1.out).mono ?_
    rintro e w2 ⟨rfl, b2⟩
    have B2 := bh B1 b2
    have V2 := Lib.hid (V1.out.keep b2)
    clear b2 B1 V1
    by_cases g2 : storeF E = 0
    · rw [g2, or2_zero] at HR
      rw [g2, errV_zero]
      have HEV := Lib.hid (show ∀ i (hi : i < E.length), valFault E[i].P = 0 from fun i hi => (ent_rec (storeF_zero.1 g2).2.1 (List.getElem_mem hi)).1)
      clear g2 C1 C2
      go_wp2_with fail
      go_loopw [27] (fun i wr => ∃ k : Nat, i = .int .i64 k ∧ k ≤ n ∧ Hid (F = fitsF s.k (E.drop k)) ∧ Hid (Below w.heap.size w wr) ∧ Hid (Vs wr w.heap.size s)) (fun i _ => n - (intOf i).toNat)
      case atStart => exact ⟨0, rfl, Nat.zero_le _, HR, B2, V2⟩
      case round =>
        obtain ⟨k, rfl, hk, hF, hB, hV⟩ := hrel
        clear B2 V2 HR
        by_cases hlt : k < n
        · have hkl : k < E.length := by rw [← HL.out]; exact hlt
          have HS := Lib.hid (hF.out.trans (fitsF_step hkl))
          have CX := Lib.hid (fun w' (hb : Below w.heap.size w w') => CE.out k hkl w' hb)
          have HXV := Lib.hid (HEV.out k hkl)
          generalize E[k] = x at *
          have HOK := Lib.hid (fun w' (hb : Below w.heap.size w w') => (let ⟨_, _, _, _, _, _, h⟩ := CX.out w' hb; h : EnOk w' x))
          obtain ⟨a, rfl, q0, q1, q2, q3, -⟩ := CX.out wr hB.out
          clear hF
          obtain ⟨v0, v1⟩ := hV.out
          have HLT := block_lt_of_cell v0
          have BB := below_box wr (.cells #[.string x.u.1, .string x.u.2, .slice x.UA x.un x.uc, .slice x.NA x.nn x.nc] 38)
          have B3 := bh hB BB
          have V3 := Lib.hid (hV.out.keep BB)
          have X3 := Lib.hid (vr4_new wr x 38)
          clear BB
          go_wp2_with fail
          refine (C3.out x.u.1 _ B3.out).mono ?_
          rintro e w4 ⟨hc, b4⟩
          have B4 := bh B3 b4
          have V4 := Lib.hid (V3.out.keep b4)
          have X4 := Lib.hid (X3.out.keep b4)
          clear b4 hB hV q0 q1 q2 q3 v0 v1 B3 V3 X3 HLT
          generalize wr.heap.size = be at *
          rcases hc with ⟨ha, rfl⟩ | ⟨i, hi, ha, rfl⟩
          · have HR2 := Lib.hid (show F = 3 by rw [HS.out]; unfold fitF; rw [ha]; rfl)
            clear ha HS
            go_wp2_with fail
            go_ret
            exact ⟨by rw [HR2.out]; rfl, (bh B4 (below_box _ _)).out⟩
          · obtain ⟨f, hkin⟩ := HKA.out i hi
            have HKIN := Lib.hid hkin
            have CD := Lib.hid (fun w' (hb : Below w.heap.size w w') => CK.out i hi w' hb)
            have HS2 := Lib.hid (show F = or2 (if (x.ups.all fun p => hadB s.K[i].d.up p.1) && kHasB s.K[i].d.P x.P then 0 else 2) (fitsF s.k (E.drop (k + 1))) by rw [HS.out]; unfold fitF; rw [ha])
            generalize s.K[i] = d at *
            clear ha hkin HS hi
            have BB := below_box w4 (.cells #[.string d.d.nm, .slice d.UA d.un d.uc, .slice d.NA d.nn d.nc] 44)
            have B5 := bh B4 BB
            have V5 := Lib.hid (V4.out.keep BB)
            have X5 := Lib.hid (X4.out.keep BB)
            have D5 := Lib.hid (vk_new w4 d 44)
            obtain ⟨x0, x1, x2, x3⟩ := X4.out
            have HLT := block_lt_of_cell x0
            clear BB
            go_wp2_with fail
            obtain ⟨w5, hw5⟩ : ∃ w5, w4.alloc (.cells #[.string d.d.nm, .slice d.UA d.un d.uc, .slice d.NA d.nn d.nc] 44) = w5 := ⟨_, rfl⟩
            rw [hw5] at B5 V5 X5 D5 ⊢
            clear hw5 B4 V4 X4 x0 x1 x2 x3 HLT
            generalize w4.heap.size = bk at *
            go_loopw [45] (fun p wr => ∃ q : Nat, p = .int .i64 q ∧ q ≤ x.un ∧ Hid ((x.ups.take q).all (fun p => hadB d.d.up p.1) = true) ∧ Hid (Below w.heap.size w wr) ∧ Hid (Vs wr w.heap.size s) ∧ Hid (Vr4 wr be x) ∧ Hid (Vk wr bk d)) (fun p _ => x.un - (intOf p).toNat)
            case atStart => exact ⟨0, rfl, Nat.zero_le _, Lib.hid rfl, B5, V5, X5, D5⟩
            case round =>
              obtain ⟨q, rfl, hq, hA, hB, hV, hX, hD⟩ := hrel
              clear B5 V5 X5 D5
              have hx := HOK.out wr hB.out
              have hd := CD.out wr hB.out
              have hxm := hx.us.max
              unfold maxLen at hxm
              obtain ⟨x0, x1, x2, x3⟩ := hX.out
              obtain ⟨d0, d1, d2⟩ := hD.out
              by_cases hlq : q < x.un
              · have hql : q < x.ups.length := by rw [← hx.us.len]; exact hlq
                obtain ⟨ua, eu, r0, r1⟩ := hx.us.at_ q _ (List.getElem?_eq_getElem hql)
                rw [eu]
                have HA2 := Lib.hid (all_take_step hql (fun p => hadB d.d.up p.1) hA.out)
                have HA3 := Lib.hid (all_not hql (fun p => hadB d.d.up p.1))
                try dsimp only at HA2 HA3
                generalize x.ups[q] = y at *
                have BB := below_box wr (.cells #[.string y.1, .string y.2] 33)
                have B6 := bh hB BB
                have V6 := Lib.hid (hV.out.keep BB)
                have X6 := Lib.hid (hX.out.keep BB)
                have D6 := Lib.hid (hD.out.keep BB)
                have HLT := block_lt_of_cell d0
                clear BB
                go_wp2_with fail
                refine (strs_Contains _ _ _ _ y.1 _ (CD.out _ B6.out).us).mono ?_
                rintro e w7 ⟨rfl, b7⟩
                have B7 := bh B6 b7
                have V7 := Lib.hid (V6.out.keep b7)
                have X7 := Lib.hid (X6.out.keep b7)
                have D7 := Lib.hid (D6.out.keep b7)
                clear b7 B6 V6 X6 D6 hB hV hX hD x0 x1 x2 x3 d0 d1 d2 r0 r1 hx hd
                generalize hadB d.d.up y.1 = g at *
                cases g
                · have HR2 := Lib.hid (show F = 2 by rw [HS2.out, HA3.out rfl]; rfl)
                  clear HA2 HA3 HS2
                  go_wp2_with fail
                  go_ret
                  exact ⟨by rw [HR2.out]; rfl, B7.out⟩
                · have HA := Lib.hid (HA2.out rfl)
                  clear HA2 HA3
                  go_wp2_with fail
                  go_roundw
                  case rel => exact ⟨q + 1, by go_num, hlq, HA, B7, V7, X7, D7⟩
                  case measure => simp [intOf]; omega
              · have HA2 := Lib.hid (show x.ups.all (fun p => hadB d.d.up p.1) = true by
                  have := hA.out
                  rwa [List.take_of_length_le (by rw [← hx.us.len]; omega)] at this)
                rw [HA2.out, Bool.true_and] at HS2
                have e0 : kHasE d.d.P x.P = 0 := by unfold kHasE; rw [if_pos HKIN.out.zero]; exact HXV.out
                clear hA HA2
                go_wp2_with fail
                refine (hd.ns.kinds_Has hx.ns).mono ?_
                rintro e w7 ⟨rfl, b7⟩
                have B7 := bh hB b7
                have V7 := Lib.hid (hV.out.keep b7)
                rw [e0, errV_zero]
                clear b7 hB hV hX hD x0 x1 x2 x3 d0 d1 d2 hx hd e0
                generalize kHasB d.d.P x.P = g at *
                cases g
                · have HR2 := Lib.hid (show F = 2 by rw [HS2.out]; rfl)
                  clear HS2
                  go_wp2_with fail
                  go_ret
                  exact ⟨by rw [HR2.out]; rfl, B7.out⟩
                · have HF := Lib.hid (show F = fitsF s.k (E.drop (k + 1)) by rw [HS2.out]; rfl)
                  clear HS2
                  go_wp2_with fail
                  go_roundw
                  case rel => exact ⟨k + 1, by go_num, hlt, HF, B7, V7⟩
                  case measure => simp [intOf]; omega
        · have HR2 := Lib.hid (show F = 0 by rw [hF.out, List.drop_eq_nil_of_le (by rw [← HL.out]; omega)]; rfl)
          clear hF
          go_wp2_with fail
          go_ret
          exact ⟨by rw [HR2.out]; rfl, hB.out⟩
    · rw [or2_ne g2] at HR
      have HEV := Lib.hid (errV_ne g2)
      rw [HEV.out]
      generalize storeF E = r at *
      clear g2
      go_wp2_with fail
      go_ret
      exact ⟨by rw [HR.out, HEV.out]; rfl, B2.out⟩
  · rw [or2_ne g1] at HR
    have HEV := Lib.hid (errV_ne g1)
    rw [HEV.out]
    generalize schF s.k s.a = r at *
    clear g1
    go_wp2_with fail
    go_ret
    exact ⟨by rw [HR.out, HEV.out]; rfl, B1.out⟩
end Go.Proofs.YtnolmlhcikcceaaGreatDoor
