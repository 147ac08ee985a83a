/-
  EntLeaf: who comes below changes nothing above. The walk of the law.
-/
import Derived.Test.YtbjbimabgfpdoaaGreatEntFact
import Derived.Test.YtbjbimabgfpdoaaGreatEntUp
import Derived.Test.YtbjbimabgfpdoaaGreatEnRow
import Derived.Test.YtbjbimabgfpdoaaGreatSameUids
import Derived.Test.YtbjbimabgfpdoaaGreatBfsLaw
namespace Go.Proofs.YtbjbimabgfpdoaaGreat
open Go.RowKit Go.Wk
set_option maxRecDepth 100000

theorem below_own {w w' : World} {B : Nat} {v : Value} {e : TypeId} {size n : Nat} {xs : List Value} (h : w.ownsRow B e size v n xs) {w0 : World} (hb : Below w0.heap.size w0 w) (hB : w0.heap.size ≤ B) (hg : w.grownBy w' v.ownBlock) : Below w0.heap.size w0 w' :=
  hb.grown hg hb.size (fun g hg => Nat.le_trans hB (own_base h g hg))
/-- 'append(own, es...)': of a slice that came in. -/
theorem wpList_append_es {ops : Array Oper} {rest : List Oper} {o : Oper} {a : Act} {Q : Exit → Act → World → Prop} (w : World) (hgd : o.guard = none) (s x : Operand)
    (ho : o.op = .call { callee := .builtin .append, args := #[s, x], argTypes := #[22, 22] })
    (B : Nat) (A : Option Addr) (n c : Nat) (E : List En) (v : Value) (hs : a.eval s = v) (hx : a.eval x = .slice A n c) (hown : w.ownsRow B 33 4 v 0 []) (hE : Es w A n c E) (hnil : A = none → n = 0 ∧ c = 0) (hsz : n * 80 ≤ 140737488351232) (hB : B ≤ w.heap.size)
    (h : ∀ v' w', w'.ownsRow B 33 4 v' n (enCells E) → w.grownBy w' v.ownBlock → wpList Tryz.prog ops Q rest (a.put o.dst v') w') : wpList Tryz.prog ops Q (o :: rest) a w := by
  obtain ⟨i0, hi, hz0, hz1, hz2⟩ := info_parts enInfo
  have hl := hE.len
  rcases A with _ | ad
  · obtain ⟨rfl, rfl⟩ := hnil rfl
    have : E = [] := List.eq_nil_of_length_eq_zero hl.symm
    subst this
    exact wpList_append_own_none hgd s x _ ho B _ i0 4 Tryz.underlying22 hi v 0 [] hs hown hx (h v w hown (World.grownBy.refl _ _))
  · refine wpList_append_own w hgd s x _ ho B 33 i0 _ 4 80 Tryz.underlying22 hi hz0 hz1 hz2 rfl (by decide) v 0 [] hs hown ad n c (enCells E) hx (by rw [enCells_length, hl]) hE.at_.cells (enCells_one E) ?_ ?_ hB ?_
    · unfold maxLen; omega
    · omega
    · intro v' w' h1 h2 _
      exact h v' w' (by simpa using h1) h2
theorem leaf_up {E : List En} {x : En} {a : Ud} {U U' : List Ud} (ha : a ≠ x.u) (hno : ∀ y ∈ E, x.u ∉ y.ups) (h : UpOf E a U) (h' : UpOf (E ++ [x]) a U') : U = U' := by
  have hg : graphE (E ++ [x]) = graphE E ++ [(x.u, x.ups)] := by simp [graphE]
  refine asc_one (R := fun x y => cfU x y < 0) (fun x => by rw [cfU_cmp.self]; decide) (fun x y z h1 h2 => cfU_cmp.lt_le h1 (by omega)) U U' h.asc h'.asc fun y => ?_
  rw [h.mem, h'.mem, hg]
  refine ⟨more_abv _, fun hy => leaf_abv (fun g hg hm => ?_) hy ha⟩
  obtain ⟨z, hz, rfl⟩ := List.mem_map.1 hg
  exact hno z hz hm
theorem no_step {E : List En} {x : En} {k : Nat} (hk : k < E.length) (h : ∀ y ∈ E.take k, x.u ∉ y.ups) (h2 : x.u ∉ E[k].ups) : ∀ y ∈ E.take (k + 1), x.u ∉ y.ups := by
  intro y hy
  rw [List.take_succ_eq_append_getElem hk] at hy
  rcases List.mem_append.1 hy with hy | hy
  · exact h y hy
  · simp only [List.mem_cons, List.not_mem_nil, or_false] at hy; subst hy; exact h2
set_option maxHeartbeats 8000000 in
theorem EntLeaf_walk (A : Option Addr) (n c : Nat) (E : List En) (x : En) (a1 a2 : ByteArray) (w : World) (h : Es w A n c E) (hnil : A = none → n = 0 ∧ c = 0) (hsz : n * 80 ≤ 140737488351232) (hx : EnOk w x) (h3 : a1.size ≤ maxLen) (h4 : a2.size ≤ maxLen) :
    Calls Tryz.prog 4 #[.slice A n c, x.v, .agg #[.string a1, .string a2]] w fun e w' => e = .returned (.bool true) ∧ Below w.heap.size w w' := by
  obtain ⟨i0, hi, hz0, hz1, hz2⟩ := info_parts enInfo
  have HH := Lib.hid h
  have HL := Lib.hid h.len
  have hmax := h.max
  unfold maxLen at hmax
  have HX := Lib.hid hx
  have KF := Lib.hid law_above
  have UA := Lib.hid (show UOk (a1, a2) from ⟨h3, h4⟩)
  clear h h3 h4 hx
  unfold En.v
  go_enter Tryz.func4, Tryz.ntmps4
  go_wp2_with fail
  have V0 := Lib.hid (vr4_new w x 33)
  have B0 := Lib.hid (below_box w (.cells #[.string x.u.1, .string x.u.2, .slice x.UA x.un x.uc, .slice x.NA x.nn x.nc] 33))
  have hsz0 : (w.alloc (.cells #[.string x.u.1, .string x.u.2, .slice x.UA x.un x.uc, .slice x.NA x.nn x.nc] 33)).heap.size = w.heap.size + 1 := by simp
  obtain ⟨w0, hw0⟩ : ∃ w0, w.alloc (.cells #[.string x.u.1, .string x.u.2, .slice x.UA x.un x.uc, .slice x.NA x.nn x.nc] 33) = w0 := ⟨_, rfl⟩
  rw [hw0] at V0 B0 hsz0 ⊢
  rw [← hsz0]
  clear hw0 hsz0
  have V1 := Lib.hid (V0.out.keep (below_box w0 (.cells #[.string a1, .string a2] 24)))
  have P1 := Lib.hid (vr2_new w0 (.string a1) (.string a2) 24)
  have B1 := bh B0 (below_box w0 (.cells #[.string a1, .string a2] 24))
  obtain ⟨w1, hw1⟩ : ∃ w1, w0.alloc (.cells #[.string a1, .string a2] 24) = w1 := ⟨_, rfl⟩
  have HZ1 := Lib.hid (show w.heap.size < w1.heap.size ∧ w0.heap.size < w1.heap.size by
    have h1 : w1.heap.size = w0.heap.size + 1 := by rw [← hw1]; simp
    have h2 := block_lt_of_cell V0.out.c0
    exact ⟨Nat.lt_of_lt_of_le h2 (by omega), by omega⟩)
  rw [hw1] at V1 P1 B1 ⊢
  clear hw1 V0 B0
  refine (KF.out w1).mono ?_
  rintro e w2 ⟨rfl, b2⟩
  have V2 := Lib.hid (V1.out.keep b2)
  have P2 := Lib.hid (P1.out.keep b2)
  have B2 := bh B1 b2
  have HZ2 := Lib.hid (show w.heap.size < w2.heap.size ∧ w0.heap.size < w2.heap.size from ⟨Nat.lt_of_lt_of_le HZ1.out.1 b2.size, Nat.lt_of_lt_of_le HZ1.out.2 b2.size⟩)
  clear V1 P1 B1 b2 KF HZ1
  have B3 := bh B2 (below_box w2 (.cells #[] 33))
  have HB2 := Lib.hid (show w.heap.size ≤ w2.heap.size from B2.out.size)
  have O3 := Lib.hid (show (w2.alloc (.cells #[] 33)).ownsRow w2.heap.size 33 4 (.slice (some ⟨w2.heap.size, 0, none⟩) 0 0) 0 [] from
    ⟨rfl, .inr ⟨_, 0, #[], rfl, Nat.le_refl _, heap_alloc_new w2 _, Nat.le_refl _, by unfold maxLen; omega, rfl, rfl⟩⟩)
  go_wp2_with (at_builtin; go_loud (refine wpList_append_es _ rfl _ _ rfl w2.heap.size A n c E _ rfl rfl O3.out (HH.out.keep B3.out) hnil hsz (by simp) ?_))
  intro v3 w3 hown hgrow
  have b3 : Below w2.heap.size w2 w3 := ((Below.refl _ _).alloc (Nat.le_refl _) _).grown hgrow (by simp) (fun g hg => by simp [Value.ownBlock] at hg; omega)
  have V4 := Lib.hid (V2.out.keep b3)
  have P4 := Lib.hid (P2.out.keep b3)
  have HB4 := Lib.hid (show w2.heap.size ≤ w3.heap.size from b3.size)
  have B4 := bh B2 b3
  have O4 := Lib.hid hown
  clear V2 P2 B2 B3 O3 hown hgrow b3 hnil
  obtain ⟨d0, d1, d2, d3⟩ := V4.out
  have HC := Lib.hid (cells_new w3 (enCells [x]) 33)
  have O5 := Lib.hid (O4.out.alloc (.cells (enCells [x]).toArray 33))
  go_wp2_with (at_builtin; go_loud (refine wpList_append_own _ rfl _ _ 22 rfl w2.heap.size 33 i0 _ 4 80 Tryz.underlying22 hi hz0 hz1 hz2 rfl (by decide) _ n (enCells E) rfl O5.out ⟨_, 0, none⟩ 1 1 (enCells [x]) rfl rfl HC.out (enCells_one _) ?c1 ?c2 ?c3 ?_))
  case c1 => unfold maxLen; omega
  case c2 => omega
  case c3 => simp; have := HB4.out; omega
  intro v5 w5 hown hgrow _
  have b5 : Below w2.heap.size w3 w5 := ((Below.refl w2.heap.size w3).alloc HB4.out _).grown hgrow (by simp; have := HB4.out; omega) (own_base O4.out)
  have B5 := Lib.hid (B4.out.trans (b5.mono HB2.out))
  have HZ4 := Lib.hid (show w.heap.size < w2.heap.size ∧ w0.heap.size < w2.heap.size from HZ2.out)
  have V5 := Lib.hid (show Vr4 w5 w.heap.size x from ⟨(b5.cell (p := ⟨w.heap.size, 0, none⟩) HZ4.out.1).trans V4.out.c0, (b5.cell (p := ⟨w.heap.size, 1, none⟩) HZ4.out.1).trans V4.out.c1, (b5.cell (p := ⟨w.heap.size, 2, none⟩) HZ4.out.1).trans V4.out.c2, (b5.cell (p := ⟨w.heap.size, 3, none⟩) HZ4.out.1).trans V4.out.c3⟩)
  have P5 := Lib.hid (show Vr2 w5 w0.heap.size (.string a1) (.string a2) from ⟨(b5.cell (p := ⟨w0.heap.size, 0, none⟩) HZ4.out.2).trans P4.out.c0, (b5.cell (p := ⟨w0.heap.size, 1, none⟩) HZ4.out.2).trans P4.out.c1, (b5.frozen (p := ⟨w0.heap.size, 0, none⟩) HZ4.out.2).trans P4.out.z0, (b5.frozen (p := ⟨w0.heap.size, 1, none⟩) HZ4.out.2).trans P4.out.z1⟩)
  rw [← enCells_append] at hown
  obtain ⟨A5, c5, hv5, hes⟩ := es_of_own hown (by rw [List.length_append, HL.out]; rfl) (fun y hy => by
    rcases List.mem_append.1 hy with hy | hy
    · exact (HH.out.keep B5.out).enok y hy
    · simp only [List.mem_cons, List.not_mem_nil, or_false] at hy; subst hy; exact HX.out.keep B5.out) (by unfold maxLen; omega)
  have HE5 := Lib.hid hes
  subst hv5
  obtain ⟨m, hm⟩ : ∃ m, m = n + 1 := ⟨_, rfl⟩
  rw [← hm] at HE5 ⊢
  have HMN := Lib.hid hm
  clear hm hown hgrow hes b5 V4 P4 B4 O4 O5 HC d0 d1 d2 d3 HZ4 HZ2 HB2 HB4 hi hz0 hz1 hz2 hsz
  go_wp2_with fail
  refine (ent_Check A n c E w5 (HH.out.keep B5.out)).mono ?_
  rintro e w6 ⟨rfl, b6⟩
  have V6 := Lib.hid (V5.out.keep b6)
  have P6 := Lib.hid (P5.out.keep b6)
  have B6 := bh B5 b6
  have HE6 := Lib.hid (HE5.out.keep b6)
  clear V5 P5 B5 HE5 b6
  by_cases hs1 : storeF E = 0
  · have HS1 := Lib.hid hs1
    rw [hs1, errV_zero]
    clear hs1
    go_wp2_with fail
    refine (ent_Check A5 m c5 (E ++ [x]) w6 HE6.out).mono ?_
    rintro e w7 ⟨rfl, b7⟩
    have V7 := Lib.hid (V6.out.keep b7)
    have P7 := Lib.hid (P6.out.keep b7)
    have B7 := bh B6 b7
    have HE7 := Lib.hid (HE6.out.keep b7)
    clear V6 P6 B6 HE6 b7
    obtain ⟨c0, c1, c2, c3⟩ := V7.out
    obtain ⟨d0, d1, -, -⟩ := P7.out
    by_cases hs2 : storeF (E ++ [x]) = 0
    · have HS2 := Lib.hid hs2
      rw [hs2, errV_zero]
      clear hs2
      by_cases ha : (a1, a2) = x.u
      · have e1 : x.u.1 = a1 := by rw [← ha]
        have e2 : x.u.2 = a2 := by rw [← ha]
        rw [e1] at c0
        rw [e2] at c1
        clear ha e1 e2
        go_wp2_with fail
        go_ret
        exact ⟨rfl, B7.out⟩
      · have hne := uid_ne ha
        have HAX := Lib.hid ha
        clear ha
        rcases hne with h1 | ⟨h1, h2⟩
        all_goals
          go_wp2_with fail
          try clear h2
          clear h1 c0 c1 c2 c3 d0 d1
          go_loopw [9, 10] (fun i _ wk => ∃ k : Nat, k ≤ n ∧ i = .int .i64 k ∧ Hid (∀ y ∈ E.take k, x.u ∉ y.ups) ∧ Hid (Below w7.heap.size w7 wk)) (fun i _ _ => n - (intOf i).toNat)
          case atStart => exact ⟨0, Nat.zero_le _, rfl, Lib.hid (fun y hy => by simp at hy), Below.refl _ _⟩
          case round =>
            obtain ⟨k, hk, rfl, hN, hB⟩ := hrel
            obtain ⟨w8, rfl⟩ : ∃ w8 : World, w8 = wr := ⟨_, rfl⟩
            have BW := bh B7 hB.out
            by_cases hlt : k < n
            · have hlt' : k < E.length := by rw [← HL.out]; exact hlt
              have HST := Lib.hid (no_step hlt' hN.out)
              obtain ⟨a, rfl, -, -, q2, -, hyo⟩ := (HH.out.keep BW.out).at_ k _ (List.getElem?_eq_getElem hlt')
              obtain ⟨y, hy⟩ : ∃ y, y = E[k] := ⟨_, rfl⟩
              rw [← hy] at q2 hyo HST
              have HU := Lib.hid hyo.us
              have HUL := Lib.hid hyo.us.len
              have hum := hyo.us.max
              unfold maxLen at hum
              clear hy hyo
              go_wp2_with fail
              go_loopw [10] (fun q wk => ∃ t : Nat, t ≤ y.un ∧ q = .int .i64 t ∧ Hid (∀ p ∈ y.ups.take t, p ≠ x.u) ∧ Hid (Below w8.heap.size w8 wk)) (fun q _ => y.un - (intOf q).toNat)
              case atStart => exact ⟨0, Nat.zero_le _, rfl, Lib.hid (fun y hy => by simp at hy), Below.refl _ _⟩
              case round =>
                obtain ⟨t, ht, rfl, hP, hB2⟩ := hrel
                have q2' := cell_keep hB2.out q2
                by_cases hlu : t < y.un
                · have hlu' : t < y.ups.length := by rw [← HUL.out]; exact hlu
                  obtain ⟨b, hb, z0, z1⟩ := (HU.out.keep hB2.out).at_ t _ (List.getElem?_eq_getElem hlu')
                  have HTK := Lib.hid (List.take_succ_eq_append_getElem hlu')
                  have k0 := cell_regrown z0
                  have k1 := cell_regrown z1
                  have k2 := cell_regrown q2'
                  have BW2 := bh BW hB2.out
                  obtain ⟨c0, c1, -, -⟩ := (V7.out.keep hB.out).keep hB2.out
                  have v0 := cell_regrown c0
                  have v1 := cell_regrown c1
                  obtain ⟨p, hp⟩ : ∃ p, p = y.ups[t] := ⟨_, rfl⟩
                  rw [← hp] at k0 k1 z0 z1 HTK
                  clear hp
                  rw [hb] at k2 q2'
                  have HPS := Lib.hid (show p ≠ x.u → ∀ q ∈ y.ups.take (t + 1), q ≠ x.u from fun hp q hq => by
                    rw [HTK.out] at hq
                    rcases List.mem_append.1 hq with hq | hq
                    · exact hP.out q hq
                    · simp only [List.mem_cons, List.not_mem_nil, or_false] at hq; subst hq; exact hp)
                  by_cases he : p = x.u
                  · rw [he] at k0 k1
                    clear z0 z1 c0 c1 he
                    go_wp2_with fail
                    refine wp_region_quiet_below (by kernel_rfl) (by kernel_rfl) ?_
                    repeat (first | go_big_quiet_step (fail) | quiet_step (fail))
                    refine wpQuiet_nil ?_
                    intro w9 hw'
                    have b9 := Lib.hid (show Below wr.heap.size wr w9 by obtain ⟨⟨d, os⟩, rfl⟩ := hw'; exact below_regrown _ _ _)
                    clear hw'
                    have BX := bh BW2 b9.out
                    clear k0 k1 k2 v0 v1
                    go_wp2_with fail
                    go_ret
                    exact ⟨rfl, BX.out⟩
                  · have hne2 := uid_ne he
                    have HP2 := Lib.hid (HPS.out he)
                    clear z0 z1 c0 c1 he
                    rcases hne2 with e1 | ⟨e1, e2⟩
                    · go_wp2_with fail
                      refine wp_region_quiet_below (by kernel_rfl) (by kernel_rfl) ?_
                      repeat (first | go_big_quiet_step (fail) | quiet_step (fail))
                      refine wpQuiet_nil ?_
                      intro w9 hw'
                      have b9 := Lib.hid (show Below wr.heap.size wr w9 by obtain ⟨⟨d, os⟩, rfl⟩ := hw'; exact below_regrown _ _ _)
                      clear hw'
                      have BX := bhid hB2 b9 (Nat.le_refl _)
                      clear k0 k1 k2 v0 v1
                      go_wp2_with fail
                      go_roundw
                      case rel => exact ⟨t + 1, by omega, by go_num, HP2, BX⟩
                      case measure => simp [intOf]; omega
                    · go_wp2_with fail
                      refine wp_region_quiet_below (by kernel_rfl) (by kernel_rfl) ?_
                      repeat (first | go_big_quiet_step (fail) | quiet_step (fail))
                      refine wpQuiet_nil ?_
                      intro w9 hw'
                      have b9 := Lib.hid (show Below wr.heap.size wr w9 by obtain ⟨⟨d, os⟩, rfl⟩ := hw'; exact below_regrown _ _ _)
                      clear hw'
                      have BX := bhid hB2 b9 (Nat.le_refl _)
                      clear k0 k1 k2 v0 v1
                      go_wp2_with fail
                      go_roundw
                      case rel => exact ⟨t + 1, by omega, by go_num, HP2, BX⟩
                      case measure => simp [intOf]; omega
                · have HNO := Lib.hid (HST.out (fun hm => hP.out x.u (by rw [List.take_of_length_le (by rw [← HUL.out]; omega)]; exact hm) rfl))
                  have BX := bhid hB hB2 (Nat.le_refl _)
                  go_wp2_with fail
                  go_roundw
                  case rel => exact ⟨k + 1, by omega, by go_num, HNO, BX⟩
                  case measure => simp [intOf]; omega
            · have HNO := Lib.hid (show ∀ y ∈ E, x.u ∉ y.ups by
                have := hN.out
                rwa [List.take_of_length_le (by rw [← HL.out]; omega)] at this)
              have P8 := Lib.hid (P7.out.keep hB.out)
              have HE8 := Lib.hid (HE7.out.keep hB.out)
              have K1 := Lib.hid (ent_Above A n c E (a1, a2) w8 (HH.out.keep BW.out) UA.out)
              have K2 := Lib.hid (fun w' hb => ent_Above A5 m c5 (E ++ [x]) (a1, a2) w' (HE8.out.keep (w' := w') hb) UA.out)
              unfold udV at K1 K2
              obtain ⟨d0, d1, -, -⟩ := P8.out
              go_wp2_with fail
              refine K1.out.mono ?_
              rintro e w9 ⟨A9, n9, c9, U, rfl, hus, -, hup, b9⟩
              have P9 := Lib.hid (P8.out.keep b9)
              have B9 := bh BW b9
              have HUS := Lib.hid hus
              have HUP := Lib.hid (hup HS1.out)
              have K2' := Lib.hid (K2.out w9 b9)
              clear hus hup b9 K1 K2 d0 d1 P8
              obtain ⟨d0, d1, -, -⟩ := P9.out
              rw [HS1.out, errV_zero]
              go_wp2_with fail
              refine K2'.out.mono ?_
              rintro e w10 ⟨A10, n10, c10, U', rfl, hus, -, hup, b10⟩
              have B10 := bh B9 b10
              have HUS1 := Lib.hid (HUS.out.keep b10)
              have HUS2 := Lib.hid hus
              have HEQ := Lib.hid (leaf_up HAX.out HNO.out HUP.out (hup HS2.out))
              clear hus hup b10 d0 d1 K2'
              rw [HS2.out, errV_zero]
              go_wp2_with fail
              refine (same_Uids _ _ _ _ _ _ _ _ w10 HUS1.out HUS2.out).mono ?_
              rintro e w11 ⟨rfl, b11⟩
              have B11 := bh B10 b11
              rw [decide_eq_true HEQ.out]
              go_wp2_with fail
              go_ret
              exact ⟨rfl, B11.out⟩
    · rw [errV_ne hs2]
      generalize storeF (E ++ [x]) = f at *
      clear hs2
      go_wp2_with fail
      go_ret
      exact ⟨rfl, B7.out⟩
  · rw [errV_ne hs1]
    generalize storeF E = f at *
    clear hs1
    go_wp2_with fail
    go_ret
    exact ⟨rfl, B6.out⟩
end Go.Proofs.YtbjbimabgfpdoaaGreat
