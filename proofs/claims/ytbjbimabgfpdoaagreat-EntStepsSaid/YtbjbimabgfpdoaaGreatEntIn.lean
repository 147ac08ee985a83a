/-
  ent.In: is one another one, or above it.
-/
import Derived.Test.YtbjbimabgfpdoaaGreatEntChk
namespace Go.Proofs.YtbjbimabgfpdoaaGreat
open Go.RowKit Go.Wk Go.Maps
set_option maxRecDepth 100000

theorem store_ok {E : List En} (h : storeF E = 0) : E.length ≤ 16 ∧ entsFault [] E = 0 ∧ ∀ x ∈ E, ¬ Abv (graphE E) x.u x.u := by
  unfold storeF at h
  split at h
  · cases h
  · rename_i h1
    split at h
    · rename_i h2
      split at h
      · cases h
      · rename_i h3
        exact ⟨by omega, h2, fun x hx hc => h3 ⟨x, hx, hc⟩⟩
    · rename_i h2; exact absurd h h2
open Classical in
/-- What In tells. -/
noncomputable def inB (E : List En) (a b : Ud) : Bool := decide (storeF E = 0 ∧ (b = a ∨ Abv (graphE E) a b))
theorem Vr2.but {w w' : World} {b : Nat} {x y : Value} {g : Option Nat} (h : Vr2 w b x y) (hg : w.grownBy w' g) (hn : some b ≠ g) : Vr2 w' b x y :=
  have hl := block_lt_of_cell h.c0
  have hb := hg.block b hl hn
  ⟨(World.cell?_of_block (a := ⟨b, 0, none⟩) hb).trans h.c0, (World.cell?_of_block (a := ⟨b, 1, none⟩) hb).trans h.c1, (World.frozen?_of_block (a := ⟨b, 0, none⟩) hb).trans h.z0, (World.frozen?_of_block (a := ⟨b, 1, none⟩) hb).trans h.z1⟩
theorem below_drew (w : World) : Below w.heap.size w w.drew := ⟨rfl, rfl, rfl, Nat.le_refl _, fun _ _ => rfl⟩
theorem inB_true {E : List En} {a b : Ud} (hs : storeF E = 0) (h : b = a ∨ Abv (graphE E) a b) : inB E a b = true := by unfold inB; exact @decide_eq_true _ (_) ⟨hs, h⟩
theorem inB_false {E : List En} {a b : Ud} (h : ¬ (b = a ∨ Abv (graphE E) a b)) : inB E a b = false := by unfold inB; exact @decide_eq_false _ (_) fun h2 => h h2.2
theorem inB_bad {E : List En} {a b : Ud} (h : storeF E ≠ 0) : inB E a b = false := by unfold inB; exact @decide_eq_false _ (_) fun h2 => h h2.1

set_option maxHeartbeats 4000000 in
theorem ent_In (A : Option Addr) (n c : Nat) (E : List En) (a b : Ud) (w : World) (h : Es w A n c E) (ha : UOk a) (hb : UOk b) :
    Calls Tryz.prog 8 #[.slice A n c, udV a, udV b] w fun e w' => e = .returned (.tuple #[.bool (inB E a b), errV (storeF E)]) ∧ Below w.heap.size w w' := by
  have hmm := @run_makeMap Tryz.prog
  have HH := Lib.hid h
  have HUO := Lib.hid h.uok
  have HL := Lib.hid h.len
  have HA := Lib.hid ha
  have HBO := Lib.hid hb
  clear h ha hb
  unfold udV
  go_enter Tryz.func8, Tryz.ntmps8
  go_wp2_with fail
  have hsz : (w.alloc (.cells #[.string a.1, .string a.2] 24)).heap.size = w.heap.size + 1 := by simp
  have P0 := Lib.hid (vr2_new w (.string a.1) (.string a.2) 24)
  have B0 := Lib.hid (below_box w (.cells #[.string a.1, .string a.2] 24))
  obtain ⟨w0, hw0⟩ : ∃ w0, w.alloc (.cells #[.string a.1, .string a.2] 24) = w0 := ⟨_, rfl⟩
  rw [hw0] at P0 B0 hsz ⊢
  rw [← hsz]
  have HZ := Lib.hid (show w.heap.size ≠ w0.heap.size by omega)
  clear hw0 hsz
  have P1 := Lib.hid (P0.out.keep (below_box w0 (.cells #[.string b.1, .string b.2] 24)))
  have Q1 := Lib.hid (vr2_new w0 (.string b.1) (.string b.2) 24)
  have B1 := bh B0 (below_box w0 (.cells #[.string b.1, .string b.2] 24))
  obtain ⟨w1, hw1⟩ : ∃ w1, w0.alloc (.cells #[.string b.1, .string b.2] 24) = w1 := ⟨_, rfl⟩
  have HZ1 := Lib.hid (show w0.heap.size < w1.heap.size by rw [← hw1]; simp)
  rw [hw1] at P1 Q1 B1 ⊢
  have HZ0 := Lib.hid (show w.heap.size < w1.heap.size by have := B0.out.size; have := HZ1.out; omega)
  clear hw1 P0 B0
  generalize w.heap.size = ba at P1 HZ HZ0 ⊢
  generalize w0.heap.size = bb at *
  have K1 := Lib.hid (ent_Check A n c E w1 (HH.out.keep B1.out))
  refine K1.out.mono ?_
  rintro e w2 ⟨rfl, b2⟩
  have P2 := Lib.hid (P1.out.keep b2)
  have Q2 := Lib.hid (Q1.out.keep b2)
  have B2 := bh B1 b2
  have HZ2 := Lib.hid (show ba < w2.heap.size by have := HZ0.out; have := b2.size; omega)
  have HZ3 := Lib.hid (show bb < w2.heap.size by have := HZ1.out; have := b2.size; omega)
  clear K1 P1 Q1 B1 b2
  by_cases hs : storeF E = 0
  · obtain ⟨hs1, hs2, -⟩ := store_ok hs
    obtain ⟨ho1, -, ho2⟩ := ents_ok E [] hs2
    have HO1 := Lib.hid ho1
    have HO2 := Lib.hid ho2
    have H16 := Lib.hid hs1
    have HIN1 := Lib.hid (show (b = a ∨ Abv (graphE E) a b) → inB E a b = true from inB_true hs)
    have HIN0 := Lib.hid (show ¬ (b = a ∨ Abv (graphE E) a b) → inB E a b = false from inB_false)
    have HSE := Lib.hid hs
    rw [hs, errV_zero]
    clear hs hs1 hs2 ho1 ho2
    have HK := Lib.hid (keyOf_ud a HA.out)
    unfold udV at HK
    obtain ⟨c0, c1⟩ := P2.out.keep (below_box w2 (.map #[] 0))
    have M3 := Lib.hid (show MetAt (w2.alloc (.map #[] 0)) w2.heap.size [] from World.ownsMap_made _ _ _ _)
    have P3 := Lib.hid (P2.out.keep (below_box w2 (.map #[] 0)))
    have Q3 := Lib.hid (Q2.out.keep (below_box w2 (.map #[] 0)))
    have B3 := bh B2 (below_box w2 (.map #[] 0))
    have HBM := Lib.hid (show w.heap.size ≤ w2.heap.size from B2.out.size)
    clear P2 Q2 B2
    obtain ⟨w4, hrun, hown, hgrow⟩ := World.ownsMap.update (t := 43) M3.out uidKeyed Tryz.underlying43 (by decide) (val := .int .i64 1) HK.out (R := heldR) rfl
    have M4 := Lib.hid (show MetAt w4 w2.heap.size [a] from hown)
    have P4 := Lib.hid (P3.out.but hgrow (by intro h; injection h with h; have := HZ2.out; rw [h] at this; exact Nat.lt_irrefl _ this))
    have Q4 := Lib.hid (Q3.out.but hgrow (by intro h; injection h with h; have := HZ3.out; rw [h] at this; exact Nat.lt_irrefl _ this))
    have B4 := Lib.hid (B3.out.grown hgrow B3.out.size (fun g hg => by cases hg; exact HBM.out))
    clear hown hgrow P3 Q3 B3 M3
    have K2 := Lib.hid (fun w' (hb : Below w.heap.size w w') => ent_stored A n c E w' (HH.out.keep (hb)) (by have := HL.out; have := H16.out; omega))
    go_wp2_with fail
    clear hrun c0 c1
    generalize w2.heap.size = bm at *
    have hun := Nat.le_trans (unmet_le (allUps E) [a]) (allUps_len E (fun x hx => (HO1.out x hx).2))
    have KA := Lib.hid (fun (bs : Nat) (w' : World) (hS : StoreAt w' bs bm E) (hM : MetAt w' bm [a]) => ent_above E bs bm HO2.out HUO.out 101 w' a [a] HA.out (fun x hx => by simp only [List.mem_cons, List.not_mem_nil, or_false] at hx; subst hx; exact HA.out) (by have := H16.out; omega) (by have := H16.out; simp only [List.length_cons, List.length_nil]; omega) hS hM)
    unfold udV at KA
    have PD := Lib.hid (P4.out.keep (below_drew w4))
    have QD := Lib.hid (Q4.out.keep (below_drew w4))
    have MD := Lib.hid (show MetAt w4.drew bm [a] from M4.out)
    have BD := Lib.hid (show Below w.heap.size w w4.drew from B4.out.trans ((below_drew w4).mono B4.out.size))
    obtain ⟨c0, c1, -, -⟩ := PD.out
    have HLM := Lib.hid (show bm < w4.drew.heap.size from MD.out.lt)
    clear hun P4 Q4 M4 B4
    go_region_with (first
      | (go_at_call 11; (refine (K2.out _ BD.out).mono ?_); rintro e w5 ⟨bs, rfl, hbs, hO, b5⟩; (have P5 := Lib.hid (PD.out.keep b5)); (have Q5 := Lib.hid (QD.out.keep b5)); (obtain ⟨d0, d1, -, -⟩ := PD.out.keep b5); (have B5 := Lib.hid (BD.out.trans (b5.mono BD.out.size))); (have KA5 := Lib.hid (KA.out bs w5 (HH.out.store B5.out (by rw [← HL.out]; exact hO) (Nat.ne_of_gt (Nat.lt_of_lt_of_le HLM.out hbs)) HBM.out) (ownsMap_keep MD.out b5))); clear hbs hO b5)
      | (go_at_call 12; (refine KA5.out.mono ?_); rintro e2 w6 ⟨rfl, M', hA, hok', hc', hm', hg'⟩))
    all_goals
      have M6 := Lib.hid hm'
      have B6 := Lib.hid (B5.out.grown hg' B5.out.size (fun g hg => by cases hg; exact HBM.out))
      obtain ⟨f0, f1, -, -⟩ := Q5.out.but hg' (by intro h; injection h with h; have := HZ3.out; rw [h] at this; exact Nat.lt_irrefl _ this)
      have HAA := Lib.hid (adds_from hA b)
      have HKB := Lib.hid (keyOf_ud b HBO.out)
      unfold udV at HKB
      have HAM := Lib.hid (at_mapU (metM M') b HBO.out (.int .i64 0) (metM_ok hok'))
      rw [lastU_met] at HAM
      clear hA hok' hc' hm' hg' d0 d1 KA5 KA P5 Q5 PD QD c0 c1
    all_goals
      by_cases hp : b ∈ M'
      · rw [if_pos (hadU_iff.2 hp)] at HAM
        have HE2 := Lib.hid (HIN1.out (HAA.out.1 hp))
        clear hp
        go_wp2_with (at_lookup; refine wpList_lookup_at _ rfl _ _ 43 rfl 24 3 uidKeyed Tryz.underlying43 (zero_int _) bm M'.length _ rfl M6.out _ _ rfl HKB.out _ HAM.out ?_)
        go_wp2_with fail
        go_ret2
        exact ⟨by rw [HE2.out, HSE.out]; rfl, B6.out⟩
      · rw [if_neg (fun e => hp (hadU_iff.1 e))] at HAM
        have HE2 := Lib.hid (HIN0.out (fun h => hp (HAA.out.2 h)))
        clear hp
        go_wp2_with (at_lookup; refine wpList_lookup_at _ rfl _ _ 43 rfl 24 3 uidKeyed Tryz.underlying43 (zero_int _) bm M'.length _ rfl M6.out _ _ rfl HKB.out _ HAM.out ?_)
        go_wp2_with fail
        go_ret2
        exact ⟨by rw [HE2.out, HSE.out]; rfl, B6.out⟩
  · have hse := Lib.hid hs
    rw [errV_ne hs]
    clear hs
    go_wp2_with fail
    go_ret2
    exact ⟨by rw [errV_ne hse.out, inB_bad hse.out]; rfl, B2.out⟩
end Go.Proofs.YtbjbimabgfpdoaaGreat
