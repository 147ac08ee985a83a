/-
  ent.Check: what is wrong with a store.
  The reference's Ups and Over: those above one, step by step.
-/
import Derived.Maps.RangeWalk
import Derived.Test.YtnolmlhcikcceaaGreatDoorQt27
namespace Go.Proofs.YtnolmlhcikcceaaGreatDoor
open Go.RowKit Go.Wk Go.Maps
set_option maxRecDepth 100000

/-- What is wrong with entities, one by one. -/
def entsFault : List En → List En → Int
  | _, [] => 0
  | M, x :: r => if uidFault x.u = 0 then (if hadE M x.u = true then 6 else if entF x = 0 then entsFault (M ++ [x]) r else entF x) else uidFault x.u
open Classical in
/-- What is wrong with a store. -/
noncomputable def storeF (E : List En) : Int := if 16 < E.length then 4 else if entsFault [] E = 0 then (if ∃ x ∈ E, Abv (graphE E) x.u x.u then 7 else 0) else entsFault [] E
theorem ents_step {L : List En} {k : Nat} (h : k < L.length) : entsFault (L.take k) (L.drop k) = if uidFault L[k].u = 0 then (if hadE (L.take k) L[k].u = true then 6 else if entF L[k] = 0 then entsFault (L.take (k + 1)) (L.drop (k + 1)) else entF L[k]) else uidFault L[k].u := by
  rw [List.drop_eq_getElem_cons h, List.take_succ_eq_append_getElem h]
  rfl
theorem entF_ups {x : En} (h : entF x = 0) : x.ups.length ≤ 6 := by
  unfold entF at h
  split at h
  · cases h
  · omega
theorem ents_ok : ∀ (r M : List En), entsFault M r = 0 → (∀ x ∈ r, uidFault x.u = 0 ∧ entF x = 0) ∧ (∀ x ∈ r, ∀ y ∈ M, y.u ≠ x.u) ∧ (r.map En.u).Nodup
  | [], _, _ => ⟨fun x hx => (nomatch hx), fun x hx => (nomatch hx), List.nodup_nil⟩
  | x :: r, M, h => by
    unfold entsFault at h
    by_cases h1 : uidFault x.u = 0
    · rw [if_pos h1] at h
      by_cases h2 : hadE M x.u = true
      · rw [if_pos h2] at h; cases h
      · rw [if_neg h2] at h
        by_cases h3 : entF x = 0
        · rw [if_pos h3] at h
          obtain ⟨a, b, c⟩ := ents_ok r _ h
          refine ⟨fun y hy => ?_, fun y hy z hz => ?_, ?_⟩
          · rcases List.mem_cons.1 hy with rfl | hy
            · exact ⟨h1, h3⟩
            · exact a y hy
          · rcases List.mem_cons.1 hy with rfl | hy
            · exact fun e => h2 (hadE_iff.2 ⟨z, hz, e⟩)
            · exact b y hy z (List.mem_append_left _ hz)
          · rw [List.map_cons, List.nodup_cons]
            refine ⟨fun hm => ?_, c⟩
            obtain ⟨y, hy, e⟩ := List.mem_map.1 hm
            exact b y hy x (by simp) e.symm
        · rw [if_neg h3] at h; exact absurd h h3
    · rw [if_neg h1] at h; exact absurd h h1
theorem allUps_len : ∀ (E : List En), (∀ x ∈ E, entF x = 0) → (allUps E).length ≤ 6 * E.length
  | [], _ => Nat.le_refl _
  | x :: r, h => by
    have h1 := allUps_len r (fun y hy => h y (by simp [hy]))
    have h2 := entF_ups (h x (by simp))
    unfold allUps at h1 ⊢
    rw [List.flatMap_cons, List.length_append, List.length_cons]
    omega
theorem has_mapU (L : List (Ud × Value)) (kl : Lit) : has (mapU L) kl = true ↔ ∃ x ∈ L, kl = keyU x.1 := by
  refine snoc_ind (C := fun L => has (mapU L) kl = true ↔ ∃ x ∈ L, kl = keyU x.1) ?_ (fun L p ih => ?_) L
  · exact ⟨fun h => absurd h (by simp [mapU, has]), fun ⟨x, hx, _⟩ => by cases hx⟩
  · rw [mapU_snoc]
    by_cases h : kl = keyU p.1
    · subst h
      rw [has_put_same (isMap_mapU L) (keyU_lit _)]
      exact ⟨fun _ => ⟨p, by simp, rfl⟩, fun _ => rfl⟩
    · rw [has_put_other h, ih]
      constructor
      · rintro ⟨x, hx, e⟩; exact ⟨x, by simp [hx], e⟩
      · rintro ⟨x, hx, e⟩
        rcases List.mem_append.1 hx with hx | hx
        · exact ⟨x, hx, e⟩
        · simp only [List.mem_cons, List.not_mem_nil, or_false] at hx; subst hx; exact absurd e h
/-- In the midst of the range over the store. -/
structure RgAt (w wr : World) (E : List En) (B n r : Nat) (left : Lit → Bool) (cnt : Nat) : Prop where
  rg : wr.ranges Tryz.prog 33 heldR B r n (mapU (putsE E)) left cnt
  has : ∀ kl, left kl = true → ∃ x ∈ E, kl = keyU x.u
  seen : ∀ x ∈ E, left (keyU x.u) = false → ¬ Abv (graphE E) x.u x.u
  below : Below w.heap.size w wr
theorem RgAt.start {w wr : World} {E : List En} {B n r cnt : Nat} (h : wr.ranges Tryz.prog 33 heldR B r n (mapU (putsE E)) (Maps.has (mapU (putsE E))) cnt) (hb : Below w.heap.size w wr) : RgAt w wr E B n r (Maps.has (mapU (putsE E))) cnt :=
  { rg := h
    has := fun kl hk => by
      obtain ⟨y, hy, e⟩ := (has_mapU _ _).1 hk
      obtain ⟨x, hx, rfl⟩ := List.mem_map.1 hy
      exact ⟨x, hx, e⟩
    seen := fun x hx hf => by
      have : Maps.has (mapU (putsE E)) (keyU x.u) = true := (has_mapU _ _).2 ⟨(x.u, x.v), List.mem_map.2 ⟨x, hx, rfl⟩, rfl⟩
      rw [this] at hf; cases hf
    below := hb }
theorem RgAt.step {w wr w' : World} {E : List En} {B n r cnt cnt' : Nat} {left : Lit → Bool} (h : RgAt w wr E B n r left cnt) (hok : ∀ x ∈ E, UOk x.u) {y : En} (hy : y ∈ E) (hno : ¬ Abv (graphE E) y.u y.u)
    (hr : w'.ranges Tryz.prog 33 heldR B r n (mapU (putsE E)) (fun z => left z && !z.sameKey (keyU y.u)) cnt') (hb : Below w.heap.size w w') : RgAt w w' E B n r (fun z => left z && !z.sameKey (keyU y.u)) cnt' :=
  ⟨hr, fun kl hk => h.has kl (by
    have : (left kl && !kl.sameKey (keyU y.u)) = true := hk
    rw [Bool.and_eq_true] at this
    exact this.1), fun x hx hf => by
    by_cases h1 : left (keyU x.u) = true
    · have hf' : (left (keyU x.u) && !(keyU x.u).sameKey (keyU y.u)) = false := hf
      rw [h1, Bool.true_and] at hf'
      have h2 : (keyU x.u).sameKey (keyU y.u) = true := by simpa using hf'
      have e := keyU_inj (hok x hx) (hok y hy) (WideAt.sameKey_eq h2)
      rw [e]; exact hno
    · exact h.seen x hx (by simpa using h1), hb⟩

theorem cell_block_lt {w : World} {a : Addr} {v : Value} (h : w.cell? a = some v) : a.block < w.heap.size := by
  rcases Nat.lt_or_ge a.block w.heap.size with h1 | h1
  · exact h1
  · have : w.heap[a.block]? = none := Array.getElem?_eq_none h1
    simp [World.cell?, this] at h
theorem Es.enok {w : World} {A : Option Addr} {n c : Nat} {E : List En} (h : Es w A n c E) : ∀ x ∈ E, EnOk w x := fun x hx => by
  obtain ⟨k, hk, rfl⟩ := List.getElem_of_mem hx
  obtain ⟨_, _, _, _, _, _, h6⟩ := h.at_ k _ (List.getElem?_eq_getElem hk)
  exact h6
/-- The store of entities that came in. -/
theorem Es.store {w w' : World} {A : Option Addr} {n c bs bm : Nat} {E : List En} (h : Es w A n c E) (hb : Below w.heap.size w w') (hm : w'.ownsMap Tryz.prog 33 heldR bs E.length (mapU (putsE E))) (hne : bs ≠ bm) (hs : w.heap.size ≤ bm) : StoreAt w' bs bm E :=
  ⟨hm, hne, fun x hx => ((h.keep hb).enok x hx).us, fun x hx hp a ha e => by
    obtain ⟨a', e', h1, _⟩ := (h.enok x hx).us.at_ 0 _ (List.getElem?_eq_getElem hp)
    rw [ha] at e'
    injection e' with e'
    injection e with e
    have := cell_block_lt h1
    rw [add_block, ← e', ← e] at this
    omega⟩

set_option maxHeartbeats 4000000 in
theorem ent_Check (A : Option Addr) (n c : Nat) (E : List En) (w : World) (h : Es w A n c E) :
    Calls Tryz.prog 16 #[.slice A n c] w fun e w' => e = .returned (errV (storeF E)) ∧ Below w.heap.size w w' := by
  have hlen := h.len
  by_cases h16 : 16 < n
  · have HE := Lib.hid (show storeF E = 4 by unfold storeF; rw [if_pos (by omega)])
    rw [HE.out]
    clear hlen h
    go_enter Tryz.func16, Tryz.ntmps16
    go_wp2_with fail
    go_ret
    exact ⟨rfl, Below.refl _ _⟩
  · have HE := Lib.hid (show storeF E = _ by unfold storeF; rw [if_neg (by omega)])
    generalize storeF E = SF at *
    have KW := Lib.hid (fun (u : Ud) (hu : UOk u) w => name_Write u.1 u.2 w hu.1 hu.2)
    have HH := Lib.hid h
    have HUO := Lib.hid h.uok
    have hcap := h.cap
    have HL := Lib.hid hlen
    have hd : decide ((16 : Int) < (n : Int)) = false := decide_eq_false (by omega)
    clear hlen h
    go_enter Tryz.func16, Tryz.ntmps16
    go_wp2_with fail
    go_loopw [3, 4, 5, 6, 7, 17] (fun _ _ _ _ _ i wr => ∃ k : Nat, k ≤ n ∧ i = .int .i64 k ∧ Hid (entsFault [] E = entsFault (E.take k) (E.drop k)) ∧ Hid (Below w.heap.size w wr)) (fun _ _ _ _ _ i _ => n - (intOf i).toNat)
    case atStart => exact ⟨0, Nat.zero_le _, rfl, rfl, Lib.hid (Below.refl _ _)⟩
    case round =>
      obtain ⟨k, hk, rfl, hF, hB⟩ := hrel
      by_cases hlt : k < n
      · have hlt' : k < E.length := by rw [← HL.out]; exact hlt
        have HS := Lib.hid (ents_step hlt')
        obtain ⟨a, rfl, q0, q1, q2, q3, -⟩ := (HH.out.at_.keep hB.out) k _ (List.getElem?_eq_getElem hlt')
        obtain ⟨_, -, -, -, -, -, hxo⟩ := (HH.out.at_) k _ (List.getElem?_eq_getElem hlt')
        have HXO := Lib.hid hxo
        have HUK := Lib.hid (HUO.out _ (List.getElem_mem hlt'))
        clear hxo
        generalize E[k] = x at *
        have K1 := Lib.hid (KW.out x.u HUK.out)
        go_wp2_with fail
        have B1 := bh hB (below_box wr (.cells #[.string x.u.1, .string x.u.2, .slice x.UA x.un x.uc, .slice x.NA x.nn x.nc] 38))
        have V1 := Lib.hid (vr4_new wr x 38)
        obtain ⟨w1, hw1⟩ : ∃ w1, wr.alloc (.cells #[.string x.u.1, .string x.u.2, .slice x.UA x.un x.uc, .slice x.NA x.nn x.nc] 38) = w1 := ⟨_, rfl⟩
        rw [hw1] at V1 B1 ⊢
        clear hw1 hB q0 q1 q2 q3
        refine (K1.out w1).mono ?_
        rintro e w2 ⟨rfl, b2⟩
        have B2 := bh B1 b2
        have V2 := Lib.hid (V1.out.keep b2)
        clear K1 b2 B1 V1
        by_cases hu : uidFault (x.u.1, x.u.2) = 0
        · have hu' : uidFault x.u = 0 := hu
          rw [hu, errV_zero]
          rw [if_pos hu'] at HS
          clear hu hu'
          have K2 := Lib.hid (ents_ContainsFunc (some a) k c (E.take k) x wr.heap.size w2 ((HH.out.keep B2.out).take hk) V2.out)
          go_wp2_with fail
          refine K2.out.mono ?_
          rintro e w3 ⟨rfl, b3⟩
          have B3 := bh B2 b3
          have V3 := Lib.hid (V2.out.keep b3)
          clear K2 b3 B2 V2
          rcases hh : hadE (E.take k) x.u with _ | _
          · rw [hh, if_neg (by decide)] at HS
            have K3 := Lib.hid (ent_one x w3 (HXO.out.keep B3.out))
            obtain ⟨c0, c1, c2, c3⟩ := V3.out
            unfold En.v at K3
            clear hh
            go_wp2_with fail
            refine K3.out.mono ?_
            rintro e w4 ⟨rfl, b4⟩
            have B4 := bh B3 b4
            clear K3 b4 B3 V3 c0 c1 c2 c3
            by_cases h1 : entF x = 0
            · rw [if_pos h1] at HS
              have HF := Lib.hid (hF.out.trans HS.out)
              rw [h1, errV_zero]
              clear h1 HS hF
              go_wp2_with fail
              go_roundw
              case rel => exact ⟨k + 1, by omega, by go_num, HF, B4⟩
              case measure => simp [intOf]; omega
            · rw [if_neg h1] at HS
              have HF := Lib.hid (hF.out.trans HS.out)
              have HE2 := Lib.hid (show SF = entF x by rw [HE.out, HF.out, if_neg h1])
              rw [errV_ne h1]
              have hun := Lib.hid h1
              clear h1 HS hF
              generalize entF x = f at *
              go_wp2_with fail
              go_ret
              exact ⟨by rw [HE2.out, errV_ne hun.out]; rfl, B4.out⟩
          · rw [hh, if_pos rfl] at HS
            have HF := Lib.hid (hF.out.trans HS.out)
            have HE2 := Lib.hid (show SF = 6 by rw [HE.out, HF.out]; rfl)
            clear hh HS hF
            go_wp2_with fail
            go_ret
            exact ⟨by rw [HE2.out]; rfl, B3.out⟩
        · have hu' : uidFault x.u ≠ 0 := hu
          rw [if_neg hu'] at HS
          have HE2 := Lib.hid (show SF = uidFault (x.u.1, x.u.2) by rw [HE.out, hF.out, HS.out, if_neg hu'])
          rw [errV_ne hu]
          have hun := Lib.hid hu
          clear hu hu' HS hF
          generalize uidFault (x.u.1, x.u.2) = f at *
          go_wp2_with fail
          go_ret
          exact ⟨by rw [HE2.out, errV_ne hun.out]; rfl, B2.out⟩
      · have HF := Lib.hid (show entsFault [] E = 0 by rw [hF.out, List.drop_of_length_le (by rw [← HL.out]; omega)]; rfl)
        have HE7 := Lib.hid (show (∃ x, x ∈ E ∧ Abv (graphE E) x.u x.u) → SF = 7 from fun hx => by rw [HE.out, if_pos HF.out, if_pos hx])
        have HE0 := Lib.hid (show ¬ (∃ x, x ∈ E ∧ Abv (graphE E) x.u x.u) → SF = 0 from fun hx => by rw [HE.out, if_pos HF.out, if_neg hx])
        clear HE
        obtain ⟨ho1, -, ho2⟩ := ents_ok E [] HF.out
        have HO1 := Lib.hid ho1
        have HO2 := Lib.hid ho2
        have K1 := Lib.hid (ent_stored A n c E wr (HH.out.keep hB.out) (by omega))
        clear hF ho1 ho2 KW
        go_wp2_with fail
        refine K1.out.mono ?_
        rintro e w1 ⟨b, rfl, hwb, hO, b1⟩
        have HO := Lib.hid hO
        have B1 := bh hB b1
        have WB := Lib.hid (show w.heap.size ≤ b from Nat.le_trans hB.out.size hwb)
        clear K1 hB hwb hO b1
        go_wp2_with (at_range; refine wpList_range_own _ rfl _ 98 rfl 33 38 uidKeyed Tryz.underlying98 heldR b n (mapU (putsE E)) rfl HO.out ?_; intro w2 hrg hg hs)
        go_frame
        have R2 := Lib.hid (RgAt.start (w := w) hrg (B1.out.grown hg B1.out.size (fun g hg => by cases hg)))
        have WR := Lib.hid (show w.heap.size ≤ w1.heap.size from B1.out.size)
        generalize w1.heap.size = r at *
        clear hrg hg hs HO B1
        generalize Maps.has (mapU (putsE E)) = left0 at *
        generalize Maps.size (mapU (putsE E)) = cnt0 at *
        go_loopw [9, 10] (fun _ _ wr => ∃ left cnt, Hid (RgAt w wr E b n r left cnt)) (fun _ _ wr => wr.rangeLeft b r)
        case atStart => exact ⟨_, _, R2⟩
        case round =>
          clear R2
          obtain ⟨left, cnt, hR⟩ := hrel
          go_wp2_with (at_next; refine wpList_next_ranges _ rfl _ rfl 33 uidKeyed heldR (fun v : Value => v) (fun v : Value => v) (fun key kl _ => ⟨key, rfl⟩) (fun v y _ => ⟨v, rfl⟩) b r n (mapU (putsE E)) left cnt rfl hR.out.rg ?_ ?_)
          · intro hc0 hl0
            have HE2 := Lib.hid (HE0.out (fun ⟨x, hx, h⟩ => hR.out.seen x hx (hl0 _) h))
            clear hc0 hl0
            go_wp2_with fail
            go_ret
            exact ⟨by rw [HE2.out]; rfl, hR.out.below⟩
          · intro x v kl y yp w2 cnt' hkey hlk hv hat hrg hlt' hgr hsz hen
            obtain ⟨e, he, rfl⟩ := hR.out.has kl hlk
            have hxe : x = udV e.u := uidKeyed.inj hkey (keyOf_ud e.u (HUO.out e he))
            subst hxe
            clear hkey hlk hv hat
            unfold udV at hen
            have R2 := Lib.hid hrg
            have B2 := Lib.hid (hR.out.below.grown hgr hR.out.below.size (fun g hg => by cases hg; exact WR.out))
            have HLT := Lib.hid hlt'
            have HE := Lib.hid he
            clear hrg hlt' hgr hsz he
            have hmm := @run_makeMap Tryz.prog
            have P3 := Lib.hid (vr2_new w2 (.string e.u.1) (.string e.u.2) 33)
            have B3 := bh B2 (below_box w2 (.cells #[.string e.u.1, .string e.u.2] 33))
            have R3 := Lib.hid (R2.out.alloc (.cells #[.string e.u.1, .string e.u.2] 33))
            go_wp2_with fail
            obtain ⟨w3, hw3⟩ : ∃ w3, w2.alloc (.cells #[.string e.u.1, .string e.u.2] 33) = w3 := ⟨_, rfl⟩
            have hs3 : w3.heap.size = w2.heap.size + 1 := by rw [← hw3]; simp
            rw [hw3] at P3 B3 R3 ⊢
            rw [← hs3]
            have HB2 := Lib.hid (show w2.heap.size ≠ w3.heap.size by omega)
            clear hw3 hs3 hen R2 B2
            have P4 := Lib.hid (P3.out.keep (below_box w3 (.map #[] 0)))
            have B4 := bh B3 (below_box w3 (.map #[] 0))
            have R4 := Lib.hid (R3.out.alloc (.map #[] 0))
            have M4 := Lib.hid (show MetAt (w3.alloc (.map #[] 0)) w3.heap.size [] from World.ownsMap_made _ _ _ _)
            have HB := Lib.hid R3.out.owns.lt
            have HR := Lib.hid R3.out.lt
            have HBM := Lib.hid B3.out.size
            have S4 := Lib.hid (HH.out.store B4.out (by rw [← HL.out]; exact R4.out.owns) (Nat.ne_of_lt HB.out) B3.out.size)
            generalize w3.alloc (.map #[] 0) = w4 at *
            generalize w3.heap.size = bm at *
            generalize w2.heap.size = bu at *
            have hun := Nat.le_trans (unmet_le (allUps E) []) (allUps_len E (fun x hx => (HO1.out x hx).2))
            have KA := Lib.hid (ent_above E b bm HO2.out HUO.out 100 w4 e.u [] (HUO.out e HE.out) (fun x hx => (nomatch hx)) (by have := HL.out; omega) (by have := HL.out; simp only [List.length_nil]; omega) S4.out M4.out)
            unfold udV at KA
            clear hun P3 B3 R3 M4 S4
            refine KA.out.mono ?_
            rintro e2 w5 ⟨rfl, M', hA, hok', -, hm', hg'⟩
            have M5 := Lib.hid hm'
            have R5 := Lib.hid (R4.out.kept hg' (by intro h; injection h with h; have := HB.out; omega) (by intro h; injection h with h; have := HR.out; omega))
            have c0 := hg'.cell P4.out.c0 (by intro h; injection h with h; exact HB2.out h)
            have c1 := hg'.cell P4.out.c1 (by intro h; injection h with h; exact HB2.out h)
            have B5 := Lib.hid (B4.out.grown hg' B4.out.size (fun g hg => by cases hg; exact HBM.out))
            have HK := Lib.hid (keyOf_ud e.u (HUO.out e HE.out))
            unfold udV at HK
            have HAM := Lib.hid (at_mapU (metM M') e.u (HUO.out e HE.out) (.int .i64 0) (metM_ok hok'))
            rw [lastU_met] at HAM
            have HAA := Lib.hid (adds_all hA e.u)
            clear hA hok' hm' hg' KA R4 P4 B4
            by_cases hp : e.u ∈ M'
            · rw [if_pos (hadU_iff.2 hp)] at HAM
              have HE2 := Lib.hid (HE7.out ⟨e, HE.out, HAA.out.1 hp⟩)
              clear hp
              go_wp2_with (at_lookup; refine wpList_lookup_at _ rfl _ _ 100 rfl 33 3 uidKeyed Tryz.underlying100 (zero_int _) bm M'.length _ rfl M5.out _ _ rfl HK.out _ HAM.out ?_)
              go_wp2_with fail
              go_ret
              exact ⟨by rw [HE2.out]; rfl, B5.out⟩
            · rw [if_neg (fun e => hp (hadU_iff.1 e))] at HAM
              have HNA := Lib.hid (fun h => hp (HAA.out.2 h))
              clear hp
              go_wp2_with (at_lookup; refine wpList_lookup_at _ rfl _ _ 100 rfl 33 3 uidKeyed Tryz.underlying100 (zero_int _) bm M'.length _ rfl M5.out _ _ rfl HK.out _ HAM.out ?_)
              go_wp2_with fail
              go_roundw
              case rel => exact ⟨_, _, Lib.hid (hR.out.step HUO.out HE.out HNA.out R5.out B5.out)⟩
              case measure => rw [R5.out.left_eq, hR.out.rg.left_eq]; exact HLT.out
end Go.Proofs.YtnolmlhcikcceaaGreatDoor
namespace Go.Proofs.YtnolmlhcikcceaaGreatDoor
open Go.RowKit Go.Wk
set_option maxRecDepth 100000

/-- A row of the call's own: a uid, and those found. -/
structure RowU (w : World) (B : Nat) (v : Value) (m : Nat) (u : Ud) (L : List Ud) : Prop where
  len : m = L.length + 1
  own : w.ownsRow B 33 2 v m (udCells (u :: L))
theorem RowU.keep {w w' : World} {B m : Nat} {v : Value} {u : Ud} {L : List Ud} (h : RowU w B v m u L) (hb : Below w.heap.size w w') : RowU w' B v m u L := ⟨h.len, own_kept_below h.own hb⟩
theorem RowU.us {w : World} {B m : Nat} {v : Value} {u : Ud} {L : List Ud} (h : RowU w B v m u L) (hu : UOk u) (hL : ∀ x ∈ L, UOk x) (hl : L.length ≤ 1000) : ∃ A c, v = .slice A m c ∧ Us w A m c (u :: L) := by
  have e : m = (u :: L).length := by rw [h.len]; rfl
  have h2 := h.own
  rw [e] at h2 ⊢
  exact us_of_own h2 (fun x hx => by
    rcases List.mem_cons.1 hx with rfl | hx
    · exact hu
    · exact hL x hx) (by simp; omega)
theorem RowU.base {w : World} {B m : Nat} {v : Value} {u : Ud} {L : List Ud} (h : RowU w B v m u L) : ∀ g, v.ownBlock = some g → B ≤ g := own_base h.own
end Go.Proofs.YtnolmlhcikcceaaGreatDoor
