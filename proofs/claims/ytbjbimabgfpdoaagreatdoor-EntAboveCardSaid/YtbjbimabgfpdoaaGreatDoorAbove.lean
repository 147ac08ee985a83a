/-
  (ent.store).above: all that are above one, each once.
-/
import Derived.Test.YtbjbimabgfpdoaaGreatDoorStored
namespace Go.Wk
/-- The store as a graph. -/
def uniq (l : List Ud) : Prop := l.Nodup
/-- How many of these are not met yet. -/
def unmet (K M : List Ud) : Nat := (K.filter fun p => !hadU M p).length
theorem unmet_le (K M : List Ud) : unmet K M ≤ K.length := List.length_filter_le _ _
theorem unmet_mono {K M M' : List Ud} (h : ∀ x ∈ M, x ∈ M') : unmet K M' ≤ unmet K M := by
  induction K with
  | nil => exact Nat.le_refl _
  | cons x K ih =>
    unfold unmet at ih ⊢
    simp only [List.filter_cons]
    by_cases h1 : hadU M x = true
    · rw [hadU_iff.2 (h x (hadU_iff.1 h1)), h1]; simpa using ih
    · have h1' : hadU M x = false := by simpa using h1
      rw [h1']
      by_cases h2 : hadU M' x = true
      · rw [h2]; simp; omega
      · have h2' : hadU M' x = false := by simpa using h2
        rw [h2']; simp; omega
theorem unmet_snoc {K M : List Ud} {p : Ud} (hp : p ∈ K) (hn : p ∉ M) : unmet K (M ++ [p]) < unmet K M := by
  induction K with
  | nil => cases hp
  | cons x K ih =>
    have hle := unmet_mono (K := K) (M := M) (M' := M ++ [p]) (fun y hy => List.mem_append_left _ hy)
    unfold unmet at ih hle ⊢
    simp only [List.filter_cons]
    by_cases hx : x = p
    · subst hx
      have h1 : hadU M x = false := hadU_not.2 hn
      have h2 : hadU (M ++ [x]) x = true := hadU_iff.2 (by simp)
      rw [h1, h2]; simp; omega
    · have hpk : p ∈ K := by
        rcases List.mem_cons.1 hp with h | h
        · exact absurd h.symm hx
        · exact h
      have := ih hpk
      have e : hadU (M ++ [p]) x = hadU M x := by
        rw [Bool.eq_iff_iff, hadU_iff, hadU_iff, List.mem_append]
        constructor
        · rintro (h | h)
          · exact h
          · simp only [List.mem_cons, List.not_mem_nil, or_false] at h; exact absurd h hx
        · exact fun h => .inl h
      rw [e]
      by_cases h1 : hadU M x = true
      · rw [h1]; simpa using this
      · have h1' : hadU M x = false := by simpa using h1
        rw [h1']; simp; omega
/-- What above adds to what was met. -/
structure Adds (G : List (Ud × List Ud)) (u : Ud) (M M' : List Ud) : Prop where
  sub : ∀ x ∈ M, x ∈ M'
  sound : ∀ x ∈ M', x ∈ M ∨ Abv G u x
  here : ∀ p, Stp G u p → p ∈ M'
  shut : ∀ x ∈ M', x ∉ M → ∀ p, Stp G x p → p ∈ M'
theorem adds_all {G : List (Ud × List Ud)} {u : Ud} {M' : List Ud} (h : Adds G u [] M') (x : Ud) : x ∈ M' ↔ Abv G u x :=
  ⟨fun hx => (h.sound x hx).resolve_left (by simp), abv_closed (C := fun y => y ∈ M') (fun y hy p hp => h.shut y hy (by simp) p hp) h.here x⟩
theorem adds_from {G : List (Ud × List Ud)} {a : Ud} {M' : List Ud} (h : Adds G a [a] M') (x : Ud) : x ∈ M' ↔ x = a ∨ Abv G a x := by
  constructor
  · intro hx
    rcases h.sound x hx with h1 | h1
    · simp only [List.mem_cons, List.not_mem_nil, or_false] at h1; exact .inl h1
    · exact .inr h1
  · rintro (rfl | h1)
    · exact h.sub _ (by simp)
    · exact abv_closed (C := fun y => y ∈ M') (fun y hy p hp => by
        by_cases e : y = a
        · subst e; exact h.here p hp
        · exact h.shut y hy (by simpa using e) p hp) h.here x h1
end Go.Wk
namespace Go.Proofs.YtbjbimabgfpdoaaGreatDoor
open Go.RowKit Go.Wk Go.Maps
set_option maxRecDepth 100000

theorem Us.but0 {w w' : World} {A : Option Addr} {n c : Nat} {P : List Ud} {g : Option Nat} (h : Us w A n c P) (hg : w.grownBy w' g) (hR : 0 < P.length → ∀ a, A = some a → g ≠ some a.block) : Us w' A n c P := by
  rcases Nat.eq_zero_or_pos P.length with h0 | h0
  · have : P = [] := List.eq_nil_of_length_eq_zero h0
    subst this
    exact ⟨h.len, h.cap, h.max, fun k x hx => by simp at hx, h.ok⟩
  · exact h.but hg (hR h0)
/-- The store, as above reads it beside the map of those met. -/
structure StoreAt (w : World) (bs bm : Nat) (E : List En) : Prop where
  map : w.ownsMap Tryz.prog 30 heldR bs E.length (mapU (putsE E))
  ne : bs ≠ bm
  ups : ∀ x ∈ E, Us w x.UA x.un x.uc x.ups
  ap : ∀ x ∈ E, 0 < x.ups.length → ∀ a, x.UA = some a → some bm ≠ some a.block
theorem StoreAt.grown {w w' : World} {bs bm : Nat} {E : List En} (h : StoreAt w bs bm E) (hg : w.grownBy w' (some bm)) : StoreAt w' bs bm E :=
  ⟨ownsMap_block h.map (hg.block bs h.map.lt (fun e => h.ne (by injection e))), h.ne, fun x hx => (h.ups x hx).but0 hg (h.ap x hx), h.ap⟩
def metM (M : List Ud) : List (Ud × Value) := M.map fun p => (p, .int .i64 1)
def MetAt (w : World) (bm : Nat) (M : List Ud) : Prop := w.ownsMap Tryz.prog 30 heldR bm M.length (mapU (metM M))
theorem lastU_met (M : List Ud) (p : Ud) : lastU (metM M) p = if hadU M p = true then some (.int .i64 1) else none := by
  induction M with
  | nil => rfl
  | cons x r ih =>
    have : hadU (x :: r) p = (decide (x = p) || hadU r p) := rfl
    simp only [metM, List.map_cons, lastU]
    have ih' : lastU (List.map (fun p => (p, Value.int .i64 1)) r) p = if hadU r p = true then some (.int .i64 1) else none := ih
    rw [ih', this]
    by_cases h1 : hadU r p = true
    · rw [h1]; simp
    · have h1' : hadU r p = false := by simpa using h1
      rw [h1']
      by_cases h2 : x = p
      · simp [h2]
      · simp [h2]
theorem metM_ok {M : List Ud} (h : ∀ x ∈ M, UOk x) : ∀ y ∈ metM M, UOk y.1 := fun y hy => by
  obtain ⟨x, hx, rfl⟩ := List.mem_map.1 hy
  exact h x hx
def graphE (E : List En) : List (Ud × List Ud) := E.map fun x => (x.u, x.ups)
def allUps (E : List En) : List Ud := E.flatMap fun x => x.ups
/-- What stands at a uid in the store: its Up. -/
theorem store_look {w : World} {bs bm : Nat} {E : List En} (h : StoreAt w bs bm E) (hn : (E.map En.u).Nodup) (hok : ∀ x ∈ E, UOk x.u) (u : Ud) (hu : UOk u) :
    ∃ (ty id : ByteArray) (UA : Option Addr) (un uc : Nat) (ups : List Ud) (NA : Option Addr) (nn nc : Nat),
      (mapU (putsE E)).atKey (keyU u) (.held zeroE) = .held (.agg #[.string ty, .string id, .slice UA un uc, .slice NA nn nc]) ∧ Us w UA un uc ups ∧
      (0 < ups.length → ∀ a, UA = some a → some bm ≠ some a.block) ∧ (∀ p, Stp (graphE E) u p ↔ p ∈ ups) ∧ ∀ p ∈ ups, p ∈ allUps E := by
  by_cases hx : ∃ x ∈ E, x.u = u
  · obtain ⟨x, hx, rfl⟩ := hx
    refine ⟨x.u.1, x.u.2, x.UA, x.un, x.uc, x.ups, x.NA, x.nn, x.nc, ?_, h.ups x hx, h.ap x hx, fun p => ⟨?_, fun hp => ⟨(x.u, x.ups), List.mem_map.2 ⟨x, hx, rfl⟩, rfl, hp⟩⟩, fun p hp => List.mem_flatMap.2 ⟨x, hx, hp⟩⟩
    · rw [at_mapU _ _ (hok x hx) _ (putsE_ok hok)]
      have : lastU (putsE E) x.u = some x.v := lastU_some (x := (x.u, x.v)) (by rw [putsE, List.map_map]; exact hn) (List.mem_map.2 ⟨x, hx, rfl⟩)
      rw [this]; rfl
    · rintro ⟨e, he, h1, h2⟩
      obtain ⟨y, hy, rfl⟩ := List.mem_map.1 he
      have : y = x := by
        obtain ⟨i, hi, rfl⟩ := List.getElem_of_mem hy
        obtain ⟨j, hj, rfl⟩ := List.getElem_of_mem hx
        have hp := List.pairwise_iff_getElem.1 hn
        rcases Nat.lt_trichotomy i j with hlt | he | hlt
        · have q := hp i j (by simpa using hi) (by simpa using hj) hlt
          rw [List.getElem_map, List.getElem_map] at q
          exact absurd h1 q
        · subst he; rfl
        · have q := hp j i (by simpa using hj) (by simpa using hi) hlt
          rw [List.getElem_map, List.getElem_map] at q
          exact absurd h1.symm q
      subst this; exact h2
  · refine ⟨⟨#[]⟩, ⟨#[]⟩, none, 0, 0, [], none, 0, 0, ?_, ⟨rfl, Nat.le_refl _, Nat.zero_le _, fun k x hx => by simp at hx, fun x hx => by cases hx⟩, fun h => absurd h (by simp), fun p => ⟨?_, fun h => by cases h⟩, fun p hp => by cases hp⟩
    · rw [at_mapU _ _ hu _ (putsE_ok hok), lastU_none]
      · rfl
      · intro y hy e
        obtain ⟨z, hz, rfl⟩ := List.mem_map.1 hy
        exact hx ⟨z, hz, e⟩
    · rintro ⟨e, he, h1, h2⟩
      obtain ⟨y, hy, rfl⟩ := List.mem_map.1 he
      exact absurd ⟨y, hy, h1⟩ hx
/-- In the midst of above's loop. -/
structure Mid (E : List En) (u : Ud) (ups M Mk : List Ud) (k : Nat) (w wr : World) (bm : Nat) : Prop where
  sub : ∀ x ∈ M, x ∈ Mk
  sound : ∀ x ∈ Mk, x ∈ M ∨ Abv (graphE E) u x
  here : ∀ p ∈ ups.take k, p ∈ Mk
  shut : ∀ x ∈ Mk, x ∉ M → ∀ p, Stp (graphE E) x p → p ∈ Mk
  ok : ∀ x ∈ Mk, UOk x
  cnt : Mk.length + unmet (allUps E) Mk ≤ M.length + unmet (allUps E) M
  met : MetAt wr bm Mk
  grow : w.grownBy wr (some bm)
/-- What above does. -/
def AbvPost (E : List En) (u : Ud) (M : List Ud) (w : World) (bm : Nat) (e : Ending) (w' : World) : Prop :=
  e = .returned (.tuple #[]) ∧ ∃ M', Adds (graphE E) u M M' ∧ (∀ x ∈ M', UOk x) ∧ M'.length + unmet (allUps E) M' ≤ M.length + unmet (allUps E) M ∧ MetAt w' bm M' ∧ w.grownBy w' (some bm)
theorem field_up (x y : Value) (A B : Option Addr) (n c m d : Nat) (w : World) : (Instr.field 36 (.agg #[x, y, .slice A n c, .slice B m d]) 1).run Tryz.prog w = .ok (.slice A n c) w := by kernel_rfl
theorem zero_int (w : World) : (zeroValue 3).run Tryz.prog w = .ok (.int .i64 0) w := by kernel_rfl
set_option maxHeartbeats 4000000 in
theorem ent_above (E : List En) (bs bm : Nat) (hn : (E.map En.u).Nodup) (hok : ∀ x ∈ E, UOk x.u) : ∀ (m : Nat) (w : World) (u : Ud) (M : List Ud), UOk u → (∀ x ∈ M, UOk x) → unmet (allUps E) M < m → M.length + unmet (allUps E) M ≤ 1000000 →
    StoreAt w bs bm E → MetAt w bm M → Calls Tryz.prog 30 #[.map (some bs), udV u, .map (some bm)] w (AbvPost E u M w bm) := by
  intro m
  induction m with
  | zero => intro w u M _ _ h; omega
  | succ m ih =>
    intro w u M hu hM hm hc hS hMet
    obtain ⟨ty, id, UA, un, uc, ups, NA, nn, nc, hat, hus, hap, hstp, hin⟩ := store_look hS hn hok u hu
    have HS := Lib.hid hS
    have HMet := Lib.hid hMet
    have HAT := Lib.hid hat
    have HUS := Lib.hid hus
    have HK := Lib.hid (keyOf_ud u hu)
    have HSTP := Lib.hid hstp
    have HIN := Lib.hid hin
    have HAP := Lib.hid hap
    have HUL := Lib.hid hus.len
    have hmax := hus.max
    unfold maxLen at hmax
    clear hS hMet hat hus hstp hin hap
    unfold udV at HK ⊢
    have G0 := Lib.hid (World.grownBy_alloc w (.cells #[.string u.1, .string u.2] 30) (some bm))
    have S0 := Lib.hid (HS.out.grown G0.out)
    have M0 := Lib.hid (show MetAt _ bm M from ownsMap_keep HMet.out (below_box w (.cells #[.string u.1, .string u.2] 30)))
    have U0 := Lib.hid (HUS.out.keep (below_box w (.cells #[.string u.1, .string u.2] 30)))
    clear HS HMet HUS
    go_enter Tryz.func30, Tryz.ntmps30
    go_wp2_with (at_lookup; refine wpList_lookup_at _ rfl _ _ 62 rfl 30 36 uidKeyed Tryz.underlying62 (zero_ent _) bs E.length _ rfl S0.out.map _ _ rfl HK.out _ HAT.out ?_)
    obtain ⟨w0, hw0⟩ : ∃ w0, w.alloc (.cells #[.string u.1, .string u.2] 30) = w0 := ⟨_, rfl⟩
    rw [hw0] at G0 S0 M0 U0 ⊢
    clear hw0 HK HAT
    have hfu := field_up (.string ty) (.string id) UA NA un uc nn nc
    go_wp2_with fail
    rw [hfu]
    clear hfu
    go_wp2_with fail
    go_loopw [7, 13] (fun _ i wr => ∃ (k : Nat) (Mk : List Ud), k ≤ un ∧ i = .int .i64 k ∧ Hid (Mid E u ups M Mk k w0 wr bm)) (fun _ i _ => un - (intOf i).toNat)
    case atStart => exact ⟨0, M, Nat.zero_le _, rfl, ⟨fun _ h => h, fun _ h => .inl h, fun p h => by simp at h, fun x h h2 => absurd h h2, hM, Nat.le_refl _, M0.out, ⟨rfl, rfl, rfl, Nat.le_refl _, fun _ _ _ => rfl⟩⟩⟩
    case round =>
      obtain ⟨k, Mk, hk, rfl, hMid⟩ := hrel
      by_cases hlt : k < un
      · have hlt' : k < ups.length := by rw [← HUL.out]; exact hlt
        have SR := Lib.hid (S0.out.grown hMid.out.grow)
        have UR := Lib.hid (U0.out.but0 hMid.out.grow HAP.out)
        obtain ⟨a, rfl, q0, q1⟩ := UR.out.at_ k _ (List.getElem?_eq_getElem hlt')
        have hpk := HIN.out _ (List.getElem_mem hlt')
        have hps := (HSTP.out _).2 (List.getElem_mem hlt')
        have hpo : UOk ups[k] := UR.out.ok _ (List.getElem_mem hlt')
        have htk : ups.take (k + 1) = ups.take k ++ [ups[k]] := List.take_succ_eq_append_getElem hlt'
        generalize ups[k] = p at *
        have HKp := Lib.hid (keyOf_ud p hpo)
        have HTK := Lib.hid htk
        have HPK := Lib.hid hpk
        have HPS := Lib.hid hps
        have HPO := Lib.hid hpo
        clear htk hpk hps hpo
        unfold udV at HKp
        have G1 := Lib.hid (hMid.out.grow.trans (World.grownBy_alloc wr (.cells #[.string p.1, .string p.2] 30) (some bm)))
        have M1 := Lib.hid (show MetAt _ bm Mk from ownsMap_keep hMid.out.met (below_box wr (.cells #[.string p.1, .string p.2] 30)))
        have P1 := Lib.hid (vr2_new wr (.string p.1) (.string p.2) 30)
        have S1 := Lib.hid (SR.out.grown (World.grownBy_alloc wr (.cells #[.string p.1, .string p.2] 30) (some bm)))
        have HAM := Lib.hid (at_mapU (metM Mk) p HPO.out (.int .i64 0) (metM_ok hMid.out.ok))
        rw [lastU_met] at HAM
        by_cases hp : p ∈ Mk
        · rw [if_pos (hadU_iff.2 hp)] at HAM
          have HP := Lib.hid hp
          clear hp
          go_wp2_with (at_lookup; refine wpList_lookup_at _ rfl _ _ 64 rfl 30 3 uidKeyed Tryz.underlying64 (zero_int _) bm Mk.length _ rfl M1.out _ _ rfl HKp.out _ HAM.out ?_)
          go_wp2_with fail
          go_roundw
          case rel =>
            refine ⟨k + 1, Mk, by omega, by go_num, Lib.hid ⟨hMid.out.sub, hMid.out.sound, fun y hy => ?_, hMid.out.shut, hMid.out.ok, hMid.out.cnt, M1.out, G1.out⟩⟩
            rw [HTK.out] at hy
            rcases List.mem_append.1 hy with hy | hy
            · exact hMid.out.here y hy
            · simp only [List.mem_cons, List.not_mem_nil, or_false] at hy; subst hy; exact HP.out
          case measure => simp [intOf]; omega
        · rw [if_neg (fun e => hp (hadU_iff.1 e))] at HAM
          have hum := unmet_snoc HPK.out hp
          have HP := Lib.hid hp
          clear hp
          go_wp2_with (first | (at_lookup; refine wpList_lookup_at _ rfl _ _ 64 rfl 30 3 uidKeyed Tryz.underlying64 (zero_int _) bm Mk.length _ rfl M1.out _ _ rfl HKp.out _ HAM.out ?_) | (at_mapUpdate; refine wpList_mapUpdate_own _ rfl _ _ _ 64 rfl 30 3 uidKeyed Tryz.underlying64 heldR bm Mk.length _ rfl M1.out (by have := hMid.out.cnt; unfold maxLen; omega) _ _ _ rfl rfl HKp.out _ [] rfl ?_))
          intro w4 hown hgrow
          have hbl := M1.out.lt
          have hbw : bm < wr.heap.size := hMid.out.met.lt
          have M4 := Lib.hid (show MetAt w4 bm (Mk ++ [p]) by
            unfold MetAt
            have e : metM (Mk ++ [p]) = metM Mk ++ [(p, .int .i64 1)] := by simp [metM]
            rw [e, mapU_snoc, List.length_append]; exact hown)
          have G4 := Lib.hid (G1.out.trans hgrow)
          have S4 := Lib.hid (S1.out.grown hgrow)
          have hpb : w4.heap[wr.heap.size]? = (wr.alloc (.cells #[.string p.1, .string p.2] 30)).heap[wr.heap.size]? := hgrow.block _ (by simp) (by intro e; injection e with e; omega)
          have c0 : w4.cell? ⟨wr.heap.size, 0, none⟩ = some (.string p.1) := (World.cell?_of_block (a := ⟨wr.heap.size, 0, none⟩) hpb).trans P1.out.c0
          have c1 : w4.cell? ⟨wr.heap.size, 1, none⟩ = some (.string p.2) := (World.cell?_of_block (a := ⟨wr.heap.size, 1, none⟩) hpb).trans P1.out.c1
          have hcnt := hMid.out.cnt
          have hmono := unmet_mono (K := allUps E) hMid.out.sub
          have hlen1 : (Mk ++ [p]).length = Mk.length + 1 := by simp
          have KI := Lib.hid (ih w4 p (Mk ++ [p]) HPO.out (fun y hy => by
            rcases List.mem_append.1 hy with hy | hy
            · exact hMid.out.ok y hy
            · simp only [List.mem_cons, List.not_mem_nil, or_false] at hy; subst hy; exact HPO.out) (by omega) (by omega) S4.out M4.out)
          unfold udV at KI
          clear hown hgrow hbl hbw hpb M1 P1 S1 G1 q0 q1 SR UR HAM
          go_wp2_with fail
          refine (KI.out).mono ?_
          rintro e w5 ⟨rfl, M5, hA, hok5, hc5, hm5, hg5⟩
          go_wp2_with fail
          go_roundw
          case rel =>
            have hsub : ∀ y ∈ Mk, y ∈ M5 := fun y hy => hA.sub y (List.mem_append_left _ hy)
            have hpM : p ∈ M5 := hA.sub p (by simp)
            refine ⟨k + 1, M5, by omega, by go_num, Lib.hid ⟨fun y hy => hsub y (hMid.out.sub y hy), fun y hy => ?_, fun y hy => ?_, fun y hy hyM q hq => ?_, hok5, by omega, hm5, G4.out.trans hg5⟩⟩
            · rcases hA.sound y hy with h | h
              · rcases List.mem_append.1 h with h | h
                · exact hMid.out.sound y h
                · simp only [List.mem_cons, List.not_mem_nil, or_false] at h; subst h; exact .inr (.one HPS.out)
              · exact .inr (.more HPS.out h)
            · rw [HTK.out] at hy
              rcases List.mem_append.1 hy with hy | hy
              · exact hsub y (hMid.out.here y hy)
              · simp only [List.mem_cons, List.not_mem_nil, or_false] at hy; subst hy; exact hpM
            · by_cases h1 : y ∈ Mk
              · exact hsub q (hMid.out.shut y h1 hyM q hq)
              · by_cases h2 : y = p
                · subst h2; exact hA.here q hq
                · exact hA.shut y hy (by
                    intro h
                    rcases List.mem_append.1 h with h | h
                    · exact h1 h
                    · simp only [List.mem_cons, List.not_mem_nil, or_false] at h; exact h2 h) q hq
          case measure => simp [intOf]; omega
      · have htk : ups.take k = ups := List.take_of_length_le (by rw [← HUL.out]; omega)
        go_wp2_with fail
        go_end0
        refine ⟨rfl, Mk, ⟨hMid.out.sub, hMid.out.sound, fun q hq => hMid.out.here q (by rw [htk]; exact (HSTP.out q).1 hq), hMid.out.shut⟩, hMid.out.ok, hMid.out.cnt, hMid.out.met, G0.out.trans hMid.out.grow⟩
end Go.Proofs.YtbjbimabgfpdoaaGreatDoor
