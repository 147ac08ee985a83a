/-
  Maps by uids, made by the call: what they hold, by the list of what was put.
  ent.stored: the store by uid.
  ent.Check's function, slices.IndexFunc and slices.ContainsFunc with it: is an entity of this uid there.
  (ent.store).above: all that are above one, each once.
  ent.Check: what is wrong with a store.
  ent.In: is one another one, or above it.
-/
import Derived.DeepKeys4
import Derived.Maps.Own
import Derived.Maps.OwnOps
import Derived.Maps.OwnSet
import Derived.Maps.Views
import Derived.Maps.RangeWalk
import Derived.Test.YtcdpoamiejompaaGreatDoorQe18
namespace Go.Proofs.YtcdpoamiejompaaGreatDoor
open Go.RowKit Go.Wk Go.Maps
set_option maxRecDepth 100000

def udV (u : Ud) : Value := .agg #[.string u.1, .string u.2]
def UOk (u : Ud) : Prop := u.1.size ≤ maxLen ∧ u.2.size ≤ maxLen
def keyU (u : Ud) : Lit := .string (keyBytes [.string u.1.data.toList, .string u.2.data.toList])
theorem uidKeyed : Keyed Tryz.prog 24 :=
  Keyed.of_law (deep_law_laid laidOut (m := 4) (by decide) (of_decide_eq_true (by kernel_rfl)) (by kernel_rfl) (by kernel_rfl))
theorem keyLits_ud (D : Nat) (u : Ud) (h : UOk u) : Tryz.prog.keyLits (D + 2) 24 (udV u).cells.toList = some [.string u.1.data.toList, .string u.2.data.toList] := by
  obtain ⟨h1, h2⟩ := h
  simp [udV, Value.cells, Program.keyLits, Tryz.underlying24, Tryz.underlying9, cells_uid, cells_string, h1, h2]
theorem types_pos : 0 < Tryz.prog.types.size := of_decide_eq_true (by kernel_rfl)
theorem keyOf_ud (u : Ud) (h : UOk u) : keyOf Tryz.prog 24 (udV u) = some (keyU u) := by
  have hk : Tryz.prog.keyType 24 = true := by kernel_rfl
  have hf : (udV u).formed Tryz.prog 24 = true := by
    unfold udV Value.formed
    rw [Tryz.underlying24, cells_uid]; rfl
  obtain ⟨D, hD⟩ : ∃ D, Tryz.prog.types.size + 1 = D + 2 := ⟨Tryz.prog.types.size - 1, by have := types_pos; omega⟩
  unfold keyOf
  rw [Tryz.underlying24, hk, hf, hD, keyLits_ud D u h]
  rfl
theorem keyU_inj {u v : Ud} (hu : UOk u) (hv : UOk v) (h : keyU u = keyU v) : u = v := by
  have := uidKeyed.inj (keyOf_ud u hu) (h ▸ keyOf_ud v hv)
  unfold udV at this
  injection this with this
  have h1 := congrArg (fun a : Array Value => a.toList) this
  simp only [List.cons.injEq, Value.string.injEq, and_true] at h1
  exact Prod.ext h1.1 h1.2
theorem keyU_lit (u : Ud) : WideAt.IsKeyLit (keyU u) := trivial
/-- What was put, in its order. -/
def mapU (L : List (Ud × Value)) : DataW Value := L.foldl (fun D p => D.put (keyU p.1) (.held p.2)) (.map [])
theorem mapU_snoc (L : List (Ud × Value)) (p : Ud × Value) : mapU (L ++ [p]) = (mapU L).put (keyU p.1) (.held p.2) := by simp [mapU]
theorem isMap_mapU (L : List (Ud × Value)) : IsMap (mapU L) := by
  refine snoc_ind (C := fun L => IsMap (mapU L)) isMap_empty (fun L p ih => ?_) L
  rw [mapU_snoc]; exact ih.put _ _
/-- What was put last at a uid. -/
def lastU : List (Ud × Value) → Ud → Option Value
  | [], _ => none
  | x :: r, p => match lastU r p with
    | some v => some v
    | none => if x.1 = p then some x.2 else none
theorem lastU_snoc (L : List (Ud × Value)) (x : Ud × Value) (p : Ud) : lastU (L ++ [x]) p = if x.1 = p then some x.2 else lastU L p := by
  induction L with
  | nil => rfl
  | cons y r ih =>
    simp only [List.cons_append, lastU, ih]
    by_cases h : x.1 = p
    · rw [if_pos h, if_pos h]
    · rw [if_neg h, if_neg h]
theorem at_mapU (L : List (Ud × Value)) (p : Ud) (hp : UOk p) (z : Value) (hL : ∀ x ∈ L, UOk x.1) : (mapU L).atKey (keyU p) (.held z) = .held ((lastU L p).getD z) := by
  revert hL
  refine snoc_ind (C := fun L => (∀ x ∈ L, UOk x.1) → (mapU L).atKey (keyU p) (.held z) = .held ((lastU L p).getD z)) (fun _ => rfl) (fun L x ih hL => ?_) L
  rw [mapU_snoc, lastU_snoc]
  by_cases h : x.1 = p
  · subst h
    rw [if_pos rfl, atKey_put_same (isMap_mapU L) (keyU_lit _)]; rfl
  · rw [if_neg h, atKey_put_other (fun e => h (keyU_inj (hL x (by simp)) hp e.symm))]
    exact ih (fun y hy => hL y (by simp [hy]))
theorem lastU_none {L : List (Ud × Value)} {p : Ud} (h : ∀ x ∈ L, x.1 ≠ p) : lastU L p = none := by
  induction L with
  | nil => rfl
  | cons y r ih => simp only [lastU]; rw [ih (fun x hx => h x (by simp [hx]))]; exact if_neg (h y (by simp))
theorem lastU_some {L : List (Ud × Value)} (hn : (L.map (·.1)).Nodup) {x : Ud × Value} (hx : x ∈ L) : lastU L x.1 = some x.2 := by
  induction L with
  | nil => cases hx
  | cons y r ih =>
    rw [List.map_cons, List.nodup_cons] at hn
    simp only [lastU]
    rcases List.mem_cons.1 hx with rfl | hx
    · rw [lastU_none (fun z hz e => hn.1 (List.mem_map.2 ⟨z, hz, e⟩))]; exact if_pos rfl
    · rw [ih hn.2 hx]
theorem ownsMap_block {H : Type} {P : Program} {k : TypeId} {R : Value → Option (DataW H × List MemPlace)} {w w' : World} {b n : Nat} {D : DataW H} (h : w.ownsMap P k R b n D) (hb : w'.heap[b]? = w.heap[b]?) : w'.ownsMap P k R b n D :=
  let ⟨es, clock, h1, r⟩ := h
  ⟨es, clock, hb.trans h1, r⟩
/-- m[k], whatever stands there. -/
theorem wpList_lookup_at {P : Program} (w : World) {ops : Array Oper} {rest : List Oper} {o : Oper} {a : Act} {Q : Exit → Act → World → Prop}
    (hg : o.guard = none) (m x : Operand) (t : TypeId) (hop : o.op = Op.lookup t m x false)
    (k e : TypeId) (K : Keyed P k) (ht : P.underlying t = some (.map k e)) {z : Value} (hz : (zeroValue e).run P w = .ok z w) (b n : Nat) (D : DataW Value)
    (hm : a.eval m = .map (some b)) (hown : w.ownsMap P k heldR b n D) (key : Value) (kl : Lit) (hx : a.eval x = key) (hkey : keyOf P k key = some kl) (u : Value) (hu : D.atKey kl (.held z) = .held u)
    (hK : wpList P ops Q rest (a.put o.dst u) w) :
    wpList P ops Q (o :: rest) a w := by
  refine wpList_plain hg fun K' hK' => ?_
  obtain ⟨v, ps, hrun, hv⟩ := hown.lookup K ht hz (zd := .held z) (zp := []) rfl hkey
  have : v = u := by
    unfold heldR at hv
    rw [hu] at hv
    simp at hv
    exact hv.1
  subst this
  unfold Oper.wp
  simp [execOp, hop, hm, hx, hrun, Result.andThen]
  exact hK' _ _ hK
end Go.Proofs.YtcdpoamiejompaaGreatDoor
namespace Go.Proofs.YtcdpoamiejompaaGreatDoor
open Go.RowKit Go.Wk Go.Maps
set_option maxRecDepth 100000

/-- A slice that holds entities. -/
def EnsAt (w : World) (A : Option Addr) (E : List En) : Prop := ∀ (k : Nat) (x : En), E[k]? = some x → ∃ a, A = some a ∧
  w.cell? (a.add (k * 4)) = some (.string x.u.1) ∧ w.cell? ⟨(a.add (k * 4)).block, (a.add (k * 4)).off + 1, none⟩ = some (.string x.u.2) ∧
  w.cell? ⟨(a.add (k * 4)).block, (a.add (k * 4)).off + 2, none⟩ = some (.slice x.UA x.un x.uc) ∧ w.cell? ⟨(a.add (k * 4)).block, (a.add (k * 4)).off + 3, none⟩ = some (.slice x.NA x.nn x.nc) ∧ EnOk w x
theorem EnsAt.keep {w w' : World} {A : Option Addr} {E : List En} (h : EnsAt w A E) (hb : Below w.heap.size w w') : EnsAt w' A E :=
  fun k x hx => let ⟨a, h1, h2, h3, h4, h5, h6⟩ := h k x hx; ⟨a, h1, cell_keep hb h2, cell_keep hb h3, cell_keep hb h4, cell_keep hb h5, h6.keep hb⟩
structure Es (w : World) (A : Option Addr) (n c : Nat) (E : List En) : Prop where
  len : n = E.length
  cap : n ≤ c
  max : n ≤ maxLen
  at_ : EnsAt w A E
theorem Es.keep {w w' : World} {A : Option Addr} {n c : Nat} {E : List En} (h : Es w A n c E) (hb : Below w.heap.size w w') : Es w' A n c E := ⟨h.len, h.cap, h.max, h.at_.keep hb⟩
theorem Es.uok {w : World} {A : Option Addr} {n c : Nat} {E : List En} (h : Es w A n c E) : ∀ x ∈ E, UOk x.u := fun x hx => by
  obtain ⟨k, hk, rfl⟩ := List.getElem_of_mem hx
  obtain ⟨_, _, _, _, _, _, h6⟩ := h.at_ k _ (List.getElem?_eq_getElem hk)
  exact ⟨h6.t, h6.i⟩
/-- The store as what was put. -/
def putsE (E : List En) : List (Ud × Value) := E.map fun x => (x.u, x.v)
theorem putsE_ok {E : List En} (h : ∀ x ∈ E, UOk x.u) : ∀ y ∈ putsE E, UOk y.1 := fun y hy => by
  obtain ⟨x, hx, rfl⟩ := List.mem_map.1 hy
  exact h x hx
def zeroE : Value := .agg #[.string ⟨#[]⟩, .string ⟨#[]⟩, .slice none 0 0, .slice none 0 0]
theorem zero_ent (w : World) : (zeroValue 76).run Tryz.prog w = .ok zeroE w := by kernel_rfl
theorem putsE_step {E : List En} {k : Nat} (h : k < E.length) : putsE (E.take (k + 1)) = putsE (E.take k) ++ [(E[k].u, E[k].v)] := by
  unfold putsE
  rw [List.take_succ_eq_append_getElem h, List.map_append]; rfl

set_option maxHeartbeats 2000000 in
theorem ent_stored (A : Option Addr) (n c : Nat) (E : List En) (w : World) (h : Es w A n c E) (hn : n ≤ 1000000) :
    Calls Tryz.prog 39 #[.slice A n c] w fun e w' => ∃ b, e = .returned (.map (some b)) ∧ w.heap.size ≤ b ∧ w'.ownsMap Tryz.prog 24 heldR b n (mapU (putsE E)) ∧ Below w.heap.size w w' := by
  have hmm := @run_makeMap Tryz.prog
  have HE := Lib.hid h.at_
  have HL := Lib.hid h.len
  have HUO := Lib.hid h.uok
  clear h
  go_enter Tryz.func39, Tryz.ntmps39
  go_wp2_with fail
  go_loopw [5, 9] (fun _ i wr => ∃ k : Nat, k ≤ n ∧ i = .int .i64 k ∧ Hid (wr.ownsMap Tryz.prog 24 heldR w.heap.size k (mapU (putsE (E.take k)))) ∧ Hid (Below w.heap.size w wr)) (fun _ i _ => n - (intOf i).toNat)
  case atStart => exact ⟨0, Nat.zero_le _, rfl, Lib.hid (World.ownsMap_made _ _ _ _), Lib.hid ((Below.refl _ _).alloc (Nat.le_refl _) _)⟩
  case round =>
    obtain ⟨k, hk, rfl, hO, hB⟩ := hrel
    by_cases hlt : k < n
    · have hlt' : k < E.length := by rw [← HL.out]; exact hlt
      obtain ⟨a, rfl, q0, q1, q2, q3, -⟩ := (HE.out.keep hB.out) k _ (List.getElem?_eq_getElem hlt')
      have HK := Lib.hid (keyOf_ud E[k].u (HUO.out _ (List.getElem_mem hlt')))
      have HP := Lib.hid (putsE_step hlt')
      generalize E[k] = x at *
      have O1 := Lib.hid (ownsMap_keep hO.out (below_box wr (.cells #[.string x.u.1, .string x.u.2, .slice x.UA x.un x.uc, .slice x.NA x.nn x.nc] 76)))
      have B1 := bh hB (below_box wr (.cells #[.string x.u.1, .string x.u.2, .slice x.UA x.un x.uc, .slice x.NA x.nn x.nc] 76))
      go_wp2_with (at_mapUpdate; refine wpList_mapUpdate_own _ rfl _ _ _ 83 rfl 24 76 uidKeyed Tryz.underlying83 heldR w.heap.size k _ rfl O1.out (by unfold maxLen; omega) _ _ _ rfl rfl HK.out _ [] rfl ?_)
      intro w4 hown hgrow
      have O4 := Lib.hid (show w4.ownsMap Tryz.prog 24 heldR w.heap.size (k + 1) (mapU (putsE (E.take (k + 1)))) by
        rw [HP.out, mapU_snoc]; exact hown)
      have B4 := Lib.hid (B1.out.grown hgrow B1.out.size (fun g hg => by cases hg; exact Nat.le_refl _))
      clear hown hgrow O1 B1 hO hB q0 q1 q2 q3
      go_wp2_with fail
      go_roundw
      case rel => exact ⟨k + 1, by omega, by go_num, O4, B4⟩
      case measure => simp [intOf]; omega
    · have HP := Lib.hid (show putsE E = putsE (E.take k) by rw [List.take_of_length_le (by rw [← HL.out]; omega)])
      have hkn : k = n := by omega
      subst hkn
      go_wp2_with fail
      go_ret
      exact ⟨w.heap.size, rfl, Nat.le_refl _, by rw [HP.out]; exact hO.out, hB.out⟩
end Go.Proofs.YtcdpoamiejompaaGreatDoor
namespace Go.Proofs.YtcdpoamiejompaaGreatDoor
open Go.RowKit Go.Wk
set_option maxRecDepth 100000

set_option maxHeartbeats 1000000 in
theorem ent_check1 (x e : En) (b : Nat) (w : World) (hv : Vr4 w b e) :
    Calls Tryz.prog 37 #[x.v, .pointer (some ⟨b, 0, none⟩)] w fun r w' => r = .returned (.bool (decide (x.u = e.u))) ∧ Below w.heap.size w w' := by
  have B0 := Lib.hid (below_box w (.cells #[.string x.u.1, .string x.u.2, .slice x.UA x.un x.uc, .slice x.NA x.nn x.nc] 76))
  obtain ⟨e0, e1, -, -⟩ := hv.keep B0.out
  clear hv
  have HD := Lib.hid (show decide (x.u = e.u) = (x.u.1.toList == e.u.1.toList && x.u.2.toList == e.u.2.toList) by
    by_cases he : x.u = e.u
    · rw [he]; simp
    · rcases uid_ne he with h1 | ⟨h1, h2⟩
      · rw [decide_eq_false he, h1]; rfl
      · rw [decide_eq_false he, h1, h2]; rfl)
  obtain ⟨d, hd⟩ : ∃ d, d = decide (x.u = e.u) := ⟨_, rfl⟩
  rw [← hd] at HD ⊢
  clear hd
  unfold En.v
  obtain ⟨⟨p1, p2⟩, UA, un, uc, ups, NA, nn, nc, P⟩ := x
  generalize e.u = q at *
  dsimp only at *
  rcases h1 : (p1.toList == q.1.toList) with _ | _
  · rw [h1] at HD
    go_enter Tryz.func37, Tryz.ntmps37
    go_wp2_with fail
    go_ret
    exact ⟨by rw [HD.out]; rfl, B0.out⟩
  · rcases h2 : (p2.toList == q.2.toList) with _ | _
    · rw [h1, h2] at HD
      go_enter Tryz.func37, Tryz.ntmps37
      go_wp2_with fail
      go_ret
      exact ⟨by rw [HD.out]; rfl, B0.out⟩
    · rw [h1, h2] at HD
      go_enter Tryz.func37, Tryz.ntmps37
      go_wp2_with fail
      go_ret
      exact ⟨by rw [HD.out]; rfl, B0.out⟩
def hadE (E : List En) (u : Ud) : Bool := E.any fun x => decide (x.u = u)
theorem hadE_iff {E : List En} {u : Ud} : hadE E u = true ↔ ∃ x ∈ E, x.u = u := by simp [hadE]
theorem hadE_take {E : List En} {k : Nat} (h : k < E.length) (u : Ud) : hadE (E.take (k + 1)) u = (hadE (E.take k) u || decide (E[k].u = u)) := by
  unfold hadE
  rw [List.take_succ_eq_append_getElem h, List.any_append]
  simp
theorem Es.take {w : World} {A : Option Addr} {n c k : Nat} {E : List En} (h : Es w A n c E) (hk : k ≤ n) : Es w A k c (E.take k) :=
  ⟨by rw [List.length_take, ← h.len]; omega, Nat.le_trans hk h.cap, Nat.le_trans hk h.max, fun j x hx => by
    rw [List.getElem?_take] at hx
    split at hx
    · exact h.at_ j x hx
    · cases hx⟩
set_option maxHeartbeats 1000000 in
theorem ents_IndexFunc (A : Option Addr) (n c : Nat) (E : List En) (e : En) (b : Nat) (w : World) (h : Es w A n c E) (hv : Vr4 w b e) :
    Calls Tryz.prog 61 #[.slice A n c, .func (.func 37) #[] #[.pointer (some ⟨b, 0, none⟩)]] w
      fun r w' => (∃ k : Int, r = .returned (.int .i64 k) ∧ (0 ≤ k ↔ hadE E e.u = true)) ∧ Below w.heap.size w w' := by
  have eg : ∀ args w, (callFunc 37 args).run Tryz.prog w = .ok (.enter 37 args) w := enters_of Tryz.func37 (by kernel_rfl) rfl
  have K := Lib.hid (fun x w' hb => ent_check1 x e b w' (hv.keep (w' := w') hb))
  have HL := Lib.hid h.len
  have HM := h.max
  unfold maxLen at HM
  have HA := Lib.hid (h.at_)
  clear h hv
  generalize e.u = u at *
  go_enter Tryz.func61, Tryz.ntmps61
  go_wp2_with fail
  go_loopw [5, 8] (fun _ i wr => ∃ k : Nat, k ≤ n ∧ i = .int .i64 k ∧ Hid (hadE (E.take k) u = false) ∧ Hid (Below w.heap.size w wr)) (fun _ i _ => n - (intOf i).toNat)
  case atStart => exact ⟨0, Nat.zero_le _, rfl, rfl, Lib.hid (Below.refl _ _)⟩
  case round =>
    obtain ⟨k, hk, rfl, hN, hB⟩ := hrel
    by_cases hlt : k < n
    · have hlt' : k < E.length := by rw [← HL.out]; exact hlt
      have HT := Lib.hid (hadE_take hlt' u)
      obtain ⟨a, rfl, q0, q1, q2, q3, -⟩ := (HA.out.keep hB.out) k _ (List.getElem?_eq_getElem hlt')
      have KX := Lib.hid (K.out E[k] wr hB.out)
      have HY := Lib.hid (show decide (E[k].u = u) = true → hadE E u = true from fun he => hadE_iff.2 ⟨_, List.getElem_mem hlt', of_decide_eq_true he⟩)
      generalize E[k] = x at *
      unfold En.v at KX
      rcases hd : decide (x.u = u) with _ | _
      · rw [hd, Bool.or_false, hN.out] at HT
        rw [hd] at KX
        clear hd
        go_wp2_with (go_at_fn 37; refine KX.out.mono ?_; rintro e w1 ⟨rfl, b1⟩)
        have B1 := bh hB b1
        clear q0 q1 q2 q3 hB b1 KX
        go_wp2_with fail
        go_roundw
        case rel => exact ⟨k + 1, by omega, by go_num, HT, B1⟩
        case measure => simp [intOf]; omega
      · rw [hd] at KX
        have HZ := Lib.hid (HY.out hd)
        clear hd HT
        go_wp2_with (go_at_fn 37; refine KX.out.mono ?_; rintro e w1 ⟨rfl, b1⟩)
        have B1 := bh hB b1
        clear q0 q1 q2 q3 hB b1 KX
        go_wp2_with fail
        go_ret
        exact ⟨⟨k, rfl, by rw [HZ.out]; simp⟩, B1.out⟩
    · have HN := Lib.hid (show hadE E u = false by rw [← hN.out, List.take_of_length_le (by rw [← HL.out]; omega)])
      go_wp2_with fail
      go_ret
      exact ⟨⟨-1, rfl, by rw [HN.out]; simp⟩, hB.out⟩
theorem ents_ContainsFunc (A : Option Addr) (n c : Nat) (E : List En) (e : En) (b : Nat) (w : World) (h : Es w A n c E) (hv : Vr4 w b e) :
    Calls Tryz.prog 36 #[.slice A n c, .func (.func 37) #[] #[.pointer (some ⟨b, 0, none⟩)]] w
      fun r w' => r = .returned (.bool (hadE E e.u)) ∧ Below w.heap.size w w' := by
  have K := Lib.hid (ents_IndexFunc A n c E e b w h hv)
  clear h hv
  go_enter Tryz.func36, Tryz.ntmps36
  go_wp2_with fail
  refine K.out.mono ?_
  rintro r w1 ⟨⟨k, rfl, hk⟩, b1⟩
  have B1 := Lib.hid b1
  have HK := Lib.hid (show decide (0 ≤ k) = hadE E e.u by
    rcases hu : hadE E e.u with _ | _
    · exact decide_eq_false (fun h => by have := hk.1 h; rw [hu] at this; cases this)
    · exact decide_eq_true (hk.2 hu))
  clear hk b1
  go_wp2_with fail
  go_ret
  exact ⟨by rw [← HK.out]; rfl, B1.out⟩
end Go.Proofs.YtcdpoamiejompaaGreatDoor
namespace Go.Wk
/-- How many of these are not met yet. -/
def unmet (K M : List Ud) : Nat := (K.filter fun p => !hadU M p).length
theorem unmet_le (K M : List Ud) : unmet K M ≤ K.length := List.length_filter_le _ _
theorem unmet_mono {K M M' : List Ud} (h : ∀ x ∈ M, x ∈ M') : unmet K M' ≤ unmet K M := by
  induction K with
  | nil => exact Nat.le_refl _
  | cons x K ih =>
    unfold unmet at ih ⊢
    simp only [List.filter_cons]
    by_cases h1 : hadU M x = true
    · rw [hadU_iff.2 (h x (hadU_iff.1 h1)), h1]; simpa using ih
    · have h1' : hadU M x = false := by simpa using h1
      rw [h1']
      by_cases h2 : hadU M' x = true
      · rw [h2]; simp; omega
      · have h2' : hadU M' x = false := by simpa using h2
        rw [h2']; simp; omega
theorem unmet_snoc {K M : List Ud} {p : Ud} (hp : p ∈ K) (hn : p ∉ M) : unmet K (M ++ [p]) < unmet K M := by
  induction K with
  | nil => cases hp
  | cons x K ih =>
    have hle := unmet_mono (K := K) (M := M) (M' := M ++ [p]) (fun y hy => List.mem_append_left _ hy)
    unfold unmet at ih hle ⊢
    simp only [List.filter_cons]
    by_cases hx : x = p
    · subst hx
      have h1 : hadU M x = false := hadU_not.2 hn
      have h2 : hadU (M ++ [x]) x = true := hadU_iff.2 (by simp)
      rw [h1, h2]; simp; omega
    · have hpk : p ∈ K := by
        rcases List.mem_cons.1 hp with h | h
        · exact absurd h.symm hx
        · exact h
      have := ih hpk
      have e : hadU (M ++ [p]) x = hadU M x := by
        rw [Bool.eq_iff_iff, hadU_iff, hadU_iff, List.mem_append]
        constructor
        · rintro (h | h)
          · exact h
          · simp only [List.mem_cons, List.not_mem_nil, or_false] at h; exact absurd h hx
        · exact fun h => .inl h
      rw [e]
      by_cases h1 : hadU M x = true
      · rw [h1]; simpa using this
      · have h1' : hadU M x = false := by simpa using h1
        rw [h1']; simp; omega
/-- What above adds to what was met. -/
structure Adds (G : List (Ud × List Ud)) (u : Ud) (M M' : List Ud) : Prop where
  sub : ∀ x ∈ M, x ∈ M'
  sound : ∀ x ∈ M', x ∈ M ∨ Abv G u x
  here : ∀ p, Stp G u p → p ∈ M'
  shut : ∀ x ∈ M', x ∉ M → ∀ p, Stp G x p → p ∈ M'
theorem adds_all {G : List (Ud × List Ud)} {u : Ud} {M' : List Ud} (h : Adds G u [] M') (x : Ud) : x ∈ M' ↔ Abv G u x :=
  ⟨fun hx => (h.sound x hx).resolve_left (by simp), abv_closed (C := fun y => y ∈ M') (fun y hy p hp => h.shut y hy (by simp) p hp) h.here x⟩
theorem adds_from {G : List (Ud × List Ud)} {a : Ud} {M' : List Ud} (h : Adds G a [a] M') (x : Ud) : x ∈ M' ↔ x = a ∨ Abv G a x := by
  constructor
  · intro hx
    rcases h.sound x hx with h1 | h1
    · simp only [List.mem_cons, List.not_mem_nil, or_false] at h1; exact .inl h1
    · exact .inr h1
  · rintro (rfl | h1)
    · exact h.sub _ (by simp)
    · exact abv_closed (C := fun y => y ∈ M') (fun y hy p hp => by
        by_cases e : y = a
        · subst e; exact h.here p hp
        · exact h.shut y hy (by simpa using e) p hp) h.here x h1
end Go.Wk
namespace Go.Proofs.YtcdpoamiejompaaGreatDoor
open Go.RowKit Go.Wk Go.Maps
set_option maxRecDepth 100000

theorem Us.but0 {w w' : World} {A : Option Addr} {n c : Nat} {P : List Ud} {g : Option Nat} (h : Us w A n c P) (hg : w.grownBy w' g) (hR : 0 < P.length → ∀ a, A = some a → g ≠ some a.block) : Us w' A n c P := by
  rcases Nat.eq_zero_or_pos P.length with h0 | h0
  · have : P = [] := List.eq_nil_of_length_eq_zero h0
    subst this
    exact ⟨h.len, h.cap, h.max, fun k x hx => by simp at hx, h.ok⟩
  · exact h.but hg (hR h0)
/-- The store, as above reads it beside the map of those met. -/
structure StoreAt (w : World) (bs bm : Nat) (E : List En) : Prop where
  map : w.ownsMap Tryz.prog 24 heldR bs E.length (mapU (putsE E))
  ne : bs ≠ bm
  ups : ∀ x ∈ E, Us w x.UA x.un x.uc x.ups
  ap : ∀ x ∈ E, 0 < x.ups.length → ∀ a, x.UA = some a → some bm ≠ some a.block
theorem StoreAt.grown {w w' : World} {bs bm : Nat} {E : List En} (h : StoreAt w bs bm E) (hg : w.grownBy w' (some bm)) : StoreAt w' bs bm E :=
  ⟨ownsMap_block h.map (hg.block bs h.map.lt (fun e => h.ne (by injection e))), h.ne, fun x hx => (h.ups x hx).but0 hg (h.ap x hx), h.ap⟩
def metM (M : List Ud) : List (Ud × Value) := M.map fun p => (p, .int .i64 1)
def MetAt (w : World) (bm : Nat) (M : List Ud) : Prop := w.ownsMap Tryz.prog 24 heldR bm M.length (mapU (metM M))
theorem lastU_met (M : List Ud) (p : Ud) : lastU (metM M) p = if hadU M p = true then some (.int .i64 1) else none := by
  induction M with
  | nil => rfl
  | cons x r ih =>
    have : hadU (x :: r) p = (decide (x = p) || hadU r p) := rfl
    simp only [metM, List.map_cons, lastU]
    have ih' : lastU (List.map (fun p => (p, Value.int .i64 1)) r) p = if hadU r p = true then some (.int .i64 1) else none := ih
    rw [ih', this]
    by_cases h1 : hadU r p = true
    · rw [h1]; simp
    · have h1' : hadU r p = false := by simpa using h1
      rw [h1']
      by_cases h2 : x = p
      · simp [h2]
      · simp [h2]
theorem metM_ok {M : List Ud} (h : ∀ x ∈ M, UOk x) : ∀ y ∈ metM M, UOk y.1 := fun y hy => by
  obtain ⟨x, hx, rfl⟩ := List.mem_map.1 hy
  exact h x hx
def graphE (E : List En) : List (Ud × List Ud) := E.map fun x => (x.u, x.ups)
def allUps (E : List En) : List Ud := E.flatMap fun x => x.ups
/-- What stands at a uid in the store: its Up. -/
theorem store_look {w : World} {bs bm : Nat} {E : List En} (h : StoreAt w bs bm E) (hn : (E.map En.u).Nodup) (hok : ∀ x ∈ E, UOk x.u) (u : Ud) (hu : UOk u) :
    ∃ (ty id : ByteArray) (UA : Option Addr) (un uc : Nat) (ups : List Ud) (NA : Option Addr) (nn nc : Nat),
      (mapU (putsE E)).atKey (keyU u) (.held zeroE) = .held (.agg #[.string ty, .string id, .slice UA un uc, .slice NA nn nc]) ∧ Us w UA un uc ups ∧
      (0 < ups.length → ∀ a, UA = some a → some bm ≠ some a.block) ∧ (∀ p, Stp (graphE E) u p ↔ p ∈ ups) ∧ ∀ p ∈ ups, p ∈ allUps E := by
  by_cases hx : ∃ x ∈ E, x.u = u
  · obtain ⟨x, hx, rfl⟩ := hx
    refine ⟨x.u.1, x.u.2, x.UA, x.un, x.uc, x.ups, x.NA, x.nn, x.nc, ?_, h.ups x hx, h.ap x hx, fun p => ⟨?_, fun hp => ⟨(x.u, x.ups), List.mem_map.2 ⟨x, hx, rfl⟩, rfl, hp⟩⟩, fun p hp => List.mem_flatMap.2 ⟨x, hx, hp⟩⟩
    · rw [at_mapU _ _ (hok x hx) _ (putsE_ok hok)]
      have : lastU (putsE E) x.u = some x.v := lastU_some (x := (x.u, x.v)) (by rw [putsE, List.map_map]; exact hn) (List.mem_map.2 ⟨x, hx, rfl⟩)
      rw [this]; rfl
    · rintro ⟨e, he, h1, h2⟩
      obtain ⟨y, hy, rfl⟩ := List.mem_map.1 he
      have : y = x := by
        obtain ⟨i, hi, rfl⟩ := List.getElem_of_mem hy
        obtain ⟨j, hj, rfl⟩ := List.getElem_of_mem hx
        have hp := List.pairwise_iff_getElem.1 hn
        rcases Nat.lt_trichotomy i j with hlt | he | hlt
        · have q := hp i j (by simpa using hi) (by simpa using hj) hlt
          rw [List.getElem_map, List.getElem_map] at q
          exact absurd h1 q
        · subst he; rfl
        · have q := hp j i (by simpa using hj) (by simpa using hi) hlt
          rw [List.getElem_map, List.getElem_map] at q
          exact absurd h1.symm q
      subst this; exact h2
  · refine ⟨⟨#[]⟩, ⟨#[]⟩, none, 0, 0, [], none, 0, 0, ?_, ⟨rfl, Nat.le_refl _, Nat.zero_le _, fun k x hx => by simp at hx, fun x hx => by cases hx⟩, fun h => absurd h (by simp), fun p => ⟨?_, fun h => by cases h⟩, fun p hp => by cases hp⟩
    · rw [at_mapU _ _ hu _ (putsE_ok hok), lastU_none]
      · rfl
      · intro y hy e
        obtain ⟨z, hz, rfl⟩ := List.mem_map.1 hy
        exact hx ⟨z, hz, e⟩
    · rintro ⟨e, he, h1, h2⟩
      obtain ⟨y, hy, rfl⟩ := List.mem_map.1 he
      exact absurd ⟨y, hy, h1⟩ hx
/-- In the midst of above's loop. -/
structure Mid (E : List En) (u : Ud) (ups M Mk : List Ud) (k : Nat) (w wr : World) (bm : Nat) : Prop where
  sub : ∀ x ∈ M, x ∈ Mk
  sound : ∀ x ∈ Mk, x ∈ M ∨ Abv (graphE E) u x
  here : ∀ p ∈ ups.take k, p ∈ Mk
  shut : ∀ x ∈ Mk, x ∉ M → ∀ p, Stp (graphE E) x p → p ∈ Mk
  ok : ∀ x ∈ Mk, UOk x
  cnt : Mk.length + unmet (allUps E) Mk ≤ M.length + unmet (allUps E) M
  met : MetAt wr bm Mk
  grow : w.grownBy wr (some bm)
/-- What above does. -/
def AbvPost (E : List En) (u : Ud) (M : List Ud) (w : World) (bm : Nat) (e : Ending) (w' : World) : Prop :=
  e = .returned (.tuple #[]) ∧ ∃ M', Adds (graphE E) u M M' ∧ (∀ x ∈ M', UOk x) ∧ M'.length + unmet (allUps E) M' ≤ M.length + unmet (allUps E) M ∧ MetAt w' bm M' ∧ w.grownBy w' (some bm)
theorem field_up (x y : Value) (A B : Option Addr) (n c m d : Nat) (w : World) : (Instr.field 76 (.agg #[x, y, .slice A n c, .slice B m d]) 1).run Tryz.prog w = .ok (.slice A n c) w := by kernel_rfl
theorem zero_int (w : World) : (zeroValue 3).run Tryz.prog w = .ok (.int .i64 0) w := by kernel_rfl
set_option maxHeartbeats 4000000 in
theorem ent_above (E : List En) (bs bm : Nat) (hn : (E.map En.u).Nodup) (hok : ∀ x ∈ E, UOk x.u) : ∀ (m : Nat) (w : World) (u : Ud) (M : List Ud), UOk u → (∀ x ∈ M, UOk x) → unmet (allUps E) M < m → M.length + unmet (allUps E) M ≤ 1000000 →
    StoreAt w bs bm E → MetAt w bm M → Calls Tryz.prog 40 #[.map (some bs), udV u, .map (some bm)] w (AbvPost E u M w bm) := by
  intro m
  induction m with
  | zero => intro w u M _ _ h; omega
  | succ m ih =>
    intro w u M hu hM hm hc hS hMet
    obtain ⟨ty, id, UA, un, uc, ups, NA, nn, nc, hat, hus, hap, hstp, hin⟩ := store_look hS hn hok u hu
    have HS := Lib.hid hS
    have HMet := Lib.hid hMet
    have HAT := Lib.hid hat
    have HUS := Lib.hid hus
    have HK := Lib.hid (keyOf_ud u hu)
    have HSTP := Lib.hid hstp
    have HIN := Lib.hid hin
    have HAP := Lib.hid hap
    have HUL := Lib.hid hus.len
    have hmax := hus.max
    unfold maxLen at hmax
    clear hS hMet hat hus hstp hin hap
    unfold udV at HK ⊢
    have G0 := Lib.hid (World.grownBy_alloc w (.cells #[.string u.1, .string u.2] 24) (some bm))
    have S0 := Lib.hid (HS.out.grown G0.out)
    have M0 := Lib.hid (show MetAt _ bm M from ownsMap_keep HMet.out (below_box w (.cells #[.string u.1, .string u.2] 24)))
    have U0 := Lib.hid (HUS.out.keep (below_box w (.cells #[.string u.1, .string u.2] 24)))
    clear HS HMet HUS
    go_enter Tryz.func40, Tryz.ntmps40
    go_wp2_with (at_lookup; refine wpList_lookup_at _ rfl _ _ 83 rfl 24 76 uidKeyed Tryz.underlying83 (zero_ent _) bs E.length _ rfl S0.out.map _ _ rfl HK.out _ HAT.out ?_)
    obtain ⟨w0, hw0⟩ : ∃ w0, w.alloc (.cells #[.string u.1, .string u.2] 24) = w0 := ⟨_, rfl⟩
    rw [hw0] at G0 S0 M0 U0 ⊢
    clear hw0 HK HAT
    have hfu := field_up (.string ty) (.string id) UA NA un uc nn nc
    go_wp2_with fail
    rw [hfu]
    clear hfu
    go_wp2_with fail
    go_loopw [7, 13] (fun _ i wr => ∃ (k : Nat) (Mk : List Ud), k ≤ un ∧ i = .int .i64 k ∧ Hid (Mid E u ups M Mk k w0 wr bm)) (fun _ i _ => un - (intOf i).toNat)
    case atStart => exact ⟨0, M, Nat.zero_le _, rfl, ⟨fun _ h => h, fun _ h => .inl h, fun p h => by simp at h, fun x h h2 => absurd h h2, hM, Nat.le_refl _, M0.out, ⟨rfl, rfl, rfl, Nat.le_refl _, fun _ _ _ => rfl⟩⟩⟩
    case round =>
      obtain ⟨k, Mk, hk, rfl, hMid⟩ := hrel
      by_cases hlt : k < un
      · have hlt' : k < ups.length := by rw [← HUL.out]; exact hlt
        have SR := Lib.hid (S0.out.grown hMid.out.grow)
        have UR := Lib.hid (U0.out.but0 hMid.out.grow HAP.out)
        obtain ⟨a, rfl, q0, q1⟩ := UR.out.at_ k _ (List.getElem?_eq_getElem hlt')
        have hpk := HIN.out _ (List.getElem_mem hlt')
        have hps := (HSTP.out _).2 (List.getElem_mem hlt')
        have hpo : UOk ups[k] := UR.out.ok _ (List.getElem_mem hlt')
        have htk : ups.take (k + 1) = ups.take k ++ [ups[k]] := List.take_succ_eq_append_getElem hlt'
        generalize ups[k] = p at *
        have HKp := Lib.hid (keyOf_ud p hpo)
        have HTK := Lib.hid htk
        have HPK := Lib.hid hpk
        have HPS := Lib.hid hps
        have HPO := Lib.hid hpo
        clear htk hpk hps hpo
        unfold udV at HKp
        have G1 := Lib.hid (hMid.out.grow.trans (World.grownBy_alloc wr (.cells #[.string p.1, .string p.2] 24) (some bm)))
        have M1 := Lib.hid (show MetAt _ bm Mk from ownsMap_keep hMid.out.met (below_box wr (.cells #[.string p.1, .string p.2] 24)))
        have P1 := Lib.hid (vr2_new wr (.string p.1) (.string p.2) 24)
        have S1 := Lib.hid (SR.out.grown (World.grownBy_alloc wr (.cells #[.string p.1, .string p.2] 24) (some bm)))
        have HAM := Lib.hid (at_mapU (metM Mk) p HPO.out (.int .i64 0) (metM_ok hMid.out.ok))
        rw [lastU_met] at HAM
        by_cases hp : p ∈ Mk
        · rw [if_pos (hadU_iff.2 hp)] at HAM
          have HP := Lib.hid hp
          clear hp
          go_wp2_with (at_lookup; refine wpList_lookup_at _ rfl _ _ 85 rfl 24 3 uidKeyed Tryz.underlying85 (zero_int _) bm Mk.length _ rfl M1.out _ _ rfl HKp.out _ HAM.out ?_)
          go_wp2_with fail
          go_roundw
          case rel =>
            refine ⟨k + 1, Mk, by omega, by go_num, Lib.hid ⟨hMid.out.sub, hMid.out.sound, fun y hy => ?_, hMid.out.shut, hMid.out.ok, hMid.out.cnt, M1.out, G1.out⟩⟩
            rw [HTK.out] at hy
            rcases List.mem_append.1 hy with hy | hy
            · exact hMid.out.here y hy
            · simp only [List.mem_cons, List.not_mem_nil, or_false] at hy; subst hy; exact HP.out
          case measure => simp [intOf]; omega
        · rw [if_neg (fun e => hp (hadU_iff.1 e))] at HAM
          have hum := unmet_snoc HPK.out hp
          have HP := Lib.hid hp
          clear hp
          go_wp2_with (first | (at_lookup; refine wpList_lookup_at _ rfl _ _ 85 rfl 24 3 uidKeyed Tryz.underlying85 (zero_int _) bm Mk.length _ rfl M1.out _ _ rfl HKp.out _ HAM.out ?_) | (at_mapUpdate; refine wpList_mapUpdate_own _ rfl _ _ _ 85 rfl 24 3 uidKeyed Tryz.underlying85 heldR bm Mk.length _ rfl M1.out (by have := hMid.out.cnt; unfold maxLen; omega) _ _ _ rfl rfl HKp.out _ [] rfl ?_))
          intro w4 hown hgrow
          have hbl := M1.out.lt
          have hbw : bm < wr.heap.size := hMid.out.met.lt
          have M4 := Lib.hid (show MetAt w4 bm (Mk ++ [p]) by
            unfold MetAt
            have e : metM (Mk ++ [p]) = metM Mk ++ [(p, .int .i64 1)] := by simp [metM]
            rw [e, mapU_snoc, List.length_append]; exact hown)
          have G4 := Lib.hid (G1.out.trans hgrow)
          have S4 := Lib.hid (S1.out.grown hgrow)
          have hpb : w4.heap[wr.heap.size]? = (wr.alloc (.cells #[.string p.1, .string p.2] 24)).heap[wr.heap.size]? := hgrow.block _ (by simp) (by intro e; injection e with e; omega)
          have c0 : w4.cell? ⟨wr.heap.size, 0, none⟩ = some (.string p.1) := (World.cell?_of_block (a := ⟨wr.heap.size, 0, none⟩) hpb).trans P1.out.c0
          have c1 : w4.cell? ⟨wr.heap.size, 1, none⟩ = some (.string p.2) := (World.cell?_of_block (a := ⟨wr.heap.size, 1, none⟩) hpb).trans P1.out.c1
          have hcnt := hMid.out.cnt
          have hmono := unmet_mono (K := allUps E) hMid.out.sub
          have hlen1 : (Mk ++ [p]).length = Mk.length + 1 := by simp
          have KI := Lib.hid (ih w4 p (Mk ++ [p]) HPO.out (fun y hy => by
            rcases List.mem_append.1 hy with hy | hy
            · exact hMid.out.ok y hy
            · simp only [List.mem_cons, List.not_mem_nil, or_false] at hy; subst hy; exact HPO.out) (by omega) (by omega) S4.out M4.out)
          unfold udV at KI
          clear hown hgrow hbl hbw hpb M1 P1 S1 G1 q0 q1 SR UR HAM
          go_wp2_with fail
          refine (KI.out).mono ?_
          rintro e w5 ⟨rfl, M5, hA, hok5, hc5, hm5, hg5⟩
          go_wp2_with fail
          go_roundw
          case rel =>
            have hsub : ∀ y ∈ Mk, y ∈ M5 := fun y hy => hA.sub y (List.mem_append_left _ hy)
            have hpM : p ∈ M5 := hA.sub p (by simp)
            refine ⟨k + 1, M5, by omega, by go_num, Lib.hid ⟨fun y hy => hsub y (hMid.out.sub y hy), fun y hy => ?_, fun y hy => ?_, fun y hy hyM q hq => ?_, hok5, by omega, hm5, G4.out.trans hg5⟩⟩
            · rcases hA.sound y hy with h | h
              · rcases List.mem_append.1 h with h | h
                · exact hMid.out.sound y h
                · simp only [List.mem_cons, List.not_mem_nil, or_false] at h; subst h; exact .inr (.one HPS.out)
              · exact .inr (.more HPS.out h)
            · rw [HTK.out] at hy
              rcases List.mem_append.1 hy with hy | hy
              · exact hsub y (hMid.out.here y hy)
              · simp only [List.mem_cons, List.not_mem_nil, or_false] at hy; subst hy; exact hpM
            · by_cases h1 : y ∈ Mk
              · exact hsub q (hMid.out.shut y h1 hyM q hq)
              · by_cases h2 : y = p
                · subst h2; exact hA.here q hq
                · exact hA.shut y hy (by
                    intro h
                    rcases List.mem_append.1 h with h | h
                    · exact h1 h
                    · simp only [List.mem_cons, List.not_mem_nil, or_false] at h; exact h2 h) q hq
          case measure => simp [intOf]; omega
      · have htk : ups.take k = ups := List.take_of_length_le (by rw [← HUL.out]; omega)
        go_wp2_with fail
        go_end0
        refine ⟨rfl, Mk, ⟨hMid.out.sub, hMid.out.sound, fun q hq => hMid.out.here q (by rw [htk]; exact (HSTP.out q).1 hq), hMid.out.shut⟩, hMid.out.ok, hMid.out.cnt, hMid.out.met, G0.out.trans hMid.out.grow⟩
end Go.Proofs.YtcdpoamiejompaaGreatDoor
namespace Go.Proofs.YtcdpoamiejompaaGreatDoor
open Go.RowKit Go.Wk Go.Maps
set_option maxRecDepth 100000

/-- What is wrong with entities, one by one. -/
def entsFault : List En → List En → Int
  | _, [] => 0
  | M, x :: r => if uidFault x.u = 0 then (if hadE M x.u = true then 6 else if entF x = 0 then entsFault (M ++ [x]) r else entF x) else uidFault x.u
open Classical in
/-- What is wrong with a store. -/
noncomputable def storeF (E : List En) : Int := if 16 < E.length then 4 else if entsFault [] E = 0 then (if ∃ x ∈ E, Abv (graphE E) x.u x.u then 7 else 0) else entsFault [] E
theorem ents_step {L : List En} {k : Nat} (h : k < L.length) : entsFault (L.take k) (L.drop k) = if uidFault L[k].u = 0 then (if hadE (L.take k) L[k].u = true then 6 else if entF L[k] = 0 then entsFault (L.take (k + 1)) (L.drop (k + 1)) else entF L[k]) else uidFault L[k].u := by
  rw [List.drop_eq_getElem_cons h, List.take_succ_eq_append_getElem h]
  rfl
theorem entF_ups {x : En} (h : entF x = 0) : x.ups.length ≤ 6 := by
  unfold entF at h
  split at h
  · cases h
  · omega
theorem ents_ok : ∀ (r M : List En), entsFault M r = 0 → (∀ x ∈ r, uidFault x.u = 0 ∧ entF x = 0) ∧ (∀ x ∈ r, ∀ y ∈ M, y.u ≠ x.u) ∧ (r.map En.u).Nodup
  | [], _, _ => ⟨fun x hx => (nomatch hx), fun x hx => (nomatch hx), List.nodup_nil⟩
  | x :: r, M, h => by
    unfold entsFault at h
    by_cases h1 : uidFault x.u = 0
    · rw [if_pos h1] at h
      by_cases h2 : hadE M x.u = true
      · rw [if_pos h2] at h; cases h
      · rw [if_neg h2] at h
        by_cases h3 : entF x = 0
        · rw [if_pos h3] at h
          obtain ⟨a, b, c⟩ := ents_ok r _ h
          refine ⟨fun y hy => ?_, fun y hy z hz => ?_, ?_⟩
          · rcases List.mem_cons.1 hy with rfl | hy
            · exact ⟨h1, h3⟩
            · exact a y hy
          · rcases List.mem_cons.1 hy with rfl | hy
            · exact fun e => h2 (hadE_iff.2 ⟨z, hz, e⟩)
            · exact b y hy z (List.mem_append_left _ hz)
          · rw [List.map_cons, List.nodup_cons]
            refine ⟨fun hm => ?_, c⟩
            obtain ⟨y, hy, e⟩ := List.mem_map.1 hm
            exact b y hy x (by simp) e.symm
        · rw [if_neg h3] at h; exact absurd h h3
    · rw [if_neg h1] at h; exact absurd h h1
theorem allUps_len : ∀ (E : List En), (∀ x ∈ E, entF x = 0) → (allUps E).length ≤ 6 * E.length
  | [], _ => Nat.le_refl _
  | x :: r, h => by
    have h1 := allUps_len r (fun y hy => h y (by simp [hy]))
    have h2 := entF_ups (h x (by simp))
    unfold allUps at h1 ⊢
    rw [List.flatMap_cons, List.length_append, List.length_cons]
    omega
theorem has_mapU (L : List (Ud × Value)) (kl : Lit) : has (mapU L) kl = true ↔ ∃ x ∈ L, kl = keyU x.1 := by
  refine snoc_ind (C := fun L => has (mapU L) kl = true ↔ ∃ x ∈ L, kl = keyU x.1) ?_ (fun L p ih => ?_) L
  · exact ⟨fun h => absurd h (by simp [mapU, has]), fun ⟨x, hx, _⟩ => by cases hx⟩
  · rw [mapU_snoc]
    by_cases h : kl = keyU p.1
    · subst h
      rw [has_put_same (isMap_mapU L) (keyU_lit _)]
      exact ⟨fun _ => ⟨p, by simp, rfl⟩, fun _ => rfl⟩
    · rw [has_put_other h, ih]
      constructor
      · rintro ⟨x, hx, e⟩; exact ⟨x, by simp [hx], e⟩
      · rintro ⟨x, hx, e⟩
        rcases List.mem_append.1 hx with hx | hx
        · exact ⟨x, hx, e⟩
        · simp only [List.mem_cons, List.not_mem_nil, or_false] at hx; subst hx; exact absurd e h
/-- In the midst of the range over the store. -/
structure RgAt (w wr : World) (E : List En) (B n r : Nat) (left : Lit → Bool) (cnt : Nat) : Prop where
  rg : wr.ranges Tryz.prog 24 heldR B r n (mapU (putsE E)) left cnt
  has : ∀ kl, left kl = true → ∃ x ∈ E, kl = keyU x.u
  seen : ∀ x ∈ E, left (keyU x.u) = false → ¬ Abv (graphE E) x.u x.u
  below : Below w.heap.size w wr
theorem RgAt.start {w wr : World} {E : List En} {B n r cnt : Nat} (h : wr.ranges Tryz.prog 24 heldR B r n (mapU (putsE E)) (Maps.has (mapU (putsE E))) cnt) (hb : Below w.heap.size w wr) : RgAt w wr E B n r (Maps.has (mapU (putsE E))) cnt :=
  { rg := h
    has := fun kl hk => by
      obtain ⟨y, hy, e⟩ := (has_mapU _ _).1 hk
      obtain ⟨x, hx, rfl⟩ := List.mem_map.1 hy
      exact ⟨x, hx, e⟩
    seen := fun x hx hf => by
      have : Maps.has (mapU (putsE E)) (keyU x.u) = true := (has_mapU _ _).2 ⟨(x.u, x.v), List.mem_map.2 ⟨x, hx, rfl⟩, rfl⟩
      rw [this] at hf; cases hf
    below := hb }
theorem RgAt.step {w wr w' : World} {E : List En} {B n r cnt cnt' : Nat} {left : Lit → Bool} (h : RgAt w wr E B n r left cnt) (hok : ∀ x ∈ E, UOk x.u) {y : En} (hy : y ∈ E) (hno : ¬ Abv (graphE E) y.u y.u)
    (hr : w'.ranges Tryz.prog 24 heldR B r n (mapU (putsE E)) (fun z => left z && !z.sameKey (keyU y.u)) cnt') (hb : Below w.heap.size w w') : RgAt w w' E B n r (fun z => left z && !z.sameKey (keyU y.u)) cnt' :=
  ⟨hr, fun kl hk => h.has kl (by
    have : (left kl && !kl.sameKey (keyU y.u)) = true := hk
    rw [Bool.and_eq_true] at this
    exact this.1), fun x hx hf => by
    by_cases h1 : left (keyU x.u) = true
    · have hf' : (left (keyU x.u) && !(keyU x.u).sameKey (keyU y.u)) = false := hf
      rw [h1, Bool.true_and] at hf'
      have h2 : (keyU x.u).sameKey (keyU y.u) = true := by simpa using hf'
      have e := keyU_inj (hok x hx) (hok y hy) (WideAt.sameKey_eq h2)
      rw [e]; exact hno
    · exact h.seen x hx (by simpa using h1), hb⟩

theorem cell_block_lt {w : World} {a : Addr} {v : Value} (h : w.cell? a = some v) : a.block < w.heap.size := by
  rcases Nat.lt_or_ge a.block w.heap.size with h1 | h1
  · exact h1
  · have : w.heap[a.block]? = none := Array.getElem?_eq_none h1
    simp [World.cell?, this] at h
theorem Es.enok {w : World} {A : Option Addr} {n c : Nat} {E : List En} (h : Es w A n c E) : ∀ x ∈ E, EnOk w x := fun x hx => by
  obtain ⟨k, hk, rfl⟩ := List.getElem_of_mem hx
  obtain ⟨_, _, _, _, _, _, h6⟩ := h.at_ k _ (List.getElem?_eq_getElem hk)
  exact h6
/-- The store of entities that came in. -/
theorem Es.store {w w' : World} {A : Option Addr} {n c bs bm : Nat} {E : List En} (h : Es w A n c E) (hb : Below w.heap.size w w') (hm : w'.ownsMap Tryz.prog 24 heldR bs E.length (mapU (putsE E))) (hne : bs ≠ bm) (hs : w.heap.size ≤ bm) : StoreAt w' bs bm E :=
  ⟨hm, hne, fun x hx => ((h.keep hb).enok x hx).us, fun x hx hp a ha e => by
    obtain ⟨a', e', h1, _⟩ := (h.enok x hx).us.at_ 0 _ (List.getElem?_eq_getElem hp)
    rw [ha] at e'
    injection e' with e'
    injection e with e
    have := cell_block_lt h1
    rw [add_block, ← e', ← e] at this
    omega⟩

set_option maxHeartbeats 4000000 in
theorem ent_Check (A : Option Addr) (n c : Nat) (E : List En) (w : World) (h : Es w A n c E) :
    Calls Tryz.prog 14 #[.slice A n c] w fun e w' => e = .returned (errV (storeF E)) ∧ Below w.heap.size w w' := by
  have hlen := h.len
  by_cases h16 : 16 < n
  · have HE := Lib.hid (show storeF E = 4 by unfold storeF; rw [if_pos (by omega)])
    rw [HE.out]
    clear hlen h
    go_enter Tryz.func14, Tryz.ntmps14
    go_wp2_with fail
    go_ret
    exact ⟨rfl, Below.refl _ _⟩
  · have HE := Lib.hid (show storeF E = _ by unfold storeF; rw [if_neg (by omega)])
    generalize storeF E = SF at *
    have KW := Lib.hid (fun (u : Ud) (hu : UOk u) w => name_Write u.1 u.2 w hu.1 hu.2)
    have HH := Lib.hid h
    have HUO := Lib.hid h.uok
    have hcap := h.cap
    have HL := Lib.hid hlen
    have hd : decide ((16 : Int) < (n : Int)) = false := decide_eq_false (by omega)
    clear hlen h
    go_enter Tryz.func14, Tryz.ntmps14
    go_wp2_with fail
    go_loopw [3, 4, 5, 6, 7, 17] (fun _ _ _ _ _ i wr => ∃ k : Nat, k ≤ n ∧ i = .int .i64 k ∧ Hid (entsFault [] E = entsFault (E.take k) (E.drop k)) ∧ Hid (Below w.heap.size w wr)) (fun _ _ _ _ _ i _ => n - (intOf i).toNat)
    case atStart => exact ⟨0, Nat.zero_le _, rfl, rfl, Lib.hid (Below.refl _ _)⟩
    case round =>
      obtain ⟨k, hk, rfl, hF, hB⟩ := hrel
      by_cases hlt : k < n
      · have hlt' : k < E.length := by rw [← HL.out]; exact hlt
        have HS := Lib.hid (ents_step hlt')
        obtain ⟨a, rfl, q0, q1, q2, q3, -⟩ := (HH.out.at_.keep hB.out) k _ (List.getElem?_eq_getElem hlt')
        obtain ⟨_, -, -, -, -, -, hxo⟩ := (HH.out.at_) k _ (List.getElem?_eq_getElem hlt')
        have HXO := Lib.hid hxo
        have HUK := Lib.hid (HUO.out _ (List.getElem_mem hlt'))
        clear hxo
        generalize E[k] = x at *
        have K1 := Lib.hid (KW.out x.u HUK.out)
        go_wp2_with fail
        have B1 := bh hB (below_box wr (.cells #[.string x.u.1, .string x.u.2, .slice x.UA x.un x.uc, .slice x.NA x.nn x.nc] 76))
        have V1 := Lib.hid (vr4_new wr x 76)
        obtain ⟨w1, hw1⟩ : ∃ w1, wr.alloc (.cells #[.string x.u.1, .string x.u.2, .slice x.UA x.un x.uc, .slice x.NA x.nn x.nc] 76) = w1 := ⟨_, rfl⟩
        rw [hw1] at V1 B1 ⊢
        clear hw1 hB q0 q1 q2 q3
        refine (K1.out w1).mono ?_
        rintro e w2 ⟨rfl, b2⟩
        have B2 := bh B1 b2
        have V2 := Lib.hid (V1.out.keep b2)
        clear K1 b2 B1 V1
        by_cases hu : uidFault (x.u.1, x.u.2) = 0
        · have hu' : uidFault x.u = 0 := hu
          rw [hu, errV_zero]
          rw [if_pos hu'] at HS
          clear hu hu'
          have K2 := Lib.hid (ents_ContainsFunc (some a) k c (E.take k) x wr.heap.size w2 ((HH.out.keep B2.out).take hk) V2.out)
          go_wp2_with fail
          refine K2.out.mono ?_
          rintro e w3 ⟨rfl, b3⟩
          have B3 := bh B2 b3
          have V3 := Lib.hid (V2.out.keep b3)
          clear K2 b3 B2 V2
          rcases hh : hadE (E.take k) x.u with _ | _
          · rw [hh, if_neg (by decide)] at HS
            have K3 := Lib.hid (ent_one x w3 (HXO.out.keep B3.out))
            obtain ⟨c0, c1, c2, c3⟩ := V3.out
            unfold En.v at K3
            clear hh
            go_wp2_with fail
            refine K3.out.mono ?_
            rintro e w4 ⟨rfl, b4⟩
            have B4 := bh B3 b4
            clear K3 b4 B3 V3 c0 c1 c2 c3
            by_cases h1 : entF x = 0
            · rw [if_pos h1] at HS
              have HF := Lib.hid (hF.out.trans HS.out)
              rw [h1, errV_zero]
              clear h1 HS hF
              go_wp2_with fail
              go_roundw
              case rel => exact ⟨k + 1, by omega, by go_num, HF, B4⟩
              case measure => simp [intOf]; omega
            · rw [if_neg h1] at HS
              have HF := Lib.hid (hF.out.trans HS.out)
              have HE2 := Lib.hid (show SF = entF x by rw [HE.out, HF.out, if_neg h1])
              rw [errV_ne h1]
              have hun := Lib.hid h1
              clear h1 HS hF
              generalize entF x = f at *
              go_wp2_with fail
              go_ret
              exact ⟨by rw [HE2.out, errV_ne hun.out]; rfl, B4.out⟩
          · rw [hh, if_pos rfl] at HS
            have HF := Lib.hid (hF.out.trans HS.out)
            have HE2 := Lib.hid (show SF = 6 by rw [HE.out, HF.out]; rfl)
            clear hh HS hF
            go_wp2_with fail
            go_ret
            exact ⟨by rw [HE2.out]; rfl, B3.out⟩
        · have hu' : uidFault x.u ≠ 0 := hu
          rw [if_neg hu'] at HS
          have HE2 := Lib.hid (show SF = uidFault (x.u.1, x.u.2) by rw [HE.out, hF.out, HS.out, if_neg hu'])
          rw [errV_ne hu]
          have hun := Lib.hid hu
          clear hu hu' HS hF
          generalize uidFault (x.u.1, x.u.2) = f at *
          go_wp2_with fail
          go_ret
          exact ⟨by rw [HE2.out, errV_ne hun.out]; rfl, B2.out⟩
      · have HF := Lib.hid (show entsFault [] E = 0 by rw [hF.out, List.drop_of_length_le (by rw [← HL.out]; omega)]; rfl)
        have HE7 := Lib.hid (show (∃ x, x ∈ E ∧ Abv (graphE E) x.u x.u) → SF = 7 from fun hx => by rw [HE.out, if_pos HF.out, if_pos hx])
        have HE0 := Lib.hid (show ¬ (∃ x, x ∈ E ∧ Abv (graphE E) x.u x.u) → SF = 0 from fun hx => by rw [HE.out, if_pos HF.out, if_neg hx])
        clear HE
        obtain ⟨ho1, -, ho2⟩ := ents_ok E [] HF.out
        have HO1 := Lib.hid ho1
        have HO2 := Lib.hid ho2
        have K1 := Lib.hid (ent_stored A n c E wr (HH.out.keep hB.out) (by omega))
        clear hF ho1 ho2 KW
        go_wp2_with fail
        refine K1.out.mono ?_
        rintro e w1 ⟨b, rfl, hwb, hO, b1⟩
        have HO := Lib.hid hO
        have B1 := bh hB b1
        have WB := Lib.hid (show w.heap.size ≤ b from Nat.le_trans hB.out.size hwb)
        clear K1 hB hwb hO b1
        go_wp2_with (at_range; refine wpList_range_own _ rfl _ 83 rfl 24 76 uidKeyed Tryz.underlying83 heldR b n (mapU (putsE E)) rfl HO.out ?_; intro w2 hrg hg hs)
        go_frame
        have R2 := Lib.hid (RgAt.start (w := w) hrg (B1.out.grown hg B1.out.size (fun g hg => by cases hg)))
        have WR := Lib.hid (show w.heap.size ≤ w1.heap.size from B1.out.size)
        generalize w1.heap.size = r at *
        clear hrg hg hs HO B1
        generalize Maps.has (mapU (putsE E)) = left0 at *
        generalize Maps.size (mapU (putsE E)) = cnt0 at *
        go_loopw [9, 10] (fun _ _ wr => ∃ left cnt, Hid (RgAt w wr E b n r left cnt)) (fun _ _ wr => wr.rangeLeft b r)
        case atStart => exact ⟨_, _, R2⟩
        case round =>
          clear R2
          obtain ⟨left, cnt, hR⟩ := hrel
          go_wp2_with (at_next; refine wpList_next_ranges _ rfl _ rfl 24 uidKeyed heldR (fun v : Value => v) (fun v : Value => v) (fun key kl _ => ⟨key, rfl⟩) (fun v y _ => ⟨v, rfl⟩) b r n (mapU (putsE E)) left cnt rfl hR.out.rg ?_ ?_)
          · intro hc0 hl0
            have HE2 := Lib.hid (HE0.out (fun ⟨x, hx, h⟩ => hR.out.seen x hx (hl0 _) h))
            clear hc0 hl0
            go_wp2_with fail
            go_ret
            exact ⟨by rw [HE2.out]; rfl, hR.out.below⟩
          · intro x v kl y yp w2 cnt' hkey hlk hv hat hrg hlt' hgr hsz hen
            obtain ⟨e, he, rfl⟩ := hR.out.has kl hlk
            have hxe : x = udV e.u := uidKeyed.inj hkey (keyOf_ud e.u (HUO.out e he))
            subst hxe
            clear hkey hlk hv hat
            unfold udV at hen
            have R2 := Lib.hid hrg
            have B2 := Lib.hid (hR.out.below.grown hgr hR.out.below.size (fun g hg => by cases hg; exact WR.out))
            have HLT := Lib.hid hlt'
            have HE := Lib.hid he
            clear hrg hlt' hgr hsz he
            have hmm := @run_makeMap Tryz.prog
            have P3 := Lib.hid (vr2_new w2 (.string e.u.1) (.string e.u.2) 24)
            have B3 := bh B2 (below_box w2 (.cells #[.string e.u.1, .string e.u.2] 24))
            have R3 := Lib.hid (R2.out.alloc (.cells #[.string e.u.1, .string e.u.2] 24))
            go_wp2_with fail
            obtain ⟨w3, hw3⟩ : ∃ w3, w2.alloc (.cells #[.string e.u.1, .string e.u.2] 24) = w3 := ⟨_, rfl⟩
            have hs3 : w3.heap.size = w2.heap.size + 1 := by rw [← hw3]; simp
            rw [hw3] at P3 B3 R3 ⊢
            rw [← hs3]
            have HB2 := Lib.hid (show w2.heap.size ≠ w3.heap.size by omega)
            clear hw3 hs3 hen R2 B2
            have P4 := Lib.hid (P3.out.keep (below_box w3 (.map #[] 0)))
            have B4 := bh B3 (below_box w3 (.map #[] 0))
            have R4 := Lib.hid (R3.out.alloc (.map #[] 0))
            have M4 := Lib.hid (show MetAt (w3.alloc (.map #[] 0)) w3.heap.size [] from World.ownsMap_made _ _ _ _)
            have HB := Lib.hid R3.out.owns.lt
            have HR := Lib.hid R3.out.lt
            have HBM := Lib.hid B3.out.size
            have S4 := Lib.hid (HH.out.store B4.out (by rw [← HL.out]; exact R4.out.owns) (Nat.ne_of_lt HB.out) B3.out.size)
            generalize w3.alloc (.map #[] 0) = w4 at *
            generalize w3.heap.size = bm at *
            generalize w2.heap.size = bu at *
            have hun := Nat.le_trans (unmet_le (allUps E) []) (allUps_len E (fun x hx => (HO1.out x hx).2))
            have KA := Lib.hid (ent_above E b bm HO2.out HUO.out 100 w4 e.u [] (HUO.out e HE.out) (fun x hx => (nomatch hx)) (by have := HL.out; omega) (by have := HL.out; simp only [List.length_nil]; omega) S4.out M4.out)
            unfold udV at KA
            clear hun P3 B3 R3 M4 S4
            refine KA.out.mono ?_
            rintro e2 w5 ⟨rfl, M', hA, hok', -, hm', hg'⟩
            have M5 := Lib.hid hm'
            have R5 := Lib.hid (R4.out.kept hg' (by intro h; injection h with h; have := HB.out; omega) (by intro h; injection h with h; have := HR.out; omega))
            have c0 := hg'.cell P4.out.c0 (by intro h; injection h with h; exact HB2.out h)
            have c1 := hg'.cell P4.out.c1 (by intro h; injection h with h; exact HB2.out h)
            have B5 := Lib.hid (B4.out.grown hg' B4.out.size (fun g hg => by cases hg; exact HBM.out))
            have HK := Lib.hid (keyOf_ud e.u (HUO.out e HE.out))
            unfold udV at HK
            have HAM := Lib.hid (at_mapU (metM M') e.u (HUO.out e HE.out) (.int .i64 0) (metM_ok hok'))
            rw [lastU_met] at HAM
            have HAA := Lib.hid (adds_all hA e.u)
            clear hA hok' hm' hg' KA R4 P4 B4
            by_cases hp : e.u ∈ M'
            · rw [if_pos (hadU_iff.2 hp)] at HAM
              have HE2 := Lib.hid (HE7.out ⟨e, HE.out, HAA.out.1 hp⟩)
              clear hp
              go_wp2_with (at_lookup; refine wpList_lookup_at _ rfl _ _ 85 rfl 24 3 uidKeyed Tryz.underlying85 (zero_int _) bm M'.length _ rfl M5.out _ _ rfl HK.out _ HAM.out ?_)
              go_wp2_with fail
              go_ret
              exact ⟨by rw [HE2.out]; rfl, B5.out⟩
            · rw [if_neg (fun e => hp (hadU_iff.1 e))] at HAM
              have HNA := Lib.hid (fun h => hp (HAA.out.2 h))
              clear hp
              go_wp2_with (at_lookup; refine wpList_lookup_at _ rfl _ _ 85 rfl 24 3 uidKeyed Tryz.underlying85 (zero_int _) bm M'.length _ rfl M5.out _ _ rfl HK.out _ HAM.out ?_)
              go_wp2_with fail
              go_roundw
              case rel => exact ⟨_, _, Lib.hid (hR.out.step HUO.out HE.out HNA.out R5.out B5.out)⟩
              case measure => rw [R5.out.left_eq, hR.out.rg.left_eq]; exact HLT.out
end Go.Proofs.YtcdpoamiejompaaGreatDoor
namespace Go.Proofs.YtcdpoamiejompaaGreatDoor
open Go.RowKit Go.Wk Go.Maps
set_option maxRecDepth 100000

theorem store_ok {E : List En} (h : storeF E = 0) : E.length ≤ 16 ∧ entsFault [] E = 0 ∧ ∀ x ∈ E, ¬ Abv (graphE E) x.u x.u := by
  unfold storeF at h
  split at h
  · cases h
  · rename_i h1
    split at h
    · rename_i h2
      split at h
      · cases h
      · rename_i h3
        exact ⟨by omega, h2, fun x hx hc => h3 ⟨x, hx, hc⟩⟩
    · rename_i h2; exact absurd h h2
open Classical in
/-- What In tells. -/
noncomputable def inB (E : List En) (a b : Ud) : Bool := decide (storeF E = 0 ∧ (b = a ∨ Abv (graphE E) a b))
theorem Vr2.but {w w' : World} {b : Nat} {x y : Value} {g : Option Nat} (h : Vr2 w b x y) (hg : w.grownBy w' g) (hn : some b ≠ g) : Vr2 w' b x y :=
  have hl := block_lt_of_cell h.c0
  have hb := hg.block b hl hn
  ⟨(World.cell?_of_block (a := ⟨b, 0, none⟩) hb).trans h.c0, (World.cell?_of_block (a := ⟨b, 1, none⟩) hb).trans h.c1, (World.frozen?_of_block (a := ⟨b, 0, none⟩) hb).trans h.z0, (World.frozen?_of_block (a := ⟨b, 1, none⟩) hb).trans h.z1⟩
theorem below_drew (w : World) : Below w.heap.size w w.drew := ⟨rfl, rfl, rfl, Nat.le_refl _, fun _ _ => rfl⟩
theorem inB_true {E : List En} {a b : Ud} (hs : storeF E = 0) (h : b = a ∨ Abv (graphE E) a b) : inB E a b = true := by unfold inB; exact @decide_eq_true _ (_) ⟨hs, h⟩
theorem inB_false {E : List En} {a b : Ud} (h : ¬ (b = a ∨ Abv (graphE E) a b)) : inB E a b = false := by unfold inB; exact @decide_eq_false _ (_) fun h2 => h h2.2
theorem inB_bad {E : List En} {a b : Ud} (h : storeF E ≠ 0) : inB E a b = false := by unfold inB; exact @decide_eq_false _ (_) fun h2 => h h2.1

set_option maxHeartbeats 4000000 in
theorem ent_In (A : Option Addr) (n c : Nat) (E : List En) (a b : Ud) (w : World) (h : Es w A n c E) (ha : UOk a) (hb : UOk b) :
    Calls Tryz.prog 19 #[.slice A n c, udV a, udV b] w fun e w' => e = .returned (.tuple #[.bool (inB E a b), errV (storeF E)]) ∧ Below w.heap.size w w' := by
  have hmm := @run_makeMap Tryz.prog
  have HH := Lib.hid h
  have HUO := Lib.hid h.uok
  have HL := Lib.hid h.len
  have HA := Lib.hid ha
  have HBO := Lib.hid hb
  clear h ha hb
  unfold udV
  go_enter Tryz.func19, Tryz.ntmps19
  go_wp2_with fail
  have hsz : (w.alloc (.cells #[.string a.1, .string a.2] 24)).heap.size = w.heap.size + 1 := by simp
  have P0 := Lib.hid (vr2_new w (.string a.1) (.string a.2) 24)
  have B0 := Lib.hid (below_box w (.cells #[.string a.1, .string a.2] 24))
  obtain ⟨w0, hw0⟩ : ∃ w0, w.alloc (.cells #[.string a.1, .string a.2] 24) = w0 := ⟨_, rfl⟩
  rw [hw0] at P0 B0 hsz ⊢
  rw [← hsz]
  have HZ := Lib.hid (show w.heap.size ≠ w0.heap.size by omega)
  clear hw0 hsz
  have P1 := Lib.hid (P0.out.keep (below_box w0 (.cells #[.string b.1, .string b.2] 24)))
  have Q1 := Lib.hid (vr2_new w0 (.string b.1) (.string b.2) 24)
  have B1 := bh B0 (below_box w0 (.cells #[.string b.1, .string b.2] 24))
  obtain ⟨w1, hw1⟩ : ∃ w1, w0.alloc (.cells #[.string b.1, .string b.2] 24) = w1 := ⟨_, rfl⟩
  have HZ1 := Lib.hid (show w0.heap.size < w1.heap.size by rw [← hw1]; simp)
  rw [hw1] at P1 Q1 B1 ⊢
  have HZ0 := Lib.hid (show w.heap.size < w1.heap.size by have := B0.out.size; have := HZ1.out; omega)
  clear hw1 P0 B0
  generalize w.heap.size = ba at P1 HZ HZ0 ⊢
  generalize w0.heap.size = bb at *
  have K1 := Lib.hid (ent_Check A n c E w1 (HH.out.keep B1.out))
  refine K1.out.mono ?_
  rintro e w2 ⟨rfl, b2⟩
  have P2 := Lib.hid (P1.out.keep b2)
  have Q2 := Lib.hid (Q1.out.keep b2)
  have B2 := bh B1 b2
  have HZ2 := Lib.hid (show ba < w2.heap.size by have := HZ0.out; have := b2.size; omega)
  have HZ3 := Lib.hid (show bb < w2.heap.size by have := HZ1.out; have := b2.size; omega)
  clear K1 P1 Q1 B1 b2
  by_cases hs : storeF E = 0
  · obtain ⟨hs1, hs2, -⟩ := store_ok hs
    obtain ⟨ho1, -, ho2⟩ := ents_ok E [] hs2
    have HO1 := Lib.hid ho1
    have HO2 := Lib.hid ho2
    have H16 := Lib.hid hs1
    have HIN1 := Lib.hid (show (b = a ∨ Abv (graphE E) a b) → inB E a b = true from inB_true hs)
    have HIN0 := Lib.hid (show ¬ (b = a ∨ Abv (graphE E) a b) → inB E a b = false from inB_false)
    have HSE := Lib.hid hs
    rw [hs, errV_zero]
    clear hs hs1 hs2 ho1 ho2
    have HK := Lib.hid (keyOf_ud a HA.out)
    unfold udV at HK
    obtain ⟨c0, c1⟩ := P2.out.keep (below_box w2 (.map #[] 0))
    have M3 := Lib.hid (show MetAt (w2.alloc (.map #[] 0)) w2.heap.size [] from World.ownsMap_made _ _ _ _)
    have P3 := Lib.hid (P2.out.keep (below_box w2 (.map #[] 0)))
    have Q3 := Lib.hid (Q2.out.keep (below_box w2 (.map #[] 0)))
    have B3 := bh B2 (below_box w2 (.map #[] 0))
    have HBM := Lib.hid (show w.heap.size ≤ w2.heap.size from B2.out.size)
    clear P2 Q2 B2
    obtain ⟨w4, hrun, hown, hgrow⟩ := World.ownsMap.update (t := 85) M3.out uidKeyed Tryz.underlying85 (by decide) (val := .int .i64 1) HK.out (R := heldR) rfl
    have M4 := Lib.hid (show MetAt w4 w2.heap.size [a] from hown)
    have P4 := Lib.hid (P3.out.but hgrow (by intro h; injection h with h; have := HZ2.out; rw [h] at this; exact Nat.lt_irrefl _ this))
    have Q4 := Lib.hid (Q3.out.but hgrow (by intro h; injection h with h; have := HZ3.out; rw [h] at this; exact Nat.lt_irrefl _ this))
    have B4 := Lib.hid (B3.out.grown hgrow B3.out.size (fun g hg => by cases hg; exact HBM.out))
    clear hown hgrow P3 Q3 B3 M3
    have K2 := Lib.hid (fun w' (hb : Below w.heap.size w w') => ent_stored A n c E w' (HH.out.keep (hb)) (by have := HL.out; have := H16.out; omega))
    go_wp2_with fail
    clear hrun c0 c1
    generalize w2.heap.size = bm at *
    have hun := Nat.le_trans (unmet_le (allUps E) [a]) (allUps_len E (fun x hx => (HO1.out x hx).2))
    have KA := Lib.hid (fun (bs : Nat) (w' : World) (hS : StoreAt w' bs bm E) (hM : MetAt w' bm [a]) => ent_above E bs bm HO2.out HUO.out 101 w' a [a] HA.out (fun x hx => by simp only [List.mem_cons, List.not_mem_nil, or_false] at hx; subst hx; exact HA.out) (by have := H16.out; omega) (by have := H16.out; simp only [List.length_cons, List.length_nil]; omega) hS hM)
    unfold udV at KA
    have PD := Lib.hid (P4.out.keep (below_drew w4))
    have QD := Lib.hid (Q4.out.keep (below_drew w4))
    have MD := Lib.hid (show MetAt w4.drew bm [a] from M4.out)
    have BD := Lib.hid (show Below w.heap.size w w4.drew from B4.out.trans ((below_drew w4).mono B4.out.size))
    obtain ⟨c0, c1, -, -⟩ := PD.out
    have HLM := Lib.hid (show bm < w4.drew.heap.size from MD.out.lt)
    clear hun P4 Q4 M4 B4
    go_region_with (first
      | (go_at_call 39; (refine (K2.out _ BD.out).mono ?_); rintro e w5 ⟨bs, rfl, hbs, hO, b5⟩; (have P5 := Lib.hid (PD.out.keep b5)); (have Q5 := Lib.hid (QD.out.keep b5)); (obtain ⟨d0, d1, -, -⟩ := PD.out.keep b5); (have B5 := Lib.hid (BD.out.trans (b5.mono BD.out.size))); (have KA5 := Lib.hid (KA.out bs w5 (HH.out.store B5.out (by rw [← HL.out]; exact hO) (Nat.ne_of_gt (Nat.lt_of_lt_of_le HLM.out hbs)) HBM.out) (ownsMap_keep MD.out b5))); clear hbs hO b5)
      | (go_at_call 40; (refine KA5.out.mono ?_); rintro e2 w6 ⟨rfl, M', hA, hok', hc', hm', hg'⟩))
    all_goals
      have M6 := Lib.hid hm'
      have B6 := Lib.hid (B5.out.grown hg' B5.out.size (fun g hg => by cases hg; exact HBM.out))
      obtain ⟨f0, f1, -, -⟩ := Q5.out.but hg' (by intro h; injection h with h; have := HZ3.out; rw [h] at this; exact Nat.lt_irrefl _ this)
      have HAA := Lib.hid (adds_from hA b)
      have HKB := Lib.hid (keyOf_ud b HBO.out)
      unfold udV at HKB
      have HAM := Lib.hid (at_mapU (metM M') b HBO.out (.int .i64 0) (metM_ok hok'))
      rw [lastU_met] at HAM
      clear hA hok' hc' hm' hg' d0 d1 KA5 KA P5 Q5 PD QD c0 c1
    all_goals
      by_cases hp : b ∈ M'
      · rw [if_pos (hadU_iff.2 hp)] at HAM
        have HE2 := Lib.hid (HIN1.out (HAA.out.1 hp))
        clear hp
        go_wp2_with (at_lookup; refine wpList_lookup_at _ rfl _ _ 85 rfl 24 3 uidKeyed Tryz.underlying85 (zero_int _) bm M'.length _ rfl M6.out _ _ rfl HKB.out _ HAM.out ?_)
        go_wp2_with fail
        go_ret2
        exact ⟨by rw [HE2.out, HSE.out]; rfl, B6.out⟩
      · rw [if_neg (fun e => hp (hadU_iff.1 e))] at HAM
        have HE2 := Lib.hid (HIN0.out (fun h => hp (HAA.out.2 h)))
        clear hp
        go_wp2_with (at_lookup; refine wpList_lookup_at _ rfl _ _ 85 rfl 24 3 uidKeyed Tryz.underlying85 (zero_int _) bm M'.length _ rfl M6.out _ _ rfl HKB.out _ HAM.out ?_)
        go_wp2_with fail
        go_ret2
        exact ⟨by rw [HE2.out, HSE.out]; rfl, B6.out⟩
  · have hse := Lib.hid hs
    rw [errV_ne hs]
    clear hs
    go_wp2_with fail
    go_ret2
    exact ⟨by rw [errV_ne hse.out, inB_bad hse.out]; rfl, B2.out⟩
end Go.Proofs.YtcdpoamiejompaaGreatDoor
