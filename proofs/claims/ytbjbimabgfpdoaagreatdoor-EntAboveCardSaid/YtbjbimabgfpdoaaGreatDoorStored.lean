/-
  ent.stored: the store by uid.
-/
import Derived.Test.YtbjbimabgfpdoaaGreatDoorUidMap
namespace Go.Proofs.YtbjbimabgfpdoaaGreatDoor
open Go.RowKit Go.Wk Go.Maps
set_option maxRecDepth 100000

/-- A slice that holds entities. -/
def EnsAt (w : World) (A : Option Addr) (E : List En) : Prop := ∀ (k : Nat) (x : En), E[k]? = some x → ∃ a, A = some a ∧
  w.cell? (a.add (k * 4)) = some (.string x.u.1) ∧ w.cell? ⟨(a.add (k * 4)).block, (a.add (k * 4)).off + 1, none⟩ = some (.string x.u.2) ∧
  w.cell? ⟨(a.add (k * 4)).block, (a.add (k * 4)).off + 2, none⟩ = some (.slice x.UA x.un x.uc) ∧ w.cell? ⟨(a.add (k * 4)).block, (a.add (k * 4)).off + 3, none⟩ = some (.slice x.NA x.nn x.nc) ∧ EnOk w x
theorem EnsAt.keep {w w' : World} {A : Option Addr} {E : List En} (h : EnsAt w A E) (hb : Below w.heap.size w w') : EnsAt w' A E :=
  fun k x hx => let ⟨a, h1, h2, h3, h4, h5, h6⟩ := h k x hx; ⟨a, h1, cell_keep hb h2, cell_keep hb h3, cell_keep hb h4, cell_keep hb h5, h6.keep hb⟩
structure Es (w : World) (A : Option Addr) (n c : Nat) (E : List En) : Prop where
  len : n = E.length
  cap : n ≤ c
  max : n ≤ maxLen
  at_ : EnsAt w A E
theorem Es.keep {w w' : World} {A : Option Addr} {n c : Nat} {E : List En} (h : Es w A n c E) (hb : Below w.heap.size w w') : Es w' A n c E := ⟨h.len, h.cap, h.max, h.at_.keep hb⟩
theorem Es.uok {w : World} {A : Option Addr} {n c : Nat} {E : List En} (h : Es w A n c E) : ∀ x ∈ E, UOk x.u := fun x hx => by
  obtain ⟨k, hk, rfl⟩ := List.getElem_of_mem hx
  obtain ⟨_, _, _, _, _, _, h6⟩ := h.at_ k _ (List.getElem?_eq_getElem hk)
  exact ⟨h6.t, h6.i⟩
/-- The store as what was put. -/
def putsE (E : List En) : List (Ud × Value) := E.map fun x => (x.u, x.v)
theorem putsE_ok {E : List En} (h : ∀ x ∈ E, UOk x.u) : ∀ y ∈ putsE E, UOk y.1 := fun y hy => by
  obtain ⟨x, hx, rfl⟩ := List.mem_map.1 hy
  exact h x hx
def zeroE : Value := .agg #[.string ⟨#[]⟩, .string ⟨#[]⟩, .slice none 0 0, .slice none 0 0]
theorem zero_ent (w : World) : (zeroValue 36).run Tryz.prog w = .ok zeroE w := by kernel_rfl
theorem putsE_step {E : List En} {k : Nat} (h : k < E.length) : putsE (E.take (k + 1)) = putsE (E.take k) ++ [(E[k].u, E[k].v)] := by
  unfold putsE
  rw [List.take_succ_eq_append_getElem h, List.map_append]; rfl

set_option maxHeartbeats 2000000 in
theorem ent_stored (A : Option Addr) (n c : Nat) (E : List En) (w : World) (h : Es w A n c E) (hn : n ≤ 1000000) :
    Calls Tryz.prog 29 #[.slice A n c] w fun e w' => ∃ b, e = .returned (.map (some b)) ∧ w.heap.size ≤ b ∧ w'.ownsMap Tryz.prog 30 heldR b n (mapU (putsE E)) ∧ Below w.heap.size w w' := by
  have hmm := @run_makeMap Tryz.prog
  have HE := Lib.hid h.at_
  have HL := Lib.hid h.len
  have HUO := Lib.hid h.uok
  clear h
  go_enter Tryz.func29, Tryz.ntmps29
  go_wp2_with fail
  go_loopw [5, 9] (fun _ i wr => ∃ k : Nat, k ≤ n ∧ i = .int .i64 k ∧ Hid (wr.ownsMap Tryz.prog 30 heldR w.heap.size k (mapU (putsE (E.take k)))) ∧ Hid (Below w.heap.size w wr)) (fun _ i _ => n - (intOf i).toNat)
  case atStart => exact ⟨0, Nat.zero_le _, rfl, Lib.hid (World.ownsMap_made _ _ _ _), Lib.hid ((Below.refl _ _).alloc (Nat.le_refl _) _)⟩
  case round =>
    obtain ⟨k, hk, rfl, hO, hB⟩ := hrel
    by_cases hlt : k < n
    · have hlt' : k < E.length := by rw [← HL.out]; exact hlt
      obtain ⟨a, rfl, q0, q1, q2, q3, -⟩ := (HE.out.keep hB.out) k _ (List.getElem?_eq_getElem hlt')
      have HK := Lib.hid (keyOf_ud E[k].u (HUO.out _ (List.getElem_mem hlt')))
      have HP := Lib.hid (putsE_step hlt')
      generalize E[k] = x at *
      have O1 := Lib.hid (ownsMap_keep hO.out (below_box wr (.cells #[.string x.u.1, .string x.u.2, .slice x.UA x.un x.uc, .slice x.NA x.nn x.nc] 36)))
      have B1 := bh hB (below_box wr (.cells #[.string x.u.1, .string x.u.2, .slice x.UA x.un x.uc, .slice x.NA x.nn x.nc] 36))
      go_wp2_with (at_mapUpdate; refine wpList_mapUpdate_own _ rfl _ _ _ 62 rfl 30 36 uidKeyed Tryz.underlying62 heldR w.heap.size k _ rfl O1.out (by unfold maxLen; omega) _ _ _ rfl rfl HK.out _ [] rfl ?_)
      intro w4 hown hgrow
      have O4 := Lib.hid (show w4.ownsMap Tryz.prog 30 heldR w.heap.size (k + 1) (mapU (putsE (E.take (k + 1)))) by
        rw [HP.out, mapU_snoc]; exact hown)
      have B4 := Lib.hid (B1.out.grown hgrow B1.out.size (fun g hg => by cases hg; exact Nat.le_refl _))
      clear hown hgrow O1 B1 hO hB q0 q1 q2 q3
      go_wp2_with fail
      go_roundw
      case rel => exact ⟨k + 1, by omega, by go_num, O4, B4⟩
      case measure => simp [intOf]; omega
    · have HP := Lib.hid (show putsE E = putsE (E.take k) by rw [List.take_of_length_le (by rw [← HL.out]; omega)])
      have hkn : k = n := by omega
      subst hkn
      go_wp2_with fail
      go_ret
      exact ⟨w.heap.size, rfl, Nat.le_refl _, by rw [HP.out]; exact hO.out, hB.out⟩
end Go.Proofs.YtbjbimabgfpdoaaGreatDoor
