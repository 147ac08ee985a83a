/-
  Slices of uids, and of entities, as they lie.
-/
import Derived.Test.YtbjbimabgfpdoaaGreatDoorUidRw
import Derived.Test.YtbjbimabgfpdoaaGreatDoorCheck
import Derived.Test.YtbjbimabgfpdoaaGreatDoorAid
import Derived.Test.YtbjbimabgfpdoaaGreatDoorParts
namespace Go.Proofs.YtbjbimabgfpdoaaGreatDoor
open Go.RowKit Go.Wk
set_option maxRecDepth 100000

/-- A slice that holds uids. -/
def UdsAt (w : World) (A : Option Addr) (P : List Ud) : Prop :=
  ∀ (k : Nat) (x : Ud), P[k]? = some x → ∃ a, A = some a ∧ w.cell? (a.add (k * 2)) = some (.string x.1) ∧ w.cell? ⟨(a.add (k * 2)).block, (a.add (k * 2)).off + 1, none⟩ = some (.string x.2)
theorem UdsAt.keep {w w' : World} {A : Option Addr} {P : List Ud} (h : UdsAt w A P) (hb : Below w.heap.size w w') : UdsAt w' A P :=
  fun k x hx => let ⟨a, h1, h2, h3⟩ := h k x hx; ⟨a, h1, cell_keep hb h2, cell_keep hb h3⟩
theorem UdsAt.but {w w' : World} {A : Option Addr} {P : List Ud} {g : Option Nat} (h : UdsAt w A P) (hg : w.grownBy w' g) (hR : ∀ a, A = some a → g ≠ some a.block) : UdsAt w' A P := by
  intro k x hx
  obtain ⟨a, h1, h2, h3⟩ := h k x hx
  have hn : some a.block ≠ g := fun e => hR a h1 e.symm
  have hb := add_block a (k * 2)
  exact ⟨a, h1, hg.cell h2 (by rw [hb]; exact hn), hg.cell h3 (by rw [hb]; exact hn)⟩
/-- A slice of uids, with its length and its capacity. -/
structure Us (w : World) (A : Option Addr) (n c : Nat) (P : List Ud) : Prop where
  len : n = P.length
  cap : n ≤ c
  max : n ≤ maxLen
  at_ : UdsAt w A P
  ok : ∀ x ∈ P, x.1.size ≤ maxLen ∧ x.2.size ≤ maxLen
theorem Us.keep {w w' : World} {A : Option Addr} {n c : Nat} {P : List Ud} (h : Us w A n c P) (hb : Below w.heap.size w w') : Us w' A n c P := ⟨h.len, h.cap, h.max, h.at_.keep hb, h.ok⟩
theorem Us.but {w w' : World} {A : Option Addr} {n c : Nat} {P : List Ud} {g : Option Nat} (h : Us w A n c P) (hg : w.grownBy w' g) (hR : ∀ a, A = some a → g ≠ some a.block) : Us w' A n c P := ⟨h.len, h.cap, h.max, h.at_.but hg hR, h.ok⟩
theorem Us.take {w : World} {A : Option Addr} {n c k : Nat} {P : List Ud} (h : Us w A n c P) (hk : k ≤ n) : Us w A k c (P.take k) :=
  { len := by rw [List.length_take, ← h.len]; omega
    cap := Nat.le_trans hk h.cap
    max := Nat.le_trans hk h.max
    at_ := fun j x hx => by
      rw [List.getElem?_take] at hx
      split at hx
      · exact h.at_ j x hx
      · cases hx
    ok := fun x hx => h.ok x (List.mem_of_mem_take hx) }
/-- An entity, and where its parts lie. -/
structure En where
  u : Ud
  UA : Option Addr
  un : Nat
  uc : Nat
  ups : List Ud
  NA : Option Addr
  nn : Nat
  nc : Nat
  P : List Nd
def En.v (e : En) : Value := .agg #[.string e.u.1, .string e.u.2, .slice e.UA e.un e.uc, .slice e.NA e.nn e.nc]
/-- An entity's parts are there. -/
structure EnOk (w : World) (e : En) : Prop where
  t : e.u.1.size ≤ maxLen
  i : e.u.2.size ≤ maxLen
  us : Us w e.UA e.un e.uc e.ups
  ns : Ns w e.NA e.nn e.nc e.P
theorem EnOk.keep {w w' : World} {e : En} (h : EnOk w e) (hb : Below w.heap.size w w') : EnOk w' e := ⟨h.t, h.i, h.us.keep hb, h.ns.keep hb⟩
/-- What is wrong with an entity. -/
def entF (e : En) : Int := if 6 < e.ups.length then 4 else if upsFault [] e.ups = 0 then (if valFault e.P = 0 then (if headOp e.P = 6 then 0 else 2) else valFault e.P) else upsFault [] e.ups

theorem hadU_take {P : List Ud} {k : Nat} (h : k < P.length) (x : Ud) : hadU (P.take (k + 1)) x = (hadU (P.take k) x || decide (P[k] = x)) := by
  unfold hadU
  rw [List.take_succ_eq_append_getElem h, List.any_append]
  simp
theorem uid_ne {x y : Ud} (h : x ≠ y) : (x.1.toList == y.1.toList) = false ∨ ((x.1.toList == y.1.toList) = true ∧ (x.2.toList == y.2.toList) = false) := by
  by_cases h1 : x.1 = y.1
  · refine .inr ⟨by rw [h1]; simp, beq_eq_false_iff_ne.2 fun e => h ?_⟩
    have h2 := toList_inj e
    cases x; cases y
    simp only at h1 h2
    rw [h1, h2]
  · exact .inl (beq_eq_false_iff_ne.2 fun e => h1 (toList_inj e))
set_option maxHeartbeats 1000000 in
theorem uids_Index (A : Option Addr) (n c : Nat) (P : List Ud) (x : Ud) (w : World) (h : Us w A n c P) :
    Calls Tryz.prog 83 #[.slice A n c, .agg #[.string x.1, .string x.2]] w fun e w' => (∃ k : Int, e = .returned (.int .i64 k) ∧ (0 ≤ k ↔ hadU P x = true)) ∧ Below w.heap.size w w' := by
  have V0 := Lib.hid (vr2_new w (.string x.1) (.string x.2) 30)
  have B0 := Lib.hid (below_box w (.cells #[.string x.1, .string x.2] 30))
  have HL := Lib.hid h.len
  have HM := h.max
  unfold maxLen at HM
  have HA := Lib.hid (h.at_)
  clear h
  go_enter Tryz.func83, Tryz.ntmps83
  go_wp2_with fail
  obtain ⟨w0, hw0⟩ : ∃ w0, w.alloc (.cells #[.string x.1, .string x.2] 30) = w0 := ⟨_, rfl⟩
  rw [hw0] at V0 B0 ⊢
  clear hw0
  go_loopw [5, 8] (fun _ i wr => ∃ k : Nat, k ≤ n ∧ i = .int .i64 k ∧ Hid (hadU (P.take k) x = false) ∧ Hid (Below w.heap.size w wr) ∧ Hid (Vr2 wr w.heap.size (.string x.1) (.string x.2))) (fun _ i _ => n - (intOf i).toNat)
  case atStart => exact ⟨0, Nat.zero_le _, rfl, rfl, B0, V0⟩
  case round =>
    clear B0 V0
    obtain ⟨k, hk, rfl, hN, hB, hV⟩ := hrel
    by_cases hlt : k < n
    · have hlt' : k < P.length := by rw [← HL.out]; exact hlt
      have HT := Lib.hid (hadU_take hlt' x)
      obtain ⟨a, rfl, q0, q1⟩ := (HA.out.keep hB.out) k _ (List.getElem?_eq_getElem hlt')
      have v0 := cell_regrown hV.out.c0
      have v1 := cell_regrown hV.out.c1
      by_cases he : P[k] = x
      · have HY := Lib.hid (show hadU P x = true from hadU_iff.2 (he ▸ List.getElem_mem hlt'))
        rw [he] at q0 q1
        have k0 := cell_regrown q0
        have k1 := cell_regrown q1
        clear he q0 q1 HT
        go_wp2_with fail
        refine wp_region_quiet_below (by kernel_rfl) (by kernel_rfl) ?_
        repeat (first | go_big_quiet_step (fail) | quiet_step (fail))
        refine wpQuiet_nil ?_
        intro w1 hw'
        have B1 := Lib.hid (show Below wr.heap.size wr w1 by obtain ⟨⟨d, os⟩, rfl⟩ := hw'; exact below_regrown _ _ _)
        clear hw'
        have BX := bhid hB B1 (Nat.le_refl _)
        clear k0 k1 v0 v1 hB B1
        go_wp2_with fail
        go_ret
        exact ⟨⟨k, rfl, by rw [HY.out]; simp⟩, BX.out⟩
      · rw [decide_eq_false he, Bool.or_false, hN.out] at HT
        have k0 := cell_regrown q0
        have k1 := cell_regrown q1
        have hne : (x.1.toList == P[k].1.toList) = false ∨ ((x.1.toList == P[k].1.toList) = true ∧ (x.2.toList == P[k].2.toList) = false) := uid_ne (fun e => he e.symm)
        clear he q0 q1
        generalize P[k] = y at *
        rcases hne with h1 | ⟨h1, h2⟩
        · go_wp2_with fail
          refine wp_region_quiet_below (by kernel_rfl) (by kernel_rfl) ?_
          repeat (first | go_big_quiet_step (fail) | quiet_step (fail))
          refine wpQuiet_nil ?_
          intro w1 hw'
          have B1 := Lib.hid (show Below wr.heap.size wr w1 by obtain ⟨⟨d, os⟩, rfl⟩ := hw'; exact below_regrown _ _ _)
          clear hw'
          have BX := bhid hB B1 (Nat.le_refl _)
          have VX := Lib.hid (hV.out.keep B1.out)
          clear k0 k1 v0 v1 hB B1 hV
          go_wp2_with fail
          go_roundw
          case rel => exact ⟨k + 1, by omega, by go_num, HT, BX, VX⟩
          case measure => simp [intOf]; omega
        · go_wp2_with fail
          refine wp_region_quiet_below (by kernel_rfl) (by kernel_rfl) ?_
          repeat (first | go_big_quiet_step (fail) | quiet_step (fail))
          refine wpQuiet_nil ?_
          intro w1 hw'
          have B1 := Lib.hid (show Below wr.heap.size wr w1 by obtain ⟨⟨d, os⟩, rfl⟩ := hw'; exact below_regrown _ _ _)
          clear hw'
          have BX := bhid hB B1 (Nat.le_refl _)
          have VX := Lib.hid (hV.out.keep B1.out)
          clear k0 k1 v0 v1 hB B1 hV
          go_wp2_with fail
          go_roundw
          case rel => exact ⟨k + 1, by omega, by go_num, HT, BX, VX⟩
          case measure => simp [intOf]; omega
    · have HN := Lib.hid (show hadU P x = false by rw [← hN.out, List.take_of_length_le (by rw [← HL.out]; omega)])
      go_wp2_with fail
      go_ret
      exact ⟨⟨-1, rfl, by rw [HN.out]; simp⟩, hB.out⟩
theorem uids_Contains (A : Option Addr) (n c : Nat) (P : List Ud) (x : Ud) (w : World) (h : Us w A n c P) :
    Calls Tryz.prog 56 #[.slice A n c, .agg #[.string x.1, .string x.2]] w fun e w' => e = .returned (.bool (hadU P x)) ∧ Below w.heap.size w w' := by
  have B0 := Lib.hid (below_box w (.cells #[.string x.1, .string x.2] 30))
  have K := Lib.hid (fun w' hb => uids_Index A n c P x w' (h.keep hb))
  clear h
  go_enter Tryz.func56, Tryz.ntmps56
  go_wp2_with fail
  refine (K.out _ B0.out).mono ?_
  rintro e w1 ⟨⟨k, rfl, hk⟩, b1⟩
  have B1 := bh B0 b1
  have HK := Lib.hid (show decide (0 ≤ k) = hadU P x by
    rcases hu : hadU P x with _ | _
    · exact decide_eq_false (fun h => by have := hk.1 h; rw [hu] at this; cases this)
    · exact decide_eq_true (hk.2 hu))
  clear hk b1 B0
  go_wp2_with fail
  go_ret
  exact ⟨by rw [← HK.out]; rfl, B1.out⟩
end Go.Proofs.YtbjbimabgfpdoaaGreatDoor
