/-
  ent.Check's function, slices.IndexFunc and slices.ContainsFunc with it: is an entity of this uid there.
-/
import Derived.Test.YtbjbimabgfpdoaaGreatDoorStored
namespace Go.Proofs.YtbjbimabgfpdoaaGreatDoor
open Go.RowKit Go.Wk
set_option maxRecDepth 100000

set_option maxHeartbeats 1000000 in
theorem ent_check1 (x e : En) (b : Nat) (w : World) (hv : Vr4 w b e) :
    Calls Tryz.prog 27 #[x.v, .pointer (some ⟨b, 0, none⟩)] w fun r w' => r = .returned (.bool (decide (x.u = e.u))) ∧ Below w.heap.size w w' := by
  have B0 := Lib.hid (below_box w (.cells #[.string x.u.1, .string x.u.2, .slice x.UA x.un x.uc, .slice x.NA x.nn x.nc] 36))
  obtain ⟨e0, e1, -, -⟩ := hv.keep B0.out
  clear hv
  have HD := Lib.hid (show decide (x.u = e.u) = (x.u.1.toList == e.u.1.toList && x.u.2.toList == e.u.2.toList) by
    by_cases he : x.u = e.u
    · rw [he]; simp
    · rcases uid_ne he with h1 | ⟨h1, h2⟩
      · rw [decide_eq_false he, h1]; rfl
      · rw [decide_eq_false he, h1, h2]; rfl)
  obtain ⟨d, hd⟩ : ∃ d, d = decide (x.u = e.u) := ⟨_, rfl⟩
  rw [← hd] at HD ⊢
  clear hd
  unfold En.v
  obtain ⟨⟨p1, p2⟩, UA, un, uc, ups, NA, nn, nc, P⟩ := x
  generalize e.u = q at *
  dsimp only at *
  rcases h1 : (p1.toList == q.1.toList) with _ | _
  · rw [h1] at HD
    go_enter Tryz.func27, Tryz.ntmps27
    go_wp2_with fail
    go_ret
    exact ⟨by rw [HD.out]; rfl, B0.out⟩
  · rcases h2 : (p2.toList == q.2.toList) with _ | _
    · rw [h1, h2] at HD
      go_enter Tryz.func27, Tryz.ntmps27
      go_wp2_with fail
      go_ret
      exact ⟨by rw [HD.out]; rfl, B0.out⟩
    · rw [h1, h2] at HD
      go_enter Tryz.func27, Tryz.ntmps27
      go_wp2_with fail
      go_ret
      exact ⟨by rw [HD.out]; rfl, B0.out⟩
def hadE (E : List En) (u : Ud) : Bool := E.any fun x => decide (x.u = u)
theorem hadE_iff {E : List En} {u : Ud} : hadE E u = true ↔ ∃ x ∈ E, x.u = u := by simp [hadE]
theorem hadE_take {E : List En} {k : Nat} (h : k < E.length) (u : Ud) : hadE (E.take (k + 1)) u = (hadE (E.take k) u || decide (E[k].u = u)) := by
  unfold hadE
  rw [List.take_succ_eq_append_getElem h, List.any_append]
  simp
theorem Es.take {w : World} {A : Option Addr} {n c k : Nat} {E : List En} (h : Es w A n c E) (hk : k ≤ n) : Es w A k c (E.take k) :=
  ⟨by rw [List.length_take, ← h.len]; omega, Nat.le_trans hk h.cap, Nat.le_trans hk h.max, fun j x hx => by
    rw [List.getElem?_take] at hx
    split at hx
    · exact h.at_ j x hx
    · cases hx⟩
set_option maxHeartbeats 1000000 in
theorem ents_IndexFunc (A : Option Addr) (n c : Nat) (E : List En) (e : En) (b : Nat) (w : World) (h : Es w A n c E) (hv : Vr4 w b e) :
    Calls Tryz.prog 55 #[.slice A n c, .func (.func 27) #[] #[.pointer (some ⟨b, 0, none⟩)]] w
      fun r w' => (∃ k : Int, r = .returned (.int .i64 k) ∧ (0 ≤ k ↔ hadE E e.u = true)) ∧ Below w.heap.size w w' := by
  have eg : ∀ args w, (callFunc 27 args).run Tryz.prog w = .ok (.enter 27 args) w := enters_of Tryz.func27 (by kernel_rfl) rfl
  have K := Lib.hid (fun x w' hb => ent_check1 x e b w' (hv.keep (w' := w') hb))
  have HL := Lib.hid h.len
  have HM := h.max
  unfold maxLen at HM
  have HA := Lib.hid (h.at_)
  clear h hv
  generalize e.u = u at *
  go_enter Tryz.func55, Tryz.ntmps55
  go_wp2_with fail
  go_loopw [5, 8] (fun _ i wr => ∃ k : Nat, k ≤ n ∧ i = .int .i64 k ∧ Hid (hadE (E.take k) u = false) ∧ Hid (Below w.heap.size w wr)) (fun _ i _ => n - (intOf i).toNat)
  case atStart => exact ⟨0, Nat.zero_le _, rfl, rfl, Lib.hid (Below.refl _ _)⟩
  case round =>
    obtain ⟨k, hk, rfl, hN, hB⟩ := hrel
    by_cases hlt : k < n
    · have hlt' : k < E.length := by rw [← HL.out]; exact hlt
      have HT := Lib.hid (hadE_take hlt' u)
      obtain ⟨a, rfl, q0, q1, q2, q3, -⟩ := (HA.out.keep hB.out) k _ (List.getElem?_eq_getElem hlt')
      have KX := Lib.hid (K.out E[k] wr hB.out)
      have HY := Lib.hid (show decide (E[k].u = u) = true → hadE E u = true from fun he => hadE_iff.2 ⟨_, List.getElem_mem hlt', of_decide_eq_true he⟩)
      generalize E[k] = x at *
      unfold En.v at KX
      rcases hd : decide (x.u = u) with _ | _
      · rw [hd, Bool.or_false, hN.out] at HT
        rw [hd] at KX
        clear hd
        go_wp2_with (go_at_fn 27; refine KX.out.mono ?_; rintro e w1 ⟨rfl, b1⟩)
        have B1 := bh hB b1
        clear q0 q1 q2 q3 hB b1 KX
        go_wp2_with fail
        go_roundw
        case rel => exact ⟨k + 1, by omega, by go_num, HT, B1⟩
        case measure => simp [intOf]; omega
      · rw [hd] at KX
        have HZ := Lib.hid (HY.out hd)
        clear hd HT
        go_wp2_with (go_at_fn 27; refine KX.out.mono ?_; rintro e w1 ⟨rfl, b1⟩)
        have B1 := bh hB b1
        clear q0 q1 q2 q3 hB b1 KX
        go_wp2_with fail
        go_ret
        exact ⟨⟨k, rfl, by rw [HZ.out]; simp⟩, B1.out⟩
    · have HN := Lib.hid (show hadE E u = false by rw [← hN.out, List.take_of_length_le (by rw [← HL.out]; omega)])
      go_wp2_with fail
      go_ret
      exact ⟨⟨-1, rfl, by rw [HN.out]; simp⟩, hB.out⟩
theorem ents_ContainsFunc (A : Option Addr) (n c : Nat) (E : List En) (e : En) (b : Nat) (w : World) (h : Es w A n c E) (hv : Vr4 w b e) :
    Calls Tryz.prog 26 #[.slice A n c, .func (.func 27) #[] #[.pointer (some ⟨b, 0, none⟩)]] w
      fun r w' => r = .returned (.bool (hadE E e.u)) ∧ Below w.heap.size w w' := by
  have K := Lib.hid (ents_IndexFunc A n c E e b w h hv)
  clear h hv
  go_enter Tryz.func26, Tryz.ntmps26
  go_wp2_with fail
  refine K.out.mono ?_
  rintro r w1 ⟨⟨k, rfl, hk⟩, b1⟩
  have B1 := Lib.hid b1
  have HK := Lib.hid (show decide (0 ≤ k) = hadE E e.u by
    rcases hu : hadE E e.u with _ | _
    · exact decide_eq_false (fun h => by have := hk.1 h; rw [hu] at this; cases this)
    · exact decide_eq_true (hk.2 hu))
  clear hk b1
  go_wp2_with fail
  go_ret
  exact ⟨by rw [← HK.out]; rfl, B1.out⟩
end Go.Proofs.YtbjbimabgfpdoaaGreatDoor
