/-
  ValChecks: the walk of the law.
-/
import Derived.Test.YtbaccefcgblagaaDoorRefVal
import Derived.Test.YtbaccefcgblagaaDoorTold
namespace Go.Proofs.YtbaccefcgblagaaDoor
open Go.RowKit Go.Wk Go.Sort
set_option maxRecDepth 100000

theorem ns_nil (w : World) : Ns w none 0 0 [] := ⟨rfl, Nat.le_refl _, by unfold maxLen; omega, fun k x hx => by simp at hx, fun x hx => by cases hx⟩
theorem valFault_nil : valFault [] = 1 := by decide +kernel
theorem sls_two {w : World} {b : Nat} {r1 r2 : Sl} (c0 : w.cell? ⟨b, 0, none⟩ = some (.slice r1.A r1.n r1.c)) (c1 : w.cell? ⟨b, 1, none⟩ = some (.slice r2.A r2.n r2.c)) (h1 : Ns w r1.A r1.n r1.c r1.P) (h2 : Ns w r2.A r2.n r2.c r2.P) :
    SlsAt w (some ⟨b, 0, none⟩) [r1, r2] := by
  intro k r hk
  match k, hk with
  | 0, hk => simp only [List.getElem?_cons_zero, Option.some.injEq] at hk; subst hk; exact ⟨_, rfl, c0, h1⟩
  | 1, hk => simp only [List.getElem?_cons_succ, List.getElem?_cons_zero, Option.some.injEq] at hk; subst hk; exact ⟨_, rfl, by rw [addr_add]; exact c1, h2⟩
  | k + 2, hk => simp at hk

set_option maxRecDepth 100000 in
set_option maxHeartbeats 8000000 in
theorem ValChecks_walk (A1 : Option Addr) (n1 c1 : Nat) (P1 : List Nd) (A2 : Option Addr) (n2 c2 : Nat) (P2 : List Nd) (w : World) (h1 : Ns w A1 n1 c1 P1) (h2 : Ns w A2 n2 c2 P2) (hg : Door w) :
    Calls Tryd.prog 8 #[.slice A1 n1 c1, .slice A2 n2 c2] w fun e w' => e = .returned (.bool true) ∧ Below w.heap.size w w' := by
  have R := Lib.hid (fun w' hb => ref_ValueFault A1 n1 c1 P1 w' (h1.keep (w' := w') hb))
  have K := Lib.hid (fun w' hb => have h := h1.keep (w' := w') hb; val_Check A1 n1 c1 P1 w' h.len h.cap h.max h.at_ h.ok)
  have K0 := Lib.hid (fun w' => have h := ns_nil w'; val_Check none 0 0 [] w' h.len h.cap h.max h.at_ h.ok)
  rw [valFault_nil] at K0
  have Cm := Lib.hid (fun w' hb => (h1.keep (w' := w') hb).compare (h2.keep hb))
  have Nn := Lib.hid (fun w' hb => have h := h1.keep (w' := w') hb; have k := h2.keep (w' := w') hb; ref_Nodes A1 A2 n1 n2 c1 c2 P1 P2 w' h.len k.len h.max k.max h.at_ k.at_ h.ok k.ok)
  have hF : slFaults [⟨A1, n1, c1, P1⟩, ⟨A2, n2, c2, P2⟩] = cmpE P1 P2 := by
    unfold slFaults cmpE
    simp only [List.map_cons, List.map_nil, faults]
    unfold or2
    split <;> (try split) <;> simp_all
  have F := Lib.hid (fun w' (b : Nat) h0 h1' h2' h3' => ref_Faults (some ⟨b, 0, none⟩) 2 2 [⟨A1, n1, c1, P1⟩, ⟨A2, n2, c2, P2⟩] w' rfl (by unfold maxLen; omega) (sls_two h0 h1' h2' h3'))
  rw [hF] at F
  have hV : Hid (cmpE P1 P2 = 0 → cmpV P1 P2 = cmpNds P1 P2) := Lib.hid fun h => by unfold cmpV; rw [if_pos h]
  have hV2 : Hid (cmpE P1 P2 ≠ 0 → cmpV P1 P2 = 0) := Lib.hid fun h => by unfold cmpV; rw [if_neg h]
  have H1 := Lib.hid h1
  have H2 := Lib.hid h2
  clear hF h1 h2
  generalize cmpE P1 P2 = ce at *
  generalize cmpV P1 P2 = cv at *
  generalize cmpNds P1 P2 = cn at *
  generalize valFault P1 = v1 at *
  go_enter Tryd.func8, Tryd.ntmps8
  go_wp2_with fail
  refine (R.out _ (Below.refl _ _)).mono ?_
  rintro e w1 ⟨rfl, b1⟩
  have B1 := Lib.hid b1
  go_wp2_with fail
  refine (K.out _ B1.out).mono ?_
  rintro e w2 ⟨rfl, b2⟩
  have B2 := bh B1 b2
  clear b1 b2 B1
  go_wp2_with fail
  refine (same_Error _ _ _ (hg.keep B2.out)).mono ?_
  rintro e w3 ⟨rfl, b3⟩
  have B3 := bh B2 b3
  rw [beq_self_eq_true]
  clear b3 B2
  go_wp2_with fail
  refine (F.out _ _ (by go_simp) (by go_simp) (H1.out.keep (B3.out.alloc B3.out.size _)) (H2.out.keep (B3.out.alloc B3.out.size _))).mono ?_
  rintro e w4 ⟨rfl, b4⟩
  have B4 := Lib.hid ((B3.out.alloc B3.out.size (.cells #[.slice A1 n1 c1, .slice A2 n2 c2] 42)).trans (b4.mono (by have := B3.out.size; simp; omega)))
  clear b4 B3
  by_cases h0 : ce = 0
  · have hv := hV.out h0
    subst h0 hv
    clear hV hV2
    go_wp2_with fail
    refine (Nn.out _ B4.out).mono ?_
    rintro e w5 ⟨rfl, b5⟩
    have B5 := bh B4 b5
    clear b5 B4
    go_wp2_with fail
    refine (Cm.out _ B5.out).mono ?_
    rintro e w6 ⟨rfl, b6⟩
    have B6 := bh B5 b6
    clear b6 B5
    go_wp2_with fail
    refine (same_Error _ _ _ (hg.keep B6.out)).mono ?_
    rintro e w7 ⟨rfl, b7⟩
    have B7 := bh B6 b7
    rw [beq_self_eq_true]
    clear b7 B6
    go_wp2_with fail
    refine (K0.out _).mono ?_
    rintro e w8 ⟨rfl, b8⟩
    have B8 := bh B7 b8
    clear b8 B7
    go_wp2_with fail
    refine (same_Error 1 1 _ (hg.keep B8.out)).mono ?_
    rintro e w9 ⟨rfl, b9⟩
    have B9 := bh B8 b9
    clear b9 B8
    go_wp2_with fail
    go_ret
    exact ⟨ret_bool (by simp), B9.out⟩
  · have hv := hV2.out h0
    subst hv
    have h3 : (ce == 0) = false := beq_eq_false_iff_ne.2 h0
    clear hV hV2 h0
    go_wp2_with fail
    refine (Cm.out _ B4.out).mono ?_
    rintro e w6 ⟨rfl, b6⟩
    have B6 := bh B4 b6
    clear b6 B4
    go_wp2_with fail
    refine (same_Error _ _ _ (hg.keep B6.out)).mono ?_
    rintro e w7 ⟨rfl, b7⟩
    have B7 := bh B6 b7
    rw [beq_self_eq_true]
    clear b7 B6
    go_wp2_with fail
    refine (K0.out _).mono ?_
    rintro e w8 ⟨rfl, b8⟩
    have B8 := bh B7 b8
    clear b8 B7
    go_wp2_with fail
    refine (same_Error 1 1 _ (hg.keep B8.out)).mono ?_
    rintro e w9 ⟨rfl, b9⟩
    have B9 := bh B8 b9
    clear b9 B8
    go_wp2_with fail
    go_ret
    exact ⟨ret_bool (by simp), B9.out⟩
end Go.Proofs.YtbaccefcgblagaaDoor
