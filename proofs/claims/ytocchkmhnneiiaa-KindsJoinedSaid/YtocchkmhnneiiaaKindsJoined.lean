/-
  KindsJoined: the walk of the law.
-/
import Derived.Test.YtocchkmhnneiiaaKindEnd
namespace Go.Proofs.Ytocchkmhnneiiaa
open Go.RowKit Go.Wk Go.Sort
set_option maxRecDepth 100000

section
variable (A1 : Option Addr) (n1 c1 : Nat) (P : List Nd) (A2 : Option Addr) (n2 c2 : Nat) (Q : List Nd) (A3 : Option Addr) (n3 c3 : Nat) (R : List Nd) (w : World) (hs : Ns w A1 n1 c1 P) (ht : Ns w A2 n2 c2 Q) (hu : Ns w A3 n3 c3 R)
include hs ht hu
set_option maxHeartbeats 8000000 in
theorem KindsJoined_bad (h : joinE P Q ≠ 0 ∨ joinE Q R ≠ 0) :
    Calls Try.prog 4 #[.slice A1 n1 c1, .slice A2 n2 c2, .slice A3 n3 c3] w fun e w' => e = .returned (.bool true) ∧ Below w.heap.size w w' := by
  have B0 := Lib.hid (Below.refl w.heap.size w)
  have C2 := Lib.hid (fun w' hb => (hs.keep (w' := w') hb).kinds_Join (ht.keep hb))
  have C3 := Lib.hid (fun w' hb => (ht.keep (w' := w') hb).kinds_Join (hu.keep hb))
  clear hs ht hu
  by_cases h1 : joinE P Q = 0
  · have h2 : joinE Q R ≠ 0 := h.resolve_left (fun e => e h1)
    go_enter Try.func4, Try.ntmps4
    go_wp2_with fail
    refine (law_joined _).mono ?_
    rintro e w1 ⟨rfl, b1⟩
    have B1 := bh B0 b1
    clear b1 B0
    go_wp2_with fail
    refine (C2.out _ B1.out).mono ?_
    rintro e w2 ⟨A4, n4, c4, rfl, -, b2⟩
    have B2 := bh B1 b2
    clear b2 B1
    rw [h1, errV_zero]
    go_wp2_with fail
    refine (C3.out _ B2.out).mono ?_
    rintro e w3 ⟨A5, n5, c5, rfl, -, b3⟩
    have B3 := bh B2 b3
    clear b3 B2
    rw [errV_ne h2]
    go_wp2_with fail
    go_ret
    exact ⟨rfl, B3.out⟩
  · go_enter Try.func4, Try.ntmps4
    go_wp2_with fail
    refine (law_joined _).mono ?_
    rintro e w1 ⟨rfl, b1⟩
    have B1 := bh B0 b1
    clear b1 B0
    go_wp2_with fail
    refine (C2.out _ B1.out).mono ?_
    rintro e w2 ⟨A4, n4, c4, rfl, -, b2⟩
    have B2 := bh B1 b2
    clear b2 B1
    rw [errV_ne h1]
    go_wp2_with fail
    refine (C3.out _ B2.out).mono ?_
    rintro e w3 ⟨A5, n5, c5, rfl, -, b3⟩
    have B3 := bh B2 b3
    clear b3 B2
    go_wp2_with fail
    go_ret
    exact ⟨rfl, B3.out⟩
set_option maxHeartbeats 8000000 in
theorem KindsJoined_ok (h1 : joinE P Q = 0) (h2 : joinE Q R = 0) :
    Calls Try.prog 4 #[.slice A1 n1 c1, .slice A2 n2 c2, .slice A3 n3 c3] w fun e w' => e = .returned (.bool true) ∧ Below w.heap.size w w' := by
  have B0 := Lib.hid (Below.refl w.heap.size w)
  have C2 := Lib.hid (fun w' hb => (hs.keep (w' := w') hb).kinds_Join (ht.keep hb))
  have C3 := Lib.hid (fun w' hb => (ht.keep (w' := w') hb).kinds_Join (hu.keep hb))
  have C6 := Lib.hid (fun w' hb => (hs.keep (w' := w') hb).kinds_Join (hs.keep hb))
  have C7 := Lib.hid (fun w' hb => (ht.keep (w' := w') hb).kinds_Below (hs.keep hb))
  have HS := Lib.hid hs
  have HU := Lib.hid hu
  have HL := Lib.hid (fun h3 h4 => joined_law h1 h2 h3 h4)
  have H1 := Lib.hid h1
  have H2 := Lib.hid h2
  clear hs ht hu h1 h2
  go_enter Try.func4, Try.ntmps4
  go_wp2_with fail
  refine (law_joined _).mono ?_
  rintro e w1 ⟨rfl, b1⟩
  have B1 := bh B0 b1
  clear b1 B0
  go_wp2_with fail
  refine (C2.out _ B1.out).mono ?_
  rintro e w2 ⟨A4, n4, c4, rfl, ns2, b2⟩
  have B2 := bh B1 b2
  clear b2 B1
  rw [H1.out, errV_zero]
  have NX := Lib.hid ns2
  clear ns2
  go_wp2_with fail
  refine (C3.out _ B2.out).mono ?_
  rintro e w3 ⟨A5, n5, c5, rfl, ns3, b3⟩
  have B3 := bh B2 b3
  replace NX := Lib.hid (NX.out.keep b3)
  clear b3 B2
  rw [H2.out, errV_zero]
  have NY := Lib.hid ns3
  clear ns3
  go_wp2_with fail
  refine (NX.out.kinds_Join (HU.out.keep B3.out)).mono ?_
  rintro e w4 ⟨A6, n6, c6, rfl, ns4, b4⟩
  have B4 := bh B3 b4
  replace NX := Lib.hid (NX.out.keep b4)
  replace NY := Lib.hid (NY.out.keep b4)
  clear b4 B3
  have NP := Lib.hid ns4
  clear ns4
  by_cases h3 : joinE (joinV P Q) R = 0
  · rw [h3, errV_zero]
    go_wp2_with fail
    refine ((HS.out.keep B4.out).kinds_Join NY.out).mono ?_
    rintro e w5 ⟨A7, n7, c7, rfl, ns5, b5⟩
    have B5 := bh B4 b5
    replace NX := Lib.hid (NX.out.keep b5)
    replace NY := Lib.hid (NY.out.keep b5)
    replace NP := Lib.hid (NP.out.keep b5)
    clear b5 B4
    have NQ := Lib.hid ns5
    clear ns5
    by_cases h4 : joinE P (joinV Q R) = 0
    · rw [h4, errV_zero]
      obtain ⟨l1, l2, l3, l4, l5⟩ := HL.out h3 h4
      have E2 := Lib.hid l2
      have E3 := Lib.hid l3
      rw [l4, errV_zero, l5] at C7
      have S8 := Lib.hid (fun w' (hb : Below w5.heap.size w5 w') => (NP.out.keep hb).same (NQ.out.keep hb))
      rw [l1, decide_eq_true ((cmpNds_cmp.zero _ _).2 rfl)] at S8
      have S10 := Lib.hid (fun w' (hb : Below w5.heap.size w5 w') => (NX.out.keep hb).same ((HS.out.keep B5.out).keep hb))
      generalize decide (cmpNds (joinV P Q) P = 0) = x1 at *
      have Z0 := Lib.hid (Below.refl w5.heap.size w5)
      clear l1 l2 l3 l4 l5 HL h3 h4
      go_wp2_with fail
      refine (C6.out _ B5.out).mono ?_
      rintro e w6 ⟨A8, n8, c8, rfl, ns6, b6⟩
      rw [E2.out, errV_zero]
      rw [E3.out] at ns6
      have Z6 := bh Z0 b6
      have NS := Lib.hid ns6
      clear ns6 b6
      go_wp2_with fail
      refine (C7.out _ (B5.out.trans (Z6.out.mono B5.out.size))).mono ?_
      rintro e w7 ⟨rfl, b7⟩
      have Z7 := bh Z6 b7
      have S9 := Lib.hid (fun w' (hb : Below w7.heap.size w7 w') => ((NS.out.keep b7).keep hb).same (((HS.out.keep B5.out).keep Z7.out).keep hb))
      rw [decide_eq_true ((cmpNds_cmp.zero _ _).2 rfl)] at S9
      clear b7
      go_wp2_with fail
      refine (S8.out _ Z7.out).mono ?_
      rintro e w8 ⟨rfl, b8⟩
      have Z8 := bh Z7 b8
      have B78 := Lib.hid b8
      clear b8
      go_wp2_with fail
      refine (S9.out _ B78.out).mono ?_
      rintro e w9 ⟨rfl, b9⟩
      have Z9 := bh Z8 b9
      clear b9
      go_wp2_with fail
      refine (S10.out _ Z9.out).mono ?_
      rintro e w10 ⟨rfl, b10⟩
      have Z10 := bh Z9 b10
      have BE := Lib.hid (B5.out.trans (Z10.out.mono B5.out.size))
      clear b10
      cases x1
      all_goals
        go_wp2_with fail
        go_ret
        exact ⟨rfl, BE.out⟩
    · rw [errV_ne h4]
      go_wp2_with fail
      go_ret
      exact ⟨rfl, B5.out⟩
  · rw [errV_ne h3]
    go_wp2_with fail
    refine ((HS.out.keep B4.out).kinds_Join NY.out).mono ?_
    rintro e w5 ⟨A7, n7, c7, rfl, ns5, b5⟩
    have B5 := bh B4 b5
    clear b5 B4
    go_wp2_with fail
    go_ret
    exact ⟨rfl, B5.out⟩
end
theorem KindsJoined_walk (A1 : Option Addr) (n1 c1 : Nat) (P : List Nd) (A2 : Option Addr) (n2 c2 : Nat) (Q : List Nd) (A3 : Option Addr) (n3 c3 : Nat) (R : List Nd) (w : World) (hs : Ns w A1 n1 c1 P) (ht : Ns w A2 n2 c2 Q) (hu : Ns w A3 n3 c3 R) :
    Calls Try.prog 4 #[.slice A1 n1 c1, .slice A2 n2 c2, .slice A3 n3 c3] w fun e w' => e = .returned (.bool true) ∧ Below w.heap.size w w' := by
  by_cases h1 : joinE P Q = 0
  · by_cases h2 : joinE Q R = 0
    · exact KindsJoined_ok A1 n1 c1 P A2 n2 c2 Q A3 n3 c3 R w hs ht hu h1 h2
    · exact KindsJoined_bad A1 n1 c1 P A2 n2 c2 Q A3 n3 c3 R w hs ht hu (.inr h2)
  · exact KindsJoined_bad A1 n1 c1 P A2 n2 c2 Q A3 n3 c3 R w hs ht hu (.inl h1)
end Go.Proofs.Ytocchkmhnneiiaa
