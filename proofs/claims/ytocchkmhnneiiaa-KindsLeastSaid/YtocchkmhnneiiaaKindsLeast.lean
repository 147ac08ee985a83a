/-
  KindsLeast: the walk of the law.
-/
import Derived.Test.YtocchkmhnneiiaaKindEnd
namespace Go.Proofs.Ytocchkmhnneiiaa
open Go.RowKit Go.Wk Go.Sort
set_option maxRecDepth 100000

section
variable (A1 : Option Addr) (n1 c1 : Nat) (P : List Nd) (A2 : Option Addr) (n2 c2 : Nat) (Q : List Nd) (A3 : Option Addr) (n3 c3 : Nat) (R : List Nd) (w : World) (hs : Ns w A1 n1 c1 P) (ht : Ns w A2 n2 c2 Q) (hu : Ns w A3 n3 c3 R)
include hs ht hu
omit hu in
set_option maxHeartbeats 8000000 in
theorem KindsLeast_bad (h : joinE P Q ≠ 0) :
    Calls Try.prog 3 #[.slice A1 n1 c1, .slice A2 n2 c2, .slice A3 n3 c3] w fun e w' => e = .returned (.bool true) ∧ Below w.heap.size w w' := by
  have B0 := Lib.hid (Below.refl w.heap.size w)
  have C2 := Lib.hid (fun w' hb => (hs.keep (w' := w') hb).kinds_Join (ht.keep hb))
  clear hs ht
  go_enter Try.func3, Try.ntmps3
  go_wp2_with fail
  refine (law_joined _).mono ?_
  rintro e w1 ⟨rfl, b1⟩
  have B1 := bh B0 b1
  clear b1 B0
  go_wp2_with fail
  refine (C2.out _ B1.out).mono ?_
  rintro e w2 ⟨A4, n4, c4, rfl, -, b2⟩
  have B2 := bh B1 b2
  clear b2 B1
  rw [errV_ne h]
  go_wp2_with fail
  go_ret
  exact ⟨rfl, B2.out⟩
set_option maxHeartbeats 8000000 in
theorem KindsLeast_ok (h : joinE P Q = 0) :
    Calls Try.prog 3 #[.slice A1 n1 c1, .slice A2 n2 c2, .slice A3 n3 c3] w fun e w' => e = .returned (.bool true) ∧ Below w.heap.size w w' := by
  obtain ⟨f1, f2, f3, o1, o2, o3, o4, o5⟩ := least_law (R := R) h
  have B0 := Lib.hid (Below.refl w.heap.size w)
  have C2 := Lib.hid (fun w' hb => (hs.keep (w' := w') hb).kinds_Join (ht.keep hb))
  have C5 := Lib.hid (fun w' hb => (ht.keep (w' := w') hb).kinds_Join (hs.keep hb))
  have C7 := Lib.hid (fun w' hb => (hs.keep (w' := w') hb).kinds_Below (hu.keep hb))
  have C8 := Lib.hid (fun w' hb => (ht.keep (w' := w') hb).kinds_Below (hu.keep hb))
  have HS := Lib.hid hs
  have HT := Lib.hid ht
  have HU := Lib.hid hu
  have HE1 := Lib.hid (show bothF P (joinV P Q) = 0 from both_zero.2 ⟨f1, f3⟩)
  have HE2 := Lib.hid (show bothF Q (joinV P Q) = 0 from both_zero.2 ⟨f2, f3⟩)
  have HE3 := Lib.hid (bothF_of (Q := R) f3)
  have HO1 := Lib.hid o1
  have HO2 := Lib.hid o2
  have HO3 := Lib.hid o3
  have HO4 := Lib.hid o4
  have HO5 := Lib.hid o5
  have HH := Lib.hid h
  rw [bothF_of f1] at C7
  rw [bothF_of f2] at C8
  clear hs ht hu f1 f2 f3 o1 o2 o3 o4 o5 h
  go_enter Try.func3, Try.ntmps3
  go_wp2_with fail
  refine (law_joined _).mono ?_
  rintro e w1 ⟨rfl, b1⟩
  have B1 := bh B0 b1
  clear b1 B0
  go_wp2_with fail
  refine (C2.out _ B1.out).mono ?_
  rintro e w2 ⟨A4, n4, c4, rfl, ns2, b2⟩
  have B2 := bh B1 b2
  clear b2 B1
  rw [HH.out, errV_zero]
  have NJ := Lib.hid ns2
  have C3 := Lib.hid ((HS.out.keep B2.out).kinds_Below NJ.out)
  rw [HE1.out, HO1.out, errV_zero] at C3
  clear ns2
  go_wp2_with fail
  refine (C3.out).mono ?_
  rintro e w3 ⟨rfl, b3⟩
  have B3 := bh B2 b3
  replace NJ := Lib.hid (NJ.out.keep b3)
  clear b3 B2
  have C4 := Lib.hid ((HT.out.keep B3.out).kinds_Below NJ.out)
  rw [HE2.out, HO2.out, errV_zero] at C4
  go_wp2_with fail
  refine (C4.out).mono ?_
  rintro e w4 ⟨rfl, b4⟩
  have B4 := bh B3 b4
  replace NJ := Lib.hid (NJ.out.keep b4)
  clear b4 B3
  go_wp2_with fail
  refine (C5.out _ B4.out).mono ?_
  rintro e w5 ⟨A5, n5, c5, rfl, ns5, b5⟩
  have B5 := bh B4 b5
  replace NJ := Lib.hid (NJ.out.keep b5)
  clear b5 B4
  rw [HO3.out, errV_zero]
  rw [HO4.out] at ns5
  have C6 := Lib.hid (NJ.out.same ns5)
  rw [decide_eq_true ((cmpNds_cmp.zero _ _).2 rfl)] at C6
  clear ns5
  go_wp2_with fail
  refine (C6.out).mono ?_
  rintro e w6 ⟨rfl, b6⟩
  have B6 := bh B5 b6
  replace NJ := Lib.hid (NJ.out.keep b6)
  clear b6 B5
  go_wp2_with fail
  refine (C7.out _ B6.out).mono ?_
  rintro e w7 ⟨rfl, b7⟩
  have B7 := bh B6 b7
  replace NJ := Lib.hid (NJ.out.keep b7)
  clear b7 B6
  go_wp2_with fail
  refine (C8.out _ B7.out).mono ?_
  rintro e w8 ⟨rfl, b8⟩
  have B8 := bh B7 b8
  replace NJ := Lib.hid (NJ.out.keep b8)
  clear b8 B7
  have C9 := Lib.hid (NJ.out.kinds_Below (HU.out.keep B8.out))
  rw [HE3.out] at C9
  by_cases hR : kindFault R = 0
  · rw [HO5.out hR, hR, errV_zero] at C9
    rw [hR, errV_zero]
    generalize belB P R = x1 at *
    generalize belB Q R = x2 at *
    clear hR NJ
    go_wp2_with fail
    refine (C9.out).mono ?_
    rintro e w9 ⟨rfl, b9⟩
    have B9 := bh B8 b9
    clear b9 B8
    cases x1 <;> cases x2
    all_goals
      go_wp2_with fail
      go_ret
      exact ⟨rfl, B9.out⟩
  · rw [errV_ne hR] at C9 ⊢
    generalize belB P R = x1 at *
    generalize belB Q R = x2 at *
    generalize belB (joinV P Q) R = x3 at *
    clear NJ
    go_wp2_with fail
    refine (C9.out).mono ?_
    rintro e w9 ⟨rfl, b9⟩
    have B9 := bh B8 b9
    clear b9 B8
    go_wp2_with fail
    go_ret
    exact ⟨rfl, B9.out⟩
end
theorem KindsLeast_walk (A1 : Option Addr) (n1 c1 : Nat) (P : List Nd) (A2 : Option Addr) (n2 c2 : Nat) (Q : List Nd) (A3 : Option Addr) (n3 c3 : Nat) (R : List Nd) (w : World) (hs : Ns w A1 n1 c1 P) (ht : Ns w A2 n2 c2 Q) (hu : Ns w A3 n3 c3 R) :
    Calls Try.prog 3 #[.slice A1 n1 c1, .slice A2 n2 c2, .slice A3 n3 c3] w fun e w' => e = .returned (.bool true) ∧ Below w.heap.size w w' := by
  by_cases h : joinE P Q = 0
  · exact KindsLeast_ok A1 n1 c1 P A2 n2 c2 Q A3 n3 c3 R w hs ht hu h
  · exact KindsLeast_bad A1 n1 c1 P A2 n2 c2 Q A3 n3 c3 w hs ht h
end Go.Proofs.Ytocchkmhnneiiaa
