/-
  KindsOrder: the walk of the law.
-/
import Derived.Test.YtocchkmhnneiiaaKindEnd
namespace Go.Proofs.Ytocchkmhnneiiaa
open Go.RowKit Go.Wk Go.Sort
set_option maxRecDepth 100000

section
variable (A1 : Option Addr) (n1 c1 : Nat) (P : List Nd) (A2 : Option Addr) (n2 c2 : Nat) (Q : List Nd) (A3 : Option Addr) (n3 c3 : Nat) (R : List Nd) (w : World) (hs : Ns w A1 n1 c1 P) (ht : Ns w A2 n2 c2 Q) (hu : Ns w A3 n3 c3 R)
include hs ht hu
set_option maxHeartbeats 8000000 in
theorem KindsOrder_bad (h : ¬ (kindFault P = 0 ∧ kindFault Q = 0 ∧ kindFault R = 0)) :
    Calls Try.prog 5 #[.slice A1 n1 c1, .slice A2 n2 c2, .slice A3 n3 c3] w fun e w' => e = .returned (.bool true) ∧ Below w.heap.size w w' := by
  have B0 := Lib.hid (Below.refl w.heap.size w)
  have C2 := Lib.hid (fun w' hb => (hs.keep (w' := w') hb).kinds_Check)
  have C3 := Lib.hid (fun w' hb => (ht.keep (w' := w') hb).kinds_Check)
  have C4 := Lib.hid (fun w' hb => (hu.keep (w' := w') hb).kinds_Check)
  clear hs ht hu
  by_cases h1 : kindFault P = 0
  · rw [h1, errV_zero] at C2
    by_cases h2 : kindFault Q = 0
    · rw [h2, errV_zero] at C3
      have h3 : kindFault R ≠ 0 := fun e => h ⟨h1, h2, e⟩
      rw [errV_ne h3] at C4
      go_enter Try.func5, Try.ntmps5
      go_wp2_with fail
      refine (law_joined _).mono ?_
      rintro e w1 ⟨rfl, b1⟩
      have B1 := bh B0 b1
      clear b1 B0
      go_wp2_with fail
      refine (C2.out _ B1.out).mono ?_
      rintro e w2 ⟨rfl, b2⟩
      have B2 := bh B1 b2
      clear b2 B1
      go_wp2_with fail
      refine (C3.out _ B2.out).mono ?_
      rintro e w3 ⟨rfl, b3⟩
      have B3 := bh B2 b3
      clear b3 B2
      go_wp2_with fail
      refine (C4.out _ B3.out).mono ?_
      rintro e w4 ⟨rfl, b4⟩
      have B4 := bh B3 b4
      clear b4 B3
      go_wp2_with fail
      go_ret
      exact ⟨rfl, B4.out⟩
    · rw [errV_ne h2] at C3
      go_enter Try.func5, Try.ntmps5
      go_wp2_with fail
      refine (law_joined _).mono ?_
      rintro e w1 ⟨rfl, b1⟩
      have B1 := bh B0 b1
      clear b1 B0
      go_wp2_with fail
      refine (C2.out _ B1.out).mono ?_
      rintro e w2 ⟨rfl, b2⟩
      have B2 := bh B1 b2
      clear b2 B1
      go_wp2_with fail
      refine (C3.out _ B2.out).mono ?_
      rintro e w3 ⟨rfl, b3⟩
      have B3 := bh B2 b3
      clear b3 B2
      go_wp2_with fail
      go_ret
      exact ⟨rfl, B3.out⟩
  · rw [errV_ne h1] at C2
    go_enter Try.func5, Try.ntmps5
    go_wp2_with fail
    refine (law_joined _).mono ?_
    rintro e w1 ⟨rfl, b1⟩
    have B1 := bh B0 b1
    clear b1 B0
    go_wp2_with fail
    refine (C2.out _ B1.out).mono ?_
    rintro e w2 ⟨rfl, b2⟩
    have B2 := bh B1 b2
    clear b2 B1
    go_wp2_with fail
    go_ret
    exact ⟨rfl, B2.out⟩
set_option maxHeartbeats 8000000 in
theorem KindsOrder_ok (h1 : kindFault P = 0) (h2 : kindFault Q = 0) (h3 : kindFault R = 0) :
    Calls Try.prog 5 #[.slice A1 n1 c1, .slice A2 n2 c2, .slice A3 n3 c3] w fun e w' => e = .returned (.bool true) ∧ Below w.heap.size w w' := by
  obtain ⟨o1, o2, o3, o4, o5⟩ := order_law h1 h2 h3
  have B0 := Lib.hid (Below.refl w.heap.size w)
  have C2 := Lib.hid (fun w' hb => (hs.keep (w' := w') hb).kinds_Check)
  have C3 := Lib.hid (fun w' hb => (ht.keep (w' := w') hb).kinds_Check)
  have C4 := Lib.hid (fun w' hb => (hu.keep (w' := w') hb).kinds_Check)
  have C5 := Lib.hid (fun w' hb => (hs.keep (w' := w') hb).kinds_Below (hs.keep hb))
  have C6 := Lib.hid (fun w' hb => (hs.keep (w' := w') hb).kinds_Below (ht.keep hb))
  have C7 := Lib.hid (fun w' hb => (ht.keep (w' := w') hb).kinds_Below (hs.keep hb))
  have C8 := Lib.hid (fun w' hb => (ht.keep (w' := w') hb).kinds_Below (hu.keep hb))
  have C9 := Lib.hid (fun w' hb => (hs.keep (w' := w') hb).kinds_Below (hu.keep hb))
  have CN := Lib.hid (fun w' (hb : Below w.heap.size w w') => (ns_none w').kinds_Below (hs.keep (hb.trans ((below_box w' _).mono hb.size))))
  have CA := Lib.hid (fun w' (hb : Below w.heap.size w w') => (hs.keep (hb.trans ((below_box w' (.cells #[.int .i64 48, .int .i64 0, .string ⟨#[]⟩, .string ⟨#[]⟩] 34)).mono hb.size))).kinds_Below (ns_any w'))
  have CS := Lib.hid (fun w' hb => (hs.keep (w' := w') hb).same (ht.keep hb))
  have z := fun {X Y : List Nd} (a : kindFault X = 0) (b : kindFault Y = 0) => both_zero.2 ⟨a, b⟩
  rw [h1, errV_zero] at C2
  rw [h2, errV_zero] at C3
  rw [h3, errV_zero] at C4
  rw [z h1 h1, o1, errV_zero] at C5
  rw [z h1 h2, errV_zero] at C6
  rw [z h2 h1, errV_zero] at C7
  rw [z h2 h3, errV_zero] at C8
  rw [z h1 h3, errV_zero] at C9
  rw [z noneN_kin.zero h1, o2, errV_zero] at CN
  rw [z h1 anyN_kin.zero, o3, errV_zero] at CA
  rw [← o4] at CS
  generalize belB P Q = x1 at *
  generalize belB Q P = x2 at *
  generalize belB Q R = x3 at *
  generalize belB P R = x4 at *
  have O5 := Lib.hid o5
  clear hs ht hu h1 h2 h3 z o1 o2 o3 o4 o5
  go_enter Try.func5, Try.ntmps5
  go_wp2_with fail
  refine (law_joined _).mono ?_
  rintro e w1 ⟨rfl, b1⟩
  have B1 := bh B0 b1
  clear b1 B0
  go_wp2_with fail
  refine (C2.out _ B1.out).mono ?_
  rintro e w2 ⟨rfl, b2⟩
  have B2 := bh B1 b2
  clear b2 B1
  go_wp2_with fail
  refine (C3.out _ B2.out).mono ?_
  rintro e w3 ⟨rfl, b3⟩
  have B3 := bh B2 b3
  clear b3 B2
  go_wp2_with fail
  refine (C4.out _ B3.out).mono ?_
  rintro e w4 ⟨rfl, b4⟩
  have B4 := bh B3 b4
  clear b4 B3
  go_wp2_with fail
  refine (C5.out _ B4.out).mono ?_
  rintro e w5 ⟨rfl, b5⟩
  have B5 := bh B4 b5
  clear b5 B4
  go_wp2_with fail
  refine (C6.out _ B5.out).mono ?_
  rintro e w6 ⟨rfl, b6⟩
  have B6 := bh B5 b6
  clear b6 B5
  go_wp2_with fail
  refine (C7.out _ B6.out).mono ?_
  rintro e w7 ⟨rfl, b7⟩
  have B7 := bh B6 b7
  clear b7 B6
  go_wp2_with fail
  refine (C8.out _ B7.out).mono ?_
  rintro e w8 ⟨rfl, b8⟩
  have B8 := bh B7 b8
  clear b8 B7
  go_wp2_with fail
  refine (C9.out _ B8.out).mono ?_
  rintro e w9 ⟨rfl, b9⟩
  have B9 := bh B8 b9
  clear b9 B8
  have BN := Lib.hid (B9.out.trans ((below_box w9 (.cells #[.int .i64 49, .int .i64 0, .string ⟨#[]⟩, .string ⟨#[]⟩] 34)).mono B9.out.size))
  go_wp2_with fail
  refine (CN.out _ B9.out).mono ?_
  rintro e w10 ⟨rfl, b10⟩
  have B10 := bh BN b10
  clear b10 BN
  have BA := Lib.hid (B10.out.trans ((below_box w10 (.cells #[.int .i64 48, .int .i64 0, .string ⟨#[]⟩, .string ⟨#[]⟩] 34)).mono B10.out.size))
  go_wp2_with fail
  refine (CA.out _ B10.out).mono ?_
  rintro e w11 ⟨rfl, b11⟩
  have B11 := bh BA b11
  clear b11 BA
  go_wp2_with fail
  refine (CS.out _ B11.out).mono ?_
  rintro e w12 ⟨rfl, b12⟩
  have B12 := bh B11 b12
  clear b12 B11
  have o5 := O5.out
  cases x1 <;> cases x2 <;> cases x3 <;> cases x4
  all_goals first
    | (exact absurd (o5 rfl rfl) (by decide))
    | (clear o5
       go_wp2_with fail
       go_ret
       exact ⟨rfl, B12.out⟩)
end
theorem KindsOrder_walk (A1 : Option Addr) (n1 c1 : Nat) (P : List Nd) (A2 : Option Addr) (n2 c2 : Nat) (Q : List Nd) (A3 : Option Addr) (n3 c3 : Nat) (R : List Nd) (w : World) (hs : Ns w A1 n1 c1 P) (ht : Ns w A2 n2 c2 Q) (hu : Ns w A3 n3 c3 R) :
    Calls Try.prog 5 #[.slice A1 n1 c1, .slice A2 n2 c2, .slice A3 n3 c3] w fun e w' => e = .returned (.bool true) ∧ Below w.heap.size w w' := by
  by_cases h : kindFault P = 0 ∧ kindFault Q = 0 ∧ kindFault R = 0
  · exact KindsOrder_ok A1 n1 c1 P A2 n2 c2 Q A3 n3 c3 R w hs ht hu h.1 h.2.1 h.2.2
  · exact KindsOrder_bad A1 n1 c1 P A2 n2 c2 Q A3 n3 c3 R w hs ht hu h
end Go.Proofs.Ytocchkmhnneiiaa
