/-
  BagOrder: the walk of the law.
-/
import Derived.Test.YtfbgaefbalbohaaBagMk
namespace Go.Proofs.Ytfbgaefbalbohaa
open Go.RowKit Go.Wk Go.Sort
set_option maxRecDepth 100000

theorem order_factE : bothE oneSet oneSet = 0 := by decide +kernel
theorem order_factV : allV oneSet oneSet = true := by decide +kernel
section
variable (A1 : Option Addr) (n1 c1 : Nat) (S : List Nd) (A2 : Option Addr) (n2 c2 : Nat) (T : List Nd) (w : World) (hs : Ns w A1 n1 c1 S) (ht : Ns w A2 n2 c2 T)
include hs ht
set_option maxHeartbeats 4000000 in
theorem BagOrder_bad (h : bothE S T ≠ 0) :
    Calls Try.prog 5 #[.slice A1 n1 c1, .slice A2 n2 c2] w fun e w' => e = .returned (.bool true) ∧ Below w.heap.size w w' := by
  have f1 := Lib.hid (ns_one w)
  have B0 := Lib.hid (below_box w (.cells #[.int .i64 5, .int .i64 1, .string ⟨#[]⟩, .string ⟨#[]⟩, .int .i64 2, .int .i64 5, .string ⟨#[]⟩, .string ⟨#[]⟩] 31))
  have F := Lib.hid (f1.out.all f1.out)
  rw [order_factE, order_factV, errV_zero] at F
  have C1 := Lib.hid (fun w' hb => (hs.keep (w' := w') hb).all (ht.keep hb))
  have C2 := Lib.hid (fun w' hb => (ht.keep (w' := w') hb).all (hs.keep hb))
  have hc : bothE T S ≠ 0 := fun q => h (bothE_comm.1 q)
  rw [errV_ne h] at C1
  rw [errV_ne hc] at C2
  generalize allV S T = x1 at *
  generalize allV T S = x2 at *
  clear h hc hs ht f1
  go_enter Try.func5, Try.ntmps5
  go_wp2_with fail
  refine (F.out).mono ?_
  rintro e w1 ⟨rfl, b1⟩
  have B1 := bh B0 b1
  clear b1 B0
  go_wp2_with fail
  refine (C1.out _ B1.out).mono ?_
  rintro e w2 ⟨rfl, b2⟩
  have B2 := bh B1 b2
  clear b2 B1
  go_wp2_with fail
  refine (C2.out _ B2.out).mono ?_
  rintro e w3 ⟨rfl, b3⟩
  have B3 := bh B2 b3
  clear b3 B2
  go_wp2_with fail
  go_ret
  exact ⟨rfl, B3.out⟩
set_option maxHeartbeats 8000000 in
theorem BagOrder_ok (h : bothE S T = 0) :
    Calls Try.prog 5 #[.slice A1 n1 c1, .slice A2 n2 c2] w fun e w' => e = .returned (.bool true) ∧ Below w.heap.size w w' := by
  have f1 := Lib.hid (ns_one w)
  have B0 := Lib.hid (below_box w (.cells #[.int .i64 5, .int .i64 1, .string ⟨#[]⟩, .string ⟨#[]⟩, .int .i64 2, .int .i64 5, .string ⟨#[]⟩, .string ⟨#[]⟩] 31))
  have F := Lib.hid (f1.out.all f1.out)
  rw [order_factE, order_factV, errV_zero] at F
  have hself : bothE S S = 0 := bothE_self.2 ⟨(bothE_zero.1 h).1, (bothE_zero.1 h).2.2.1⟩
  have C1 := Lib.hid (fun w' hb => (hs.keep (w' := w') hb).all (ht.keep hb))
  have C2 := Lib.hid (fun w' hb => (ht.keep (w' := w') hb).all (hs.keep hb))
  have C3 := Lib.hid (fun w' hb => (hs.keep (w' := w') hb).meet_ok (ht.keep hb) h rfl)
  have C4 := Lib.hid (fun w' hb => (hs.keep (w' := w') hb).same (ht.keep hb))
  have C5 := Lib.hid (fun w' hb => (hs.keep (w' := w') hb).any (ht.keep hb))
  have C6 := Lib.hid (fun w' hb => (hs.keep (w' := w') hb).all (hs.keep hb))
  have HT := Lib.hid ht
  rw [h, errV_zero] at C1 C5
  rw [bothE_comm.1 h, errV_zero] at C2
  rw [hself, errV_zero, order_self hself] at C6
  rw [← order_same h] at C4
  have HM := Lib.hid (order_all h).symm
  have HN := Lib.hid (order_some h)
  have hpos : 0 < (setV (meetL S T)).length := by rw [setV_eq (Wk.meet_ok h).2.2]; simp
  generalize setV (meetL S T) = M at *
  rw [HN.out] at C5
  generalize allV S T = x1 at *
  generalize allV T S = x2 at *
  clear h hself hs ht f1
  go_enter Try.func5, Try.ntmps5
  go_wp2_with fail
  refine (F.out).mono ?_
  rintro e w1 ⟨rfl, b1⟩
  have B1 := bh B0 b1
  clear b1 B0
  go_wp2_with fail
  refine (C1.out _ B1.out).mono ?_
  rintro e w2 ⟨rfl, b2⟩
  have B2 := bh B1 b2
  clear b2 B1
  go_wp2_with fail
  refine (C2.out _ B2.out).mono ?_
  rintro e w3 ⟨rfl, b3⟩
  have B3 := bh B2 b3
  clear b3 B2
  go_wp2_with fail
  refine (C3.out _ B3.out).mono ?_
  rintro e w4 ⟨A4, n4, c4, rfl, N4, b4⟩
  have B4 := bh B3 b4
  clear b4 B3
  have K := N4.same (HT.out.keep B4.out)
  rw [HM.out] at K
  have K5 := Lib.hid K
  have hl := N4.len
  rw [← hl] at C5 hpos
  clear K N4 hl HM HN C3
  go_wp2_with fail
  refine (K5.out).mono ?_
  rintro e w5 ⟨rfl, b5⟩
  have B5 := bh B4 b5
  clear b5 B4
  go_wp2_with fail
  refine (C4.out _ B5.out).mono ?_
  rintro e w6 ⟨rfl, b6⟩
  have B6 := bh B5 b6
  clear b6 B5
  go_wp2_with fail
  refine (C5.out _ B6.out).mono ?_
  rintro e w7 ⟨rfl, b7⟩
  have B7 := bh B6 b7
  clear b7 B6
  go_wp2_with fail
  refine (C6.out _ B7.out).mono ?_
  rintro e w8 ⟨rfl, b8⟩
  have B8 := bh B7 b8
  clear b8 B7
  have hne : ((n4 : Int) == 0) = false := beq_eq_false_iff_ne.2 (by omega)
  by_cases h1 : 1 < n4
  · rw [decide_eq_true h1]
    cases x1 <;> cases x2
    all_goals
      go_wp2_with fail
      go_ret
      exact ⟨ret_bool (by simp; omega), B8.out⟩
  · rw [decide_eq_false h1]
    cases x1 <;> cases x2
    all_goals
      go_wp2_with fail
      go_ret
      exact ⟨ret_bool (by simp; omega), B8.out⟩
end
theorem BagOrder_walk (A1 : Option Addr) (n1 c1 : Nat) (S : List Nd) (A2 : Option Addr) (n2 c2 : Nat) (T : List Nd) (w : World) (hs : Ns w A1 n1 c1 S) (ht : Ns w A2 n2 c2 T) :
    Calls Try.prog 5 #[.slice A1 n1 c1, .slice A2 n2 c2] w fun e w' => e = .returned (.bool true) ∧ Below w.heap.size w w' := by
  by_cases h : bothE S T = 0
  · exact BagOrder_ok A1 n1 c1 S A2 n2 c2 T w hs ht h
  · exact BagOrder_bad A1 n1 c1 S A2 n2 c2 T w hs ht h
end Go.Proofs.Ytfbgaefbalbohaa
