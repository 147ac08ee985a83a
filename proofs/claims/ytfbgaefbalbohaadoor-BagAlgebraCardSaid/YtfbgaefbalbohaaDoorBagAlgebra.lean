/-
  BagAlgebra: the walk of the law.
-/
import Derived.Test.YtfbgaefbalbohaaDoorBagMk
import Derived.Test.YtfbgaefbalbohaaDoorTold
namespace Go.Proofs.YtfbgaefbalbohaaDoor
open Go.RowKit Go.Wk Go.Sort
set_option maxRecDepth 100000

theorem alg_factB : bothE [setHead 0] oneSet = 0 := by decide +kernel
theorem alg_factE : Wk.setE (unionL [setHead 0] oneSet) = 0 := by decide +kernel
theorem alg_factV : setV (unionL [setHead 0] oneSet) = oneSet := (cmpNds_cmp.zero _ _).1 (by decide +kernel)
section
variable (A1 : Option Addr) (n1 c1 : Nat) (S : List Nd) (A2 : Option Addr) (n2 c2 : Nat) (T : List Nd) (A3 : Option Addr) (n3 c3 : Nat) (U : List Nd) (w : World) (hs : Ns w A1 n1 c1 S) (ht : Ns w A2 n2 c2 T) (hu : Ns w A3 n3 c3 U) (hg : Door w)
include hs ht hg
set_option maxHeartbeats 8000000 in
theorem BagAlgebra_bad (h : bothE S T ≠ 0) :
    Calls Tryd.prog 8 #[.slice A1 n1 c1, .slice A2 n2 c2, .slice A3 n3 c3] w fun e w' => e = .returned (.bool true) ∧ Below w.heap.size w w' := by
  have f0 := Lib.hid ((ns_no w).keep (below_box _ (.cells #[.int .i64 5, .int .i64 1, .string ⟨#[]⟩, .string ⟨#[]⟩, .int .i64 2, .int .i64 5, .string ⟨#[]⟩, .string ⟨#[]⟩] 45)))
  have f1 := Lib.hid (ns_one (w.alloc (.cells #[.int .i64 5, .int .i64 0, .string ⟨#[]⟩, .string ⟨#[]⟩] 45)))
  rw [show (w.alloc (.cells #[.int .i64 5, .int .i64 0, .string ⟨#[]⟩, .string ⟨#[]⟩] 45)).heap.size = w.heap.size + 1 by simp] at f1
  have B0 := Lib.hid (((Below.refl w.heap.size w).alloc (Nat.le_refl _) (.cells #[.int .i64 5, .int .i64 0, .string ⟨#[]⟩, .string ⟨#[]⟩] 45)).alloc (by simp) (.cells #[.int .i64 5, .int .i64 1, .string ⟨#[]⟩, .string ⟨#[]⟩, .int .i64 2, .int .i64 5, .string ⟨#[]⟩, .string ⟨#[]⟩] 45))
  have C1 := Lib.hid (fun w' hb => (hs.keep (w' := w') hb).union (ht.keep hb))
  have C2 := Lib.hid (fun w' hb => (hs.keep (w' := w') hb).meet (ht.keep hb))
  have C3 := Lib.hid (fun w' hb => (hs.keep (w' := w') hb).less (ht.keep hb))
  have HG := Lib.hid hg
  unfold OpPost at C1 C2 C3
  rw [opE_bad h, opV_bad h] at C1 C2 C3
  rw [errV_ne h] at C1 C2
  have HE := Lib.hid (errV_ne h)
  generalize bothE S T = y at *
  clear h hs ht hg
  go_enter Tryd.func8, Tryd.ntmps8
  go_wp2_with fail
  refine (f0.out.union_ok f1.out alg_factB alg_factE alg_factV).mono ?_
  rintro e w1 ⟨a1, m1, d1, rfl, N1, b1⟩
  have B1 := bh B0 b1
  replace f0 := Lib.hid (f0.out.keep b1)
  replace f1 := Lib.hid (f1.out.keep b1)
  clear b1 B0
  go_wp2_with fail
  refine (N1.alike f1.out).mono ?_
  rintro e w2 ⟨rfl, b2⟩
  have B2 := bh B1 b2
  clear b2 B1
  clear N1 f0 f1
  go_wp2_with fail
  refine (C1.out _ B2.out).mono ?_
  rintro e w3 ⟨a3, m3, d3, rfl, -, b3⟩
  have B3 := bh B2 b3
  clear b3 B2
  go_wp2_with fail
  refine (C2.out _ B3.out).mono ?_
  rintro e w4 ⟨a4, m4, d4, rfl, -, b4⟩
  have B4 := bh B3 b4
  clear b4 B3
  go_wp2_with fail
  refine (C3.out _ B4.out).mono ?_
  rintro e w5 ⟨a5, m5, d5, rfl, -, b5⟩
  have B5 := bh B4 b5
  clear b5 B4
  have K := Lib.hid (same_Error y 4 w5 (HG.out.keep B5.out))
  rw [HE.out] at K
  go_wp2_with fail
  refine (K.out).mono ?_
  rintro e w6 ⟨rfl, b6⟩
  have B6 := bh B5 b6
  clear b6 B5 K HE
  generalize (y == 4) = tb at *
  cases tb
  all_goals
    go_wp2_with fail
    go_ret
    exact ⟨rfl, B6.out⟩
set_option maxHeartbeats 8000000 in
theorem BagAlgebra_full (h : bothE S T = 0) (hf : Wk.setE (unionL S T) = 4) :
    Calls Tryd.prog 8 #[.slice A1 n1 c1, .slice A2 n2 c2, .slice A3 n3 c3] w fun e w' => e = .returned (.bool true) ∧ Below w.heap.size w w' := by
  have f0 := Lib.hid ((ns_no w).keep (below_box _ (.cells #[.int .i64 5, .int .i64 1, .string ⟨#[]⟩, .string ⟨#[]⟩, .int .i64 2, .int .i64 5, .string ⟨#[]⟩, .string ⟨#[]⟩] 45)))
  have f1 := Lib.hid (ns_one (w.alloc (.cells #[.int .i64 5, .int .i64 0, .string ⟨#[]⟩, .string ⟨#[]⟩] 45)))
  rw [show (w.alloc (.cells #[.int .i64 5, .int .i64 0, .string ⟨#[]⟩, .string ⟨#[]⟩] 45)).heap.size = w.heap.size + 1 by simp] at f1
  have B0 := Lib.hid (((Below.refl w.heap.size w).alloc (Nat.le_refl _) (.cells #[.int .i64 5, .int .i64 0, .string ⟨#[]⟩, .string ⟨#[]⟩] 45)).alloc (by simp) (.cells #[.int .i64 5, .int .i64 1, .string ⟨#[]⟩, .string ⟨#[]⟩, .int .i64 2, .int .i64 5, .string ⟨#[]⟩, .string ⟨#[]⟩] 45))
  have C1 := Lib.hid (fun w' hb => (hs.keep (w' := w') hb).union (ht.keep hb))
  have C2 := Lib.hid (fun w' hb => (hs.keep (w' := w') hb).meet_ok (ht.keep hb) h rfl)
  have C3 := Lib.hid (fun w' hb => (hs.keep (w' := w') hb).less_ok (ht.keep hb) h rfl)
  have HG := Lib.hid hg
  unfold OpPost at C1
  rw [opE_ok h, hf, show errV 4 = .iface 32 (.int .i64 4) from rfl] at C1
  clear h hs ht hg hf
  go_enter Tryd.func8, Tryd.ntmps8
  go_wp2_with fail
  refine (f0.out.union_ok f1.out alg_factB alg_factE alg_factV).mono ?_
  rintro e w1 ⟨a1, m1, d1, rfl, N1, b1⟩
  have B1 := bh B0 b1
  replace f0 := Lib.hid (f0.out.keep b1)
  replace f1 := Lib.hid (f1.out.keep b1)
  clear b1 B0
  go_wp2_with fail
  refine (N1.alike f1.out).mono ?_
  rintro e w2 ⟨rfl, b2⟩
  have B2 := bh B1 b2
  clear b2 B1
  clear N1 f0 f1
  go_wp2_with fail
  refine (C1.out _ B2.out).mono ?_
  rintro e w3 ⟨a3, m3, d3, rfl, -, b3⟩
  have B3 := bh B2 b3
  clear b3 B2
  go_wp2_with fail
  refine (C2.out _ B3.out).mono ?_
  rintro e w4 ⟨a4, m4, d4, rfl, -, b4⟩
  have B4 := bh B3 b4
  clear b4 B3
  go_wp2_with fail
  refine (C3.out _ B4.out).mono ?_
  rintro e w5 ⟨a5, m5, d5, rfl, -, b5⟩
  have B5 := bh B4 b5
  clear b5 B4
  have K := Lib.hid (same_Error 4 4 w5 (HG.out.keep B5.out))
  rw [show errV 4 = .iface 32 (.int .i64 4) from rfl] at K
  go_wp2_with fail
  refine (K.out).mono ?_
  rintro e w6 ⟨rfl, b6⟩
  have B6 := bh B5 b6
  clear b6 B5 K
  go_wp2_with fail
  go_ret
  exact ⟨rfl, B6.out⟩
omit hg
include hu
set_option maxHeartbeats 16000000 in
theorem BagAlgebra_ok (h : bothE S T = 0) (hf : Wk.setE (unionL S T) = 0) :
    Calls Tryd.prog 8 #[.slice A1 n1 c1, .slice A2 n2 c2, .slice A3 n3 c3] w fun e w' => e = .returned (.bool true) ∧ Below w.heap.size w w' := by
  have f0 := Lib.hid ((ns_no w).keep (below_box _ (.cells #[.int .i64 5, .int .i64 1, .string ⟨#[]⟩, .string ⟨#[]⟩, .int .i64 2, .int .i64 5, .string ⟨#[]⟩, .string ⟨#[]⟩] 45)))
  have f1 := Lib.hid (ns_one (w.alloc (.cells #[.int .i64 5, .int .i64 0, .string ⟨#[]⟩, .string ⟨#[]⟩] 45)))
  rw [show (w.alloc (.cells #[.int .i64 5, .int .i64 0, .string ⟨#[]⟩, .string ⟨#[]⟩] 45)).heap.size = w.heap.size + 1 by simp] at f1
  have B0 := Lib.hid (((Below.refl w.heap.size w).alloc (Nat.le_refl _) (.cells #[.int .i64 5, .int .i64 0, .string ⟨#[]⟩, .string ⟨#[]⟩] 45)).alloc (by simp) (.cells #[.int .i64 5, .int .i64 1, .string ⟨#[]⟩, .string ⟨#[]⟩, .int .i64 2, .int .i64 5, .string ⟨#[]⟩, .string ⟨#[]⟩] 45))
  have hc := bothE_comm.1 h
  have C1 := Lib.hid (fun w' hb => (hs.keep (w' := w') hb).union_ok (ht.keep hb) h hf rfl)
  have C2 := Lib.hid (fun w' hb => (hs.keep (w' := w') hb).meet_ok (ht.keep hb) h rfl)
  have C3 := Lib.hid (fun w' hb => (hs.keep (w' := w') hb).less_ok (ht.keep hb) h rfl)
  have C4 := Lib.hid (fun w' hb => (ht.keep (w' := w') hb).union_ok (hs.keep hb) hc ((union_comm h).1.symm.trans hf) (union_comm h).2.symm)
  have C5 := Lib.hid (fun w' hb => (ht.keep (w' := w') hb).meet_ok (hs.keep hb) hc (meet_comm h).symm)
  have C6 := Lib.hid (fun w' hb => (ht.keep (w' := w') hb).union (hu.keep hb))
  have HML := Lib.hid (meet_less_both h)
  have HAL := Lib.hid (meet_less_all h)
  have HNO := Lib.hid (meet_less_none h)
  have HLL := Lib.hid (fun k kf => less_less (S := S) (T := T) (U := U) h k kf)
  have HS := Lib.hid hs
  have HU := Lib.hid hu
  generalize setV (unionL S T) = X at *
  generalize setV (meetL S T) = M at *
  generalize setV (lessL S T) = L at *
  clear h hs ht hu hf hc
  go_enter Tryd.func8, Tryd.ntmps8
  go_wp2_with fail
  refine (f0.out.union_ok f1.out alg_factB alg_factE alg_factV).mono ?_
  rintro e w1 ⟨a1, m1, d1, rfl, N1, b1⟩
  have B1 := bh B0 b1
  replace f0 := Lib.hid (f0.out.keep b1)
  replace f1 := Lib.hid (f1.out.keep b1)
  clear b1 B0
  go_wp2_with fail
  refine (N1.alike f1.out).mono ?_
  rintro e w2 ⟨rfl, b2⟩
  have B2 := bh B1 b2
  replace f0 := Lib.hid (f0.out.keep b2)
  clear b2 B1
  clear N1 f1
  go_wp2_with fail
  refine (C1.out _ B2.out).mono ?_
  rintro e w3 ⟨a3, m3, d3, rfl, N3, b3⟩
  have B3 := bh B2 b3
  replace f0 := Lib.hid (f0.out.keep b3)
  clear b3 B2
  have H3 := Lib.hid N3
  go_wp2_with fail
  refine (C2.out _ B3.out).mono ?_
  rintro e w4 ⟨a4, m4, d4, rfl, N4, b4⟩
  have B4 := bh B3 b4
  replace f0 := Lib.hid (f0.out.keep b4)
  replace H3 := Lib.hid (H3.out.keep b4)
  clear b4 B3
  have H4 := Lib.hid N4
  go_wp2_with fail
  refine (C3.out _ B4.out).mono ?_
  rintro e w5 ⟨a5, m5, d5, rfl, N5, b5⟩
  have B5 := bh B4 b5
  replace f0 := Lib.hid (f0.out.keep b5)
  replace H3 := Lib.hid (H3.out.keep b5)
  replace H4 := Lib.hid (H4.out.keep b5)
  clear b5 B4
  have H5 := Lib.hid N5
  clear N3 N4 N5
  go_wp2_with fail
  refine (C4.out _ B5.out).mono ?_
  rintro e w6 ⟨a6, m6, d6, rfl, N6, b6⟩
  have B6 := bh B5 b6
  replace f0 := Lib.hid (f0.out.keep b6)
  replace H3 := Lib.hid (H3.out.keep b6)
  replace H4 := Lib.hid (H4.out.keep b6)
  replace H5 := Lib.hid (H5.out.keep b6)
  clear b6 B5
  have H6 := Lib.hid N6
  go_wp2_with fail
  refine (C5.out _ B6.out).mono ?_
  rintro e w7 ⟨a7, m7, d7, rfl, N7, b7⟩
  have B7 := bh B6 b7
  replace f0 := Lib.hid (f0.out.keep b7)
  replace H3 := Lib.hid (H3.out.keep b7)
  replace H4 := Lib.hid (H4.out.keep b7)
  replace H5 := Lib.hid (H5.out.keep b7)
  replace H6 := Lib.hid (H6.out.keep b7)
  clear b7 B6
  have H7 := Lib.hid N7
  clear N6 N7
  go_wp2_with fail
  refine (H3.out.alike H6.out).mono ?_
  rintro e w8 ⟨rfl, b8⟩
  have B8 := bh B7 b8
  replace f0 := Lib.hid (f0.out.keep b8)
  replace H4 := Lib.hid (H4.out.keep b8)
  replace H5 := Lib.hid (H5.out.keep b8)
  replace H7 := Lib.hid (H7.out.keep b8)
  clear b8 B7
  clear H3 H6
  go_wp2_with fail
  refine (H4.out.alike H7.out).mono ?_
  rintro e w9 ⟨rfl, b9⟩
  have B9 := bh B8 b9
  replace f0 := Lib.hid (f0.out.keep b9)
  replace H4 := Lib.hid (H4.out.keep b9)
  replace H5 := Lib.hid (H5.out.keep b9)
  clear b9 B8
  clear H7
  go_wp2_with fail
  refine (H4.out.union_ok H5.out HML.out HAL.out.1 HAL.out.2).mono ?_
  rintro e w10 ⟨a10, m10, d10, rfl, N10, b10⟩
  have B10 := bh B9 b10
  replace f0 := Lib.hid (f0.out.keep b10)
  replace H4 := Lib.hid (H4.out.keep b10)
  replace H5 := Lib.hid (H5.out.keep b10)
  clear b10 B9
  have H10 := Lib.hid N10
  clear N10
  go_wp2_with fail
  refine (H10.out.alike (HS.out.keep B10.out)).mono ?_
  rintro e w11 ⟨rfl, b11⟩
  have B11 := bh B10 b11
  replace f0 := Lib.hid (f0.out.keep b11)
  replace H4 := Lib.hid (H4.out.keep b11)
  replace H5 := Lib.hid (H5.out.keep b11)
  clear b11 B10
  clear H10
  go_wp2_with fail
  refine (H4.out.meet_ok H5.out HML.out HNO.out).mono ?_
  rintro e w12 ⟨a12, m12, d12, rfl, N12, b12⟩
  have B12 := bh B11 b12
  replace f0 := Lib.hid (f0.out.keep b12)
  replace H4 := Lib.hid (H4.out.keep b12)
  replace H5 := Lib.hid (H5.out.keep b12)
  clear b12 B11
  have H12 := Lib.hid N12
  clear N12
  go_wp2_with fail
  refine (H12.out.alike f0.out).mono ?_
  rintro e w13 ⟨rfl, b13⟩
  have B13 := bh B12 b13
  replace H5 := Lib.hid (H5.out.keep b13)
  clear b13 B12
  clear H12 f0 H4
  by_cases hW : opE T U (unionL T U) = 0
  · obtain ⟨k0, k1⟩ := opE_zero.1 hW
    obtain ⟨q1, q2, q3⟩ := HLL.out k0 k1
    have HQ1 := Lib.hid q1
    have HQ2 := Lib.hid q2
    have HQ3 := Lib.hid q3.symm
    unfold OpPost at C6
    rw [hW, opV_ok k0, errV_zero] at C6
    clear k0 k1 q1 q2 q3 hW HLL
    generalize setV (unionL T U) = W at *
    go_wp2_with fail
    refine (C6.out _ B13.out).mono ?_
    rintro e w14 ⟨a14, m14, d14, rfl, N14, b14⟩
    have B14 := bh B13 b14
    replace H5 := Lib.hid (H5.out.keep b14)
    clear b14 B13
    have H14 := Lib.hid N14
    clear N14
    go_wp2_with fail
    refine ((HS.out.keep B14.out).less_ok H14.out HQ1.out rfl).mono ?_
    rintro e w15 ⟨a15, m15, d15, rfl, N15, b15⟩
    have B15 := bh B14 b15
    replace H5 := Lib.hid (H5.out.keep b15)
    clear b15 B14
    have H15 := Lib.hid N15
    clear N15
    go_wp2_with fail
    refine (H5.out.less_ok (HU.out.keep B15.out) HQ2.out HQ3.out).mono ?_
    rintro e w16 ⟨a16, m16, d16, rfl, N16, b16⟩
    have B16 := bh B15 b16
    replace H15 := Lib.hid (H15.out.keep b16)
    clear b16 B15
    go_wp2_with fail
    refine (H15.out.alike N16).mono ?_
    rintro e w17 ⟨rfl, b17⟩
    have B17 := bh B16 b17
    clear b17 B16
    go_wp2_with fail
    go_ret
    exact ⟨rfl, B17.out⟩
  · unfold OpPost at C6
    rw [errV_ne hW] at C6
    clear hW HLL
    go_wp2_with fail
    refine (C6.out _ B13.out).mono ?_
    rintro e w14 ⟨a14, m14, d14, rfl, -, b14⟩
    have B14 := bh B13 b14
    clear b14 B13
    go_wp2_with fail
    go_ret
    exact ⟨rfl, B14.out⟩
end
theorem BagAlgebra_walk (A1 : Option Addr) (n1 c1 : Nat) (S : List Nd) (A2 : Option Addr) (n2 c2 : Nat) (T : List Nd) (A3 : Option Addr) (n3 c3 : Nat) (U : List Nd) (w : World) (hs : Ns w A1 n1 c1 S) (ht : Ns w A2 n2 c2 T) (hu : Ns w A3 n3 c3 U) (hg : Door w) :
    Calls Tryd.prog 8 #[.slice A1 n1 c1, .slice A2 n2 c2, .slice A3 n3 c3] w fun e w' => e = .returned (.bool true) ∧ Below w.heap.size w w' := by
  by_cases h1 : bothE S T = 0
  · rcases setE_ways (unionL_faults h1) with h2 | h2
    · exact BagAlgebra_ok A1 n1 c1 S A2 n2 c2 T A3 n3 c3 U w hs ht hu h1 h2
    · exact BagAlgebra_full A1 n1 c1 S A2 n2 c2 T A3 n3 c3 w hs ht hg h1 h2
  · exact BagAlgebra_bad A1 n1 c1 S A2 n2 c2 T A3 n3 c3 w hs ht hg h1
end Go.Proofs.YtfbgaefbalbohaaDoor
