/-
  ValRecs: the walk of the law.
-/
import Derived.Test.YtfbgaefbalbohaaDoorRecOf
import Derived.Test.YtfbgaefbalbohaaDoorRefRecOf
import Derived.Test.YtfbgaefbalbohaaDoorTold
import Derived.Test.YtfbgaefbalbohaaDoorRdSls
namespace Go.Proofs.YtfbgaefbalbohaaDoor
open Go.RowKit Go.Wk Go.Sort
set_option maxRecDepth 100000

set_option maxHeartbeats 2000000 in
theorem ValRecs_walk (A : Option Addr) (n c : Nat) (N : List ByteArray) (A' : Option Addr) (m c' : Nat) (V : List Sl) (w : World) (hn : n = N.length) (hn2 : n ≤ 5864062014634 * 2) (hT : TxAt w A N) (hz : ∀ x ∈ N, x.size ≤ maxLen) (hm : m = V.length) (hm2 : m ≤ 5864062014634) (hV : SlsAt w A' V) (hg : Door w) :
    Calls Tryd.prog 5 #[.slice A n c, .slice A' m c'] w fun e w' => e = .returned (.bool true) ∧ Below w.heap.size w w' := by
  have C1 := Lib.hid (ref_RecOf A n c N A' m c' V w hn hn2 hT hz hm hm2 hV)
  have C2 := Lib.hid (fun w' hb => val_RecOf A n c N A' m c' V w' hn hn2 (hT.keep (w' := w') hb) hz hm hm2 (hV.keep (w' := w') hb))
  clear hn hm hV hT hz hn2 hm2
  go_enter Tryd.func5, Tryd.ntmps5
  go_wp2_with fail
  refine (C1.out).mono ?_
  rintro e w1 ⟨A1, n1, c1, rfl, N1, b1⟩
  have B1 := Lib.hid b1
  have H1 := Lib.hid N1
  clear b1 N1
  go_wp2_with fail
  refine (C2.out _ B1.out).mono ?_
  rintro e w2 ⟨A2, n2, c2, rfl, N2, b2⟩
  have B2 := bh B1 b2
  have H2 := Lib.hid N2
  have H3 := Lib.hid (H1.out.keep b2)
  clear b2 N2 H1 C1 C2
  generalize Wk.recE N (V.map Sl.P) = x at *
  go_wp2_with fail
  refine (same_Error x x _ (hg.keep B2.out)).mono ?_
  rintro e w3 ⟨rfl, b3⟩
  have B3 := bh B2 b3
  rw [beq_self_eq_true]
  have SN := Lib.hid ((H2.out.keep b3).same (H3.out.keep b3))
  rw [cmpNds_cmp.self, decide_eq_true rfl] at SN
  clear b3 B2
  go_wp2_with fail
  refine (SN.out).mono ?_
  rintro e w4 ⟨rfl, b4⟩
  have B4 := bh B3 b4
  clear b4 B3
  go_wp2_with fail
  go_ret
  exact ⟨ret_bool (by simp), B4.out⟩
end Go.Proofs.YtfbgaefbalbohaaDoor
