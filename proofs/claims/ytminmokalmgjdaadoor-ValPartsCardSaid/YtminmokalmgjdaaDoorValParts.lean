/-
  ValParts: the walk of the law.
-/
import Derived.Test.YtminmokalmgjdaaDoorRefParts
import Derived.Test.YtminmokalmgjdaaDoorTold
namespace Go.Wk
theorem flatten_len {L : List (List Nd)} (h : ∀ Q ∈ L, IsV Q) : L.length ≤ L.flatten.length := by
  induction L with
  | nil => simp
  | cons Q L ih =>
    have := (h Q (by simp)).pos
    have := ih (fun R hR => h R (by simp [hR]))
    simp only [List.length_cons, List.flatten_cons, List.length_append]
    omega
theorem flatR_len (L : List (ByteArray × List Nd)) : L.length ≤ (flatR L).length := by
  induction L with
  | nil => simp
  | cons x l ih => simp only [flatR, List.length_cons, List.length_append]; omega
theorem prtE_zero {P : List Nd} (h : prtE P = 0) : valFault P = 0 ∧ (headOp P = 5 ∨ headOp P = 6) := by
  unfold prtE at h
  by_cases h0 : valFault P = 0
  · rw [if_pos h0] at h
    by_cases h1 : headOp P = 5 ∨ headOp P = 6
    · exact ⟨h0, h1⟩
    · rw [if_neg h1] at h; omega
  · rw [if_neg h0] at h; exact absurd h h0
theorem prtL_len (P : List Nd) : (prtL P).length ≤ 200 := by
  unfold prtL
  split
  · rename_i h
    obtain ⟨h0, h1⟩ := prtE_zero h
    obtain ⟨hl, hV⟩ := isV_zero.1 h0
    split
    · rename_i h5
      obtain ⟨e, -, h3, -⟩ := isV_set hV h5
      have := congrArg List.length e
      have := flatten_len h3
      simp only [List.length_cons] at *
      omega
    · rename_i h5
      obtain ⟨e, -, -, -⟩ := isV_rec hV (h1.resolve_left h5)
      have := congrArg List.length e
      have := flatR_len (recParts P)
      simp only [List.length_cons, List.length_map] at *
      omega
  · simp
theorem upB_lt {L : List (ByteArray × List Nd)} : ∀ {last : ByteArray}, UpB last L → ∀ (k : Nat) (hk : k < L.length), cmpB last L[k].1 < 0 := by
  induction L with
  | nil => intro last _ k hk; simp at hk
  | cons x L ih =>
    intro last h k hk
    rcases k with _ | k
    · exact h.1
    · exact cmpB_cmp.lt_le h.1 (by have := ih h.2 k (by simpa using hk); simp only [List.getElem_cons_succ]; omega)
theorem upB_apart {L : List (ByteArray × List Nd)} : ∀ {last : ByteArray}, UpB last L → ∀ (j k : Nat) (hj : j < k) (hk : k < L.length), cmpB (L[j]'(by omega)).1 L[k].1 < 0 := by
  induction L with
  | nil => intro last _ j k hj hk; simp at hk
  | cons x L ih =>
    intro last h j k hj hk
    obtain ⟨k, rfl⟩ : ∃ k', k = k' + 1 := ⟨k - 1, by omega⟩
    rcases j with _ | j
    · exact upB_lt h.2 k (by simpa using hk)
    · exact ih h.2 j k (by omega) (by simpa using hk)
end Go.Wk
namespace Go.Proofs.YtminmokalmgjdaaDoor
open Go.RowKit Go.Wk Go.Sort
set_option maxRecDepth 100000

theorem ns_none (w : World) : Ns w none 0 0 [] := ⟨rfl, Nat.le_refl _, by unfold maxLen; omega, fun k x hx => by simp at hx, fun x hx => by cases hx⟩
theorem sls_none (w : World) : SlsAt w none [] := fun k r hk => by simp at hk
/-- Parts, as a slice that holds them. -/
theorem parts_at (A : Option Addr) (n c : Nat) (P : List Nd) (w : World) (h : Ns w A n c P) :
    Calls Tryd.prog 13 #[.slice A n c] w fun e w' => ∃ (A' : Option Addr) (c' : Nat) (V : List Sl), e = .returned (.tuple #[.slice A' V.length c', errV (prtE P)]) ∧ SlsAt w' A' V ∧ V.map Sl.P = prtL P ∧ V.length ≤ 200 ∧ Below w.heap.size w w' :=
  (val_Parts A n c P w h).mono fun _ _ ⟨v, V, he, hO, hL, hb⟩ => by
    obtain ⟨A', c', rfl, -, hS⟩ := hO.at
    have := congrArg List.length hL
    have := prtL_len P
    simp only [List.length_map] at *
    exact ⟨A', c', V, he, hS, hL, by omega, hb⟩

set_option maxHeartbeats 8000000 in
theorem ValParts_fault (A : Option Addr) (n c : Nat) (P : List Nd) (s : ByteArray) (w : World) (h : Ns w A n c P) (hg : Door w) (h0 : valFault P ≠ 0) :
    Calls Tryd.prog 3 #[.slice A n c, .string s] w fun e w' => e = .returned (.bool true) ∧ Below w.heap.size w w' := by
  have R := Lib.hid (fun w' hb => ref_ValueFault A n c P w' (h.keep (w' := w') hb))
  have hE : prtE P = valFault P := by unfold prtE; rw [if_neg h0]
  have hE2 : getE P s = valFault P := by unfold getE; rw [if_neg h0]
  have hL : prtL P = [] := by unfold prtL; rw [if_neg (by rw [hE]; exact h0)]
  have hV : getV P s = [] := by unfold getV; rw [if_neg (by rw [hE2]; exact h0)]
  have T := Lib.hid (fun w' hb => parts_at A n c P w' (h.keep (w' := w') hb))
  have G := Lib.hid (fun w' hb => val_Get A n c P s w' (h.keep (w' := w') hb))
  unfold GetPost at G
  rw [hE, hL] at T
  rw [hE2, hV] at G
  have h1 : (valFault P == 0) = false := beq_eq_false_iff_ne.2 h0
  generalize valFault P = x at *
  clear h h0 hE hE2 hL hV
  go_enter Tryd.func3, Tryd.ntmps3
  go_wp2_with fail
  refine (R.out _ (Below.refl _ _)).mono ?_
  rintro e w1 ⟨rfl, b1⟩
  have B1 := Lib.hid b1
  clear b1
  go_wp2_with fail
  refine (T.out _ B1.out).mono ?_
  rintro e w2 ⟨A', c', V, rfl, hS, hL, hl, b2⟩
  have B2 := bh B1 b2
  obtain rfl : V = [] := by simpa using hL
  have HS := Lib.hid hS
  clear b2 B1 hS hL hl
  go_wp2_with fail
  refine (same_Error x x _ (hg.keep B2.out)).mono ?_
  rintro e w3 ⟨rfl, b3⟩
  have B3 := bh B2 b3
  rw [beq_self_eq_true]
  have SL := Lib.hid (fun w' hb => same_Lists A' none 0 0 c' 0 [] [] w' rfl rfl (by unfold maxLen; omega) (by unfold maxLen; omega) (HS.out.keep (w' := w') hb) (sls_none _) rfl)
  go_wp2_with fail
  refine (SL.out _ b3).mono ?_
  rintro e w4 ⟨rfl, b4⟩
  have B4 := bh B3 b4
  clear b3 b4 B2 B3 SL HS
  go_wp2_with fail
  refine (R.out _ B4.out).mono ?_
  rintro e w5 ⟨rfl, b5⟩
  have B5 := bh B4 b5
  clear b5 B4
  go_wp2_with fail
  refine (G.out _ B5.out).mono ?_
  rintro e w6 ⟨A2, n2, c2, rfl, hN, -, b6⟩
  have B6 := bh B5 b6
  have HN := Lib.hid hN
  clear b6 B5 hN
  go_wp2_with fail
  refine (same_Error x x _ (hg.keep B6.out)).mono ?_
  rintro e w7 ⟨rfl, b7⟩
  have B7 := bh B6 b7
  rw [beq_self_eq_true]
  have SN := Lib.hid ((HN.out.keep b7).same (ns_none w7))
  rw [cmpNds_cmp.self, decide_eq_true rfl] at SN
  clear b7 B6
  go_wp2_with fail
  refine (SN.out).mono ?_
  rintro e w8 ⟨rfl, b8⟩
  have B8 := bh B7 b8
  clear b8 B7
  go_wp2_with fail
  go_ret
  exact ⟨ret_bool (by simp), B8.out⟩

set_option maxHeartbeats 8000000 in
theorem ValParts_other (A : Option Addr) (n c : Nat) (P : List Nd) (s : ByteArray) (w : World) (h : Ns w A n c P) (hg : Door w) (h0 : valFault P = 0) (h5 : headOp P ≠ 5) (h6 : headOp P ≠ 6) :
    Calls Tryd.prog 3 #[.slice A n c, .string s] w fun e w' => e = .returned (.bool true) ∧ Below w.heap.size w w' := by
  have R := Lib.hid (fun w' hb => ref_ValueFault A n c P w' (h.keep (w' := w') hb))
  have hE : prtE P = 2 := by unfold prtE; rw [if_pos h0, if_neg (by omega)]
  have hE2 : getE P s = 2 := by unfold getE; rw [if_pos h0, if_neg h6]
  have hL : prtL P = [] := by unfold prtL; rw [if_neg (by rw [hE]; omega)]
  have hV : getV P s = [] := by unfold getV; rw [if_neg (by rw [hE2]; omega)]
  have T := Lib.hid (fun w' hb => parts_at A n c P w' (h.keep (w' := w') hb))
  have G := Lib.hid (fun w' hb => val_Get A n c P s w' (h.keep (w' := w') hb))
  unfold GetPost at G
  rw [hE, hL] at T
  rw [hE2, hV] at G
  rw [h0] at R
  have hpos := (isV_zero.1 h0).2.pos
  obtain ⟨a, rfl, D⟩ := h.at_.nd hpos
  rw [show a.add (0 * 4) = a from rfl] at D
  have hn1 : 0 < n := by rw [h.len]; exact hpos
  have d0 := D.c0
  rw [← headOp_at hpos] at d0
  have D0 := Lib.hid (fun w' (hb : Below w.heap.size w w') => cell_keep hb d0)
  have g5 : (headOp P != 5) = true := by rw [bne_iff_ne]; exact h5
  have g6 : (headOp P != 6) = true := by rw [bne_iff_ne]; exact h6
  clear h h0 hE hE2 hL hV D d0 h5 h6
  go_enter Tryd.func3, Tryd.ntmps3
  go_wp2_with fail
  refine (R.out _ (Below.refl _ _)).mono ?_
  rintro e w1 ⟨rfl, b1⟩
  have B1 := Lib.hid b1
  have d1 := D0.out _ b1
  clear b1
  go_wp2_with fail
  refine (T.out _ B1.out).mono ?_
  rintro e w2 ⟨A', c', V, rfl, hS, hL, hl, b2⟩
  have B2 := bh B1 b2
  obtain rfl : V = [] := by simpa using hL
  have HS := Lib.hid hS
  clear b2 B1 hS hL hl d1
  go_wp2_with fail
  refine (same_Error 2 2 _ (hg.keep B2.out)).mono ?_
  rintro e w3 ⟨rfl, b3⟩
  have B3 := bh B2 b3
  rw [beq_self_eq_true]
  have SL := Lib.hid (fun w' hb => same_Lists A' none 0 0 c' 0 [] [] w' rfl rfl (by unfold maxLen; omega) (by unfold maxLen; omega) (HS.out.keep (w' := w') hb) (sls_none _) rfl)
  go_wp2_with fail
  refine (SL.out _ b3).mono ?_
  rintro e w4 ⟨rfl, b4⟩
  have B4 := bh B3 b4
  clear b3 b4 B2 B3 SL HS
  go_wp2_with fail
  refine (R.out _ B4.out).mono ?_
  rintro e w5 ⟨rfl, b5⟩
  have B5 := bh B4 b5
  have d5 := D0.out _ B5.out
  clear b5 B4
  go_wp2_with fail
  refine (G.out _ B5.out).mono ?_
  rintro e w6 ⟨A2, n2, c2, rfl, hN, -, b6⟩
  have B6 := bh B5 b6
  have HN := Lib.hid hN
  clear b6 B5 hN d5
  go_wp2_with fail
  refine (same_Error 2 2 _ (hg.keep B6.out)).mono ?_
  rintro e w7 ⟨rfl, b7⟩
  have B7 := bh B6 b7
  rw [beq_self_eq_true]
  have SN := Lib.hid ((HN.out.keep b7).same (ns_none w7))
  rw [cmpNds_cmp.self, decide_eq_true rfl] at SN
  clear b7 B6
  go_wp2_with fail
  refine (SN.out).mono ?_
  rintro e w8 ⟨rfl, b8⟩
  have B8 := bh B7 b8
  clear b8 B7
  go_wp2_with fail
  go_ret
  exact ⟨ret_bool (by simp), B8.out⟩

set_option maxHeartbeats 8000000 in
theorem ValParts_set (A : Option Addr) (n c : Nat) (P : List Nd) (s : ByteArray) (w : World) (h : Ns w A n c P) (hg : Door w) (h0 : valFault P = 0) (h5 : headOp P = 5) :
    Calls Tryd.prog 3 #[.slice A n c, .string s] w fun e w' => e = .returned (.bool true) ∧ Below w.heap.size w w' := by
  have R := Lib.hid (fun w' hb => ref_ValueFault A n c P w' (h.keep (w' := w') hb))
  have hE : prtE P = 0 := by unfold prtE; rw [if_pos h0, if_pos (.inl h5)]
  have hE2 : getE P s = 2 := by unfold getE; rw [if_pos h0, if_neg (by omega)]
  have hV : getV P s = [] := by unfold getV; rw [if_neg (by rw [hE2]; omega)]
  have T := Lib.hid (fun w' hb => parts_at A n c P w' (h.keep (w' := w') hb))
  have W := Lib.hid (fun w' hb => ref_Parts A n c P w' (h.keep (w' := w') hb) hE)
  have G := Lib.hid (fun w' hb => val_Get A n c P s w' (h.keep (w' := w') hb))
  have PL := Lib.hid (prtL_len P)
  unfold GetPost at G
  rw [hE] at T
  rw [hE2, hV] at G
  rw [h0] at R
  have hpos := (isV_zero.1 h0).2.pos
  obtain ⟨a, rfl, D⟩ := h.at_.nd hpos
  rw [show a.add (0 * 4) = a from rfl] at D
  have hn1 : 0 < n := by rw [h.len]; exact hpos
  have d0 := D.c0
  rw [← headOp_at hpos, h5] at d0
  have D0 := Lib.hid (fun w' (hb : Below w.heap.size w w') => cell_keep hb d0)
  clear h h0 hE hE2 hV D d0 h5
  go_enter Tryd.func3, Tryd.ntmps3
  go_wp2_with fail
  refine (R.out _ (Below.refl _ _)).mono ?_
  rintro e w1 ⟨rfl, b1⟩
  have B1 := Lib.hid b1
  have d1 := D0.out _ b1
  clear b1
  go_wp2_with fail
  refine (W.out _ B1.out).mono ?_
  rintro e w1' ⟨v, v', U, rfl, hT, hU, b1'⟩
  have B1' := bh B1 b1'
  obtain ⟨AU, cU, rfl, -, hSU⟩ := hT.a.at
  have HU := Lib.hid hSU
  have HUL := Lib.hid hU
  clear b1' B1 hT hSU hU d1
  go_wp2_with fail
  refine (T.out _ B1'.out).mono ?_
  rintro e w2 ⟨A', c', V, rfl, hS, hL, hl, b2⟩
  have B2 := bh B1' b2
  have HU2 := Lib.hid (HU.out.keep b2)
  have HS := Lib.hid hS
  have HVL := Lib.hid hL
  have hUl : U.length ≤ 200 := by have := congrArg List.length HUL.out; have := PL.out; simp only [List.length_map] at *; omega
  clear b2 B1' hS hL HU
  go_wp2_with fail
  refine (same_Error 0 0 _ (hg.keep B2.out)).mono ?_
  rintro e w3 ⟨rfl, b3⟩
  have B3 := bh B2 b3
  rw [beq_self_eq_true]
  have SL := Lib.hid (fun w' hb => same_Lists A' AU V.length U.length c' cU V U w' rfl rfl (by unfold maxLen; omega) (by unfold maxLen; omega) (HS.out.keep (w' := w') hb) (HU2.out.keep hb) (HVL.out.trans HUL.out.symm))
  go_wp2_with fail
  refine (SL.out _ b3).mono ?_
  rintro e w4 ⟨rfl, b4⟩
  have B4 := bh B3 b4
  clear b3 b4 B2 B3 SL HS HU2
  go_wp2_with fail
  refine (R.out _ B4.out).mono ?_
  rintro e w5 ⟨rfl, b5⟩
  have B5 := bh B4 b5
  have d5 := D0.out _ B5.out
  clear b5 B4
  go_wp2_with fail
  refine (G.out _ B5.out).mono ?_
  rintro e w6 ⟨A2, n2, c2, rfl, hN, -, b6⟩
  have B6 := bh B5 b6
  have HN := Lib.hid hN
  clear b6 B5 hN d5
  go_wp2_with fail
  refine (same_Error 2 2 _ (hg.keep B6.out)).mono ?_
  rintro e w7 ⟨rfl, b7⟩
  have B7 := bh B6 b7
  rw [beq_self_eq_true]
  have SN := Lib.hid ((HN.out.keep b7).same (ns_none w7))
  rw [cmpNds_cmp.self, decide_eq_true rfl] at SN
  clear b7 B6
  go_wp2_with fail
  refine (SN.out).mono ?_
  rintro e w8 ⟨rfl, b8⟩
  have B8 := bh B7 b8
  clear b8 B7
  go_wp2_with fail
  go_ret
  exact ⟨ret_bool (by simp), B8.out⟩

/-- Texts of a row of the call's own, as a slice that holds them. -/
theorem strs_at {w : World} {B : Nat} {v : Value} {N : List ByteArray} (h : w.ownsRow B 9 1 v N.length (N.map Value.string)) :
    ∃ (A : Option Addr) (c : Nat), v = .slice A N.length c ∧ N.length ≤ c ∧ ∀ k (hk : k < N.length), ∃ a, A = some a ∧ w.cell? (a.add k) = some (.string N[k]) := by
  rcases h.2 with ⟨rfl, h0⟩ | ⟨g, cap, cur, rfl, -, -, hc, -⟩
  · exact ⟨none, 0, by rw [h0], by omega, fun k hk => by omega⟩
  · exact ⟨_, cap, rfl, hc, fun k hk => ⟨_, rfl, h.cells (g := g) rfl k _ (by rw [List.getElem?_map, List.getElem?_eq_getElem hk]; rfl)⟩⟩

set_option maxHeartbeats 8000000 in
theorem ValParts_rec (A : Option Addr) (n c : Nat) (P : List Nd) (s : ByteArray) (w : World) (h : Ns w A n c P) (hg : Door w) (h0 : valFault P = 0) (h6 : headOp P = 6) :
    Calls Tryd.prog 3 #[.slice A n c, .string s] w fun e w' => e = .returned (.bool true) ∧ Below w.heap.size w w' := by
  have R := Lib.hid (fun w' hb => ref_ValueFault A n c P w' (h.keep (w' := w') hb))
  have hE : prtE P = 0 := by unfold prtE; rw [if_pos h0, if_pos (.inr h6)]
  have hPN : prtN P = (recParts P).map (·.1) := by unfold prtN; rw [if_neg (by omega)]
  have hPL : prtL P = (recParts P).map (·.2) := by unfold prtL; rw [if_pos hE, if_neg (by omega)]
  have HG := Lib.hid (show getE P s = if (getR P s).isSome then 0 else 3 by unfold getE; rw [if_pos h0, if_pos h6])
  have UP := Lib.hid (isV_rec (isV_zero.1 h0).2 h6).2.2.2
  have T := Lib.hid (fun w' hb => parts_at A n c P w' (h.keep (w' := w') hb))
  have W := Lib.hid (fun w' hb => ref_Parts A n c P w' (h.keep (w' := w') hb) hE)
  have G := Lib.hid (fun w' hb => val_Get A n c P s w' (h.keep (w' := w') hb))
  have PL := Lib.hid (prtL_len P)
  have HPL := Lib.hid hPL
  unfold GetPost at G
  rw [hE] at T
  rw [hPN] at W
  rw [h0] at R
  have hpos := (isV_zero.1 h0).2.pos
  obtain ⟨a, rfl, D⟩ := h.at_.nd hpos
  rw [show a.add (0 * 4) = a from rfl] at D
  have hn1 : 0 < n := by rw [h.len]; exact hpos
  have d0 := D.c0
  rw [← headOp_at hpos, h6] at d0
  have D0 := Lib.hid (fun w' (hb : Below w.heap.size w w') => cell_keep hb d0)
  clear h h0 hE D d0 h6 hPN hPL
  go_enter Tryd.func3, Tryd.ntmps3
  go_wp2_with fail
  refine (R.out _ (Below.refl _ _)).mono ?_
  rintro e w1 ⟨rfl, b1⟩
  have B1 := Lib.hid b1
  have d1 := D0.out _ b1
  clear b1
  go_wp2_with fail
  refine (W.out _ B1.out).mono ?_
  rintro e w1' ⟨v, v', U, rfl, hT, hU, b1'⟩
  have B1' := bh B1 b1'
  obtain ⟨AU, cU, rfl, -, hSU⟩ := hT.a.at
  have HU := Lib.hid hSU
  have HUL := Lib.hid hU
  clear b1' B1 hT hSU hU d1
  go_wp2_with fail
  refine (T.out _ B1'.out).mono ?_
  rintro e w2 ⟨A', c', V, rfl, hS, hL, hl, b2⟩
  have B2 := bh B1' b2
  have HU2 := Lib.hid (HU.out.keep b2)
  have HS := Lib.hid hS
  have HVL := Lib.hid hL
  have hUl : U.length ≤ 200 := by have := congrArg List.length HUL.out; have := PL.out; simp only [List.length_map] at *; omega
  clear b2 B1' hS hL HU
  go_wp2_with fail
  refine (same_Error 0 0 _ (hg.keep B2.out)).mono ?_
  rintro e w3 ⟨rfl, b3⟩
  have B3 := bh B2 b3
  rw [beq_self_eq_true]
  have SL := Lib.hid (fun w' hb => same_Lists A' AU V.length U.length c' cU V U w' rfl rfl (by unfold maxLen; omega) (by unfold maxLen; omega) (HS.out.keep (w' := w') hb) (HU2.out.keep hb) (HVL.out.trans HUL.out.symm))
  go_wp2_with fail
  refine (SL.out _ b3).mono ?_
  rintro e w4 ⟨rfl, b4⟩
  have B4 := bh B3 b4
  clear b3 b4 B2 B3 SL HS HU2 HUL hUl
  go_wp2_with fail
  refine (R.out _ B4.out).mono ?_
  rintro e w5 ⟨rfl, b5⟩
  have B5 := bh B4 b5
  have d5 := D0.out _ B5.out
  clear b5 B4
  go_wp2_with fail
  refine (W.out _ B5.out).mono ?_
  rintro e w6 ⟨v2, v2', U2, rfl, hT, hU, b6⟩
  have B6 := bh B5 b6
  obtain ⟨A2, c2, rfl, -, hSU⟩ := hT.a.at
  obtain ⟨A3, c3, rfl, hc3, hN3⟩ := strs_at hT.b
  have HU := Lib.hid hSU
  have HUL := Lib.hid hU
  have HN3 := Lib.hid hN3
  have hUl : U2.length = (recParts P).length := by have := congrArg List.length hU; rw [HPL.out] at this; simpa using this
  have hrl : (recParts P).length ≤ 200 := by have := PL.out; rw [HPL.out] at this; simpa using this
  have hnl : ((recParts P).map (·.1)).length = (recParts P).length := by simp
  clear b6 B5 hT hSU hU d5 hN3
  rcases idx_ways ((recParts P).map (·.1)) s with ⟨k0, hk0, -, hkk, -⟩ | ⟨-, hno⟩
  · have hk' : k0 < (recParts P).length := by simpa using hk0
    have hkV : k0 < U2.length := by omega
    have hks : (recParts P)[k0].1 = s := by simpa using hkk
    have hR : getR P s = some (recParts P)[k0].2 := by
      unfold getR
      rw [find_at hk' (decide_eq_true ((cmpB_cmp.zero _ _).2 hks)) (fun j hj => decide_eq_false (fun q => by
        have := upB_apart UP.out j k0 hj hk'
        rw [hks, q] at this; omega))]
      rfl
    have hother := Lib.hid (show ∀ k (hk : k < (recParts P).length), k ≠ k0 → ¬ (recParts P)[k].1.toList = s.toList from fun k hk hne q => by
      have e := toList_inj q
      rcases Nat.lt_or_gt_of_ne hne with hl | hl
      · have := upB_apart UP.out k k0 hl hk'
        rw [e, hks, cmpB_cmp.self] at this; omega
      · have := upB_apart UP.out k0 k hl hk
        rw [e, hks, cmpB_cmp.self] at this; omega)
    have HP : Hid (U2[k0].P = (recParts P)[k0].2) := Lib.hid (by
      have := congrArg (fun l => l[k0]?) HUL.out
      rw [HPL.out] at this
      simp only [List.getElem?_map, List.getElem?_eq_getElem hkV, List.getElem?_eq_getElem hk', Option.map_some, Option.some.injEq] at this
      exact this)
    have HE2 := Lib.hid (show getE P s = 0 by rw [HG.out, hR]; rfl)
    have HV2 := Lib.hid (show getV P s = U2[k0].P by unfold getV; rw [if_pos HE2.out, hR, HP.out]; rfl)
    have HKS := Lib.hid hks
    obtain ⟨-, -, -, n0⟩ := HU.out.at hkV
    have HN0 := Lib.hid n0
    have HL := Lib.hid hnl
    have HUl := Lib.hid hUl
    clear hR hks hkk n0 hnl hUl hk0
    go_wp2_with fail
    go_loop [5, 11, 14] (fun e one i => ∃ k : Nat, k ≤ U2.length ∧ i = .int .i64 k ∧ Hid ((k ≤ k0 ∧ e = .int .i64 3 ∧ one = .slice none 0 0) ∨ (k0 < k ∧ e = .int .i64 0 ∧ one = .slice U2[k0].A U2[k0].n U2[k0].c))) (fun _ _ i => U2.length - (intOf i).toNat)
    case atStart => exact ⟨0, Nat.zero_le _, rfl, .inl ⟨Nat.zero_le _, rfl, rfl⟩⟩
    case round =>
      obtain ⟨k, hk, rfl, hst⟩ := hrel
      by_cases hlt : k < U2.length
      · have hkr : k < (recParts P).length := by rw [← HUl.out]; exact hlt
        have hkn : k < ((recParts P).map (·.1)).length := by rw [HL.out]; exact hkr
        obtain ⟨a3, rfl, q3⟩ := HN3.out k hkn
        have hnm : ((recParts P).map (·.1))[k] = (recParts P)[k].1 := by simp
        rw [hnm] at q3
        by_cases hk0 : k = k0
        · subst hk0
          rw [HKS.out] at q3
          obtain ⟨a2, rfl, q2, -⟩ := HU.out.at hlt
          have hHL := HL.out
          clear hnm hst
          go_wp2_with fail
          go_round
          case rel => exact ⟨k + 1, by omega, by go_num, .inr ⟨by omega, rfl, rfl⟩⟩
          case measure => simp [intOf]; omega
        · have hne := hother.out k hkr hk0
          have hne2 : ((recParts P)[k].1.toList == s.toList) = false := beq_eq_false_iff_ne.2 hne
          generalize (recParts P)[k].1 = nm at *
          clear hnm
          rcases hst.out with ⟨g1, rfl, rfl⟩ | ⟨g1, rfl, rfl⟩
          · clear hst
            go_wp2_with fail
            go_round
            case rel => exact ⟨k + 1, by omega, by go_num, .inl ⟨by omega, rfl, rfl⟩⟩
            case measure => simp [intOf]; omega
          · clear hst
            go_wp2_with fail
            go_round
            case rel => exact ⟨k + 1, by omega, by go_num, .inr ⟨by omega, rfl, rfl⟩⟩
            case measure => simp [intOf]; omega
      · rcases hst.out with ⟨g1, rfl, rfl⟩ | ⟨g1, rfl, rfl⟩
        · omega
        · clear hst
          rw [HE2.out, HV2.out] at G
          go_wp2_with fail
          refine (G.out _ B6.out).mono ?_
          rintro e w7 ⟨A4, n4, c4, rfl, hN, -, b7⟩
          have B7 := bh B6 b7
          have HN := Lib.hid hN
          have HN1 := Lib.hid (HN0.out.keep b7)
          clear b7 B6 hN
          go_wp2_with fail
          refine (same_Error 0 0 _ (hg.keep B7.out)).mono ?_
          rintro e w8 ⟨rfl, b8⟩
          have B8 := bh B7 b8
          rw [beq_self_eq_true]
          have SN := Lib.hid ((HN.out.keep b8).same (HN1.out.keep b8))
          rw [cmpNds_cmp.self, decide_eq_true rfl] at SN
          clear b8 B7
          go_wp2_with fail
          refine (SN.out).mono ?_
          rintro e w9 ⟨rfl, b9⟩
          have B9 := bh B8 b9
          clear b9 B8
          go_wp2_with fail
          go_ret
          exact ⟨ret_bool (by simp), B9.out⟩
  · have hR : getR P s = none := by
      unfold getR
      rw [List.find?_eq_none.2 (fun x hx => by
        obtain ⟨j, hj, rfl⟩ := List.getElem_of_mem hx
        have := hno j (by simpa using hj)
        simp only [decide_eq_true_eq]
        intro q
        exact this (by simpa using (cmpB_cmp.zero _ _).1 q))]
      rfl
    have hother := Lib.hid (show ∀ k (hk : k < (recParts P).length), ¬ (recParts P)[k].1.toList = s.toList from fun k hk q => hno k (by simpa using hk) (by simpa using toList_inj q))
    have HE2 := Lib.hid (show getE P s = 3 by rw [HG.out, hR]; rfl)
    have HV2 := Lib.hid (show getV P s = [] by unfold getV; rw [HE2.out]; rfl)
    have HL := Lib.hid hnl
    have HUl := Lib.hid hUl
    clear hR hno hnl hUl
    go_wp2_with fail
    go_loop [5, 11, 14] (fun e one i => ∃ k : Nat, k ≤ U2.length ∧ i = .int .i64 k ∧ e = .int .i64 3 ∧ one = .slice none 0 0) (fun _ _ i => U2.length - (intOf i).toNat)
    case atStart => exact ⟨0, Nat.zero_le _, rfl, rfl, rfl⟩
    case round =>
      obtain ⟨k, hk, rfl, rfl, rfl⟩ := hrel
      by_cases hlt : k < U2.length
      · have hkr : k < (recParts P).length := by rw [← HUl.out]; exact hlt
        have hkn : k < ((recParts P).map (·.1)).length := by rw [HL.out]; exact hkr
        obtain ⟨a3, rfl, q3⟩ := HN3.out k hkn
        have hnm : ((recParts P).map (·.1))[k] = (recParts P)[k].1 := by simp
        rw [hnm] at q3
        have hne := hother.out k hkr
        have hne2 : ((recParts P)[k].1.toList == s.toList) = false := beq_eq_false_iff_ne.2 hne
        generalize (recParts P)[k].1 = nm at *
        clear hnm
        go_wp2_with fail
        go_round
        case rel => exact ⟨k + 1, by omega, by go_num, rfl, rfl⟩
        case measure => simp [intOf]; omega
      · rw [HE2.out, HV2.out] at G
        go_wp2_with fail
        refine (G.out _ B6.out).mono ?_
        rintro e w7 ⟨A4, n4, c4, rfl, hN, -, b7⟩
        have B7 := bh B6 b7
        have HN := Lib.hid hN
        clear b7 B6 hN
        go_wp2_with fail
        refine (same_Error 3 3 _ (hg.keep B7.out)).mono ?_
        rintro e w8 ⟨rfl, b8⟩
        have B8 := bh B7 b8
        rw [beq_self_eq_true]
        have SN := Lib.hid ((HN.out.keep b8).same (ns_none w8))
        rw [cmpNds_cmp.self, decide_eq_true rfl] at SN
        clear b8 B7
        go_wp2_with fail
        refine (SN.out).mono ?_
        rintro e w9 ⟨rfl, b9⟩
        have B9 := bh B8 b9
        clear b9 B8
        go_wp2_with fail
        go_ret
        exact ⟨ret_bool (by simp), B9.out⟩
theorem ValParts_walk (A : Option Addr) (n c : Nat) (P : List Nd) (s : ByteArray) (w : World) (h : Ns w A n c P) (_hs : s.size ≤ maxLen) (hg : Door w) :
    Calls Tryd.prog 3 #[.slice A n c, .string s] w fun e w' => e = .returned (.bool true) ∧ Below w.heap.size w w' := by
  by_cases h0 : valFault P = 0
  · by_cases h5 : headOp P = 5
    · exact ValParts_set A n c P s w h hg h0 h5
    · by_cases h6 : headOp P = 6
      · exact ValParts_rec A n c P s w h hg h0 h6
      · exact ValParts_other A n c P s w h hg h0 h5 h6
  · exact ValParts_fault A n c P s w h hg h0
end Go.Proofs.YtminmokalmgjdaaDoor
