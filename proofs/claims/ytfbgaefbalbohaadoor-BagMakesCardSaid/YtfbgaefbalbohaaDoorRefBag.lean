/-
  The reference's SetFault, Within and Chosen.
-/
import Derived.Test.YtfbgaefbalbohaaDoorBagOps
import Derived.Test.YtfbgaefbalbohaaDoorRefParts
namespace Go.Proofs.YtfbgaefbalbohaaDoor
open Go.RowKit Go.Wk Go.Sort
set_option maxRecDepth 100000

theorem sls_pair {w : World} {b : Nat} {r1 r2 : Sl} (c0 : w.cell? ⟨b, 0, none⟩ = some (.slice r1.A r1.n r1.c)) (c1 : w.cell? ⟨b, 1, none⟩ = some (.slice r2.A r2.n r2.c)) (h1 : Ns w r1.A r1.n r1.c r1.P) (h2 : Ns w r2.A r2.n r2.c r2.P) :
    SlsAt w (some ⟨b, 0, none⟩) [r1, r2] := by
  intro k r hk
  match k, hk with
  | 0, hk => simp only [List.getElem?_cons_zero, Option.some.injEq] at hk; subst hk; exact ⟨_, rfl, c0, h1⟩
  | 1, hk => simp only [List.getElem?_cons_succ, List.getElem?_cons_zero, Option.some.injEq] at hk; subst hk; exact ⟨_, rfl, by rw [addr_add]; exact c1, h2⟩
  | k + 2, hk => simp at hk
/-- The error of two that come in, as the reference's Faults tells it. -/
theorem ref_Faults2 (A B : Option Addr) (n m c d b : Nat) (P Q : List Nd) (w : World) (h : Ns w A n c P) (k : Ns w B m d Q) (c0 : w.cell? ⟨b, 0, none⟩ = some (.slice A n c)) (c1 : w.cell? ⟨b, 1, none⟩ = some (.slice B m d)) :
    Calls Tryd.prog 37 #[.slice (some ⟨b, 0, none⟩) 2 2] w fun e w' => e = .returned (.int .i64 (cmpE P Q)) ∧ Below w.heap.size w w' := by
  have hF : slFaults [⟨A, n, c, P⟩, ⟨B, m, d, Q⟩] = cmpE P Q := by
    unfold slFaults cmpE
    simp only [List.map_cons, List.map_nil, faults]
    unfold or2
    split <;> (try split) <;> simp_all
  have := ref_Faults (some ⟨b, 0, none⟩) 2 2 [⟨A, n, c, P⟩, ⟨B, m, d, Q⟩] w rfl (by unfold maxLen; omega) (sls_pair c0 c1 h k)
  rw [hF] at this
  exact this

set_option maxHeartbeats 4000000 in
theorem ref_SetFault (A B : Option Addr) (n m c d : Nat) (P Q : List Nd) (w : World) (h : Ns w A n c P) (k : Ns w B m d Q) :
    Calls Tryd.prog 21 #[.slice A n c, .slice B m d] w fun e w' => e = .returned (.int .i64 (bothE P Q)) ∧ Below w.heap.size w w' := by
  have F := Lib.hid (ref_Faults2 A B n m c d w.heap.size P Q (w.alloc (.cells #[.slice A n c, .slice B m d] 31)) (h.keep (below_box w _)) (k.keep (below_box w _)) (by simp) (by simp))
  by_cases h0 : cmpE P Q = 0
  · have hc := h0
    unfold cmpE at hc
    have h1 : valFault P = 0 := by
      unfold or2 at hc
      by_cases q : valFault P = 0
      · exact q
      · rw [if_neg q] at hc; exact absurd hc q
    have h2 : valFault Q = 0 := by rw [h1, or2_zero] at hc; exact hc
    have hp1 := (isV_zero.1 h1).2.pos
    have hp2 := (isV_zero.1 h2).2.pos
    obtain ⟨a, rfl, D⟩ := h.at_.nd hp1
    obtain ⟨b, rfl, E⟩ := k.at_.nd hp2
    rw [show a.add (0 * 4) = a from rfl] at D
    rw [show b.add (0 * 4) = b from rfl] at E
    have hn1 : 0 < n := by rw [h.len]; exact hp1
    have hn2 : 0 < m := by rw [k.len]; exact hp2
    have d0 := D.c0
    have e0 := E.c0
    rw [← headOp_at hp1] at d0
    rw [← headOp_at hp2] at e0
    have D0 := Lib.hid (fun w' (hb : Below w.heap.size w w') => cell_keep hb d0)
    have E0 := Lib.hid (fun w' (hb : Below w.heap.size w w') => cell_keep hb e0)
    rw [h0] at F
    have HE := Lib.hid (show bothE P Q = setsE P Q by unfold bothE; rw [h1, h2, or2_zero, or2_zero])
    unfold setsE at HE
    clear h k h1 h2 hp1 hp2 D E d0 e0 h0 hc
    by_cases h5 : headOp P = 5
    · by_cases h6 : headOp Q = 5
      · rw [if_pos ⟨h5, h6⟩] at HE
        rw [h5] at D0
        rw [h6] at E0
        clear h5 h6
        go_enter Tryd.func21, Tryd.ntmps21
        go_wp2_with fail
        refine (F.out).mono ?_
        rintro e w1 ⟨rfl, b1⟩
        have d1 := D0.out _ (below_box2 b1)
        have e1 := E0.out _ (below_box2 b1)
        have B1 := Lib.hid (below_box2 b1)
        clear b1
        go_wp2_with fail
        go_ret
        exact ⟨ret_i64 HE.out.symm, B1.out⟩
      · rw [if_neg (fun q => h6 q.2)] at HE
        rw [h5] at D0
        have g6 : (headOp Q != 5) = true := by rw [bne_iff_ne]; exact h6
        clear h5 h6
        go_enter Tryd.func21, Tryd.ntmps21
        go_wp2_with fail
        refine (F.out).mono ?_
        rintro e w1 ⟨rfl, b1⟩
        have d1 := D0.out _ (below_box2 b1)
        have e1 := E0.out _ (below_box2 b1)
        have B1 := Lib.hid (below_box2 b1)
        clear b1
        go_wp2_with fail
        go_ret
        exact ⟨ret_i64 HE.out.symm, B1.out⟩
    · rw [if_neg (fun q => h5 q.1)] at HE
      have g5 : (headOp P != 5) = true := by rw [bne_iff_ne]; exact h5
      clear h5
      go_enter Tryd.func21, Tryd.ntmps21
      go_wp2_with fail
      refine (F.out).mono ?_
      rintro e w1 ⟨rfl, b1⟩
      have d1 := D0.out _ (below_box2 b1)
      have e1 := E0.out _ (below_box2 b1)
      have B1 := Lib.hid (below_box2 b1)
      clear b1
      go_wp2_with fail
      go_ret
      exact ⟨ret_i64 HE.out.symm, B1.out⟩
  · have HE := Lib.hid (show bothE P Q = cmpE P Q by
      unfold cmpE at h0 ⊢
      unfold bothE
      unfold or2 at h0 ⊢
      by_cases q : valFault P = 0
      · rw [if_pos q] at h0
        rw [if_pos q, if_pos q, if_neg h0]
      · rw [if_neg q, if_neg q])
    have h1 : (cmpE P Q == 0) = false := beq_eq_false_iff_ne.2 h0
    clear h k h0
    go_enter Tryd.func21, Tryd.ntmps21
    go_wp2_with fail
    refine (F.out).mono ?_
    rintro e w1 ⟨rfl, b1⟩
    go_wp2_with fail
    go_ret
    exact ⟨ret_i64 HE.out.symm, below_box2 b1⟩

theorem hasB_step {L : List (List Nd)} {Q : List Nd} {k : Nat} (h : k < L.length) : hasB (L.drop k) Q = (decide (cmpNds L[k] Q = 0) || hasB (L.drop (k + 1)) Q) := by
  rw [List.drop_eq_getElem_cons h]; rfl
set_option maxHeartbeats 4000000 in
theorem ref_Within (A B : Option Addr) (n m c d : Nat) (P Q : List Nd) (w : World) (h : Ns w A n c P) (k : Ns w B m d Q) (h1 : valFault P = 0) (h5 : headOp P = 5) :
    Calls Tryd.prog 54 #[.slice A n c, .slice B m d] w fun e w' => e = .returned (.bool (hasB (setParts P) Q)) ∧ Below w.heap.size w w' := by
  have hE : prtE P = 0 := by unfold prtE; rw [if_pos h1, if_pos (.inl h5)]
  have W := Lib.hid (ref_Parts A n c P w h hE)
  have hL : prtL P = setParts P := by unfold prtL; rw [if_pos hE, if_pos h5]
  have PL := Lib.hid (setParts_len h1 h5)
  rw [hL] at W
  have HK := Lib.hid k
  clear h k h1 h5 hE hL
  go_enter Tryd.func54, Tryd.ntmps54
  go_wp2_with fail
  refine W.out.mono ?_
  rintro e w1 ⟨v, v', U, rfl, hT, hU, b1⟩
  obtain ⟨AU, cU, rfl, -, hSU⟩ := hT.a.at
  have HU := Lib.hid hSU
  have HUL := Lib.hid hU
  have hUl : U.length ≤ 200 := by have := congrArg List.length hU; have := PL.out; simp only [List.length_map] at *; omega
  have B1 := Lib.hid b1
  clear hT hSU hU b1
  go_wp2_with fail
  go_loopw [7] (fun i wr => ∃ j : Nat, j ≤ U.length ∧ i = .int .i64 j ∧ Hid (hasB (setParts P) Q = hasB ((U.map Sl.P).drop j) Q) ∧ Hid (Below w1.heap.size w1 wr)) (fun i _ => U.length - (intOf i).toNat)
  case atStart => exact ⟨0, Nat.zero_le _, rfl, by rw [HUL.out]; rfl, Below.refl _ _⟩
  case round =>
    obtain ⟨j, hj, rfl, hE, hB⟩ := hrel
    by_cases hlt : j < U.length
    · obtain ⟨a, rfl, q, hs⟩ := (HU.out.keep hB.out).at hlt
      have hq := HK.out.keep (bhid B1 hB (Nat.le_refl _)).out
      have N := Lib.hid (ref_Nodes U[j].A B U[j].n m U[j].c d U[j].P Q wr hs.len hq.len hs.max hq.max hs.at_ hq.at_ hs.ok hq.ok)
      have HA := Lib.hid (hE.out.trans (hasB_step (by simpa using hlt)))
      rw [List.getElem_map] at HA
      generalize U[j] = r at *
      clear hE hs hq
      by_cases h0 : cmpNds r.P Q = 0
      · rw [h0] at N
        rw [decide_eq_true h0, Bool.true_or] at HA
        clear h0
        go_wp2_with fail
        refine (N.out).mono ?_
        rintro e w2 ⟨rfl, b2⟩
        go_wp2_with fail
        go_ret
        exact ⟨ret_bool HA.out.symm, (bhid B1 (bh hB b2) (Nat.le_refl _)).out⟩
      · rw [decide_eq_false h0, Bool.false_or] at HA
        have h2 : (cmpNds r.P Q == 0) = false := beq_eq_false_iff_ne.2 h0
        clear h0
        go_wp2_with fail
        refine (N.out).mono ?_
        rintro e w2 ⟨rfl, b2⟩
        go_wp2_with fail
        go_roundw
        case rel => exact ⟨j + 1, by omega, by go_num, HA, bh hB b2⟩
        case measure => simp [intOf]; omega
    · have HA := Lib.hid (hE.out.trans (by rw [List.drop_of_length_le (by simp; omega)]; rfl : _ = false))
      clear hE
      go_wp2_with fail
      go_ret
      exact ⟨ret_bool HA.out.symm, (bhid B1 hB (Nat.le_refl _)).out⟩

/-- The slices of the call's own that hold some values. -/
def ListPost (w : World) (L : List (List Nd)) (e : Ending) (w' : World) : Prop := ∃ (v : Value) (V : List Sl), e = .returned v ∧ OwnSls w' w.heap.size v V ∧ V.map Sl.P = L ∧ Below w.heap.size w w'
def ListPostO (A : Option Addr) (w : World) (L : List (List Nd)) (e : Ending) (w' : World) : Prop := ∃ (v : Value) (V : List Sl), e = .returned v ∧ OwnSls w' w.heap.size v V ∧ V.map Sl.P = L ∧ Below w.heap.size w w' ∧ ∀ r ∈ V, SubSl A r
set_option maxHeartbeats 4000000 in
theorem ref_ChosenO (A B : Option Addr) (n m c d : Nat) (P Q : List Nd) (has : Bool) (w : World) (h : Ns w A n c P) (k : Ns w B m d Q) (h1 : valFault P = 0) (h5 : headOp P = 5) (h2 : valFault Q = 0) (h6 : headOp Q = 5) :
    Calls Tryd.prog 22 #[.slice A n c, .slice B m d, .bool has] w (ListPostO A w ((setParts P).filter fun x => hasB (setParts Q) x == has)) := by
  obtain ⟨i0, hi, hz0, hz1, hz2⟩ := info_parts slInfo
  have W := Lib.hid (refParts_setO A n c P w h h1 h5)
  have PL := Lib.hid (setParts_len h1 h5)
  have HK := Lib.hid k
  have WI := Lib.hid (fun (r : Sl) w' (hb : Below w.heap.size w w') (hr : Ns w' r.A r.n r.c r.P) => ref_Within B r.A m r.n d r.c Q r.P w' (k.keep hb) hr h2 h6)
  clear h k h1 h5 h2 h6
  go_enter Tryd.func22, Tryd.ntmps22
  go_wp2_with fail
  refine W.out.mono ?_
  rintro e w1 ⟨v, v', U, rfl, hT, hU, b1, hold⟩
  have HOLD := Lib.hid hold
  clear hold
  obtain ⟨AU, cU, rfl, -, hSU⟩ := hT.a.at
  have HU := Lib.hid hSU
  have HUL := Lib.hid hU
  have hUl : U.length ≤ 200 := by have := congrArg List.length hU; have := PL.out; simp only [List.length_map] at *; omega
  have B1 := Lib.hid b1
  clear hT hSU hU b1
  go_wp2_with fail
  go_loopw [7, 10] (fun v i wr => ∃ (j : Nat) (Y : List Sl), j ≤ U.length ∧ i = .int .i64 j ∧ Y.length ≤ j ∧ Hid (((setParts P).filter fun x => hasB (setParts Q) x == has) = Y.map Sl.P ++ ((U.drop j).filter fun r => hasB (setParts Q) r.P == has).map Sl.P) ∧ Hid (OwnSls wr w1.heap.size v Y) ∧ Hid (Below w1.heap.size w1 wr) ∧ Hid (∀ r ∈ Y, r ∈ U)) (fun _ i _ => U.length - (intOf i).toNat)
  case atStart => exact ⟨0, [], Nat.zero_le _, rfl, Nat.le_refl _, by rw [← HUL.out, List.filter_map]; rfl, OwnSls.nil _ _, Below.refl _ _, (by intro r hr; cases hr)⟩
  case round =>
    obtain ⟨j, Y, hj, rfl, hY, hE, hO, hB, hM⟩ := hrel
    by_cases hlt : j < U.length
    · obtain ⟨a, rfl, q, hs⟩ := (HU.out.keep hB.out).at hlt
      obtain ⟨-, -, -, hs0⟩ := HU.out.at hlt
      have HS0 := Lib.hid hs0
      have HM := Lib.hid (List.getElem_mem hlt)
      have Cr := Lib.hid (WI.out U[j] wr (bhid B1 hB (Nat.le_refl _)).out hs)
      have HA := Lib.hid (hE.out.trans (by rw [List.drop_eq_getElem_cons hlt, List.filter_cons] : _ = Y.map Sl.P ++ (if (hasB (setParts Q) U[j].P == has) = true then U[j] :: (U.drop (j + 1)).filter (fun r => hasB (setParts Q) r.P == has) else (U.drop (j + 1)).filter fun r => hasB (setParts Q) r.P == has).map Sl.P))
      generalize U[j] = r at *
      clear hE hs hs0
      by_cases hp : hasB (setParts Q) r.P = has
      · rw [hp] at Cr HA
        rw [if_pos (by simp)] at HA
        clear hp
        go_wp2_with fail
        refine (Cr.out).mono ?_
        rintro e w2 ⟨rfl, b2⟩
        have B2 := bh hB b2
        have O2 := Lib.hid (hO.out.keep b2)
        have N2 := Lib.hid (HS0.out.keep B2.out)
        have q2 := cell_keep b2 q
        have A2 := Lib.hid (show Apart r u7.ownBlock by
          intro h0 a' ea q'
          have := own_base O2.out.own a'.block q'
          have := HS0.out.at_.lt h0 a' ea
          omega)
        have hsz1 := B2.out.size
        clear b2 hO hB q
        go_wp2_with (at_builtin; refine wpList_append_own_at _ rfl _ _ 30 rfl w1.heap.size 31 i0 _ 1 24 Tryd.underlying30 hi hz0 hz1 hz2 rfl (by decide) _ Y.length (Y.map Sl.v) rfl (O2.out.own.alloc _) ⟨_, 0, none⟩ 1 1 [.slice r.A r.n r.c] rfl rfl (cell_one_new _ _ _) (by intro u hu; simp only [List.mem_cons, List.not_mem_nil, or_false] at hu; subst hu; rfl) ?c1 ?c2 ?c3 ?_)
        case c1 => unfold maxLen; omega
        case c2 => omega
        case c3 => simp; omega
        intro v1 w3 hown hgrow _ hat
        have B3 := Lib.hid ((B2.out.alloc B2.out.size _).grown hgrow (by simp; omega) (fun g hg => by have := own_base O2.out.own g hg; omega))
        have O3 := Lib.hid (O2.out.snoc (r := r) N2.out A2.out hown hgrow (by simpa using hat))
        have HA2 := Lib.hid (HA.out.trans (show _ = (Y ++ [r]).map Sl.P ++ ((U.drop (j + 1)).filter fun r => hasB (setParts Q) r.P == has).map Sl.P by simp))
        have hl2 : (Y ++ [r]).length ≤ j + 1 := by simp; omega
        have HM2 := Lib.hid (show ∀ x ∈ Y ++ [r], x ∈ U from fun x hx => by
          rcases List.mem_append.1 hx with h1 | h1
          · exact hM.out x h1
          · simp only [List.mem_cons, List.not_mem_nil, or_false] at h1
            subst h1; exact HM.out)
        clear hown hgrow hat O2 N2 A2 HA B2 q2
        go_wp2_with fail
        go_roundw
        case rel => exact ⟨j + 1, Y ++ [r], by omega, by go_num, hl2, HA2, O3, B3, HM2⟩
        case measure => simp [intOf]; omega
      · have hpb : (hasB (setParts Q) r.P == has) = false := beq_eq_false_iff_ne.2 hp
        rw [if_neg (by rw [hpb]; simp)] at HA
        generalize hasB (setParts Q) r.P = bb at *
        clear hp
        go_wp2_with fail
        refine (Cr.out).mono ?_
        rintro e w2 ⟨rfl, b2⟩
        go_wp2_with fail
        go_roundw
        case rel => exact ⟨j + 1, Y, by omega, by go_num, by omega, HA, Lib.hid (hO.out.keep b2), bh hB b2, hM⟩
        case measure => simp [intOf]; omega
    · have HA := Lib.hid (hE.out.trans (by rw [List.drop_of_length_le (by omega)]; simp : _ = Y.map Sl.P))
      clear hE
      go_wp2_with fail
      go_ret
      exact ⟨_, Y, rfl, hO.out.mono B1.out.size, HA.out.symm, (bhid B1 hB (Nat.le_refl _)).out, fun r hr => HOLD.out r (hM.out r hr)⟩
theorem ref_Chosen (A B : Option Addr) (n m c d : Nat) (P Q : List Nd) (has : Bool) (w : World) (h : Ns w A n c P) (k : Ns w B m d Q) (h1 : valFault P = 0) (h5 : headOp P = 5) (h2 : valFault Q = 0) (h6 : headOp Q = 5) :
    Calls Tryd.prog 22 #[.slice A n c, .slice B m d, .bool has] w (ListPost w ((setParts P).filter fun x => hasB (setParts Q) x == has)) :=
  (ref_ChosenO A B n m c d P Q has w h k h1 h5 h2 h6).mono fun _ _ ⟨v, V, q1, q2, q3, q4, _⟩ => ⟨v, V, q1, q2, q3, q4⟩
end Go.Proofs.YtfbgaefbalbohaaDoor
