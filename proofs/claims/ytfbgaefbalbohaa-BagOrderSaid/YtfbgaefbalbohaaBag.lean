/-
  Package bag: has, kept, both, Has, All, Any; slices.Equal, IndexFunc, ContainsFunc.
-/
import Derived.Test.YtfbgaefbalbohaaParts
namespace Go.Wk
def hasB (L : List (List Nd)) (Q : List Nd) : Bool := L.any fun P => decide (cmpNds P Q = 0)
end Go.Wk
namespace Go.Proofs.Ytfbgaefbalbohaa
open Go.RowKit Go.Wk Go.Sort
set_option maxRecDepth 100000

set_option maxHeartbeats 1000000 in
theorem slices_Equal (A B : Option Addr) (n m c d : Nat) (P Q : List Nd) (w : World) (hn : n = P.length) (hm : m = Q.length) (hln : n ≤ maxLen) (hlm : m ≤ maxLen) (hP : NdsAt w A P) (hQ : NdsAt w B Q) :
    Calls Try.prog 44 #[.slice A n c, .slice B m d] w fun e w' => e = .returned (.bool (decide (cmpNds P Q = 0))) ∧ Below w.heap.size w w' := by
  unfold maxLen at hln hlm
  have HN := Lib.hid hn
  have HM := Lib.hid hm
  have HP := Lib.hid hP
  have HQ := Lib.hid hQ
  clear hn hm hP hQ
  by_cases hl : n = m
  · subst hl
    go_enter Try.func44, Try.ntmps44
    go_wp2_with fail
    go_loopw [5, 13] (fun _ i wr => ∃ k : Nat, k ≤ n ∧ i = .int .i64 k ∧ Hid (cmpNds P Q = cmpNds (P.drop k) (Q.drop k)) ∧ Hid (Below w.heap.size w wr)) (fun _ i _ => n - (intOf i).toNat)
    case atStart => exact ⟨0, Nat.zero_le _, rfl, rfl, Below.refl _ _⟩
    case round =>
      obtain ⟨k, hk, rfl, hE, hB⟩ := hrel
      by_cases hlt : k < n
      · have h1 : k < P.length := by rw [← HN.out]; exact hlt
        have h2 : k < Q.length := by rw [← HM.out]; exact hlt
        obtain ⟨a, rfl, a1, a2, a3, a4⟩ := (HP.out.keep hB.out) k P[k] (List.getElem?_eq_getElem h1)
        obtain ⟨b, rfl, b1, b2, b3, b4⟩ := (HQ.out.keep hB.out) k Q[k] (List.getElem?_eq_getElem h2)
        by_cases he : P[k] = Q[k]
        · have HE := Lib.hid (hE.out.trans ((cmpNds_at h1 h2).trans (by rw [cmpNd_eq he, or2_zero])))
          rw [he] at a1 a2 a3 a4
          generalize Q[k] = y at *
          clear he hE
          go_wp2_with fail
          go_quiet (fail)
          go_wp2_with fail
          go_roundw
          case rel => exact ⟨k + 1, by omega, by go_num, HE, hB.out.drewN _⟩
          case measure => simp [intOf]; omega
        · have HE := Lib.hid (cmpNds_zero_at h1 h2 he hE.out)
          have hne := fun w => nd_neq he w
          generalize P[k] = x at *
          generalize Q[k] = y at *
          clear he hE
          go_wp2_with fail
          go_quiet (fail)
          go_wp2_with fail
          go_ret
          exact ⟨ret_bool (decide_eq_false HE.out).symm, hB.out.drewN _⟩
      · have HE := Lib.hid (hE.out.trans (cmpNds_end0 (by rw [← HN.out]; omega) (by rw [← HM.out]; omega)))
        clear hE
        go_wp2_with fail
        go_ret
        exact ⟨ret_bool (decide_eq_true HE.out).symm, hB.out⟩
  · have HE := Lib.hid (show cmpNds P Q ≠ 0 from fun h => hl (by rw [HN.out, HM.out, (cmpNds_cmp.zero _ _).1 h]))
    have h3 : (n != m) = true := by rw [bne_iff_ne]; exact hl
    clear hl
    go_enter Try.func44, Try.ntmps44
    go_wp2_with fail
    go_ret
    exact ⟨ret_bool (decide_eq_false HE.out).symm, Below.refl _ _⟩

theorem bag_has1 (A B : Option Addr) (n m c d b : Nat) (P Q : List Nd) (w : World) (h : Ns w A n c P) (k : Ns w B m d Q) (hb : w.cell? ⟨b, 0, none⟩ = some (.slice B m d)) :
    Calls Try.prog 43 #[.slice A n c, .pointer (some ⟨b, 0, none⟩)] w fun e w' => e = .returned (.bool (decide (cmpNds P Q = 0))) ∧ Below w.heap.size w w' := by
  have E := Lib.hid (slices_Equal A B n m c d P Q w h.len k.len h.max k.max h.at_ k.at_)
  clear h k
  go_enter Try.func43, Try.ntmps43
  go_wp2_with fail
  refine (E.out).mono ?_
  rintro e w1 ⟨rfl, b1⟩
  go_wp2_with fail
  go_ret
  exact ⟨rfl, b1⟩

/-- The place of the first one that is asked for, or one below 0. -/
def IdxPost (b : Bool) (w : World) (e : Ending) (w' : World) : Prop := ∃ i : Int, e = .returned (.int .i64 i) ∧ decide (0 ≤ i) = b ∧ Below w.heap.size w w'
theorem any_drop {V : List Sl} {p : List Nd → Bool} {k : Nat} (h : k < V.length) : (V.drop k).any (fun r => p r.P) = (p V[k].P || (V.drop (k + 1)).any fun r => p r.P) := by
  rw [List.drop_eq_getElem_cons h]; rfl

set_option maxHeartbeats 1000000 in
theorem index_eq (A : Option Addr) (n c : Nat) (V : List Sl) (p : List Nd → Bool) (b : Nat) (w : World) (hn : n = V.length) (hm : n ≤ maxLen) (hV : SlsAt w A V)
    (C : Hid (∀ (r : Sl) (w' : World), Below w.heap.size w w' → Ns w' r.A r.n r.c r.P → Calls Try.prog 43 #[.slice r.A r.n r.c, .pointer (some ⟨b, 0, none⟩)] w' fun e w'' => e = .returned (.bool (p r.P)) ∧ Below w'.heap.size w' w'')) :
    Calls Try.prog 45 #[.slice A n c, (.func (.func 43) #[] #[.pointer (some ⟨b, 0, none⟩)])] w (IdxPost (V.any fun r => p r.P) w) := by
  unfold maxLen at hm
  have HV := Lib.hid hV
  have HN := Lib.hid hn
  clear hV hn
  go_enter Try.func45, Try.ntmps45
  go_wp2_with fail
  go_loopw [5, 8] (fun _ i wr => ∃ k : Nat, k ≤ n ∧ i = .int .i64 k ∧ Hid ((V.any fun r => p r.P) = (V.drop k).any fun r => p r.P) ∧ Hid (Below w.heap.size w wr)) (fun _ i _ => n - (intOf i).toNat)
  case atStart => exact ⟨0, Nat.zero_le _, rfl, rfl, Below.refl _ _⟩
  case round =>
    obtain ⟨k, hk, rfl, hE, hB⟩ := hrel
    by_cases hlt : k < n
    · have h1 : k < V.length := by rw [← HN.out]; exact hlt
      obtain ⟨a, rfl, q, hs⟩ := (HV.out.keep hB.out).at h1
      have HA := Lib.hid (hE.out.trans (any_drop h1))
      have Cr := Lib.hid (C.out V[k] wr hB.out hs)
      generalize V[k] = r at *
      clear hE hs
      rcases hp : p r.P with _ | _
      · rw [hp] at Cr HA
        clear hp
        go_wp2_with fail
        refine (Cr.out).mono ?_
        rintro e w1 ⟨rfl, b1⟩
        go_wp2_with fail
        go_roundw
        case rel => exact ⟨k + 1, by omega, by go_num, HA, bh hB b1⟩
        case measure => simp [intOf]; omega
      · rw [hp] at Cr HA
        clear hp
        go_wp2_with fail
        refine (Cr.out).mono ?_
        rintro e w1 ⟨rfl, b1⟩
        go_wp2_with fail
        go_ret
        exact ⟨_, rfl, by rw [HA.out]; simp, (bh hB b1).out⟩
    · have HA := Lib.hid (hE.out.trans (by rw [List.drop_of_length_le (by rw [← HN.out]; omega)]; rfl : _ = false))
      clear hE
      go_wp2_with fail
      go_ret
      exact ⟨_, rfl, by rw [HA.out]; rfl, hB.out⟩
theorem contains_eq (A : Option Addr) (n c : Nat) (V : List Sl) (p : List Nd → Bool) (b : Nat) (w : World) (hn : n = V.length) (hm : n ≤ maxLen) (hV : SlsAt w A V)
    (C : Hid (∀ (r : Sl) (w' : World), Below w.heap.size w w' → Ns w' r.A r.n r.c r.P → Calls Try.prog 43 #[.slice r.A r.n r.c, .pointer (some ⟨b, 0, none⟩)] w' fun e w'' => e = .returned (.bool (p r.P)) ∧ Below w'.heap.size w' w'')) :
    Calls Try.prog 31 #[.slice A n c, (.func (.func 43) #[] #[.pointer (some ⟨b, 0, none⟩)])] w fun e w' => e = .returned (.bool (V.any fun r => p r.P)) ∧ Below w.heap.size w w' := by
  have I := Lib.hid (index_eq A n c V p b w hn hm hV C)
  unfold IdxPost at I
  clear hn hV C
  go_enter Try.func31, Try.ntmps31
  go_wp2_with fail
  refine (I.out).mono ?_
  rintro e w1 ⟨i, rfl, hi, b1⟩
  have HI := Lib.hid hi
  clear hi
  go_wp2_with fail
  go_ret
  exact ⟨ret_bool HI.out, b1⟩

theorem any_map (V : List Sl) (Q : List Nd) : (V.any fun r => decide (cmpNds r.P Q = 0)) = hasB (V.map Sl.P) Q := by
  unfold hasB; rw [List.any_map]; rfl
theorem bag_has (A B : Option Addr) (n m c d : Nat) (V : List Sl) (Q : List Nd) (w : World) (hn : n = V.length) (hm : n ≤ maxLen) (hV : SlsAt w A V) (k : Ns w B m d Q) :
    Calls Try.prog 30 #[.slice A n c, .slice B m d] w fun e w' => e = .returned (.bool (hasB (V.map Sl.P) Q)) ∧ Below w.heap.size w w' := by
  have K := Lib.hid (contains_eq A n c V (fun P => decide (cmpNds P Q = 0)) w.heap.size (w.alloc (.cells #[.slice B m d] 24)) hn hm (hV.keep (below_box w _))
    (Lib.hid fun r w' hb hr => bag_has1 r.A B r.n m r.c d w.heap.size r.P Q w' hr ((k.keep (below_box w _)).keep hb) (cell_keep hb (by simp))))
  rw [any_map] at K
  clear hn hV k
  go_enter Try.func30, Try.ntmps30
  go_wp2_with fail
  refine (K.out).mono ?_
  rintro e w1 ⟨rfl, b1⟩
  go_wp2_with fail
  go_ret
  exact ⟨rfl, below_box2 b1⟩

set_option maxHeartbeats 1000000 in
theorem index_has (A : Option Addr) (n c : Nat) (V : List Sl) (p : List Nd → Bool) (A0 : Option Addr) (n0 c0 : Nat) (w : World) (hn : n = V.length) (hm : n ≤ maxLen) (hV : SlsAt w A V)
    (C : Hid (∀ (r : Sl) (w' : World), Below w.heap.size w w' → Ns w' r.A r.n r.c r.P → Calls Try.prog 30 #[.slice A0 n0 c0, .slice r.A r.n r.c] w' fun e w'' => e = .returned (.bool (p r.P)) ∧ Below w'.heap.size w' w'')) :
    Calls Try.prog 45 #[.slice A n c, (.func (.func 30) #[.slice A0 n0 c0] #[])] w (IdxPost (V.any fun r => p r.P) w) := by
  unfold maxLen at hm
  have HV := Lib.hid hV
  have HN := Lib.hid hn
  clear hV hn
  go_enter Try.func45, Try.ntmps45
  go_wp2_with fail
  go_loopw [5, 8] (fun _ i wr => ∃ k : Nat, k ≤ n ∧ i = .int .i64 k ∧ Hid ((V.any fun r => p r.P) = (V.drop k).any fun r => p r.P) ∧ Hid (Below w.heap.size w wr)) (fun _ i _ => n - (intOf i).toNat)
  case atStart => exact ⟨0, Nat.zero_le _, rfl, rfl, Below.refl _ _⟩
  case round =>
    obtain ⟨k, hk, rfl, hE, hB⟩ := hrel
    by_cases hlt : k < n
    · have h1 : k < V.length := by rw [← HN.out]; exact hlt
      obtain ⟨a, rfl, q, hs⟩ := (HV.out.keep hB.out).at h1
      have HA := Lib.hid (hE.out.trans (any_drop h1))
      have Cr := Lib.hid (C.out V[k] wr hB.out hs)
      generalize V[k] = r at *
      clear hE hs
      rcases hp : p r.P with _ | _
      · rw [hp] at Cr HA
        clear hp
        go_wp2_with fail
        refine (Cr.out).mono ?_
        rintro e w1 ⟨rfl, b1⟩
        go_wp2_with fail
        go_roundw
        case rel => exact ⟨k + 1, by omega, by go_num, HA, bh hB b1⟩
        case measure => simp [intOf]; omega
      · rw [hp] at Cr HA
        clear hp
        go_wp2_with fail
        refine (Cr.out).mono ?_
        rintro e w1 ⟨rfl, b1⟩
        go_wp2_with fail
        go_ret
        exact ⟨_, rfl, by rw [HA.out]; simp, (bh hB b1).out⟩
    · have HA := Lib.hid (hE.out.trans (by rw [List.drop_of_length_le (by rw [← HN.out]; omega)]; rfl : _ = false))
      clear hE
      go_wp2_with fail
      go_ret
      exact ⟨_, rfl, by rw [HA.out]; rfl, hB.out⟩
theorem contains_has (A : Option Addr) (n c : Nat) (V : List Sl) (p : List Nd → Bool) (A0 : Option Addr) (n0 c0 : Nat) (w : World) (hn : n = V.length) (hm : n ≤ maxLen) (hV : SlsAt w A V)
    (C : Hid (∀ (r : Sl) (w' : World), Below w.heap.size w w' → Ns w' r.A r.n r.c r.P → Calls Try.prog 30 #[.slice A0 n0 c0, .slice r.A r.n r.c] w' fun e w'' => e = .returned (.bool (p r.P)) ∧ Below w'.heap.size w' w'')) :
    Calls Try.prog 31 #[.slice A n c, (.func (.func 30) #[.slice A0 n0 c0] #[])] w fun e w' => e = .returned (.bool (V.any fun r => p r.P)) ∧ Below w.heap.size w w' := by
  have I := Lib.hid (index_has A n c V p A0 n0 c0 w hn hm hV C)
  unfold IdxPost at I
  clear hn hV C
  go_enter Try.func31, Try.ntmps31
  go_wp2_with fail
  refine (I.out).mono ?_
  rintro e w1 ⟨i, rfl, hi, b1⟩
  have HI := Lib.hid hi
  clear hi
  go_wp2_with fail
  go_ret
  exact ⟨ret_bool HI.out, b1⟩

set_option maxHeartbeats 2000000 in
theorem kept_has (A : Option Addr) (n c : Nat) (V : List Sl) (p : List Nd → Bool) (A0 : Option Addr) (n0 c0 : Nat) (w : World) (hn : n = V.length) (hm : n ≤ 100000) (hV : SlsAt w A V)
    (C : Hid (∀ (r : Sl) (w' : World), Below w.heap.size w w' → Ns w' r.A r.n r.c r.P → Calls Try.prog 30 #[.slice A0 n0 c0, .slice r.A r.n r.c] w' fun e w'' => e = .returned (.bool (p r.P)) ∧ Below w'.heap.size w' w'')) :
    Calls Try.prog 29 #[.slice A n c, (.func (.func 30) #[.slice A0 n0 c0] #[])] w fun e w' => ∃ v, e = .returned v ∧ OwnSls w' w.heap.size v (V.filter fun r => p r.P) ∧ Below w.heap.size w w' := by
  obtain ⟨i0, hi, hz0, hz1, hz2⟩ := info_parts slInfo
  have HV := Lib.hid hV
  have HN := Lib.hid hn
  clear hV hn
  go_enter Try.func29, Try.ntmps29
  go_wp2_with fail
  go_loopw [5, 7, 10] (fun v _ i wr => ∃ (k : Nat) (U : List Sl), k ≤ n ∧ i = .int .i64 k ∧ U.length ≤ k ∧ Hid ((V.filter fun r => p r.P) = U ++ ((V.drop k).filter fun r => p r.P)) ∧ Hid (OwnSls wr w.heap.size v U) ∧ Hid (Below w.heap.size w wr)) (fun _ _ i _ => n - (intOf i).toNat)
  case atStart => exact ⟨0, [], Nat.zero_le _, rfl, Nat.le_refl _, rfl, OwnSls.nil _ _, Below.refl _ _⟩
  case round =>
    obtain ⟨k, U, hk, rfl, hU, hE, hO, hB⟩ := hrel
    by_cases hlt : k < n
    · have h1 : k < V.length := by rw [← HN.out]; exact hlt
      obtain ⟨a, rfl, q, hs⟩ := (HV.out.keep hB.out).at h1
      obtain ⟨-, -, -, hs0⟩ := HV.out.at h1
      have HS0 := Lib.hid hs0
      have Cr := Lib.hid (C.out V[k] wr hB.out hs)
      have HA := Lib.hid (hE.out.trans (by rw [List.drop_eq_getElem_cons h1, List.filter_cons] : _ = U ++ (if p V[k].P = true then V[k] :: (V.drop (k + 1)).filter (fun r => p r.P) else (V.drop (k + 1)).filter fun r => p r.P)))
      generalize V[k] = r at *
      clear hE hs hs0
      rcases hp : p r.P with _ | _
      · rw [hp] at Cr HA
        rw [if_neg (by simp)] at HA
        clear hp
        go_wp2_with fail
        refine (Cr.out).mono ?_
        rintro e w1 ⟨rfl, b1⟩
        go_wp2_with fail
        go_roundw
        case rel => exact ⟨k + 1, U, by omega, by go_num, by omega, HA, Lib.hid (hO.out.keep b1), bh hB b1⟩
        case measure => simp [intOf]; omega
      · rw [hp] at Cr HA
        rw [if_pos rfl] at HA
        clear hp
        go_wp2_with fail
        refine (Cr.out).mono ?_
        rintro e w1 ⟨rfl, b1⟩
        have B1 := bh hB b1
        have O1 := Lib.hid (hO.out.keep b1)
        have N1 := Lib.hid (HS0.out.keep B1.out)
        have A1 := Lib.hid (show Apart r u5.ownBlock by
          intro h0 a' ea q'
          have := own_base O1.out.own a'.block q'
          have := HS0.out.at_.lt h0 a' ea
          omega)
        have hsz1 := B1.out.size
        clear b1 hO hB q
        go_wp2_with (at_builtin; refine wpList_append_own_at _ rfl _ _ 65 rfl w.heap.size 24 i0 _ 1 24 Try.underlying65 hi hz0 hz1 hz2 rfl (by decide) _ U.length (U.map Sl.v) rfl (O1.out.own.alloc _) ⟨_, 0, none⟩ 1 1 [.slice r.A r.n r.c] rfl rfl (cell_one_new _ _ _) (by intro u hu; simp only [List.mem_cons, List.not_mem_nil, or_false] at hu; subst hu; rfl) ?c1 ?c2 ?c3 ?_)
        case c1 => unfold maxLen; omega
        case c2 => omega
        case c3 => simp; omega
        intro v1 w2 hown hgrow _ hat
        have B2 := Lib.hid ((B1.out.alloc B1.out.size _).grown hgrow (by simp; omega) (fun g hg => by have := own_base O1.out.own g hg; omega))
        have O2 := Lib.hid (O1.out.snoc (r := r) N1.out A1.out hown hgrow (by simpa using hat))
        have HA2 := Lib.hid (HA.out.trans (show _ = (U ++ [r]) ++ ((V.drop (k + 1)).filter fun r => p r.P) by simp))
        have hl2 : (U ++ [r]).length ≤ k + 1 := by simp; omega
        clear hown hgrow hat O1 N1 A1 HA B1
        go_wp2_with fail
        go_roundw
        case rel => exact ⟨k + 1, U ++ [r], by omega, by go_num, hl2, HA2, O2, B2⟩
        case measure => simp [intOf]; omega
    · have HA := Lib.hid (hE.out.trans (by rw [List.drop_of_length_le (by rw [← HN.out]; omega)]; simp : _ = U))
      clear hE
      go_wp2_with fail
      go_ret
      exact ⟨_, rfl, by rw [HA.out]; exact hO.out, hB.out⟩

end Go.Proofs.Ytfbgaefbalbohaa
