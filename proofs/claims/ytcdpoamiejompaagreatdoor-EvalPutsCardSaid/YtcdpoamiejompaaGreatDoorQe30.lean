/-
  eval.double: numbers. (gen_evnum.py)
  eval.in: is an entity one of others, or below one? (gen_evin.py)
  eval.made: a set, a record.
  eval.made: a set.
-/
import Derived.Test.YtcdpoamiejompaaGreatDoorQe29
namespace Go.Proofs.YtcdpoamiejompaaGreatDoor
open Go.RowKit Go.Wk Go.Sort
set_option maxRecDepth 100000

theorem two_num {E : List En} {op : Int} {P Q : List Nd} (h : op ≠ 14 ∧ op ≠ 20 ∧ op ≠ 25 ∧ op ≠ 26 ∧ op ≠ 27) : twoX E op P Q = if headOp P = 2 ∧ headOp Q = 2 then
    (if op = 15 then .ok (truthN (decide ((hdN P).n < (hdN Q).n))) else if op = 16 then .ok (truthN (decide ((hdN P).n ≤ (hdN Q).n)))
      else tellV (numE op (hdN P).n (hdN Q).n) (intN (numV op (hdN P).n (hdN Q).n))) else .error 2 := by
  unfold twoX
  rw [if_neg h.1, if_neg h.2.1, if_neg h.2.2.1, if_neg h.2.2.2.1, if_neg h.2.2.2.2]
set_option maxHeartbeats 4000000 in
theorem double_no1 {W w : World} {R : Nat} {k : Cx} {p : Int} (_h : EvAt W w R k p) (op : Int) (hop : op ≠ 14 ∧ op ≠ 20 ∧ op ≠ 25 ∧ op ≠ 26 ∧ op ≠ 27) (A B : Option Addr) (n m c d : Nat) (P Q : List Nd) (hP : Ns w A n c P) (h0 : 0 < P.length) (_hQ : Ns w B m d Q) (_h1 : 0 < Q.length) (g : headOp P ≠ 2) :
    Calls Tryz.prog 56 #[.pointer (some ⟨R, 0, none⟩), .int .i64 op, .slice A n c, .slice B m d] w (TellPost w (twoX k.E op P Q)) := by
  have HR := Lib.hid (show twoX k.E op P Q = .error 2 by rw [two_num hop, if_neg (fun q => g q.1)])
  rw [HR.out]
  have f14 : (op == 14) = false := beq_eq_false_iff_ne.2 hop.1
  have f20 : (op == 20) = false := beq_eq_false_iff_ne.2 hop.2.1
  have f25 : (op == 25) = false := beq_eq_false_iff_ne.2 hop.2.2.1
  have f26 : (op == 26) = false := beq_eq_false_iff_ne.2 hop.2.2.2.1
  have f27 : (op == 27) = false := beq_eq_false_iff_ne.2 hop.2.2.2.2
  have KM := Lib.hid (fun d os => eval_must A n c P 2 (grow (redrawn w d) os) (hP.keep (below_regrown w d os)) h0)
  simp only [if_neg g] at KM
  clear hop hP h0 g
  go_enter Tryz.func56, Tryz.ntmps56
  go_wp2_with fail
  refine wp_region_throw (l := [_, _]) [0, 5] [1] (by kernel_rfl) (by decide) (by kernel_rfl) rfl (fun w' => ∃ p : Regrown, w' = grow (redrawn w p.d) p.os) (fun ch w' => ch = tellE 2 ∧ Below w.heap.size w w') ⟨⟨w.drawn + 1, #[]⟩, by rw [grow_empty]; rfl⟩ ?_ ?_
  · rintro a' ch w' hd ⟨rfl, hg⟩
    exact ⟨hd, tell_bad hg⟩
  · repeat (first | go_big_quiet_step (fail) | quiet_step (fail))
    refine wpQuiet_nil ?_
    refine ⟨fun o ho => ?_, trivial⟩
    injection ho with ho
    subst ho
    refine ⟨by go_simp, ?_⟩
    rintro w' ⟨⟨d, os⟩, rfl⟩
    go_wp2_with fail
    refine (KM.out d os).mono ?_
    rintro e w4 ⟨rfl, b4⟩
    exact ⟨rfl, (below_regrown w d os).trans (b4.mono (below_regrown w d os).size)⟩
set_option maxHeartbeats 4000000 in
theorem double_no2 {W w : World} {R : Nat} {k : Cx} {p : Int} (_h : EvAt W w R k p) (op : Int) (hop : op ≠ 14 ∧ op ≠ 20 ∧ op ≠ 25 ∧ op ≠ 26 ∧ op ≠ 27) (A B : Option Addr) (n m c d : Nat) (P Q : List Nd) (hP : Ns w A n c P) (h0 : 0 < P.length) (hQ : Ns w B m d Q) (h1 : 0 < Q.length) (g : headOp P = 2) (g2 : headOp Q ≠ 2) :
    Calls Tryz.prog 56 #[.pointer (some ⟨R, 0, none⟩), .int .i64 op, .slice A n c, .slice B m d] w (TellPost w (twoX k.E op P Q)) := by
  have HR := Lib.hid (show twoX k.E op P Q = .error 2 by rw [two_num hop, if_neg (fun q => g2 q.2)])
  rw [HR.out]
  have f14 : (op == 14) = false := beq_eq_false_iff_ne.2 hop.1
  have f20 : (op == 20) = false := beq_eq_false_iff_ne.2 hop.2.1
  have f25 : (op == 25) = false := beq_eq_false_iff_ne.2 hop.2.2.1
  have f26 : (op == 26) = false := beq_eq_false_iff_ne.2 hop.2.2.2.1
  have f27 : (op == 27) = false := beq_eq_false_iff_ne.2 hop.2.2.2.2
  obtain ⟨a, rfl, hn1, ⟨-, d1, -, -⟩, -, -⟩ := ns_hd hP h0
  have hn : (0 : Int) < (n : Int) := by omega
  have hn0 : 0 < n := hn1
  have k1 := cell_regrown d1
  have R1 := rq (w := w) (fun w' hb => by have := eval_must (some a) n c P 2 w' (hP.keep hb) h0; rwa [if_pos g] at this)
  have KM := Lib.hid (fun d' os => eval_must B m d Q 2 (grow (redrawn w d') os) (hQ.keep (below_regrown w d' os)) h1)
  simp only [if_neg g2] at KM
  generalize hdN P = y at *
  clear hop hP h0 hQ h1 g g2
  go_enter Tryz.func56, Tryz.ntmps56
  go_wp2_with fail
  refine wp_region_throw (l := [_, _, _, _, _, _]) [0, 1, 2, 3, 4, 5] [6] (by kernel_rfl) (by decide) (by kernel_rfl) rfl (fun w' => ∃ p : Regrown, w' = grow (redrawn w p.d) p.os) (fun ch w' => ch = tellE 2 ∧ Below w.heap.size w w') ⟨⟨w.drawn + 1, #[]⟩, by rw [grow_empty]; rfl⟩ ?_ ?_
  · rintro a' ch w' hd ⟨rfl, hg⟩
    exact ⟨hd, tell_bad hg⟩
  · repeat (first | go_big_quiet_step (with_reducible exact R1 _ _) | quiet_step (with_reducible exact R1 _ _))
    refine wpQuiet_nil ?_
    refine ⟨fun o ho => ?_, trivial⟩
    injection ho with ho
    subst ho
    refine ⟨by go_simp, ?_⟩
    rintro w' ⟨⟨d', os⟩, rfl⟩
    go_wp2_with fail
    refine (KM.out d' os).mono ?_
    rintro e w4 ⟨rfl, b4⟩
    exact ⟨rfl, (below_regrown w d' os).trans (b4.mono (below_regrown w d' os).size)⟩
set_option maxHeartbeats 8000000 in
theorem double_lt {W w : World} {R : Nat} {k : Cx} {p : Int} (_h : EvAt W w R k p) (A B : Option Addr) (n m c d : Nat) (P Q : List Nd) (hP : Ns w A n c P) (h0 : 0 < P.length) (hQ : Ns w B m d Q) (h1 : 0 < Q.length) (g : headOp P = 2) (g2 : headOp Q = 2) :
    Calls Tryz.prog 56 #[.pointer (some ⟨R, 0, none⟩), .int .i64 15, .slice A n c, .slice B m d] w (TellPost w (twoX k.E 15 P Q)) := by
  have HR := Lib.hid (show twoX k.E 15 P Q = .ok (truthN (decide ((hdN P).n < (hdN Q).n))) by rw [two_num ⟨by decide, by decide, by decide, by decide, by decide⟩, if_pos ⟨g, g2⟩]; rfl)
  rw [HR.out]
  obtain ⟨a, rfl, hn1, ⟨-, d1, -, -⟩, -, -⟩ := ns_hd hP h0
  obtain ⟨a2, rfl, hn2, ⟨-, d2, -, -⟩, -, -⟩ := ns_hd hQ h1
  have hn : (0 : Int) < (n : Int) := by omega
  have hm : (0 : Int) < (m : Int) := by omega
  have hn0 : 0 < n := hn1
  have hm0 : 0 < m := hn2
  have k1 := cell_regrown d1
  have k2 := cell_regrown d2
  have R1 := rq (w := w) (fun w' hb => by have := eval_must (some a) n c P 2 w' (hP.keep hb) h0; rwa [if_pos g] at this)
  have R2 := rq (w := w) (fun w' hb => by have := eval_must (some a2) m d Q 2 w' (hQ.keep hb) h1; rwa [if_pos g2] at this)
  generalize hdN P = y at *
  generalize hdN Q = z at *
  clear hP h0 hQ h1 g g2
  go_enter Tryz.func56, Tryz.ntmps56
  go_wp2_with fail
  refine wp_region_quiet_below (by kernel_rfl) (by kernel_rfl) ?_
  repeat (first | go_big_quiet_step (first | with_reducible exact R1 _ _ | with_reducible exact R2 _ _) | quiet_step (first | with_reducible exact R1 _ _ | with_reducible exact R2 _ _))
  refine wpQuiet_nil ?_
  intro w1 hw'
  have b1 := Lib.hid (show Below w.heap.size w w1 by obtain ⟨⟨d, os⟩, rfl⟩ := hw'; exact below_regrown _ _ _)
  clear hw'
  go_wp2_with fail
  refine (eval_truth (decide (y.n < z.n)) w1).mono ?_
  rintro e w2 hp
  have HP := Lib.hid (hp.up b1.out)
  obtain ⟨-, A3, n3, c3, rfl, -, -⟩ := hp
  go_wp2_with fail
  go_ret
  exact HP.out
set_option maxHeartbeats 8000000 in
theorem double_le {W w : World} {R : Nat} {k : Cx} {p : Int} (_h : EvAt W w R k p) (A B : Option Addr) (n m c d : Nat) (P Q : List Nd) (hP : Ns w A n c P) (h0 : 0 < P.length) (hQ : Ns w B m d Q) (h1 : 0 < Q.length) (g : headOp P = 2) (g2 : headOp Q = 2) :
    Calls Tryz.prog 56 #[.pointer (some ⟨R, 0, none⟩), .int .i64 16, .slice A n c, .slice B m d] w (TellPost w (twoX k.E 16 P Q)) := by
  have HR := Lib.hid (show twoX k.E 16 P Q = .ok (truthN (decide ((hdN P).n ≤ (hdN Q).n))) by rw [two_num ⟨by decide, by decide, by decide, by decide, by decide⟩, if_pos ⟨g, g2⟩]; rfl)
  rw [HR.out]
  obtain ⟨a, rfl, hn1, ⟨-, d1, -, -⟩, -, -⟩ := ns_hd hP h0
  obtain ⟨a2, rfl, hn2, ⟨-, d2, -, -⟩, -, -⟩ := ns_hd hQ h1
  have hn : (0 : Int) < (n : Int) := by omega
  have hm : (0 : Int) < (m : Int) := by omega
  have hn0 : 0 < n := hn1
  have hm0 : 0 < m := hn2
  have k1 := cell_regrown d1
  have k2 := cell_regrown d2
  have R1 := rq (w := w) (fun w' hb => by have := eval_must (some a) n c P 2 w' (hP.keep hb) h0; rwa [if_pos g] at this)
  have R2 := rq (w := w) (fun w' hb => by have := eval_must (some a2) m d Q 2 w' (hQ.keep hb) h1; rwa [if_pos g2] at this)
  generalize hdN P = y at *
  generalize hdN Q = z at *
  clear hP h0 hQ h1 g g2
  go_enter Tryz.func56, Tryz.ntmps56
  go_wp2_with fail
  refine wp_region_quiet_below (by kernel_rfl) (by kernel_rfl) ?_
  repeat (first | go_big_quiet_step (first | with_reducible exact R1 _ _ | with_reducible exact R2 _ _) | quiet_step (first | with_reducible exact R1 _ _ | with_reducible exact R2 _ _))
  refine wpQuiet_nil ?_
  intro w1 hw'
  have b1 := Lib.hid (show Below w.heap.size w w1 by obtain ⟨⟨d, os⟩, rfl⟩ := hw'; exact below_regrown _ _ _)
  clear hw'
  go_wp2_with fail
  refine (eval_truth (decide (y.n ≤ z.n)) w1).mono ?_
  rintro e w2 hp
  have HP := Lib.hid (hp.up b1.out)
  obtain ⟨-, A3, n3, c3, rfl, -, -⟩ := hp
  go_wp2_with fail
  go_ret
  exact HP.out
set_option maxHeartbeats 8000000 in
theorem double_do {W w : World} {R : Nat} {k : Cx} {p : Int} (h : EvAt W w R k p) (op : Int) (hop : op ≠ 14 ∧ op ≠ 20 ∧ op ≠ 25 ∧ op ≠ 26 ∧ op ≠ 27) (hop2 : op ≠ 15 ∧ op ≠ 16) (A B : Option Addr) (n m c d : Nat) (P Q : List Nd) (hP : Ns w A n c P) (h0 : 0 < P.length) (hQ : Ns w B m d Q) (h1 : 0 < Q.length) (g : headOp P = 2) (g2 : headOp Q = 2) :
    Calls Tryz.prog 56 #[.pointer (some ⟨R, 0, none⟩), .int .i64 op, .slice A n c, .slice B m d] w (TellPost w (twoX k.E op P Q)) := by
  have HR := Lib.hid (show twoX k.E op P Q = tellV (numE op (hdN P).n (hdN Q).n) (intN (numV op (hdN P).n (hdN Q).n)) by rw [two_num hop, if_pos ⟨g, g2⟩, if_neg hop2.1, if_neg hop2.2])
  rw [HR.out]
  have f14 : (op == 14) = false := beq_eq_false_iff_ne.2 hop.1
  have f20 : (op == 20) = false := beq_eq_false_iff_ne.2 hop.2.1
  have f25 : (op == 25) = false := beq_eq_false_iff_ne.2 hop.2.2.1
  have f26 : (op == 26) = false := beq_eq_false_iff_ne.2 hop.2.2.2.1
  have f27 : (op == 27) = false := beq_eq_false_iff_ne.2 hop.2.2.2.2
  have f15 : (op == 15) = false := beq_eq_false_iff_ne.2 hop2.1
  have f16 : (op == 16) = false := beq_eq_false_iff_ne.2 hop2.2
  obtain ⟨a, rfl, hn1, ⟨-, d1, -, -⟩, o1, -⟩ := ns_hd hP h0
  obtain ⟨a2, rfl, hn2, ⟨-, d2, -, -⟩, o2, -⟩ := ns_hd hQ h1
  have hn : (0 : Int) < (n : Int) := by omega
  have hm : (0 : Int) < (m : Int) := by omega
  have hn0 : 0 < n := hn1
  have hm0 : 0 < m := hn2
  have k1 := cell_regrown d1
  have k2 := cell_regrown d2
  have R1 := rq (w := w) (fun w' hb => by have := eval_must (some a) n c P 2 w' (hP.keep hb) h0; rwa [if_pos g] at this)
  have R2 := rq (w := w) (fun w' hb => by have := eval_must (some a2) m d Q 2 w' (hQ.keep hb) h1; rwa [if_pos g2] at this)
  have HDR := Lib.hid h.cx.door
  generalize hdN P = y at *
  generalize hdN Q = z at *
  have KN := Lib.hid (fun w => num_Do op y.n z.n w ⟨o1.lo, o1.hi⟩ ⟨o2.lo, o2.hi⟩)
  have HVI := Lib.hid (numV_i64 op y.n z.n)
  clear hP h0 hQ h1 g g2 hop hop2 h o1 o2
  generalize numV op y.n z.n = r at *
  by_cases q : numE op y.n z.n = 0
  · have HT := Lib.hid (show tellV (numE op y.n z.n) (intN r) = .ok (intN r) by unfold tellV; rw [if_pos q])
    rw [HT.out]
    simp only [q, errV_zero] at KN
    clear q
    go_enter Tryz.func56, Tryz.ntmps56
    go_wp2_with fail
    refine wp_region_quiet_below (by kernel_rfl) (by kernel_rfl) ?_
    repeat (first | go_big_quiet_step (first | with_reducible exact R1 _ _ | with_reducible exact R2 _ _) | quiet_step (first | with_reducible exact R1 _ _ | with_reducible exact R2 _ _))
    refine wpQuiet_nil ?_
    intro w1 hw'
    have b1 := Lib.hid (show Below w.heap.size w w1 by obtain ⟨⟨d, os⟩, rfl⟩ := hw'; exact below_regrown _ _ _)
    clear hw'
    go_wp2_with fail
    refine (KN.out _).mono ?_
    rintro e w2 ⟨rfl, rfl⟩
    go_wp2_with fail
    refine (toldInt_nil (.int .i64 r) w1).mono ?_
    rintro e w3 ⟨rfl, b3⟩
    have B3 := bh b1 b3
    clear b3
    go_wp2_with fail
    go_ret
    exact (lit_tell w3 ⟨2, r, emp, emp⟩ (nd_plain _ _ HVI.out)).up B3.out
  · have HT := Lib.hid (show tellV (numE op y.n z.n) (intN r) = .error (numE op y.n z.n) by unfold tellV; rw [if_neg q])
    rw [HT.out]
    simp only [errV_ne q] at KN
    generalize numE op y.n z.n = u at *
    clear q
    go_enter Tryz.func56, Tryz.ntmps56
    go_wp2_with fail
    refine wp_region_quiet_below (by kernel_rfl) (by kernel_rfl) ?_
    repeat (first | go_big_quiet_step (first | with_reducible exact R1 _ _ | with_reducible exact R2 _ _) | quiet_step (first | with_reducible exact R1 _ _ | with_reducible exact R2 _ _))
    refine wpQuiet_nil ?_
    intro w1 hw'
    have b1 := Lib.hid (show Below w.heap.size w w1 by obtain ⟨⟨d, os⟩, rfl⟩ := hw'; exact below_regrown _ _ _)
    clear hw'
    go_wp2_with fail
    refine (KN.out _).mono ?_
    rintro e w2 ⟨rfl, rfl⟩
    go_wp2_with fail
    refine (toldInt_err (.int .i64 r) u w1 (HDR.out.keep b1.out)).mono ?_
    rintro e w3 ⟨rfl, b3⟩
    have B3 := bh b1 b3
    clear b3
    go_wp2_with fail
    exact ⟨rfl, tell_bad B3.out⟩
end Go.Proofs.YtcdpoamiejompaaGreatDoor
namespace Go.Proofs.YtcdpoamiejompaaGreatDoor
open Go.RowKit Go.Wk Go.Sort
set_option maxRecDepth 100000

set_option maxHeartbeats 1000000 in
theorem index_in (A : Option Addr) (n c : Nat) (V : List Sl) (p : List Nd → Bool) (bx ba : Nat) (w : World) (hn : n = V.length) (hm : n ≤ maxLen) (hV : SlsAt w A V)
    (C : Hid (∀ r ∈ V, ∀ (w' : World), Below w.heap.size w w' → Ns w' r.A r.n r.c r.P → Calls Tryz.prog 138 #[.slice r.A r.n r.c, .pointer (some ⟨bx, 0, none⟩), .pointer (some ⟨ba, 0, none⟩)] w' fun e w'' => e = .returned (.bool (p r.P)) ∧ Below w'.heap.size w' w'')) :
    Calls Tryz.prog 170 #[.slice A n c, (.func (.func 138) #[] #[.pointer (some ⟨bx, 0, none⟩), .pointer (some ⟨ba, 0, none⟩)])] w (IdxPost (V.any fun r => p r.P) w) := by
  unfold maxLen at hm
  have HV := Lib.hid hV
  have HN := Lib.hid hn
  clear hV hn
  go_enter Tryz.func170, Tryz.ntmps170
  go_wp2_with fail
  go_loopw [5, 8] (fun _ i wr => ∃ k : Nat, k ≤ n ∧ i = .int .i64 k ∧ Hid ((V.any fun r => p r.P) = (V.drop k).any fun r => p r.P) ∧ Hid (Below w.heap.size w wr)) (fun _ i _ => n - (intOf i).toNat)
  case atStart => exact ⟨0, Nat.zero_le _, rfl, rfl, Below.refl _ _⟩
  case round =>
    obtain ⟨k, hk, rfl, hE, hB⟩ := hrel
    by_cases hlt : k < n
    · have h1 : k < V.length := by rw [← HN.out]; exact hlt
      obtain ⟨a, rfl, q, hs⟩ := (HV.out.keep hB.out).at h1
      have HA := Lib.hid (hE.out.trans (any_drop h1))
      have Cr := Lib.hid (C.out V[k] (List.getElem_mem h1) wr hB.out hs)
      generalize V[k] = r at *
      clear hE hs
      rcases hp : p r.P with _ | _
      · rw [hp] at Cr HA
        clear hp
        go_wp2_with fail
        refine (Cr.out).mono ?_
        rintro e w1 ⟨rfl, b1⟩
        go_wp2_with fail
        go_roundw
        case rel => exact ⟨k + 1, by omega, by go_num, HA, bh hB b1⟩
        case measure => simp [intOf]; omega
      · rw [hp] at Cr HA
        clear hp
        go_wp2_with fail
        refine (Cr.out).mono ?_
        rintro e w1 ⟨rfl, b1⟩
        go_wp2_with fail
        go_ret
        exact ⟨_, rfl, by rw [HA.out]; simp, (bh hB b1).out⟩
    · have HA := Lib.hid (hE.out.trans (by rw [List.drop_of_length_le (by rw [← HN.out]; omega)]; rfl : _ = false))
      clear hE
      go_wp2_with fail
      go_ret
      exact ⟨_, rfl, by rw [HA.out]; rfl, hB.out⟩
theorem contains_in (A : Option Addr) (n c : Nat) (V : List Sl) (p : List Nd → Bool) (bx ba : Nat) (w : World) (hn : n = V.length) (hm : n ≤ maxLen) (hV : SlsAt w A V)
    (C : Hid (∀ r ∈ V, ∀ (w' : World), Below w.heap.size w w' → Ns w' r.A r.n r.c r.P → Calls Tryz.prog 138 #[.slice r.A r.n r.c, .pointer (some ⟨bx, 0, none⟩), .pointer (some ⟨ba, 0, none⟩)] w' fun e w'' => e = .returned (.bool (p r.P)) ∧ Below w'.heap.size w' w'')) :
    Calls Tryz.prog 137 #[.slice A n c, (.func (.func 138) #[] #[.pointer (some ⟨bx, 0, none⟩), .pointer (some ⟨ba, 0, none⟩)])] w fun e w' => e = .returned (.bool (V.any fun r => p r.P)) ∧ Below w.heap.size w w' := by
  have I := Lib.hid (index_in A n c V p bx ba w hn hm hV C)
  unfold IdxPost at I
  clear hn hV C
  go_enter Tryz.func137, Tryz.ntmps137
  go_wp2_with fail
  refine (I.out).mono ?_
  rintro e w1 ⟨i, rfl, hi, b1⟩
  have HI := Lib.hid hi
  clear hi
  go_wp2_with fail
  go_ret
  exact ⟨ret_bool HI.out, b1⟩

theorem uid_ok {V : List Nd} (h : NdOk (hdN V)) : UOk (uidN V) := ⟨h.s, h.t⟩
set_option maxHeartbeats 4000000 in
theorem eval_in1 {W w : World} {R : Nat} {k : Cx} {p : Int} (h : EvAt W w R k p) (A B : Option Addr) (n m c d : Nat) (P Q : List Nd) (hP : Ns w A n c P) (h0 : 0 < P.length) (hQ : Ns w B m d Q) (h1 : 0 < Q.length) (bx ba : Nat)
    (cx : w.cell? ⟨bx, 0, none⟩ = some (.pointer (some ⟨R, 0, none⟩))) (ca : w.cell? ⟨ba, 0, none⟩ = some (.slice A n c)) :
    Calls Tryz.prog 138 #[.slice B m d, .pointer (some ⟨bx, 0, none⟩), .pointer (some ⟨ba, 0, none⟩)] w fun e w' => e = .returned (.bool (inB k.E (uidN P) (uidN Q))) ∧ Below w.heap.size w w' := by
  obtain ⟨a1, rfl, q1, -, o1, -⟩ := ns_hd hP h0
  obtain ⟨a2, rfl, q2, -, o2, -⟩ := ns_hd hQ h1
  have R1 := rq (w := w) (fun w' hb => eval_uid (some a1) n c P w' (hP.keep hb) h0)
  have R2 := rq (w := w) (fun w' hb => eval_uid (some a2) m d Q w' (hQ.keep hb) h1)
  have R3 := rq (w := w) (fun w' hb => by
    have := ent_In k.EA k.en k.ec k.E (uidN P) (uidN Q) w' (h.cx.es.keep hb) (uid_ok o1) (uid_ok o2)
    rwa [show storeF k.E = 0 from h.ok.ok.e, errV_zero] at this)
  have R4 := rq (w := w) (fun w' hb => toldBool_nil (.bool (inB k.E (uidN P) (uidN Q))) w')
  have c0 := h.c0
  have k0 := cell_regrown c0
  have k1 := cell_regrown cx
  have k2 := cell_regrown ca
  unfold udV at R1 R2 R3
  generalize inB k.E (uidN P) (uidN Q) = b at *
  generalize uidN P = u at *
  generalize uidN Q = v at *
  clear h hP hQ h0 h1 o1 o2 q1 q2
  go_enter Tryz.func138, Tryz.ntmps138
  go_wp2_with fail
  refine wp_region_quiet_below (by kernel_rfl) (by kernel_rfl) ?_
  repeat (first | go_big_quiet_step (first | with_reducible exact R1 _ _ | with_reducible exact R2 _ _ | with_reducible exact R3 _ _ | with_reducible exact R4 _ _) | quiet_step (first | with_reducible exact R1 _ _ | with_reducible exact R2 _ _ | with_reducible exact R3 _ _ | with_reducible exact R4 _ _))
  refine wpQuiet_nil ?_
  intro w2 hw'
  have b2 := Lib.hid (show Below w.heap.size w w2 by obtain ⟨⟨d, os⟩, rfl⟩ := hw'; exact below_regrown _ _ _)
  clear hw'
  go_wp2_with fail
  go_ret
  exact ⟨rfl, b2.out⟩
theorem sls_lit (w : World) (r : Sl) (hr : Ns w r.A r.n r.c r.P) (t : TypeId) : SlsAt (w.alloc (.cells #[.slice r.A r.n r.c] t)) (some ⟨w.heap.size, 0, none⟩) [r] := fun k x hx => by
  match k, hx with
  | 0, hx => simp at hx; subst hx; exact ⟨_, rfl, cell_row (heap_alloc_last w _) rfl, hr.keep (below_box w _)⟩
  | k + 1, hx => simp at hx
/-- What in tells. -/
def InPost (w : World) (E : List En) (P Q : List Nd) (e : Ending) (w' : World) : Prop :=
  Below w.heap.size w w' ∧ e = if headOp P = 4 ∧ (topsX Q).all (fun t => decide (headOp t = 4)) then .returned (.bool ((topsX Q).any fun t => inB E (uidN P) (uidN t))) else .panicked (tellE 2)
/-- The boxes of the two that the closure takes with it. -/
def inW (w : World) (R : Nat) (A : Option Addr) (n c : Nat) : World := (w.alloc (.cells #[.pointer (some ⟨R, 0, none⟩)] 63)).alloc (.cells #[.slice A n c] 66)
theorem inW_below (w : World) (R : Nat) (A : Option Addr) (n c : Nat) : Below w.heap.size w (inW w R A n c) := (below_box w _).trans ((below_box _ _).mono (by simp))
theorem inW_x (w : World) (R : Nat) (A : Option Addr) (n c : Nat) : (inW w R A n c).cell? ⟨w.heap.size, 0, none⟩ = some (.pointer (some ⟨R, 0, none⟩)) := cell_keep (below_box _ _) (cell_row (heap_alloc_last w _) rfl)
theorem inW_a (w : World) (R : Nat) (A : Option Addr) (n c : Nat) : (inW w R A n c).cell? ⟨w.heap.size + 1, 0, none⟩ = some (.slice A n c) := by
  have := cell_row (heap_alloc_last (w.alloc (.cells #[.pointer (some ⟨R, 0, none⟩)] 63)) (.cells #[.slice A n c] 66)) (k := 0) (u := .slice A n c) rfl
  rw [World.size_alloc] at this
  exact this
set_option maxHeartbeats 4000000 in
theorem in_no {W w : World} {R : Nat} {k : Cx} {p : Int} (_h : EvAt W w R k p) (A B : Option Addr) (n m c d : Nat) (P Q : List Nd) (hP : Ns w A n c P) (h0 : 0 < P.length) (_hQ : Ns w B m d Q) (_h1 : 0 < Q.length) (g : headOp P ≠ 4) :
    Calls Tryz.prog 94 #[.pointer (some ⟨R, 0, none⟩), .slice A n c, .slice B m d] w (InPost w k.E P Q) := by
  have K := Lib.hid (eval_must A n c P 4 (inW w R A n c) (hP.keep (inW_below w R A n c)) h0)
  rw [if_neg g] at K
  have B0 := Lib.hid (inW_below w R A n c)
  have HR := Lib.hid (show (if headOp P = 4 ∧ (topsX Q).all (fun t => decide (headOp t = 4)) then Ending.returned (.bool ((topsX Q).any fun t => inB k.E (uidN P) (uidN t))) else .panicked (tellE 2)) = .panicked (tellE 2) from if_neg (fun q => g q.1))
  unfold inW at K B0
  clear hP h0 g
  go_enter Tryz.func94, Tryz.ntmps94
  go_wp2_with fail
  refine K.out.mono ?_
  rintro e w1 ⟨rfl, b1⟩
  have B1 := bh B0 b1
  clear b1 K
  go_wp2_with fail
  exact ⟨rfl, B1.out, by rw [HR.out]⟩
set_option maxHeartbeats 8000000 in
theorem in_one {W w : World} {R : Nat} {k : Cx} {p : Int} (h : EvAt W w R k p) (A B : Option Addr) (n m c d : Nat) (P Q : List Nd) (hP : Ns w A n c P) (h0 : 0 < P.length) (hQ : Ns w B m d Q) (h1 : 0 < Q.length) (g : headOp P = 4) (g5 : headOp Q ≠ 5) :
    Calls Tryz.prog 94 #[.pointer (some ⟨R, 0, none⟩), .slice A n c, .slice B m d] w (InPost w k.E P Q) := by
  have K := Lib.hid (eval_must A n c P 4 (inW w R A n c) (hP.keep (inW_below w R A n c)) h0)
  rw [if_pos g] at K
  have B0 := Lib.hid (inW_below w R A n c)
  have HX := Lib.hid (inW_x w R A n c)
  have HA := Lib.hid (inW_a w R A n c)
  have HP := Lib.hid hP
  have HQ := Lib.hid hQ
  have HE := Lib.hid h
  have H0 := Lib.hid h0
  have HDR := Lib.hid h.cx.door
  have KI := Lib.hid (fun w' hb => eval_is B m d Q 5 w' (hQ.keep (w' := w') hb) h1)
  unfold inW at K B0 HX HA
  have f5 : (headOp Q == 5) = false := beq_eq_false_iff_ne.2 g5
  rw [f5] at KI
  clear f5
  go_enter Tryz.func94, Tryz.ntmps94
  go_wp2_with fail
  refine K.out.mono ?_
  rintro e w1 ⟨rfl, b1⟩
  have B1 := bh B0 b1
  have HX1 := Lib.hid (cell_keep b1 HX.out)
  have HA1 := Lib.hid (cell_keep b1 HA.out)
  clear b1 K B0 HX HA
  go_wp2_with fail
  have HS := Lib.hid (sls_lit w1 ⟨B, m, d, Q⟩ (HQ.out.keep B1.out) 25)
  have B2 := bh B1 (below_box w1 (.cells #[.slice B m d] 25))
  have HX2 := Lib.hid (cell_keep (below_box w1 (.cells #[.slice B m d] 25)) HX1.out)
  have HA2 := Lib.hid (cell_keep (below_box w1 (.cells #[.slice B m d] 25)) HA1.out)
  refine (KI.out _ B2.out).mono ?_
  rintro e w3 ⟨rfl, b3⟩
  have B3 := bh B2 b3
  have HX3 := Lib.hid (cell_keep b3 HX2.out)
  have HA3 := Lib.hid (cell_keep b3 HA2.out)
  have HS3 := Lib.hid (HS.out.keep b3)
  obtain ⟨V, hV⟩ : ∃ V : List Sl, [⟨B, m, d, Q⟩] = V := ⟨_, rfl⟩
  have HVL := Lib.hid (show V.length = 1 by rw [← hV]; rfl)
  have HVP := Lib.hid (show V.map Sl.P = topsX Q by rw [← hV]; unfold topsX; rw [if_neg g5]; rfl)
  have HV0 := Lib.hid (show ∀ r ∈ V, 0 < r.P.length by rw [← hV]; intro r hr; simp only [List.mem_cons, List.not_mem_nil, or_false] at hr; subst hr; exact h1)
  rw [hV] at HS3
  obtain ⟨TA, hTA⟩ : ∃ TA : Option Addr, (some ⟨w1.heap.size, 0, none⟩ : Option Addr) = TA := ⟨_, rfl⟩
  rw [hTA] at HS3 ⊢
  clear hTA
  clear b3 B2 B1 HX1 HA1 HX2 HA2 HS hV KI
  have HG := Lib.hid g
  have HMX : Hid (1 ≤ maxLen) := Lib.hid (by unfold maxLen; omega)
  clear g g5 h0 h1 hP hQ h
  go_wp2_with fail
  have hmf : ∀ (fn : Fn) (first cap : Array Value) (w : World), (Instr.makeFunc fn first cap).run Tryz.prog w = .ok (.func fn first cap) w := fun _ _ _ _ => rfl
  go_loopw [23] (fun i wr => ∃ j : Nat, i = .int .i64 j ∧ j ≤ 1 ∧ Hid ((V.take j).all (fun r => decide (headOp r.P = 4)) = true) ∧ Hid (Below w.heap.size w wr) ∧ Hid (SlsAt wr (TA) V) ∧ Hid (wr.cell? ⟨w.heap.size, 0, none⟩ = some (.pointer (some ⟨R, 0, none⟩))) ∧ Hid (wr.cell? ⟨w.heap.size + 1, 0, none⟩ = some (.slice A n c))) (fun i _ => 1 - (intOf i).toNat)
  case atStart => exact ⟨0, rfl, Nat.zero_le _, Lib.hid rfl, B3, HS3, HX3, HA3⟩
  case round =>
    clear B3 HS3 HX3 HA3
    obtain ⟨j, rfl, hj, hF, hB, hS, hx, ha⟩ := hrel
    by_cases hlt : j < 1
    · have hl : j < V.length := by have := HVL.out; omega
      obtain ⟨a, hA, q, hN⟩ := hS.out.at hl
      cases hA
      have hp := HV0.out _ (List.getElem_mem hl)
      have hall : (V.take (j + 1)).all (fun r => decide (headOp r.P = 4)) = ((V.take j).all (fun r => decide (headOp r.P = 4)) && decide (headOp V[j].P = 4)) := by
        rw [List.take_succ_eq_append_getElem hl, List.all_append]
        simp
      rw [hF.out, Bool.true_and] at hall
      have hmem : V[j].P ∈ topsX Q := by rw [← HVP.out]; exact List.mem_map_of_mem (List.getElem_mem hl)
      have KM := Lib.hid (eval_must V[j].A V[j].n V[j].c V[j].P 4 wr hN hp)
      generalize V[j] = r at *
      by_cases h4 : headOp r.P = 4
      · rw [if_pos h4] at KM
        rw [decide_eq_true h4] at hall
        have HAL := Lib.hid hall
        clear hall h4 hN hp hmem
        go_wp2_with fail
        refine KM.out.mono ?_
        rintro e w4 ⟨rfl, b4⟩
        have B4 := bh hB b4
        have HS4 := Lib.hid (hS.out.keep b4)
        have HX4 := Lib.hid (cell_keep b4 hx.out)
        have HA4 := Lib.hid (cell_keep b4 ha.out)
        clear b4 hB hS hx ha hF
        go_wp2_with fail
        go_roundw
        case rel => exact ⟨j + 1, by go_num, by omega, HAL, B4, HS4, HX4, HA4⟩
        case measure => simp [intOf]; omega
      · rw [if_neg h4] at KM
        have HR := Lib.hid (show (if headOp P = 4 ∧ (topsX Q).all (fun t => decide (headOp t = 4)) then Ending.returned (.bool ((topsX Q).any fun t => inB k.E (uidN P) (uidN t))) else .panicked (tellE 2)) = .panicked (tellE 2) from if_neg (fun z => h4 (by simpa using List.all_eq_true.1 z.2 _ hmem)))
        clear hall h4 hN hp hmem
        go_wp2_with fail
        refine KM.out.mono ?_
        rintro e w4 ⟨rfl, b4⟩
        have B4 := bh hB b4
        clear b4 hB
        go_wp2_with fail
        exact ⟨rfl, B4.out, by rw [HR.out]⟩
    · have hall : (topsX Q).all (fun t => decide (headOp t = 4)) = true := by
        rw [← HVP.out, List.all_map]
        have := hF.out
        rwa [List.take_of_length_le (by have := HVL.out; omega)] at this
      have HR := Lib.hid (show (if headOp P = 4 ∧ (topsX Q).all (fun t => decide (headOp t = 4)) then Ending.returned (.bool ((topsX Q).any fun t => inB k.E (uidN P) (uidN t))) else .panicked (tellE 2)) = .returned (.bool (V.any fun r => inB k.E (uidN P) (uidN r.P))) by
        rw [if_pos ⟨HG.out, hall⟩, ← HVP.out, List.any_map]; rfl)
      have KC := Lib.hid (contains_in (TA) (1) (1) V (fun t => inB k.E (uidN P) (uidN t)) w.heap.size (w.heap.size + 1) wr HVL.out.symm HMX.out hS.out (Lib.hid fun r hr w' hb hN => eval_in1 (HE.out.keep (hB.out.trans (hb.mono hB.out.size))) A r.A n r.n c r.c P r.P (HP.out.keep (hB.out.trans (hb.mono hB.out.size))) H0.out hN (HV0.out r hr) w.heap.size (w.heap.size + 1) (cell_keep hb hx.out) (cell_keep hb ha.out)))
      generalize (V.any fun r => inB k.E (uidN P) (uidN r.P)) = bb at *
      clear hall hF hS
      have hx' := hx.out
      have ha' := ha.out
      go_wp2_with fail
      refine KC.out.mono ?_
      rintro e w4 ⟨rfl, b4⟩
      have B4 := bh hB b4
      clear b4 hB
      go_wp2_with fail
      go_ret
      exact ⟨B4.out, by rw [HR.out]; rfl⟩
set_option maxHeartbeats 8000000 in
theorem in_set {W w : World} {R : Nat} {k : Cx} {p : Int} (h : EvAt W w R k p) (A B : Option Addr) (n m c d : Nat) (P Q : List Nd) (hP : Ns w A n c P) (h0 : 0 < P.length) (hQ : Ns w B m d Q) (h1 : 0 < Q.length) (g : headOp P = 4) (g5 : headOp Q = 5) (vQ : valFault Q = 0) :
    Calls Tryz.prog 94 #[.pointer (some ⟨R, 0, none⟩), .slice A n c, .slice B m d] w (InPost w k.E P Q) := by
  have K := Lib.hid (eval_must A n c P 4 (inW w R A n c) (hP.keep (inW_below w R A n c)) h0)
  rw [if_pos g] at K
  have B0 := Lib.hid (inW_below w R A n c)
  have HX := Lib.hid (inW_x w R A n c)
  have HA := Lib.hid (inW_a w R A n c)
  have HP := Lib.hid hP
  have HQ := Lib.hid hQ
  have HE := Lib.hid h
  have H0 := Lib.hid h0
  have HDR := Lib.hid h.cx.door
  have KI := Lib.hid (fun w' hb => eval_is B m d Q 5 w' (hQ.keep (w' := w') hb) h1)
  unfold inW at K B0 HX HA
  have f5 : (headOp Q == 5) = true := beq_iff_eq.2 g5
  rw [f5] at KI
  clear f5
  have KP := Lib.hid (fun w' hb => val_Parts B m d Q w' (hQ.keep (w' := w') hb))
  have HPR := Lib.hid (show prtE Q = 0 by unfold prtE; rw [if_pos vQ, if_pos (Or.inl g5)])
  have HPL := Lib.hid (show prtL Q = topsX Q by unfold prtL topsX; rw [HPR.out, if_pos rfl, if_pos g5, if_pos g5])
  have HPO := Lib.hid (show ∀ t ∈ topsX Q, 0 < t.length by
    unfold topsX
    rw [if_pos g5]
    exact fun t ht => ((isV_set (isV_zero.1 vQ).2 g5).2.2.1 t ht).pos)
  have HPN := Lib.hid (show (topsX Q).length ≤ 200 by
    unfold topsX
    rw [if_pos g5]
    obtain ⟨h2, h3⟩ := isV_zero.1 vQ
    obtain ⟨e, -, h4, -⟩ := isV_set h3 g5
    have h6 : (setParts Q).length ≤ (setParts Q).flatten.length := by
      clear e
      generalize setParts Q = L at *
      induction L with
      | nil => simp
      | cons x L ih =>
        have := (h4 x (by simp)).pos
        have := ih fun y hy => h4 y (by simp [hy])
        simp only [List.length_cons, List.flatten_cons, List.length_append]
        omega
    have h5 := congrArg List.length e
    simp only [List.length_cons] at h5
    omega)
  unfold PartsPost at KP
  rw [HPR.out, errV_zero] at KP
  go_enter Tryz.func94, Tryz.ntmps94
  go_wp2_with fail
  refine K.out.mono ?_
  rintro e w1 ⟨rfl, b1⟩
  have B1 := bh B0 b1
  have HX1 := Lib.hid (cell_keep b1 HX.out)
  have HA1 := Lib.hid (cell_keep b1 HA.out)
  clear b1 K B0 HX HA
  go_wp2_with fail
  have B2 := bh B1 (below_box w1 (.cells #[.slice B m d] 25))
  have HX2 := Lib.hid (cell_keep (below_box w1 (.cells #[.slice B m d] 25)) HX1.out)
  have HA2 := Lib.hid (cell_keep (below_box w1 (.cells #[.slice B m d] 25)) HA1.out)
  refine (KI.out _ B2.out).mono ?_
  rintro e w3 ⟨rfl, b3⟩
  have B3' := bh B2 b3
  have HX3' := Lib.hid (cell_keep b3 HX2.out)
  have HA3' := Lib.hid (cell_keep b3 HA2.out)
  clear b3 B2 B1 HX1 HA1 HX2 HA2 KI
  go_wp2_with fail
  refine (KP.out _ B3'.out).mono ?_
  rintro e w4 ⟨pv, V, rfl, hO, hVP, -, b4⟩
  have B4 := bh B3' b4
  have HX4 := Lib.hid (cell_keep b4 HX3'.out)
  have HA4 := Lib.hid (cell_keep b4 HA3'.out)
  have HVP := Lib.hid (hVP.trans HPL.out)
  obtain ⟨TA, tc, rfl, htc, hSl⟩ := hO.at
  have HS4 := Lib.hid hSl
  have HV0 := Lib.hid (show ∀ r ∈ V, 0 < r.P.length from fun r hr => HPO.out r.P (by rw [← HVP.out]; exact List.mem_map_of_mem hr))
  obtain ⟨tn, htn⟩ : ∃ tn : Nat, tn = V.length := ⟨_, rfl⟩
  have HVL := Lib.hid htn.symm
  have hv2 : V.length ≤ 200 := by have h7 := congrArg List.length HVP.out; rw [List.length_map] at h7; rw [h7]; exact HPN.out
  rw [← htn] at hv2 ⊢
  have HMX : Hid (tn ≤ maxLen) := Lib.hid (by unfold maxLen; omega)
  have HG := Lib.hid g
  clear b4 B3' HX3' HA3' KP hO hVP htc hSl htn HPO HPN HPR HPL g g5 h0 h1 hP hQ h vQ
  go_wp2_with fail
  refine (toldSls_nil _ w4).mono ?_
  rintro e w5 ⟨rfl, b5⟩
  have B3 := bh B4 b5
  have HX3 := Lib.hid (cell_keep b5 HX4.out)
  have HA3 := Lib.hid (cell_keep b5 HA4.out)
  have HS3 := Lib.hid (HS4.out.keep b5)
  clear b5 B4 HX4 HA4 HS4
  go_wp2_with fail
  have hmf : ∀ (fn : Fn) (first cap : Array Value) (w : World), (Instr.makeFunc fn first cap).run Tryz.prog w = .ok (.func fn first cap) w := fun _ _ _ _ => rfl
  go_loopw [23] (fun i wr => ∃ j : Nat, i = .int .i64 j ∧ j ≤ tn ∧ Hid ((V.take j).all (fun r => decide (headOp r.P = 4)) = true) ∧ Hid (Below w.heap.size w wr) ∧ Hid (SlsAt wr (TA) V) ∧ Hid (wr.cell? ⟨w.heap.size, 0, none⟩ = some (.pointer (some ⟨R, 0, none⟩))) ∧ Hid (wr.cell? ⟨w.heap.size + 1, 0, none⟩ = some (.slice A n c))) (fun i _ => tn - (intOf i).toNat)
  case atStart => exact ⟨0, rfl, Nat.zero_le _, Lib.hid rfl, B3, HS3, HX3, HA3⟩
  case round =>
    clear B3 HS3 HX3 HA3
    obtain ⟨j, rfl, hj, hF, hB, hS, hx, ha⟩ := hrel
    by_cases hlt : j < tn
    · have hl : j < V.length := by have := HVL.out; omega
      obtain ⟨a, hA, q, hN⟩ := hS.out.at hl
      cases hA
      have hp := HV0.out _ (List.getElem_mem hl)
      have hall : (V.take (j + 1)).all (fun r => decide (headOp r.P = 4)) = ((V.take j).all (fun r => decide (headOp r.P = 4)) && decide (headOp V[j].P = 4)) := by
        rw [List.take_succ_eq_append_getElem hl, List.all_append]
        simp
      rw [hF.out, Bool.true_and] at hall
      have hmem : V[j].P ∈ topsX Q := by rw [← HVP.out]; exact List.mem_map_of_mem (List.getElem_mem hl)
      have KM := Lib.hid (eval_must V[j].A V[j].n V[j].c V[j].P 4 wr hN hp)
      generalize V[j] = r at *
      by_cases h4 : headOp r.P = 4
      · rw [if_pos h4] at KM
        rw [decide_eq_true h4] at hall
        have HAL := Lib.hid hall
        clear hall h4 hN hp hmem
        go_wp2_with fail
        refine KM.out.mono ?_
        rintro e w4 ⟨rfl, b4⟩
        have B4 := bh hB b4
        have HS4 := Lib.hid (hS.out.keep b4)
        have HX4 := Lib.hid (cell_keep b4 hx.out)
        have HA4 := Lib.hid (cell_keep b4 ha.out)
        clear b4 hB hS hx ha hF
        go_wp2_with fail
        go_roundw
        case rel => exact ⟨j + 1, by go_num, by omega, HAL, B4, HS4, HX4, HA4⟩
        case measure => simp [intOf]; omega
      · rw [if_neg h4] at KM
        have HR := Lib.hid (show (if headOp P = 4 ∧ (topsX Q).all (fun t => decide (headOp t = 4)) then Ending.returned (.bool ((topsX Q).any fun t => inB k.E (uidN P) (uidN t))) else .panicked (tellE 2)) = .panicked (tellE 2) from if_neg (fun z => h4 (by simpa using List.all_eq_true.1 z.2 _ hmem)))
        clear hall h4 hN hp hmem
        go_wp2_with fail
        refine KM.out.mono ?_
        rintro e w4 ⟨rfl, b4⟩
        have B4 := bh hB b4
        clear b4 hB
        go_wp2_with fail
        exact ⟨rfl, B4.out, by rw [HR.out]⟩
    · have hall : (topsX Q).all (fun t => decide (headOp t = 4)) = true := by
        rw [← HVP.out, List.all_map]
        have := hF.out
        rwa [List.take_of_length_le (by have := HVL.out; omega)] at this
      have HR := Lib.hid (show (if headOp P = 4 ∧ (topsX Q).all (fun t => decide (headOp t = 4)) then Ending.returned (.bool ((topsX Q).any fun t => inB k.E (uidN P) (uidN t))) else .panicked (tellE 2)) = .returned (.bool (V.any fun r => inB k.E (uidN P) (uidN r.P))) by
        rw [if_pos ⟨HG.out, hall⟩, ← HVP.out, List.any_map]; rfl)
      have KC := Lib.hid (contains_in (TA) (tn) (tc) V (fun t => inB k.E (uidN P) (uidN t)) w.heap.size (w.heap.size + 1) wr HVL.out.symm HMX.out hS.out (Lib.hid fun r hr w' hb hN => eval_in1 (HE.out.keep (hB.out.trans (hb.mono hB.out.size))) A r.A n r.n c r.c P r.P (HP.out.keep (hB.out.trans (hb.mono hB.out.size))) H0.out hN (HV0.out r hr) w.heap.size (w.heap.size + 1) (cell_keep hb hx.out) (cell_keep hb ha.out)))
      generalize (V.any fun r => inB k.E (uidN P) (uidN r.P)) = bb at *
      clear hall hF hS
      have hx' := hx.out
      have ha' := ha.out
      go_wp2_with fail
      refine KC.out.mono ?_
      rintro e w4 ⟨rfl, b4⟩
      have B4 := bh hB b4
      clear b4 hB
      go_wp2_with fail
      go_ret
      exact ⟨B4.out, by rw [HR.out]; rfl⟩
theorem eval_in {W w : World} {R : Nat} {k : Cx} {p : Int} (h : EvAt W w R k p) (A B : Option Addr) (n m c d : Nat) (P Q : List Nd) (hP : Ns w A n c P) (h0 : 0 < P.length) (hQ : Ns w B m d Q) (h1 : 0 < Q.length) (vQ : valFault Q = 0) :
    Calls Tryz.prog 94 #[.pointer (some ⟨R, 0, none⟩), .slice A n c, .slice B m d] w (InPost w k.E P Q) := by
  by_cases g : headOp P = 4
  · by_cases g5 : headOp Q = 5
    · exact in_set h A B n m c d P Q hP h0 hQ h1 g g5 vQ
    · exact in_one h A B n m c d P Q hP h0 hQ h1 g g5
  · exact in_no h A B n m c d P Q hP h0 hQ h1 g
end Go.Proofs.YtcdpoamiejompaaGreatDoor
namespace Go.Proofs.YtcdpoamiejompaaGreatDoor
open Go.RowKit Go.Wk Go.Sort
set_option maxRecDepth 100000

theorem coll_set (A : Option Addr) (n c : Nat) (V : List Sl) (nv : Value) (w : World) (hn : n = V.length) (hm : n ≤ 1000) (hV : SlsAt w A V) (hd : Door w) :
    Calls Tryz.prog 84 #[.int .i64 5, nv, .slice A n c] w (TellPost w (tellV (Wk.setE (V.map Sl.P)) (setV (V.map Sl.P)))) := by
  have K := Lib.hid (val_SetOfN A n c V w hn (by omega) hV)
  unfold SetPostN at K
  generalize V.map Sl.P = L at *
  have HD := Lib.hid hd
  clear hn hm hV hd
  by_cases z : Wk.setE L = 0
  · have HT := Lib.hid (show tellV (Wk.setE L) (setV L) = .ok (setV L) by unfold tellV; rw [if_pos z])
    rw [HT.out]
    rw [z, errV_zero] at K
    clear z
    go_enter Tryz.func84, Tryz.ntmps84
    go_wp2_with fail
    refine K.out.mono ?_
    rintro e w1 ⟨A2, n2, c2, rfl, hN, hF, b1⟩
    have B1 := Lib.hid b1
    have HN := Lib.hid hN
    have HF := Lib.hid hF
    clear b1 hN hF K
    go_wp2_with fail
    refine (toldNds_nil (.slice A2 n2 c2) w1).mono ?_
    rintro e w2 ⟨rfl, b2⟩
    have B2 := bh B1 b2
    have HN2 := Lib.hid (HN.out.keep b2)
    clear b2 B1 HN
    go_wp2_with fail
    go_ret
    exact ⟨B2.out, A2, n2, c2, rfl, HN2.out, HF.out⟩
  · have HT := Lib.hid (show tellV (Wk.setE L) (setV L) = .error (Wk.setE L) by unfold tellV; rw [if_neg z])
    rw [HT.out]
    rw [errV_ne z] at K
    generalize Wk.setE L = u at *
    clear z
    go_enter Tryz.func84, Tryz.ntmps84
    go_wp2_with fail
    refine K.out.mono ?_
    rintro e w1 ⟨A2, n2, c2, rfl, -, -, b1⟩
    have B1 := Lib.hid b1
    clear b1 K
    go_wp2_with fail
    refine (toldNds_err (.slice A2 n2 c2) u w1 (HD.out.keep B1.out)).mono ?_
    rintro e w2 ⟨rfl, b2⟩
    have B2 := bh B1 b2
    clear b2 B1
    go_wp2_with fail
    exact ⟨rfl, tell_bad B2.out⟩
theorem coll_rec (A : Option Addr) (n c : Nat) (N : List ByteArray) (A' : Option Addr) (m c' : Nat) (V : List Sl) (w : World) (hn : n = N.length) (hn2 : n ≤ 1000) (hT : TxAt w A N) (hz : ∀ x ∈ N, x.size ≤ maxLen) (hm : m = V.length) (hm2 : m ≤ 1000) (hV : SlsAt w A' V) (hd : Door w) :
    Calls Tryz.prog 84 #[.int .i64 6, .slice A n c, .slice A' m c'] w (TellPost w (tellV (recE N (V.map Sl.P)) (recV N (V.map Sl.P)))) := by
  have K := Lib.hid (val_RecOfN A n c N A' m c' V w hn (by omega) hT hz hm (by omega) hV)
  unfold RecPostN at K
  generalize V.map Sl.P = L at *
  have HD := Lib.hid hd
  clear hn hm hV hd hn2 hm2 hT hz
  by_cases z : recE N L = 0
  · have HT := Lib.hid (show tellV (recE N L) (recV N L) = .ok (recV N L) by unfold tellV; rw [if_pos z])
    rw [HT.out]
    rw [z, errV_zero] at K
    clear z
    go_enter Tryz.func84, Tryz.ntmps84
    go_wp2_with fail
    refine K.out.mono ?_
    rintro e w1 ⟨A2, n2, c2, rfl, hN, hF, b1⟩
    have B1 := Lib.hid b1
    have HN := Lib.hid hN
    have HF := Lib.hid hF
    clear b1 hN hF K
    go_wp2_with fail
    refine (toldNds_nil (.slice A2 n2 c2) w1).mono ?_
    rintro e w2 ⟨rfl, b2⟩
    have B2 := bh B1 b2
    have HN2 := Lib.hid (HN.out.keep b2)
    clear b2 B1 HN
    go_wp2_with fail
    go_ret
    exact ⟨B2.out, A2, n2, c2, rfl, HN2.out, HF.out⟩
  · have HT := Lib.hid (show tellV (recE N L) (recV N L) = .error (recE N L) by unfold tellV; rw [if_neg z])
    rw [HT.out]
    rw [errV_ne z] at K
    generalize recE N L = u at *
    clear z
    go_enter Tryz.func84, Tryz.ntmps84
    go_wp2_with fail
    refine K.out.mono ?_
    rintro e w1 ⟨A2, n2, c2, rfl, -, -, b1⟩
    have B1 := Lib.hid b1
    clear b1 K
    go_wp2_with fail
    refine (toldNds_err (.slice A2 n2 c2) u w1 (HD.out.keep B1.out)).mono ?_
    rintro e w2 ⟨rfl, b2⟩
    have B2 := bh B1 b2
    clear b2 B1
    go_wp2_with fail
    exact ⟨rfl, tell_bad B2.out⟩
/-- Slices that lie apart from the evaluation. -/
theorem OwnSls.past {w w' : World} {B R : Nat} {v : Value} {V : List Sl} (h : OwnSls w B v V) (hg : w.grownBy w' (some R)) (hR : R < B) (ha : ∀ r ∈ V, Apart r (some R)) : OwnSls w' B v V := h.row hg (own_ne h.own hR) ha
theorem EvAt.apart {W w : World} {R : Nat} {k : Cx} {p : Int} (h : EvAt W w R k p) {r : Sl} (hr : Ns w r.A r.n r.c r.P) : Apart r (some R) := fun h0 a e q => by
  injection q with q
  exact h.fork hr h0 a e q.symm
theorem EvAt.far {W w w' : World} {R : Nat} {k : Cx} {p : Int} {g : Option Nat} (h : EvAt W w R k p) (hg : w.grownBy w' g) (hne : ∀ x, g = some x → R < x) : EvAt W w' R k p := by
  obtain ⟨t, e⟩ := h.row
  exact ⟨h.base.grown hg h.base.size (fun x hx => Nat.le_trans h.hi (Nat.le_of_lt (hne x hx))), h.hi, h.ok, t, (hg.block R h.lt (fun q => by have := hne R q.symm; omega)).trans e⟩
theorem grown_own {w w1 w2 : World} {r g : Option Nat} (h : w.grownBy w1 r) (k : w1.grownBy w2 g) (hg : ∀ x, g = some x → w.heap.size ≤ x) : w.grownBy w2 r :=
  ⟨k.os.trans h.os, k.tape.trans h.tape, k.output.trans h.output, Nat.le_trans h.size k.size, fun i hi hn => (k.block i (Nat.lt_of_lt_of_le hi h.size) (fun e => by have := hg i e.symm; omega)).trans (h.block i hi hn)⟩
/-- What a part tells that leaves the evaluation where it is. -/
theorem tell_ev {W w w1 w2 : World} {R : Nat} {k : Cx} {q : Int} {r : Res} {e : Ending} (h : TellPost w1 r e w2) (E : EvAt W w1 R k q) (G : w.grownBy w1 (some R)) : EvPost W w R k q r e w2 := by
  refine ⟨grown_trans G (grown_of_below h.1 _), ?_⟩
  cases r with
  | error x => exact h.2
  | ok V =>
    obtain ⟨A, n, c, he, hN, hF⟩ := h.2
    exact ⟨⟨A, n, c, he, hN, fun a ha => .inr (Nat.le_trans G.size (hF a ha))⟩, E.keep h.1⟩
/-- A value that has come lies apart from a row of the call's own. -/
theorem come_apart {W w : World} {R B : Nat} {k : Cx} {p : Int} {v : Value} {n : Nat} {xs : List Value} {t : TypeId} {z : Nat} (h : EvAt W w R k p) (hR : R < B) (hv : w.ownsRow B t z v n xs) (r : Sl) (hF : ∀ a, r.A = some a → a.block < W.heap.size ∨ w.heap.size ≤ a.block) : Apart r v.ownBlock := fun _ a e q => by
  have h1 := own_lt hv a.block q
  have h2 := own_base hv a.block q
  have h3 := h.hi
  rcases hF a e with h4 | h4 <;> omega
/-- A set of what was told. -/
def resS : Except Int (List (List Nd)) → Res
  | .error e => .error e
  | .ok L => tellV (Wk.setE L) (setV L)
/-- A record of what was told. -/
def resF : Except Int (List (ByteArray × List Nd)) → Res
  | .error e => .error e
  | .ok L => tellV (recE (L.map Prod.fst) (L.map Prod.snd)) (recV (L.map Prod.fst) (L.map Prod.snd))
theorem resS_err {x : Except Int (List (List Nd))} {e : Int} (h : x = .error e) : resS x = .error e := by rw [h]; rfl
theorem resS_ok {x : Except Int (List (List Nd))} {L : List (List Nd)} (h : x = .ok L) : resS x = tellV (Wk.setE L) (setV L) := by rw [h]; rfl
theorem resF_err {x : Except Int (List (ByteArray × List Nd))} {e : Int} (h : x = .error e) : resF x = .error e := by rw [h]; rfl
theorem resF_ok {x : Except Int (List (ByteArray × List Nd))} {L : List (ByteArray × List Nd)} (h : x = .ok L) : resF x = tellV (recE (L.map Prod.fst) (L.map Prod.snd)) (recV (L.map Prod.fst) (L.map Prod.snd)) := by rw [h]; rfl
/-- What is told so far, and what is left. -/
def preS (L : List (List Nd)) : Except Int (List (List Nd)) → Except Int (List (List Nd))
  | .error e => .error e
  | .ok M => .ok (L ++ M)
theorem preS_nil (x : Except Int (List (List Nd))) : preS [] x = x := by cases x <;> rfl
theorem preS_err {σ : Env} {L : List (List Nd)} {a : Ex} {r : Exs} {e : Int} (h : evX σ a = .error e) : preS L (evS σ (.cons a r)) = .error e := by rw [evS, h]; rfl
theorem preS_ok {σ : Env} {L : List (List Nd)} {a : Ex} {r : Exs} {U : List Nd} (h : evX σ a = .ok U) : preS L (evS σ (.cons a r)) = preS (L ++ [U]) (evS σ r) := by
  rw [evS, h]
  simp only
  rcases evS σ r with e | M
  · rfl
  · simp [preS]
end Go.Proofs.YtcdpoamiejompaaGreatDoor
namespace Go.Proofs.YtcdpoamiejompaaGreatDoor
open Go.RowKit Go.Wk Go.Sort
set_option maxRecDepth 100000

set_option maxHeartbeats 8000000 in
theorem made_set {W : World} {R N : Nat} {k : Cx} (ih : NextC W R k N) {w : World} {p : Nat} (h : EvAt W w R k (p : Int)) (n : Nd) (ps : Exs) (hx : XsAt k.P p false ps) (h5 : n.op = 5) (hn : n.n = (ps.len : Int)) (hl : ps.flat.length ≤ N) (h200 : ps.len ≤ 200) :
    Calls Tryz.prog 54 #[.pointer (some ⟨R, 0, none⟩), ndV n] w (EvPost W w R k ((p + ps.flat.length : Nat) : Int) (resS (evS k.env ps))) := by
  obtain ⟨i0, hi, hz0, hz1, hz2⟩ := info_parts slInfo
  have IH := Lib.hid ih
  have HDR := Lib.hid (fun w' hb => h.cx.door.keep (w' := w') hb)
  have H0 := Lib.hid (h.keep (below_box w (.cells #[.int .i64 5, .int .i64 n.n, .string n.s, .string n.t] 42)))
  have G0 := Lib.hid (grown_of_below (below_box w (.cells #[.int .i64 5, .int .i64 n.n, .string n.s, .string n.t] 42)) (some R))
  have hRl := h.lt
  have HX := Lib.hid hx
  have HL := Lib.hid hl
  unfold ndV
  rw [h5]
  obtain ⟨m, hm⟩ : ∃ m : Nat, m = ps.len := ⟨_, rfl⟩
  rw [← hm] at hn h200
  rw [hn] at H0 G0 ⊢
  have HM := Lib.hid hm
  clear h hx hl h5 ih hm hn
  go_enter Tryz.func54, Tryz.ntmps54
  go_wp2_with fail
  go_loopw [5, 6, 9] (fun nv v i wr => ∃ (j q : Nat) (r : Exs) (V : List Sl), nv = .slice none 0 0 ∧ i = .int .i64 j ∧ j ≤ m ∧ V.length = j ∧ Hid (j + r.len = m) ∧ Hid (evS k.env ps = preS (V.map Sl.P) (evS k.env r)) ∧ Hid (XsAt k.P q false r) ∧ Hid (q + r.flat.length = p + ps.flat.length) ∧ Hid (r.flat.length ≤ N) ∧
    Hid (OwnSls wr (w.heap.size + 1) v V) ∧ Hid (EvAt W wr R k q) ∧ Hid (w.grownBy wr (some R)) ∧ wr.cell? ⟨w.heap.size, 0, none⟩ = some (.int .i64 5)) (fun _ _ i _ => m - (intOf i).toNat)
  case atStart => exact ⟨0, p, ps, [], rfl, rfl, Nat.zero_le _, rfl, Lib.hid (by rw [Nat.zero_add]; exact HM.out.symm), Lib.hid (preS_nil _).symm, HX, Lib.hid rfl, HL, Lib.hid (OwnSls.nil _ _), H0, G0, by simp⟩
  case round =>
    obtain ⟨j, q, r, V, rfl, rfl, hj, hVl, hM, hS, hXs, hQ, hN, hO, hE, hG, hb⟩ := hrel
    clear H0 G0
    by_cases hlt : j < m
    · obtain ⟨a, r', rfl⟩ : ∃ a r', r = .cons a r' := by
        cases r with
        | nil => have := hM.out; simp only [Exs.len] at this; omega
        | cons a r' => exact ⟨a, r', rfl⟩
      obtain ⟨ha, hr'⟩ := hXs.out.head
      have hfl : (Exs.cons a r').flat.length = a.flat.length + r'.flat.length := by simp [Exs.flat]
      have la : a.flat.length ≤ N := by have := hN.out; omega
      have hQ2 := Lib.hid (show q + a.flat.length + r'.flat.length = p + ps.flat.length by have := hQ.out; omega)
      have hN2 := Lib.hid (show r'.flat.length ≤ N by have := hN.out; omega)
      have hM2 := Lib.hid (show j + 1 + r'.len = m by have := hM.out; simp only [Exs.len] at this; omega)
      have HR2 := Lib.hid hr'
      have C := Lib.hid (IH.out a q wr hE.out ha la)
      have hwr : w.heap.size < wr.heap.size := block_lt_of_cell hb
      rcases qa : evX k.env a with e | U
      · have HEr := Lib.hid (hS.out.trans (preS_err qa))
        rw [qa] at C
        unfold EvPost at C
        clear hS hXs hQ hN ha hr' hfl la qa hQ2 hN2 hM2 HR2
        go_wp2_with fail
        refine C.out.mono ?_
        rintro e w1 ⟨g1, rfl⟩
        have G1 := Lib.hid (grown_trans hG.out g1)
        clear g1
        go_wp2_with fail
        refine ⟨rfl, ?_⟩
        rw [resS_err HEr.out]
        exact ⟨G1.out, rfl⟩
      · have HSr := Lib.hid (hS.out.trans (preS_ok qa))
        rw [qa] at C
        unfold EvPost at C
        clear hS hXs hQ hN ha hr' hfl la qa
        go_wp2_with fail
        refine C.out.mono ?_
        rintro e w1 ⟨g1, ⟨A1, n1, c1, rfl, N1, F1⟩, E1⟩
        have T1 := Lib.hid (hO.out.past g1 (Nat.lt_succ_of_lt hRl) (fun x hx => hE.out.apart (hO.out.each x hx)))
        have AP := Lib.hid (come_apart hE.out (Nat.lt_succ_of_lt hRl) hO.out.own ⟨A1, n1, c1, U⟩ F1)
        have G1 := Lib.hid (grown_trans hG.out g1)
        have HN1 := Lib.hid (show Ns w1 (⟨A1, n1, c1, U⟩ : Sl).A _ _ _ from N1)
        have HE1 := Lib.hid E1
        have hw1 : w.heap.size < w1.heap.size := Nat.lt_of_lt_of_le hwr g1.size
        have hb1 : w1.cell? ⟨w.heap.size, 0, none⟩ = some (.int .i64 5) := g1.cell hb (show some w.heap.size ≠ some R from fun e => by injection e with e; omega)
        have OB := Lib.hid (fun g hg => own_base T1.out.own g hg)
        clear g1 N1 E1 F1 C hO hE hG hb
        go_wp2_with (at_builtin; refine wpList_append_own_at _ rfl _ _ 59 rfl (w.heap.size + 1) 25 i0 _ 1 24 Tryz.underlying59 hi hz0 hz1 hz2 rfl (by decide) _ V.length (V.map Sl.v) rfl (T1.out.own.alloc _) ⟨_, 0, none⟩ 1 1 [.slice A1 n1 c1] rfl rfl (cell_one_new _ _ _) (by intro u hu; simp only [List.mem_cons, List.not_mem_nil, or_false] at hu; subst hu; rfl) ?d1 ?d2 ?d3 ?_)
        case d1 => unfold maxLen; omega
        case d2 => omega
        case d3 => simp; omega
        intro v2 w5 hown hgrow _ hat
        have E5 := Lib.hid ((HE1.out.keep (below_box w1 _)).far hgrow (fun x hx => by have := OB.out x hx; omega))
        have G5 := Lib.hid (grown_own (grown_trans G1.out (grown_of_below (below_box w1 _) _)) hgrow (fun x hx => Nat.le_of_succ_le (OB.out x hx)))
        have T5 := Lib.hid (T1.out.snoc (r := ⟨A1, n1, c1, U⟩) HN1.out AP.out (by rw [hVl]; exact hown) hgrow (by simpa using hat))
        have hb5 : w5.cell? ⟨w.heap.size, 0, none⟩ = some (.int .i64 5) := hgrow.cell (cell_keep (below_box w1 _) hb1) (fun e => by have := OB.out w.heap.size e.symm; omega)
        have hl5 : (V ++ [(⟨A1, n1, c1, U⟩ : Sl)]).length = j + 1 := by simp [hVl]
        have HS5 := Lib.hid (show evS k.env ps = preS ((V ++ [(⟨A1, n1, c1, U⟩ : Sl)]).map Sl.P) (evS k.env r') by rw [HSr.out, List.map_append]; rfl)
        clear hown hgrow hat T1 HN1 AP HE1 G1 HSr
        go_wp2_with fail
        go_roundw
        case rel => exact ⟨j + 1, q + a.flat.length, r', _, rfl, by go_num, by omega, hl5, hM2, HS5, HR2, hQ2, hN2, T5, E5, G5, hb5⟩
        case measure => simp [intOf]; omega
    · obtain rfl : r = .nil := by
        cases r with
        | nil => rfl
        | cons a r' => have := hM.out; simp only [Exs.len] at this; omega
      have HV := Lib.hid (resS_ok (L := V.map Sl.P) (hS.out.trans (by simp [evS, preS])))
      have HQ := Lib.hid (show p + ps.flat.length = q by have := hQ.out; simpa [Exs.flat] using this.symm)
      obtain ⟨A, c, rfl, hc, hSl⟩ := hO.out.at
      have K := Lib.hid (coll_set A j c V (.slice none 0 0) wr hVl.symm (by omega) hSl hE.out.cx.door)
      have TE := Lib.hid (fun e w2 (h : TellPost wr (tellV (Wk.setE (V.map Sl.P)) (setV (V.map Sl.P))) e w2) => tell_ev h hE.out hG.out)
      generalize tellV (Wk.setE (V.map Sl.P)) (setV (V.map Sl.P)) = rr at *
      clear hM hS hXs hQ hN hO hE hG hSl hc
      rcases rr with u | U
      · go_wp2_with fail
        refine K.out.mono ?_
        rintro e w2 hp
        have HP := Lib.hid (TE.out _ _ hp)
        obtain ⟨-, rfl⟩ := hp
        go_wp2_with fail
        refine ⟨rfl, ?_⟩
        rw [HV.out]
        first
          | (rw [show ((p : Int) + (ps.flat.length : Int)) = (q : Int) by have := HQ.out; omega]; exact HP.out)
          | (rw [HQ.out]; exact HP.out)
      · go_wp2_with fail
        refine K.out.mono ?_
        rintro e w2 hp
        have HP := Lib.hid (TE.out _ _ hp)
        obtain ⟨-, A2, n2, c2, rfl, -, -⟩ := hp
        go_wp2_with fail
        go_ret
        rw [HV.out]
        first
          | (rw [HQ.out]; exact HP.out)
          | (rw [show ((p : Int) + (ps.flat.length : Int)) = (q : Int) by have := HQ.out; omega]; exact HP.out)
end Go.Proofs.YtcdpoamiejompaaGreatDoor
