/-
  BagAsks: the walk of the law.
-/
import Derived.Test.YtminmokalmgjdaaDoorRefBag
import Derived.Test.YtminmokalmgjdaaDoorTold
namespace Go.Proofs.YtminmokalmgjdaaDoor
open Go.RowKit Go.Wk Go.Sort
set_option maxRecDepth 100000

def boolN (n : Int) : Nd := ⟨1, n, ⟨#[]⟩, ⟨#[]⟩⟩
theorem fact_BagAsksE : hasE [setHead 1, boolN 1] [boolN 1] = 0 := by decide +kernel
theorem fact_BagAsksV : hasV [setHead 1, boolN 1] [boolN 1] = true := by decide +kernel
theorem ns_new (w : World) (P : List Nd) (t : TypeId) (h : P.length ≤ 1000) (ho : NdsOk P) : Ns (w.alloc (.cells (ndCells P).toArray t)) (some ⟨w.heap.size, 0, none⟩) P.length P.length P :=
  ⟨rfl, Nat.le_refl _, by unfold maxLen; omega, nds_new w P t, ho⟩
theorem ok_small {x : Nd} (h1 : x.s = ⟨#[]⟩) (h2 : x.t = ⟨#[]⟩) (h3 : -1000 ≤ x.n) (h4 : x.n ≤ 1000) : NdOk x := ⟨by rw [h1]; exact Nat.zero_le _, by rw [h2]; exact Nat.zero_le _, by omega, by omega⟩
/-- The law's fact. -/
theorem asks_fact (w : World) : Hid (Calls Tryd.prog 18 #[.slice (some ⟨w.heap.size, 0, none⟩) 2 2, .slice (some ⟨w.heap.size + 1, 0, none⟩) 1 1] ((w.alloc (.cells #[.int .i64 5, .int .i64 1, .string ⟨#[]⟩, .string ⟨#[]⟩, .int .i64 1, .int .i64 1, .string ⟨#[]⟩, .string ⟨#[]⟩] 26)).alloc (.cells #[.int .i64 1, .int .i64 1, .string ⟨#[]⟩, .string ⟨#[]⟩] 26))
    fun e w' => e = .returned (.tuple #[.bool true, .nilIface]) ∧ Below w.heap.size w w') := by
  have n1 := ns_new w [setHead 1, boolN 1] 26 (by simp) (by
    intro x hx
    simp only [List.mem_cons, List.not_mem_nil, or_false] at hx
    rcases hx with rfl | rfl <;> exact ok_small rfl rfl (by decide) (by decide))
  have n2 := ns_new (w.alloc (.cells (ndCells [setHead 1, boolN 1]).toArray 26)) [boolN 1] 26 (by simp) (by
    intro x hx
    simp only [List.mem_cons, List.not_mem_nil, or_false] at hx
    subst hx; exact ok_small rfl rfl (by decide) (by decide))
  have hs : (w.alloc (.cells (ndCells [setHead 1, boolN 1]).toArray 26)).heap.size = w.heap.size + 1 := by simp
  rw [hs] at n2
  have := bag_Has _ _ 2 1 2 1 [setHead 1, boolN 1] [boolN 1] _ (n1.keep (below_box _ _)) n2
  rw [fact_BagAsksE, fact_BagAsksV, errV_zero] at this
  exact Lib.hid (this.mono fun e w' ⟨h1, h2⟩ => ⟨h1, (((Below.refl _ _).alloc (Nat.le_refl _) _).alloc (by simp) _).trans (h2.mono (by simp; omega))⟩)
theorem cmpE_parts {P Q : List Nd} (h : cmpE P Q = 0) : valFault P = 0 ∧ valFault Q = 0 := by
  unfold cmpE or2 at h
  by_cases q : valFault P = 0
  · rw [if_pos q] at h; exact ⟨q, h⟩
  · rw [if_neg q] at h; exact absurd h q
theorem headN_at {P : List Nd} (h : IsV P) (h5 : headOp P = 5) : ∃ hp : 0 < P.length, P[0].n = ((setParts P).length : Int) := by
  obtain ⟨-, hp, -, h0, hN⟩ := set_loop h h5
  obtain ⟨-, e2, -, -⟩ := isV_set h h5
  exact ⟨hp, by rw [e2, hN, Int.toNat_of_nonneg h0]⟩


set_option maxHeartbeats 8000000 in
theorem BagAsks_fault (A1 : Option Addr) (n1 c1 : Nat) (P : List Nd) (A2 : Option Addr) (n2 c2 : Nat) (Q : List Nd) (w : World) (h : Ns w A1 n1 c1 P) (k : Ns w A2 n2 c2 Q) (hg : Door w) (h0 : cmpE P Q ≠ 0) :
    Calls Tryd.prog 4 #[.slice A1 n1 c1, .slice A2 n2 c2] w fun e w' => e = .returned (.bool true) ∧ Below w.heap.size w w' := by
  have F := asks_fact w
  have HK := Lib.hid h
  have KK := Lib.hid k
  have FF := Lib.hid (fun w' b hb c0 c1' => ref_Faults2 A1 A2 n1 n2 c1 c2 b P Q w' (h.keep (w' := w') hb) (k.keep hb) c0 c1')
  have SF := Lib.hid (fun w' hb => ref_SetFault A1 A2 n1 n2 c1 c2 P Q w' (h.keep (w' := w') hb) (k.keep hb))
  have HA := Lib.hid (fun w' hb => bag_Has A1 A2 n1 n2 c1 c2 P Q w' (h.keep (w' := w') hb) (k.keep hb))
  have AL := Lib.hid (fun w' hb => bag_All A1 A2 n1 n2 c1 c2 P Q w' (h.keep (w' := w') hb) (k.keep hb))
  have AN := Lib.hid (fun w' hb => bag_Any A1 A2 n1 n2 c1 c2 P Q w' (h.keep (w' := w') hb) (k.keep hb))
  have hE : hasE P Q = cmpE P Q := by
    unfold cmpE at h0 ⊢
    unfold hasE
    unfold or2 at h0 ⊢
    by_cases q : valFault P = 0
    · rw [if_pos q] at h0
      rw [if_pos q, if_pos q, if_neg h0]
    · rw [if_neg q, if_neg q]
  have hE2 : bothE P Q = cmpE P Q := by
    unfold cmpE at h0 ⊢
    unfold bothE
    unfold or2 at h0 ⊢
    by_cases q : valFault P = 0
    · rw [if_pos q] at h0
      rw [if_pos q, if_pos q, if_neg h0]
    · rw [if_neg q, if_neg q]
  have v1 : hasV P Q = false := by unfold hasV; rw [hE, decide_eq_false h0]; rfl
  have v2 : allV P Q = false := by unfold allV; rw [hE2, decide_eq_false h0]; rfl
  have v3 : anyV P Q = false := by unfold anyV; rw [hE2, decide_eq_false h0]; rfl
  rw [hE, v1] at HA
  rw [hE2, v2] at AL
  rw [hE2, v3] at AN
  rw [hE2] at SF
  have g0 : (cmpE P Q == 0) = false := beq_eq_false_iff_ne.2 h0
  generalize cmpE P Q = x at *
  clear h k h0 hE hE2 v1 v2 v3 HK KK
  go_enter Tryd.func4, Tryd.ntmps4
  go_wp2_with fail
  refine (F.out).mono ?_
  rintro e w1 ⟨rfl, b1⟩
  have B1 := Lib.hid b1
  clear b1
  go_wp2_with fail
  refine (FF.out _ _ (B1.out.alloc B1.out.size _) (by go_simp) (by go_simp)).mono ?_
  rintro e w2 ⟨rfl, b2⟩
  have B2 := Lib.hid ((B1.out.alloc B1.out.size (.cells #[.slice A1 n1 c1, .slice A2 n2 c2] 22)).trans (b2.mono (by have := B1.out.size; simp; omega)))
  clear b2 B1
  go_wp2_with fail
  refine (HA.out _ B2.out).mono ?_
  rintro e w3 ⟨rfl, b3⟩
  have B3 := bh B2 b3
  clear b3 B2
  go_wp2_with fail
  refine (same_Error x x _ (hg.keep B3.out)).mono ?_
  rintro e w4 ⟨rfl, b4⟩
  have B4 := bh B3 b4
  rw [beq_self_eq_true]
  clear b4 B3
  go_wp2_with fail
  refine (SF.out _ B4.out).mono ?_
  rintro e w5 ⟨rfl, b5⟩
  have B5 := bh B4 b5
  clear b5 B4
  go_wp2_with fail
  refine (AL.out _ B5.out).mono ?_
  rintro e w6 ⟨rfl, b6⟩
  have B6 := bh B5 b6
  clear b6 B5
  go_wp2_with fail
  refine (same_Error x x _ (hg.keep B6.out)).mono ?_
  rintro e w7 ⟨rfl, b7⟩
  have B7 := bh B6 b7
  rw [beq_self_eq_true]
  clear b7 B6
  go_wp2_with fail
  refine (AN.out _ B7.out).mono ?_
  rintro e w8 ⟨rfl, b8⟩
  have B8 := bh B7 b8
  clear b8 B7
  go_wp2_with fail
  refine (same_Error x x _ (hg.keep B8.out)).mono ?_
  rintro e w9 ⟨rfl, b9⟩
  have B9 := bh B8 b9
  rw [beq_self_eq_true]
  clear b9 B8
  go_wp2_with fail
  go_ret
  exact ⟨ret_bool (by simp), B9.out⟩


set_option maxHeartbeats 8000000 in
theorem BagAsks_op (A1 : Option Addr) (n1 c1 : Nat) (P : List Nd) (A2 : Option Addr) (n2 c2 : Nat) (Q : List Nd) (w : World) (h : Ns w A1 n1 c1 P) (k : Ns w A2 n2 c2 Q) (hg : Door w) (h0 : cmpE P Q = 0) (h5 : headOp P ≠ 5) :
    Calls Tryd.prog 4 #[.slice A1 n1 c1, .slice A2 n2 c2] w fun e w' => e = .returned (.bool true) ∧ Below w.heap.size w w' := by
  have F := asks_fact w
  have HK := Lib.hid h
  have KK := Lib.hid k
  have FF := Lib.hid (fun w' b hb c0 c1' => ref_Faults2 A1 A2 n1 n2 c1 c2 b P Q w' (h.keep (w' := w') hb) (k.keep hb) c0 c1')
  have SF := Lib.hid (fun w' hb => ref_SetFault A1 A2 n1 n2 c1 c2 P Q w' (h.keep (w' := w') hb) (k.keep hb))
  have HA := Lib.hid (fun w' hb => bag_Has A1 A2 n1 n2 c1 c2 P Q w' (h.keep (w' := w') hb) (k.keep hb))
  have AL := Lib.hid (fun w' hb => bag_All A1 A2 n1 n2 c1 c2 P Q w' (h.keep (w' := w') hb) (k.keep hb))
  have AN := Lib.hid (fun w' hb => bag_Any A1 A2 n1 n2 c1 c2 P Q w' (h.keep (w' := w') hb) (k.keep hb))
  obtain ⟨h1, h2⟩ := cmpE_parts h0
  rw [h0] at FF
  have hp1 := (isV_zero.1 h1).2.pos
  obtain ⟨a, rfl, D⟩ := h.at_.nd hp1
  rw [show a.add (0 * 4) = a from rfl] at D
  have hn1 : 0 < n1 := by rw [h.len]; exact hp1
  have d0 := D.c0
  rw [← headOp_at hp1] at d0
  have D0 := Lib.hid (fun w' (hb : Below w.heap.size w w') => cell_keep hb d0)
  have hE : hasE P Q = 2 := by unfold hasE; rw [h1, h2, or2_zero, or2_zero, if_neg h5]
  have hE2 : bothE P Q = 2 := by unfold bothE setsE; rw [h1, h2, or2_zero, or2_zero, if_neg (fun q => h5 q.1)]
  have v1 : hasV P Q = false := by unfold hasV; rw [hE]; rfl
  have v2 : allV P Q = false := by unfold allV; rw [hE2]; rfl
  have v3 : anyV P Q = false := by unfold anyV; rw [hE2]; rfl
  rw [hE, v1] at HA
  rw [hE2, v2] at AL
  rw [hE2, v3] at AN
  rw [hE2] at SF
  have g5 : (headOp P != 5) = true := by rw [bne_iff_ne]; exact h5
  clear h k h0 h1 h2 h5 hE hE2 v1 v2 v3 HK KK hp1 D d0
  go_enter Tryd.func4, Tryd.ntmps4
  go_wp2_with fail
  refine (F.out).mono ?_
  rintro e w1 ⟨rfl, b1⟩
  have B1 := Lib.hid b1
  clear b1
  go_wp2_with fail
  refine (FF.out _ _ (B1.out.alloc B1.out.size _) (by go_simp) (by go_simp)).mono ?_
  rintro e w2 ⟨rfl, b2⟩
  have B2 := Lib.hid ((B1.out.alloc B1.out.size (.cells #[.slice (some a) n1 c1, .slice A2 n2 c2] 22)).trans (b2.mono (by have := B1.out.size; simp; omega)))
  clear b2 B1
  have d2 := D0.out _ B2.out
  go_wp2_with fail
  refine (HA.out _ B2.out).mono ?_
  rintro e w3 ⟨rfl, b3⟩
  have B3 := bh B2 b3
  clear b3 B2 d2
  go_wp2_with fail
  refine (same_Error 2 2 _ (hg.keep B3.out)).mono ?_
  rintro e w4 ⟨rfl, b4⟩
  have B4 := bh B3 b4
  rw [beq_self_eq_true]
  clear b4 B3
  go_wp2_with fail
  refine (SF.out _ B4.out).mono ?_
  rintro e w5 ⟨rfl, b5⟩
  have B5 := bh B4 b5
  clear b5 B4
  go_wp2_with fail
  refine (AL.out _ B5.out).mono ?_
  rintro e w6 ⟨rfl, b6⟩
  have B6 := bh B5 b6
  clear b6 B5
  go_wp2_with fail
  refine (same_Error 2 2 _ (hg.keep B6.out)).mono ?_
  rintro e w7 ⟨rfl, b7⟩
  have B7 := bh B6 b7
  rw [beq_self_eq_true]
  clear b7 B6
  go_wp2_with fail
  refine (AN.out _ B7.out).mono ?_
  rintro e w8 ⟨rfl, b8⟩
  have B8 := bh B7 b8
  clear b8 B7
  go_wp2_with fail
  refine (same_Error 2 2 _ (hg.keep B8.out)).mono ?_
  rintro e w9 ⟨rfl, b9⟩
  have B9 := bh B8 b9
  rw [beq_self_eq_true]
  clear b9 B8
  go_wp2_with fail
  go_ret
  exact ⟨ret_bool (by simp), B9.out⟩


set_option maxHeartbeats 8000000 in
theorem BagAsks_one (A1 : Option Addr) (n1 c1 : Nat) (P : List Nd) (A2 : Option Addr) (n2 c2 : Nat) (Q : List Nd) (w : World) (h : Ns w A1 n1 c1 P) (k : Ns w A2 n2 c2 Q) (hg : Door w) (h0 : cmpE P Q = 0) (h5 : headOp P = 5) (h6 : headOp Q ≠ 5) :
    Calls Tryd.prog 4 #[.slice A1 n1 c1, .slice A2 n2 c2] w fun e w' => e = .returned (.bool true) ∧ Below w.heap.size w w' := by
  have F := asks_fact w
  have HK := Lib.hid h
  have KK := Lib.hid k
  have FF := Lib.hid (fun w' b hb c0 c1' => ref_Faults2 A1 A2 n1 n2 c1 c2 b P Q w' (h.keep (w' := w') hb) (k.keep hb) c0 c1')
  have SF := Lib.hid (fun w' hb => ref_SetFault A1 A2 n1 n2 c1 c2 P Q w' (h.keep (w' := w') hb) (k.keep hb))
  have HA := Lib.hid (fun w' hb => bag_Has A1 A2 n1 n2 c1 c2 P Q w' (h.keep (w' := w') hb) (k.keep hb))
  have AL := Lib.hid (fun w' hb => bag_All A1 A2 n1 n2 c1 c2 P Q w' (h.keep (w' := w') hb) (k.keep hb))
  have AN := Lib.hid (fun w' hb => bag_Any A1 A2 n1 n2 c1 c2 P Q w' (h.keep (w' := w') hb) (k.keep hb))
  obtain ⟨h1, h2⟩ := cmpE_parts h0
  rw [h0] at FF
  have hp1 := (isV_zero.1 h1).2.pos
  obtain ⟨a, rfl, D⟩ := h.at_.nd hp1
  rw [show a.add (0 * 4) = a from rfl] at D
  have hn1 : 0 < n1 := by rw [h.len]; exact hp1
  have d0 := D.c0
  rw [← headOp_at hp1] at d0
  have D0 := Lib.hid (fun w' (hb : Below w.heap.size w w') => cell_keep hb d0)
  have WI := Lib.hid (fun w' hb => ref_Within (some a) A2 n1 n2 c1 c2 P Q w' (h.keep (w' := w') hb) (k.keep hb) h1 h5)
  rw [h5] at D0
  have hE : hasE P Q = 0 := hasE_zero.2 ⟨h1, h2, h5⟩
  have v1 : hasV P Q = hasB (setParts P) Q := by unfold hasV; rw [hE]; simp
  rw [hE, v1] at HA
  have hE2 : bothE P Q = 2 := by unfold bothE setsE; rw [h1, h2, or2_zero, or2_zero, if_neg (fun q => h6 q.2)]
  have v2 : allV P Q = false := by unfold allV; rw [hE2]; rfl
  have v3 : anyV P Q = false := by unfold anyV; rw [hE2]; rfl
  rw [hE2, v2] at AL
  rw [hE2, v3] at AN
  rw [hE2] at SF
  generalize hasB (setParts P) Q = hb at *
  clear h k h0 h1 h2 h5 h6 hE hE2 v1 v2 v3 HK KK hp1 D d0
  go_enter Tryd.func4, Tryd.ntmps4
  go_wp2_with fail
  refine (F.out).mono ?_
  rintro e w1 ⟨rfl, b1⟩
  have B1 := Lib.hid b1
  clear b1
  go_wp2_with fail
  refine (FF.out _ _ (B1.out.alloc B1.out.size _) (by go_simp) (by go_simp)).mono ?_
  rintro e w2 ⟨rfl, b2⟩
  have B2 := Lib.hid ((B1.out.alloc B1.out.size (.cells #[.slice (some a) n1 c1, .slice A2 n2 c2] 22)).trans (b2.mono (by have := B1.out.size; simp; omega)))
  clear b2 B1
  have d2 := D0.out _ B2.out
  go_wp2_with fail
  refine (WI.out _ B2.out).mono ?_
  rintro e w3 ⟨rfl, b3⟩
  have B3 := bh B2 b3
  clear b3 B2 d2
  go_wp2_with fail
  refine (HA.out _ B3.out).mono ?_
  rintro e w4 ⟨rfl, b4⟩
  have B4 := bh B3 b4
  clear b4 B3
  go_wp2_with fail
  refine (same_Error 0 0 _ (hg.keep B4.out)).mono ?_
  rintro e w5 ⟨rfl, b5⟩
  have B5 := bh B4 b5
  rw [beq_self_eq_true]
  clear b5 B4
  go_wp2_with fail
  refine (SF.out _ B5.out).mono ?_
  rintro e w6 ⟨rfl, b6⟩
  have B6 := bh B5 b6
  clear b6 B5
  go_wp2_with fail
  refine (AL.out _ B6.out).mono ?_
  rintro e w7 ⟨rfl, b7⟩
  have B7 := bh B6 b7
  clear b7 B6
  go_wp2_with fail
  refine (same_Error 2 2 _ (hg.keep B7.out)).mono ?_
  rintro e w8 ⟨rfl, b8⟩
  have B8 := bh B7 b8
  rw [beq_self_eq_true]
  clear b8 B7
  go_wp2_with fail
  refine (AN.out _ B8.out).mono ?_
  rintro e w9 ⟨rfl, b9⟩
  have B9 := bh B8 b9
  clear b9 B8
  go_wp2_with fail
  refine (same_Error 2 2 _ (hg.keep B9.out)).mono ?_
  rintro e w10 ⟨rfl, b10⟩
  have B10 := bh B9 b10
  rw [beq_self_eq_true]
  clear b10 B9
  go_wp2_with fail
  go_ret
  exact ⟨ret_bool (by simp), B10.out⟩


set_option maxHeartbeats 8000000 in
theorem BagAsks_both (A1 : Option Addr) (n1 c1 : Nat) (P : List Nd) (A2 : Option Addr) (n2 c2 : Nat) (Q : List Nd) (w : World) (h : Ns w A1 n1 c1 P) (k : Ns w A2 n2 c2 Q) (hg : Door w) (h0 : cmpE P Q = 0) (h5 : headOp P = 5) (h6 : headOp Q = 5) :
    Calls Tryd.prog 4 #[.slice A1 n1 c1, .slice A2 n2 c2] w fun e w' => e = .returned (.bool true) ∧ Below w.heap.size w w' := by
  have F := asks_fact w
  have HK := Lib.hid h
  have KK := Lib.hid k
  have FF := Lib.hid (fun w' b hb c0 c1' => ref_Faults2 A1 A2 n1 n2 c1 c2 b P Q w' (h.keep (w' := w') hb) (k.keep hb) c0 c1')
  have SF := Lib.hid (fun w' hb => ref_SetFault A1 A2 n1 n2 c1 c2 P Q w' (h.keep (w' := w') hb) (k.keep hb))
  have HA := Lib.hid (fun w' hb => bag_Has A1 A2 n1 n2 c1 c2 P Q w' (h.keep (w' := w') hb) (k.keep hb))
  have AL := Lib.hid (fun w' hb => bag_All A1 A2 n1 n2 c1 c2 P Q w' (h.keep (w' := w') hb) (k.keep hb))
  have AN := Lib.hid (fun w' hb => bag_Any A1 A2 n1 n2 c1 c2 P Q w' (h.keep (w' := w') hb) (k.keep hb))
  obtain ⟨h1, h2⟩ := cmpE_parts h0
  rw [h0] at FF
  have hp1 := (isV_zero.1 h1).2.pos
  obtain ⟨a, rfl, D⟩ := h.at_.nd hp1
  rw [show a.add (0 * 4) = a from rfl] at D
  have hn1 : 0 < n1 := by rw [h.len]; exact hp1
  have d0 := D.c0
  rw [← headOp_at hp1] at d0
  have D0 := Lib.hid (fun w' (hb : Below w.heap.size w w') => cell_keep hb d0)
  have WI := Lib.hid (fun w' hb => ref_Within (some a) A2 n1 n2 c1 c2 P Q w' (h.keep (w' := w') hb) (k.keep hb) h1 h5)
  rw [h5] at D0
  have hE : hasE P Q = 0 := hasE_zero.2 ⟨h1, h2, h5⟩
  have v1 : hasV P Q = hasB (setParts P) Q := by unfold hasV; rw [hE]; simp
  rw [hE, v1] at HA
  have hE2 : bothE P Q = 0 := bothE_zero.2 ⟨h1, h2, h5, h6⟩
  have CH := Lib.hid (fun w' hb => ref_Chosen A2 (some a) n2 n1 c2 c1 Q P true w' (k.keep (w' := w') hb) (h.keep hb) h2 h6 h1 h5)
  have hp2 := (isV_zero.1 h2).2.pos
  obtain ⟨b, rfl, E⟩ := k.at_.nd hp2
  rw [show b.add (0 * 4) = b from rfl] at E
  have hn2 : 0 < n2 := by rw [k.len]; exact hp2
  have e0 := E.c1
  obtain ⟨_, hN⟩ := headN_at (isV_zero.1 h2).2 h6
  rw [hN] at e0
  have E0 := Lib.hid (fun w' (hb : Below w.heap.size w w') => cell_keep hb e0)
  have hf : ((setParts Q).filter fun x => hasB (setParts P) x == true) = (setParts Q).filter fun x => hasB (setParts P) x := by simp
  rw [hf] at CH
  have V2 := Lib.hid (show allV P Q = decide (((setParts Q).filter fun x => hasB (setParts P) x).length = (setParts Q).length) by unfold allV; rw [hE2]; simp)
  have V3 := Lib.hid (show anyV P Q = decide (0 < ((setParts Q).filter fun x => hasB (setParts P) x).length) by
    unfold anyV; rw [hE2]
    rw [Bool.eq_iff_iff]
    simp [List.length_pos_iff_exists_mem])
  have LQ := Lib.hid (setParts_len h2 h6)
  rw [hE2] at AL AN SF
  generalize hasB (setParts P) Q = hb at *
  clear h k h0 h1 h2 h5 h6 hE hE2 v1 HK KK hp1 hp2 D E d0 e0 hf hN
  go_enter Tryd.func4, Tryd.ntmps4
  go_wp2_with fail
  refine (F.out).mono ?_
  rintro e w1 ⟨rfl, b1⟩
  have B1 := Lib.hid b1
  clear b1
  go_wp2_with fail
  refine (FF.out _ _ (B1.out.alloc B1.out.size _) (by go_simp) (by go_simp)).mono ?_
  rintro e w2 ⟨rfl, b2⟩
  have B2 := Lib.hid ((B1.out.alloc B1.out.size (.cells #[.slice (some a) n1 c1, .slice (some b) n2 c2] 22)).trans (b2.mono (by have := B1.out.size; simp; omega)))
  clear b2 B1
  have d2 := D0.out _ B2.out
  go_wp2_with fail
  refine (WI.out _ B2.out).mono ?_
  rintro e w3 ⟨rfl, b3⟩
  have B3 := bh B2 b3
  clear b3 B2 d2
  go_wp2_with fail
  refine (HA.out _ B3.out).mono ?_
  rintro e w4 ⟨rfl, b4⟩
  have B4 := bh B3 b4
  clear b4 B3
  go_wp2_with fail
  refine (same_Error 0 0 _ (hg.keep B4.out)).mono ?_
  rintro e w5 ⟨rfl, b5⟩
  have B5 := bh B4 b5
  rw [beq_self_eq_true]
  clear b5 B4
  go_wp2_with fail
  refine (SF.out _ B5.out).mono ?_
  rintro e w6 ⟨rfl, b6⟩
  have B6 := bh B5 b6
  clear b6 B5
  go_wp2_with fail
  refine (CH.out _ B6.out).mono ?_
  rintro e w7 ⟨v, V, rfl, hO, hL, b7⟩
  have B7 := bh B6 b7
  obtain ⟨A7, c7, rfl, -⟩ := own_at hO
  have hLl := congrArg List.length hL
  rw [List.length_map] at hLl
  have HLl := Lib.hid hLl
  have hle : V.length ≤ 200 := by have := LQ.out; have := List.length_filter_le (fun x => hasB (setParts P) x) (setParts Q); omega
  rw [V2.out, ← HLl.out] at AL
  rw [V3.out, ← HLl.out] at AN
  have e7 := E0.out _ B7.out
  clear b7 B6 hO hL hLl
  generalize (setParts Q).length = ql at *
  go_wp2_with fail
  refine (AL.out _ B7.out).mono ?_
  rintro e w8 ⟨rfl, b8⟩
  have B8 := bh B7 b8
  clear b8 B7 e7
  go_wp2_with fail
  refine (same_Error 0 0 _ (hg.keep B8.out)).mono ?_
  rintro e w9 ⟨rfl, b9⟩
  have B9 := bh B8 b9
  rw [beq_self_eq_true]
  clear b9 B8
  have hq : decide (V.length = ql) = ((V.length : Int) == (ql : Int)) := by rw [Bool.eq_iff_iff, beq_iff_eq, decide_eq_true_iff]; omega
  rw [hq]
  clear hq
  go_wp2_with fail
  refine (AN.out _ B9.out).mono ?_
  rintro e w10 ⟨rfl, b10⟩
  have B10 := bh B9 b10
  clear b10 B9
  go_wp2_with fail
  refine (same_Error 0 0 _ (hg.keep B10.out)).mono ?_
  rintro e w11 ⟨rfl, b11⟩
  have B11 := bh B10 b11
  rw [beq_self_eq_true]
  clear b11 B10
  go_wp2_with fail
  go_ret
  exact ⟨ret_bool (by simp), B11.out⟩


theorem BagAsks_walk (A1 : Option Addr) (n1 c1 : Nat) (P : List Nd) (A2 : Option Addr) (n2 c2 : Nat) (Q : List Nd) (w : World) (h : Ns w A1 n1 c1 P) (k : Ns w A2 n2 c2 Q) (hg : Door w) :
    Calls Tryd.prog 4 #[.slice A1 n1 c1, .slice A2 n2 c2] w fun e w' => e = .returned (.bool true) ∧ Below w.heap.size w w' := by
  by_cases h0 : cmpE P Q = 0
  · by_cases h5 : headOp P = 5
    · by_cases h6 : headOp Q = 5
      · exact BagAsks_both A1 n1 c1 P A2 n2 c2 Q w h k hg h0 h5 h6
      · exact BagAsks_one A1 n1 c1 P A2 n2 c2 Q w h k hg h0 h5 h6
    · exact BagAsks_op A1 n1 c1 P A2 n2 c2 Q w h k hg h0 h5
  · exact BagAsks_fault A1 n1 c1 P A2 n2 c2 Q w h k hg h0
end Go.Proofs.YtminmokalmgjdaaDoor
