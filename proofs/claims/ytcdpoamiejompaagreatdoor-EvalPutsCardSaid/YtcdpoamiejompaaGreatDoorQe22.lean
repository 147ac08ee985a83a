/-
  tree.variable, tree.shaped; the reference's Fields: may a node of an expression be so?
  What an expression tells is a value. No program in sight.
  No expression tells the error 0. No program in sight.
  De Morgan; what is not asked for. Plain laws of evaluation. No program in sight.
-/
import Derived.Test.YtcdpoamiejompaaGreatDoorQe21
namespace Go.Proofs.YtcdpoamiejompaaGreatDoor
open Go.RowKit Go.Wk Go.Sort
set_option maxRecDepth 100000

theorem var_first {s : ByteArray} (h : 0 < s.size) : s.data.toList.head? = some s[0] := by
  have h' : 0 < s.data.toList.length := by rw [Array.length_toList]; exact h
  rw [List.head?_eq_getElem?, List.getElem?_eq_getElem h']
  rfl
theorem varOk_q {s : ByteArray} (h : 0 < s.size) (hq : (s[0].toNat : Int) = 63) : varOk s = decide (nameFault (s.extract 1 s.size) = 0) := by
  unfold varOk
  rw [var_first h, if_pos]
  have : s[0].toNat = 63 := by omega
  exact congrArg some (UInt8.toNat_inj.1 this)
theorem varOk_n {s : ByteArray} (h : 0 < s.size) (hq : ¬ (s[0].toNat : Int) = 63) : varOk s = (decide (nameFault s = 0) && !reserved s) := by
  unfold varOk
  rw [var_first h, if_neg]
  intro e
  injection e with e
  exact hq (by rw [e]; rfl)
theorem varOk_e : varOk ⟨#[]⟩ = false := by decide
theorem sub_size (s : ByteArray) : (s.extract 1 s.size).size ≤ s.size := by simp
theorem size_ne {s : ByteArray} (h : 0 < s.size) : s.toList.isEmpty = false ∧ ¬ s.toList = [] := ⟨by rw [List.isEmpty_eq_false_iff]; exact fun q => (not_empty h).1 q, fun q => (not_empty h).1 q⟩
theorem vcell_row {w : World} {b k : Nat} {arr : Array Value} {t : TypeId} {fz : Nat × Nat} {u : Value} (h : w.heap[b]? = some (.cells arr t fz)) (hu : arr[k]? = some u) : w.cell? ⟨b, k, none⟩ = some u := by
  simp [World.cell?, h, hu]
/-- The four cells of a node in a variable. -/
structure Vnx (w : World) (b : Nat) (x : Nd) : Prop where
  c0 : w.cell? ⟨b, 0, none⟩ = some (.int .i64 x.op)
  c1 : w.cell? ⟨b, 1, none⟩ = some (.int .i64 x.n)
  c2 : w.cell? ⟨b, 2, none⟩ = some (.string x.s)
  c3 : w.cell? ⟨b, 3, none⟩ = some (.string x.t)
theorem Vnx.keep {w w' : World} {b : Nat} {x : Nd} (h : Vnx w b x) (hb : Below w.heap.size w w') : Vnx w' b x := ⟨cell_keep hb h.c0, cell_keep hb h.c1, cell_keep hb h.c2, cell_keep hb h.c3⟩
theorem vnx_new (w : World) (x : Nd) (t : TypeId) : Vnx (w.alloc (.cells #[.int .i64 x.op, .int .i64 x.n, .string x.s, .string x.t] t)) w.heap.size x :=
  ⟨vcell_row (heap_alloc_new w _) rfl, vcell_row (heap_alloc_new w _) rfl, vcell_row (heap_alloc_new w _) rfl, vcell_row (heap_alloc_new w _) rfl⟩
set_option maxHeartbeats 4000000 in
theorem tree_variable (s : ByteArray) (w : World) (hs : s.size ≤ maxLen) : Calls Tryz.prog 125 #[.string s] w fun e w' => e = .returned (.bool (varOk s)) ∧ Below w.heap.size w w' := by
  have PR := Lib.hid (fun w => tree_Reserved s w)
  have PN := Lib.hid (fun w => name_Check s w hs)
  have PS := Lib.hid (fun w => name_Check (s.extract 1 s.size) w (Nat.le_trans (sub_size s) hs))
  unfold maxLen at hs
  by_cases h : 0 < s.size
  · obtain ⟨he, he2⟩ := size_ne h
    by_cases hq : (s[0].toNat : Int) = 63
    · have HV := Lib.hid (varOk_q h hq)
      have f1 : ((s[0].toNat : Int) == 63) = true := beq_iff_eq.2 hq
      clear hq
      by_cases h1 : nameFault (s.extract 1 s.size) = 0
      · have HR := Lib.hid (show varOk s = true by rw [HV.out, h1]; rfl)
        rw [h1, errV_zero] at PS
        clear h1
        go_enter Tryz.func125, Tryz.ntmps125
        go_wp2_with fail
        refine (PS.out _).mono ?_
        rintro e w1 ⟨rfl, hb⟩
        go_wp2_with fail
        go_ret
        exact ⟨by rw [HR.out]; rfl, hb⟩
      · have HR := Lib.hid (show varOk s = false by rw [HV.out, decide_eq_false h1])
        rw [errV_ne h1] at PS
        clear HV h1
        generalize nameFault (s.extract 1 s.size) = f at *
        go_enter Tryz.func125, Tryz.ntmps125
        go_wp2_with fail
        refine (PS.out _).mono ?_
        rintro e w1 ⟨rfl, hb⟩
        go_wp2_with fail
        go_ret
        exact ⟨by rw [HR.out]; rfl, hb⟩
    · have HV := Lib.hid (varOk_n h hq)
      have f1 : ((s[0].toNat : Int) == 63) = false := beq_eq_false_iff_ne.2 hq
      clear hq
      by_cases h1 : nameFault s = 0
      · have HR := Lib.hid (show varOk s = !reserved s by rw [HV.out, h1]; rfl)
        rw [h1, errV_zero] at PN
        clear h1
        generalize reserved s = r at *
        go_enter Tryz.func125, Tryz.ntmps125
        go_wp2_with fail
        refine (PN.out _).mono ?_
        rintro e w1 ⟨rfl, hb⟩
        go_wp2_with fail
        refine (PR.out _).mono ?_
        rintro e w2 ⟨rfl, rfl⟩
        go_wp2_with fail
        go_ret
        exact ⟨by rw [HR.out]; rfl, hb⟩
      · have HR := Lib.hid (show varOk s = false by rw [HV.out, decide_eq_false h1]; rfl)
        rw [errV_ne h1] at PN
        clear HV h1
        generalize nameFault s = f at *
        go_enter Tryz.func125, Tryz.ntmps125
        go_wp2_with fail
        refine (PN.out _).mono ?_
        rintro e w1 ⟨rfl, hb⟩
        go_wp2_with fail
        go_ret
        exact ⟨by rw [HR.out]; rfl, hb⟩
  · have e : s = ⟨#[]⟩ := bytes_ext (List.eq_nil_of_length_eq_zero (by rw [Array.length_toList]; show s.size = 0; omega))
    subst e
    have HR := Lib.hid varOk_e
    rw [show nameFault ⟨#[]⟩ = 1 by decide, errV_ne (by decide)] at PN
    clear h
    go_enter Tryz.func125, Tryz.ntmps125
    go_wp2_with fail
    refine (PN.out _).mono ?_
    rintro e w1 ⟨rfl, hb⟩
    go_wp2_with fail
    go_ret
    exact ⟨by rw [HR.out]; rfl, hb⟩
theorem nd_lit (w : World) (x : Nd) (hx : NdOk x) : Ns (w.alloc (.cells #[.int .i64 x.op, .int .i64 x.n, .string x.s, .string x.t] 42)) (some ⟨w.heap.size, 0, none⟩) 1 1 [x] :=
  ⟨rfl, Nat.le_refl _, by unfold maxLen; omega, nds_new w [x] _, fun y hy => by
    simp only [List.mem_cons, List.not_mem_nil, or_false] at hy; subst hy; exact hx⟩
theorem valF_one (x : Nd) (h : 1 ≤ x.op ∧ x.op ≤ 4) : valFault [x] = if shapedN x = true then 0 else 1 := by
  unfold valFault
  rw [if_neg (by simp)]
  simp only [List.length_singleton]
  by_cases hs : shapedN x = true
  · rw [if_pos hs, if_pos]
    have h5 : x.op ≠ 5 := by omega
    have h6 : x.op ≠ 6 := by omega
    have h7 : x.op ≠ 7 := by omega
    simp [partEnd, hs, h5, h6, h7]
  · rw [if_neg hs, if_neg]
    simp [partEnd, hs]
set_option maxHeartbeats 4000000 in
theorem tshaped_val (o n : Int) (s t : ByteArray) (w : World) (ho : o = 1 ∨ o = 2 ∨ o = 3 ∨ o = 4) (hx : NdOk ⟨o, n, s, t⟩) :
    Calls Tryz.prog 79 #[.agg #[.int .i64 o, .int .i64 n, .string s, .string t]] w fun e w' => e = .returned (.bool (shapedN ⟨o, n, s, t⟩)) ∧ Below w.heap.size w w' := by
  have b0 := below_box w (.cells #[.int .i64 o, .int .i64 n, .string s, .string t] 42)
  have N1 := nd_lit (w.alloc (.cells #[.int .i64 o, .int .i64 n, .string s, .string t] 42)) ⟨o, n, s, t⟩ hx
  have B1 := Lib.hid (b0.trans ((below_box (w.alloc (.cells #[.int .i64 o, .int .i64 n, .string s, .string t] 42)) (.cells #[.int .i64 o, .int .i64 n, .string s, .string t] 42)).mono b0.size))
  have hz : (w.alloc (.cells #[.int .i64 o, .int .i64 n, .string s, .string t] 42)).heap.size = w.heap.size + 1 := by simp
  rw [hz] at N1
  have C := Lib.hid (val_Check_ns N1)
  rw [valF_one ⟨o, n, s, t⟩ (by dsimp only; omega)] at C
  dsimp only at C
  clear b0 N1 hz hx
  generalize shapedN ⟨o, n, s, t⟩ = r at *
  cases r
  · rw [if_neg (by decide), errV_ne (by decide)] at C
    rcases ho with rfl | rfl | rfl | rfl
    all_goals
      go_enter Tryz.func79, Tryz.ntmps79
      go_wp2_with fail
      refine C.out.mono ?_
      rintro e w1 ⟨rfl, b1⟩
      have B2 := Lib.hid (B1.out.trans (b1.mono B1.out.size))
      clear b1 C
      go_wp2_with fail
      go_ret
      exact ⟨rfl, B2.out⟩
  · rw [if_pos rfl, errV_zero] at C
    rcases ho with rfl | rfl | rfl | rfl
    all_goals
      go_enter Tryz.func79, Tryz.ntmps79
      go_wp2_with fail
      refine C.out.mono ?_
      rintro e w1 ⟨rfl, b1⟩
      have B2 := Lib.hid (B1.out.trans (b1.mono B1.out.size))
      clear b1 C
      go_wp2_with fail
      go_ret
      exact ⟨rfl, B2.out⟩
set_option maxHeartbeats 4000000 in
theorem tshaped_many (o n : Int) (s t : ByteArray) (ho : o = 5 ∨ o = 6) (w : World) :
    Calls Tryz.prog 79 #[.agg #[.int .i64 o, .int .i64 n, .string s, .string t]] w fun e w' => e = .returned (.bool (decide (0 ≤ n) && noB s && noB t)) ∧ Below w.heap.size w w' := by
  by_cases h0 : 0 ≤ n
  · rcases ho with rfl | rfl <;> rcases empty_or s with rfl | ⟨s1, s2, s3⟩ <;> rcases empty_or t with rfl | ⟨t1, t2, t3⟩
    all_goals
      go_enter Tryz.func79, Tryz.ntmps79
      go_wp2
      go_ret
      exact ⟨ret_bool (by simp [*, noB_empty]), below_box _ _⟩
  · rcases ho with rfl | rfl <;> rcases empty_or s with rfl | ⟨s1, s2, s3⟩ <;> rcases empty_or t with rfl | ⟨t1, t2, t3⟩
    all_goals
      go_enter Tryz.func79, Tryz.ntmps79
      go_wp2
      go_ret
      exact ⟨ret_bool (by first | rfl | (rw [decide_eq_false (show ¬ 0 ≤ n by omega)]; rfl)), below_box _ _⟩
set_option maxHeartbeats 8000000 in
theorem tshaped_named (o n : Int) (s t : ByteArray) (w : World) (ho : o = 7 ∨ o = 21 ∨ o = 22 ∨ o = 24) (hs : s.size ≤ maxLen) :
    Calls Tryz.prog 79 #[.agg #[.int .i64 o, .int .i64 n, .string s, .string t]] w fun e w' => e = .returned (.bool (decide (n = 0) && noB t && decide (nameFault s = 0))) ∧ Below w.heap.size w w' := by
  have P := Lib.hid (fun w => name_Check s w hs)
  by_cases h0 : n = 0
  · subst h0
    rcases empty_or t with rfl | ⟨t1, t2, t3⟩
    · by_cases h1 : nameFault s = 0
      · have HR := Lib.hid (show (decide ((0 : Int) = 0) && noB ⟨#[]⟩ && decide (nameFault s = 0)) = true by rw [h1]; rfl)
        rw [h1, errV_zero] at P
        clear h1
        rcases ho with rfl | rfl | rfl | rfl
        all_goals
          go_enter Tryz.func79, Tryz.ntmps79
          go_wp2_with fail
          refine (P.out _).mono ?_
          rintro e w1 ⟨rfl, hb⟩
          go_wp2_with fail
          go_ret
          exact ⟨by rw [HR.out]; rfl, below_box2 hb⟩
      · have HR := Lib.hid (show (decide ((0 : Int) = 0) && noB ⟨#[]⟩ && decide (nameFault s = 0)) = false by rw [decide_eq_false h1]; rfl)
        rw [errV_ne h1] at P
        clear h1
        generalize nameFault s = f at *
        rcases ho with rfl | rfl | rfl | rfl
        all_goals
          go_enter Tryz.func79, Tryz.ntmps79
          go_wp2_with fail
          refine (P.out _).mono ?_
          rintro e w1 ⟨rfl, hb⟩
          go_wp2_with fail
          go_ret
          exact ⟨by rw [HR.out]; rfl, below_box2 hb⟩
    · rcases ho with rfl | rfl | rfl | rfl
      all_goals
        go_enter Tryz.func79, Tryz.ntmps79
        go_wp2_with fail
        go_ret
        exact ⟨ret_bool (by simp [t3]), below_box _ _⟩
  · have e0 : (n != 0) = true := by rw [bne_iff_ne]; exact h0
    have e1 : (n == 0) = false := beq_eq_false_iff_ne.2 h0
    rcases empty_or t with rfl | ⟨t1, t2, t3⟩ <;> rcases ho with rfl | rfl | rfl | rfl
    all_goals
      go_enter Tryz.func79, Tryz.ntmps79
      go_wp2_with fail
      go_ret
      exact ⟨ret_bool (by simp [h0]), below_box _ _⟩
set_option maxHeartbeats 8000000 in
theorem tshaped_like (o n : Int) (s t : ByteArray) (w : World) (ho : o = 23) (hs : s.size ≤ maxLen) :
    Calls Tryz.prog 79 #[.agg #[.int .i64 o, .int .i64 n, .string s, .string t]] w fun e w' => e = .returned (.bool (decide (n = 0) && noB t && decide (textFault s = 0))) ∧ Below w.heap.size w w' := by
  have P := Lib.hid (fun w => name_Plain s w hs)
  by_cases h0 : n = 0
  · subst h0
    rcases empty_or t with rfl | ⟨t1, t2, t3⟩
    · by_cases h1 : textFault s = 0
      · have HR := Lib.hid (show (decide ((0 : Int) = 0) && noB ⟨#[]⟩ && decide (textFault s = 0)) = true by rw [h1]; rfl)
        rw [h1, errV_zero] at P
        clear h1
        rcases ho with rfl
        all_goals
          go_enter Tryz.func79, Tryz.ntmps79
          go_wp2_with fail
          refine (P.out _).mono ?_
          rintro e w1 ⟨rfl, hb⟩
          go_wp2_with fail
          go_ret
          exact ⟨by rw [HR.out]; rfl, below_box2 hb⟩
      · have HR := Lib.hid (show (decide ((0 : Int) = 0) && noB ⟨#[]⟩ && decide (textFault s = 0)) = false by rw [decide_eq_false h1]; rfl)
        rw [errV_ne h1] at P
        clear h1
        generalize textFault s = f at *
        rcases ho with rfl
        all_goals
          go_enter Tryz.func79, Tryz.ntmps79
          go_wp2_with fail
          refine (P.out _).mono ?_
          rintro e w1 ⟨rfl, hb⟩
          go_wp2_with fail
          go_ret
          exact ⟨by rw [HR.out]; rfl, below_box2 hb⟩
    · rcases ho with rfl
      all_goals
        go_enter Tryz.func79, Tryz.ntmps79
        go_wp2_with fail
        go_ret
        exact ⟨ret_bool (by simp [t3]), below_box _ _⟩
  · have e0 : (n != 0) = true := by rw [bne_iff_ne]; exact h0
    have e1 : (n == 0) = false := beq_eq_false_iff_ne.2 h0
    rcases empty_or t with rfl | ⟨t1, t2, t3⟩ <;> rcases ho with rfl
    all_goals
      go_enter Tryz.func79, Tryz.ntmps79
      go_wp2_with fail
      go_ret
      exact ⟨ret_bool (by simp [h0]), below_box _ _⟩
set_option maxHeartbeats 8000000 in
theorem tshaped_var (n : Int) (s t : ByteArray) (w : World) (hs : s.size ≤ maxLen) :
    Calls Tryz.prog 79 #[.agg #[.int .i64 8, .int .i64 n, .string s, .string t]] w fun e w' => e = .returned (.bool (decide (n = 0) && noB t && varOk s)) ∧ Below w.heap.size w w' := by
  have P := Lib.hid (fun w => tree_variable s w hs)
  by_cases h0 : n = 0
  · subst h0
    rcases empty_or t with rfl | ⟨t1, t2, t3⟩
    · go_enter Tryz.func79, Tryz.ntmps79
      go_wp2_with fail
      refine (P.out _).mono ?_
      rintro e w1 ⟨rfl, hb⟩
      go_wp2_with fail
      go_ret
      exact ⟨ret_bool (by simp [noB_empty]), below_box2 hb⟩
    · go_enter Tryz.func79, Tryz.ntmps79
      go_wp2_with fail
      go_ret
      exact ⟨ret_bool (by simp [t3]), below_box _ _⟩
  · have e0 : (n != 0) = true := by rw [bne_iff_ne]; exact h0
    have e1 : (n == 0) = false := beq_eq_false_iff_ne.2 h0
    rcases empty_or t with rfl | ⟨t1, t2, t3⟩
    all_goals
      go_enter Tryz.func79, Tryz.ntmps79
      go_wp2_with fail
      go_ret
      exact ⟨ret_bool (by simp [h0]), below_box _ _⟩
theorem rest_parts {o : Int} (ho : o = 9 ∨ o = 10 ∨ o = 11 ∨ o = 12 ∨ o = 13 ∨ o = 14 ∨ o = 15 ∨ o = 16 ∨ o = 17 ∨ o = 18 ∨ o = 19 ∨ o = 20 ∨ o = 25 ∨ o = 26 ∨ o = 27) (n : Int) (s t : ByteArray) : 0 < partsN ⟨o, n, s, t⟩ := by
  rcases ho with rfl | rfl | rfl | rfl | rfl | rfl | rfl | rfl | rfl | rfl | rfl | rfl | rfl | rfl | rfl <;> first | exact (show (0 : Int) < 1 by decide) | exact (show (0 : Int) < 2 by decide) | exact (show (0 : Int) < 3 by decide)
theorem rest_beq {o : Int} (ho : o = 9 ∨ o = 10 ∨ o = 11 ∨ o = 12 ∨ o = 13 ∨ o = 14 ∨ o = 15 ∨ o = 16 ∨ o = 17 ∨ o = 18 ∨ o = 19 ∨ o = 20 ∨ o = 25 ∨ o = 26 ∨ o = 27) : (o == 1) = false ∧ (o == 2) = false ∧ (o == 3) = false ∧ (o == 4) = false ∧ (o == 5) = false ∧ (o == 6) = false ∧ (o == 7) = false ∧ (o == 8) = false ∧ (o == 21) = false ∧ (o == 22) = false ∧ (o == 23) = false ∧ (o == 24) = false := by
  refine ⟨?_, ?_, ?_, ?_, ?_, ?_, ?_, ?_, ?_, ?_, ?_, ?_⟩ <;> (rw [beq_eq_false_iff_ne]; omega)
set_option maxHeartbeats 8000000 in
theorem tshaped_rest (o n : Int) (s t : ByteArray) (w : World) (ho : o = 9 ∨ o = 10 ∨ o = 11 ∨ o = 12 ∨ o = 13 ∨ o = 14 ∨ o = 15 ∨ o = 16 ∨ o = 17 ∨ o = 18 ∨ o = 19 ∨ o = 20 ∨ o = 25 ∨ o = 26 ∨ o = 27) :
    Calls Tryz.prog 79 #[.agg #[.int .i64 o, .int .i64 n, .string s, .string t]] w fun e w' => e = .returned (.bool (decide (n = 0) && noB t && noB s)) ∧ Below w.heap.size w w' := by
  have P := Lib.hid (fun w => tree_parts ⟨o, n, s, t⟩ w)
  unfold ndV at P
  dsimp only at P
  have hp := rest_parts ho n s t
  obtain ⟨g1, g2, g3, g4, g5, g6, g7, g8, g21, g22, g23, g24⟩ := rest_beq ho
  generalize partsN ⟨o, n, s, t⟩ = m at *
  have f1 : decide (0 < m) = true := decide_eq_true hp
  clear ho
  by_cases h0 : n = 0
  · subst h0
    obtain ⟨s', hs'⟩ : ∃ s', s' = s := ⟨_, rfl⟩
    obtain ⟨t', ht'⟩ : ∃ t', t' = t := ⟨_, rfl⟩
    have V0 := vnx_new w ⟨o, 0, s, t⟩ 42
    dsimp only at V0
    clear hs' ht' s' t'
    rcases empty_or s with rfl | ⟨s1, s2, s3⟩ <;> rcases empty_or t with rfl | ⟨t1, t2, t3⟩
    all_goals
      go_enter Tryz.func79, Tryz.ntmps79
      go_wp2_with fail
      refine (P.out _).mono ?_
      rintro e w1 ⟨rfl, hb⟩
      have B1 := Lib.hid (below_box2 hb)
      have hw : w.heap.size < w1.heap.size := Nat.lt_of_lt_of_le (by simp) hb.size
      obtain ⟨c0, c1, c2, c3⟩ := V0.keep hb
      dsimp only at c0 c1 c2 c3
      clear hb
      go_wp2_with fail
      go_ret
      exact ⟨ret_bool (by simp [*, noB_empty]), B1.out⟩
  · have e0 : (n != 0) = true := by rw [bne_iff_ne]; exact h0
    have e1 : (n == 0) = false := beq_eq_false_iff_ne.2 h0
    go_enter Tryz.func79, Tryz.ntmps79
    go_wp2_with fail
    refine (P.out _).mono ?_
    rintro e w1 ⟨rfl, hb⟩
    have B1 := Lib.hid (below_box2 hb)
    have hw : w.heap.size < w1.heap.size := Nat.lt_of_lt_of_le (by simp) hb.size
    obtain ⟨c0, c1, c2, c3⟩ := (vnx_new w ⟨o, n, s, t⟩ 42).keep hb
    dsimp only at c0 c1 c2 c3
    clear hb
    go_wp2_with fail
    go_ret
    exact ⟨ret_bool (by simp [h0]), B1.out⟩
set_option maxHeartbeats 8000000 in
theorem tshaped_out (o n : Int) (s t : ByteArray) (w : World) (ho : o ≤ 0 ∨ 28 ≤ o) :
    Calls Tryz.prog 79 #[.agg #[.int .i64 o, .int .i64 n, .string s, .string t]] w fun e w' => e = .returned (.bool false) ∧ Below w.heap.size w w' := by
  have P := Lib.hid (fun w => tree_parts ⟨o, n, s, t⟩ w)
  unfold ndV at P
  dsimp only at P
  rw [partsN_out ho n s t] at P
  obtain ⟨g1, g2, g3, g4, g5, g6, g7, g8, g9, g10, g11, g12, g13, g14, g15, g16, g17, g18, g19, g20, g21, g22, g23, g24, g25, g26, g27⟩ := op_out ho
  clear ho
  go_enter Tryz.func79, Tryz.ntmps79
  go_wp2_with fail
  refine (P.out _).mono ?_
  rintro e w1 ⟨rfl, hb⟩
  go_wp2_with fail
  go_ret
  exact ⟨rfl, below_box2 hb⟩
theorem noB_dec (s : ByteArray) : noB s = decide (s = emp) := by
  rcases h : noB s with _ | _
  · symm; rw [decide_eq_false_iff_not]; rintro rfl; cases h
  · symm; rw [decide_eq_true_iff]; exact noB_eq h
theorem fields_low {x : Nd} (h : 1 ≤ x.op ∧ x.op ≤ 7) : fieldsN x = shapedN x := by unfold fieldsN; rw [if_pos h]
theorem fields_high {x : Nd} (h : 8 ≤ x.op ∧ x.op ≤ 27) : fieldsN x = (decide (x.n = 0) && noB x.t && (if x.op = 8 then varOk x.s else if x.op = 21 ∨ x.op = 22 ∨ x.op = 24 then decide (nameFault x.s = 0) else if x.op = 23 then decide (textFault x.s = 0) else noB x.s)) := by
  have hp : ¬ partsN x < 0 := by
    unfold partsN
    rw [if_neg (by omega)]
    split
    · omega
    · split
      · omega
      · split
        · omega
        · rw [if_pos (by omega)]; omega
  unfold fieldsN
  rw [if_neg (by omega), noB_dec, noB_dec]
  by_cases h0 : x.n = 0
  · by_cases ht : x.t = emp
    · rw [if_neg (by intro q; rcases q with q | q | q <;> contradiction), decide_eq_true h0, decide_eq_true ht]; rfl
    · rw [if_pos (.inr (.inr ht)), decide_eq_false ht, Bool.and_false, Bool.false_and]
  · rw [if_pos (.inr (.inl h0)), decide_eq_false h0, Bool.false_and, Bool.false_and]
theorem fields_out {x : Nd} (h : x.op ≤ 0 ∨ 28 ≤ x.op) : fieldsN x = false := by
  unfold fieldsN
  rw [if_neg (by omega), if_pos]
  left
  obtain ⟨o, n, s, t⟩ := x
  rw [partsN_out h]; decide
theorem tree_shaped (x : Nd) (w : World) (hx : NdOk x) :
    Calls Tryz.prog 79 #[ndV x] w fun e w' => e = .returned (.bool (fieldsN x)) ∧ Below w.heap.size w w' := by
  obtain ⟨o, n, s, t⟩ := x
  have hs : s.size ≤ maxLen := hx.s
  unfold ndV
  dsimp only
  by_cases h1 : 1 ≤ o ∧ o ≤ 4
  · rw [fields_low (by dsimp only; omega)]
    exact tshaped_val o n s t w (by omega) hx
  by_cases h5 : o = 5 ∨ o = 6
  · rw [fields_low (by dsimp only; omega)]
    have := tshaped_many o n s t h5 w
    unfold shapedN
    dsimp only
    rwa [if_neg (by omega), if_neg (by omega), if_neg (by omega), if_neg (by omega), if_pos h5]
  by_cases h7 : o = 7
  · rw [fields_low (by dsimp only; omega)]
    have := tshaped_named o n s t w (by omega) hs
    unfold shapedN
    dsimp only
    rwa [if_neg (by omega), if_neg (by omega), if_neg (by omega), if_neg (by omega), if_neg (by omega), if_pos h7]
  by_cases h8 : 8 ≤ o ∧ o ≤ 27
  · rw [fields_high h8]
    dsimp only
    by_cases h8' : o = 8
    · subst h8'; rw [if_pos rfl]; exact tshaped_var n s t w hs
    rw [if_neg h8']
    by_cases h21 : o = 21 ∨ o = 22 ∨ o = 24
    · rw [if_pos h21]; exact tshaped_named o n s t w (by omega) hs
    rw [if_neg h21]
    by_cases h23 : o = 23
    · rw [if_pos h23]; exact tshaped_like o n s t w h23 hs
    rw [if_neg h23]
    exact tshaped_rest o n s t w (by omega)
  · rw [fields_out (by dsimp only; omega)]
    exact tshaped_out o n s t w (by omega)
end Go.Proofs.YtcdpoamiejompaaGreatDoor
namespace Go.Proofs.YtcdpoamiejompaaGreatDoor
open Go.RowKit Go.Wk

/-- A store and a request that are right. -/
structure EnvOk (σ : Env) : Prop where
  e : storeF σ.E = 0
  who : uidFault σ.who = 0
  act : uidFault σ.act = 0
  what : uidFault σ.what = 0
  ctx : valFault σ.ctx = 0 ∧ headOp σ.ctx = 6
theorem one_val {n : Nd} (h1 : 1 ≤ n.op ∧ n.op ≤ 4) (h : shapedN n = true) : valFault [n] = 0 := by rw [valF_one n h1, if_pos h]
theorem truth_val (b : Bool) : valFault (truthN b) = 0 := one_val (show (1 : Int) ≤ 1 ∧ (1 : Int) ≤ 4 by decide) (by cases b <;> decide)
theorem int_val (k : Int) : valFault (intN k) = 0 := one_val (show (1 : Int) ≤ 2 ∧ (2 : Int) ≤ 4 by decide) (by unfold shapedN; simp [noB, emp]; rfl)
theorem ent_val {u : Ud} (h : uidFault u = 0) : valFault (entN u) = 0 := by
  refine one_val (show (1 : Int) ≤ 4 ∧ (4 : Int) ≤ 4 by decide) ?_
  unfold uidFault at h
  have h1 : nameFault u.1 = 0 := by
    by_cases q : nameFault u.1 = 0
    · exact q
    · rw [if_neg q] at h; exact h
  rw [if_pos h1] at h
  unfold shapedN
  simp [h1, h]
theorem get_val {r : List Nd} {s : ByteArray} (hr : valFault r = 0) (h : getE r s = 0) : valFault (getV r s) = 0 := by
  unfold getV
  rw [if_pos h]
  unfold getE at h
  rw [if_pos hr] at h
  by_cases h6 : headOp r = 6
  · rw [if_pos h6] at h
    rcases hg : getR r s with _ | V
    · rw [hg] at h; cases h
    · obtain ⟨hl, hv⟩ := isV_zero.1 hr
      obtain ⟨e, -, h3, -⟩ := isV_rec hv h6
      unfold getR at hg
      rw [Option.map_eq_some_iff] at hg
      obtain ⟨x, hx, rfl⟩ := hg
      have hm := List.mem_of_find?_eq_some hx
      refine isV_zero.2 ⟨?_, (h3 x hm).1⟩
      have : x.2.length ≤ (flatR (recParts r)).length := by
        generalize recParts r = L at hm
        induction L with
        | nil => cases hm
        | cons y L ih =>
          simp only [flatR, List.length_cons, List.length_append]
          rcases List.mem_cons.1 hm with rfl | hm
          · omega
          · have := ih hm; omega
      rw [e] at hl
      simp only [List.length_cons] at hl
      simp only [Option.getD_some]
      omega
  · rw [if_neg h6] at h; cases h
theorem tellB_val {e : Int} {b : Bool} {V : List Nd} (h : tellB e b = .ok V) : valFault V = 0 := by
  unfold tellB at h
  split at h
  · injection h with h; subst h; exact truth_val b
  · cases h
theorem tellV_val {e : Int} {W V : List Nd} (h : tellV e W = .ok V) (hw : e = 0 → valFault W = 0) : valFault V = 0 := by
  unfold tellV at h
  split at h
  · rename_i h0; injection h with h; subst h; exact hw h0
  · cases h
theorem truth_ok {b : Bool} {V : List Nd} (h : (Except.ok (truthN b) : Res) = .ok V) : valFault V = 0 := by
  injection h with h; subst h; exact truth_val b
theorem named_val {σ : Env} (hσ : EnvOk σ) {s : ByteArray} {V : List Nd} (h : namedX σ s = .ok V) : valFault V = 0 := by
  unfold namedX at h
  split at h
  · injection h with h; subst h; exact ent_val hσ.who
  · split at h
    · injection h with h; subst h; exact ent_val hσ.act
    · split at h
      · injection h with h; subst h; exact ent_val hσ.what
      · split at h
        · injection h with h; subst h; exact hσ.ctx.1
        · cases h
theorem rec_val {E : List En} (hE : storeF E = 0) {V r : List Nd} (hV : valFault V = 0) (h : recX E V = .ok (some r)) : valFault r = 0 ∧ headOp r = 6 := by
  unfold recX at h
  split at h
  · rename_i h6
    injection h with h; injection h with h; subst h
    exact ⟨hV, h6⟩
  · split at h
    · injection h with h
      rw [Option.map_eq_some_iff] at h
      obtain ⟨x, hx, rfl⟩ := h
      exact ent_rec (storeF_zero.1 hE).2.1 (List.mem_of_find?_eq_some hx)
    · cases h
theorem one_ok {E : List En} (hE : storeF E = 0) {n : Nd} {V W : List Nd} (hV : valFault V = 0) (h : oneX E n V = .ok W) : valFault W = 0 := by
  unfold oneX at h
  split at h
  · split at h
    · exact truth_ok h
    · cases h
  · split at h
    · split at h
      · exact tellV_val h fun _ => int_val _
      · cases h
    · split at h
      · split at h
        · exact tellB_val h
        · cases h
      · split at h
        · split at h
          · exact truth_ok h
          · cases h
        · rcases hr : recX E V with e | (_ | r)
          · rw [hr] at h; cases h
          · rw [hr] at h
            simp only at h
            split at h
            · exact truth_ok h
            · cases h
          · rw [hr] at h
            simp only at h
            split at h
            · exact truth_ok h
            · exact tellV_val h fun h0 => get_val (rec_val hE hV hr).1 h0
theorem two_ok {E : List En} {op : Int} {A B W : List Nd} (h : twoX E op A B = .ok W) : valFault W = 0 := by
  unfold twoX at h
  split at h
  · exact truth_ok h
  · split at h
    · unfold inX at h
      split at h
      · exact truth_ok h
      · cases h
    · split at h
      · exact tellB_val h
      · split at h
        · exact tellB_val h
        · split at h
          · exact tellB_val h
          · split at h
            · split at h
              · exact truth_ok h
              · split at h
                · exact truth_ok h
                · exact tellV_val h fun _ => int_val _
            · cases h
theorem apply_ok {E : List En} (hE : storeF E = 0) {n : Nd} {L : List (List Nd)} {W : List Nd} (hL : ∀ V ∈ L, valFault V = 0) (h : applyX E n L = .ok W) : valFault W = 0 := by
  match L, hL, h with
  | [V], hL, h => exact one_ok hE (hL V (by simp)) h
  | [A, B], _, h => exact two_ok h
  | [], _, h => cases h
  | _ :: _ :: _ :: _, _, h => cases h
mutual
/-- What an expression tells is a value. -/
theorem evX_ok {σ : Env} (hσ : EnvOk σ) : ∀ (x : Ex) (f : Bool), x.valid f → ∀ V, evX σ x = .ok V → valFault V = 0
  | .node n ps, f, hv, V, h => by
    obtain ⟨h1, -, h3⟩ := hv
    have hs : fieldsN n = true := by unfold headX at h1; rw [Bool.and_eq_true] at h1; exact h1.1
    unfold evX at h
    split at h
    · rename_i h14
      injection h with h
      subst h
      exact one_val h14 (by rw [← fields_low (by omega)]; exact hs)
    · split at h
      · exact named_val hσ h
      · split at h
        · exact evEither_ok hσ ps _ _ h3 _ V h
        · split at h
          · exact evIf_ok hσ ps _ _ h3 V h
          · split at h
            · rcases hF : evF σ ps with e | L
              · rw [hF] at h; cases h
              · rw [hF] at h
                exact tellV_val h fun h0 => (recV_isV h0).1
            · rcases hS : evS σ ps with e | L
              · rw [hS] at h; cases h
              · rw [hS] at h
                simp only at h
                split at h
                · exact tellV_val h fun h0 => (setV_isV h0).1
                · exact apply_ok hσ.e (evS_ok hσ ps _ _ h3 L hS) h
theorem evEither_ok {σ : Env} (hσ : EnvOk σ) : ∀ (ps : Exs) (c : Bool) (s : ByteArray), ps.valid c s → ∀ (o : Bool) (V : List Nd), evEither σ o ps = .ok V → valFault V = 0
  | .nil, _, _, _, _, _, h => by cases h
  | .cons a r, c, s, hv, o, V, h => by
    unfold evEither at h
    rcases ha : evX σ a with e | W
    · rw [ha] at h; cases h
    · rw [ha] at h
      simp only at h
      split at h
      · split at h
        · injection h with h
          subst h
          exact evX_ok hσ a _ hv.2.1 _ ha
        · exact evLast_ok hσ r _ _ hv.2.2 V h
      · cases h
theorem evLast_ok {σ : Env} (hσ : EnvOk σ) : ∀ (ps : Exs) (c : Bool) (s : ByteArray), ps.valid c s → ∀ V, evLast σ ps = .ok V → valFault V = 0
  | .nil, _, _, _, _, h => by cases h
  | .cons b _, c, s, hv, V, h => by
    unfold evLast at h
    rcases hb : evX σ b with e | W
    · rw [hb] at h; cases h
    · rw [hb] at h
      simp only at h
      split at h
      · injection h with h
        subst h
        exact evX_ok hσ b _ hv.2.1 _ hb
      · cases h
theorem evIf_ok {σ : Env} (hσ : EnvOk σ) : ∀ (ps : Exs) (c : Bool) (s : ByteArray), ps.valid c s → ∀ V, evIf σ ps = .ok V → valFault V = 0
  | .nil, _, _, _, _, h => by cases h
  | .cons b r, c, s, hv, V, h => by
    unfold evIf at h
    rcases hb : evX σ b with e | W
    · rw [hb] at h; cases h
    · rw [hb] at h
      simp only at h
      split at h
      · split at h
        · exact evFst_ok hσ r _ _ hv.2.2 V h
        · exact evSnd_ok hσ r _ _ hv.2.2 V h
      · cases h
theorem evFst_ok {σ : Env} (hσ : EnvOk σ) : ∀ (ps : Exs) (c : Bool) (s : ByteArray), ps.valid c s → ∀ V, evFst σ ps = .ok V → valFault V = 0
  | .nil, _, _, _, _, h => by cases h
  | .cons a _, c, s, hv, V, h => by
    unfold evFst at h
    exact evX_ok hσ a _ hv.2.1 V h
theorem evSnd_ok {σ : Env} (hσ : EnvOk σ) : ∀ (ps : Exs) (c : Bool) (s : ByteArray), ps.valid c s → ∀ V, evSnd σ ps = .ok V → valFault V = 0
  | .nil, _, _, _, _, h => by cases h
  | .cons _ r, c, s, hv, V, h => by
    unfold evSnd at h
    exact evFst_ok hσ r _ _ hv.2.2 V h
theorem evS_ok {σ : Env} (hσ : EnvOk σ) : ∀ (ps : Exs) (c : Bool) (s : ByteArray), ps.valid c s → ∀ L, evS σ ps = .ok L → ∀ V ∈ L, valFault V = 0
  | .nil, _, _, _, L, h => by
    unfold evS at h
    injection h with h
    subst h
    intro V hV
    cases hV
  | .cons x r, c, s, hv, L, h => by
    unfold evS at h
    rcases hx : evX σ x with e | W
    · rw [hx] at h; cases h
    · rw [hx] at h
      simp only at h
      rcases hr : evS σ r with e | M
      · rw [hr] at h; cases h
      · rw [hr] at h
        simp only at h
        injection h with h
        subst h
        intro V hV
        rcases List.mem_cons.1 hV with rfl | hV
        · exact evX_ok hσ x _ hv.2.1 _ hx
        · exact evS_ok hσ r _ _ hv.2.2 M hr V hV
end
end Go.Proofs.YtcdpoamiejompaaGreatDoor
namespace Go.Proofs.YtcdpoamiejompaaGreatDoor
open Go.RowKit Go.Wk

theorem tellB_nz {e : Int} {b : Bool} : tellB e b ≠ .error 0 := fun h => by
  unfold tellB at h
  split at h
  · cases h
  · rename_i hn; injection h with h; exact hn h
theorem tellV_nz {e : Int} {V : List Nd} : tellV e V ≠ .error 0 := fun h => by
  unfold tellV at h
  split at h
  · cases h
  · rename_i hn; injection h with h; exact hn h
theorem namedX_nz {σ : Env} {s : ByteArray} : namedX σ s ≠ .error 0 := fun h => by
  unfold namedX at h
  repeat (split at h; · cases h)
  injection h with h
  cases h
theorem err_ne {k : Int} (hk : k ≠ 0) : (Except.error k : Res) ≠ .error 0 := fun h => by injection h with h; exact hk h
theorem recX_nz {E : List En} {V : List Nd} : recX E V ≠ .error 0 := fun h => by
  unfold recX at h
  split at h
  · cases h
  · split at h
    · cases h
    · injection h with h; cases h
theorem oneX_nz {E : List En} {n : Nd} {V : List Nd} : oneX E n V ≠ .error 0 := fun h => by
  unfold oneX at h
  split at h
  · split at h
    · cases h
    · exact err_ne (by decide) h
  · split at h
    · split at h
      · exact tellV_nz h
      · exact err_ne (by decide) h
    · split at h
      · split at h
        · exact tellB_nz h
        · exact err_ne (by decide) h
      · split at h
        · split at h
          · cases h
          · exact err_ne (by decide) h
        · rcases hr : recX E V with e | (_ | r)
          · rw [hr] at h
            simp only at h
            injection h with h
            subst h
            exact recX_nz hr
          · rw [hr] at h
            simp only at h
            split at h
            · cases h
            · exact err_ne (by decide) h
          · rw [hr] at h
            simp only at h
            split at h
            · cases h
            · exact tellV_nz h
theorem twoX_nz {E : List En} {op : Int} {A B : List Nd} : twoX E op A B ≠ .error 0 := fun h => by
  unfold twoX at h
  split at h
  · cases h
  · split at h
    · unfold inX at h
      split at h
      · cases h
      · exact err_ne (by decide) h
    · split at h
      · exact tellB_nz h
      · split at h
        · exact tellB_nz h
        · split at h
          · exact tellB_nz h
          · split at h
            · split at h
              · cases h
              · split at h
                · cases h
                · exact tellV_nz h
            · exact err_ne (by decide) h
theorem evS_len {σ : Env} : ∀ (ps : Exs) (L : List (List Nd)), evS σ ps = .ok L → L.length = ps.len
  | .nil, L, h => by
    unfold evS at h
    injection h with h
    subst h
    rfl
  | .cons x r, L, h => by
    unfold evS at h
    rcases hx : evX σ x with e | W
    · rw [hx] at h; cases h
    · rw [hx] at h
      simp only at h
      rcases hr : evS σ r with e | M
      · rw [hr] at h; cases h
      · rw [hr] at h
        simp only at h
        injection h with h
        subst h
        simp only [List.length_cons, Exs.len, evS_len r M hr]
mutual
/-- No expression tells the error 0. -/
theorem evX_nz {σ : Env} : ∀ (x : Ex), x.valid false → evX σ x ≠ .error 0
  | .node n ps, hv => fun h => by
    obtain ⟨h1, h2, h3⟩ := hv
    unfold headX at h1
    rw [Bool.and_eq_true] at h1
    obtain ⟨hf, h7⟩ := h1
    have h7' : n.op ≠ 7 := by simpa using h7
    unfold evX at h
    split at h
    · cases h
    · rename_i g14
      split at h
      · exact namedX_nz h
      · rename_i g8
        split at h
        · rename_i g
          have hr : isRec n = false := decide_eq_false (by omega)
          have hl : (ps.len : Int) = 2 := by
            rw [h2]; unfold partsN
            rw [if_neg (by omega), if_neg (by omega), if_neg (by omega), if_neg (by omega), if_pos (by omega)]
          rw [hr] at h3
          exact evEither_nz ps _ h3 (by omega) _ h
        · rename_i g11
          split at h
          · rename_i g
            have hr : isRec n = false := decide_eq_false (by omega)
            have hl : (ps.len : Int) = 3 := by
              rw [h2]; unfold partsN
              rw [if_neg (by omega), if_neg (by omega), if_neg (by omega), if_pos (by omega)]
            rw [hr] at h3
            exact evIf_nz ps _ h3 (by omega) h
          · rename_i g13
            split at h
            · rename_i g6
              have hr : isRec n = true := decide_eq_true g6
              rw [hr] at h3
              rcases hF : evF σ ps with e | L
              · rw [hF] at h
                simp only at h
                injection h with h
                subst h
                exact evF_nz ps _ h3 hF
              · rw [hF] at h
                exact tellV_nz h
            · rename_i g6
              have hr : isRec n = false := decide_eq_false g6
              rw [hr] at h3
              rcases hS : evS σ ps with e | L
              · rw [hS] at h
                simp only at h
                injection h with h
                subst h
                exact evS_nz ps _ h3 hS
              · rw [hS] at h
                simp only at h
                split at h
                · exact tellV_nz h
                · rename_i g5
                  have hL := evS_len ps L hS
                  have hlen : ps.len = 1 ∨ ps.len = 2 := by
                    unfold partsN at h2
                    rw [if_neg (by omega), if_neg (by omega)] at h2
                    split at h2
                    · omega
                    · split at h2
                      · omega
                      · omega
                  match L, hL with
                  | [], hL => simp only [List.length_nil] at hL; omega
                  | [V], _ => exact oneX_nz h
                  | [A, B], _ => exact twoX_nz h
                  | _ :: _ :: _ :: _, hL => simp only [List.length_cons] at hL; omega
theorem evEither_nz {σ : Env} : ∀ (ps : Exs) (s : ByteArray), ps.valid false s → 2 ≤ ps.len → ∀ (o : Bool), evEither σ o ps ≠ .error 0
  | .nil, _, _, hl, _ => fun _ => by simp only [Exs.len] at hl; omega
  | .cons a r, s, hv, hl, o => fun h => by
    simp only [Exs.len] at hl
    unfold evEither at h
    rcases ha : evX σ a with e | W
    · rw [ha] at h
      simp only at h
      injection h with h
      subst h
      exact evX_nz a hv.2.1 ha
    · rw [ha] at h
      simp only at h
      split at h
      · split at h
        · cases h
        · exact evLast_nz r _ hv.2.2 (by omega) h
      · exact err_ne (by decide) h
theorem evLast_nz {σ : Env} : ∀ (ps : Exs) (s : ByteArray), ps.valid false s → 1 ≤ ps.len → evLast σ ps ≠ .error 0
  | .nil, _, _, hl => fun _ => by simp only [Exs.len] at hl; omega
  | .cons b r, s, hv, hl => fun h => by
    unfold evLast at h
    rcases hb : evX σ b with e | W
    · rw [hb] at h
      simp only at h
      injection h with h
      subst h
      exact evX_nz b hv.2.1 hb
    · rw [hb] at h
      simp only at h
      split at h
      · cases h
      · exact err_ne (by decide) h
theorem evIf_nz {σ : Env} : ∀ (ps : Exs) (s : ByteArray), ps.valid false s → 3 ≤ ps.len → evIf σ ps ≠ .error 0
  | .nil, _, _, hl => fun _ => by simp only [Exs.len] at hl; omega
  | .cons b r, s, hv, hl => fun h => by
    simp only [Exs.len] at hl
    unfold evIf at h
    rcases hb : evX σ b with e | W
    · rw [hb] at h
      simp only at h
      injection h with h
      subst h
      exact evX_nz b hv.2.1 hb
    · rw [hb] at h
      simp only at h
      split at h
      · split at h
        · exact evFst_nz r _ hv.2.2 (by omega) h
        · exact evSnd_nz r _ hv.2.2 (by omega) h
      · exact err_ne (by decide) h
theorem evFst_nz {σ : Env} : ∀ (ps : Exs) (s : ByteArray), ps.valid false s → 1 ≤ ps.len → evFst σ ps ≠ .error 0
  | .nil, _, _, hl => fun _ => by simp only [Exs.len] at hl; omega
  | .cons a r, s, hv, hl => fun h => by
    unfold evFst at h
    exact evX_nz a hv.2.1 h
theorem evSnd_nz {σ : Env} : ∀ (ps : Exs) (s : ByteArray), ps.valid false s → 2 ≤ ps.len → evSnd σ ps ≠ .error 0
  | .nil, _, _, hl => fun _ => by simp only [Exs.len] at hl; omega
  | .cons a r, s, hv, hl => fun h => by
    simp only [Exs.len] at hl
    unfold evSnd at h
    exact evFst_nz r _ hv.2.2 (by omega) h
theorem evS_nz {σ : Env} : ∀ (ps : Exs) (s : ByteArray), ps.valid false s → evS σ ps ≠ .error 0
  | .nil, _, _ => fun h => by unfold evS at h; cases h
  | .cons x r, s, hv => fun h => by
    unfold evS at h
    rcases hx : evX σ x with e | W
    · rw [hx] at h
      simp only at h
      injection h with h
      subst h
      exact evX_nz x hv.2.1 hx
    · rw [hx] at h
      simp only at h
      rcases hr : evS σ r with e | M
      · rw [hr] at h
        simp only at h
        injection h with h
        subst h
        exact evS_nz r _ hv.2.2 hr
      · rw [hr] at h; cases h
theorem evF_nz {σ : Env} : ∀ (ps : Exs) (s : ByteArray), ps.valid true s → evF σ ps ≠ .error 0
  | .nil, _, _ => fun h => by unfold evF at h; cases h
  | .cons x r, s, hv => fun h => by
    unfold evF at h
    rcases hx : evFld σ x with e | W
    · rw [hx] at h
      simp only at h
      injection h with h
      subst h
      exact evFld_nz x hv.2.1 hx
    · rw [hx] at h
      simp only at h
      rcases hr : evF σ r with e | M
      · rw [hr] at h
        simp only at h
        injection h with h
        subst h
        exact evF_nz r _ hv.2.2 hr
      · rw [hr] at h; cases h
theorem evFld_nz {σ : Env} : ∀ (x : Ex), x.valid true → evFld σ x ≠ .error 0
  | .node n ps, hv => fun h => by
    obtain ⟨h1, h2, h3⟩ := hv
    unfold headX at h1
    rw [Bool.and_eq_true] at h1
    have h7 : n.op = 7 := by simpa using h1.2
    have hr : isRec n = false := decide_eq_false (by omega)
    have hl : (ps.len : Int) = 1 := by
      rw [h2]; unfold partsN
      rw [if_neg (by omega), if_neg (by omega), if_pos (by omega)]
    rw [hr] at h3
    unfold evFld at h
    exact evFst_nz ps _ h3 (by omega) h
end
/-- What is wrong before anything is evaluated. -/
noncomputable def upF (σ : Env) (P : List Nd) : Int := or2 (storeF σ.E) (or2 (askF σ.who σ.act σ.what σ.ctx) (exFault P))
/-- The value of nodes. -/
noncomputable def valueX (σ : Env) (P : List Nd) : Res := if upF σ P = 0 then (match readX P with | some x => evX σ x | none => .error 1) else .error (upF σ P)
def valE : Res → Int
  | .ok _ => 0
  | .error e => e
def valV : Res → List Nd
  | .ok V => V
  | .error _ => []
theorem env_ok {σ : Env} (h1 : storeF σ.E = 0) (h2 : askF σ.who σ.act σ.what σ.ctx = 0) : EnvOk σ := by
  unfold askF at h2
  obtain ⟨a1, h2⟩ := or2_zero_iff.1 h2
  obtain ⟨a2, h2⟩ := or2_zero_iff.1 h2
  obtain ⟨a3, h2⟩ := or2_zero_iff.1 h2
  obtain ⟨a4, a5⟩ := or2_zero_iff.1 h2
  refine ⟨h1, a1, a2, a3, a4, ?_⟩
  by_cases g : headOp σ.ctx = 6
  · exact g
  · rw [if_neg g] at a5; cases a5
theorem upF_zero {σ : Env} {P : List Nd} (h : upF σ P = 0) : EnvOk σ ∧ P.length ≤ 200 ∧ ∃ x : Ex, x.valid false ∧ P = x.flat := by
  unfold upF at h
  obtain ⟨h1, h⟩ := or2_zero_iff.1 h
  obtain ⟨h2, h3⟩ := or2_zero_iff.1 h
  exact ⟨env_ok h1 h2, exFault_zero.1 h3⟩
theorem valueX_at {σ : Env} {P : List Nd} {x : Ex} (h : upF σ P = 0) (hx : x.valid false) (e : P = x.flat) : valueX σ P = evX σ x := by
  unfold valueX
  rw [if_pos h, readX_iff.2 ⟨hx, e⟩]
theorem valueX_nz {σ : Env} {P : List Nd} : valueX σ P ≠ .error 0 := fun h => by
  by_cases g : upF σ P = 0
  · obtain ⟨-, -, x, hx, e⟩ := upF_zero g
    rw [valueX_at g hx e] at h
    exact evX_nz x hx h
  · unfold valueX at h
    rw [if_neg g] at h
    injection h with h
    exact g h
/-- An error of 0 is none: there is a value. -/
theorem valE_zero {σ : Env} {P : List Nd} (h : valE (valueX σ P) = 0) : valueX σ P = .ok (valV (valueX σ P)) ∧ valFault (valV (valueX σ P)) = 0 := by
  rcases hv : valueX σ P with e | V
  · rw [hv] at h
    have h' : e = 0 := h
    subst h'
    exact absurd hv valueX_nz
  · refine ⟨rfl, ?_⟩
    by_cases g : upF σ P = 0
    · obtain ⟨ho, -, x, hx, e⟩ := upF_zero g
      rw [valueX_at g hx e] at hv
      exact evX_ok ho x false hx V hv
    · unfold valueX at hv
      rw [if_neg g] at hv
      cases hv
end Go.Proofs.YtcdpoamiejompaaGreatDoor
namespace Go.Proofs.YtcdpoamiejompaaGreatDoor
open Go.RowKit Go.Wk

def opN (o : Int) : Nd := ⟨o, 0, emp, emp⟩
def ex1 (o : Int) (a : Ex) : Ex := .node (opN o) (.cons a .nil)
def ex2 (o : Int) (a b : Ex) : Ex := .node (opN o) (.cons a (.cons b .nil))
def ex3 (o : Int) (a b c : Ex) : Ex := .node (opN o) (.cons a (.cons b (.cons c .nil)))
/-- Not, of what is told. -/
def notR : Res → Res
  | .error e => .error e
  | .ok V => if headOp V = 1 then .ok (truthN (decide ((hdN V).n = 0))) else .error 2
/-- And (false), Or (true). -/
def eitherR (o : Bool) (x y : Res) : Res := match x with
  | .error e => .error e
  | .ok V => if headOp V = 1 then (if decide ((hdN V).n = 1) = o then .ok V else match y with
    | .error e => .error e
    | .ok W => if headOp W = 1 then .ok W else .error 2) else .error 2
theorem ev_not (σ : Env) (a : Ex) : evX σ (ex1 9 a) = notR (evX σ a) := by
  unfold ex1
  rw [evX]
  have e9 : (opN 9).op = 9 := rfl
  rw [e9, if_neg (by decide), if_neg (by decide), if_neg (by decide), if_neg (by decide), if_neg (by decide)]
  simp only [evS]
  rcases h : evX σ a with e | V
  · rfl
  · simp only [applyX, notR]
    rw [if_neg (by decide)]
    unfold oneX
    rw [e9, if_pos rfl]
theorem ev_either (σ : Env) (o : Bool) (a b : Ex) : evX σ (ex2 (if o then 12 else 11) a b) = eitherR o (evX σ a) (evX σ b) := by
  unfold ex2
  rw [evX]
  have e9 : (opN (if o then 12 else 11)).op = if o then 12 else 11 := rfl
  rw [e9, if_neg (by cases o <;> decide), if_neg (by cases o <;> decide), if_pos (by cases o <;> decide)]
  rw [show decide ((if o = true then (12 : Int) else 11) = 12) = o by cases o <;> rfl]
  simp only [evEither, evLast, eitherR]
  rcases evX σ a with e | V
  · rfl
  · simp only
    rcases evX σ b with e | W <;> rfl
theorem ev_if (σ : Env) (a b c : Ex) : evX σ (ex3 13 a b c) = (match evX σ a with
  | .error e => .error e
  | .ok V => if headOp V = 1 then (if (hdN V).n = 1 then evX σ b else evX σ c) else .error 2) := by
  unfold ex3
  rw [evX]
  have e9 : (opN 13).op = 13 := rfl
  rw [e9, if_neg (by decide), if_neg (by decide), if_neg (by decide), if_pos rfl]
  simp only [evIf, evFst, evSnd]
  rcases evX σ a with e | V <;> rfl
theorem ev_eq (σ : Env) (a b : Ex) : evX σ (ex2 14 a b) = (match evX σ a with
  | .error e => .error e
  | .ok V => match evX σ b with
    | .error e => .error e
    | .ok W => .ok (truthN (decide (cmpNds V W = 0)))) := by
  unfold ex2
  rw [evX]
  have e9 : (opN 14).op = 14 := rfl
  rw [e9, if_neg (by decide), if_neg (by decide), if_neg (by decide), if_neg (by decide), if_neg (by decide)]
  simp only [evS]
  rcases evX σ a with e | V
  · rfl
  · simp only
    rcases evX σ b with e | W
    · rfl
    · simp only [applyX]
      rw [if_neg (by decide)]
      unfold twoX
      rw [if_pos e9]
/-- A thing of truth. -/
theorem bool_ways {V : List Nd} (h : valFault V = 0) (h1 : headOp V = 1) : V = truthN true ∨ V = truthN false := by
  obtain ⟨hl, hv⟩ := isV_zero.1 h
  have hpos := hv.pos
  match V, hpos with
  | x :: r, _ =>
    have hx : x.op = 1 := h1
    unfold IsV at hv
    simp only [partEnd, List.getElem?_cons_zero] at hv
    by_cases hs : shapedN x = true
    · rw [if_pos hs, if_neg (by omega), if_neg (by omega), if_neg (by omega)] at hv
      have hr : r = [] := by simpa using hv
      subst hr
      unfold shapedN at hs
      rw [if_pos hx] at hs
      simp only [Bool.and_eq_true, Bool.or_eq_true, decide_eq_true_eq] at hs
      obtain ⟨⟨hn, h2⟩, h3⟩ := hs
      rcases hn with hn | hn
      · right
        rw [show x = ⟨1, 0, emp, emp⟩ from Nd.ext4 hx hn (noB_eq h2) (noB_eq h3)]
        rfl
      · left
        rw [show x = ⟨1, 1, emp, emp⟩ from Nd.ext4 hx hn (noB_eq h2) (noB_eq h3)]
        rfl
    · rw [if_neg hs] at hv; cases hv
/-- What an answer may be: an error, or a value. -/
def ResOk (x : Res) : Prop := ∀ V, x = .ok V → valFault V = 0
theorem truth_head (b : Bool) : headOp (truthN b) = 1 := rfl
theorem truth_n (b : Bool) : (hdN (truthN b)).n = if b then 1 else 0 := rfl
theorem res_ways {x : Res} (h : ResOk x) : (∃ e, x = .error e) ∨ (∃ V, x = .ok V ∧ headOp V ≠ 1) ∨ x = .ok (truthN true) ∨ x = .ok (truthN false) := by
  rcases x with e | V
  · exact .inl ⟨e, rfl⟩
  · by_cases h1 : headOp V = 1
    · rcases bool_ways (h V rfl) h1 with rfl | rfl
      · exact .inr (.inr (.inl rfl))
      · exact .inr (.inr (.inr rfl))
    · exact .inr (.inl ⟨V, rfl, h1⟩)
theorem morgan_law (o : Bool) {x y : Res} (hx : ResOk x) (hy : ResOk y) : notR (eitherR o x y) = eitherR (!o) (notR x) (notR y) := by
  rcases res_ways hx with ⟨e, rfl⟩ | ⟨V, rfl, h1⟩ | rfl | rfl
  · rfl
  · simp [eitherR, notR, h1]
  · rcases res_ways hy with ⟨e, rfl⟩ | ⟨W, rfl, h2⟩ | rfl | rfl <;> cases o <;> simp [eitherR, notR, truth_head, truth_n, *]
  · rcases res_ways hy with ⟨e, rfl⟩ | ⟨W, rfl, h2⟩ | rfl | rfl <;> cases o <;> simp [eitherR, notR, truth_head, truth_n, *]
theorem notnot_law (b : Bool) : notR (notR (.ok (truthN b))) = .ok (truthN b) := by
  cases b <;> simp [notR, truth_head, truth_n]
end Go.Proofs.YtcdpoamiejompaaGreatDoor
