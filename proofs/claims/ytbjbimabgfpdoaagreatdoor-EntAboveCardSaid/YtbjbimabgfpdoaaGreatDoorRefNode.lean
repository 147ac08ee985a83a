/-
  The reference's ValueNode and UidFault.
-/
import Derived.Test.YtbjbimabgfpdoaaGreatDoorAid
import Derived.Test.YtbjbimabgfpdoaaGreatDoorNameRef
namespace Go.Proofs.YtbjbimabgfpdoaaGreatDoor
open Go.RowKit Go.Wk Go.Sort
set_option maxRecDepth 100000

theorem ref_UidFault (s t : ByteArray) (w : World) (hs : s.size ≤ maxLen) (ht : t.size ≤ maxLen) :
    Calls Tryz.prog 31 #[.agg #[.string s, .string t]] w fun e w' => e = .returned (.int .i64 (or2 (nameFault s) (textFault t))) ∧ Below w.heap.size w w' := by
  have N := Lib.hid (fun w => ref_NameFault s w hs)
  have T := Lib.hid (fun w => ref_TextFault t w ht)
  by_cases h1 : nameFault s = 0
  · rw [h1] at N
    have H := Lib.hid (show or2 (nameFault s) (textFault t) = textFault t by rw [h1, or2_zero])
    clear h1
    go_enter Tryz.func31, Tryz.ntmps31
    go_wp2_with fail
    refine (N.out _).mono ?_
    rintro e w1 ⟨rfl, rfl⟩
    go_wp2_with fail
    refine (T.out _).mono ?_
    rintro e w2 ⟨rfl, b2⟩
    go_wp2_with fail
    go_ret
    exact ⟨ret_i64 H.out.symm, below_box2 b2⟩
  · have H := Lib.hid (show or2 (nameFault s) (textFault t) = nameFault s from or2_ne h1 _)
    have h2 : (nameFault s == 0) = false := beq_eq_false_iff_ne.2 h1
    clear h1
    go_enter Tryz.func31, Tryz.ntmps31
    go_wp2_with fail
    refine (N.out _).mono ?_
    rintro e w1 ⟨rfl, rfl⟩
    go_wp2_with fail
    go_ret
    exact ⟨ret_i64 H.out.symm, below_box _ _⟩

theorem refNode_bool (n : Int) (s t : ByteArray) (w : World) :
    Calls Tryz.prog 62 #[.agg #[.int .i64 1, .int .i64 n, .string s, .string t]] w fun e w' => e = .returned (.bool ((decide (n = 0) || decide (n = 1)) && noB s && noB t)) ∧ Below w.heap.size w w' := by
  rcases empty_or s with rfl | ⟨s1, s2, s3⟩ <;> rcases empty_or t with rfl | ⟨t1, t2, t3⟩
  · by_cases h0 : 0 ≤ n
    · by_cases h1 : n ≤ 1
      · go_enter Tryz.func62, Tryz.ntmps62
        go_wp2
        go_ret
        exact ⟨ret_bool (by have : n = 0 ∨ n = 1 := by omega
                            rcases this with rfl | rfl <;> rfl), below_box _ _⟩
      · go_enter Tryz.func62, Tryz.ntmps62
        go_wp2
        go_ret
        exact ⟨ret_bool (by rw [decide_eq_false (show ¬ n = 0 by omega), decide_eq_false (show ¬ n = 1 by omega)]; rfl), below_box _ _⟩
    · go_enter Tryz.func62, Tryz.ntmps62
      go_wp2
      go_ret
      exact ⟨ret_bool (by rw [decide_eq_false (show ¬ n = 0 by omega), decide_eq_false (show ¬ n = 1 by omega)]; rfl), below_box _ _⟩
  all_goals
    go_enter Tryz.func62, Tryz.ntmps62
    go_wp2
    go_ret
    exact ⟨ret_bool (by simp [*]), below_box _ _⟩
theorem refNode_num (n : Int) (s t : ByteArray) (w : World) :
    Calls Tryz.prog 62 #[.agg #[.int .i64 2, .int .i64 n, .string s, .string t]] w fun e w' => e = .returned (.bool (noB s && noB t)) ∧ Below w.heap.size w w' := by
  rcases empty_or s with rfl | ⟨s1, s2, s3⟩ <;> rcases empty_or t with rfl | ⟨t1, t2, t3⟩
  all_goals
    go_enter Tryz.func62, Tryz.ntmps62
    go_wp2
    go_ret
    exact ⟨ret_bool (by simp [*, noB_empty]), below_box _ _⟩
theorem refNode_many (o n : Int) (s t : ByteArray) (w : World) (ho : o = 5 ∨ o = 6) :
    Calls Tryz.prog 62 #[.agg #[.int .i64 o, .int .i64 n, .string s, .string t]] w fun e w' => e = .returned (.bool (decide (0 ≤ n) && noB s && noB t)) ∧ Below w.heap.size w w' := by
  by_cases h0 : 0 ≤ n
  · rcases ho with rfl | rfl <;> rcases empty_or s with rfl | ⟨s1, s2, s3⟩ <;> rcases empty_or t with rfl | ⟨t1, t2, t3⟩
    all_goals
      go_enter Tryz.func62, Tryz.ntmps62
      go_wp2
      go_ret
      exact ⟨ret_bool (by simp [*, noB_empty]), below_box _ _⟩
  · rcases ho with rfl | rfl <;> rcases empty_or s with rfl | ⟨s1, s2, s3⟩ <;> rcases empty_or t with rfl | ⟨t1, t2, t3⟩
    all_goals
      go_enter Tryz.func62, Tryz.ntmps62
      go_wp2
      go_ret
      exact ⟨ret_bool (by first | rfl | (rw [decide_eq_false (show ¬ 0 ≤ n by omega)]; rfl)), below_box _ _⟩
theorem refNode_text (n : Int) (s t : ByteArray) (w : World) (hs : s.size ≤ maxLen) :
    Calls Tryz.prog 62 #[.agg #[.int .i64 3, .int .i64 n, .string s, .string t]] w fun e w' => e = .returned (.bool (decide (n = 0) && noB t && decide (textFault s = 0))) ∧ Below w.heap.size w w' := by
  have P := Lib.hid (fun w => ref_TextFault s w hs)
  by_cases h0 : n = 0
  · subst h0
    rcases empty_or s with rfl | ⟨s1, s2, s3⟩ <;> rcases empty_or t with rfl | ⟨t1, t2, t3⟩
    · have e : textFault ⟨#[]⟩ = 0 := by decide
      rw [e] at P
      go_enter Tryz.func62, Tryz.ntmps62
      go_wp2_with fail
      refine (P.out _).mono ?_
      rintro e w1 ⟨rfl, hb⟩
      go_wp2
      go_ret
      exact ⟨ret_bool (by simp [e, noB_empty]), below_box2 hb⟩
    · go_enter Tryz.func62, Tryz.ntmps62
      go_wp2
      go_ret
      exact ⟨ret_bool (by simp [t3]), below_box _ _⟩
    · by_cases h1 : textFault s = 0
      · rw [h1] at P
        go_enter Tryz.func62, Tryz.ntmps62
        go_wp2_with fail
        refine (P.out _).mono ?_
        rintro e w1 ⟨rfl, hb⟩
        go_wp2
        go_ret
        exact ⟨ret_bool (by simp [h1, noB_empty]), below_box2 hb⟩
      · have h2 : (textFault s == 0) = false := beq_eq_false_iff_ne.2 h1
        go_enter Tryz.func62, Tryz.ntmps62
        go_wp2_with fail
        refine (P.out _).mono ?_
        rintro e w1 ⟨rfl, hb⟩
        go_wp2
        go_ret
        exact ⟨ret_bool (by simp [h1]), below_box2 hb⟩
    · go_enter Tryz.func62, Tryz.ntmps62
      go_wp2
      go_ret
      exact ⟨ret_bool (by simp [t3]), below_box _ _⟩
  · have e0 : (n != 0) = true := by rw [bne_iff_ne]; exact h0
    rcases empty_or s with rfl | ⟨s1, s2, s3⟩ <;> rcases empty_or t with rfl | ⟨t1, t2, t3⟩
    all_goals
      go_enter Tryz.func62, Tryz.ntmps62
      go_wp2
      go_ret
      exact ⟨ret_bool (by simp [h0]), below_box _ _⟩
theorem refNode_ent (n : Int) (s t : ByteArray) (w : World) (hs : s.size ≤ maxLen) (ht : t.size ≤ maxLen) :
    Calls Tryz.prog 62 #[.agg #[.int .i64 4, .int .i64 n, .string s, .string t]] w fun e w' => e = .returned (.bool (decide (n = 0) && decide (nameFault s = 0) && decide (textFault t = 0))) ∧ Below w.heap.size w w' := by
  have P := Lib.hid (fun w => ref_UidFault s t w hs ht)
  have H := Lib.hid (show (or2 (nameFault s) (textFault t) == 0) = (decide (nameFault s = 0) && decide (textFault t = 0)) by
    by_cases h : nameFault s = 0
    · rw [h, or2_zero]; simp; rfl
    · rw [or2_ne h, beq_eq_false_iff_ne.2 h]; simp [h])
  by_cases h0 : n = 0
  · subst h0
    rcases empty_or s with rfl | ⟨s1, s2, s3⟩ <;> rcases empty_or t with rfl | ⟨t1, t2, t3⟩
    all_goals
      go_enter Tryz.func62, Tryz.ntmps62
      go_wp2_with fail
      refine (P.out _).mono ?_
      rintro e w1 ⟨rfl, hb⟩
      go_wp2
      go_ret
      exact ⟨ret_bool (by rw [H.out]; simp), below_box2 hb⟩
  · have e0 : (n != 0) = true := by rw [bne_iff_ne]; exact h0
    rcases empty_or s with rfl | ⟨s1, s2, s3⟩ <;> rcases empty_or t with rfl | ⟨t1, t2, t3⟩
    all_goals
      go_enter Tryz.func62, Tryz.ntmps62
      go_wp2
      go_ret
      exact ⟨ret_bool (by simp [h0]), below_box _ _⟩
theorem refNode_field (n : Int) (s t : ByteArray) (w : World) (hs : s.size ≤ maxLen) :
    Calls Tryz.prog 62 #[.agg #[.int .i64 7, .int .i64 n, .string s, .string t]] w fun e w' => e = .returned (.bool (decide (n = 0) && noB t && decide (nameFault s = 0))) ∧ Below w.heap.size w w' := by
  have P := Lib.hid (fun w => ref_NameFault s w hs)
  have H : (nameFault s == 0) = decide (nameFault s = 0) := rfl
  by_cases h0 : n = 0
  · subst h0
    rcases empty_or s with rfl | ⟨s1, s2, s3⟩ <;> rcases empty_or t with rfl | ⟨t1, t2, t3⟩
    · have e : nameFault ⟨#[]⟩ = 1 := by decide
      rw [e] at P
      go_enter Tryz.func62, Tryz.ntmps62
      go_wp2_with fail
      refine (P.out _).mono ?_
      rintro e w1 ⟨rfl, rfl⟩
      go_wp2
      go_ret
      exact ⟨ret_bool (by simp [e]), below_box _ _⟩
    · go_enter Tryz.func62, Tryz.ntmps62
      go_wp2
      go_ret
      exact ⟨ret_bool (by simp [t3]), below_box _ _⟩
    · by_cases h1 : nameFault s = 0
      · rw [h1] at P
        go_enter Tryz.func62, Tryz.ntmps62
        go_wp2_with fail
        refine (P.out _).mono ?_
        rintro e w1 ⟨rfl, rfl⟩
        go_wp2
        go_ret
        exact ⟨ret_bool (by simp [h1, noB_empty]), below_box _ _⟩
      · have h2 : (nameFault s == 0) = false := beq_eq_false_iff_ne.2 h1
        go_enter Tryz.func62, Tryz.ntmps62
        go_wp2_with fail
        refine (P.out _).mono ?_
        rintro e w1 ⟨rfl, rfl⟩
        go_wp2
        go_ret
        exact ⟨ret_bool (by simp [h1]), below_box _ _⟩
    · go_enter Tryz.func62, Tryz.ntmps62
      go_wp2
      go_ret
      exact ⟨ret_bool (by simp [t3]), below_box _ _⟩
  · have e0 : (n != 0) = true := by rw [bne_iff_ne]; exact h0
    rcases empty_or s with rfl | ⟨s1, s2, s3⟩ <;> rcases empty_or t with rfl | ⟨t1, t2, t3⟩
    all_goals
      go_enter Tryz.func62, Tryz.ntmps62
      go_wp2
      go_ret
      exact ⟨ret_bool (by simp [h0]), below_box _ _⟩
theorem refNode_other (o n : Int) (s t : ByteArray) (w : World) (h1 : (o == 1) = false) (h2 : (o == 2) = false) (h3 : (o == 3) = false) (h4 : (o == 4) = false) (h5 : (o == 5) = false) (h6 : (o == 6) = false) (h7 : (o == 7) = false) :
    Calls Tryz.prog 62 #[.agg #[.int .i64 o, .int .i64 n, .string s, .string t]] w fun e w' => e = .returned (.bool false) ∧ Below w.heap.size w w' := by
  by_cases h0 : n = 0
  · subst h0
    rcases empty_or s with rfl | ⟨s1, s2, s3⟩ <;> rcases empty_or t with rfl | ⟨t1, t2, t3⟩
    all_goals
      go_enter Tryz.func62, Tryz.ntmps62
      go_wp2
      go_ret
      exact ⟨rfl, below_box _ _⟩
  · have e0 : (n != 0) = true := by rw [bne_iff_ne]; exact h0
    rcases empty_or s with rfl | ⟨s1, s2, s3⟩ <;> rcases empty_or t with rfl | ⟨t1, t2, t3⟩
    all_goals
      go_enter Tryz.func62, Tryz.ntmps62
      go_wp2
      go_ret
      exact ⟨rfl, below_box _ _⟩
theorem ref_ValueNode (x : Nd) (w : World) (hs : x.s.size ≤ maxLen) (ht : x.t.size ≤ maxLen) :
    Calls Tryz.prog 62 #[ndV x] w fun e w' => e = .returned (.bool (shapedN x)) ∧ Below w.heap.size w w' := by
  obtain ⟨o, n, s, t⟩ := x
  unfold ndV shapedN
  simp only at hs ht ⊢
  by_cases h1 : o = 1
  · subst h1; rw [if_pos rfl]; exact refNode_bool n s t w
  rw [if_neg h1]
  by_cases h2 : o = 2
  · subst h2; rw [if_pos rfl]; exact refNode_num n s t w
  rw [if_neg h2]
  by_cases h3 : o = 3
  · subst h3; rw [if_pos rfl]; exact refNode_text n s t w hs
  rw [if_neg h3]
  by_cases h4 : o = 4
  · subst h4; rw [if_pos rfl]; exact refNode_ent n s t w hs ht
  rw [if_neg h4]
  by_cases h5 : o = 5 ∨ o = 6
  · rw [if_pos h5]; exact refNode_many o n s t w h5
  rw [if_neg h5]
  by_cases h7 : o = 7
  · subst h7; rw [if_pos rfl]; exact refNode_field n s t w hs
  rw [if_neg h7]
  exact refNode_other o n s t w (beq_eq_false_iff_ne.2 h1) (beq_eq_false_iff_ne.2 h2) (beq_eq_false_iff_ne.2 h3) (beq_eq_false_iff_ne.2 h4) (beq_eq_false_iff_ne.2 fun q => h5 (.inl q)) (beq_eq_false_iff_ne.2 fun q => h5 (.inr q)) (beq_eq_false_iff_ne.2 h7)
end Go.Proofs.YtbjbimabgfpdoaaGreatDoor
