/-
  val.shaped: has a node just the fields that a value's may have?
-/
import Derived.Test.YtocchkmhnneiiaaNode
import Derived.Test.YtocchkmhnneiiaaName
namespace Go.Proofs.Ytocchkmhnneiiaa
open Go.RowKit Go.Wk
set_option maxRecDepth 100000

theorem empty_or (s : ByteArray) : s = ⟨#[]⟩ ∨ (s.toList.isEmpty = false ∧ (¬ s.toList = []) ∧ noB s = false) := by
  by_cases h : 0 < s.size
  · exact .inr ⟨by rw [List.isEmpty_eq_false_iff]; exact fun q => (not_empty h).1 q, fun q => (not_empty h).1 q, by unfold noB; rw [decide_eq_false_iff_not]; omega⟩
  · exact .inl (bytes_ext (List.eq_nil_of_length_eq_zero (by rw [Array.length_toList]; exact (by omega : s.size = 0))))
theorem noB_empty : noB ⟨#[]⟩ = true := rfl
theorem below_box2 {w w1 : World} {o : Obj} (h : Below (w.alloc o).heap.size (w.alloc o) w1) : Below w.heap.size w w1 := (below_box w o).trans (h.mono (by simp))

theorem shaped_bool (n : Int) (s t : ByteArray) (w : World) :
    Calls Try.prog 40 #[.agg #[.int .i64 1, .int .i64 n, .string s, .string t]] w fun e w' => e = .returned (.bool ((decide (n = 0) || decide (n = 1)) && noB s && noB t)) ∧ Below w.heap.size w w' := by
  by_cases h0 : n = 0
  · subst h0
    rcases empty_or s with rfl | ⟨s1, s2, s3⟩ <;> rcases empty_or t with rfl | ⟨t1, t2, t3⟩
    all_goals
      go_enter Try.func40, Try.ntmps40
      go_wp2
      go_ret
      exact ⟨ret_bool (by simp [*, noB_empty]), below_box _ _⟩
  · by_cases h1 : n = 1
    · subst h1
      clear h0
      rcases empty_or s with rfl | ⟨s1, s2, s3⟩ <;> rcases empty_or t with rfl | ⟨t1, t2, t3⟩
      all_goals
        go_enter Try.func40, Try.ntmps40
        go_wp2
        go_ret
        exact ⟨ret_bool (by simp [*, noB_empty]), below_box _ _⟩
    · have e0 : (n == 0) = false := beq_eq_false_iff_ne.2 h0
      have e1 : (n == 1) = false := beq_eq_false_iff_ne.2 h1
      go_enter Try.func40, Try.ntmps40
      go_wp2
      go_ret
      exact ⟨ret_bool (by simp [h0, h1]), below_box _ _⟩
theorem shaped_num (n : Int) (s t : ByteArray) (w : World) :
    Calls Try.prog 40 #[.agg #[.int .i64 2, .int .i64 n, .string s, .string t]] w fun e w' => e = .returned (.bool (noB s && noB t)) ∧ Below w.heap.size w w' := by
  rcases empty_or s with rfl | ⟨s1, s2, s3⟩ <;> rcases empty_or t with rfl | ⟨t1, t2, t3⟩
  all_goals
    go_enter Try.func40, Try.ntmps40
    go_wp2
    go_ret
    exact ⟨ret_bool (by simp [*, noB_empty]), below_box _ _⟩

theorem keep_alloc {w w1 : World} {o : Obj} (hb : Below (w.alloc o).heap.size (w.alloc o) w1) (k : Nat) (v : Value) (h : (w.alloc o).cell? ⟨w.heap.size, k, none⟩ = some v) : w1.cell? ⟨w.heap.size, k, none⟩ = some v :=
  (hb.cell (by simp)).trans h

theorem shaped_text (n : Int) (s t : ByteArray) (w : World) (hs : s.size ≤ maxLen) :
    Calls Try.prog 40 #[.agg #[.int .i64 3, .int .i64 n, .string s, .string t]] w fun e w' => e = .returned (.bool (decide (n = 0) && noB t && decide (textFault s = 0))) ∧ Below w.heap.size w w' := by
  have P := Lib.hid (fun w => name_Plain s w hs)
  by_cases h0 : n = 0
  · subst h0
    rcases empty_or t with rfl | ⟨t1, t2, t3⟩
    · by_cases h1 : textFault s = 0
      · rw [h1, errV_zero] at P
        go_enter Try.func40, Try.ntmps40
        go_wp2_with fail
        refine (P.out _).mono ?_
        rintro e w1 ⟨rfl, hb⟩
        go_wp2
        go_ret
        exact ⟨ret_bool (by simp [h1, noB_empty]), below_box2 hb⟩
      · rw [errV_ne h1] at P
        go_enter Try.func40, Try.ntmps40
        go_wp2_with fail
        refine (P.out _).mono ?_
        rintro e w1 ⟨rfl, hb⟩
        go_wp2
        go_ret
        exact ⟨ret_bool (by simp [h1]), below_box2 hb⟩
    · go_enter Try.func40, Try.ntmps40
      go_wp2
      go_ret
      exact ⟨ret_bool (by simp [t3]), below_box _ _⟩
  · have e0 : (n == 0) = false := beq_eq_false_iff_ne.2 h0
    go_enter Try.func40, Try.ntmps40
    go_wp2
    go_ret
    exact ⟨ret_bool (by simp [h0]), below_box _ _⟩
theorem shaped_field (n : Int) (s t : ByteArray) (w : World) (hs : s.size ≤ maxLen) :
    Calls Try.prog 40 #[.agg #[.int .i64 7, .int .i64 n, .string s, .string t]] w fun e w' => e = .returned (.bool (decide (n = 0) && noB t && decide (nameFault s = 0))) ∧ Below w.heap.size w w' := by
  have P := Lib.hid (fun w => name_Check s w hs)
  by_cases h0 : n = 0
  · subst h0
    rcases empty_or t with rfl | ⟨t1, t2, t3⟩
    · by_cases h1 : nameFault s = 0
      · rw [h1, errV_zero] at P
        go_enter Try.func40, Try.ntmps40
        go_wp2_with fail
        refine (P.out _).mono ?_
        rintro e w1 ⟨rfl, hb⟩
        go_wp2
        go_ret
        exact ⟨ret_bool (by simp [h1, noB_empty]), below_box2 hb⟩
      · rw [errV_ne h1] at P
        go_enter Try.func40, Try.ntmps40
        go_wp2_with fail
        refine (P.out _).mono ?_
        rintro e w1 ⟨rfl, hb⟩
        go_wp2
        go_ret
        exact ⟨ret_bool (by simp [h1]), below_box2 hb⟩
    · go_enter Try.func40, Try.ntmps40
      go_wp2
      go_ret
      exact ⟨ret_bool (by simp [t3]), below_box _ _⟩
  · have e0 : (n == 0) = false := beq_eq_false_iff_ne.2 h0
    go_enter Try.func40, Try.ntmps40
    go_wp2
    go_ret
    exact ⟨ret_bool (by simp [h0]), below_box _ _⟩
theorem shaped_ent (n : Int) (s t : ByteArray) (w : World) (hs : s.size ≤ maxLen) (ht : t.size ≤ maxLen) :
    Calls Try.prog 40 #[.agg #[.int .i64 4, .int .i64 n, .string s, .string t]] w fun e w' => e = .returned (.bool (decide (n = 0) && decide (nameFault s = 0) && decide (textFault t = 0))) ∧ Below w.heap.size w w' := by
  have P := Lib.hid (fun w => name_Check s w hs)
  have T := Lib.hid (fun w => name_Plain t w ht)
  by_cases h0 : n = 0
  · subst h0
    by_cases h1 : nameFault s = 0
    · rw [h1, errV_zero] at P
      by_cases h2 : textFault t = 0
      · rw [h2, errV_zero] at T
        go_enter Try.func40, Try.ntmps40
        go_wp2_with fail
        refine (P.out _).mono ?_
        rintro e w1 ⟨rfl, hb⟩
        have c3 := keep_alloc hb 3 (.string t) (by simp)
        have HB := Lib.hid (below_box2 hb)
        clear hb
        go_wp2_with fail
        refine (T.out _).mono ?_
        rintro e w2 ⟨rfl, hb2⟩
        go_wp2
        go_ret
        exact ⟨ret_bool (by simp [h1, h2]), HB.out.trans (hb2.mono HB.out.size)⟩
      · rw [errV_ne h2] at T
        go_enter Try.func40, Try.ntmps40
        go_wp2_with fail
        refine (P.out _).mono ?_
        rintro e w1 ⟨rfl, hb⟩
        have c3 := keep_alloc hb 3 (.string t) (by simp)
        have HB := Lib.hid (below_box2 hb)
        clear hb
        go_wp2_with fail
        refine (T.out _).mono ?_
        rintro e w2 ⟨rfl, hb2⟩
        go_wp2
        go_ret
        exact ⟨ret_bool (by simp [h1, h2]), HB.out.trans (hb2.mono HB.out.size)⟩
    · rw [errV_ne h1] at P
      go_enter Try.func40, Try.ntmps40
      go_wp2_with fail
      refine (P.out _).mono ?_
      rintro e w1 ⟨rfl, hb⟩
      go_wp2
      go_ret
      exact ⟨ret_bool (by simp [h1]), below_box2 hb⟩
  · have e0 : (n == 0) = false := beq_eq_false_iff_ne.2 h0
    go_enter Try.func40, Try.ntmps40
    go_wp2
    go_ret
    exact ⟨ret_bool (by simp [h0]), below_box _ _⟩
theorem shaped_many (o n : Int) (s t : ByteArray) (w : World) (ho : o = 5 ∨ o = 6) :
    Calls Try.prog 40 #[.agg #[.int .i64 o, .int .i64 n, .string s, .string t]] w fun e w' => e = .returned (.bool (decide (0 ≤ n) && noB s && noB t)) ∧ Below w.heap.size w w' := by
  by_cases h0 : 0 ≤ n
  · rcases ho with rfl | rfl <;> rcases empty_or s with rfl | ⟨s1, s2, s3⟩ <;> rcases empty_or t with rfl | ⟨t1, t2, t3⟩
    all_goals
      go_enter Try.func40, Try.ntmps40
      go_wp2
      go_ret
      exact ⟨ret_bool (by simp [*, noB_empty]), below_box _ _⟩
  · rcases ho with rfl | rfl
    all_goals
      go_enter Try.func40, Try.ntmps40
      go_wp2
      go_ret
      exact ⟨ret_bool (by rw [decide_eq_false (by omega)]; rfl), below_box _ _⟩
theorem shaped_other (o n : Int) (s t : ByteArray) (w : World) (h1 : (o == 1) = false) (h2 : (o == 2) = false) (h3 : (o == 3) = false) (h4 : (o == 4) = false) (h5 : (o == 5) = false) (h6 : (o == 6) = false) (h7 : (o == 7) = false) :
    Calls Try.prog 40 #[.agg #[.int .i64 o, .int .i64 n, .string s, .string t]] w fun e w' => e = .returned (.bool false) ∧ Below w.heap.size w w' := by
  go_enter Try.func40, Try.ntmps40
  go_wp2
  go_ret
  exact ⟨rfl, below_box _ _⟩
theorem val_shaped (x : Nd) (w : World) (hs : x.s.size ≤ maxLen) (ht : x.t.size ≤ maxLen) :
    Calls Try.prog 40 #[ndV x] w fun e w' => e = .returned (.bool (shapedN x)) ∧ Below w.heap.size w w' := by
  obtain ⟨o, n, s, t⟩ := x
  unfold ndV shapedN
  simp only at hs ht ⊢
  by_cases h1 : o = 1
  · subst h1; rw [if_pos rfl]; exact shaped_bool n s t w
  rw [if_neg h1]
  by_cases h2 : o = 2
  · subst h2; rw [if_pos rfl]; exact shaped_num n s t w
  rw [if_neg h2]
  by_cases h3 : o = 3
  · subst h3; rw [if_pos rfl]; exact shaped_text n s t w hs
  rw [if_neg h3]
  by_cases h4 : o = 4
  · subst h4; rw [if_pos rfl]; exact shaped_ent n s t w hs ht
  rw [if_neg h4]
  by_cases h5 : o = 5 ∨ o = 6
  · rw [if_pos h5]; exact shaped_many o n s t w h5
  rw [if_neg h5]
  by_cases h7 : o = 7
  · subst h7; rw [if_pos rfl]; exact shaped_field n s t w hs
  rw [if_neg h7]
  exact shaped_other o n s t w (beq_eq_false_iff_ne.2 h1) (beq_eq_false_iff_ne.2 h2) (beq_eq_false_iff_ne.2 h3) (beq_eq_false_iff_ne.2 h4) (beq_eq_false_iff_ne.2 fun q => h5 (.inl q)) (beq_eq_false_iff_ne.2 fun q => h5 (.inr q)) (beq_eq_false_iff_ne.2 h7)
end Go.Proofs.Ytocchkmhnneiiaa
