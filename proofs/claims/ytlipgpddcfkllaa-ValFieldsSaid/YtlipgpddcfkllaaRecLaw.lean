/-
  Plain: the record of names and values: the fields in the names' order. No program in sight.
-/
import Derived.Test.YtlipgpddcfkllaaSetLaw
namespace Go.Wk

abbrev Fld := ByteArray × List Nd
def insR (x : Fld) : List Fld → List Fld
  | [] => [x]
  | y :: r => if cmpB x.1 y.1 < 0 then x :: y :: r else y :: insR x r
/-- In the names' order. -/
def sortR : List Fld → List Fld
  | [] => []
  | x :: r => insR x (sortR r)
theorem perm_insR (x : Fld) (l : List Fld) : (insR x l).Perm (x :: l) := by
  induction l with
  | nil => exact List.Perm.refl _
  | cons y r ih =>
    simp only [insR]
    split
    · exact List.Perm.refl _
    · exact (List.Perm.cons y ih).trans (List.Perm.swap x y r)
theorem perm_sortR (l : List Fld) : (sortR l).Perm l := by
  induction l with
  | nil => exact List.Perm.refl _
  | cons x r ih => exact (perm_insR x _).trans (List.Perm.cons x ih)
abbrev RowR (l : List Fld) : Prop := l.Pairwise fun a b => cmpB a.1 b.1 < 0
theorem row_insR {x : Fld} {l : List Fld} (h : RowR l) (hx : ∀ y ∈ l, y.1 ≠ x.1) : RowR (insR x l) := by
  induction l with
  | nil => simp [insR, RowR]
  | cons y r ih =>
    obtain ⟨h1, h2⟩ := List.pairwise_cons.1 h
    simp only [insR]
    split
    · rename_i hlt
      refine List.pairwise_cons.2 ⟨fun z hz => ?_, h⟩
      rcases List.mem_cons.1 hz with rfl | hz
      · exact hlt
      · have := h1 z hz
        exact cmpB_cmp.lt_le hlt (by omega)
    · rename_i hn
      refine List.pairwise_cons.2 ⟨fun z hz => ?_, ih h2 fun z hz => hx z (by simp [hz])⟩
      rcases List.mem_cons.1 ((perm_insR x r).mem_iff.1 hz) with rfl | hz
      · have a := cmpB_cmp.anti z.1 y.1
        have : cmpB z.1 y.1 ≠ 0 := fun e => hx y (by simp) ((cmpB_cmp.zero _ _).1 e).symm
        omega
      · exact h1 z hz
theorem row_sortR {l : List Fld} (h : (l.map (·.1)).Nodup) : RowR (sortR l) := by
  induction l with
  | nil => exact List.Pairwise.nil
  | cons x r ih =>
    simp only [List.map_cons, List.nodup_cons] at h
    refine row_insR (ih h.2) fun y hy e => h.1 ?_
    rw [← e]
    exact List.mem_map_of_mem ((perm_sortR r).mem_iff.1 hy)
theorem row_unique : ∀ {l m : List Fld}, RowR l → RowR m → (∀ x, x ∈ l ↔ x ∈ m) → l = m := by
  intro l
  induction l with
  | nil =>
    intro m _ _ h
    rcases m with _ | ⟨b, m⟩
    · rfl
    · have := (h b).2 (by simp); cases this
  | cons a l ih =>
    intro m hl hm h
    rcases m with _ | ⟨b, m⟩
    · have := (h a).1 (by simp); cases this
    obtain ⟨l1, l2⟩ := List.pairwise_cons.1 hl
    obtain ⟨m1, m2⟩ := List.pairwise_cons.1 hm
    have e : a = b := by
      rcases List.mem_cons.1 ((h a).1 (by simp)) with e | ha
      · exact e
      rcases List.mem_cons.1 ((h b).2 (by simp)) with e | hb
      · exact e.symm
      have q1 := m1 a ha
      have q2 := l1 b hb
      have := cmpB_cmp.anti a.1 b.1
      omega
    subst e
    rw [ih l2 m2 fun x => ?_]
    have hx := h x
    simp only [List.mem_cons] at hx
    constructor
    · intro k
      rcases hx.1 (.inr k) with e | k'
      · subst e
        have := l1 x k
        rw [cmpB_cmp.self] at this
        omega
      · exact k'
    · intro k
      rcases hx.2 (.inr k) with e | k'
      · subst e
        have := m1 x k
        rw [cmpB_cmp.self] at this
        omega
      · exact k'
/-- How many names are ahead of one. -/
def aheadR (Z : List Fld) (s : ByteArray) : Nat := (Z.filter fun y => decide (cmpB y.1 s < 0)).length
theorem aheadR_perm {Z Y : List Fld} (h : Z.Perm Y) (s : ByteArray) : aheadR Z s = aheadR Y s := (h.filter _).length_eq
theorem aheadR_step (Z : List Fld) (s : ByteArray) (k : Nat) (h : k < Z.length) : aheadR (Z.take (k + 1)) s = aheadR (Z.take k) s + if cmpB Z[k].1 s < 0 then 1 else 0 := by
  unfold aheadR
  rw [← List.take_append_getElem h, List.filter_append, List.length_append]
  by_cases hc : cmpB Z[k].1 s < 0
  · simp [hc]
  · simp [hc]
theorem aheadR_le (Z : List Fld) (s : ByteArray) : aheadR Z s ≤ Z.length := List.length_filter_le _ _
theorem aheadR_cut {S : List Fld} {s : ByteArray} {k : Nat} (hk : k ≤ S.length) (h1 : ∀ y ∈ S.take k, cmpB y.1 s < 0) (h2 : ∀ y ∈ S.drop k, ¬ cmpB y.1 s < 0) : aheadR S s = k := by
  unfold aheadR
  conv => lhs; rw [← List.take_append_drop k S]
  rw [List.filter_append, List.filter_eq_self.2 (fun y hy => decide_eq_true (h1 y hy)), List.filter_eq_nil_iff.2 (fun y hy => by rw [decide_eq_true_eq]; exact h2 y hy), List.append_nil, List.length_take]
  omega
theorem aheadR_row {S : List Fld} (h : RowR S) (k : Nat) (hk : k < S.length) : aheadR S S[k].1 = k := by
  refine aheadR_cut (by omega) ?_ ?_
  · intro y hy
    obtain ⟨j, hj, rfl⟩ := List.getElem_of_mem hy
    have hj' : j < k := by simp at hj; omega
    rw [List.getElem_take]
    exact List.pairwise_iff_getElem.1 h j k (by omega) hk hj'
  · intro y hy
    obtain ⟨j, hj, rfl⟩ := List.getElem_of_mem hy
    rw [List.getElem_drop]
    rcases Nat.eq_zero_or_pos j with rfl | h0
    · simp only [Nat.add_zero]; rw [cmpB_cmp.self]; omega
    · have hj' : k + j < S.length := by simp at hj; omega
      have := List.pairwise_iff_getElem.1 h k (k + j) hk hj' (by omega)
      have := cmpB_cmp.anti S[k].1 S[k + j].1
      omega
/-- Just one has so many names ahead of it. -/
theorem pickR {Z : List Fld} (h : (Z.map (·.1)).Nodup) (r : Nat) (hr : r < (sortR Z).length) : (Z.filter fun x => decide (aheadR Z x.1 = r)) = [(sortR Z)[r]] := by
  have hp := perm_sortR Z
  have hrow := row_sortR h
  have e : ((sortR Z).filter fun x => decide (aheadR Z x.1 = r)) = [(sortR Z)[r]] := by
    have hk : ∀ k, (hk : k < (sortR Z).length) → aheadR Z (sortR Z)[k].1 = k := fun k hk => by
      rw [← aheadR_perm hp]; exact aheadR_row hrow k hk
    conv => lhs; rw [← List.take_append_drop r (sortR Z)]
    rw [List.filter_append, List.filter_eq_nil_iff.2, List.nil_append, List.drop_eq_getElem_cons hr, List.filter_cons_of_pos (by rw [hk r hr]; simp), List.filter_eq_nil_iff.2]
    · intro y hy
      obtain ⟨j, hj, rfl⟩ := List.getElem_of_mem hy
      have hj' : r + 1 + j < (sortR Z).length := by simp at hj; omega
      rw [List.getElem_drop, hk _ hj']
      simp; omega
    · intro y hy
      obtain ⟨j, hj, rfl⟩ := List.getElem_of_mem hy
      have hj' : j < r := by simp at hj; omega
      rw [List.getElem_take, hk _ (by omega)]
      simp; omega
  have := (hp.filter fun x => decide (aheadR Z x.1 = r)).symm
  rw [e] at this
  exact List.perm_singleton.1 this
theorem flatR_append (a b : List Fld) : flatR (a ++ b) = flatR a ++ flatR b := by
  induction a with
  | nil => rfl
  | cons x r ih => simp only [List.cons_append, flatR, ih, List.append_assoc]
theorem flatR_perm {a b : List Fld} (h : a.Perm b) : (flatR a).length = (flatR b).length := by
  induction h with
  | nil => rfl
  | cons x _ ih => simp only [flatR, List.length_cons, List.length_append, ih]
  | swap x y l => simp only [flatR, List.length_cons, List.length_append]; omega
  | trans _ _ h1 h2 => exact h1.trans h2
theorem flatR_one (x : Fld) : flatR [x] = fieldN x.1 :: x.2 := by simp [flatR]
theorem flatR_step (Z : List Fld) (k : Nat) (h : k < Z.length) : flatR (Z.take (k + 1)) = flatR (Z.take k) ++ fieldN Z[k].1 :: Z[k].2 := by
  rw [← List.take_append_getElem h, flatR_append, flatR_one]
theorem flatR_take_le (Z : List Fld) (k : Nat) : (flatR (Z.take k)).length ≤ (flatR Z).length := by
  conv => rhs; rw [← List.take_append_drop k Z]
  rw [flatR_append, List.length_append]; omega
def hadB (N : List ByteArray) (s : ByteArray) : Bool := N.any fun y => decide (cmpB y s = 0)
theorem hadB_iff {N : List ByteArray} {s : ByteArray} : hadB N s = true ↔ s ∈ N := by
  unfold hadB
  rw [List.any_eq_true]
  constructor
  · rintro ⟨y, h1, h2⟩
    have e := (cmpB_cmp.zero y s).1 (by simpa using h2)
    subst e; exact h1
  · intro h; exact ⟨s, h, by simp [cmpB_cmp.self]⟩
/-- The first thing wrong with names and values. -/
def recChk : List ByteArray → List Fld → Int
  | _, [] => 0
  | N, x :: r => or2 (nameFault x.1) (or2 (if hadB N x.1 then 6 else 0) (or2 (valFault x.2) (recChk (N ++ [x.1]) r)))
theorem recChk_zero {N : List ByteArray} {Z : List Fld} : recChk N Z = 0 ↔ (∀ x ∈ Z, nameFault x.1 = 0 ∧ valFault x.2 = 0) ∧ (Z.map (·.1)).Nodup ∧ ∀ x ∈ Z, x.1 ∉ N := by
  induction Z generalizing N with
  | nil => simp [recChk]
  | cons x r ih =>
    simp only [recChk, or2]
    by_cases h1 : nameFault x.1 = 0
    · rw [if_pos h1]
      by_cases h2 : x.1 ∈ N
      · rw [if_pos (hadB_iff.2 h2), if_neg (by omega)]
        exact ⟨fun q => by omega, fun q => absurd h2 (q.2.2 x (by simp))⟩
      · rw [if_neg (fun q => h2 (hadB_iff.1 q)), if_pos rfl]
        by_cases h3 : valFault x.2 = 0
        · rw [if_pos h3, ih]
          simp only [List.mem_cons, forall_eq_or_imp, List.map_cons, List.nodup_cons, List.mem_append, List.not_mem_nil, or_false, not_or]
          constructor
          · rintro ⟨a, b, c⟩
            refine ⟨⟨⟨h1, h3⟩, a⟩, ⟨fun q => ?_, b⟩, h2, fun y hy => (c y hy).1⟩
            obtain ⟨y, hy, e⟩ := List.mem_map.1 q
            exact (c y hy).2 e
          · rintro ⟨⟨-, a⟩, ⟨b, c⟩, -, d⟩
            exact ⟨a, c, fun y hy => ⟨d y hy, fun e => b (by rw [← e]; exact List.mem_map_of_mem hy)⟩⟩
        · rw [if_neg h3]
          exact ⟨fun q => absurd q h3, fun q => absurd (q.1 x (by simp)).2 h3⟩
    · rw [if_neg h1]
      exact ⟨fun q => absurd q h1, fun q => absurd (q.1 x (by simp)).1 h1⟩
def recE (N : List ByteArray) (L : List (List Nd)) : Int :=
  if N.length = L.length then or2 (recChk [] (N.zip L)) (if 200 < (flatR (N.zip L)).length + 1 then 4 else 0) else 1
def recV (N : List ByteArray) (L : List (List Nd)) : List Nd := if recE N L = 0 then recHead N.length :: flatR (sortR (N.zip L)) else []
theorem recE_zero {N : List ByteArray} {L : List (List Nd)} : recE N L = 0 ↔ N.length = L.length ∧ recChk [] (N.zip L) = 0 ∧ (flatR (N.zip L)).length + 1 ≤ 200 := by
  unfold recE or2
  by_cases h0 : N.length = L.length
  · rw [if_pos h0]
    by_cases h : recChk [] (N.zip L) = 0
    · rw [if_pos h]
      by_cases h2 : 200 < (flatR (N.zip L)).length + 1
      · rw [if_pos h2]; exact ⟨fun q => by omega, fun q => by omega⟩
      · rw [if_neg h2]; exact ⟨fun _ => ⟨h0, h, by omega⟩, fun _ => rfl⟩
    · rw [if_neg h]; exact ⟨fun q => absurd q h, fun q => absurd q.2.1 h⟩
  · rw [if_neg h0]; exact ⟨fun q => by omega, fun q => absurd q.1 h0⟩
theorem recV_eq {N : List ByteArray} {L : List (List Nd)} (h : recE N L = 0) : recV N L = recHead N.length :: flatR (sortR (N.zip L)) := if_pos h
theorem recV_err {N : List ByteArray} {L : List (List Nd)} (h : recE N L ≠ 0) : recV N L = [] := if_neg h
theorem row_upB {l : List Fld} : ∀ {last : ByteArray}, RowR l → (∀ x ∈ l, cmpB last x.1 < 0) → UpB last l := by
  induction l with
  | nil => intro _ _ _; trivial
  | cons x r ih =>
    intro last h hl
    obtain ⟨h1, h2⟩ := List.pairwise_cons.1 h
    exact ⟨hl x (by simp), ih h2 h1⟩
theorem zip_fst {α β : Type} {N : List α} {L : List β} (h : N.length = L.length) : (N.zip L).map (·.1) = N := by
  rw [List.map_fst_zip]; omega
theorem name_pos {s : ByteArray} (h : nameFault s = 0) : cmpB .empty s < 0 := by
  have hs : 0 < s.size := by
    rcases Nat.eq_zero_or_pos s.size with h0 | h0
    · have e : s = ⟨#[]⟩ := bytes_ext (List.eq_nil_of_length_eq_zero (by rw [Array.length_toList]; exact h0))
      subst e
      exact absurd h (by decide)
    · exact h0
  have h1 : cmpB .empty s ≠ 0 := fun e => by
    have e' := (cmpB_cmp.zero _ _).1 e
    subst e'
    simp at hs
  have := cmpB_cmp.rng .empty s
  have hle : cmpB .empty s ≤ 0 := by
    unfold cmpB
    rcases hd : s.data.toList with _ | ⟨b, r⟩
    · show Lib.compareBytes [] [] ≤ 0; simp [Lib.compareBytes]
    · show Lib.compareBytes [] (b :: r) ≤ 0; simp [Lib.compareBytes]
  omega
theorem recV_isV {N : List ByteArray} {L : List (List Nd)} (h : recE N L = 0) : valFault (recV N L) = 0 ∧ headOp (recV N L) = 6 ∧ recParts (recV N L) = sortR (N.zip L) := by
  obtain ⟨h1, h2, h3⟩ := recE_zero.1 h
  obtain ⟨a, b, -⟩ := recChk_zero.1 h2
  have hp := perm_sortR (N.zip L)
  have hV : ∀ x ∈ sortR (N.zip L), IsV x.2 ∧ nameFault x.1 = 0 := fun x hx =>
    let q := a x (hp.mem_iff.1 hx); ⟨(isV_zero.1 q.2).2, q.1⟩
  obtain ⟨c, d⟩ := rec_isV hV (row_upB (row_sortR b) fun x hx => name_pos (hV x hx).2)
  have hl : (sortR (N.zip L)).length = N.length := by rw [hp.length_eq, List.length_zip]; omega
  rw [hl] at c d
  rw [recV_eq h]
  refine ⟨isV_zero.2 ⟨?_, c⟩, rfl, d⟩
  have := flatR_perm hp
  simp only [List.length_cons]; omega
theorem nodup_rev {α : Type} {l : List α} (h : l.Nodup) : l.reverse.Nodup := by
  unfold List.Nodup at *
  rw [List.pairwise_reverse]
  exact h.imp fun q e => q e.symm
theorem zip_rev {α β : Type} {N : List α} {L : List β} (h : N.length = L.length) : N.reverse.zip L.reverse = (N.zip L).reverse := by
  apply List.ext_getElem
  · simp
  · intro i h1 h2
    simp only [List.getElem_zip, List.getElem_reverse, List.length_zip]
    simp [h]
/-- The other way round it is the same. -/
theorem recV_reverse {N : List ByteArray} {L : List (List Nd)} (h : recE N L = 0) : recE N.reverse L.reverse = 0 ∧ recV N.reverse L.reverse = recV N L := by
  obtain ⟨h1, h2, h3⟩ := recE_zero.1 h
  obtain ⟨a, b, -⟩ := recChk_zero.1 h2
  have ez : N.reverse.zip L.reverse = (N.zip L).reverse := zip_rev h1
  have hr : recE N.reverse L.reverse = 0 := by
    refine recE_zero.2 ⟨by simp [h1], ?_, ?_⟩
    · rw [ez]
      refine recChk_zero.2 ⟨fun x hx => a x (List.mem_reverse.1 hx), ?_, fun x _ => by simp⟩
      rw [List.map_reverse]; exact nodup_rev b
    · rw [ez, flatR_perm (List.reverse_perm _)]; exact h3
  refine ⟨hr, ?_⟩
  rw [recV_eq hr, recV_eq h, List.length_reverse, ez]
  have : sortR (N.zip L).reverse = sortR (N.zip L) := by
    refine row_unique (row_sortR (by rw [List.map_reverse]; exact nodup_rev b)) (row_sortR b) fun x => ?_
    rw [(perm_sortR _).mem_iff, (perm_sortR _).mem_iff, List.mem_reverse]
  rw [this]
end Go.Wk
