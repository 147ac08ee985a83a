/-
  Plain: the set of values: each of them once, in order; the least above one. No program in sight.
  Plain: the record of names and values: the fields in the names' order. No program in sight.
  Plain: where types end among nodes, and where the fields of a record's type stand. No program in sight.
  Plain: below is an order of types. No program in sight.
  Plain: the least type above two. No program in sight.
-/
import Derived.Test.YtcdpoamiejompaaGreatDoorQe7
namespace Go.Wk

/-- Put into its place. -/
def insP (p : List Nd) : List (List Nd) → List (List Nd)
  | [] => [p]
  | q :: r => if cmpNds p q < 0 then p :: q :: r else if cmpNds p q = 0 then q :: r else q :: insP p r
/-- Each of them once, in order. -/
def setL : List (List Nd) → List (List Nd)
  | [] => []
  | p :: r => insP p (setL r)

theorem mem_insP {p x : List Nd} {l : List (List Nd)} : x ∈ insP p l ↔ x = p ∨ x ∈ l := by
  induction l with
  | nil => simp [insP]
  | cons q r ih =>
    simp only [insP]
    split
    · simp
    · split
      · rename_i h0
        have e := (cmpNds_cmp.zero p q).1 h0
        subst e
        simp
      · simp only [List.mem_cons, ih]
        constructor
        · rintro (h | h | h) <;> simp [h]
        · rintro (h | h | h) <;> simp [h]
theorem mem_setL {x : List Nd} {l : List (List Nd)} : x ∈ setL l ↔ x ∈ l := by
  induction l with
  | nil => simp [setL]
  | cons p r ih => simp only [setL, mem_insP, ih, List.mem_cons]
/-- In order, in pairs. -/
theorem up_pair {l : List (List Nd)} : Up l ↔ l.Pairwise (fun a b => cmpNds a b < 0) := by
  induction l with
  | nil => simp [Up]
  | cons a r ih =>
    rcases r with _ | ⟨b, r⟩
    · simp [Up]
    · simp only [Up, ih]
      constructor
      · rintro ⟨h1, h2⟩
        refine List.pairwise_cons.2 ⟨fun x hx => ?_, h2⟩
        rcases List.mem_cons.1 hx with rfl | hx
        · exact h1
        · have := (List.pairwise_cons.1 h2).1 x hx
          exact cmpNds_cmp.lt_le h1 (by omega)
      · intro h
        exact ⟨(List.pairwise_cons.1 h).1 b (by simp), (List.pairwise_cons.1 h).2⟩
theorem up_insP {p : List Nd} {l : List (List Nd)} (h : Up l) : Up (insP p l) := by
  rw [up_pair] at h ⊢
  induction l with
  | nil => simp [insP]
  | cons q r ih =>
    obtain ⟨h1, h2⟩ := List.pairwise_cons.1 h
    simp only [insP]
    split
    · rename_i hlt
      refine List.pairwise_cons.2 ⟨fun x hx => ?_, h⟩
      rcases List.mem_cons.1 hx with rfl | hx
      · exact hlt
      · have := h1 x hx
        exact cmpNds_cmp.lt_le hlt (by omega)
    · split
      · exact h
      · rename_i hn h0
        refine List.pairwise_cons.2 ⟨fun x hx => ?_, ih h2⟩
        rcases mem_insP.1 hx with rfl | hx
        · have := cmpNds_cmp.anti x q
          omega
        · exact h1 x hx
theorem up_setL (l : List (List Nd)) : Up (setL l) := by
  induction l with
  | nil => trivial
  | cons p r ih => exact up_insP ih
theorem up_tail {a : List Nd} {l : List (List Nd)} (h : Up (a :: l)) : Up l := by
  rw [up_pair] at h ⊢; exact (List.pairwise_cons.1 h).2
/-- A list in order is known by what is in it. -/
theorem up_unique : ∀ {l m : List (List Nd)}, Up l → Up m → (∀ x, x ∈ l ↔ x ∈ m) → l = m := by
  intro l
  induction l with
  | nil =>
    intro m _ _ h
    rcases m with _ | ⟨b, m⟩
    · rfl
    · have := (h b).2 (by simp); cases this
  | cons a l ih =>
    intro m hl hm h
    rcases m with _ | ⟨b, m⟩
    · have := (h a).1 (by simp); cases this
    have pl := up_pair.1 hl
    have pm := up_pair.1 hm
    obtain ⟨l1, l2⟩ := List.pairwise_cons.1 pl
    obtain ⟨m1, m2⟩ := List.pairwise_cons.1 pm
    have e : a = b := by
      rcases List.mem_cons.1 ((h a).1 (by simp)) with e | ha
      · exact e
      rcases List.mem_cons.1 ((h b).2 (by simp)) with e | hb
      · exact e.symm
      have q1 := m1 a ha
      have q2 := l1 b hb
      have := cmpNds_cmp.anti a b
      omega
    subst e
    have hl' := up_tail hl
    have hm' := up_tail hm
    rw [ih hl' hm' fun x => ?_]
    have hx := h x
    simp only [List.mem_cons] at hx
    constructor
    · intro k
      rcases hx.1 (.inr k) with e | k'
      · subst e
        have := l1 x k
        rw [cmpNds_cmp.self] at this
        omega
      · exact k'
    · intro k
      rcases hx.2 (.inr k) with e | k'
      · subst e
        have := m1 x k
        rw [cmpNds_cmp.self] at this
        omega
      · exact k'
theorem setL_of {l m : List (List Nd)} (h : Up m) (hm : ∀ x, x ∈ m ↔ x ∈ l) : setL l = m :=
  up_unique (up_setL l) h fun x => by rw [mem_setL, hm]
theorem setL_congr {l m : List (List Nd)} (h : ∀ x, x ∈ l ↔ x ∈ m) : setL l = setL m :=
  setL_of (up_setL m) fun x => by rw [mem_setL, h]
theorem setL_up {l : List (List Nd)} (h : Up l) : setL l = l := setL_of h fun _ => Iff.rfl
/-- The least above one: a step. -/
def above (lo : Option (List Nd)) (p : List Nd) : Bool := match lo with | none => true | some l => decide (cmpNds p l > 0)
def under (cur : Option (List Nd)) (p : List Nd) : Bool := match cur with | none => true | some c => decide (cmpNds p c < 0)
def least (lo cur : Option (List Nd)) (p : List Nd) : Option (List Nd) := if above lo p && under cur p then some p else cur
theorem faults_zero {L : List (List Nd)} : faults L = 0 ↔ ∀ P ∈ L, valFault P = 0 := by
  induction L with
  | nil => simp [faults]
  | cons P r ih =>
    simp only [faults, or2, List.mem_cons, forall_eq_or_imp]
    by_cases h : valFault P = 0
    · rw [if_pos h, ih]; exact ⟨fun q => ⟨h, q⟩, fun q => q.2⟩
    · rw [if_neg h]; exact ⟨fun q => absurd q h, fun q => absurd q.1 h⟩
/-- The error of a set of values. -/
def setE (L : List (List Nd)) : Int := or2 (faults L) (if 200 < (setL L).flatten.length + 1 then 4 else 0)
/-- The set of values; nothing, where there is an error. -/
def setV (L : List (List Nd)) : List Nd := if setE L = 0 then setHead (setL L).length :: (setL L).flatten else []
theorem setE_zero {L : List (List Nd)} : setE L = 0 ↔ faults L = 0 ∧ (setL L).flatten.length + 1 ≤ 200 := by
  unfold setE or2
  by_cases h : faults L = 0
  · rw [if_pos h]
    by_cases h2 : 200 < (setL L).flatten.length + 1
    · rw [if_pos h2]; exact ⟨fun q => by omega, fun q => by omega⟩
    · rw [if_neg h2]; exact ⟨fun _ => ⟨h, by omega⟩, fun _ => rfl⟩
  · rw [if_neg h]; exact ⟨fun q => absurd q h, fun q => absurd q.1 h⟩
theorem setV_eq {L : List (List Nd)} (h : setE L = 0) : setV L = setHead (setL L).length :: (setL L).flatten := if_pos h
theorem setV_err {L : List (List Nd)} (h : setE L ≠ 0) : setV L = [] := if_neg h
theorem setV_isV {L : List (List Nd)} (h : setE L = 0) : valFault (setV L) = 0 ∧ headOp (setV L) = 5 ∧ setParts (setV L) = setL L := by
  obtain ⟨h1, h2⟩ := setE_zero.1 h
  have hV : ∀ Q ∈ setL L, IsV Q := fun Q hQ => (isV_zero.1 (faults_zero.1 h1 Q (mem_setL.1 hQ))).2
  obtain ⟨a, b⟩ := set_isV hV (up_setL L)
  rw [setV_eq h]
  exact ⟨isV_zero.2 ⟨by simp only [List.length_cons]; omega, a⟩, rfl, b⟩
theorem setV_congr {L M : List (List Nd)} (h : ∀ x, x ∈ L ↔ x ∈ M) (h1 : faults L = 0) (h2 : faults M = 0) : setE L = setE M ∧ setV L = setV M := by
  have e := setL_congr h
  have e2 : setE L = setE M := by unfold setE; rw [e, h1, h2]
  exact ⟨e2, by unfold setV; rw [e2, e]⟩
theorem part_le {L : List (List Nd)} {Q : List Nd} (h : Q ∈ L) : Q.length ≤ L.flatten.length := by
  induction L with
  | nil => cases h
  | cons P r ih =>
    simp only [List.flatten_cons, List.length_append]
    rcases List.mem_cons.1 h with rfl | h
    · omega
    · have := ih h; omega
/-- The parts of a set make it. -/
theorem setV_parts {P : List Nd} (h : valFault P = 0) (h5 : headOp P = 5) : faults (setParts P) = 0 ∧ Up (setParts P) ∧ setE (setParts P) = 0 ∧ setV (setParts P) = P := by
  obtain ⟨h1, h2⟩ := isV_zero.1 h
  obtain ⟨a, b, c, d⟩ := isV_set h2 h5
  have hl := congrArg List.length a
  simp only [List.length_cons] at hl
  have hf : faults (setParts P) = 0 := faults_zero.2 fun Q hQ => isV_zero.2 ⟨by have := part_le hQ; omega, c Q hQ⟩
  have he : setE (setParts P) = 0 := setE_zero.2 ⟨hf, by rw [setL_up d]; omega⟩
  exact ⟨hf, d, he, by rw [setV_eq he, setL_up d, ← a]⟩
end Go.Wk
namespace Go.Wk

abbrev Fld := ByteArray × List Nd
def insR (x : Fld) : List Fld → List Fld
  | [] => [x]
  | y :: r => if cmpB x.1 y.1 < 0 then x :: y :: r else y :: insR x r
/-- In the names' order. -/
def sortR : List Fld → List Fld
  | [] => []
  | x :: r => insR x (sortR r)
theorem perm_insR (x : Fld) (l : List Fld) : (insR x l).Perm (x :: l) := by
  induction l with
  | nil => exact List.Perm.refl _
  | cons y r ih =>
    simp only [insR]
    split
    · exact List.Perm.refl _
    · exact (List.Perm.cons y ih).trans (List.Perm.swap x y r)
theorem perm_sortR (l : List Fld) : (sortR l).Perm l := by
  induction l with
  | nil => exact List.Perm.refl _
  | cons x r ih => exact (perm_insR x _).trans (List.Perm.cons x ih)
abbrev RowR (l : List Fld) : Prop := l.Pairwise fun a b => cmpB a.1 b.1 < 0
theorem row_insR {x : Fld} {l : List Fld} (h : RowR l) (hx : ∀ y ∈ l, y.1 ≠ x.1) : RowR (insR x l) := by
  induction l with
  | nil => simp [insR, RowR]
  | cons y r ih =>
    obtain ⟨h1, h2⟩ := List.pairwise_cons.1 h
    simp only [insR]
    split
    · rename_i hlt
      refine List.pairwise_cons.2 ⟨fun z hz => ?_, h⟩
      rcases List.mem_cons.1 hz with rfl | hz
      · exact hlt
      · have := h1 z hz
        exact cmpB_cmp.lt_le hlt (by omega)
    · rename_i hn
      refine List.pairwise_cons.2 ⟨fun z hz => ?_, ih h2 fun z hz => hx z (by simp [hz])⟩
      rcases List.mem_cons.1 ((perm_insR x r).mem_iff.1 hz) with rfl | hz
      · have a := cmpB_cmp.anti z.1 y.1
        have : cmpB z.1 y.1 ≠ 0 := fun e => hx y (by simp) ((cmpB_cmp.zero _ _).1 e).symm
        omega
      · exact h1 z hz
theorem row_sortR {l : List Fld} (h : (l.map (·.1)).Nodup) : RowR (sortR l) := by
  induction l with
  | nil => exact List.Pairwise.nil
  | cons x r ih =>
    simp only [List.map_cons, List.nodup_cons] at h
    refine row_insR (ih h.2) fun y hy e => h.1 ?_
    rw [← e]
    exact List.mem_map_of_mem ((perm_sortR r).mem_iff.1 hy)
theorem row_unique : ∀ {l m : List Fld}, RowR l → RowR m → (∀ x, x ∈ l ↔ x ∈ m) → l = m := by
  intro l
  induction l with
  | nil =>
    intro m _ _ h
    rcases m with _ | ⟨b, m⟩
    · rfl
    · have := (h b).2 (by simp); cases this
  | cons a l ih =>
    intro m hl hm h
    rcases m with _ | ⟨b, m⟩
    · have := (h a).1 (by simp); cases this
    obtain ⟨l1, l2⟩ := List.pairwise_cons.1 hl
    obtain ⟨m1, m2⟩ := List.pairwise_cons.1 hm
    have e : a = b := by
      rcases List.mem_cons.1 ((h a).1 (by simp)) with e | ha
      · exact e
      rcases List.mem_cons.1 ((h b).2 (by simp)) with e | hb
      · exact e.symm
      have q1 := m1 a ha
      have q2 := l1 b hb
      have := cmpB_cmp.anti a.1 b.1
      omega
    subst e
    rw [ih l2 m2 fun x => ?_]
    have hx := h x
    simp only [List.mem_cons] at hx
    constructor
    · intro k
      rcases hx.1 (.inr k) with e | k'
      · subst e
        have := l1 x k
        rw [cmpB_cmp.self] at this
        omega
      · exact k'
    · intro k
      rcases hx.2 (.inr k) with e | k'
      · subst e
        have := m1 x k
        rw [cmpB_cmp.self] at this
        omega
      · exact k'
theorem flatR_append (a b : List Fld) : flatR (a ++ b) = flatR a ++ flatR b := by
  induction a with
  | nil => rfl
  | cons x r ih => simp only [List.cons_append, flatR, ih, List.append_assoc]
theorem flatR_perm {a b : List Fld} (h : a.Perm b) : (flatR a).length = (flatR b).length := by
  induction h with
  | nil => rfl
  | cons x _ ih => simp only [flatR, List.length_cons, List.length_append, ih]
  | swap x y l => simp only [flatR, List.length_cons, List.length_append]; omega
  | trans _ _ h1 h2 => exact h1.trans h2
theorem flatR_one (x : Fld) : flatR [x] = fieldN x.1 :: x.2 := by simp [flatR]
theorem flatR_step (Z : List Fld) (k : Nat) (h : k < Z.length) : flatR (Z.take (k + 1)) = flatR (Z.take k) ++ fieldN Z[k].1 :: Z[k].2 := by
  rw [← List.take_append_getElem h, flatR_append, flatR_one]
theorem flatR_take_le (Z : List Fld) (k : Nat) : (flatR (Z.take k)).length ≤ (flatR Z).length := by
  conv => rhs; rw [← List.take_append_drop k Z]
  rw [flatR_append, List.length_append]; omega
def hadB (N : List ByteArray) (s : ByteArray) : Bool := N.any fun y => decide (cmpB y s = 0)
theorem hadB_iff {N : List ByteArray} {s : ByteArray} : hadB N s = true ↔ s ∈ N := by
  unfold hadB
  rw [List.any_eq_true]
  constructor
  · rintro ⟨y, h1, h2⟩
    have e := (cmpB_cmp.zero y s).1 (by simpa using h2)
    subst e; exact h1
  · intro h; exact ⟨s, h, by simp [cmpB_cmp.self]⟩
/-- The first thing wrong with names and values. -/
def recChk : List ByteArray → List Fld → Int
  | _, [] => 0
  | N, x :: r => or2 (nameFault x.1) (or2 (if hadB N x.1 then 6 else 0) (or2 (valFault x.2) (recChk (N ++ [x.1]) r)))
theorem recChk_zero {N : List ByteArray} {Z : List Fld} : recChk N Z = 0 ↔ (∀ x ∈ Z, nameFault x.1 = 0 ∧ valFault x.2 = 0) ∧ (Z.map (·.1)).Nodup ∧ ∀ x ∈ Z, x.1 ∉ N := by
  induction Z generalizing N with
  | nil => simp [recChk]
  | cons x r ih =>
    simp only [recChk, or2]
    by_cases h1 : nameFault x.1 = 0
    · rw [if_pos h1]
      by_cases h2 : x.1 ∈ N
      · rw [if_pos (hadB_iff.2 h2), if_neg (by omega)]
        exact ⟨fun q => by omega, fun q => absurd h2 (q.2.2 x (by simp))⟩
      · rw [if_neg (fun q => h2 (hadB_iff.1 q)), if_pos rfl]
        by_cases h3 : valFault x.2 = 0
        · rw [if_pos h3, ih]
          simp only [List.mem_cons, forall_eq_or_imp, List.map_cons, List.nodup_cons, List.mem_append, List.not_mem_nil, or_false, not_or]
          constructor
          · rintro ⟨a, b, c⟩
            refine ⟨⟨⟨h1, h3⟩, a⟩, ⟨fun q => ?_, b⟩, h2, fun y hy => (c y hy).1⟩
            obtain ⟨y, hy, e⟩ := List.mem_map.1 q
            exact (c y hy).2 e
          · rintro ⟨⟨-, a⟩, ⟨b, c⟩, -, d⟩
            exact ⟨a, c, fun y hy => ⟨d y hy, fun e => b (by rw [← e]; exact List.mem_map_of_mem hy)⟩⟩
        · rw [if_neg h3]
          exact ⟨fun q => absurd q h3, fun q => absurd (q.1 x (by simp)).2 h3⟩
    · rw [if_neg h1]
      exact ⟨fun q => absurd q h1, fun q => absurd (q.1 x (by simp)).1 h1⟩
def recE (N : List ByteArray) (L : List (List Nd)) : Int :=
  if N.length = L.length then or2 (recChk [] (N.zip L)) (if 200 < (flatR (N.zip L)).length + 1 then 4 else 0) else 1
def recV (N : List ByteArray) (L : List (List Nd)) : List Nd := if recE N L = 0 then recHead N.length :: flatR (sortR (N.zip L)) else []
theorem recE_zero {N : List ByteArray} {L : List (List Nd)} : recE N L = 0 ↔ N.length = L.length ∧ recChk [] (N.zip L) = 0 ∧ (flatR (N.zip L)).length + 1 ≤ 200 := by
  unfold recE or2
  by_cases h0 : N.length = L.length
  · rw [if_pos h0]
    by_cases h : recChk [] (N.zip L) = 0
    · rw [if_pos h]
      by_cases h2 : 200 < (flatR (N.zip L)).length + 1
      · rw [if_pos h2]; exact ⟨fun q => by omega, fun q => by omega⟩
      · rw [if_neg h2]; exact ⟨fun _ => ⟨h0, h, by omega⟩, fun _ => rfl⟩
    · rw [if_neg h]; exact ⟨fun q => absurd q h, fun q => absurd q.2.1 h⟩
  · rw [if_neg h0]; exact ⟨fun q => by omega, fun q => absurd q.1 h0⟩
theorem recV_eq {N : List ByteArray} {L : List (List Nd)} (h : recE N L = 0) : recV N L = recHead N.length :: flatR (sortR (N.zip L)) := if_pos h
theorem recV_err {N : List ByteArray} {L : List (List Nd)} (h : recE N L ≠ 0) : recV N L = [] := if_neg h
theorem row_upB {l : List Fld} : ∀ {last : ByteArray}, RowR l → (∀ x ∈ l, cmpB last x.1 < 0) → UpB last l := by
  induction l with
  | nil => intro _ _ _; trivial
  | cons x r ih =>
    intro last h hl
    obtain ⟨h1, h2⟩ := List.pairwise_cons.1 h
    exact ⟨hl x (by simp), ih h2 h1⟩
theorem name_pos {s : ByteArray} (h : nameFault s = 0) : cmpB .empty s < 0 := by
  have hs : 0 < s.size := by
    rcases Nat.eq_zero_or_pos s.size with h0 | h0
    · have e : s = ⟨#[]⟩ := bytes_ext (List.eq_nil_of_length_eq_zero (by rw [Array.length_toList]; exact h0))
      subst e
      exact absurd h (by decide)
    · exact h0
  have h1 : cmpB .empty s ≠ 0 := fun e => by
    have e' := (cmpB_cmp.zero _ _).1 e
    subst e'
    simp at hs
  have := cmpB_cmp.rng .empty s
  have hle : cmpB .empty s ≤ 0 := by
    unfold cmpB
    rcases hd : s.data.toList with _ | ⟨b, r⟩
    · show Lib.compareBytes [] [] ≤ 0; simp [Lib.compareBytes]
    · show Lib.compareBytes [] (b :: r) ≤ 0; simp [Lib.compareBytes]
  omega
theorem recV_isV {N : List ByteArray} {L : List (List Nd)} (h : recE N L = 0) : valFault (recV N L) = 0 ∧ headOp (recV N L) = 6 ∧ recParts (recV N L) = sortR (N.zip L) := by
  obtain ⟨h1, h2, h3⟩ := recE_zero.1 h
  obtain ⟨a, b, -⟩ := recChk_zero.1 h2
  have hp := perm_sortR (N.zip L)
  have hV : ∀ x ∈ sortR (N.zip L), IsV x.2 ∧ nameFault x.1 = 0 := fun x hx =>
    let q := a x (hp.mem_iff.1 hx); ⟨(isV_zero.1 q.2).2, q.1⟩
  obtain ⟨c, d⟩ := rec_isV hV (row_upB (row_sortR b) fun x hx => name_pos (hV x hx).2)
  have hl : (sortR (N.zip L)).length = N.length := by rw [hp.length_eq, List.length_zip]; omega
  rw [hl] at c d
  rw [recV_eq h]
  refine ⟨isV_zero.2 ⟨?_, c⟩, rfl, d⟩
  have := flatR_perm hp
  simp only [List.length_cons]; omega
end Go.Wk
namespace Go.Wk

/-- The error of nodes as a type. -/
def kindFault (t : List Nd) : Int := if 200 < t.length then 4 else if (readK t).isSome then 0 else 1
theorem kindFault_zero {t : List Nd} : kindFault t = 0 ↔ t.length ≤ 200 ∧ ∃ k : Kd, k.valid ∧ t = k.flat := by
  unfold kindFault
  by_cases h : 200 < t.length
  · rw [if_pos h]; omega
  · rw [if_neg h]
    rcases hr : readK t with _ | k
    · simp only [Option.isSome_none, Bool.false_eq_true, if_false]
      constructor
      · intro q; omega
      · rintro ⟨-, k, v, e⟩
        rw [readK_iff.2 ⟨v, e⟩] at hr; cases hr
    · simp only [Option.isSome_some, if_true, true_iff]
      exact ⟨by omega, k, readK_iff.1 hr⟩

end Go.Wk
namespace Go.Wk

theorem isAny_iff {a : Kd} : isAny a = true ↔ a = .base 48 := by
  cases a with
  | base x => simp [isAny]
  | _ => simp [isAny]
theorem below_set {p : Kd} {b : Kd} : belowK (.set p) b = true ↔ b = .base 48 ∨ ∃ q, b = .set q ∧ belowK p q = true := by
  simp only [belowK, Bool.or_eq_true, isAny_iff]
  cases b with
  | set q => simp
  | _ => simp
end Go.Wk
namespace Go.Wk

/-- Fields, and one more in its place. -/
def insF (s : ByteArray) (m : Bool) (k : Kd) : Fl → Fl
  | .nil => .cons s m k .nil
  | .cons t m' k' r => if cmpB s t < 0 then .cons s m k (.cons t m' k' r) else .cons t m' k' (insF s m k r)
/-- Those of g that f has not. -/
def restF : Fl → Fl → Fl
  | .nil, _ => .nil
  | .cons s _ k r, f => if (f.find s).isSome then restF r f else .cons s false k (restF r f)
mutual
/-- The least above two. -/
def joinK : Kd → Kd → Kd
  | .base x, b => if x = 49 then b else if isAny b then b else if isNone b then .base x else if x = 48 then .base 48 else (match b with | .base y => if x = y then .base x else .base 48 | _ => .base 48)
  | .ent s, b => if isAny b then b else if isNone b then .ent s else (match b with | .ent t => if s = t then .ent s else .base 48 | _ => .base 48)
  | .set p, b => if isAny b then b else if isNone b then .set p else (match b with | .set q => .set (joinK p q) | _ => .base 48)
  | .fs f, b => if isAny b then b else if isNone b then .fs f else (match b with | .fs g => .fs (joinF f g (restF g f)) | _ => .base 48)
def joinF : Fl → Fl → Fl → Fl
  | .nil, _, acc => acc
  | .cons s m k r, g, acc => match g.find s with
    | none => insF s false k (joinF r g acc)
    | some (m', k') => insF s (m && m') (joinK k k') (joinF r g acc)
end
end Go.Wk
