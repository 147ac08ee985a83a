/-
  Plain: the set of values: each of them once, in order; the least above one. No program in sight.
-/
import Derived.Test.YtlipgpddcfkllaaPartsLaw
namespace Go.Wk

/-- Put into its place. -/
def insP (p : List Nd) : List (List Nd) → List (List Nd)
  | [] => [p]
  | q :: r => if cmpNds p q < 0 then p :: q :: r else if cmpNds p q = 0 then q :: r else q :: insP p r
/-- Each of them once, in order. -/
def setL : List (List Nd) → List (List Nd)
  | [] => []
  | p :: r => insP p (setL r)

theorem mem_insP {p x : List Nd} {l : List (List Nd)} : x ∈ insP p l ↔ x = p ∨ x ∈ l := by
  induction l with
  | nil => simp [insP]
  | cons q r ih =>
    simp only [insP]
    split
    · simp
    · split
      · rename_i h0
        have e := (cmpNds_cmp.zero p q).1 h0
        subst e
        simp
      · simp only [List.mem_cons, ih]
        constructor
        · rintro (h | h | h) <;> simp [h]
        · rintro (h | h | h) <;> simp [h]
theorem mem_setL {x : List Nd} {l : List (List Nd)} : x ∈ setL l ↔ x ∈ l := by
  induction l with
  | nil => simp [setL]
  | cons p r ih => simp only [setL, mem_insP, ih, List.mem_cons]
/-- In order, in pairs. -/
theorem up_pair {l : List (List Nd)} : Up l ↔ l.Pairwise (fun a b => cmpNds a b < 0) := by
  induction l with
  | nil => simp [Up]
  | cons a r ih =>
    rcases r with _ | ⟨b, r⟩
    · simp [Up]
    · simp only [Up, ih]
      constructor
      · rintro ⟨h1, h2⟩
        refine List.pairwise_cons.2 ⟨fun x hx => ?_, h2⟩
        rcases List.mem_cons.1 hx with rfl | hx
        · exact h1
        · have := (List.pairwise_cons.1 h2).1 x hx
          exact cmpNds_cmp.lt_le h1 (by omega)
      · intro h
        exact ⟨(List.pairwise_cons.1 h).1 b (by simp), (List.pairwise_cons.1 h).2⟩
theorem up_insP {p : List Nd} {l : List (List Nd)} (h : Up l) : Up (insP p l) := by
  rw [up_pair] at h ⊢
  induction l with
  | nil => simp [insP]
  | cons q r ih =>
    obtain ⟨h1, h2⟩ := List.pairwise_cons.1 h
    simp only [insP]
    split
    · rename_i hlt
      refine List.pairwise_cons.2 ⟨fun x hx => ?_, h⟩
      rcases List.mem_cons.1 hx with rfl | hx
      · exact hlt
      · have := h1 x hx
        exact cmpNds_cmp.lt_le hlt (by omega)
    · split
      · exact h
      · rename_i hn h0
        refine List.pairwise_cons.2 ⟨fun x hx => ?_, ih h2⟩
        rcases mem_insP.1 hx with rfl | hx
        · have := cmpNds_cmp.anti x q
          omega
        · exact h1 x hx
theorem up_setL (l : List (List Nd)) : Up (setL l) := by
  induction l with
  | nil => trivial
  | cons p r ih => exact up_insP ih
theorem up_tail {a : List Nd} {l : List (List Nd)} (h : Up (a :: l)) : Up l := by
  rw [up_pair] at h ⊢; exact (List.pairwise_cons.1 h).2
/-- A list in order is known by what is in it. -/
theorem up_unique : ∀ {l m : List (List Nd)}, Up l → Up m → (∀ x, x ∈ l ↔ x ∈ m) → l = m := by
  intro l
  induction l with
  | nil =>
    intro m _ _ h
    rcases m with _ | ⟨b, m⟩
    · rfl
    · have := (h b).2 (by simp); cases this
  | cons a l ih =>
    intro m hl hm h
    rcases m with _ | ⟨b, m⟩
    · have := (h a).1 (by simp); cases this
    have pl := up_pair.1 hl
    have pm := up_pair.1 hm
    obtain ⟨l1, l2⟩ := List.pairwise_cons.1 pl
    obtain ⟨m1, m2⟩ := List.pairwise_cons.1 pm
    have e : a = b := by
      rcases List.mem_cons.1 ((h a).1 (by simp)) with e | ha
      · exact e
      rcases List.mem_cons.1 ((h b).2 (by simp)) with e | hb
      · exact e.symm
      have q1 := m1 a ha
      have q2 := l1 b hb
      have := cmpNds_cmp.anti a b
      omega
    subst e
    have hl' := up_tail hl
    have hm' := up_tail hm
    rw [ih hl' hm' fun x => ?_]
    have hx := h x
    simp only [List.mem_cons] at hx
    constructor
    · intro k
      rcases hx.1 (.inr k) with e | k'
      · subst e
        have := l1 x k
        rw [cmpNds_cmp.self] at this
        omega
      · exact k'
    · intro k
      rcases hx.2 (.inr k) with e | k'
      · subst e
        have := m1 x k
        rw [cmpNds_cmp.self] at this
        omega
      · exact k'
theorem setL_of {l m : List (List Nd)} (h : Up m) (hm : ∀ x, x ∈ m ↔ x ∈ l) : setL l = m :=
  up_unique (up_setL l) h fun x => by rw [mem_setL, hm]
theorem setL_congr {l m : List (List Nd)} (h : ∀ x, x ∈ l ↔ x ∈ m) : setL l = setL m :=
  setL_of (up_setL m) fun x => by rw [mem_setL, h]
theorem setL_up {l : List (List Nd)} (h : Up l) : setL l = l := setL_of h fun _ => Iff.rfl
theorem up_lt {l : List (List Nd)} (h : Up l) {i j : Nat} (hij : i < j) (hj : j < l.length) : cmpNds (l[i]'(by omega)) l[j] < 0 :=
  List.pairwise_iff_getElem.1 (up_pair.1 h) i j (by omega) hj hij

/-- The least above one: a step. -/
def above (lo : Option (List Nd)) (p : List Nd) : Bool := match lo with | none => true | some l => decide (cmpNds p l > 0)
def under (cur : Option (List Nd)) (p : List Nd) : Bool := match cur with | none => true | some c => decide (cmpNds p c < 0)
def least (lo cur : Option (List Nd)) (p : List Nd) : Option (List Nd) := if above lo p && under cur p then some p else cur
def leastOf (lo : Option (List Nd)) (l : List (List Nd)) : Option (List Nd) := l.foldl (least lo) none
theorem leastOf_snoc (lo : Option (List Nd)) (l : List (List Nd)) (p : List Nd) : leastOf lo (l ++ [p]) = least lo (leastOf lo l) p := by
  unfold leastOf; rw [List.foldl_append]; rfl
/-- What the least is. -/
def IsLeast (lo : Option (List Nd)) (l : List (List Nd)) : Option (List Nd) → Prop
  | none => ∀ x ∈ l, above lo x = false
  | some m => m ∈ l ∧ above lo m = true ∧ ∀ x ∈ l, above lo x = true → cmpNds m x ≤ 0
theorem least_go (lo : Option (List Nd)) : ∀ (l k : List (List Nd)) (cur : Option (List Nd)), IsLeast lo k cur → IsLeast lo (k ++ l) (l.foldl (least lo) cur) := by
  intro l
  induction l with
  | nil => intro k cur h; simpa using h
  | cons p l ih =>
    intro k cur h
    have e : k ++ p :: l = (k ++ [p]) ++ l := by simp
    rw [e]
    refine ih (k ++ [p]) _ ?_
    unfold least under
    rcases ha : above lo p with _ | _
    · simp only [Bool.false_and, Bool.false_eq_true, if_false]
      rcases cur with _ | c
      · intro x hx
        rcases List.mem_append.1 hx with hx | hx
        · exact h x hx
        · simp only [List.mem_cons, List.not_mem_nil, or_false] at hx
          subst hx; exact ha
      · refine ⟨List.mem_append_left _ h.1, h.2.1, fun x hx hax => ?_⟩
        rcases List.mem_append.1 hx with hx | hx
        · exact h.2.2 x hx hax
        · simp only [List.mem_cons, List.not_mem_nil, or_false] at hx
          subst hx; rw [ha] at hax; cases hax
    · rcases cur with _ | c
      · simp only [Bool.true_and, if_true]
        refine ⟨by simp, ha, fun x hx hax => ?_⟩
        rcases List.mem_append.1 hx with hx | hx
        · rw [h x hx] at hax; cases hax
        · simp only [List.mem_cons, List.not_mem_nil, or_false] at hx
          subst hx; rw [cmpNds_cmp.self]; omega
      · simp only [Bool.true_and, decide_eq_true_eq]
        split
        · rename_i hlt
          refine ⟨by simp, ha, fun x hx hax => ?_⟩
          rcases List.mem_append.1 hx with hx | hx
          · have := h.2.2 x hx hax
            have := cmpNds_cmp.lt_le hlt this
            omega
          · simp only [List.mem_cons, List.not_mem_nil, or_false] at hx
            subst hx; rw [cmpNds_cmp.self]; omega
        · rename_i hge
          refine ⟨List.mem_append_left _ h.1, h.2.1, fun x hx hax => ?_⟩
          rcases List.mem_append.1 hx with hx | hx
          · exact h.2.2 x hx hax
          · simp only [List.mem_cons, List.not_mem_nil, or_false] at hx
            subst hx
            have := cmpNds_cmp.anti x c
            omega
theorem leastOf_is (lo : Option (List Nd)) (l : List (List Nd)) : IsLeast lo l (leastOf lo l) := by
  exact least_go lo l [] none (fun x hx => by cases hx)
/-- The least of all is the first one of the set. -/
theorem leastOf_first (l : List (List Nd)) : leastOf none l = (setL l)[0]? := by
  have h := leastOf_is none l
  rcases hc : leastOf none l with _ | m
  · rw [hc] at h
    have e : l = [] := by
      rcases l with _ | ⟨a, l⟩
      · rfl
      · have := h a (by simp); cases this
    subst e; rfl
  · rw [hc] at h
    obtain ⟨h1, -, h3⟩ := h
    rcases hs : setL l with _ | ⟨b, r⟩
    · have := mem_setL.2 h1; rw [hs] at this; cases this
    · have hb : b ∈ l := mem_setL.1 (by rw [hs]; simp)
      have q := h3 b hb rfl
      have hm : m ∈ b :: r := by rw [← hs]; exact mem_setL.2 h1
      rcases List.mem_cons.1 hm with rfl | hm
      · rfl
      · have hu := up_setL l
        rw [hs, up_pair] at hu
        have := (List.pairwise_cons.1 hu).1 m hm
        have := cmpNds_cmp.anti m b
        omega
/-- The least above one of the set is the next one. -/
theorem leastOf_next (l : List (List Nd)) (i : Nat) (hi : i < (setL l).length) : leastOf (some (setL l)[i]) l = (setL l)[i + 1]? := by
  have h := leastOf_is (some (setL l)[i]) l
  have hu := up_setL l
  rcases hc : leastOf (some (setL l)[i]) l with _ | m
  · rw [hc] at h
    rcases Nat.lt_or_ge (i + 1) (setL l).length with hk | hk
    · have hmem : (setL l)[i + 1] ∈ l := mem_setL.1 (List.getElem_mem hk)
      have := h _ hmem
      have q := up_lt hu (show i < i + 1 by omega) hk
      have a := cmpNds_cmp.anti (setL l)[i] (setL l)[i + 1]
      simp only [above, decide_eq_false_iff_not] at this
      omega
    · rw [List.getElem?_eq_none hk]
  · rw [hc] at h
    obtain ⟨h1, h2, h3⟩ := h
    obtain ⟨j, hj, e⟩ := List.getElem_of_mem (mem_setL.2 h1)
    simp only [above, decide_eq_true_eq] at h2
    have hij : i < j := by
      rcases Nat.lt_or_ge i j with h | h
      · exact h
      rcases Nat.lt_or_ge j i with h' | h'
      · have := up_lt hu h' hi
        rw [e] at this
        omega
      · have : i = j := by omega
        subst this
        rw [← e, cmpNds_cmp.self] at h2
        omega
    have hk : i + 1 < (setL l).length := by omega
    rw [List.getElem?_eq_getElem hk]
    rcases Nat.lt_or_ge (i + 1) j with h | h
    · have q := up_lt hu h hj
      have a := cmpNds_cmp.anti (setL l)[i] (setL l)[i + 1]
      have q2 := up_lt hu (show i < i + 1 by omega) hk
      have := h3 (setL l)[i + 1] (mem_setL.1 (List.getElem_mem hk)) (by simp only [above, decide_eq_true_eq]; omega)
      rw [e] at q
      have := cmpNds_cmp.anti m (setL l)[i + 1]
      omega
    · have : j = i + 1 := by omega
      subst this
      rw [e]

theorem faults_zero {L : List (List Nd)} : faults L = 0 ↔ ∀ P ∈ L, valFault P = 0 := by
  induction L with
  | nil => simp [faults]
  | cons P r ih =>
    simp only [faults, or2, List.mem_cons, forall_eq_or_imp]
    by_cases h : valFault P = 0
    · rw [if_pos h, ih]; exact ⟨fun q => ⟨h, q⟩, fun q => q.2⟩
    · rw [if_neg h]; exact ⟨fun q => absurd q h, fun q => absurd q.1 h⟩
/-- The error of a set of values. -/
def setE (L : List (List Nd)) : Int := or2 (faults L) (if 200 < (setL L).flatten.length + 1 then 4 else 0)
/-- The set of values; nothing, where there is an error. -/
def setV (L : List (List Nd)) : List Nd := if setE L = 0 then setHead (setL L).length :: (setL L).flatten else []
theorem setE_zero {L : List (List Nd)} : setE L = 0 ↔ faults L = 0 ∧ (setL L).flatten.length + 1 ≤ 200 := by
  unfold setE or2
  by_cases h : faults L = 0
  · rw [if_pos h]
    by_cases h2 : 200 < (setL L).flatten.length + 1
    · rw [if_pos h2]; exact ⟨fun q => by omega, fun q => by omega⟩
    · rw [if_neg h2]; exact ⟨fun _ => ⟨h, by omega⟩, fun _ => rfl⟩
  · rw [if_neg h]; exact ⟨fun q => absurd q h, fun q => absurd q.1 h⟩
theorem setE_ways {L : List (List Nd)} (h : faults L = 0) : setE L = 0 ∨ setE L = 4 := by
  unfold setE or2
  rw [if_pos h]
  by_cases h2 : 200 < (setL L).flatten.length + 1
  · rw [if_pos h2]; exact .inr rfl
  · rw [if_neg h2]; exact .inl rfl
theorem setV_eq {L : List (List Nd)} (h : setE L = 0) : setV L = setHead (setL L).length :: (setL L).flatten := if_pos h
theorem setV_err {L : List (List Nd)} (h : setE L ≠ 0) : setV L = [] := if_neg h
theorem setV_isV {L : List (List Nd)} (h : setE L = 0) : valFault (setV L) = 0 ∧ headOp (setV L) = 5 ∧ setParts (setV L) = setL L := by
  obtain ⟨h1, h2⟩ := setE_zero.1 h
  have hV : ∀ Q ∈ setL L, IsV Q := fun Q hQ => (isV_zero.1 (faults_zero.1 h1 Q (mem_setL.1 hQ))).2
  obtain ⟨a, b⟩ := set_isV hV (up_setL L)
  rw [setV_eq h]
  exact ⟨isV_zero.2 ⟨by simp only [List.length_cons]; omega, a⟩, rfl, b⟩
theorem setV_congr {L M : List (List Nd)} (h : ∀ x, x ∈ L ↔ x ∈ M) (h1 : faults L = 0) (h2 : faults M = 0) : setE L = setE M ∧ setV L = setV M := by
  have e := setL_congr h
  have e2 : setE L = setE M := by unfold setE; rw [e, h1, h2]
  exact ⟨e2, by unfold setV; rw [e2, e]⟩
theorem part_le {L : List (List Nd)} {Q : List Nd} (h : Q ∈ L) : Q.length ≤ L.flatten.length := by
  induction L with
  | nil => cases h
  | cons P r ih =>
    simp only [List.flatten_cons, List.length_append]
    rcases List.mem_cons.1 h with rfl | h
    · omega
    · have := ih h; omega
theorem filter_le (L : List (List Nd)) (p : List Nd → Bool) : (L.filter p).flatten.length ≤ L.flatten.length := by
  induction L with
  | nil => simp
  | cons P r ih =>
    simp only [List.filter_cons, List.flatten_cons, List.length_append]
    split
    · simp only [List.flatten_cons, List.length_append]; omega
    · omega
/-- The parts of a set make it. -/
theorem setV_parts {P : List Nd} (h : valFault P = 0) (h5 : headOp P = 5) : faults (setParts P) = 0 ∧ Up (setParts P) ∧ setE (setParts P) = 0 ∧ setV (setParts P) = P := by
  obtain ⟨h1, h2⟩ := isV_zero.1 h
  obtain ⟨a, b, c, d⟩ := isV_set h2 h5
  have hl := congrArg List.length a
  simp only [List.length_cons] at hl
  have hf : faults (setParts P) = 0 := faults_zero.2 fun Q hQ => isV_zero.2 ⟨by have := part_le hQ; omega, c Q hQ⟩
  have he : setE (setParts P) = 0 := setE_zero.2 ⟨hf, by rw [setL_up d]; omega⟩
  exact ⟨hf, d, he, by rw [setV_eq he, setL_up d, ← a]⟩
theorem up_filter {L : List (List Nd)} (h : Up L) (p : List Nd → Bool) : Up (L.filter p) := by
  rw [up_pair] at h ⊢; exact h.filter p
theorem setV_filter {P : List Nd} (h : valFault P = 0) (h5 : headOp P = 5) (p : List Nd → Bool) :
    faults ((setParts P).filter p) = 0 ∧ setL ((setParts P).filter p) = (setParts P).filter p ∧ setE ((setParts P).filter p) = 0 := by
  obtain ⟨a, b, c, d⟩ := setV_parts h h5
  have hf : faults ((setParts P).filter p) = 0 := faults_zero.2 fun Q hQ => faults_zero.1 a Q (List.mem_filter.1 hQ).1
  have e := setL_up (up_filter b p)
  refine ⟨hf, e, setE_zero.2 ⟨hf, ?_⟩⟩
  rw [e]
  have := filter_le (setParts P) p
  have := (setE_zero.1 c).2
  rw [setL_up b] at this
  omega
end Go.Wk
