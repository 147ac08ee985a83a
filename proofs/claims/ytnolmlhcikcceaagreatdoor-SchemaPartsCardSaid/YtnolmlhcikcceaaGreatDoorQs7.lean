/-
  Plain: types and values as nodes that are handed in: below, joined, had, own. No program in sight.
  Plain: the set of values: each of them once, in order; the least above one. No program in sight.
  Plain: the record of names and values: the fields in the names' order. No program in sight.
  Plain: schemas: what is wrong with one, with a store by one, with a request by one. No program in sight.
  Plain: where the fields of a type stand; below, and the least above two, as the reference has them. No program in sight.
  Plain: which types a value has, as the reference's loops have it. No program in sight.
-/
import Derived.Test.YtnolmlhcikcceaaGreatDoorQs6
namespace Go.Wk

/-- The first fault of two types. -/
def bothF (P Q : List Nd) : Int := if kindFault P = 0 then kindFault Q else kindFault P
/-- Is the one below the other? -/
def belB (P Q : List Nd) : Bool := decide (bothF P Q = 0) && (match readK P, readK Q with
  | some a, some b => belowK a b
  | _, _ => false)
/-- The least above both. -/
def joinN (P Q : List Nd) : List Nd := match readK P, readK Q with
  | some a, some b => (joinK a b).flat
  | _, _ => []
def joinE (P Q : List Nd) : Int := if bothF P Q = 0 then (if 200 < (joinN P Q).length then 4 else 0) else bothF P Q
def joinV (P Q : List Nd) : List Nd := if joinE P Q = 0 then joinN P Q else []
/-- What a type and a value tell. -/
def kHasE (T V : List Nd) : Int := if kindFault T = 0 then valFault V else kindFault T
def kHasB (T V : List Nd) : Bool := decide (kHasE T V = 0) && (match readK T with
  | some k => belowK (ownV V) k
  | none => false)
def ownE (V : List Nd) : Int := if valFault V = 0 then (if 200 < (ownV V).flat.length then 4 else 0) else valFault V
def ownN (V : List Nd) : List Nd := if ownE V = 0 then (ownV V).flat else []

theorem read_flat {k : Kd} (h : k.valid) : readK k.flat = some k := readK_iff.2 ⟨h, rfl⟩
theorem both_zero {P Q : List Nd} : bothF P Q = 0 ↔ kindFault P = 0 ∧ kindFault Q = 0 := by
  unfold bothF
  split
  · rename_i h; simp [h]
  · rename_i h; simp [h]
theorem bothF_of {P Q : List Nd} (h : kindFault P = 0) : bothF P Q = kindFault Q := by unfold bothF; rw [if_pos h]
/-- A type that may be handed in. -/
structure Kin (P : List Nd) (k : Kd) : Prop where
  v : k.valid
  e : P = k.flat
  l : P.length ≤ 200
theorem kin_of {P : List Nd} (h : kindFault P = 0) : ∃ k, Kin P k := by
  obtain ⟨h1, k, h2, h3⟩ := kindFault_zero.1 h
  exact ⟨k, h2, h3, h1⟩
theorem Kin.zero {P : List Nd} {k : Kd} (h : Kin P k) : kindFault P = 0 := kindFault_zero.2 ⟨h.l, k, h.v, h.e⟩
theorem Kin.read {P : List Nd} {k : Kd} (h : Kin P k) : readK P = some k := readK_iff.2 ⟨h.v, h.e⟩
theorem Kin.bel {P Q : List Nd} {a b : Kd} (h : Kin P a) (k : Kin Q b) : belB P Q = belowK a b := by
  unfold belB
  rw [both_zero.2 ⟨h.zero, k.zero⟩, h.read, k.read]
  rfl
theorem Kin.join {P Q : List Nd} {a b : Kd} (h : Kin P a) (k : Kin Q b) : joinN P Q = (joinK a b).flat := by
  unfold joinN
  rw [h.read, k.read]
theorem Kin.joinE {P Q : List Nd} {a b : Kd} (h : Kin P a) (k : Kin Q b) : joinE P Q = if 200 < (joinK a b).flat.length then 4 else 0 := by
  unfold Go.Wk.joinE
  rw [if_pos (both_zero.2 ⟨h.zero, k.zero⟩), h.join k]
theorem join_fine {P Q : List Nd} (h : joinE P Q = 0) : kindFault P = 0 ∧ kindFault Q = 0 ∧ (joinN P Q).length ≤ 200 := by
  unfold joinE at h
  split at h
  · rename_i h1
    obtain ⟨h2, h3⟩ := both_zero.1 h1
    split at h
    · cases h
    · exact ⟨h2, h3, by omega⟩
  · rename_i h1; exact absurd h h1
theorem Kin.joined {P Q : List Nd} {a b : Kd} (h : Kin P a) (k : Kin Q b) (hj : Go.Wk.joinE P Q = 0) : Kin (joinV P Q) (joinK a b) := by
  obtain ⟨-, -, hl⟩ := join_fine hj
  unfold joinV
  rw [if_pos hj]
  rw [h.join k] at hl ⊢
  exact ⟨join_valid _ a b (Nat.le_refl _) h.v k.v, rfl, hl⟩
theorem Kin.eq {P Q : List Nd} {a b : Kd} (h : Kin P a) (k : Kin Q b) : P = Q ↔ a = b := by
  constructor
  · intro e
    refine flat_inj h.v k.v ?_
    rw [← h.e, ← k.e, e]
  · intro e
    rw [h.e, k.e, e]
def noneN : List Nd := [⟨49, 0, emp, emp⟩]
def anyN : List Nd := [⟨48, 0, emp, emp⟩]
def kNumN : List Nd := [⟨42, 0, emp, emp⟩]
theorem noneN_kin : Kin noneN (.base 49) := ⟨by unfold Kd.valid baseOp; omega, rfl, by decide⟩
theorem anyN_kin : Kin anyN (.base 48) := ⟨by unfold Kd.valid baseOp; omega, rfl, by decide⟩
theorem numN_kin : Kin kNumN (.base 42) := ⟨by unfold Kd.valid baseOp; omega, rfl, by decide⟩
theorem joined_num : joinE kNumN noneN = 0 ∧ joinV kNumN noneN = kNumN := by
  have e : joinK (.base 42) (.base 49) = .base 42 := join_none rfl
  have h1 : joinE kNumN noneN = 0 := by rw [numN_kin.joinE noneN_kin, e]; rfl
  refine ⟨h1, ?_⟩
  unfold joinV
  rw [if_pos h1, numN_kin.join noneN_kin, e]
  rfl
/-- Below is an order. -/
theorem order_law {P Q R : List Nd} (hP : kindFault P = 0) (hQ : kindFault Q = 0) (hR : kindFault R = 0) :
    belB P P = true ∧ belB noneN P = true ∧ belB P anyN = true ∧ (belB P Q && belB Q P) = decide (cmpNds P Q = 0) ∧ (belB P Q = true → belB Q R = true → belB P R = true) := by
  obtain ⟨a, ha⟩ := kin_of hP
  obtain ⟨b, hb⟩ := kin_of hQ
  obtain ⟨c, hc⟩ := kin_of hR
  rw [ha.bel ha, noneN_kin.bel ha, ha.bel anyN_kin, ha.bel hb, hb.bel ha, hb.bel hc, ha.bel hc]
  refine ⟨below_refl _ a (Nat.le_refl _) ha.v.ok, none_below _ _ rfl, to_any a, ?_, fun h1 h2 => below_trans _ a b c (Nat.le_refl _) ha.v.ok hb.v.ok hc.v.ok h1 h2⟩
  have h := below_both ha.v.ok hb.v.ok
  rw [Bool.eq_iff_iff, Bool.and_eq_true, h, decide_eq_true_iff, cmpNds_cmp.zero, ha.eq hb]
/-- The least above both. -/
theorem least_law {P Q R : List Nd} (h : joinE P Q = 0) :
    kindFault P = 0 ∧ kindFault Q = 0 ∧ kindFault (joinV P Q) = 0 ∧ belB P (joinV P Q) = true ∧ belB Q (joinV P Q) = true ∧ joinE Q P = 0 ∧ joinV Q P = joinV P Q ∧
    (kindFault R = 0 → belB (joinV P Q) R = (belB P R && belB Q R)) := by
  obtain ⟨h1, h2, h3⟩ := join_fine h
  obtain ⟨a, ha⟩ := kin_of h1
  obtain ⟨b, hb⟩ := kin_of h2
  have hj := ha.joined hb h
  obtain ⟨u1, u2⟩ := join_up _ a b (Nat.le_refl _) ha.v.ok hb.v.ok
  have hc := join_comm ha.v.ok hb.v.ok
  have e1 : joinE Q P = 0 := by rw [hb.joinE ha, ← hc, ← ha.joinE hb]; exact h
  refine ⟨h1, h2, hj.zero, by rw [ha.bel hj]; exact u1, by rw [hb.bel hj]; exact u2, e1, ?_, fun hR => ?_⟩
  · rw [((hb.joined ha e1).eq hj).2 hc.symm]
  · obtain ⟨c, hc⟩ := kin_of hR
    rw [hj.bel hc, ha.bel hc, hb.bel hc, Bool.eq_iff_iff, Bool.and_eq_true]
    exact below_join_iff ha.v.ok hb.v.ok hc.v.ok
/-- Whichever two come first. -/
theorem joined_law {P Q R : List Nd} (h1 : joinE P Q = 0) (h2 : joinE Q R = 0) (h3 : joinE (joinV P Q) R = 0) (h4 : joinE P (joinV Q R) = 0) :
    joinV (joinV P Q) R = joinV P (joinV Q R) ∧ joinE P P = 0 ∧ joinV P P = P ∧ bothF Q P = 0 ∧ belB Q P = decide (cmpNds (joinV P Q) P = 0) := by
  obtain ⟨f1, f2, -⟩ := join_fine h1
  obtain ⟨-, f3, -⟩ := join_fine h2
  obtain ⟨a, ha⟩ := kin_of f1
  obtain ⟨b, hb⟩ := kin_of f2
  obtain ⟨c, hc⟩ := kin_of f3
  have hx := ha.joined hb h1
  have hy := hb.joined hc h2
  have hp := hx.joined hc h3
  have hq := ha.joined hy h4
  have hs : joinK a a = a := join_self ha.v.ok
  have e1 : joinE P P = 0 := by
    rw [ha.joinE ha, hs, ← ha.e, if_neg (by have := ha.l; omega)]
  refine ⟨(hp.eq hq).2 (join_assoc ha.v.ok hb.v.ok hc.v.ok), e1, ((ha.joined ha e1).eq ha).2 hs, both_zero.2 ⟨f2, f1⟩, ?_⟩
  rw [hb.bel ha, Bool.eq_iff_iff, decide_eq_true_iff, cmpNds_cmp.zero, hx.eq ha]
  exact (join_iff ha.v.ok hb.v.ok).symm
theorem has_zero {T V : List Nd} : kHasE T V = 0 ↔ kindFault T = 0 ∧ valFault V = 0 := by
  unfold kHasE
  split
  · rename_i h; simp [h]
  · rename_i h; simp [h]
theorem Kin.has {T V : List Nd} {k : Kd} (h : Kin T k) (hv : valFault V = 0) : kHasB T V = belowK (ownV V) k := by
  unfold kHasB
  rw [has_zero.2 ⟨h.zero, hv⟩, h.read]
  rfl
/-- What has the less has the more. -/
theorem fits_law {P Q V : List Nd} (h1 : bothF P Q = 0) (h2 : kHasE P V = 0) (h3 : belB P Q = true) (h4 : kHasB P V = true) : kHasE Q V = 0 ∧ kHasB Q V = true := by
  obtain ⟨f1, f2⟩ := both_zero.1 h1
  obtain ⟨-, fv⟩ := has_zero.1 h2
  obtain ⟨a, ha⟩ := kin_of f1
  obtain ⟨b, hb⟩ := kin_of f2
  rw [ha.bel hb] at h3
  rw [ha.has fv] at h4
  refine ⟨has_zero.2 ⟨f2, fv⟩, ?_⟩
  rw [hb.has fv]
  exact below_trans _ _ a b (Nat.le_refl _) (own_ok (isV_zero.1 fv).2) ha.v.ok hb.v.ok h4 h3
/-- A value has just those types that are above its own. -/
theorem own_law {V T : List Nd} (h : ownE V = 0) : kHasE (ownN V) V = 0 ∧ kHasB (ownN V) V = true ∧ kHasE T V = kindFault T ∧ bothF (ownN V) T = kindFault T ∧ kHasB T V = belB (ownN V) T := by
  have fv : valFault V = 0 ∧ (ownV V).flat.length ≤ 200 := by
    unfold ownE at h
    split at h
    · rename_i h1
      split at h
      · cases h
      · exact ⟨h1, by omega⟩
    · rename_i h1; exact absurd h h1
  obtain ⟨fv, hl⟩ := fv
  have hV := (isV_zero.1 fv).2
  have ho : Kin (ownN V) (ownV V) := by
    unfold ownN
    rw [if_pos h]
    exact ⟨own_valid hV, rfl, hl⟩
  have hT : kHasE T V = kindFault T := by
    unfold kHasE
    split
    · rename_i h1; rw [h1]; exact fv
    · rfl
  refine ⟨has_zero.2 ⟨ho.zero, fv⟩, by rw [ho.has fv]; exact below_refl _ _ (Nat.le_refl _) ho.v.ok, hT, bothF_of ho.zero, ?_⟩
  by_cases h1 : kindFault T = 0
  · obtain ⟨k, hk⟩ := kin_of h1
    rw [hk.has fv, ho.bel hk]
  · have e1 : kHasB T V = false := by unfold kHasB; rw [hT, decide_eq_false h1]; rfl
    have e2 : belB (ownN V) T = false := by unfold belB; rw [bothF_of ho.zero, decide_eq_false h1]; rfl
    rw [e1, e2]
end Go.Wk
namespace Go.Wk

/-- Put into its place. -/
def insP (p : List Nd) : List (List Nd) → List (List Nd)
  | [] => [p]
  | q :: r => if cmpNds p q < 0 then p :: q :: r else if cmpNds p q = 0 then q :: r else q :: insP p r
/-- Each of them once, in order. -/
def setL : List (List Nd) → List (List Nd)
  | [] => []
  | p :: r => insP p (setL r)

theorem mem_insP {p x : List Nd} {l : List (List Nd)} : x ∈ insP p l ↔ x = p ∨ x ∈ l := by
  induction l with
  | nil => simp [insP]
  | cons q r ih =>
    simp only [insP]
    split
    · simp
    · split
      · rename_i h0
        have e := (cmpNds_cmp.zero p q).1 h0
        subst e
        simp
      · simp only [List.mem_cons, ih]
        constructor
        · rintro (h | h | h) <;> simp [h]
        · rintro (h | h | h) <;> simp [h]
theorem mem_setL {x : List Nd} {l : List (List Nd)} : x ∈ setL l ↔ x ∈ l := by
  induction l with
  | nil => simp [setL]
  | cons p r ih => simp only [setL, mem_insP, ih, List.mem_cons]
/-- In order, in pairs. -/
theorem up_pair {l : List (List Nd)} : Up l ↔ l.Pairwise (fun a b => cmpNds a b < 0) := by
  induction l with
  | nil => simp [Up]
  | cons a r ih =>
    rcases r with _ | ⟨b, r⟩
    · simp [Up]
    · simp only [Up, ih]
      constructor
      · rintro ⟨h1, h2⟩
        refine List.pairwise_cons.2 ⟨fun x hx => ?_, h2⟩
        rcases List.mem_cons.1 hx with rfl | hx
        · exact h1
        · have := (List.pairwise_cons.1 h2).1 x hx
          exact cmpNds_cmp.lt_le h1 (by omega)
      · intro h
        exact ⟨(List.pairwise_cons.1 h).1 b (by simp), (List.pairwise_cons.1 h).2⟩
theorem up_insP {p : List Nd} {l : List (List Nd)} (h : Up l) : Up (insP p l) := by
  rw [up_pair] at h ⊢
  induction l with
  | nil => simp [insP]
  | cons q r ih =>
    obtain ⟨h1, h2⟩ := List.pairwise_cons.1 h
    simp only [insP]
    split
    · rename_i hlt
      refine List.pairwise_cons.2 ⟨fun x hx => ?_, h⟩
      rcases List.mem_cons.1 hx with rfl | hx
      · exact hlt
      · have := h1 x hx
        exact cmpNds_cmp.lt_le hlt (by omega)
    · split
      · exact h
      · rename_i hn h0
        refine List.pairwise_cons.2 ⟨fun x hx => ?_, ih h2⟩
        rcases mem_insP.1 hx with rfl | hx
        · have := cmpNds_cmp.anti x q
          omega
        · exact h1 x hx
theorem up_setL (l : List (List Nd)) : Up (setL l) := by
  induction l with
  | nil => trivial
  | cons p r ih => exact up_insP ih
theorem up_tail {a : List Nd} {l : List (List Nd)} (h : Up (a :: l)) : Up l := by
  rw [up_pair] at h ⊢; exact (List.pairwise_cons.1 h).2
/-- A list in order is known by what is in it. -/
theorem up_unique : ∀ {l m : List (List Nd)}, Up l → Up m → (∀ x, x ∈ l ↔ x ∈ m) → l = m := by
  intro l
  induction l with
  | nil =>
    intro m _ _ h
    rcases m with _ | ⟨b, m⟩
    · rfl
    · have := (h b).2 (by simp); cases this
  | cons a l ih =>
    intro m hl hm h
    rcases m with _ | ⟨b, m⟩
    · have := (h a).1 (by simp); cases this
    have pl := up_pair.1 hl
    have pm := up_pair.1 hm
    obtain ⟨l1, l2⟩ := List.pairwise_cons.1 pl
    obtain ⟨m1, m2⟩ := List.pairwise_cons.1 pm
    have e : a = b := by
      rcases List.mem_cons.1 ((h a).1 (by simp)) with e | ha
      · exact e
      rcases List.mem_cons.1 ((h b).2 (by simp)) with e | hb
      · exact e.symm
      have q1 := m1 a ha
      have q2 := l1 b hb
      have := cmpNds_cmp.anti a b
      omega
    subst e
    have hl' := up_tail hl
    have hm' := up_tail hm
    rw [ih hl' hm' fun x => ?_]
    have hx := h x
    simp only [List.mem_cons] at hx
    constructor
    · intro k
      rcases hx.1 (.inr k) with e | k'
      · subst e
        have := l1 x k
        rw [cmpNds_cmp.self] at this
        omega
      · exact k'
    · intro k
      rcases hx.2 (.inr k) with e | k'
      · subst e
        have := m1 x k
        rw [cmpNds_cmp.self] at this
        omega
      · exact k'
theorem setL_of {l m : List (List Nd)} (h : Up m) (hm : ∀ x, x ∈ m ↔ x ∈ l) : setL l = m :=
  up_unique (up_setL l) h fun x => by rw [mem_setL, hm]
theorem setL_congr {l m : List (List Nd)} (h : ∀ x, x ∈ l ↔ x ∈ m) : setL l = setL m :=
  setL_of (up_setL m) fun x => by rw [mem_setL, h]
theorem setL_up {l : List (List Nd)} (h : Up l) : setL l = l := setL_of h fun _ => Iff.rfl
theorem up_lt {l : List (List Nd)} (h : Up l) {i j : Nat} (hij : i < j) (hj : j < l.length) : cmpNds (l[i]'(by omega)) l[j] < 0 :=
  List.pairwise_iff_getElem.1 (up_pair.1 h) i j (by omega) hj hij

/-- The least above one: a step. -/
def above (lo : Option (List Nd)) (p : List Nd) : Bool := match lo with | none => true | some l => decide (cmpNds p l > 0)
def under (cur : Option (List Nd)) (p : List Nd) : Bool := match cur with | none => true | some c => decide (cmpNds p c < 0)
def least (lo cur : Option (List Nd)) (p : List Nd) : Option (List Nd) := if above lo p && under cur p then some p else cur
def leastOf (lo : Option (List Nd)) (l : List (List Nd)) : Option (List Nd) := l.foldl (least lo) none
theorem leastOf_snoc (lo : Option (List Nd)) (l : List (List Nd)) (p : List Nd) : leastOf lo (l ++ [p]) = least lo (leastOf lo l) p := by
  unfold leastOf; rw [List.foldl_append]; rfl
/-- What the least is. -/
def IsLeast (lo : Option (List Nd)) (l : List (List Nd)) : Option (List Nd) → Prop
  | none => ∀ x ∈ l, above lo x = false
  | some m => m ∈ l ∧ above lo m = true ∧ ∀ x ∈ l, above lo x = true → cmpNds m x ≤ 0
theorem least_go (lo : Option (List Nd)) : ∀ (l k : List (List Nd)) (cur : Option (List Nd)), IsLeast lo k cur → IsLeast lo (k ++ l) (l.foldl (least lo) cur) := by
  intro l
  induction l with
  | nil => intro k cur h; simpa using h
  | cons p l ih =>
    intro k cur h
    have e : k ++ p :: l = (k ++ [p]) ++ l := by simp
    rw [e]
    refine ih (k ++ [p]) _ ?_
    unfold least under
    rcases ha : above lo p with _ | _
    · simp only [Bool.false_and, Bool.false_eq_true, if_false]
      rcases cur with _ | c
      · intro x hx
        rcases List.mem_append.1 hx with hx | hx
        · exact h x hx
        · simp only [List.mem_cons, List.not_mem_nil, or_false] at hx
          subst hx; exact ha
      · refine ⟨List.mem_append_left _ h.1, h.2.1, fun x hx hax => ?_⟩
        rcases List.mem_append.1 hx with hx | hx
        · exact h.2.2 x hx hax
        · simp only [List.mem_cons, List.not_mem_nil, or_false] at hx
          subst hx; rw [ha] at hax; cases hax
    · rcases cur with _ | c
      · simp only [Bool.true_and, if_true]
        refine ⟨by simp, ha, fun x hx hax => ?_⟩
        rcases List.mem_append.1 hx with hx | hx
        · rw [h x hx] at hax; cases hax
        · simp only [List.mem_cons, List.not_mem_nil, or_false] at hx
          subst hx; rw [cmpNds_cmp.self]; omega
      · simp only [Bool.true_and, decide_eq_true_eq]
        split
        · rename_i hlt
          refine ⟨by simp, ha, fun x hx hax => ?_⟩
          rcases List.mem_append.1 hx with hx | hx
          · have := h.2.2 x hx hax
            have := cmpNds_cmp.lt_le hlt this
            omega
          · simp only [List.mem_cons, List.not_mem_nil, or_false] at hx
            subst hx; rw [cmpNds_cmp.self]; omega
        · rename_i hge
          refine ⟨List.mem_append_left _ h.1, h.2.1, fun x hx hax => ?_⟩
          rcases List.mem_append.1 hx with hx | hx
          · exact h.2.2 x hx hax
          · simp only [List.mem_cons, List.not_mem_nil, or_false] at hx
            subst hx
            have := cmpNds_cmp.anti x c
            omega
theorem leastOf_is (lo : Option (List Nd)) (l : List (List Nd)) : IsLeast lo l (leastOf lo l) := by
  exact least_go lo l [] none (fun x hx => by cases hx)
/-- The least of all is the first one of the set. -/
theorem leastOf_first (l : List (List Nd)) : leastOf none l = (setL l)[0]? := by
  have h := leastOf_is none l
  rcases hc : leastOf none l with _ | m
  · rw [hc] at h
    have e : l = [] := by
      rcases l with _ | ⟨a, l⟩
      · rfl
      · have := h a (by simp); cases this
    subst e; rfl
  · rw [hc] at h
    obtain ⟨h1, -, h3⟩ := h
    rcases hs : setL l with _ | ⟨b, r⟩
    · have := mem_setL.2 h1; rw [hs] at this; cases this
    · have hb : b ∈ l := mem_setL.1 (by rw [hs]; simp)
      have q := h3 b hb rfl
      have hm : m ∈ b :: r := by rw [← hs]; exact mem_setL.2 h1
      rcases List.mem_cons.1 hm with rfl | hm
      · rfl
      · have hu := up_setL l
        rw [hs, up_pair] at hu
        have := (List.pairwise_cons.1 hu).1 m hm
        have := cmpNds_cmp.anti m b
        omega
/-- The least above one of the set is the next one. -/
theorem leastOf_next (l : List (List Nd)) (i : Nat) (hi : i < (setL l).length) : leastOf (some (setL l)[i]) l = (setL l)[i + 1]? := by
  have h := leastOf_is (some (setL l)[i]) l
  have hu := up_setL l
  rcases hc : leastOf (some (setL l)[i]) l with _ | m
  · rw [hc] at h
    rcases Nat.lt_or_ge (i + 1) (setL l).length with hk | hk
    · have hmem : (setL l)[i + 1] ∈ l := mem_setL.1 (List.getElem_mem hk)
      have := h _ hmem
      have q := up_lt hu (show i < i + 1 by omega) hk
      have a := cmpNds_cmp.anti (setL l)[i] (setL l)[i + 1]
      simp only [above, decide_eq_false_iff_not] at this
      omega
    · rw [List.getElem?_eq_none hk]
  · rw [hc] at h
    obtain ⟨h1, h2, h3⟩ := h
    obtain ⟨j, hj, e⟩ := List.getElem_of_mem (mem_setL.2 h1)
    simp only [above, decide_eq_true_eq] at h2
    have hij : i < j := by
      rcases Nat.lt_or_ge i j with h | h
      · exact h
      rcases Nat.lt_or_ge j i with h' | h'
      · have := up_lt hu h' hi
        rw [e] at this
        omega
      · have : i = j := by omega
        subst this
        rw [← e, cmpNds_cmp.self] at h2
        omega
    have hk : i + 1 < (setL l).length := by omega
    rw [List.getElem?_eq_getElem hk]
    rcases Nat.lt_or_ge (i + 1) j with h | h
    · have q := up_lt hu h hj
      have a := cmpNds_cmp.anti (setL l)[i] (setL l)[i + 1]
      have q2 := up_lt hu (show i < i + 1 by omega) hk
      have := h3 (setL l)[i + 1] (mem_setL.1 (List.getElem_mem hk)) (by simp only [above, decide_eq_true_eq]; omega)
      rw [e] at q
      have := cmpNds_cmp.anti m (setL l)[i + 1]
      omega
    · have : j = i + 1 := by omega
      subst this
      rw [e]

theorem faults_zero {L : List (List Nd)} : faults L = 0 ↔ ∀ P ∈ L, valFault P = 0 := by
  induction L with
  | nil => simp [faults]
  | cons P r ih =>
    simp only [faults, or2, List.mem_cons, forall_eq_or_imp]
    by_cases h : valFault P = 0
    · rw [if_pos h, ih]; exact ⟨fun q => ⟨h, q⟩, fun q => q.2⟩
    · rw [if_neg h]; exact ⟨fun q => absurd q h, fun q => absurd q.1 h⟩
/-- The error of a set of values. -/
def setE (L : List (List Nd)) : Int := or2 (faults L) (if 200 < (setL L).flatten.length + 1 then 4 else 0)
/-- The set of values; nothing, where there is an error. -/
def setV (L : List (List Nd)) : List Nd := if setE L = 0 then setHead (setL L).length :: (setL L).flatten else []
theorem setE_zero {L : List (List Nd)} : setE L = 0 ↔ faults L = 0 ∧ (setL L).flatten.length + 1 ≤ 200 := by
  unfold setE or2
  by_cases h : faults L = 0
  · rw [if_pos h]
    by_cases h2 : 200 < (setL L).flatten.length + 1
    · rw [if_pos h2]; exact ⟨fun q => by omega, fun q => by omega⟩
    · rw [if_neg h2]; exact ⟨fun _ => ⟨h, by omega⟩, fun _ => rfl⟩
  · rw [if_neg h]; exact ⟨fun q => absurd q h, fun q => absurd q.1 h⟩
theorem setE_ways {L : List (List Nd)} (h : faults L = 0) : setE L = 0 ∨ setE L = 4 := by
  unfold setE or2
  rw [if_pos h]
  by_cases h2 : 200 < (setL L).flatten.length + 1
  · rw [if_pos h2]; exact .inr rfl
  · rw [if_neg h2]; exact .inl rfl
theorem setV_eq {L : List (List Nd)} (h : setE L = 0) : setV L = setHead (setL L).length :: (setL L).flatten := if_pos h
theorem setV_err {L : List (List Nd)} (h : setE L ≠ 0) : setV L = [] := if_neg h
theorem setV_isV {L : List (List Nd)} (h : setE L = 0) : valFault (setV L) = 0 ∧ headOp (setV L) = 5 ∧ setParts (setV L) = setL L := by
  obtain ⟨h1, h2⟩ := setE_zero.1 h
  have hV : ∀ Q ∈ setL L, IsV Q := fun Q hQ => (isV_zero.1 (faults_zero.1 h1 Q (mem_setL.1 hQ))).2
  obtain ⟨a, b⟩ := set_isV hV (up_setL L)
  rw [setV_eq h]
  exact ⟨isV_zero.2 ⟨by simp only [List.length_cons]; omega, a⟩, rfl, b⟩
theorem setV_congr {L M : List (List Nd)} (h : ∀ x, x ∈ L ↔ x ∈ M) (h1 : faults L = 0) (h2 : faults M = 0) : setE L = setE M ∧ setV L = setV M := by
  have e := setL_congr h
  have e2 : setE L = setE M := by unfold setE; rw [e, h1, h2]
  exact ⟨e2, by unfold setV; rw [e2, e]⟩
theorem part_le {L : List (List Nd)} {Q : List Nd} (h : Q ∈ L) : Q.length ≤ L.flatten.length := by
  induction L with
  | nil => cases h
  | cons P r ih =>
    simp only [List.flatten_cons, List.length_append]
    rcases List.mem_cons.1 h with rfl | h
    · omega
    · have := ih h; omega
theorem filter_le (L : List (List Nd)) (p : List Nd → Bool) : (L.filter p).flatten.length ≤ L.flatten.length := by
  induction L with
  | nil => simp
  | cons P r ih =>
    simp only [List.filter_cons, List.flatten_cons, List.length_append]
    split
    · simp only [List.flatten_cons, List.length_append]; omega
    · omega
/-- The parts of a set make it. -/
theorem setV_parts {P : List Nd} (h : valFault P = 0) (h5 : headOp P = 5) : faults (setParts P) = 0 ∧ Up (setParts P) ∧ setE (setParts P) = 0 ∧ setV (setParts P) = P := by
  obtain ⟨h1, h2⟩ := isV_zero.1 h
  obtain ⟨a, b, c, d⟩ := isV_set h2 h5
  have hl := congrArg List.length a
  simp only [List.length_cons] at hl
  have hf : faults (setParts P) = 0 := faults_zero.2 fun Q hQ => isV_zero.2 ⟨by have := part_le hQ; omega, c Q hQ⟩
  have he : setE (setParts P) = 0 := setE_zero.2 ⟨hf, by rw [setL_up d]; omega⟩
  exact ⟨hf, d, he, by rw [setV_eq he, setL_up d, ← a]⟩
theorem up_filter {L : List (List Nd)} (h : Up L) (p : List Nd → Bool) : Up (L.filter p) := by
  rw [up_pair] at h ⊢; exact h.filter p
theorem setV_filter {P : List Nd} (h : valFault P = 0) (h5 : headOp P = 5) (p : List Nd → Bool) :
    faults ((setParts P).filter p) = 0 ∧ setL ((setParts P).filter p) = (setParts P).filter p ∧ setE ((setParts P).filter p) = 0 := by
  obtain ⟨a, b, c, d⟩ := setV_parts h h5
  have hf : faults ((setParts P).filter p) = 0 := faults_zero.2 fun Q hQ => faults_zero.1 a Q (List.mem_filter.1 hQ).1
  have e := setL_up (up_filter b p)
  refine ⟨hf, e, setE_zero.2 ⟨hf, ?_⟩⟩
  rw [e]
  have := filter_le (setParts P) p
  have := (setE_zero.1 c).2
  rw [setL_up b] at this
  omega
end Go.Wk
namespace Go.Wk

abbrev Fld := ByteArray × List Nd
def insR (x : Fld) : List Fld → List Fld
  | [] => [x]
  | y :: r => if cmpB x.1 y.1 < 0 then x :: y :: r else y :: insR x r
/-- In the names' order. -/
def sortR : List Fld → List Fld
  | [] => []
  | x :: r => insR x (sortR r)
theorem perm_insR (x : Fld) (l : List Fld) : (insR x l).Perm (x :: l) := by
  induction l with
  | nil => exact List.Perm.refl _
  | cons y r ih =>
    simp only [insR]
    split
    · exact List.Perm.refl _
    · exact (List.Perm.cons y ih).trans (List.Perm.swap x y r)
theorem perm_sortR (l : List Fld) : (sortR l).Perm l := by
  induction l with
  | nil => exact List.Perm.refl _
  | cons x r ih => exact (perm_insR x _).trans (List.Perm.cons x ih)
abbrev RowR (l : List Fld) : Prop := l.Pairwise fun a b => cmpB a.1 b.1 < 0
theorem row_insR {x : Fld} {l : List Fld} (h : RowR l) (hx : ∀ y ∈ l, y.1 ≠ x.1) : RowR (insR x l) := by
  induction l with
  | nil => simp [insR, RowR]
  | cons y r ih =>
    obtain ⟨h1, h2⟩ := List.pairwise_cons.1 h
    simp only [insR]
    split
    · rename_i hlt
      refine List.pairwise_cons.2 ⟨fun z hz => ?_, h⟩
      rcases List.mem_cons.1 hz with rfl | hz
      · exact hlt
      · have := h1 z hz
        exact cmpB_cmp.lt_le hlt (by omega)
    · rename_i hn
      refine List.pairwise_cons.2 ⟨fun z hz => ?_, ih h2 fun z hz => hx z (by simp [hz])⟩
      rcases List.mem_cons.1 ((perm_insR x r).mem_iff.1 hz) with rfl | hz
      · have a := cmpB_cmp.anti z.1 y.1
        have : cmpB z.1 y.1 ≠ 0 := fun e => hx y (by simp) ((cmpB_cmp.zero _ _).1 e).symm
        omega
      · exact h1 z hz
theorem row_sortR {l : List Fld} (h : (l.map (·.1)).Nodup) : RowR (sortR l) := by
  induction l with
  | nil => exact List.Pairwise.nil
  | cons x r ih =>
    simp only [List.map_cons, List.nodup_cons] at h
    refine row_insR (ih h.2) fun y hy e => h.1 ?_
    rw [← e]
    exact List.mem_map_of_mem ((perm_sortR r).mem_iff.1 hy)
theorem row_unique : ∀ {l m : List Fld}, RowR l → RowR m → (∀ x, x ∈ l ↔ x ∈ m) → l = m := by
  intro l
  induction l with
  | nil =>
    intro m _ _ h
    rcases m with _ | ⟨b, m⟩
    · rfl
    · have := (h b).2 (by simp); cases this
  | cons a l ih =>
    intro m hl hm h
    rcases m with _ | ⟨b, m⟩
    · have := (h a).1 (by simp); cases this
    obtain ⟨l1, l2⟩ := List.pairwise_cons.1 hl
    obtain ⟨m1, m2⟩ := List.pairwise_cons.1 hm
    have e : a = b := by
      rcases List.mem_cons.1 ((h a).1 (by simp)) with e | ha
      · exact e
      rcases List.mem_cons.1 ((h b).2 (by simp)) with e | hb
      · exact e.symm
      have q1 := m1 a ha
      have q2 := l1 b hb
      have := cmpB_cmp.anti a.1 b.1
      omega
    subst e
    rw [ih l2 m2 fun x => ?_]
    have hx := h x
    simp only [List.mem_cons] at hx
    constructor
    · intro k
      rcases hx.1 (.inr k) with e | k'
      · subst e
        have := l1 x k
        rw [cmpB_cmp.self] at this
        omega
      · exact k'
    · intro k
      rcases hx.2 (.inr k) with e | k'
      · subst e
        have := m1 x k
        rw [cmpB_cmp.self] at this
        omega
      · exact k'
/-- How many names are ahead of one. -/
def aheadR (Z : List Fld) (s : ByteArray) : Nat := (Z.filter fun y => decide (cmpB y.1 s < 0)).length
theorem aheadR_perm {Z Y : List Fld} (h : Z.Perm Y) (s : ByteArray) : aheadR Z s = aheadR Y s := (h.filter _).length_eq
theorem aheadR_step (Z : List Fld) (s : ByteArray) (k : Nat) (h : k < Z.length) : aheadR (Z.take (k + 1)) s = aheadR (Z.take k) s + if cmpB Z[k].1 s < 0 then 1 else 0 := by
  unfold aheadR
  rw [← List.take_append_getElem h, List.filter_append, List.length_append]
  by_cases hc : cmpB Z[k].1 s < 0
  · simp [hc]
  · simp [hc]
theorem aheadR_le (Z : List Fld) (s : ByteArray) : aheadR Z s ≤ Z.length := List.length_filter_le _ _
theorem aheadR_cut {S : List Fld} {s : ByteArray} {k : Nat} (hk : k ≤ S.length) (h1 : ∀ y ∈ S.take k, cmpB y.1 s < 0) (h2 : ∀ y ∈ S.drop k, ¬ cmpB y.1 s < 0) : aheadR S s = k := by
  unfold aheadR
  conv => lhs; rw [← List.take_append_drop k S]
  rw [List.filter_append, List.filter_eq_self.2 (fun y hy => decide_eq_true (h1 y hy)), List.filter_eq_nil_iff.2 (fun y hy => by rw [decide_eq_true_eq]; exact h2 y hy), List.append_nil, List.length_take]
  omega
theorem aheadR_row {S : List Fld} (h : RowR S) (k : Nat) (hk : k < S.length) : aheadR S S[k].1 = k := by
  refine aheadR_cut (by omega) ?_ ?_
  · intro y hy
    obtain ⟨j, hj, rfl⟩ := List.getElem_of_mem hy
    have hj' : j < k := by simp at hj; omega
    rw [List.getElem_take]
    exact List.pairwise_iff_getElem.1 h j k (by omega) hk hj'
  · intro y hy
    obtain ⟨j, hj, rfl⟩ := List.getElem_of_mem hy
    rw [List.getElem_drop]
    rcases Nat.eq_zero_or_pos j with rfl | h0
    · simp only [Nat.add_zero]; rw [cmpB_cmp.self]; omega
    · have hj' : k + j < S.length := by simp at hj; omega
      have := List.pairwise_iff_getElem.1 h k (k + j) hk hj' (by omega)
      have := cmpB_cmp.anti S[k].1 S[k + j].1
      omega
/-- Just one has so many names ahead of it. -/
theorem pickR {Z : List Fld} (h : (Z.map (·.1)).Nodup) (r : Nat) (hr : r < (sortR Z).length) : (Z.filter fun x => decide (aheadR Z x.1 = r)) = [(sortR Z)[r]] := by
  have hp := perm_sortR Z
  have hrow := row_sortR h
  have e : ((sortR Z).filter fun x => decide (aheadR Z x.1 = r)) = [(sortR Z)[r]] := by
    have hk : ∀ k, (hk : k < (sortR Z).length) → aheadR Z (sortR Z)[k].1 = k := fun k hk => by
      rw [← aheadR_perm hp]; exact aheadR_row hrow k hk
    conv => lhs; rw [← List.take_append_drop r (sortR Z)]
    rw [List.filter_append, List.filter_eq_nil_iff.2, List.nil_append, List.drop_eq_getElem_cons hr, List.filter_cons_of_pos (by rw [hk r hr]; simp), List.filter_eq_nil_iff.2]
    · intro y hy
      obtain ⟨j, hj, rfl⟩ := List.getElem_of_mem hy
      have hj' : r + 1 + j < (sortR Z).length := by simp at hj; omega
      rw [List.getElem_drop, hk _ hj']
      simp; omega
    · intro y hy
      obtain ⟨j, hj, rfl⟩ := List.getElem_of_mem hy
      have hj' : j < r := by simp at hj; omega
      rw [List.getElem_take, hk _ (by omega)]
      simp; omega
  have := (hp.filter fun x => decide (aheadR Z x.1 = r)).symm
  rw [e] at this
  exact List.perm_singleton.1 this
theorem flatR_append (a b : List Fld) : flatR (a ++ b) = flatR a ++ flatR b := by
  induction a with
  | nil => rfl
  | cons x r ih => simp only [List.cons_append, flatR, ih, List.append_assoc]
theorem flatR_perm {a b : List Fld} (h : a.Perm b) : (flatR a).length = (flatR b).length := by
  induction h with
  | nil => rfl
  | cons x _ ih => simp only [flatR, List.length_cons, List.length_append, ih]
  | swap x y l => simp only [flatR, List.length_cons, List.length_append]; omega
  | trans _ _ h1 h2 => exact h1.trans h2
theorem flatR_one (x : Fld) : flatR [x] = fieldN x.1 :: x.2 := by simp [flatR]
theorem flatR_step (Z : List Fld) (k : Nat) (h : k < Z.length) : flatR (Z.take (k + 1)) = flatR (Z.take k) ++ fieldN Z[k].1 :: Z[k].2 := by
  rw [← List.take_append_getElem h, flatR_append, flatR_one]
theorem flatR_take_le (Z : List Fld) (k : Nat) : (flatR (Z.take k)).length ≤ (flatR Z).length := by
  conv => rhs; rw [← List.take_append_drop k Z]
  rw [flatR_append, List.length_append]; omega
def hadB (N : List ByteArray) (s : ByteArray) : Bool := N.any fun y => decide (cmpB y s = 0)
theorem hadB_iff {N : List ByteArray} {s : ByteArray} : hadB N s = true ↔ s ∈ N := by
  unfold hadB
  rw [List.any_eq_true]
  constructor
  · rintro ⟨y, h1, h2⟩
    have e := (cmpB_cmp.zero y s).1 (by simpa using h2)
    subst e; exact h1
  · intro h; exact ⟨s, h, by simp [cmpB_cmp.self]⟩
/-- The first thing wrong with names and values. -/
def recChk : List ByteArray → List Fld → Int
  | _, [] => 0
  | N, x :: r => or2 (nameFault x.1) (or2 (if hadB N x.1 then 6 else 0) (or2 (valFault x.2) (recChk (N ++ [x.1]) r)))
theorem recChk_zero {N : List ByteArray} {Z : List Fld} : recChk N Z = 0 ↔ (∀ x ∈ Z, nameFault x.1 = 0 ∧ valFault x.2 = 0) ∧ (Z.map (·.1)).Nodup ∧ ∀ x ∈ Z, x.1 ∉ N := by
  induction Z generalizing N with
  | nil => simp [recChk]
  | cons x r ih =>
    simp only [recChk, or2]
    by_cases h1 : nameFault x.1 = 0
    · rw [if_pos h1]
      by_cases h2 : x.1 ∈ N
      · rw [if_pos (hadB_iff.2 h2), if_neg (by omega)]
        exact ⟨fun q => by omega, fun q => absurd h2 (q.2.2 x (by simp))⟩
      · rw [if_neg (fun q => h2 (hadB_iff.1 q)), if_pos rfl]
        by_cases h3 : valFault x.2 = 0
        · rw [if_pos h3, ih]
          simp only [List.mem_cons, forall_eq_or_imp, List.map_cons, List.nodup_cons, List.mem_append, List.not_mem_nil, or_false, not_or]
          constructor
          · rintro ⟨a, b, c⟩
            refine ⟨⟨⟨h1, h3⟩, a⟩, ⟨fun q => ?_, b⟩, h2, fun y hy => (c y hy).1⟩
            obtain ⟨y, hy, e⟩ := List.mem_map.1 q
            exact (c y hy).2 e
          · rintro ⟨⟨-, a⟩, ⟨b, c⟩, -, d⟩
            exact ⟨a, c, fun y hy => ⟨d y hy, fun e => b (by rw [← e]; exact List.mem_map_of_mem hy)⟩⟩
        · rw [if_neg h3]
          exact ⟨fun q => absurd q h3, fun q => absurd (q.1 x (by simp)).2 h3⟩
    · rw [if_neg h1]
      exact ⟨fun q => absurd q h1, fun q => absurd (q.1 x (by simp)).1 h1⟩
def recE (N : List ByteArray) (L : List (List Nd)) : Int :=
  if N.length = L.length then or2 (recChk [] (N.zip L)) (if 200 < (flatR (N.zip L)).length + 1 then 4 else 0) else 1
def recV (N : List ByteArray) (L : List (List Nd)) : List Nd := if recE N L = 0 then recHead N.length :: flatR (sortR (N.zip L)) else []
theorem recE_zero {N : List ByteArray} {L : List (List Nd)} : recE N L = 0 ↔ N.length = L.length ∧ recChk [] (N.zip L) = 0 ∧ (flatR (N.zip L)).length + 1 ≤ 200 := by
  unfold recE or2
  by_cases h0 : N.length = L.length
  · rw [if_pos h0]
    by_cases h : recChk [] (N.zip L) = 0
    · rw [if_pos h]
      by_cases h2 : 200 < (flatR (N.zip L)).length + 1
      · rw [if_pos h2]; exact ⟨fun q => by omega, fun q => by omega⟩
      · rw [if_neg h2]; exact ⟨fun _ => ⟨h0, h, by omega⟩, fun _ => rfl⟩
    · rw [if_neg h]; exact ⟨fun q => absurd q h, fun q => absurd q.2.1 h⟩
  · rw [if_neg h0]; exact ⟨fun q => by omega, fun q => absurd q.1 h0⟩
theorem recV_eq {N : List ByteArray} {L : List (List Nd)} (h : recE N L = 0) : recV N L = recHead N.length :: flatR (sortR (N.zip L)) := if_pos h
theorem recV_err {N : List ByteArray} {L : List (List Nd)} (h : recE N L ≠ 0) : recV N L = [] := if_neg h
theorem row_upB {l : List Fld} : ∀ {last : ByteArray}, RowR l → (∀ x ∈ l, cmpB last x.1 < 0) → UpB last l := by
  induction l with
  | nil => intro _ _ _; trivial
  | cons x r ih =>
    intro last h hl
    obtain ⟨h1, h2⟩ := List.pairwise_cons.1 h
    exact ⟨hl x (by simp), ih h2 h1⟩
theorem zip_fst {α β : Type} {N : List α} {L : List β} (h : N.length = L.length) : (N.zip L).map (·.1) = N := by
  rw [List.map_fst_zip]; omega
theorem name_pos {s : ByteArray} (h : nameFault s = 0) : cmpB .empty s < 0 := by
  have hs : 0 < s.size := by
    rcases Nat.eq_zero_or_pos s.size with h0 | h0
    · have e : s = ⟨#[]⟩ := bytes_ext (List.eq_nil_of_length_eq_zero (by rw [Array.length_toList]; exact h0))
      subst e
      exact absurd h (by decide)
    · exact h0
  have h1 : cmpB .empty s ≠ 0 := fun e => by
    have e' := (cmpB_cmp.zero _ _).1 e
    subst e'
    simp at hs
  have := cmpB_cmp.rng .empty s
  have hle : cmpB .empty s ≤ 0 := by
    unfold cmpB
    rcases hd : s.data.toList with _ | ⟨b, r⟩
    · show Lib.compareBytes [] [] ≤ 0; simp [Lib.compareBytes]
    · show Lib.compareBytes [] (b :: r) ≤ 0; simp [Lib.compareBytes]
  omega
theorem recV_isV {N : List ByteArray} {L : List (List Nd)} (h : recE N L = 0) : valFault (recV N L) = 0 ∧ headOp (recV N L) = 6 ∧ recParts (recV N L) = sortR (N.zip L) := by
  obtain ⟨h1, h2, h3⟩ := recE_zero.1 h
  obtain ⟨a, b, -⟩ := recChk_zero.1 h2
  have hp := perm_sortR (N.zip L)
  have hV : ∀ x ∈ sortR (N.zip L), IsV x.2 ∧ nameFault x.1 = 0 := fun x hx =>
    let q := a x (hp.mem_iff.1 hx); ⟨(isV_zero.1 q.2).2, q.1⟩
  obtain ⟨c, d⟩ := rec_isV hV (row_upB (row_sortR b) fun x hx => name_pos (hV x hx).2)
  have hl : (sortR (N.zip L)).length = N.length := by rw [hp.length_eq, List.length_zip]; omega
  rw [hl] at c d
  rw [recV_eq h]
  refine ⟨isV_zero.2 ⟨?_, c⟩, rfl, d⟩
  have := flatR_perm hp
  simp only [List.length_cons]; omega
theorem nodup_rev {α : Type} {l : List α} (h : l.Nodup) : l.reverse.Nodup := by
  unfold List.Nodup at *
  rw [List.pairwise_reverse]
  exact h.imp fun q e => q e.symm
theorem zip_rev {α β : Type} {N : List α} {L : List β} (h : N.length = L.length) : N.reverse.zip L.reverse = (N.zip L).reverse := by
  apply List.ext_getElem
  · simp
  · intro i h1 h2
    simp only [List.getElem_zip, List.getElem_reverse, List.length_zip]
    simp [h]
/-- The other way round it is the same. -/
theorem recV_reverse {N : List ByteArray} {L : List (List Nd)} (h : recE N L = 0) : recE N.reverse L.reverse = 0 ∧ recV N.reverse L.reverse = recV N L := by
  obtain ⟨h1, h2, h3⟩ := recE_zero.1 h
  obtain ⟨a, b, -⟩ := recChk_zero.1 h2
  have ez : N.reverse.zip L.reverse = (N.zip L).reverse := zip_rev h1
  have hr : recE N.reverse L.reverse = 0 := by
    refine recE_zero.2 ⟨by simp [h1], ?_, ?_⟩
    · rw [ez]
      refine recChk_zero.2 ⟨fun x hx => a x (List.mem_reverse.1 hx), ?_, fun x _ => by simp⟩
      rw [List.map_reverse]; exact nodup_rev b
    · rw [ez, flatR_perm (List.reverse_perm _)]; exact h3
  refine ⟨hr, ?_⟩
  rw [recV_eq hr, recV_eq h, List.length_reverse, ez]
  have : sortR (N.zip L).reverse = sortR (N.zip L) := by
    refine row_unique (row_sortR (by rw [List.map_reverse]; exact nodup_rev b)) (row_sortR b) fun x => ?_
    rw [(perm_sortR _).mem_iff, (perm_sortR _).mem_iff, List.mem_reverse]
  rw [this]
end Go.Wk
namespace Go.Wk

/-- A kind of entities. -/
structure KD where
  nm : ByteArray
  up : List ByteArray
  P : List Nd
/-- An act. -/
structure AD where
  id : ByteArray
  who : List ByteArray
  what : List ByteArray
  P : List Nd
/-- The first fault of some names. -/
def namesF : List ByteArray → Int
  | [] => 0
  | s :: r => or2 (nameFault s) (namesF r)
/-- .. of a type that must be one of records. -/
def recF (P : List Nd) : Int := or2 (kindFault P) (if headOp P = 46 then 0 else 2)
/-- .. of a kind, behind those of names N. -/
def kdF (N : List ByteArray) (k : KD) : Int := or2 (nameFault k.nm) (or2 (if hadB N k.nm then 6 else 0) (or2 (if 6 < k.up.length then 4 else 0) (or2 (namesF k.up) (recF k.P))))
def kdsF : List ByteArray → List KD → Int
  | _, [] => 0
  | N, k :: r => or2 (kdF N k) (kdsF (N ++ [k.nm]) r)
def adF (N : List ByteArray) (a : AD) : Int := or2 (textFault a.id) (or2 (if hadB N a.id then 6 else 0) (or2 (if 6 < a.who.length ∨ 6 < a.what.length then 4 else 0) (or2 (namesF a.who) (or2 (namesF a.what) (recF a.P)))))
def adsF : List ByteArray → List AD → Int
  | _, [] => 0
  | N, a :: r => or2 (adF N a) (adsF (N ++ [a.id]) r)
/-- The error of a schema. -/
def schF (K : List KD) (L : List AD) : Int := if 8 < K.length ∨ 8 < L.length then 4 else or2 (kdsF [] K) (adsF [] L)
theorem or2_zero_iff {x y : Int} : or2 x y = 0 ↔ x = 0 ∧ y = 0 := by
  unfold or2
  split
  · rename_i h; simp [h]
  · rename_i h; simp [h]
theorem kdsF_step {K : List KD} {i : Nat} (h : i < K.length) : kdsF ((K.take i).map KD.nm) (K.drop i) = or2 (kdF ((K.take i).map KD.nm) K[i]) (kdsF ((K.take (i + 1)).map KD.nm) (K.drop (i + 1))) := by
  rw [List.drop_eq_getElem_cons h, List.take_succ_eq_append_getElem h, List.map_append]
  rfl
theorem adsF_step {K : List AD} {i : Nat} (h : i < K.length) : adsF ((K.take i).map AD.id) (K.drop i) = or2 (adF ((K.take i).map AD.id) K[i]) (adsF ((K.take (i + 1)).map AD.id) (K.drop (i + 1))) := by
  rw [List.drop_eq_getElem_cons h, List.take_succ_eq_append_getElem h, List.map_append]
  rfl
theorem namesF_step {N : List ByteArray} {i : Nat} (h : i < N.length) : namesF (N.drop i) = or2 (nameFault N[i]) (namesF (N.drop (i + 1))) := by
  rw [List.drop_eq_getElem_cons h]
  rfl
theorem kdsF_all : ∀ (K : List KD) (N : List ByteArray), kdsF N K = 0 → ∀ k ∈ K, recF k.P = 0 ∧ namesF k.up = 0
  | [], _, _, k, hk => by cases hk
  | x :: r, N, h, k, hk => by
    simp only [kdsF, or2_zero_iff, kdF] at h
    rcases List.mem_cons.1 hk with rfl | hk
    · exact ⟨h.1.2.2.2.2, h.1.2.2.2.1⟩
    · exact kdsF_all r _ h.2 k hk
theorem adsF_all : ∀ (K : List AD) (N : List ByteArray), adsF N K = 0 → ∀ k ∈ K, recF k.P = 0
  | [], _, _, k, hk => by cases hk
  | x :: r, N, h, k, hk => by
    simp only [adsF, or2_zero_iff, adF] at h
    rcases List.mem_cons.1 hk with rfl | hk
    · exact h.1.2.2.2.2.2
    · exact adsF_all r _ h.2 k hk
theorem schF_zero {K : List KD} {L : List AD} : schF K L = 0 ↔ K.length ≤ 8 ∧ L.length ≤ 8 ∧ kdsF [] K = 0 ∧ adsF [] L = 0 := by
  unfold schF
  split
  · rename_i h; constructor
    · intro e; cases e
    · intro e; omega
  · rename_i h; rw [or2_zero_iff]; omega
/-- A type that a schema may have: one of records. -/
theorem recF_zero {P : List Nd} (h : recF P = 0) : ∃ f, Kin P (.fs f) := by
  unfold recF at h
  rw [or2_zero_iff] at h
  obtain ⟨h1, h2⟩ := h
  obtain ⟨k, hk⟩ := kin_of h1
  by_cases h46 : headOp P = 46
  · rw [hk.e] at h46
    cases k with
    | base x =>
      have hv : baseOp x := hk.v
      have : headOp (Kd.base x).flat = x := rfl
      unfold baseOp at hv; omega
    | ent s => have : headOp (Kd.ent s).flat = 44 := rfl; omega
    | set q => have : headOp (Kd.set q).flat = 45 := rfl; omega
    | fs f => exact ⟨f, hk⟩
  · rw [if_neg h46] at h2; cases h2
/-- The kind of a name. -/
def kindOf (K : List KD) (s : ByteArray) : Option KD := K.find? fun k => decide (k.nm = s)
def actOf (L : List AD) (s : ByteArray) : Option AD := L.find? fun a => decide (a.id = s)
/-- What is wrong with an entity by its kind: who is above it, its record. -/
def fitF (K : List KD) (u : Ud) (ups : List Ud) (P : List Nd) : Int := match kindOf K u.1 with
  | none => 3
  | some k => if ups.all (fun p => hadB k.up p.1) && kHasB k.P P then 0 else 2
end Go.Wk
namespace Go.Wk

def fldNd (s : ByteArray) (m : Bool) : Nd := ⟨47, if m = true then 1 else 0, s, emp⟩
/-- At q stands a field's node, its type behind it. -/
structure KFld (t : List Nd) (q : Nat) (s : ByteArray) (m : Bool) (k : Kd) : Prop where
  nd : t[q]? = some (fldNd s m)
  valid : k.valid
  drop : ∃ r, t.drop (q + 1) = k.flat ++ r
theorem KFld.end_ {t : List Nd} {q : Nat} {s : ByteArray} {m : Bool} {k : Kd} (h : KFld t q s m k) : kEnd t (q + 1) = ((q + 1 + k.flat.length : Nat) : Int) := by
  obtain ⟨r, e⟩ := h.drop
  exact kEnd_flat h.valid e
theorem flat_pos (k : Kd) : 1 ≤ k.flat.length := by cases k <;> simp [Kd.flat]
theorem KFld.le {t : List Nd} {q : Nat} {s : ByteArray} {m : Bool} {k : Kd} (h : KFld t q s m k) : q + 1 + k.flat.length ≤ t.length := by
  obtain ⟨r, e⟩ := h.drop
  have h1 := congrArg List.length e
  rw [List.length_drop, List.length_append] at h1
  have := flat_pos k
  omega
theorem KFld.seg {t : List Nd} {q : Nat} {s : ByteArray} {m : Bool} {k : Kd} (h : KFld t q s m k) : seg t (q + 1) (q + 1 + k.flat.length) = k.flat := by
  obtain ⟨r, e⟩ := h.drop
  unfold Wk.seg
  rw [e, show q + 1 + k.flat.length - (q + 1) = k.flat.length by omega, List.take_left]
theorem len_list' : ∀ f : Fl, f.list.length = f.len
  | .nil => rfl
  | .cons _ _ _ r => by simp [Fl.list, Fl.len, len_list' r]
theorem posF_len : ∀ (f : Fl) (p : Nat), (posF p f).length = f.len
  | .nil, _ => rfl
  | .cons _ _ _ r, p => by simp [posF, Fl.len, posF_len r]
/-- What is left of the fields from a place on. -/
structure KLeft (t : List Nd) (p : Nat) (g : Fl) : Prop where
  valid : ∃ x, g.validFrom x
  drop : ∃ r, t.drop p = g.flat ++ r
theorem KLeft.head {t : List Nd} {p : Nat} {s : ByteArray} {m : Bool} {k : Kd} {r : Fl} (h : KLeft t p (.cons s m k r)) : KFld t p s m k ∧ KLeft t (p + 1 + k.flat.length) r := by
  obtain ⟨⟨x, v1, v2, v3, v4⟩, ⟨u, e⟩⟩ := h
  simp only [Fl.flat, List.cons_append, List.append_assoc] at e
  have h0 : t[p]? = some (fldNd s m) := by
    have := congrArg (fun l => l[0]?) e
    simpa [fldNd] using this
  have h1 : t.drop (p + 1) = k.flat ++ (r.flat ++ u) := by
    have := congrArg (List.drop 1) e
    rw [List.drop_drop] at this
    simpa using this
  refine ⟨⟨h0, v3, _, h1⟩, ⟨s, v4⟩, u, ?_⟩
  have := congrArg (List.drop k.flat.length) h1
  rw [List.drop_drop, List.drop_left] at this
  exact this
theorem KLeft.start {f : Fl} (h : f.validFrom emp) : KLeft (Kd.fs f).flat 1 f := ⟨⟨_, h⟩, [], by simp [Kd.flat]⟩
theorem KLeft.at {t : List Nd} : ∀ {f : Fl} {p : Nat}, KLeft t p f → ∀ (i : Nat) (y : Kfd), f.list[i]? = some y → ∃ q : Nat, (posF p f)[i]? = some q ∧ KFld t q y.1 y.2.1 y.2.2
  | .nil, _, _, i, y, h => by simp [Fl.list] at h
  | .cons s m k r, p, hL, i, y, h => by
    obtain ⟨h1, h2⟩ := hL.head
    cases i with
    | zero =>
      simp only [Fl.list, List.getElem?_cons_zero, Option.some.injEq] at h
      subst h
      exact ⟨p, by simp [posF], h1⟩
    | succ i =>
      simp only [Fl.list, List.getElem?_cons_succ] at h
      obtain ⟨q, e1, e2⟩ := h2.at i y h
      exact ⟨q, by simpa [posF] using e1, e2⟩
/-- Where the field of a name stands; below 0: nowhere. -/
def posOf : Nat → Fl → ByteArray → Int
  | _, .nil, _ => -1
  | p, .cons t _ k r, s => if t = s then (p : Int) else posOf (p + 1 + k.flat.length) r s
theorem posOf_none {s : ByteArray} : ∀ {f : Fl} {p : Nat}, f.find s = none → posOf p f s = -1
  | .nil, _, _ => rfl
  | .cons t m k r, p, h => by
    simp only [Fl.find] at h
    split at h
    · cases h
    · rename_i hn
      simp only [posOf, if_neg hn]
      exact posOf_none h
theorem posOf_some {t : List Nd} {s : ByteArray} {m : Bool} {k : Kd} : ∀ {f : Fl} {p : Nat}, KLeft t p f → f.find s = some (m, k) → ∃ q : Nat, posOf p f s = (q : Int) ∧ KFld t q s m k
  | .nil, _, _, h => by cases h
  | .cons u m' k' r, p, hL, h => by
    obtain ⟨h1, h2⟩ := hL.head
    simp only [Fl.find] at h
    split at h
    · rename_i e
      subst e
      simp only [Option.some.injEq, Prod.mk.injEq] at h
      obtain ⟨rfl, rfl⟩ := h
      exact ⟨p, by simp [posOf], h1⟩
    · rename_i hn
      obtain ⟨q, e1, e2⟩ := posOf_some h2 h
      exact ⟨q, by simp only [posOf, if_neg hn]; exact e1, e2⟩
/-- Below, as the reference's two loops have it. -/
def oneR (g : Fl) (y : Kfd) : Bool := match g.find y.1 with | none => false | some (_, k') => belowK y.2.2 k'
def mustR (f : Fl) (z : Kfd) : Bool := !z.2.1 || (match f.find z.1 with | none => false | some (m, _) => m)
theorem below_ref {f g : Fl} (hf : f.asc) (hg : g.asc) : (f.list.all (oneR g) && g.list.all (mustR f)) = (belowF f g && mustF g f) := by
  rw [Bool.eq_iff_iff, Bool.and_eq_true, Bool.and_eq_true, belowF_iff hf, mustF_iff hg, List.all_eq_true, List.all_eq_true]
  constructor
  · rintro ⟨h1, h2⟩
    refine ⟨fun s m k hs => ?_, fun s k hs => ?_⟩
    · have h3 := h1 _ ((find_list hf).1 hs)
      unfold oneR at h3
      rcases hg2 : g.find s with _ | ⟨m', k'⟩
      · simp only [hg2] at h3; cases h3
      · simp only [hg2] at h3
        refine ⟨m', k', rfl, fun e => ?_, h3⟩
        subst e
        have h4 := h2 _ ((find_list hg).1 hg2)
        unfold mustR at h4
        simpa [hs] using h4
    · have h4 := h2 _ ((find_list hg).1 hs)
      unfold mustR at h4
      rcases hf2 : f.find s with _ | v
      · simp [hf2] at h4
      · rfl
  · rintro ⟨h1, h2⟩
    refine ⟨fun y hy => ?_, fun z hz => ?_⟩
    · obtain ⟨s, m, k⟩ := y
      obtain ⟨m', k', e1, -, e2⟩ := h1 s m k ((find_list hf).2 hy)
      unfold oneR
      simp only [e1, e2]
    · obtain ⟨s, m, k⟩ := z
      have e1 := (find_list hg).2 hz
      unfold mustR
      cases m with
      | false => rfl
      | true =>
        have h3 := h2 s k e1
        rw [Option.isSome_iff_exists] at h3
        obtain ⟨⟨m1, k1⟩, e2⟩ := h3
        obtain ⟨m', k', e3, e4, -⟩ := h1 s m1 k1 e2
        rw [e1] at e3
        simp only [Option.some.injEq, Prod.mk.injEq] at e3
        simp [e2, e4 e3.1.symm]
/-- The next name: the least above last. -/
def nextStep (last nx s : ByteArray) : ByteArray := if 0 < cmpB s last ∧ (nx = emp ∨ cmpB s nx < 0) then s else nx
theorem emp_least {s : ByteArray} (h : s ≠ emp) : cmpB emp s < 0 := by
  rcases Int.lt_trichotomy (cmpB emp s) 0 with q | q | q
  · exact q
  · exact absurd ((cmpB_cmp.zero _ _).1 q).symm h
  · exfalso
    have h1 : cmpB s emp < 0 := by have := cmpB_cmp.anti emp s; omega
    revert h1
    unfold cmpB
    show Lib.compareBytes s.data.toList [] < 0 → False
    cases s.data.toList <;> simp [Lib.compareBytes]
/-- What is known of the next name behind some of the names. -/
structure NextIs (L : List ByteArray) (last nx : ByteArray) : Prop where
  in_ : nx ≠ emp → nx ∈ L ∧ 0 < cmpB nx last
  low : ∀ s ∈ L, 0 < cmpB s last → nx ≠ emp ∧ ¬ cmpB s nx < 0
theorem NextIs.nil (last : ByteArray) : NextIs [] last emp := ⟨fun h => absurd rfl h, fun _ h => nomatch h⟩
theorem NextIs.step {L : List ByteArray} {last nx s : ByteArray} (h : NextIs L last nx) (hs : s ≠ emp) : NextIs (L ++ [s]) last (nextStep last nx s) := by
  unfold nextStep
  split
  · rename_i hc
    refine ⟨fun _ => ⟨by simp, hc.1⟩, fun u hu hul => ⟨hs, ?_⟩⟩
    rcases List.mem_append.1 hu with h1 | h1
    · obtain ⟨h2, h3⟩ := h.low u h1 hul
      have h4 := hc.2.resolve_left h2
      intro h5
      exact h3 (cmpB_cmp.lt_le h5 (by omega))
    · simp only [List.mem_cons, List.not_mem_nil, or_false] at h1
      subst h1
      rw [cmpB_cmp.self]; omega
  · rename_i hc
    refine ⟨fun hn => ⟨by simp [(h.in_ hn).1], (h.in_ hn).2⟩, fun u hu hul => ?_⟩
    rcases List.mem_append.1 hu with h1 | h1
    · exact h.low u h1 hul
    · simp only [List.mem_cons, List.not_mem_nil, or_false] at h1
      subst h1
      exact ⟨fun e => hc ⟨hul, .inl e⟩, fun e => hc ⟨hul, .inr e⟩⟩
theorem mem_find {f : Fl} {s : ByteArray} : s ∈ f.list.map (·.1) ↔ (f.find s).isSome = true := by
  rcases h : f.find s with _ | v
  · rw [find_none] at h
    simp only [List.mem_map, Option.isSome_none, Bool.false_eq_true, iff_false]
    rintro ⟨y, hy, e⟩
    exact h y hy e
  · simp only [Option.isSome_some, iff_true]
    apply Classical.byContradiction
    intro hn
    have : f.find s = none := find_none.2 fun y hy e => hn (List.mem_map.2 ⟨y, hy, e⟩)
    rw [this] at h; cases h
/-- The fields of the least above both. -/
def joinL (f g : Fl) : List Kfd := (joinF f g (restF g f)).list
def lastN (J : List Kfd) (i : Nat) : ByteArray := match i with | 0 => emp | i + 1 => (J[i]?.map (·.1)).getD emp
theorem valid_ne {x : ByteArray} : ∀ {f : Fl}, f.validFrom x → ∀ y ∈ f.list, y.1 ≠ emp
  | .nil, _, y, hy => by cases hy
  | .cons s m k r, h, y, hy => by
    rcases List.mem_cons.1 hy with rfl | hy
    · intro e
      have h1 := h.2.1
      simp only at e
      rw [e] at h1
      revert h1; decide
    · exact valid_ne h.2.2.2 y hy
theorem joinL_names {f g : Fl} (hf : f.asc) (s : ByteArray) : s ∈ (joinL f g).map (·.1) ↔ s ∈ f.list.map (·.1) ++ g.list.map (·.1) := by
  unfold joinL
  rw [mem_find, join_find hf, List.mem_append, mem_find, mem_find]
  rcases f.find s with _ | ⟨m, k⟩ <;> rcases g.find s with _ | ⟨m', k'⟩ <;> simp [jn]
/-- The next name is that of the next field of the least above both; there is none behind the last one. -/
theorem next_at {f g : Fl} (hf : f.validFrom emp) (hg : g.validFrom emp) (af : f.asc) (ag : g.asc) {i : Nat} (hi : i ≤ (joinL f g).length) {nx : ByteArray} (h : NextIs (f.list.map (·.1) ++ g.list.map (·.1)) (lastN (joinL f g) i) nx) :
    (∀ hl : i < (joinL f g).length, nx = (joinL f g)[i].1 ∧ nx ≠ emp) ∧ (i = (joinL f g).length → nx = emp) := by
  have hp := list_asc (join_asc af ag)
  have hnm := joinL_names (g := g) af
  have hne : ∀ y ∈ joinL f g, y.1 ≠ emp := fun y hy e => by
    have := (hnm y.1).1 (List.mem_map.2 ⟨y, hy, rfl⟩)
    rw [List.mem_append, List.mem_map, List.mem_map] at this
    rcases this with ⟨z, hz, e2⟩ | ⟨z, hz, e2⟩
    · exact valid_ne hf z hz (e2.trans e)
    · exact valid_ne hg z hz (e2.trans e)
  have hp' : (joinL f g).Pairwise fun a b => cmpB a.1 b.1 < 0 := hp
  generalize joinL f g = J at *
  have up : ∀ j (hj : j < J.length), i ≤ j → 0 < cmpB J[j].1 (lastN J i) := fun j hj hij => by
    have h1 : cmpB (lastN J i) J[j].1 < 0 := by
      cases i with
      | zero => exact emp_least (hne _ (List.getElem_mem hj))
      | succ i =>
        have : lastN J (i + 1) = J[i].1 := by simp [lastN, List.getElem?_eq_getElem (show i < J.length by omega)]
        rw [this]
        exact List.pairwise_iff_getElem.1 hp' i j (by omega) hj (by omega)
    have := cmpB_cmp.anti (lastN J i) J[j].1
    omega
  have down : ∀ j (hj : j < J.length), j < i → ¬ 0 < cmpB J[j].1 (lastN J i) := fun j hj hij => by
    cases i with
    | zero => omega
    | succ i =>
      have : lastN J (i + 1) = J[i].1 := by simp [lastN, List.getElem?_eq_getElem (show i < J.length by omega)]
      rw [this]
      rcases Nat.lt_or_ge j i with q | q
      · have := List.pairwise_iff_getElem.1 hp' j i hj (by omega) q
        omega
      · have : j = i := by omega
        subst this
        rw [cmpB_cmp.self]; omega
  constructor
  · intro hl
    have h1 := h.low J[i].1 ((hnm _).1 (List.mem_map.2 ⟨_, List.getElem_mem hl, rfl⟩)) (up i hl (Nat.le_refl _))
    obtain ⟨h2, h3⟩ := h.in_ h1.1
    obtain ⟨y, hy, e⟩ := List.mem_map.1 ((hnm _).2 h2)
    obtain ⟨j, hj, rfl⟩ := List.getElem_of_mem hy
    refine ⟨?_, h1.1⟩
    rcases Nat.lt_trichotomy j i with q | q | q
    · exact absurd (e ▸ h3) (down j hj q)
    · subst q; exact e.symm
    · have := List.pairwise_iff_getElem.1 hp' i j hl hj q
      rw [e] at this
      exact absurd this h1.2
  · intro he
    apply Decidable.byContradiction
    intro hn
    obtain ⟨h2, h3⟩ := h.in_ hn
    obtain ⟨y, hy, e⟩ := List.mem_map.1 ((hnm _).2 h2)
    obtain ⟨j, hj, rfl⟩ := List.getElem_of_mem hy
    exact down j hj (by omega) (e ▸ h3)
/-- What the next field is. -/
theorem join_at {f g : Fl} (af : f.asc) (ag : g.asc) {i : Nat} (hi : i < (joinL f g).length) : jn (f.find (joinL f g)[i].1) (g.find (joinL f g)[i].1) = some ((joinL f g)[i].2.1, (joinL f g)[i].2.2) := by
  rw [← join_find af]
  exact (find_list (join_asc af ag)).2 (List.getElem_mem hi)
theorem flat_eq : ∀ n : Nat, (∀ k : Kd, k.sz ≤ n → k.flat.length = k.sz) ∧ (∀ f : Fl, f.sz ≤ n → f.flat.length = f.sz)
  | 0 => by
    refine ⟨fun k h => by cases k <;> simp [Kd.sz] at h, fun f h => ?_⟩
    cases f with
    | nil => rfl
    | cons s m k r => simp [Fl.sz] at h
  | n + 1 => by
    obtain ⟨ihK, ihF⟩ := flat_eq n
    refine ⟨fun k h => ?_, fun f h => ?_⟩
    · cases k with
      | base x => rfl
      | ent s => rfl
      | set p => simp only [Kd.sz] at h; simp only [Kd.flat, Kd.sz, List.length_cons]; rw [ihK p (by omega)]
      | fs f => simp only [Kd.sz] at h; simp only [Kd.flat, Kd.sz, List.length_cons]; rw [ihF f (by omega)]
    · cases f with
      | nil => rfl
      | cons s m k r =>
        simp only [Fl.sz] at h
        simp only [Fl.flat, Fl.sz, List.length_cons, List.length_append]
        rw [ihK k (by omega), ihF r (by omega)]
theorem flat_len (k : Kd) : k.flat.length = k.sz := (flat_eq _).1 k (Nat.le_refl _)
theorem flat_lenF (f : Fl) : f.flat.length = f.sz := (flat_eq _).2 f (Nat.le_refl _)
theorem ofL_flat_snoc (L : List Kfd) (y : Kfd) : (ofL (L ++ [y])).flat = (ofL L).flat ++ (fldNd y.1 y.2.1 :: y.2.2.flat) := by
  induction L with
  | nil => simp [ofL, Fl.flat, fldNd]
  | cons z r ih => simp only [List.cons_append, ofL, Fl.flat, ih, List.append_assoc]
/-- What joinRecs has written ahead of its i-th round. -/
def outJ (n : Int) (J : List Kfd) (i : Nat) : List Nd := ⟨46, n, emp, emp⟩ :: (ofL (J.take i)).flat
theorem outJ_step {J : List Kfd} {i : Nat} (h : i < J.length) (n : Int) : outJ n J (i + 1) = ⟨46, n, emp, emp⟩ :: ((ofL (J.take i)).flat ++ [fldNd J[i].1 J[i].2.1] ++ J[i].2.2.flat) := by
  unfold outJ
  rw [List.take_succ_eq_append_getElem h, ofL_flat_snoc, List.append_assoc]
  rfl
theorem outJ_all {f g : Fl} : outJ ((joinL f g).length : Int) (joinL f g) (joinL f g).length = (Kd.fs (joinF f g (restF g f))).flat := by
  unfold outJ joinL
  rw [List.take_length, list_ofL, len_list', Kd.flat]
theorem ofL_take_sz : ∀ (J : List Kfd) (i : Nat), (ofL (J.take i)).sz ≤ (ofL J).sz
  | [], _ => by simp
  | y :: r, 0 => by simp [ofL, Fl.sz]
  | y :: r, i + 1 => by
    have := ofL_take_sz r i
    simp only [List.take_succ_cons, ofL, Fl.sz]
    omega
theorem outJ_len (n : Int) (J : List Kfd) (i : Nat) : (outJ n J i).length ≤ (ofL J).sz + 1 := by
  unfold outJ
  rw [List.length_cons, flat_lenF]
  have := ofL_take_sz J i
  omega
theorem name_small {s : ByteArray} (h : nameFault s = 0) : s.size ≤ 20 := by
  unfold nameFault at h
  split at h
  · split at h
    · cases h
    · omega
  · cases h
theorem valid_mem : ∀ {f : Fl} {x : ByteArray}, f.validFrom x → ∀ y ∈ f.list, nameFault y.1 = 0 ∧ y.2.2.valid
  | .nil, _, _, y, hy => by cases hy
  | .cons s m k r, _, h, y, hy => by
    rcases List.mem_cons.1 hy with rfl | hy
    · exact ⟨h.2.1, h.2.2.1⟩
    · exact valid_mem h.2.2.2 y hy
end Go.Wk
namespace Go.Wk

/-- A part of a record has the type that its field has. -/
def hasOne (f : Fl) (x : ByteArray × List Nd) : Bool := match f.find x.1 with | none => false | some (_, k) => belowK (ownV x.2) k
/-- What must be there is. -/
def hasMust (R : List (ByteArray × List Nd)) (z : Kfd) : Bool := !z.2.1 || R.any fun x => decide (x.1 = z.1)
theorem has_rec {P : List Nd} (hP : IsV P) (h : headOp P = 6) {f : Fl} (hf : f.asc) : belowK (ownV P) (.fs f) = ((recParts P).all (hasOne f) && f.list.all (hasMust (recParts P))) := by
  rw [Bool.eq_iff_iff, own_rec hP h hf, Bool.and_eq_true, List.all_eq_true, List.all_eq_true]
  constructor
  · rintro ⟨h1, h2⟩
    refine ⟨fun x hx => ?_, fun z hz => ?_⟩
    · obtain ⟨m, k, e1, e2⟩ := h1 x hx
      unfold hasOne
      rw [e1]; exact e2
    · obtain ⟨s, m, k⟩ := z
      unfold hasMust
      cases m with
      | false => rfl
      | true =>
        obtain ⟨x, hx, e⟩ := h2 s k ((find_list hf).2 hz)
        simp only [Bool.not_true, Bool.false_or, List.any_eq_true, decide_eq_true_eq]
        exact ⟨x, hx, e⟩
  · rintro ⟨h1, h2⟩
    refine ⟨fun x hx => ?_, fun s k hs => ?_⟩
    · have h3 := h1 x hx
      unfold hasOne at h3
      rcases hfd : f.find x.1 with _ | ⟨m, k⟩
      · rw [hfd] at h3; cases h3
      · rw [hfd] at h3
        exact ⟨m, k, rfl, h3⟩
    · have h3 := h2 _ ((find_list hf).1 hs)
      unfold hasMust at h3
      simp only [Bool.not_true, Bool.false_or, List.any_eq_true, decide_eq_true_eq] at h3
      exact h3
theorem has_set {P : List Nd} (hP : IsV P) (h : headOp P = 5) {q : Kd} (hq : q.ok) : belowK (ownV P) (.set q) = (setParts P).all fun Q => belowK (ownV Q) q := by
  rw [Bool.eq_iff_iff, own_set hP h hq, List.all_eq_true]
theorem has_base {P : List Nd} (hP : IsV P) {x : Int} (hx : baseOp x) (h48 : x ≠ 48) : belowK (ownV P) (.base x) = decide (headOp P = x - 40) := by
  have hb : x = 41 ∨ x = 42 ∨ x = 43 ∨ x = 49 := by unfold baseOp at hx; omega
  have hd : ∀ n : Nat, headOp P = n → decide (headOp P = x - 40) = decide ((n : Int) = x - 40) := fun n e => by rw [e]
  rcases isV_op hP with h | h | h | h | h | h
  all_goals
    unfold ownV ownK
    simp only [h]
    rcases hb with rfl | rfl | rfl | rfl <;> simp [belowK, isAny]
theorem has_ent {P : List Nd} (hP : IsV P) {s : ByteArray} : belowK (ownV P) (.ent s) = (decide (headOp P = 4) && decide (headS P = s)) := by
  rcases isV_op hP with h | h | h | h | h | h
  all_goals
    unfold ownV ownK
    simp only [h]
    simp [belowK, isAny]
theorem has_not {P : List Nd} (hP : IsV P) {k : Kd} (h : (∃ q, k = .set q) ∧ headOp P ≠ 5 ∨ (∃ f, k = .fs f) ∧ headOp P ≠ 6) : belowK (ownV P) k = false := by
  rcases h with ⟨⟨q, rfl⟩, hn⟩ | ⟨⟨f, rfl⟩, hn⟩
  · rcases isV_op hP with h | h | h | h | h | h
    · unfold ownV ownK; simp [h, belowK, isAny]
    · unfold ownV ownK; simp [h, belowK, isAny]
    · unfold ownV ownK; simp [h, belowK, isAny]
    · unfold ownV ownK; simp [h, belowK, isAny]
    · exact absurd h hn
    · unfold ownV ownK; simp [h, belowK, isAny]
  · rcases isV_op hP with h | h | h | h | h | h
    · unfold ownV ownK; simp [h, belowK, isAny]
    · unfold ownV ownK; simp [h, belowK, isAny]
    · unfold ownV ownK; simp [h, belowK, isAny]
    · unfold ownV ownK; simp [h, belowK, isAny]
    · unfold ownV ownK; simp [h, belowK, isAny]
    · exact absurd h hn
theorem parts_len_le : ∀ L : List (List Nd), (∀ Q ∈ L, IsV Q) → L.length ≤ L.flatten.length
  | [], _ => Nat.zero_le _
  | Q :: L, h => by
    have := (h Q (by simp)).pos
    have := parts_len_le L (fun R hR => h R (by simp [hR]))
    simp only [List.length_cons, List.flatten_cons, List.length_append]
    omega
theorem set_len200 {P : List Nd} (hl : P.length ≤ 200) (hV : IsV P) (h5 : headOp P = 5) : (setParts P).length ≤ 200 := by
  obtain ⟨e, -, h3, -⟩ := isV_set hV h5
  have := congrArg List.length e
  have := parts_len_le _ h3
  simp only [List.length_cons] at *
  omega
theorem flatR_name {L : List (ByteArray × List Nd)} {x : ByteArray × List Nd} (h : x ∈ L) : ∃ y ∈ flatR L, y.s = x.1 := by
  induction L with
  | nil => cases h
  | cons a r ih =>
    rcases List.mem_cons.1 h with rfl | h
    · exact ⟨fieldN x.1, by simp [flatR], rfl⟩
    · obtain ⟨y, hy, e⟩ := ih h
      exact ⟨y, by simp [flatR, hy], e⟩
theorem rec_name_in {P : List Nd} (hV : IsV P) (h6 : headOp P = 6) {x : ByteArray × List Nd} (hx : x ∈ recParts P) : ∃ y ∈ P, y.s = x.1 := by
  obtain ⟨e, -, -, -⟩ := isV_rec hV h6
  obtain ⟨y, hy, ey⟩ := flatR_name hx
  exact ⟨y, by rw [e]; simp [hy], ey⟩
end Go.Wk
