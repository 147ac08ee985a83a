/-
  Plain: types and values as nodes that are handed in: below, joined, had, own. No program in sight.
-/
import Derived.Test.YtmekockjgldndaaGreatDoorQc5
namespace Go.Wk

/-- The first fault of two types. -/
def bothF (P Q : List Nd) : Int := if kindFault P = 0 then kindFault Q else kindFault P
/-- Is the one below the other? -/
def belB (P Q : List Nd) : Bool := decide (bothF P Q = 0) && (match readK P, readK Q with
  | some a, some b => belowK a b
  | _, _ => false)
/-- The least above both. -/
def joinN (P Q : List Nd) : List Nd := match readK P, readK Q with
  | some a, some b => (joinK a b).flat
  | _, _ => []
def joinE (P Q : List Nd) : Int := if bothF P Q = 0 then (if 200 < (joinN P Q).length then 4 else 0) else bothF P Q
def joinV (P Q : List Nd) : List Nd := if joinE P Q = 0 then joinN P Q else []
/-- What a type and a value tell. -/
def kHasE (T V : List Nd) : Int := if kindFault T = 0 then valFault V else kindFault T
def kHasB (T V : List Nd) : Bool := decide (kHasE T V = 0) && (match readK T with
  | some k => belowK (ownV V) k
  | none => false)
def ownE (V : List Nd) : Int := if valFault V = 0 then (if 200 < (ownV V).flat.length then 4 else 0) else valFault V
def ownN (V : List Nd) : List Nd := if ownE V = 0 then (ownV V).flat else []

theorem read_flat {k : Kd} (h : k.valid) : readK k.flat = some k := readK_iff.2 ⟨h, rfl⟩
theorem both_zero {P Q : List Nd} : bothF P Q = 0 ↔ kindFault P = 0 ∧ kindFault Q = 0 := by
  unfold bothF
  split
  · rename_i h; simp [h]
  · rename_i h; simp [h]
theorem bothF_of {P Q : List Nd} (h : kindFault P = 0) : bothF P Q = kindFault Q := by unfold bothF; rw [if_pos h]
/-- A type that may be handed in. -/
structure Kin (P : List Nd) (k : Kd) : Prop where
  v : k.valid
  e : P = k.flat
  l : P.length ≤ 200
theorem kin_of {P : List Nd} (h : kindFault P = 0) : ∃ k, Kin P k := by
  obtain ⟨h1, k, h2, h3⟩ := kindFault_zero.1 h
  exact ⟨k, h2, h3, h1⟩
theorem Kin.zero {P : List Nd} {k : Kd} (h : Kin P k) : kindFault P = 0 := kindFault_zero.2 ⟨h.l, k, h.v, h.e⟩
theorem Kin.read {P : List Nd} {k : Kd} (h : Kin P k) : readK P = some k := readK_iff.2 ⟨h.v, h.e⟩
theorem Kin.bel {P Q : List Nd} {a b : Kd} (h : Kin P a) (k : Kin Q b) : belB P Q = belowK a b := by
  unfold belB
  rw [both_zero.2 ⟨h.zero, k.zero⟩, h.read, k.read]
  rfl
theorem Kin.join {P Q : List Nd} {a b : Kd} (h : Kin P a) (k : Kin Q b) : joinN P Q = (joinK a b).flat := by
  unfold joinN
  rw [h.read, k.read]
theorem Kin.joinE {P Q : List Nd} {a b : Kd} (h : Kin P a) (k : Kin Q b) : joinE P Q = if 200 < (joinK a b).flat.length then 4 else 0 := by
  unfold Go.Wk.joinE
  rw [if_pos (both_zero.2 ⟨h.zero, k.zero⟩), h.join k]
theorem join_fine {P Q : List Nd} (h : joinE P Q = 0) : kindFault P = 0 ∧ kindFault Q = 0 ∧ (joinN P Q).length ≤ 200 := by
  unfold joinE at h
  split at h
  · rename_i h1
    obtain ⟨h2, h3⟩ := both_zero.1 h1
    split at h
    · cases h
    · exact ⟨h2, h3, by omega⟩
  · rename_i h1; exact absurd h h1
theorem Kin.joined {P Q : List Nd} {a b : Kd} (h : Kin P a) (k : Kin Q b) (hj : Go.Wk.joinE P Q = 0) : Kin (joinV P Q) (joinK a b) := by
  obtain ⟨-, -, hl⟩ := join_fine hj
  unfold joinV
  rw [if_pos hj]
  rw [h.join k] at hl ⊢
  exact ⟨join_valid _ a b (Nat.le_refl _) h.v k.v, rfl, hl⟩
theorem Kin.eq {P Q : List Nd} {a b : Kd} (h : Kin P a) (k : Kin Q b) : P = Q ↔ a = b := by
  constructor
  · intro e
    refine flat_inj h.v k.v ?_
    rw [← h.e, ← k.e, e]
  · intro e
    rw [h.e, k.e, e]
def noneN : List Nd := [⟨49, 0, emp, emp⟩]
def anyN : List Nd := [⟨48, 0, emp, emp⟩]
def kNumN : List Nd := [⟨42, 0, emp, emp⟩]
theorem noneN_kin : Kin noneN (.base 49) := ⟨by unfold Kd.valid baseOp; omega, rfl, by decide⟩
theorem anyN_kin : Kin anyN (.base 48) := ⟨by unfold Kd.valid baseOp; omega, rfl, by decide⟩
theorem numN_kin : Kin kNumN (.base 42) := ⟨by unfold Kd.valid baseOp; omega, rfl, by decide⟩
theorem joined_num : joinE kNumN noneN = 0 ∧ joinV kNumN noneN = kNumN := by
  have e : joinK (.base 42) (.base 49) = .base 42 := join_none rfl
  have h1 : joinE kNumN noneN = 0 := by rw [numN_kin.joinE noneN_kin, e]; rfl
  refine ⟨h1, ?_⟩
  unfold joinV
  rw [if_pos h1, numN_kin.join noneN_kin, e]
  rfl
/-- Below is an order. -/
theorem order_law {P Q R : List Nd} (hP : kindFault P = 0) (hQ : kindFault Q = 0) (hR : kindFault R = 0) :
    belB P P = true ∧ belB noneN P = true ∧ belB P anyN = true ∧ (belB P Q && belB Q P) = decide (cmpNds P Q = 0) ∧ (belB P Q = true → belB Q R = true → belB P R = true) := by
  obtain ⟨a, ha⟩ := kin_of hP
  obtain ⟨b, hb⟩ := kin_of hQ
  obtain ⟨c, hc⟩ := kin_of hR
  rw [ha.bel ha, noneN_kin.bel ha, ha.bel anyN_kin, ha.bel hb, hb.bel ha, hb.bel hc, ha.bel hc]
  refine ⟨below_refl _ a (Nat.le_refl _) ha.v.ok, none_below _ _ rfl, to_any a, ?_, fun h1 h2 => below_trans _ a b c (Nat.le_refl _) ha.v.ok hb.v.ok hc.v.ok h1 h2⟩
  have h := below_both ha.v.ok hb.v.ok
  rw [Bool.eq_iff_iff, Bool.and_eq_true, h, decide_eq_true_iff, cmpNds_cmp.zero, ha.eq hb]
/-- The least above both. -/
theorem least_law {P Q R : List Nd} (h : joinE P Q = 0) :
    kindFault P = 0 ∧ kindFault Q = 0 ∧ kindFault (joinV P Q) = 0 ∧ belB P (joinV P Q) = true ∧ belB Q (joinV P Q) = true ∧ joinE Q P = 0 ∧ joinV Q P = joinV P Q ∧
    (kindFault R = 0 → belB (joinV P Q) R = (belB P R && belB Q R)) := by
  obtain ⟨h1, h2, h3⟩ := join_fine h
  obtain ⟨a, ha⟩ := kin_of h1
  obtain ⟨b, hb⟩ := kin_of h2
  have hj := ha.joined hb h
  obtain ⟨u1, u2⟩ := join_up _ a b (Nat.le_refl _) ha.v.ok hb.v.ok
  have hc := join_comm ha.v.ok hb.v.ok
  have e1 : joinE Q P = 0 := by rw [hb.joinE ha, ← hc, ← ha.joinE hb]; exact h
  refine ⟨h1, h2, hj.zero, by rw [ha.bel hj]; exact u1, by rw [hb.bel hj]; exact u2, e1, ?_, fun hR => ?_⟩
  · rw [((hb.joined ha e1).eq hj).2 hc.symm]
  · obtain ⟨c, hc⟩ := kin_of hR
    rw [hj.bel hc, ha.bel hc, hb.bel hc, Bool.eq_iff_iff, Bool.and_eq_true]
    exact below_join_iff ha.v.ok hb.v.ok hc.v.ok
/-- Whichever two come first. -/
theorem joined_law {P Q R : List Nd} (h1 : joinE P Q = 0) (h2 : joinE Q R = 0) (h3 : joinE (joinV P Q) R = 0) (h4 : joinE P (joinV Q R) = 0) :
    joinV (joinV P Q) R = joinV P (joinV Q R) ∧ joinE P P = 0 ∧ joinV P P = P ∧ bothF Q P = 0 ∧ belB Q P = decide (cmpNds (joinV P Q) P = 0) := by
  obtain ⟨f1, f2, -⟩ := join_fine h1
  obtain ⟨-, f3, -⟩ := join_fine h2
  obtain ⟨a, ha⟩ := kin_of f1
  obtain ⟨b, hb⟩ := kin_of f2
  obtain ⟨c, hc⟩ := kin_of f3
  have hx := ha.joined hb h1
  have hy := hb.joined hc h2
  have hp := hx.joined hc h3
  have hq := ha.joined hy h4
  have hs : joinK a a = a := join_self ha.v.ok
  have e1 : joinE P P = 0 := by
    rw [ha.joinE ha, hs, ← ha.e, if_neg (by have := ha.l; omega)]
  refine ⟨(hp.eq hq).2 (join_assoc ha.v.ok hb.v.ok hc.v.ok), e1, ((ha.joined ha e1).eq ha).2 hs, both_zero.2 ⟨f2, f1⟩, ?_⟩
  rw [hb.bel ha, Bool.eq_iff_iff, decide_eq_true_iff, cmpNds_cmp.zero, hx.eq ha]
  exact (join_iff ha.v.ok hb.v.ok).symm
theorem has_zero {T V : List Nd} : kHasE T V = 0 ↔ kindFault T = 0 ∧ valFault V = 0 := by
  unfold kHasE
  split
  · rename_i h; simp [h]
  · rename_i h; simp [h]
theorem Kin.has {T V : List Nd} {k : Kd} (h : Kin T k) (hv : valFault V = 0) : kHasB T V = belowK (ownV V) k := by
  unfold kHasB
  rw [has_zero.2 ⟨h.zero, hv⟩, h.read]
  rfl
/-- What has the less has the more. -/
theorem fits_law {P Q V : List Nd} (h1 : bothF P Q = 0) (h2 : kHasE P V = 0) (h3 : belB P Q = true) (h4 : kHasB P V = true) : kHasE Q V = 0 ∧ kHasB Q V = true := by
  obtain ⟨f1, f2⟩ := both_zero.1 h1
  obtain ⟨-, fv⟩ := has_zero.1 h2
  obtain ⟨a, ha⟩ := kin_of f1
  obtain ⟨b, hb⟩ := kin_of f2
  rw [ha.bel hb] at h3
  rw [ha.has fv] at h4
  refine ⟨has_zero.2 ⟨f2, fv⟩, ?_⟩
  rw [hb.has fv]
  exact below_trans _ _ a b (Nat.le_refl _) (own_ok (isV_zero.1 fv).2) ha.v.ok hb.v.ok h4 h3
/-- A value has just those types that are above its own. -/
theorem own_law {V T : List Nd} (h : ownE V = 0) : kHasE (ownN V) V = 0 ∧ kHasB (ownN V) V = true ∧ kHasE T V = kindFault T ∧ bothF (ownN V) T = kindFault T ∧ kHasB T V = belB (ownN V) T := by
  have fv : valFault V = 0 ∧ (ownV V).flat.length ≤ 200 := by
    unfold ownE at h
    split at h
    · rename_i h1
      split at h
      · cases h
      · exact ⟨h1, by omega⟩
    · rename_i h1; exact absurd h h1
  obtain ⟨fv, hl⟩ := fv
  have hV := (isV_zero.1 fv).2
  have ho : Kin (ownN V) (ownV V) := by
    unfold ownN
    rw [if_pos h]
    exact ⟨own_valid hV, rfl, hl⟩
  have hT : kHasE T V = kindFault T := by
    unfold kHasE
    split
    · rename_i h1; rw [h1]; exact fv
    · rfl
  refine ⟨has_zero.2 ⟨ho.zero, fv⟩, by rw [ho.has fv]; exact below_refl _ _ (Nat.le_refl _) ho.v.ok, hT, bothF_of ho.zero, ?_⟩
  by_cases h1 : kindFault T = 0
  · obtain ⟨k, hk⟩ := kin_of h1
    rw [hk.has fv, ho.bel hk]
  · have e1 : kHasB T V = false := by unfold kHasB; rw [hT, decide_eq_false h1]; rfl
    have e2 : belB (ownN V) T = false := by unfold belB; rw [bothF_of ho.zero, decide_eq_false h1]; rfl
    rw [e1, e2]
end Go.Wk
