/-
  Plain: a text between quotes, and what was quoted; a uid as a text. No program in sight.
  Plain: a store of entities, who is above whom. No program in sight.
-/
import Derived.Test.YtcdpoamiejompaaGreatDoorQe2
namespace Go.Wk

/-- A text's bytes, a sign ahead of a quote and of a sign. -/
def quo : List UInt8 → List UInt8
  | [] => []
  | b :: r => if b = 34 ∨ b = 92 then 92 :: b :: quo r else b :: quo r
theorem quo_length (l : List UInt8) : l.length ≤ (quo l).length ∧ (quo l).length ≤ 2 * l.length := by
  induction l with
  | nil => simp [quo]
  | cons b r ih =>
    by_cases h : b = 34 ∨ b = 92
    · rw [quo, if_pos h]; simp only [List.length_cons]; omega
    · rw [quo, if_neg h]; simp only [List.length_cons]; omega
theorem quo_append (a b : List UInt8) : quo (a ++ b) = quo a ++ quo b := by
  induction a with
  | nil => rfl
  | cons x r ih =>
    by_cases h : x = 34 ∨ x = 92
    · simp only [List.cons_append, quo, if_pos h, ih]
    · simp only [List.cons_append, quo, if_neg h, ih]
theorem quo_count (l : List UInt8) : (quo l).length = l.length + l.count 34 + l.count 92 := by
  induction l with
  | nil => rfl
  | cons b r ih =>
    by_cases h1 : b = 34
    · subst h1; simp only [quo, true_or, if_true, List.length_cons, List.count_cons_self, ih, List.count_cons_of_ne (show (34 : UInt8) ≠ 92 by decide)]; omega
    · by_cases h2 : b = 92
      · subst h2; simp only [quo, or_true, if_true, List.length_cons, List.count_cons_self, ih, List.count_cons_of_ne (show (92 : UInt8) ≠ 34 by decide)]; omega
      · simp only [quo, if_neg (show ¬ (b = 34 ∨ b = 92) from fun e => e.elim h1 h2), List.length_cons, ih, List.count_cons_of_ne h1, List.count_cons_of_ne h2]; omega
theorem quo_none {l : List UInt8} (h1 : l.count 34 = 0) (h2 : l.count 92 = 0) : quo l = l := by
  induction l with
  | nil => rfl
  | cons b r ih =>
    have a1 : b ≠ 34 := fun e => by subst e; simp at h1
    have a2 : b ≠ 92 := fun e => by subst e; simp at h2
    rw [List.count_cons_of_ne a1] at h1
    rw [List.count_cons_of_ne a2] at h2
    rw [quo, if_neg (fun e => e.elim a1 a2), ih h1 h2]

def bytesOf (l : List UInt8) : ByteArray := ⟨l.toArray⟩
theorem bytesOf_data (l : List UInt8) : (bytesOf l).data.toList = l := by simp [bytesOf]
theorem bytesOf_size (l : List UInt8) : (bytesOf l).size = l.length := List.size_toArray
theorem bytesOf_of (s : ByteArray) : bytesOf s.data.toList = s := bytes_ext (bytesOf_data _)
/-- A text between quotes. -/
def quoted (s : ByteArray) : ByteArray := bytesOf (34 :: quo s.data.toList ++ [34])
def quoV (s : ByteArray) : ByteArray := if textFault s = 0 then quoted s else ⟨#[]⟩
/-- What stands between a text's first byte and its last. -/
def body (s : ByteArray) : List UInt8 := (s.data.toList.drop 1).take (s.size - 2)
/-- Does a text stand between quotes? -/
def inQ (s : ByteArray) : Prop := 2 ≤ s.size ∧ s.data.toList[0]? = some 34 ∧ s.data.toList[s.size - 1]? = some 34
instance (s : ByteArray) : Decidable (inQ s) := by unfold inQ; infer_instance
theorem size_toList (s : ByteArray) : s.data.toList.length = s.size := by simp
theorem quoted_data (s : ByteArray) : (quoted s).data.toList = 34 :: quo s.data.toList ++ [34] := bytesOf_data _
theorem quoted_size (s : ByteArray) : (quoted s).size = (quo s.data.toList).length + 2 := by
  unfold quoted; rw [bytesOf_size]; simp
end Go.Wk
namespace Go.Wk

abbrev Ud := ByteArray × ByteArray
/-- What is wrong with a uid. -/
def uidFault (u : Ud) : Int := if nameFault u.1 = 0 then textFault u.2 else nameFault u.1
def hadU (N : List Ud) (p : Ud) : Bool := N.any fun y => decide (y = p)
theorem hadU_iff {N : List Ud} {p : Ud} : hadU N p = true ↔ p ∈ N := by
  unfold hadU
  rw [List.any_eq_true]
  constructor
  · rintro ⟨y, hy, e⟩
    have := of_decide_eq_true e
    subst this; exact hy
  · intro h; exact ⟨p, h, decide_eq_true rfl⟩
theorem hadU_not {N : List Ud} {p : Ud} : hadU N p = false ↔ p ∉ N := by
  rw [← hadU_iff]; simp
/-- What is wrong with the uids above an entity, behind those that stand in N. -/
def upsFault : List Ud → List Ud → Int
  | _, [] => 0
  | N, p :: r => if uidFault p = 0 then (if hadU N p = true then 6 else upsFault (N ++ [p]) r) else uidFault p
/-- A step up: who is in the Up of an entity of that uid. The store as pairs: a uid, those in its Up. -/
def Stp (G : List (Ud × List Ud)) (u p : Ud) : Prop := ∃ e ∈ G, e.1 = u ∧ p ∈ e.2
/-- Above: a step, and then any. -/
inductive Abv (G : List (Ud × List Ud)) : Ud → Ud → Prop
  | one {u p : Ud} : Stp G u p → Abv G u p
  | more {u p q : Ud} : Stp G u p → Abv G p q → Abv G u q
theorem Abv.trans {G : List (Ud × List Ud)} {u p q : Ud} (h : Abv G u p) (k : Abv G p q) : Abv G u q := by
  induction h with
  | one h => exact .more h k
  | more h _ ih => exact .more h (ih k)
theorem Abv.snoc {G : List (Ud × List Ud)} {u p q : Ud} (h : Abv G u p) (k : Stp G p q) : Abv G u q := h.trans (.one k)
theorem Abv.split {G : List (Ud × List Ud)} {u q : Ud} (h : Abv G u q) : ∃ p, Stp G u p ∧ (p = q ∨ Abv G p q) := by
  cases h with
  | one h => exact ⟨_, h, .inl rfl⟩
  | more h k => exact ⟨_, h, .inr k⟩
/-- What holds all steps out of it holds all that is above. -/
theorem abv_closed {G : List (Ud × List Ud)} {C : Ud → Prop} (hC : ∀ x, C x → ∀ y, Stp G x y → C y) {u : Ud} (hu : ∀ y, Stp G u y → C y) : ∀ y, Abv G u y → C y := by
  have key : ∀ x y, Abv G x y → C x → C y := fun x y h => by
    induction h with
    | one h => exact fun hx => hC _ hx _ h
    | more h _ ih => exact fun hx => ih (hC _ hx _ h)
  intro y h
  rcases h.split with ⟨p, hp, rfl | h'⟩
  · exact hu _ hp
  · exact key _ _ h' (hu _ hp)
/-- At most k steps. -/
inductive Ste (G : List (Ud × List Ud)) : Nat → Ud → Ud → Prop
  | one {k : Nat} {u p : Ud} : Stp G u p → Ste G (k + 1) u p
  | more {k : Nat} {u p q : Ud} : Stp G u p → Ste G k p q → Ste G (k + 1) u q
theorem Ste.snoc {G : List (Ud × List Ud)} {k : Nat} {u p q : Ud} (h : Ste G k u p) (s : Stp G p q) : Ste G (k + 1) u q := by
  induction h with
  | one h => exact .more h (.one s)
  | more h _ ih => exact .more h (ih s)
theorem Ste.last {G : List (Ud × List Ud)} {k : Nat} {u q : Ud} (h : Ste G (k + 1) u q) : Stp G u q ∨ ∃ p, Ste G k u p ∧ Stp G p q := by
  induction k generalizing u with
  | zero => cases h with
    | one h => exact .inl h
    | more _ h => cases h
  | succ k ih => cases h with
    | one h => exact .inl h
    | more h h2 =>
      rcases ih h2 with h3 | ⟨p, h3, h4⟩
      · exact .inr ⟨_, .one h, h3⟩
      · exact .inr ⟨p, .more h h3, h4⟩
/-- The store without a uid. -/
def less (G : List (Ud × List Ud)) (u : Ud) : List (Ud × List Ud) := G.filter fun e => decide (e.1 ≠ u)
end Go.Wk
