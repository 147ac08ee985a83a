/-
  Plain: a store of entities, who is above whom. No program in sight.
-/
import Derived.Test.YtbjbimabgfpdoaaGreatDoorNameLaw
namespace Go.Wk

abbrev Ud := ByteArray × ByteArray
/-- What is wrong with a uid. -/
def uidFault (u : Ud) : Int := if nameFault u.1 = 0 then textFault u.2 else nameFault u.1
def hadU (N : List Ud) (p : Ud) : Bool := N.any fun y => decide (y = p)
theorem hadU_iff {N : List Ud} {p : Ud} : hadU N p = true ↔ p ∈ N := by
  unfold hadU
  rw [List.any_eq_true]
  constructor
  · rintro ⟨y, hy, e⟩
    have := of_decide_eq_true e
    subst this; exact hy
  · intro h; exact ⟨p, h, decide_eq_true rfl⟩
theorem hadU_not {N : List Ud} {p : Ud} : hadU N p = false ↔ p ∉ N := by
  rw [← hadU_iff]; simp
/-- What is wrong with the uids above an entity, behind those that stand in N. -/
def upsFault : List Ud → List Ud → Int
  | _, [] => 0
  | N, p :: r => if uidFault p = 0 then (if hadU N p = true then 6 else upsFault (N ++ [p]) r) else uidFault p
theorem upsFault_zero {N L : List Ud} : upsFault N L = 0 ↔ (∀ p ∈ L, uidFault p = 0) ∧ L.Nodup ∧ ∀ p ∈ L, p ∉ N := by
  induction L generalizing N with
  | nil => simp [upsFault]
  | cons p r ih =>
    simp only [upsFault]
    by_cases h1 : uidFault p = 0
    · rw [if_pos h1]
      by_cases h2 : p ∈ N
      · rw [if_pos (hadU_iff.2 h2)]
        constructor
        · intro h; omega
        · rintro ⟨-, -, h⟩; exact absurd h2 (h p (by simp))
      · rw [if_neg (fun e => h2 (hadU_iff.1 e)), ih]
        constructor
        · rintro ⟨a, b, c⟩
          refine ⟨fun q hq => ?_, List.nodup_cons.2 ⟨fun hp => c p hp (by simp), b⟩, fun q hq => ?_⟩
          · rcases List.mem_cons.1 hq with rfl | hq
            · exact h1
            · exact a q hq
          · rcases List.mem_cons.1 hq with rfl | hq
            · exact h2
            · exact fun hn => c q hq (by simp [hn])
        · rintro ⟨a, b, c⟩
          obtain ⟨b1, b2⟩ := List.nodup_cons.1 b
          refine ⟨fun q hq => a q (by simp [hq]), b2, fun q hq hn => ?_⟩
          rcases List.mem_append.1 hn with hn | hn
          · exact c q (by simp [hq]) hn
          · simp only [List.mem_cons, List.not_mem_nil, or_false] at hn
            subst hn; exact b1 hq
    · rw [if_neg h1]
      constructor
      · intro h; exact absurd h h1
      · rintro ⟨a, -, -⟩; exact a p (by simp)

/-- A step up: who is in the Up of an entity of that uid. The store as pairs: a uid, those in its Up. -/
def Stp (G : List (Ud × List Ud)) (u p : Ud) : Prop := ∃ e ∈ G, e.1 = u ∧ p ∈ e.2
/-- Above: a step, and then any. -/
inductive Abv (G : List (Ud × List Ud)) : Ud → Ud → Prop
  | one {u p : Ud} : Stp G u p → Abv G u p
  | more {u p q : Ud} : Stp G u p → Abv G p q → Abv G u q
theorem Abv.trans {G : List (Ud × List Ud)} {u p q : Ud} (h : Abv G u p) (k : Abv G p q) : Abv G u q := by
  induction h with
  | one h => exact .more h k
  | more h _ ih => exact .more h (ih k)
theorem Abv.snoc {G : List (Ud × List Ud)} {u p q : Ud} (h : Abv G u p) (k : Stp G p q) : Abv G u q := h.trans (.one k)
theorem Abv.split {G : List (Ud × List Ud)} {u q : Ud} (h : Abv G u q) : ∃ p, Stp G u p ∧ (p = q ∨ Abv G p q) := by
  cases h with
  | one h => exact ⟨_, h, .inl rfl⟩
  | more h k => exact ⟨_, h, .inr k⟩
/-- What holds all steps out of it holds all that is above. -/
theorem abv_closed {G : List (Ud × List Ud)} {C : Ud → Prop} (hC : ∀ x, C x → ∀ y, Stp G x y → C y) {u : Ud} (hu : ∀ y, Stp G u y → C y) : ∀ y, Abv G u y → C y := by
  have key : ∀ x y, Abv G x y → C x → C y := fun x y h => by
    induction h with
    | one h => exact fun hx => hC _ hx _ h
    | more h _ ih => exact fun hx => ih (hC _ hx _ h)
  intro y h
  rcases h.split with ⟨p, hp, rfl | h'⟩
  · exact hu _ hp
  · exact key _ _ h' (hu _ hp)
/-- At most k steps. -/
inductive Ste (G : List (Ud × List Ud)) : Nat → Ud → Ud → Prop
  | one {k : Nat} {u p : Ud} : Stp G u p → Ste G (k + 1) u p
  | more {k : Nat} {u p q : Ud} : Stp G u p → Ste G k p q → Ste G (k + 1) u q
theorem Ste.abv {G : List (Ud × List Ud)} {k : Nat} {u p : Ud} (h : Ste G k u p) : Abv G u p := by
  induction h with
  | one h => exact .one h
  | more h _ ih => exact .more h ih
theorem Ste.wider {G : List (Ud × List Ud)} {k l : Nat} {u p : Ud} (h : Ste G k u p) (hl : k ≤ l) : Ste G l u p := by
  induction h generalizing l with
  | one h => obtain ⟨l, rfl⟩ : ∃ j, l = j + 1 := ⟨l - 1, by omega⟩; exact .one h
  | more h _ ih => obtain ⟨l, rfl⟩ : ∃ j, l = j + 1 := ⟨l - 1, by omega⟩; exact .more h (ih (by omega))
theorem Ste.snoc {G : List (Ud × List Ud)} {k : Nat} {u p q : Ud} (h : Ste G k u p) (s : Stp G p q) : Ste G (k + 1) u q := by
  induction h with
  | one h => exact .more h (.one s)
  | more h _ ih => exact .more h (ih s)
theorem Ste.last {G : List (Ud × List Ud)} {k : Nat} {u q : Ud} (h : Ste G (k + 1) u q) : Stp G u q ∨ ∃ p, Ste G k u p ∧ Stp G p q := by
  induction k generalizing u with
  | zero => cases h with
    | one h => exact .inl h
    | more _ h => cases h
  | succ k ih => cases h with
    | one h => exact .inl h
    | more h h2 =>
      rcases ih h2 with h3 | ⟨p, h3, h4⟩
      · exact .inr ⟨_, .one h, h3⟩
      · exact .inr ⟨p, .more h h3, h4⟩
/-- The store without a uid. -/
def less (G : List (Ud × List Ud)) (u : Ud) : List (Ud × List Ud) := G.filter fun e => decide (e.1 ≠ u)
theorem stp_less {G : List (Ud × List Ud)} {u x y : Ud} (h : Stp G x y) : x = u ∨ Stp (less G u) x y := by
  obtain ⟨e, he, rfl, hy⟩ := h
  by_cases hx : e.1 = u
  · exact .inl hx
  · exact .inr ⟨e, List.mem_filter.2 ⟨he, by simpa using hx⟩, rfl, hy⟩
theorem less_stp {G : List (Ud × List Ud)} {u x y : Ud} (h : Stp (less G u) x y) : Stp G x y := by
  obtain ⟨e, he, hx, hy⟩ := h
  exact ⟨e, (List.mem_filter.1 he).1, hx, hy⟩
theorem abv_less {G : List (Ud × List Ud)} {u x y : Ud} (h : Abv G x y) : Abv (less G u) x y ∨ ∃ p, Stp G u p ∧ (p = y ∨ Abv (less G u) p y) := by
  induction h with
  | one h =>
    rcases stp_less (u := u) h with rfl | h'
    · exact .inr ⟨_, h, .inl rfl⟩
    · exact .inl (.one h')
  | more h _ ih =>
    rcases ih with ih | ih
    · rcases stp_less (u := u) h with rfl | h'
      · exact .inr ⟨_, h, .inr ih⟩
      · exact .inl (.more h' ih)
    · exact .inr ih
theorem less_length {G : List (Ud × List Ud)} {u p : Ud} (h : Stp G u p) : (less G u).length < G.length := by
  obtain ⟨e, he, rfl, -⟩ := h
  have h1 : G = G := rfl
  unfold less
  refine Nat.lt_of_le_of_ne (List.length_filter_le _ _) fun hl => ?_
  have := List.length_filter_eq_length_iff.1 hl e he
  simp at this
theorem ste_less {G : List (Ud × List Ud)} {u x y : Ud} {k : Nat} (h : Ste (less G u) k x y) : Ste G k x y := by
  induction h with
  | one h => exact .one (less_stp h)
  | more h _ ih => exact .more (less_stp h) ih
/-- Whoever is above is so by no more steps than there are entities. -/
theorem abv_ste : ∀ {n : Nat} {G : List (Ud × List Ud)} {u y : Ud}, G.length ≤ n → Abv G u y → Ste G G.length u y := by
  intro n
  induction n with
  | zero =>
    intro G u y hn h
    obtain ⟨p, ⟨e, he, -⟩, -⟩ := h.split
    have := List.eq_nil_of_length_eq_zero (Nat.le_zero.1 hn)
    subst this; cases he
  | succ n ih =>
    intro G u y hn h
    obtain ⟨p0, h0, -⟩ := h.split
    have hl := less_length h0
    obtain ⟨l, el⟩ : ∃ l, G.length = l + 1 := ⟨G.length - 1, by omega⟩
    have h2 : ∃ p, Stp G u p ∧ (p = y ∨ Abv (less G u) p y) := by
      rcases abv_less (u := u) h with h' | h'
      · obtain ⟨p, ⟨e, he, hx, -⟩, -⟩ := h'.split
        exact absurd hx (by simpa using (List.mem_filter.1 he).2)
      · exact h'
    obtain ⟨p, hp, rfl | hq⟩ := h2
    · rw [el]; exact .one hp
    · rw [el]
      exact .more hp ((ste_less (ih (by omega) hq)).wider (by omega))
end Go.Wk
