/-
  Plain: a text between quotes, and what was quoted; a uid as a text. No program in sight.
  Plain: a store of entities, who is above whom. No program in sight.
-/
import Derived.Test.YtnolmlhcikcceaaGreatDoorQs2
namespace Go.Wk

/-- A text's bytes, a sign ahead of a quote and of a sign. -/
def quo : List UInt8 → List UInt8
  | [] => []
  | b :: r => if b = 34 ∨ b = 92 then 92 :: b :: quo r else b :: quo r
/-- What stands between the quotes, read with care: none where a quote stands bare, or a sign ahead of another byte. -/
def unq : List UInt8 → Option (List UInt8)
  | [] => some []
  | [b] => if b = 34 ∨ b = 92 then none else some [b]
  | b :: c :: r => if b = 34 then none else if b = 92 then (if c = 34 ∨ c = 92 then (unq r).map (c :: ·) else none) else (unq (c :: r)).map (b :: ·)
/-- What stands between the quotes, read without care. -/
def bar : List UInt8 → List UInt8
  | [] => []
  | [b] => if b = 92 then [] else [b]
  | b :: c :: r => if b = 92 then c :: bar r else b :: bar (c :: r)
theorem unq_plain {b : UInt8} (h : ¬ (b = 34 ∨ b = 92)) (r : List UInt8) : unq (b :: r) = (unq r).map (b :: ·) := by
  have h1 : b ≠ 34 := fun e => h (.inl e)
  have h2 : b ≠ 92 := fun e => h (.inr e)
  cases r with
  | nil => simp [unq, h1, h2]
  | cons c r => simp [unq, h1, h2]
theorem unq_quote (r : List UInt8) : unq (34 :: r) = none := by
  cases r with
  | nil => simp [unq]
  | cons c r => simp [unq]
theorem unq_sign {c : UInt8} (h : c = 34 ∨ c = 92) (r : List UInt8) : unq (92 :: c :: r) = (unq r).map (c :: ·) := by
  rw [unq, if_neg (by decide), if_pos rfl, if_pos h]
theorem unq_bad {c : UInt8} (h : ¬ (c = 34 ∨ c = 92)) (r : List UInt8) : unq (92 :: c :: r) = none := by
  rw [unq, if_neg (by decide), if_pos rfl, if_neg h]
theorem unq_last : unq [92] = none := by simp [unq]
theorem bar_plain {b : UInt8} (h : b ≠ 92) (r : List UInt8) : bar (b :: r) = b :: bar r := by
  cases r with
  | nil => simp [bar, h]
  | cons c r => simp [bar, h]
theorem unq_quo : ∀ l, unq (quo l) = some l
  | [] => rfl
  | b :: r => by
    by_cases h : b = 34 ∨ b = 92
    · rw [quo, if_pos h, unq_sign h, unq_quo r]; rfl
    · rw [quo, if_neg h, unq_plain h, unq_quo r]; rfl
theorem bar_quo : ∀ l, bar (quo l) = l
  | [] => rfl
  | b :: r => by
    by_cases h : b = 34 ∨ b = 92
    · rw [quo, if_pos h, bar, if_pos rfl, bar_quo r]
    · rw [quo, if_neg h, bar_plain (fun e => h (.inr e)), bar_quo r]
theorem quo_unq : ∀ {l u}, unq l = some u → quo u = l
  | [], u, h => by simp only [unq, Option.some.injEq] at h; rw [← h]; rfl
  | [b], u, h => by
    by_cases hb : b = 34 ∨ b = 92
    · rw [unq, if_pos hb] at h; cases h
    · rw [unq, if_neg hb] at h
      injection h with h; subst h
      rw [quo, if_neg hb]; rfl
  | b :: c :: r, u, h => by
    by_cases h1 : b = 34
    · rw [unq, if_pos h1] at h; cases h
    · by_cases h2 : b = 92
      · subst h2
        by_cases h3 : c = 34 ∨ c = 92
        · rw [unq_sign h3] at h
          rcases hr : unq r with _ | x
          · rw [hr] at h; cases h
          · rw [hr] at h
            simp only [Option.map_some, Option.some.injEq] at h
            subst h
            rw [quo, if_pos h3, quo_unq hr]
        · rw [unq_bad h3] at h; cases h
      · have hb : ¬ (b = 34 ∨ b = 92) := fun e => e.elim h1 h2
        rw [unq_plain hb] at h
        rcases hr : unq (c :: r) with _ | x
        · rw [hr] at h; cases h
        · rw [hr] at h
          simp only [Option.map_some, Option.some.injEq] at h
          subst h
          rw [quo, if_neg hb, quo_unq hr]
theorem quo_length (l : List UInt8) : l.length ≤ (quo l).length ∧ (quo l).length ≤ 2 * l.length := by
  induction l with
  | nil => simp [quo]
  | cons b r ih =>
    by_cases h : b = 34 ∨ b = 92
    · rw [quo, if_pos h]; simp only [List.length_cons]; omega
    · rw [quo, if_neg h]; simp only [List.length_cons]; omega
theorem quo_append (a b : List UInt8) : quo (a ++ b) = quo a ++ quo b := by
  induction a with
  | nil => rfl
  | cons x r ih =>
    by_cases h : x = 34 ∨ x = 92
    · simp only [List.cons_append, quo, if_pos h, ih]
    · simp only [List.cons_append, quo, if_neg h, ih]
theorem quo_count (l : List UInt8) : (quo l).length = l.length + l.count 34 + l.count 92 := by
  induction l with
  | nil => rfl
  | cons b r ih =>
    by_cases h1 : b = 34
    · subst h1; simp only [quo, true_or, if_true, List.length_cons, List.count_cons_self, ih, List.count_cons_of_ne (show (34 : UInt8) ≠ 92 by decide)]; omega
    · by_cases h2 : b = 92
      · subst h2; simp only [quo, or_true, if_true, List.length_cons, List.count_cons_self, ih, List.count_cons_of_ne (show (92 : UInt8) ≠ 34 by decide)]; omega
      · simp only [quo, if_neg (show ¬ (b = 34 ∨ b = 92) from fun e => e.elim h1 h2), List.length_cons, ih, List.count_cons_of_ne h1, List.count_cons_of_ne h2]; omega
theorem quo_none {l : List UInt8} (h1 : l.count 34 = 0) (h2 : l.count 92 = 0) : quo l = l := by
  induction l with
  | nil => rfl
  | cons b r ih =>
    have a1 : b ≠ 34 := fun e => by subst e; simp at h1
    have a2 : b ≠ 92 := fun e => by subst e; simp at h2
    rw [List.count_cons_of_ne a1] at h1
    rw [List.count_cons_of_ne a2] at h2
    rw [quo, if_neg (fun e => e.elim a1 a2), ih h1 h2]

def bytesOf (l : List UInt8) : ByteArray := ⟨l.toArray⟩
theorem bytesOf_data (l : List UInt8) : (bytesOf l).data.toList = l := by simp [bytesOf]
theorem bytesOf_size (l : List UInt8) : (bytesOf l).size = l.length := List.size_toArray
theorem bytesOf_of (s : ByteArray) : bytesOf s.data.toList = s := bytes_ext (bytesOf_data _)
/-- A text between quotes. -/
def quoted (s : ByteArray) : ByteArray := bytesOf (34 :: quo s.data.toList ++ [34])
def quoV (s : ByteArray) : ByteArray := if textFault s = 0 then quoted s else ⟨#[]⟩
/-- What stands between a text's first byte and its last. -/
def body (s : ByteArray) : List UInt8 := (s.data.toList.drop 1).take (s.size - 2)
/-- Does a text stand between quotes? -/
def inQ (s : ByteArray) : Prop := 2 ≤ s.size ∧ s.data.toList[0]? = some 34 ∧ s.data.toList[s.size - 1]? = some 34
instance (s : ByteArray) : Decidable (inQ s) := by unfold inQ; infer_instance
/-- What was quoted, where it is a text. -/
def bare (s : ByteArray) : Option ByteArray := if inQ s then (match unq (body s) with | some l => if textFault (bytesOf l) = 0 then some (bytesOf l) else none | none => none) else none
def bareV (s : ByteArray) : ByteArray := (bare s).getD ⟨#[]⟩
def bareE (s : ByteArray) : Int := if (bare s).isSome then 0 else 1
theorem size_toList (s : ByteArray) : s.data.toList.length = s.size := by simp
theorem inQ_split {s : ByteArray} (h : inQ s) : s.data.toList = 34 :: body s ++ [34] := by
  obtain ⟨h1, h2, h3⟩ := h
  have hl := size_toList s
  unfold body
  rcases hs : s.data.toList with _ | ⟨b, r⟩
  · rw [hs] at hl; simp at hl; omega
  · rw [hs] at h2 h3 hl
    simp only [List.getElem?_cons_zero, Option.some.injEq] at h2
    subst h2
    simp only [List.length_cons] at hl
    have h4 : s.size - 1 = (s.size - 2) + 1 := by omega
    rw [h4, List.getElem?_cons_succ] at h3
    simp only [List.drop_succ_cons, List.drop_zero, List.cons_append, List.cons.injEq, true_and]
    obtain ⟨hk, e⟩ := List.getElem?_eq_some_iff.1 h3
    have : r = r.take (s.size - 2) ++ r.drop (s.size - 2) := (List.take_append_drop _ _).symm
    conv => lhs; rw [this]
    congr 1
    rw [List.drop_eq_getElem_cons hk, e, List.drop_of_length_le (by omega)]
theorem quoted_data (s : ByteArray) : (quoted s).data.toList = 34 :: quo s.data.toList ++ [34] := bytesOf_data _
theorem quoted_size (s : ByteArray) : (quoted s).size = (quo s.data.toList).length + 2 := by
  unfold quoted; rw [bytesOf_size]; simp
theorem quoted_in (s : ByteArray) : inQ (quoted s) ∧ body (quoted s) = quo s.data.toList := by
  have hs := quoted_size s
  have hd := quoted_data s
  constructor
  · refine ⟨by omega, by rw [hd]; rfl, ?_⟩
    rw [hd, hs]
    simp
  · unfold body
    rw [hd, hs]
    simp
theorem bare_some {s u : ByteArray} : bare s = some u ↔ textFault u = 0 ∧ s = quoted u := by
  constructor
  · intro h
    unfold bare at h
    split at h
    · rename_i hq
      split at h
      · rename_i l hl
        split at h
        · rename_i ht
          injection h with h
          subst h
          refine ⟨ht, bytes_ext ?_⟩
          rw [quoted_data, bytesOf_data, quo_unq hl, inQ_split hq]
        · cases h
      · cases h
    · cases h
  · rintro ⟨h, rfl⟩
    unfold bare
    obtain ⟨h1, h2⟩ := quoted_in u
    rw [if_pos h1, h2, unq_quo]
    show (if textFault (bytesOf u.data.toList) = 0 then some (bytesOf u.data.toList) else none) = some u
    rw [bytesOf_of, if_pos h]
/-- What the document's way reads: without care, and then it is quoted again. -/
theorem bare_way (s : ByteArray) : (textFault (bytesOf (bar (body s))) = 0 ∧ quoted (bytesOf (bar (body s))) = s ↔ (bare s).isSome) ∧ ∀ u, bare s = some u → bytesOf (bar (body s)) = u := by
  have key : ∀ u, bare s = some u → bytesOf (bar (body s)) = u := fun u h => by
    obtain ⟨-, rfl⟩ := bare_some.1 h
    rw [(quoted_in u).2, bar_quo, bytesOf_of]
  refine ⟨⟨fun ⟨h1, h2⟩ => ?_, fun h => ?_⟩, key⟩
  · rw [bare_some.2 ⟨h1, h2.symm⟩]; rfl
  · obtain ⟨u, hu⟩ := Option.isSome_iff_exists.1 h
    obtain ⟨h1, h2⟩ := bare_some.1 hu
    rw [key u hu]
    exact ⟨h1, h2.symm⟩
end Go.Wk
namespace Go.Wk

abbrev Ud := ByteArray × ByteArray
/-- What is wrong with a uid. -/
def uidFault (u : Ud) : Int := if nameFault u.1 = 0 then textFault u.2 else nameFault u.1
def hadU (N : List Ud) (p : Ud) : Bool := N.any fun y => decide (y = p)
theorem hadU_iff {N : List Ud} {p : Ud} : hadU N p = true ↔ p ∈ N := by
  unfold hadU
  rw [List.any_eq_true]
  constructor
  · rintro ⟨y, hy, e⟩
    have := of_decide_eq_true e
    subst this; exact hy
  · intro h; exact ⟨p, h, decide_eq_true rfl⟩
theorem hadU_not {N : List Ud} {p : Ud} : hadU N p = false ↔ p ∉ N := by
  rw [← hadU_iff]; simp
/-- What is wrong with the uids above an entity, behind those that stand in N. -/
def upsFault : List Ud → List Ud → Int
  | _, [] => 0
  | N, p :: r => if uidFault p = 0 then (if hadU N p = true then 6 else upsFault (N ++ [p]) r) else uidFault p
theorem upsFault_zero {N L : List Ud} : upsFault N L = 0 ↔ (∀ p ∈ L, uidFault p = 0) ∧ L.Nodup ∧ ∀ p ∈ L, p ∉ N := by
  induction L generalizing N with
  | nil => simp [upsFault]
  | cons p r ih =>
    simp only [upsFault]
    by_cases h1 : uidFault p = 0
    · rw [if_pos h1]
      by_cases h2 : p ∈ N
      · rw [if_pos (hadU_iff.2 h2)]
        constructor
        · intro h; omega
        · rintro ⟨-, -, h⟩; exact absurd h2 (h p (by simp))
      · rw [if_neg (fun e => h2 (hadU_iff.1 e)), ih]
        constructor
        · rintro ⟨a, b, c⟩
          refine ⟨fun q hq => ?_, List.nodup_cons.2 ⟨fun hp => c p hp (by simp), b⟩, fun q hq => ?_⟩
          · rcases List.mem_cons.1 hq with rfl | hq
            · exact h1
            · exact a q hq
          · rcases List.mem_cons.1 hq with rfl | hq
            · exact h2
            · exact fun hn => c q hq (by simp [hn])
        · rintro ⟨a, b, c⟩
          obtain ⟨b1, b2⟩ := List.nodup_cons.1 b
          refine ⟨fun q hq => a q (by simp [hq]), b2, fun q hq hn => ?_⟩
          rcases List.mem_append.1 hn with hn | hn
          · exact c q (by simp [hq]) hn
          · simp only [List.mem_cons, List.not_mem_nil, or_false] at hn
            subst hn; exact b1 hq
    · rw [if_neg h1]
      constructor
      · intro h; exact absurd h h1
      · rintro ⟨a, -, -⟩; exact a p (by simp)

/-- A step up: who is in the Up of an entity of that uid. The store as pairs: a uid, those in its Up. -/
def Stp (G : List (Ud × List Ud)) (u p : Ud) : Prop := ∃ e ∈ G, e.1 = u ∧ p ∈ e.2
/-- Above: a step, and then any. -/
inductive Abv (G : List (Ud × List Ud)) : Ud → Ud → Prop
  | one {u p : Ud} : Stp G u p → Abv G u p
  | more {u p q : Ud} : Stp G u p → Abv G p q → Abv G u q
theorem Abv.trans {G : List (Ud × List Ud)} {u p q : Ud} (h : Abv G u p) (k : Abv G p q) : Abv G u q := by
  induction h with
  | one h => exact .more h k
  | more h _ ih => exact .more h (ih k)
theorem Abv.snoc {G : List (Ud × List Ud)} {u p q : Ud} (h : Abv G u p) (k : Stp G p q) : Abv G u q := h.trans (.one k)
theorem Abv.split {G : List (Ud × List Ud)} {u q : Ud} (h : Abv G u q) : ∃ p, Stp G u p ∧ (p = q ∨ Abv G p q) := by
  cases h with
  | one h => exact ⟨_, h, .inl rfl⟩
  | more h k => exact ⟨_, h, .inr k⟩
/-- What holds all steps out of it holds all that is above. -/
theorem abv_closed {G : List (Ud × List Ud)} {C : Ud → Prop} (hC : ∀ x, C x → ∀ y, Stp G x y → C y) {u : Ud} (hu : ∀ y, Stp G u y → C y) : ∀ y, Abv G u y → C y := by
  have key : ∀ x y, Abv G x y → C x → C y := fun x y h => by
    induction h with
    | one h => exact fun hx => hC _ hx _ h
    | more h _ ih => exact fun hx => ih (hC _ hx _ h)
  intro y h
  rcases h.split with ⟨p, hp, rfl | h'⟩
  · exact hu _ hp
  · exact key _ _ h' (hu _ hp)
/-- At most k steps. -/
inductive Ste (G : List (Ud × List Ud)) : Nat → Ud → Ud → Prop
  | one {k : Nat} {u p : Ud} : Stp G u p → Ste G (k + 1) u p
  | more {k : Nat} {u p q : Ud} : Stp G u p → Ste G k p q → Ste G (k + 1) u q
theorem Ste.abv {G : List (Ud × List Ud)} {k : Nat} {u p : Ud} (h : Ste G k u p) : Abv G u p := by
  induction h with
  | one h => exact .one h
  | more h _ ih => exact .more h ih
theorem Ste.wider {G : List (Ud × List Ud)} {k l : Nat} {u p : Ud} (h : Ste G k u p) (hl : k ≤ l) : Ste G l u p := by
  induction h generalizing l with
  | one h => obtain ⟨l, rfl⟩ : ∃ j, l = j + 1 := ⟨l - 1, by omega⟩; exact .one h
  | more h _ ih => obtain ⟨l, rfl⟩ : ∃ j, l = j + 1 := ⟨l - 1, by omega⟩; exact .more h (ih (by omega))
theorem Ste.snoc {G : List (Ud × List Ud)} {k : Nat} {u p q : Ud} (h : Ste G k u p) (s : Stp G p q) : Ste G (k + 1) u q := by
  induction h with
  | one h => exact .more h (.one s)
  | more h _ ih => exact .more h (ih s)
theorem Ste.last {G : List (Ud × List Ud)} {k : Nat} {u q : Ud} (h : Ste G (k + 1) u q) : Stp G u q ∨ ∃ p, Ste G k u p ∧ Stp G p q := by
  induction k generalizing u with
  | zero => cases h with
    | one h => exact .inl h
    | more _ h => cases h
  | succ k ih => cases h with
    | one h => exact .inl h
    | more h h2 =>
      rcases ih h2 with h3 | ⟨p, h3, h4⟩
      · exact .inr ⟨_, .one h, h3⟩
      · exact .inr ⟨p, .more h h3, h4⟩
/-- The store without a uid. -/
def less (G : List (Ud × List Ud)) (u : Ud) : List (Ud × List Ud) := G.filter fun e => decide (e.1 ≠ u)
theorem stp_less {G : List (Ud × List Ud)} {u x y : Ud} (h : Stp G x y) : x = u ∨ Stp (less G u) x y := by
  obtain ⟨e, he, rfl, hy⟩ := h
  by_cases hx : e.1 = u
  · exact .inl hx
  · exact .inr ⟨e, List.mem_filter.2 ⟨he, by simpa using hx⟩, rfl, hy⟩
theorem less_stp {G : List (Ud × List Ud)} {u x y : Ud} (h : Stp (less G u) x y) : Stp G x y := by
  obtain ⟨e, he, hx, hy⟩ := h
  exact ⟨e, (List.mem_filter.1 he).1, hx, hy⟩
theorem abv_less {G : List (Ud × List Ud)} {u x y : Ud} (h : Abv G x y) : Abv (less G u) x y ∨ ∃ p, Stp G u p ∧ (p = y ∨ Abv (less G u) p y) := by
  induction h with
  | one h =>
    rcases stp_less (u := u) h with rfl | h'
    · exact .inr ⟨_, h, .inl rfl⟩
    · exact .inl (.one h')
  | more h _ ih =>
    rcases ih with ih | ih
    · rcases stp_less (u := u) h with rfl | h'
      · exact .inr ⟨_, h, .inr ih⟩
      · exact .inl (.more h' ih)
    · exact .inr ih
theorem less_length {G : List (Ud × List Ud)} {u p : Ud} (h : Stp G u p) : (less G u).length < G.length := by
  obtain ⟨e, he, rfl, -⟩ := h
  have h1 : G = G := rfl
  unfold less
  refine Nat.lt_of_le_of_ne (List.length_filter_le _ _) fun hl => ?_
  have := List.length_filter_eq_length_iff.1 hl e he
  simp at this
theorem ste_less {G : List (Ud × List Ud)} {u x y : Ud} {k : Nat} (h : Ste (less G u) k x y) : Ste G k x y := by
  induction h with
  | one h => exact .one (less_stp h)
  | more h _ ih => exact .more (less_stp h) ih
/-- Whoever is above is so by no more steps than there are entities. -/
theorem abv_ste : ∀ {n : Nat} {G : List (Ud × List Ud)} {u y : Ud}, G.length ≤ n → Abv G u y → Ste G G.length u y := by
  intro n
  induction n with
  | zero =>
    intro G u y hn h
    obtain ⟨p, ⟨e, he, -⟩, -⟩ := h.split
    have := List.eq_nil_of_length_eq_zero (Nat.le_zero.1 hn)
    subst this; cases he
  | succ n ih =>
    intro G u y hn h
    obtain ⟨p0, h0, -⟩ := h.split
    have hl := less_length h0
    obtain ⟨l, el⟩ : ∃ l, G.length = l + 1 := ⟨G.length - 1, by omega⟩
    have h2 : ∃ p, Stp G u p ∧ (p = y ∨ Abv (less G u) p y) := by
      rcases abv_less (u := u) h with h' | h'
      · obtain ⟨p, ⟨e, he, hx, -⟩, -⟩ := h'.split
        exact absurd hx (by simpa using (List.mem_filter.1 he).2)
      · exact h'
    obtain ⟨p, hp, rfl | hq⟩ := h2
    · rw [el]; exact .one hp
    · rw [el]
      exact .more hp ((ste_less (ih (by omega) hq)).wider (by omega))
end Go.Wk
