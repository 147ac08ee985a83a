/-
  Plain: where types end among nodes, and where the fields of a record's type stand. No program in sight.
-/
import Derived.Test.YtocchkmhnneiiaaKindFlat
namespace Go.Wk

theorem parse_more {n n' : Nat} {P r : List Nd} {k : Kd} (h : parseK n P = some (k, r)) (h' : P.length ≤ n') : parseK n' P = some (k, r) := by
  obtain ⟨v, e⟩ := (parse_sound n).1 P k r h
  have hl : k.flat.length ≤ n' := by rw [e, List.length_append] at h'; omega
  have := (parse_full n').1 k r v hl
  rwa [← e] at this
theorem parseF_more {n n' c : Nat} {x : ByteArray} {P r : List Nd} {f : Fl} (h : parseF n c x P = some (f, r)) (h' : P.length ≤ n') : parseF n' c x P = some (f, r) := by
  obtain ⟨v, e1, e⟩ := (parse_sound n).2 c x P f r h
  have hl : f.flat.length ≤ n' := by rw [e, List.length_append] at h'; omega
  have := (parse_full n').2 f x r v hl
  rwa [← e, e1] at this
theorem parse_fuel {n n' : Nat} {P : List Nd} (h : P.length ≤ n) (h' : P.length ≤ n') : parseK n P = parseK n' P := by
  rcases e : parseK n P with _ | ⟨k, r⟩
  · rcases e' : parseK n' P with _ | ⟨k, r⟩
    · rfl
    · rw [parse_more e' h] at e; cases e
  · exact (parse_more e h').symm
theorem parseF_fuel {n n' c : Nat} {x : ByteArray} {P : List Nd} (h : P.length ≤ n) (h' : P.length ≤ n') : parseF n c x P = parseF n' c x P := by
  rcases e : parseF n c x P with _ | ⟨k, r⟩
  · rcases e' : parseF n' c x P with _ | ⟨k, r⟩
    · rfl
    · rw [parseF_more e' h] at e; cases e
  · exact (parseF_more e h').symm
/-- One field at the head of nodes. -/
def parse1 (m : Nat) (x : ByteArray) : List Nd → Option (ByteArray × Bool × Kd × List Nd)
  | [] => none
  | y :: r => if kfOk x y then (match parseK m r with
    | none => none
    | some (k, r') => some (y.s, y.n == 1, k, r')) else none
theorem parse_shorter {n : Nat} {P r : List Nd} {k : Kd} (h : parseK n P = some (k, r)) : r.length < P.length := by
  obtain ⟨v, e⟩ := (parse_sound n).1 P k r h
  have h2 : 0 < k.flat.length := by cases k <;> simp [Kd.flat]
  rw [e, List.length_append]
  omega
theorem parse1_shorter {m : Nat} {x s : ByteArray} {b : Bool} {k : Kd} {Q r : List Nd} (h : parse1 m x Q = some (s, b, k, r)) : r.length + 2 ≤ Q.length := by
  cases Q with
  | nil => cases h
  | cons y Q =>
    simp only [parse1] at h
    split at h
    · rcases hp : parseK m Q with _ | ⟨k', r'⟩
      · rw [hp] at h; cases h
      · rw [hp] at h
        simp only [Option.some.injEq, Prod.mk.injEq] at h
        have := parse_shorter hp
        rw [← h.2.2.2, List.length_cons]
        omega
    · cases h
theorem parseF_step {m c : Nat} {x : ByteArray} {Q : List Nd} (h : Q.length ≤ m) : parseF m (c + 1) x Q = (match parse1 m x Q with
    | none => none
    | some (s, b, k, r') => match parseF m c s r' with
      | none => none
      | some (f, r'') => some (.cons s b k f, r'')) := by
  cases Q with
  | nil => cases m <;> rfl
  | cons y r =>
    rw [List.length_cons] at h
    cases m with
    | zero => omega
    | succ m =>
      simp only [parseF, parse1]
      by_cases hk : kfOk x y
      · simp only [if_pos hk]
        rw [parse_fuel (n := m) (n' := m + 1) (by omega) (by omega)]
        rcases hp : parseK (m + 1) r with _ | ⟨k, r'⟩
        · rfl
        · have := parse_shorter hp
          simp only
          rw [parseF_fuel (n := m) (n' := m + 1) (by omega) (by omega)]
          rcases parseF (m + 1) c y.s r' with _ | ⟨f, r''⟩ <;> rfl
      · simp only [if_neg hk]
/-- The place behind the type that begins at one; below 0: there is none. -/
def kEnd (t : List Nd) (p : Nat) : Int := match parseK (t.length + 1) (t.drop p) with
  | some (_, r) => ((t.length - r.length : Nat) : Int)
  | none => -1
/-- The place behind so many fields; below 0: they are none. -/
def fEnd (t : List Nd) (c : Nat) (x : ByteArray) (p : Nat) : Int := match parseF (t.length + 1) c x (t.drop p) with
  | some (_, r) => ((t.length - r.length : Nat) : Int)
  | none => -1
theorem drop_at {t : List Nd} {p : Nat} {x : Nd} (h : t[p]? = some x) : t.drop p = x :: t.drop (p + 1) := by
  obtain ⟨hp, e⟩ := List.getElem?_eq_some_iff.1 h
  rw [← e]
  exact List.drop_eq_getElem_cons hp
theorem kEnd_out {t : List Nd} {p : Nat} (h : t.length ≤ p) : kEnd t p = -1 := by
  unfold kEnd
  rw [List.drop_eq_nil_of_le h]
  rfl
theorem kEnd_base {t : List Nd} {p : Nat} {x : Nd} (h : t[p]? = some x) (hb : baseOp x.op) : kEnd t p = if x.n = 0 ∧ x.s = emp ∧ x.t = emp then ((p + 1 : Nat) : Int) else -1 := by
  have hp := (List.getElem?_eq_some_iff.1 h).1
  unfold kEnd
  rw [drop_at h]
  simp only [parseK, if_pos hb]
  by_cases hc : x.n = 0 ∧ x.s = emp ∧ x.t = emp
  · rw [if_pos hc, if_pos hc]
    simp only [List.length_drop]
    congr 1; omega
  · rw [if_neg hc, if_neg hc]
theorem not_base {x : Int} (h : x = 44 ∨ x = 45 ∨ x = 46) : ¬ baseOp x := by unfold baseOp; omega
theorem kEnd_ent {t : List Nd} {p : Nat} {x : Nd} (h : t[p]? = some x) (hb : x.op = 44) : kEnd t p = if x.n = 0 ∧ nameFault x.s = 0 ∧ x.t = emp then ((p + 1 : Nat) : Int) else -1 := by
  have hp := (List.getElem?_eq_some_iff.1 h).1
  unfold kEnd
  rw [drop_at h]
  simp only [parseK, if_neg (not_base (.inl hb)), if_pos hb]
  by_cases hc : x.n = 0 ∧ nameFault x.s = 0 ∧ x.t = emp
  · rw [if_pos hc, if_pos hc]
    simp only [List.length_drop]
    congr 1; omega
  · rw [if_neg hc, if_neg hc]
theorem kEnd_set {t : List Nd} {p : Nat} {x : Nd} (h : t[p]? = some x) (hb : x.op = 45) : kEnd t p = if x.n = 0 ∧ x.s = emp ∧ x.t = emp then kEnd t (p + 1) else -1 := by
  unfold kEnd
  rw [drop_at h]
  simp only [parseK, if_neg (not_base (.inr (.inl hb))), if_neg (show ¬ x.op = 44 by omega), if_pos hb]
  rw [parse_fuel (n := t.length) (n' := t.length + 1) (by simp) (by simp; omega)]
  rcases parseK (t.length + 1) (t.drop (p + 1)) with _ | ⟨k, r⟩
  · simp
  · by_cases hc : x.n = 0 ∧ x.s = emp ∧ x.t = emp
    · simp only [if_pos hc]
    · simp only [if_neg hc]
theorem kEnd_rec {t : List Nd} {p : Nat} {x : Nd} (h : t[p]? = some x) (hb : x.op = 46) : kEnd t p = if 0 ≤ x.n ∧ x.s = emp ∧ x.t = emp then fEnd t x.n.toNat emp (p + 1) else -1 := by
  unfold kEnd fEnd
  rw [drop_at h]
  simp only [parseK, if_neg (not_base (.inr (.inr hb))), if_neg (show ¬ x.op = 44 by omega), if_neg (show ¬ x.op = 45 by omega), if_pos hb]
  rw [parseF_fuel (n := t.length) (n' := t.length + 1) (by simp) (by simp; omega)]
  rcases parseF (t.length + 1) x.n.toNat emp (t.drop (p + 1)) with _ | ⟨k, r⟩
  · simp
  · by_cases hc : 0 ≤ x.n ∧ x.s = emp ∧ x.t = emp
    · simp only [if_pos hc]
    · simp only [if_neg hc]
theorem kEnd_else {t : List Nd} {p : Nat} {x : Nd} (h : t[p]? = some x) (h1 : ¬ baseOp x.op) (h2 : x.op ≠ 44) (h3 : x.op ≠ 45) (h4 : x.op ≠ 46) : kEnd t p = -1 := by
  unfold kEnd
  rw [drop_at h]
  simp only [parseK, if_neg h1, if_neg h2, if_neg h3, if_neg h4]
theorem fEnd_zero {t : List Nd} {p : Nat} {x : ByteArray} (h : p ≤ t.length) : fEnd t 0 x p = (p : Int) := by
  unfold fEnd
  simp only [parseF, List.length_drop]
  congr 1; omega
theorem fEnd_out {t : List Nd} {p c : Nat} {x : ByteArray} (h : t.length ≤ p) : fEnd t (c + 1) x p = -1 := by
  unfold fEnd
  rw [List.drop_eq_nil_of_le h]
  rfl
/-- It ends behind where it begins. -/
theorem kEnd_lt {t : List Nd} {p : Nat} (h : 0 ≤ kEnd t p) : ∃ e : Nat, kEnd t p = (e : Int) ∧ p < e ∧ e ≤ t.length := by
  unfold kEnd at *
  rcases hp : parseK (t.length + 1) (t.drop p) with _ | ⟨k, r⟩
  · rw [hp] at h; simp at h
  · rw [hp] at h
    simp only at h ⊢
    obtain ⟨v, e⟩ := (parse_sound _).1 _ _ _ hp
    have h1 : (t.drop p).length = k.flat.length + r.length := by rw [e, List.length_append]
    rw [List.length_drop] at h1
    have h2 : 0 < k.flat.length := by cases k <;> simp [Kd.flat]
    exact ⟨_, rfl, by omega, by omega⟩
theorem kEnd_neg {t : List Nd} {p : Nat} (h : ¬ 0 ≤ kEnd t p) : kEnd t p = -1 := by
  unfold kEnd at *
  rcases hp : parseK (t.length + 1) (t.drop p) with _ | ⟨k, r⟩
  · rfl
  · rw [hp] at h; simp only at h; omega
theorem fEnd_succ {t : List Nd} {p c : Nat} {x : ByteArray} {y : Nd} (h : t[p]? = some y) : fEnd t (c + 1) x p = if kfOk x y then (if 0 ≤ kEnd t (p + 1) then fEnd t c y.s (kEnd t (p + 1)).toNat else -1) else -1 := by
  have hp := (List.getElem?_eq_some_iff.1 h).1
  unfold fEnd
  rw [drop_at h]
  simp only [parseF]
  by_cases hk : kfOk x y
  · simp only [if_pos hk]
    unfold kEnd
    rw [parse_fuel (n := t.length) (n' := t.length + 1) (by simp) (by simp; omega)]
    rcases hq : parseK (t.length + 1) (t.drop (p + 1)) with _ | ⟨k, r⟩
    · simp
    · simp only
      obtain ⟨v, e⟩ := (parse_sound _).1 _ _ _ hq
      have h1 : (t.drop (p + 1)).length = k.flat.length + r.length := by rw [e, List.length_append]
      rw [List.length_drop] at h1
      rw [if_pos (by omega)]
      have h3 : ((t.length - r.length : Nat) : Int).toNat = t.length - r.length := rfl
      rw [h3]
      have h2 : t.drop (t.length - r.length) = r := by
        have : t.drop (t.length - r.length) = (t.drop (p + 1)).drop k.flat.length := by rw [List.drop_drop]; congr 1; omega
        rw [this, e, List.drop_left]
      rw [h2, parseF_fuel (n := t.length) (n' := t.length + 1) (by omega) (by omega)]
      rcases parseF (t.length + 1) c y.s r with _ | ⟨f, r'⟩ <;> rfl
  · simp only [if_neg hk]
/-- The error of nodes as a type. -/
def kindFault (t : List Nd) : Int := if 200 < t.length then 4 else if (readK t).isSome then 0 else 1
theorem kEnd_all {t : List Nd} : kEnd t 0 = (t.length : Int) ↔ (readK t).isSome = true := by
  unfold kEnd readK
  rw [List.drop_zero, parse_fuel (n := t.length + 1) (n' := t.length) (by omega) (by omega)]
  rcases hp : parseK t.length t with _ | ⟨k, r⟩
  · simp
  · simp only
    obtain ⟨v, e⟩ := (parse_sound _).1 _ _ _ hp
    have h1 : t.length = k.flat.length + r.length := by rw [← List.length_append, ← e]
    have h2 : 0 < k.flat.length := by cases k <;> simp [Kd.flat]
    cases r with
    | nil => simp
    | cons a r =>
      simp only [List.length_cons] at h1 ⊢
      simp
      omega
theorem kindFault_zero {t : List Nd} : kindFault t = 0 ↔ t.length ≤ 200 ∧ ∃ k : Kd, k.valid ∧ t = k.flat := by
  unfold kindFault
  by_cases h : 200 < t.length
  · rw [if_pos h]; omega
  · rw [if_neg h]
    rcases hr : readK t with _ | k
    · simp only [Option.isSome_none, Bool.false_eq_true, if_false]
      constructor
      · intro q; omega
      · rintro ⟨-, k, v, e⟩
        rw [readK_iff.2 ⟨v, e⟩] at hr; cases hr
    · simp only [Option.isSome_some, if_true, true_iff]
      exact ⟨by omega, k, readK_iff.1 hr⟩

/-- Where the fields stand. -/
def posF : Nat → Fl → List Nat
  | _, .nil => []
  | p, .cons _ _ k r => p :: posF (p + 1 + k.flat.length) r
theorem kEnd_flat {t : List Nd} {p : Nat} {k : Kd} {r : List Nd} (hk : k.valid) (h : t.drop p = k.flat ++ r) : kEnd t p = ((p + k.flat.length : Nat) : Int) := by
  have h1 : (t.drop p).length = k.flat.length + r.length := by rw [h, List.length_append]
  rw [List.length_drop] at h1
  have h2 : 0 < k.flat.length := by cases k <;> simp [Kd.flat]
  have h3 := (parse_full (t.length + 1)).1 k r hk (by omega)
  unfold kEnd
  rw [h, h3]
  simp only
  congr 1; omega
end Go.Wk
