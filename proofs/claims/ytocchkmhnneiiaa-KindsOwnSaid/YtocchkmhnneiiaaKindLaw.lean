/-
  Plain: types, which are below which, and the least above two. No program in sight.
-/
import Derived.Test.YtocchkmhnneiiaaNodeLaw
namespace Go.Wk

mutual
/-- A type: one without parts, of entities, of sets, of records. -/
inductive Kd
  | base (op : Int)
  | ent (s : ByteArray)
  | set (p : Kd)
  | fs (f : Fl)
/-- The fields of a record's type: a name, must it be there, its type. -/
inductive Fl
  | nil
  | cons (s : ByteArray) (m : Bool) (k : Kd) (r : Fl)
end
mutual
def Kd.sz : Kd → Nat
  | .base _ => 1
  | .ent _ => 1
  | .set p => p.sz + 1
  | .fs f => f.sz + 1
def Fl.sz : Fl → Nat
  | .nil => 0
  | .cons _ _ k r => k.sz + r.sz + 1
end
def Fl.find : Fl → ByteArray → Option (Bool × Kd)
  | .nil, _ => none
  | .cons s m k r, x => if s = x then some (m, k) else r.find x
def isAny : Kd → Bool
  | .base x => x == 48
  | _ => false
def isNone : Kd → Bool
  | .base x => x == 49
  | _ => false
/-- All that must be there by g are in f. -/
def mustF : Fl → Fl → Bool
  | .nil, _ => true
  | .cons s m _ r, f => (!m || (f.find s).isSome) && mustF r f
mutual
def belowK : Kd → Kd → Bool
  | .base x, b => x == 49 || isAny b || (match b with | .base y => x == y | _ => false)
  | .ent s, b => isAny b || (match b with | .ent t => decide (s = t) | _ => false)
  | .set p, b => isAny b || (match b with | .set q => belowK p q | _ => false)
  | .fs f, b => isAny b || (match b with | .fs g => belowF f g && mustF g f | _ => false)
def belowF : Fl → Fl → Bool
  | .nil, _ => true
  | .cons s m k r, g => (match g.find s with | none => false | some (m', k') => (!m' || m) && belowK k k') && belowF r g
end
/-- The names ascend, behind x. -/
def Fl.ascFrom : ByteArray → Fl → Prop
  | _, .nil => True
  | x, .cons s _ _ r => cmpB x s < 0 ∧ r.ascFrom s
def Fl.asc : Fl → Prop
  | .nil => True
  | .cons s _ _ r => r.ascFrom s
mutual
def Kd.ok : Kd → Prop
  | .base _ => True
  | .ent _ => True
  | .set p => p.ok
  | .fs f => f.asc ∧ f.ok
def Fl.ok : Fl → Prop
  | .nil => True
  | .cons _ _ k r => k.ok ∧ r.ok
end
theorem asc_tail {x : ByteArray} {f : Fl} (h : f.ascFrom x) : f.asc := by
  cases f with
  | nil => trivial
  | cons s m k r => exact h.2
theorem find_lt {x : ByteArray} {f : Fl} (h : f.ascFrom x) {s : ByteArray} {v : Bool × Kd} (hf : f.find s = some v) : cmpB x s < 0 := by
  induction f using Fl.rec (motive_1 := fun _ => True) generalizing x with
  | nil => cases hf
  | cons t m k r _ ih =>
    simp only [Fl.find] at hf
    split at hf
    · rename_i e; subst e; exact h.1
    · exact cmpB_cmp.lt_le h.1 (by have := ih h.2 hf; omega)
  | _ => trivial
theorem find_sz {f : Fl} {s : ByteArray} {m : Bool} {k : Kd} (hf : f.find s = some (m, k)) : k.sz < f.sz := by
  induction f using Fl.rec (motive_1 := fun _ => True) with
  | nil => cases hf
  | cons t m' k' r _ ih =>
    simp only [Fl.find] at hf
    simp only [Fl.sz]
    split at hf
    · injection hf with hf; injection hf with h1 h2; subst h2; omega
    · have := ih hf; omega
  | _ => trivial
theorem find_ok {f : Fl} (h : f.ok) {s : ByteArray} {m : Bool} {k : Kd} (hf : f.find s = some (m, k)) : k.ok := by
  induction f using Fl.rec (motive_1 := fun _ => True) with
  | nil => cases hf
  | cons t m' k' r _ ih =>
    simp only [Fl.find] at hf
    simp only [Fl.ok] at h
    split at hf
    · injection hf with hf; injection hf with h1 h2; subst h2; exact h.1
    · exact ih h.2 hf
  | _ => trivial
/-- Below, by what is found. -/
theorem belowF_iff {f g : Fl} (h : f.asc) : belowF f g = true ↔ ∀ s m k, f.find s = some (m, k) → ∃ m' k', g.find s = some (m', k') ∧ (m' = true → m = true) ∧ belowK k k' = true := by
  induction f using Fl.rec (motive_1 := fun _ => True) with
  | nil => simp [belowF, Fl.find]
  | cons t m k r _ ih =>
    have ih := ih (asc_tail h)
    simp only [belowF, Bool.and_eq_true, ih]
    constructor
    · rintro ⟨h1, h2⟩ s m0 k0 hf
      simp only [Fl.find] at hf
      split at hf
      · rename_i e; subst e
        injection hf with hf; injection hf with e1 e2; subst e1 e2
        rcases hg : g.find t with _ | ⟨m', k'⟩
        · rw [hg] at h1; cases h1
        · rw [hg] at h1
          simp only [Bool.and_eq_true, Bool.or_eq_true, Bool.not_eq_true'] at h1
          exact ⟨m', k', rfl, fun e => by rcases h1.1 with h | h; · rw [e] at h; cases h
                                          · exact h, h1.2⟩
      · exact h2 s m0 k0 hf
    · intro hall
      constructor
      · obtain ⟨m', k', hg, h1, h2⟩ := hall t m k (by simp [Fl.find])
        rw [hg]
        simp only [Bool.and_eq_true, Bool.or_eq_true, Bool.not_eq_true']
        exact ⟨by cases m' with
          | false => exact .inl rfl
          | true => exact .inr (h1 rfl), h2⟩
      · intro s m0 k0 hf
        refine hall s m0 k0 ?_
        have hlt := find_lt h hf
        simp only [Fl.find]
        rw [if_neg (fun e => by subst e; rw [cmpB_cmp.self] at hlt; omega)]
        exact hf
  | _ => trivial
theorem mustF_iff {g f : Fl} (h : g.asc) : mustF g f = true ↔ ∀ s k, g.find s = some (true, k) → (f.find s).isSome = true := by
  induction g using Fl.rec (motive_1 := fun _ => True) with
  | nil => simp [mustF, Fl.find]
  | cons t m k r _ ih =>
    have ih := ih (asc_tail h)
    simp only [mustF, Bool.and_eq_true, ih, Bool.or_eq_true, Bool.not_eq_true']
    constructor
    · rintro ⟨h1, h2⟩ s k0 hf
      simp only [Fl.find] at hf
      split at hf
      · rename_i e; subst e
        injection hf with hf; injection hf with e1 e2; subst e1 e2
        rcases h1 with h1 | h1
        · cases h1
        · exact h1
      · exact h2 s k0 hf
    · intro hall
      constructor
      · cases m with
        | false => exact .inl rfl
        | true => exact .inr (hall t k (by simp [Fl.find]))
      · intro s k0 hf
        refine hall s k0 ?_
        have hlt := find_lt h hf
        simp only [Fl.find]
        rw [if_neg (fun e => by subst e; rw [cmpB_cmp.self] at hlt; omega)]
        exact hf
  | _ => trivial
theorem below_any (a b : Kd) (h : isAny b = true) : belowK a b = true := by cases a <;> simp [belowK, h]
theorem none_below (a b : Kd) (h : isNone a = true) : belowK a b = true := by
  cases a with
  | base x => simp only [isNone] at h; simp [belowK, h]
  | _ => cases h
/-- Each is below itself. -/
theorem below_refl : ∀ (n : Nat) (a : Kd), a.sz ≤ n → a.ok → belowK a a = true
  | 0, a, h, _ => by cases a <;> simp [Kd.sz] at h
  | n + 1, a, h, hok => by
    cases a with
    | base x => simp [belowK]
    | ent s => simp [belowK]
    | set p =>
      simp only [Kd.sz] at h
      simp [belowK, below_refl n p (by omega) hok]
    | fs f =>
      simp only [Kd.sz] at h
      simp only [belowK, Bool.or_eq_true, Bool.and_eq_true]
      refine .inr ⟨(belowF_iff hok.1).2 fun s m k hf => ⟨m, k, hf, id, below_refl n k (by have := find_sz hf; omega) (find_ok hok.2 hf)⟩, (mustF_iff hok.1).2 fun s k hf => by rw [hf]; rfl⟩
end Go.Wk
