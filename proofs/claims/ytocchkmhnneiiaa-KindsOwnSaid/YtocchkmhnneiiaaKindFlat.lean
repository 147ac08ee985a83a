/-
  Plain: types as nodes, there and back. No program in sight.
-/
import Derived.Test.YtocchkmhnneiiaaKindLaw
namespace Go.Wk

def emp : ByteArray := ⟨#[]⟩
mutual
/-- A type's nodes. -/
def Kd.flat : Kd → List Nd
  | .base x => [⟨x, 0, emp, emp⟩]
  | .ent s => [⟨44, 0, s, emp⟩]
  | .set p => ⟨45, 0, emp, emp⟩ :: p.flat
  | .fs f => ⟨46, f.len, emp, emp⟩ :: f.flat
def Fl.len : Fl → Nat
  | .nil => 0
  | .cons _ _ _ r => r.len + 1
def Fl.flat : Fl → List Nd
  | .nil => []
  | .cons s m k r => ⟨47, if m = true then 1 else 0, s, emp⟩ :: (k.flat ++ r.flat)
end
def baseOp (x : Int) : Prop := x = 41 ∨ x = 42 ∨ x = 43 ∨ x = 48 ∨ x = 49
instance (x : Int) : Decidable (baseOp x) := by unfold baseOp; infer_instance
mutual
/-- A type as it may be handed in. -/
def Kd.valid : Kd → Prop
  | .base x => baseOp x
  | .ent s => nameFault s = 0
  | .set p => p.valid
  | .fs f => f.validFrom emp
def Fl.validFrom : Fl → ByteArray → Prop
  | .nil, _ => True
  | .cons s _ k r, x => cmpB x s < 0 ∧ nameFault s = 0 ∧ k.valid ∧ r.validFrom s
end
def kfOk (x : ByteArray) (y : Nd) : Prop := y.op = 47 ∧ (y.n = 0 ∨ y.n = 1) ∧ y.t = emp ∧ nameFault y.s = 0 ∧ cmpB x y.s < 0
instance (x : ByteArray) (y : Nd) : Decidable (kfOk x y) := by unfold kfOk; infer_instance
mutual
/-- The type at the head of nodes, and what is behind it. -/
def parseK : Nat → List Nd → Option (Kd × List Nd)
  | 0, _ => none
  | _ + 1, [] => none
  | n + 1, x :: r =>
    if baseOp x.op then (if x.n = 0 ∧ x.s = emp ∧ x.t = emp then some (.base x.op, r) else none)
    else if x.op = 44 then (if x.n = 0 ∧ nameFault x.s = 0 ∧ x.t = emp then some (.ent x.s, r) else none)
    else if x.op = 45 then (match parseK n r with
      | none => none
      | some (p, r') => if x.n = 0 ∧ x.s = emp ∧ x.t = emp then some (.set p, r') else none)
    else if x.op = 46 then (match parseF n x.n.toNat emp r with
      | none => none
      | some (f, r') => if 0 ≤ x.n ∧ x.s = emp ∧ x.t = emp then some (.fs f, r') else none)
    else none
def parseF : Nat → Nat → ByteArray → List Nd → Option (Fl × List Nd)
  | _, 0, _, r => some (.nil, r)
  | 0, _ + 1, _, _ => none
  | _ + 1, _ + 1, _, [] => none
  | n + 1, c + 1, x, y :: r =>
    if kfOk x y then (match parseK n r with
      | none => none
      | some (k, r') => match parseF n c y.s r' with
        | none => none
        | some (f, r'') => some (.cons y.s (y.n == 1) k f, r''))
    else none
end
theorem nd_eq {y : Nd} {a b : Int} {c d : ByteArray} (h1 : y.op = a) (h2 : y.n = b) (h3 : y.s = c) (h4 : y.t = d) : y = ⟨a, b, c, d⟩ := by cases y; simp_all
theorem parse_sound : ∀ n : Nat, (∀ P k r, parseK n P = some (k, r) → k.valid ∧ P = k.flat ++ r) ∧ (∀ c x P f r, parseF n c x P = some (f, r) → f.validFrom x ∧ f.len = c ∧ P = f.flat ++ r)
  | 0 => by
    refine ⟨fun P k r h => by simp [parseK] at h, fun c x P f r h => ?_⟩
    cases c with
    | zero =>
      simp only [parseF, Option.some.injEq, Prod.mk.injEq] at h
      obtain ⟨rfl, rfl⟩ := h
      exact ⟨trivial, rfl, rfl⟩
    | succ c => simp [parseF] at h
  | n + 1 => by
    obtain ⟨ihK, ihF⟩ := parse_sound n
    refine ⟨fun P k r h => ?_, fun c x P f r h => ?_⟩
    · cases P with
      | nil => simp [parseK] at h
      | cons y P =>
        simp only [parseK] at h
        split at h
        · rename_i hb
          split at h
          · rename_i hc
            simp only [Option.some.injEq, Prod.mk.injEq] at h
            obtain ⟨rfl, rfl⟩ := h
            exact ⟨hb, by simp only [Kd.flat]; rw [nd_eq rfl hc.1 hc.2.1 hc.2.2]; rfl⟩
          · cases h
        · split at h
          · rename_i ho
            split at h
            · rename_i hc
              simp only [Option.some.injEq, Prod.mk.injEq] at h
              obtain ⟨rfl, rfl⟩ := h
              exact ⟨hc.2.1, by simp only [Kd.flat]; rw [nd_eq ho hc.1 rfl hc.2.2]; rfl⟩
            · cases h
          · split at h
            · rename_i ho
              rcases hp : parseK n P with _ | ⟨p, r'⟩
              · rw [hp] at h; cases h
              · rw [hp] at h
                simp only at h
                split at h
                · rename_i hc
                  simp only [Option.some.injEq, Prod.mk.injEq] at h
                  obtain ⟨rfl, rfl⟩ := h
                  obtain ⟨v, e⟩ := ihK _ _ _ hp
                  exact ⟨v, by simp only [Kd.flat]; rw [nd_eq ho hc.1 hc.2.1 hc.2.2, e]; rfl⟩
                · cases h
            · split at h
              · rename_i ho
                rcases hp : parseF n y.n.toNat emp P with _ | ⟨f, r'⟩
                · rw [hp] at h; cases h
                · rw [hp] at h
                  simp only at h
                  split at h
                  · rename_i hc
                    simp only [Option.some.injEq, Prod.mk.injEq] at h
                    obtain ⟨rfl, rfl⟩ := h
                    obtain ⟨v, el, e⟩ := ihF _ _ _ _ _ hp
                    have en : y.n = (f.len : Int) := by rw [el]; omega
                    exact ⟨v, by simp only [Kd.flat]; rw [nd_eq ho en hc.2.1 hc.2.2, e]; rfl⟩
                  · cases h
              · cases h
    · cases c with
      | zero =>
        simp only [parseF, Option.some.injEq, Prod.mk.injEq] at h
        obtain ⟨rfl, rfl⟩ := h
        exact ⟨trivial, rfl, rfl⟩
      | succ c =>
        cases P with
        | nil => simp [parseF] at h
        | cons y P =>
          simp only [parseF] at h
          split at h
          · rename_i hf
            rcases hp : parseK n P with _ | ⟨p, r'⟩
            · rw [hp] at h; cases h
            · rw [hp] at h
              simp only at h
              rcases hq : parseF n c y.s r' with _ | ⟨g, r''⟩
              · rw [hq] at h; cases h
              · rw [hq] at h
                simp only [Option.some.injEq, Prod.mk.injEq] at h
                obtain ⟨rfl, rfl⟩ := h
                obtain ⟨v1, e1⟩ := ihK _ _ _ hp
                obtain ⟨v2, el, e2⟩ := ihF _ _ _ _ _ hq
                refine ⟨⟨hf.2.2.2.2, hf.2.2.2.1, v1, v2⟩, by simp [Fl.len, el], ?_⟩
                have en : y.n = if (y.n == 1) = true then 1 else 0 := by
                  rcases hf.2.1 with q | q <;> simp [q]
                simp only [Fl.flat, List.cons_append, List.append_assoc]
                rw [← e2, ← e1]
                congr 1
                exact nd_eq hf.1 en rfl hf.2.2.1
          · cases h
theorem parse_full : ∀ n : Nat, (∀ k r, k.valid → k.flat.length ≤ n → parseK n (k.flat ++ r) = some (k, r)) ∧ (∀ f x r, f.validFrom x → f.flat.length ≤ n → parseF n f.len x (f.flat ++ r) = some (f, r))
  | 0 => by
    refine ⟨fun k r _ h => by cases k <;> simp [Kd.flat] at h, fun f x r _ h => ?_⟩
    cases f with
    | nil => simp [Fl.len, parseF, Fl.flat]
    | cons s m k q => simp [Fl.flat] at h
  | n + 1 => by
    obtain ⟨ihK, ihF⟩ := parse_full n
    refine ⟨fun k r hv hl => ?_, fun f x r hv hl => ?_⟩
    · cases k with
      | base y =>
        have hb : baseOp y := hv
        simp [Kd.flat, parseK, hb]
      | ent s =>
        have h1 : ¬ baseOp 44 := by decide
        have h2 : nameFault s = 0 := hv
        simp [Kd.flat, parseK, h1, h2]
      | set p =>
        have h1 : ¬ baseOp 45 := by decide
        simp only [Kd.flat, List.length_cons] at hl
        simp [Kd.flat, parseK, h1, ihK p r hv (by omega)]
      | fs f =>
        have h1 : ¬ baseOp 46 := by decide
        simp only [Kd.flat, List.length_cons] at hl
        simp [Kd.flat, parseK, h1, ihF f emp r hv (by omega)]
    · cases f with
      | nil => cases n <;> simp [Fl.len, parseF, Fl.flat]
      | cons s m k q =>
        obtain ⟨v1, v2, v3, v4⟩ := hv
        simp only [Fl.flat, List.length_cons, List.length_append] at hl
        have hf : kfOk x ⟨47, if m = true then 1 else 0, s, emp⟩ := ⟨rfl, by cases m <;> simp, rfl, v2, v1⟩
        have hm : (((if m = true then 1 else 0 : Int)) == 1) = m := by cases m <;> rfl
        simp only [Fl.flat, Fl.len, List.cons_append, List.append_assoc, parseF, if_pos hf, ihK k (q.flat ++ r) v3 (by omega), ihF q s r v4 (by omega), hm]
/-- The type that nodes are. -/
def readK (P : List Nd) : Option Kd := match parseK P.length P with
  | some (k, []) => some k
  | _ => none
theorem readK_iff {P : List Nd} {k : Kd} : readK P = some k ↔ k.valid ∧ P = k.flat := by
  unfold readK
  constructor
  · intro h
    rcases hp : parseK P.length P with _ | ⟨k', r⟩
    · rw [hp] at h; cases h
    · rw [hp] at h
      cases r with
      | cons a r => cases h
      | nil =>
        simp only [Option.some.injEq] at h
        subst h
        obtain ⟨v, e⟩ := (parse_sound _).1 _ _ _ hp
        exact ⟨v, by simpa using e⟩
  · rintro ⟨v, rfl⟩
    have := (parse_full k.flat.length).1 k [] v (Nat.le_refl _)
    rw [List.append_nil] at this
    rw [this]
theorem flat_inj {a b : Kd} (ha : a.valid) (hb : b.valid) (h : a.flat = b.flat) : a = b := by
  have h1 := readK_iff.2 ⟨ha, rfl⟩
  have h2 := readK_iff.2 ⟨hb, rfl⟩
  rw [h, h2] at h1
  injection h1 with h1
  exact h1.symm
end Go.Wk
