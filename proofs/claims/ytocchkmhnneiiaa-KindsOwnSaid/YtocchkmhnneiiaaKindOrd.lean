/-
  Plain: below is an order of types. No program in sight.
-/
import Derived.Test.YtocchkmhnneiiaaKindLaw
namespace Go.Wk

theorem isAny_iff {a : Kd} : isAny a = true ↔ a = .base 48 := by
  cases a with
  | base x => simp [isAny]
  | _ => simp [isAny]
theorem isNone_iff {a : Kd} : isNone a = true ↔ a = .base 49 := by
  cases a with
  | base x => simp [isNone]
  | _ => simp [isNone]
theorem below_base {x : Int} {b : Kd} : belowK (.base x) b = true ↔ x = 49 ∨ b = .base 48 ∨ b = .base x := by
  simp only [belowK, Bool.or_eq_true, beq_iff_eq, isAny_iff, or_assoc]
  cases b with
  | base y =>
    have e : x = y ↔ y = x := eq_comm
    simp [e]
  | _ => simp
theorem below_ent {s : ByteArray} {b : Kd} : belowK (.ent s) b = true ↔ b = .base 48 ∨ b = .ent s := by
  simp only [belowK, Bool.or_eq_true, isAny_iff]
  cases b with
  | ent t =>
    have e : s = t ↔ t = s := eq_comm
    simp [e]
  | _ => simp
theorem below_set {p : Kd} {b : Kd} : belowK (.set p) b = true ↔ b = .base 48 ∨ ∃ q, b = .set q ∧ belowK p q = true := by
  simp only [belowK, Bool.or_eq_true, isAny_iff]
  cases b with
  | set q => simp
  | _ => simp
theorem below_fs {f : Fl} {b : Kd} : belowK (.fs f) b = true ↔ b = .base 48 ∨ ∃ g, b = .fs g ∧ belowF f g = true ∧ mustF g f = true := by
  simp only [belowK, Bool.or_eq_true, isAny_iff]
  cases b with
  | fs g => simp
  | _ => simp
/-- A record's type below another one, by what is found. -/
def BelR (f g : Fl) : Prop := (∀ s m k, f.find s = some (m, k) → ∃ m' k', g.find s = some (m', k') ∧ (m' = true → m = true) ∧ belowK k k' = true) ∧ (∀ s k, g.find s = some (true, k) → (f.find s).isSome = true)
theorem belR_iff {f g : Fl} (hf : f.asc) (hg : g.asc) : belowF f g = true ∧ mustF g f = true ↔ BelR f g := by
  rw [belowF_iff hf, mustF_iff hg]; rfl
theorem below_trans : ∀ (n : Nat) (a b c : Kd), a.sz ≤ n → a.ok → b.ok → c.ok → belowK a b = true → belowK b c = true → belowK a c = true
  | 0, a, _, _, h, _, _, _, _, _ => by cases a <;> simp [Kd.sz] at h
  | n + 1, a, b, c, h, ha, hb, hc, h1, h2 => by
    have hany : b = .base 48 → c = .base 48 := fun e => by
      subst e
      rcases below_base.1 h2 with h3 | h3 | h3
      · cases h3
      · exact h3
      · exact h3
    cases a with
    | base x =>
      rcases below_base.1 h1 with rfl | h3 | h3
      · exact below_base.2 (.inl rfl)
      · exact below_base.2 (.inr (.inl (hany h3)))
      · subst h3; exact h2
    | ent s =>
      rcases below_ent.1 h1 with h3 | h3
      · exact below_ent.2 (.inl (hany h3))
      · subst h3; exact h2
    | set p =>
      simp only [Kd.sz] at h
      rcases below_set.1 h1 with h3 | ⟨q, rfl, h3⟩
      · exact below_set.2 (.inl (hany h3))
      · rcases below_set.1 h2 with h4 | ⟨r, rfl, h4⟩
        · exact below_set.2 (.inl h4)
        · exact below_set.2 (.inr ⟨r, rfl, below_trans n p q r (by omega) ha hb hc h3 h4⟩)
    | fs f =>
      simp only [Kd.sz] at h
      rcases below_fs.1 h1 with h3 | ⟨g, rfl, h3⟩
      · exact below_fs.2 (.inl (hany h3))
      · rcases below_fs.1 h2 with h4 | ⟨e, rfl, h4⟩
        · exact below_fs.2 (.inl h4)
        · obtain ⟨p1, p2⟩ := (belR_iff ha.1 hb.1).1 h3
          obtain ⟨q1, q2⟩ := (belR_iff hb.1 hc.1).1 h4
          refine below_fs.2 (.inr ⟨e, rfl, (belR_iff ha.1 hc.1).2 ⟨fun s m k hf => ?_, fun s k hf => ?_⟩⟩)
          · obtain ⟨m', k', hg, e1, e2⟩ := p1 s m k hf
            obtain ⟨m'', k'', he, e3, e4⟩ := q1 s m' k' hg
            exact ⟨m'', k'', he, fun e => e1 (e3 e), below_trans n k k' k'' (by have := find_sz hf; omega) (find_ok ha.2 hf) (find_ok hb.2 hg) (find_ok hc.2 he) e2 e4⟩
          · have h5 := q2 s k hf
            rcases hg : g.find s with _ | ⟨m', k'⟩
            · rw [hg] at h5; cases h5
            · obtain ⟨m'', k'', he, e3, -⟩ := q1 s m' k' hg
              rw [hf] at he
              injection he with he
              injection he with he1 he2
              have := e3 he1.symm
              subst this
              exact p2 s k' hg
/-- Ascending fields that find the same are one. -/
theorem fl_ext : ∀ (f g : Fl), f.asc → g.asc → (∀ s, f.find s = g.find s) → f = g
  | .nil, .nil, _, _, _ => rfl
  | .nil, .cons s m k r, _, _, h => by have := h s; simp [Fl.find] at this
  | .cons s m k r, .nil, _, _, h => by have := h s; simp [Fl.find] at this
  | .cons s m k r, .cons t m' k' r', h1, h2, h => by
    have hs := h s
    have ht := h t
    have e : s = t := by
      simp only [Fl.find, if_pos] at hs ht
      by_cases e : t = s
      · exact e.symm
      · rw [if_neg e] at hs
        have l1 := find_lt h2 hs.symm
        rw [if_neg (fun q => e q.symm)] at ht
        have l2 := find_lt h1 ht
        have := cmpB_cmp.anti s t
        omega
    subst e
    simp only [Fl.find, if_pos, Option.some.injEq, Prod.mk.injEq] at hs
    obtain ⟨e1, e2⟩ := hs
    have hr : r = r' := fl_ext r r' (asc_tail h1) (asc_tail h2) fun x => by
      have hx := h x
      simp only [Fl.find] at hx
      by_cases e : s = x
      · subst e
        rcases hg : r.find s with _ | v
        · rcases hg' : r'.find s with _ | v'
          · rfl
          · have := find_lt h2 hg'; rw [cmpB_cmp.self] at this; omega
        · have := find_lt h1 hg; rw [cmpB_cmp.self] at this; omega
      · rwa [if_neg e, if_neg e] at hx
    rw [e1, e2, hr]
theorem below_anti : ∀ (n : Nat) (a b : Kd), a.sz ≤ n → a.ok → b.ok → belowK a b = true → belowK b a = true → a = b
  | 0, a, _, h, _, _, _, _ => by cases a <;> simp [Kd.sz] at h
  | n + 1, a, b, h, ha, hb, h1, h2 => by
    cases a with
    | base x =>
      rcases below_base.1 h1 with rfl | h3 | h3
      · cases b with
        | base y =>
          rcases below_base.1 h2 with h4 | h4 | h4
          · rw [h4]
          · cases h4
          · exact h4
        | ent t => rcases below_ent.1 h2 with h4 | h4 <;> cases h4
        | set t => rcases below_set.1 h2 with h4 | ⟨q, h4, _⟩ <;> cases h4
        | fs t => rcases below_fs.1 h2 with h4 | ⟨q, h4, _⟩ <;> cases h4
      · subst h3
        rcases below_base.1 h2 with h4 | h4 | h4
        · cases h4
        · exact h4
        · exact h4
      · exact h3.symm
    | ent s =>
      rcases below_ent.1 h1 with h3 | h3
      · subst h3
        rcases below_base.1 h2 with h4 | h4 | h4 <;> cases h4
      · exact h3.symm
    | set p =>
      simp only [Kd.sz] at h
      rcases below_set.1 h1 with h3 | ⟨q, rfl, h3⟩
      · subst h3
        rcases below_base.1 h2 with h4 | h4 | h4 <;> cases h4
      · rcases below_set.1 h2 with h4 | ⟨r, h4, h5⟩
        · cases h4
        · injection h4 with h4
          subst h4
          rw [below_anti n p q (by omega) ha hb h3 h5]
    | fs f =>
      simp only [Kd.sz] at h
      rcases below_fs.1 h1 with h3 | ⟨g, rfl, h3⟩
      · subst h3
        rcases below_base.1 h2 with h4 | h4 | h4 <;> cases h4
      · rcases below_fs.1 h2 with h4 | ⟨e, h4, h5⟩
        · cases h4
        · injection h4 with h4
          subst h4
          obtain ⟨p1, -⟩ := (belR_iff ha.1 hb.1).1 h3
          obtain ⟨q1, -⟩ := (belR_iff hb.1 ha.1).1 h5
          congr 1
          refine fl_ext f g ha.1 hb.1 fun s => ?_
          rcases hf : f.find s with _ | ⟨m, k⟩
          · rcases hg : g.find s with _ | ⟨m', k'⟩
            · rfl
            · obtain ⟨_, _, e, _⟩ := q1 s m' k' hg
              rw [hf] at e; cases e
          · obtain ⟨m', k', hg, e1, e2⟩ := p1 s m k hf
            obtain ⟨m2, k2, hf2, e3, e4⟩ := q1 s m' k' hg
            rw [hf] at hf2
            injection hf2 with hf2
            injection hf2 with f1 f2
            subst f1 f2
            rw [hg, below_anti n k k' (by have := find_sz hf; omega) (find_ok ha.2 hf) (find_ok hb.2 hg) e2 e4]
            have : m = m' := by cases m <;> cases m' <;> simp_all
            rw [this]
end Go.Wk
