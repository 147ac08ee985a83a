/-
  kinds.below: is a type below another one.
-/
import Derived.Test.YtocchkmhnneiiaaKindBr
namespace Go.Proofs.Ytocchkmhnneiiaa
open Go.RowKit Go.Wk Go.Sort
set_option maxRecDepth 100000

theorem opN_base {x : Int} (h : (Kd.base x).valid) : x = 41 ∨ x = 42 ∨ x = 43 ∨ x = 48 ∨ x = 49 := h
/-- Types of one op and one name. -/
theorem same_head {a b : Kd} (ha : a.valid) (hb : b.valid) (h1 : opN a = opN b) (h2 : nmN a = nmN b) :
    (∃ x, a = .base x ∧ b = .base x) ∨ (∃ s, a = .ent s ∧ b = .ent s) ∨ (∃ p q, a = .set p ∧ b = .set q) ∨ ∃ f g, a = .fs f ∧ b = .fs g := by
  cases a with
  | base x =>
    have := opN_base ha
    cases b with
    | base y => simp only [opN] at h1; exact .inl ⟨x, rfl, by rw [h1]⟩
    | ent s => simp only [opN] at h1; omega
    | set q => simp only [opN] at h1; omega
    | fs g => simp only [opN] at h1; omega
  | ent s =>
    cases b with
    | base y => have := opN_base hb; simp only [opN] at h1; omega
    | ent t => simp only [nmN] at h2; exact .inr (.inl ⟨s, rfl, by rw [h2]⟩)
    | set q => simp [opN] at h1
    | fs g => simp [opN] at h1
  | set p =>
    cases b with
    | base y => have := opN_base hb; simp only [opN] at h1; omega
    | ent t => simp [opN] at h1
    | set q => exact .inr (.inr (.inl ⟨p, q, rfl, rfl⟩))
    | fs g => simp [opN] at h1
  | fs f =>
    cases b with
    | base y => have := opN_base hb; simp only [opN] at h1; omega
    | ent t => simp [opN] at h1
    | set q => simp [opN] at h1
    | fs g => exact .inr (.inr (.inr ⟨f, g, rfl, rfl⟩))
theorem none_op {a : Kd} (ha : a.valid) (h : opN a = 49) : a = .base 49 := by
  cases a with
  | base x => simp only [opN] at h; rw [h]
  | _ => simp [opN] at h
theorem any_op {a : Kd} (ha : a.valid) (h : opN a = 48) : a = .base 48 := by
  cases a with
  | base x => simp only [opN] at h; rw [h]
  | _ => simp [opN] at h
theorem below_no {a b : Kd} (h1 : opN a ≠ 49) (h2 : opN b ≠ 48) (h : opN a ≠ opN b ∨ nmN a ≠ nmN b) : belowK a b = false := by
  rw [Bool.eq_false_iff]
  intro e
  have hb : b ≠ .base 48 := fun q => h2 (by rw [q]; rfl)
  have ha : a ≠ .base 49 := fun q => h1 (by rw [q]; rfl)
  cases a with
  | base x =>
    rcases below_base.1 e with e | e | e
    · exact ha (by rw [e])
    · exact hb e
    · subst e; simp at h
  | ent s =>
    rcases below_ent.1 e with e | e
    · exact hb e
    · subst e; simp at h
  | set p =>
    rcases below_set.1 e with e | ⟨q, e, -⟩
    · exact hb e
    · subst e; simp [opN, nmN] at h
  | fs f =>
    rcases below_fs.1 e with e | ⟨g, e, -⟩
    · exact hb e
    · subst e; simp [opN, nmN] at h
theorem kat_none {w : World} {B : Nat → Prop} {k : Kd} {v : List Value} (h : KAt w B k v) (hb : (∃ x, k = .base x) ∨ ∃ s, k = .ent s) : ∃ (n : Int) , v = [.int .i64 (opN k), .int .i64 n, .string (nmN k), .string emp, .pointer none, .slice none 0 0] := by
  rcases hb with ⟨x, rfl⟩ | ⟨s, rfl⟩
  · obtain ⟨n, rfl⟩ := h; exact ⟨n, rfl⟩
  · obtain ⟨n, rfl⟩ := h; exact ⟨n, rfl⟩
theorem kind_below : ∀ N : Nat, BelC N
  | 0 => fun a _ _ _ _ _ h => by cases a <;> simp [Kd.sz] at h
  | N + 1 => by
    intro a b va vb w B h h1 h2 ha hb va' vb' hB
    obtain ⟨n1, p1, A1, m1, c1, e1⟩ := kat_head ha
    obtain ⟨n2, p2, A2, m2, c2, e2⟩ := kat_head hb
    by_cases hn : opN a = 49 ∨ opN b = 48
    · have hr : belowK a b = true := by
        rcases hn with hn | hn
        · rw [none_op va' hn]; exact none_below _ _ rfl
        · rw [any_op vb' hn]; exact below_any _ _ rfl
      rw [hr, e1, e2]
      exact below_end _ _ _ _ _ _ _ _ _ _ _ _ _ _ _ _ w hn
    · have h49 : opN a ≠ 49 := fun e => hn (.inl e)
      have h48 : opN b ≠ 48 := fun e => hn (.inr e)
      by_cases hd : opN a ≠ opN b ∨ nmN a ≠ nmN b
      · rw [below_no h49 h48 hd, e1, e2]
        exact below_differ _ _ _ _ _ _ _ _ _ _ _ _ _ _ _ _ w h49 h48 hd
      · have ho : opN a = opN b := Decidable.byContradiction fun e => hd (.inl e)
        have hs : nmN a = nmN b := Decidable.byContradiction fun e => hd (.inr e)
        rcases same_head va' vb' ho hs with ⟨x, rfl, rfl⟩ | ⟨s, rfl, rfl⟩ | ⟨p, q, rfl, rfl⟩ | ⟨f, g, rfl, rfl⟩
        · obtain ⟨k1, rfl⟩ := kat_none ha (.inl ⟨x, rfl⟩)
          obtain ⟨k2, rfl⟩ := kat_none hb (.inl ⟨x, rfl⟩)
          rw [below_base.2 (.inr (.inr rfl))]
          exact below_same x k1 k2 emp emp emp none none w h49 h48 (fun e => by have := opN_base va'; omega)
        · obtain ⟨k1, rfl⟩ := kat_none ha (.inr ⟨s, rfl⟩)
          obtain ⟨k2, rfl⟩ := kat_none hb (.inr ⟨s, rfl⟩)
          rw [below_ent.2 (.inr rfl)]
          exact below_same 44 k1 k2 s emp emp none none w h49 h48 (by decide)
        · have hr : belowK (.set p) (.set q) = belowK p q := by simp [belowK, isAny]
          simp only [Kd.sz] at h h1 h2
          rw [hr]
          exact below_sets N (kind_below N) p q va vb w B (by omega) (by omega) (by omega) ha hb va' vb' hB
        · have hr : belowK (.fs f) (.fs g) = (belowF f g && mustF g f) := by simp [belowK, isAny]
          simp only [Kd.sz] at h h1 h2
          rw [hr]
          exact below_recs N (kind_below N) f g va vb w B (by omega) (by omega) (by omega) ha hb va' vb' hB
end Go.Proofs.Ytocchkmhnneiiaa
