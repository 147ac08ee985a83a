/-
  Plain: the least type above two is above both, and below whatever is. No program in sight.
-/
import Derived.Test.YtocchkmhnneiiaaKindJoin
namespace Go.Wk

theorem join_any {a b : Kd} (h : b = .base 48) : joinK a b = .base 48 := by
  subst h
  cases a with
  | base x => simp only [joinK]; split <;> simp [isAny]
  | _ => simp [joinK, isAny]
theorem join_none {a b : Kd} (h : b = .base 49) : joinK a b = a := by
  subst h
  cases a with
  | base x =>
    simp only [joinK]
    split
    · rename_i e; rw [e]
    · simp [isAny, isNone]
  | _ => simp [joinK, isAny, isNone]
theorem not_any {b : Kd} (h : b ≠ .base 48) : isAny b = false := by
  rcases e : isAny b with _ | _
  · rfl
  · exact absurd (isAny_iff.1 e) h
theorem not_none {b : Kd} (h : b ≠ .base 49) : isNone b = false := by
  rcases e : isNone b with _ | _
  · rfl
  · exact absurd (isNone_iff.1 e) h
open Classical in
theorem join_base {x : Int} {b : Kd} (h1 : b ≠ .base 48) (h2 : b ≠ .base 49) : joinK (.base x) b = if x = 49 then b else if b = .base x then .base x else .base 48 := by
  simp only [joinK, not_any h1, not_none h2]
  by_cases e9 : x = 49
  · rw [if_pos e9, if_pos e9]
  · rw [if_neg e9, if_neg e9]
    simp only [Bool.false_eq_true, if_false]
    cases b with
    | base y =>
      by_cases e : x = y
      · subst e; rw [if_neg (fun e => h1 (by rw [e])), if_pos rfl]; simp
      · rw [if_neg (show ¬ Kd.base y = Kd.base x from fun q => e (by injection q with q; exact q.symm))]
        simp [e]
    | _ => simp
open Classical in
theorem join_ent {s : ByteArray} {b : Kd} (h1 : b ≠ .base 48) (h2 : b ≠ .base 49) : joinK (.ent s) b = if b = .ent s then .ent s else .base 48 := by
  simp only [joinK, not_any h1, not_none h2]
  simp only [Bool.false_eq_true, if_false]
  cases b with
  | ent t =>
    by_cases e : s = t
    · subst e; simp
    · have e' : ¬ t = s := fun q => e q.symm
      simp [e, e']
  | _ => simp
theorem join_set {p : Kd} {b : Kd} (h1 : b ≠ .base 48) (h2 : b ≠ .base 49) : (∃ q, b = .set q ∧ joinK (.set p) b = .set (joinK p q)) ∨ ((∀ q, b ≠ .set q) ∧ joinK (.set p) b = .base 48) := by
  simp only [joinK, not_any h1, not_none h2]
  cases b with
  | set q => exact .inl ⟨q, rfl, by simp⟩
  | _ => exact .inr ⟨(fun q e => by cases e), by simp⟩
theorem join_fs {f : Fl} {b : Kd} (h1 : b ≠ .base 48) (h2 : b ≠ .base 49) : (∃ g, b = .fs g ∧ joinK (.fs f) b = .fs (joinF f g (restF g f))) ∨ ((∀ g, b ≠ .fs g) ∧ joinK (.fs f) b = .base 48) := by
  simp only [joinK, not_any h1, not_none h2]
  cases b with
  | fs g => exact .inl ⟨g, rfl, by simp⟩
  | _ => exact .inr ⟨(fun q e => by cases e), by simp⟩
theorem to_any (a : Kd) : belowK a (.base 48) = true := below_any a _ rfl
/-- Well formed is what two well formed ones join to. -/
theorem join_ok : ∀ (n : Nat) (a b : Kd), a.sz ≤ n → a.ok → b.ok → (joinK a b).ok
  | 0, a, _, h, _, _ => by cases a <;> simp [Kd.sz] at h
  | n + 1, a, b, h, ha, hb => by
    by_cases h1 : b = .base 48
    · rw [join_any h1]; trivial
    by_cases h2 : b = .base 49
    · rw [join_none h2]; exact ha
    cases a with
    | base x =>
      rw [join_base h1 h2]
      split
      · exact hb
      · split <;> trivial
    | ent s => rw [join_ent h1 h2]; split <;> trivial
    | set p =>
      simp only [Kd.sz] at h
      rcases join_set (p := p) h1 h2 with ⟨q, rfl, e⟩ | ⟨-, e⟩
      · rw [e]; exact join_ok n p q (by omega) ha hb
      · rw [e]; trivial
    | fs f =>
      simp only [Kd.sz] at h
      rcases join_fs (f := f) h1 h2 with ⟨g, rfl, e⟩ | ⟨-, e⟩
      · rw [e]
        refine ⟨join_asc ha.1 hb.1, ?_⟩
        have key : ∀ (f' acc : Fl), f'.sz ≤ n → f'.ok → acc.ok → (joinF f' g acc).ok := by
          intro f' acc hs ho hacc
          induction f' using Fl.rec (motive_1 := fun _ => True) with
          | nil => simpa [joinF] using hacc
          | cons s m k r _ ih =>
            simp only [Fl.sz] at hs
            have ih := ih (by omega) ho.2
            simp only [joinF]
            rcases hg : g.find s with _ | ⟨m', k'⟩
            · exact insF_ok _ _ _ ho.1 _ ih
            · exact insF_ok _ _ _ (join_ok n k k' (by omega) ho.1 (find_ok hb.2 hg)) _ ih
          | _ => trivial
        exact key f _ (by omega) ha.2 (restF_ok f g hb.2)
      · rw [e]; trivial
theorem join_up : ∀ (n : Nat) (a b : Kd), a.sz ≤ n → a.ok → b.ok → belowK a (joinK a b) = true ∧ belowK b (joinK a b) = true
  | 0, a, _, h, _, _ => by cases a <;> simp [Kd.sz] at h
  | n + 1, a, b, h, ha, hb => by
    by_cases h1 : b = .base 48
    · rw [join_any h1, h1]; exact ⟨to_any _, to_any _⟩
    by_cases h2 : b = .base 49
    · rw [join_none h2, h2]; exact ⟨below_refl _ a (Nat.le_refl _) ha, none_below _ _ rfl⟩
    have rb := below_refl _ b (Nat.le_refl _) hb
    cases a with
    | base x =>
      rw [join_base h1 h2]
      split
      · rename_i e; subst e; exact ⟨none_below _ _ rfl, rb⟩
      · split
        · rename_i e; rw [e]; exact ⟨below_base.2 (.inr (.inr rfl)), below_base.2 (.inr (.inr rfl))⟩
        · exact ⟨to_any _, to_any _⟩
    | ent s =>
      rw [join_ent h1 h2]
      split
      · rename_i e; rw [e]; exact ⟨below_ent.2 (.inr rfl), below_ent.2 (.inr rfl)⟩
      · exact ⟨to_any _, to_any _⟩
    | set p =>
      simp only [Kd.sz] at h
      rcases join_set (p := p) h1 h2 with ⟨q, rfl, e⟩ | ⟨-, e⟩
      · rw [e]
        obtain ⟨u1, u2⟩ := join_up n p q (by omega) ha hb
        exact ⟨below_set.2 (.inr ⟨_, rfl, u1⟩), below_set.2 (.inr ⟨_, rfl, u2⟩)⟩
      · rw [e]; exact ⟨to_any _, to_any _⟩
    | fs f =>
      simp only [Kd.sz] at h
      rcases join_fs (f := f) h1 h2 with ⟨g, rfl, e⟩ | ⟨-, e⟩
      · rw [e]
        have hj := join_asc ha.1 hb.1
        refine ⟨below_fs.2 (.inr ⟨_, rfl, (belR_iff ha.1 hj).2 ⟨fun s m k hf => ?_, fun s k hf => ?_⟩⟩), below_fs.2 (.inr ⟨_, rfl, (belR_iff hb.1 hj).2 ⟨fun s m k hg => ?_, fun s k hf => ?_⟩⟩)⟩
        · rw [join_find ha.1, hf]
          rcases hg : g.find s with _ | ⟨m', k'⟩
          · exact ⟨false, k, rfl, fun e => (nomatch e), below_refl _ k (Nat.le_refl _) (find_ok ha.2 hf)⟩
          · exact ⟨_, _, rfl, fun e => by simp at e; exact e.1, (join_up n k k' (by have := find_sz hf; omega) (find_ok ha.2 hf) (find_ok hb.2 hg)).1⟩
        · rw [join_find ha.1] at hf
          rcases hq : f.find s with _ | ⟨m0, k0⟩
          · rw [hq] at hf
            rcases hg : g.find s with _ | ⟨m', k'⟩ <;> rw [hg] at hf <;> simp [jn] at hf
          · rfl
        · rw [join_find ha.1, hg]
          rcases hf : f.find s with _ | ⟨m', k'⟩
          · exact ⟨false, k, rfl, fun e => (nomatch e), below_refl _ k (Nat.le_refl _) (find_ok hb.2 hg)⟩
          · exact ⟨_, _, rfl, fun e => by simp at e; exact e.2, (join_up n k' k (by have := find_sz hf; omega) (find_ok ha.2 hf) (find_ok hb.2 hg)).2⟩
        · rw [join_find ha.1] at hf
          rcases hg : g.find s with _ | ⟨m0, k0⟩
          · rw [hg] at hf
            rcases hq : f.find s with _ | ⟨m', k'⟩ <;> rw [hq] at hf <;> simp [jn] at hf
          · rfl
      · rw [e]; exact ⟨to_any _, to_any _⟩
theorem join_least : ∀ (n : Nat) (a b c : Kd), a.sz ≤ n → a.ok → b.ok → c.ok → belowK a c = true → belowK b c = true → belowK (joinK a b) c = true
  | 0, a, _, _, h, _, _, _, _, _ => by cases a <;> simp [Kd.sz] at h
  | n + 1, a, b, c, h, ha, hb, hc, k1, k2 => by
    by_cases h1 : b = .base 48
    · rw [join_any h1]; rw [h1] at k2; exact k2
    by_cases h2 : b = .base 49
    · rw [join_none h2]; exact k1
    by_cases h3 : c = .base 48
    · rw [h3]; exact to_any _
    cases a with
    | base x =>
      rw [join_base h1 h2]
      split
      · exact k2
      · rename_i hx
        rcases below_base.1 k1 with e | e | e
        · exact absurd e hx
        · exact absurd e h3
        · subst e
          cases b with
          | base y =>
            rcases below_base.1 k2 with e | e | e
            · subst e; exact absurd rfl h2
            · exact absurd e h3
            · injection e with e; subst e; rw [if_pos rfl]; exact k1
          | ent t => rcases below_ent.1 k2 with e | e <;> first | exact absurd e h3 | cases e
          | set t => rcases below_set.1 k2 with e | ⟨_, e, _⟩ <;> first | exact absurd e h3 | cases e
          | fs t => rcases below_fs.1 k2 with e | ⟨_, e, _⟩ <;> first | exact absurd e h3 | cases e
    | ent s =>
      rw [join_ent h1 h2]
      rcases below_ent.1 k1 with e | e
      · exact absurd e h3
      · subst e
        cases b with
        | base y =>
          rcases below_base.1 k2 with e | e | e
          · subst e; exact absurd rfl h2
          · exact absurd e h3
          · cases e
        | ent t =>
          rcases below_ent.1 k2 with e | e
          · exact absurd e h3
          · injection e with e; subst e; rw [if_pos rfl]; exact k1
        | set t => rcases below_set.1 k2 with e | ⟨_, e, _⟩ <;> first | exact absurd e h3 | cases e
        | fs t => rcases below_fs.1 k2 with e | ⟨_, e, _⟩ <;> first | exact absurd e h3 | cases e
    | set p =>
      simp only [Kd.sz] at h
      rcases below_set.1 k1 with e | ⟨r, rfl, k3⟩
      · exact absurd e h3
      · rcases join_set (p := p) h1 h2 with ⟨q, rfl, e⟩ | ⟨hno, e⟩
        · rw [e]
          rcases below_set.1 k2 with e | ⟨r', e', k4⟩
          · exact absurd e h3
          · injection e' with e'
            subst e'
            exact below_set.2 (.inr ⟨r, rfl, join_least n p q r (by omega) ha hb hc k3 k4⟩)
        · exfalso
          cases b with
          | base y =>
            rcases below_base.1 k2 with e | e | e
            · subst e; exact h2 rfl
            · cases e
            · cases e
          | ent t => rcases below_ent.1 k2 with e | e <;> cases e
          | set t => exact hno t rfl
          | fs t => rcases below_fs.1 k2 with e | ⟨_, e, _⟩ <;> cases e
    | fs f =>
      simp only [Kd.sz] at h
      rcases below_fs.1 k1 with e | ⟨r, rfl, k3⟩
      · exact absurd e h3
      · rcases join_fs (f := f) h1 h2 with ⟨g, rfl, e⟩ | ⟨hno, e⟩
        · rw [e]
          rcases below_fs.1 k2 with e | ⟨r', e', k4⟩
          · exact absurd e h3
          · injection e' with e'
            subst e'
            obtain ⟨p1, p2⟩ := (belR_iff ha.1 hc.1).1 k3
            obtain ⟨q1, q2⟩ := (belR_iff hb.1 hc.1).1 k4
            refine below_fs.2 (.inr ⟨r, rfl, (belR_iff (join_asc ha.1 hb.1) hc.1).2 ⟨fun s m k hj => ?_, fun s k hr => ?_⟩⟩)
            · rw [join_find ha.1] at hj
              rcases hf : f.find s with _ | ⟨m1, k1'⟩
              · rcases hg : g.find s with _ | ⟨m2, k2'⟩
                · rw [hf, hg] at hj; simp [jn] at hj
                · rw [hf, hg] at hj
                  simp only [jn, Option.some.injEq, Prod.mk.injEq] at hj
                  obtain ⟨rfl, rfl⟩ := hj
                  obtain ⟨m', k', hr, e1, e2⟩ := q1 s m2 k2' hg
                  refine ⟨m', k', hr, fun e => ?_, e2⟩
                  subst e
                  have := p2 s k' hr
                  rw [hf] at this; cases this
              · obtain ⟨m', k', hr, e1, e2⟩ := p1 s m1 k1' hf
                rcases hg : g.find s with _ | ⟨m2, k2'⟩
                · rw [hf, hg] at hj
                  simp only [jn, Option.some.injEq, Prod.mk.injEq] at hj
                  obtain ⟨rfl, rfl⟩ := hj
                  refine ⟨m', k', hr, fun e => ?_, e2⟩
                  subst e
                  have := q2 s k' hr
                  rw [hg] at this; cases this
                · rw [hf, hg] at hj
                  simp only [jn, Option.some.injEq, Prod.mk.injEq] at hj
                  obtain ⟨rfl, rfl⟩ := hj
                  obtain ⟨m'', k'', hr', e3, e4⟩ := q1 s m2 k2' hg
                  rw [hr] at hr'
                  simp only [Option.some.injEq, Prod.mk.injEq] at hr'
                  obtain ⟨rfl, rfl⟩ := hr'
                  exact ⟨m', k', hr, fun e => by rw [e1 e, e3 e]; rfl, join_least n k1' k2' k' (by have := find_sz hf; omega) (find_ok ha.2 hf) (find_ok hb.2 hg) (find_ok hc.2 hr) e2 e4⟩
            · have h5 := p2 s k hr
              rw [join_find ha.1]
              rcases hf : f.find s with _ | ⟨m1, k1'⟩
              · rw [hf] at h5; cases h5
              · rcases hg : g.find s with _ | ⟨m2, k2'⟩ <;> rfl
        · exfalso
          cases b with
          | base y =>
            rcases below_base.1 k2 with e | e | e
            · subst e; exact h2 rfl
            · cases e
            · cases e
          | ent t => rcases below_ent.1 k2 with e | e <;> cases e
          | set t => rcases below_set.1 k2 with e | ⟨_, e, _⟩ <;> cases e
          | fs t => exact hno t rfl
/-- Either way round. -/
theorem join_comm {a b : Kd} (ha : a.ok) (hb : b.ok) : joinK a b = joinK b a := by
  obtain ⟨u1, u2⟩ := join_up _ a b (Nat.le_refl _) ha hb
  obtain ⟨v1, v2⟩ := join_up _ b a (Nat.le_refl _) hb ha
  have o1 := join_ok _ a b (Nat.le_refl _) ha hb
  have o2 := join_ok _ b a (Nat.le_refl _) hb ha
  exact below_anti _ _ _ (Nat.le_refl _) o1 o2 (join_least _ a b _ (Nat.le_refl _) ha hb o2 v2 v1) (join_least _ b a _ (Nat.le_refl _) hb ha o1 u2 u1)
theorem join_assoc {a b c : Kd} (ha : a.ok) (hb : b.ok) (hc : c.ok) : joinK (joinK a b) c = joinK a (joinK b c) := by
  have oab := join_ok _ a b (Nat.le_refl _) ha hb
  have obc := join_ok _ b c (Nat.le_refl _) hb hc
  obtain ⟨u1, u2⟩ := join_up _ a b (Nat.le_refl _) ha hb
  obtain ⟨v1, v2⟩ := join_up _ b c (Nat.le_refl _) hb hc
  obtain ⟨p1, p2⟩ := join_up _ (joinK a b) c (Nat.le_refl _) oab hc
  obtain ⟨q1, q2⟩ := join_up _ a (joinK b c) (Nat.le_refl _) ha obc
  have o1 := join_ok _ (joinK a b) c (Nat.le_refl _) oab hc
  have o2 := join_ok _ a (joinK b c) (Nat.le_refl _) ha obc
  have tr := fun x y z hx hy hz h1 h2 => below_trans _ x y z (Nat.le_refl _) hx hy hz h1 h2
  refine below_anti _ _ _ (Nat.le_refl _) o1 o2 ?_ ?_
  · exact join_least _ _ c _ (Nat.le_refl _) oab hc o2 (join_least _ a b _ (Nat.le_refl _) ha hb o2 q1 (tr b _ _ hb obc o2 v1 q2)) (tr c _ _ hc obc o2 v2 q2)
  · exact join_least _ a _ _ (Nat.le_refl _) ha obc o1 (tr a _ _ ha oab o1 u1 p1) (join_least _ b c _ (Nat.le_refl _) hb hc o1 (tr b _ _ hb oab o1 u2 p1) p2)
theorem join_iff {a b : Kd} (ha : a.ok) (hb : b.ok) : joinK a b = a ↔ belowK b a = true := by
  obtain ⟨u1, u2⟩ := join_up _ a b (Nat.le_refl _) ha hb
  constructor
  · intro e; rw [e] at u2; exact u2
  · intro h
    exact below_anti _ _ _ (Nat.le_refl _) (join_ok _ a b (Nat.le_refl _) ha hb) ha (join_least _ a b a (Nat.le_refl _) ha hb ha (below_refl _ a (Nat.le_refl _) ha) h) u1
end Go.Wk
