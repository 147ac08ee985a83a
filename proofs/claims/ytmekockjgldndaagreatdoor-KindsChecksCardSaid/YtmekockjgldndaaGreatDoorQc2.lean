/-
  Plain: the least type above two is above both, and below whatever is. No program in sight.
  Plain: what two types that may be handed in join to may be, but for its length. No program in sight.
  Plain: the least of several types. No program in sight.
  Plain: the fields of a record's type as a list. No program in sight.
  Plain: how great the least above two is; the fields as they come out of join's loops, and sorted. No program in sight.
  Plain: the parts of sets and records; where a value ends hangs on its own nodes alone. No program in sight.
-/
import Derived.Test.YtmekockjgldndaaGreatDoorQc1
namespace Go.Wk

theorem join_any {a b : Kd} (h : b = .base 48) : joinK a b = .base 48 := by
  subst h
  cases a with
  | base x => simp only [joinK]; split <;> simp [isAny]
  | _ => simp [joinK, isAny]
theorem join_none {a b : Kd} (h : b = .base 49) : joinK a b = a := by
  subst h
  cases a with
  | base x =>
    simp only [joinK]
    split
    · rename_i e; rw [e]
    · simp [isAny, isNone]
  | _ => simp [joinK, isAny, isNone]
theorem not_any {b : Kd} (h : b ≠ .base 48) : isAny b = false := by
  rcases e : isAny b with _ | _
  · rfl
  · exact absurd (isAny_iff.1 e) h
theorem not_none {b : Kd} (h : b ≠ .base 49) : isNone b = false := by
  rcases e : isNone b with _ | _
  · rfl
  · exact absurd (isNone_iff.1 e) h
open Classical in
theorem join_base {x : Int} {b : Kd} (h1 : b ≠ .base 48) (h2 : b ≠ .base 49) : joinK (.base x) b = if x = 49 then b else if b = .base x then .base x else .base 48 := by
  simp only [joinK, not_any h1, not_none h2]
  by_cases e9 : x = 49
  · rw [if_pos e9, if_pos e9]
  · rw [if_neg e9, if_neg e9]
    simp only [Bool.false_eq_true, if_false]
    cases b with
    | base y =>
      by_cases e : x = y
      · subst e; rw [if_neg (fun e => h1 (by rw [e])), if_pos rfl]; simp
      · rw [if_neg (show ¬ Kd.base y = Kd.base x from fun q => e (by injection q with q; exact q.symm))]
        simp [e]
    | _ => simp
open Classical in
theorem join_ent {s : ByteArray} {b : Kd} (h1 : b ≠ .base 48) (h2 : b ≠ .base 49) : joinK (.ent s) b = if b = .ent s then .ent s else .base 48 := by
  simp only [joinK, not_any h1, not_none h2]
  simp only [Bool.false_eq_true, if_false]
  cases b with
  | ent t =>
    by_cases e : s = t
    · subst e; simp
    · have e' : ¬ t = s := fun q => e q.symm
      simp [e, e']
  | _ => simp
theorem join_set {p : Kd} {b : Kd} (h1 : b ≠ .base 48) (h2 : b ≠ .base 49) : (∃ q, b = .set q ∧ joinK (.set p) b = .set (joinK p q)) ∨ ((∀ q, b ≠ .set q) ∧ joinK (.set p) b = .base 48) := by
  simp only [joinK, not_any h1, not_none h2]
  cases b with
  | set q => exact .inl ⟨q, rfl, by simp⟩
  | _ => exact .inr ⟨(fun q e => by cases e), by simp⟩
theorem join_fs {f : Fl} {b : Kd} (h1 : b ≠ .base 48) (h2 : b ≠ .base 49) : (∃ g, b = .fs g ∧ joinK (.fs f) b = .fs (joinF f g (restF g f))) ∨ ((∀ g, b ≠ .fs g) ∧ joinK (.fs f) b = .base 48) := by
  simp only [joinK, not_any h1, not_none h2]
  cases b with
  | fs g => exact .inl ⟨g, rfl, by simp⟩
  | _ => exact .inr ⟨(fun q e => by cases e), by simp⟩
theorem to_any (a : Kd) : belowK a (.base 48) = true := below_any a _ rfl
/-- Well formed is what two well formed ones join to. -/
theorem join_ok : ∀ (n : Nat) (a b : Kd), a.sz ≤ n → a.ok → b.ok → (joinK a b).ok
  | 0, a, _, h, _, _ => by cases a <;> simp [Kd.sz] at h
  | n + 1, a, b, h, ha, hb => by
    by_cases h1 : b = .base 48
    · rw [join_any h1]; trivial
    by_cases h2 : b = .base 49
    · rw [join_none h2]; exact ha
    cases a with
    | base x =>
      rw [join_base h1 h2]
      split
      · exact hb
      · split <;> trivial
    | ent s => rw [join_ent h1 h2]; split <;> trivial
    | set p =>
      simp only [Kd.sz] at h
      rcases join_set (p := p) h1 h2 with ⟨q, rfl, e⟩ | ⟨-, e⟩
      · rw [e]; exact join_ok n p q (by omega) ha hb
      · rw [e]; trivial
    | fs f =>
      simp only [Kd.sz] at h
      rcases join_fs (f := f) h1 h2 with ⟨g, rfl, e⟩ | ⟨-, e⟩
      · rw [e]
        refine ⟨join_asc ha.1 hb.1, ?_⟩
        have key : ∀ (f' acc : Fl), f'.sz ≤ n → f'.ok → acc.ok → (joinF f' g acc).ok := by
          intro f' acc hs ho hacc
          induction f' using Fl.rec (motive_1 := fun _ => True) with
          | nil => simpa [joinF] using hacc
          | cons s m k r _ ih =>
            simp only [Fl.sz] at hs
            have ih := ih (by omega) ho.2
            simp only [joinF]
            rcases hg : g.find s with _ | ⟨m', k'⟩
            · exact insF_ok _ _ _ ho.1 _ ih
            · exact insF_ok _ _ _ (join_ok n k k' (by omega) ho.1 (find_ok hb.2 hg)) _ ih
          | _ => trivial
        exact key f _ (by omega) ha.2 (restF_ok f g hb.2)
      · rw [e]; trivial
theorem join_up : ∀ (n : Nat) (a b : Kd), a.sz ≤ n → a.ok → b.ok → belowK a (joinK a b) = true ∧ belowK b (joinK a b) = true
  | 0, a, _, h, _, _ => by cases a <;> simp [Kd.sz] at h
  | n + 1, a, b, h, ha, hb => by
    by_cases h1 : b = .base 48
    · rw [join_any h1, h1]; exact ⟨to_any _, to_any _⟩
    by_cases h2 : b = .base 49
    · rw [join_none h2, h2]; exact ⟨below_refl _ a (Nat.le_refl _) ha, none_below _ _ rfl⟩
    have rb := below_refl _ b (Nat.le_refl _) hb
    cases a with
    | base x =>
      rw [join_base h1 h2]
      split
      · rename_i e; subst e; exact ⟨none_below _ _ rfl, rb⟩
      · split
        · rename_i e; rw [e]; exact ⟨below_base.2 (.inr (.inr rfl)), below_base.2 (.inr (.inr rfl))⟩
        · exact ⟨to_any _, to_any _⟩
    | ent s =>
      rw [join_ent h1 h2]
      split
      · rename_i e; rw [e]; exact ⟨below_ent.2 (.inr rfl), below_ent.2 (.inr rfl)⟩
      · exact ⟨to_any _, to_any _⟩
    | set p =>
      simp only [Kd.sz] at h
      rcases join_set (p := p) h1 h2 with ⟨q, rfl, e⟩ | ⟨-, e⟩
      · rw [e]
        obtain ⟨u1, u2⟩ := join_up n p q (by omega) ha hb
        exact ⟨below_set.2 (.inr ⟨_, rfl, u1⟩), below_set.2 (.inr ⟨_, rfl, u2⟩)⟩
      · rw [e]; exact ⟨to_any _, to_any _⟩
    | fs f =>
      simp only [Kd.sz] at h
      rcases join_fs (f := f) h1 h2 with ⟨g, rfl, e⟩ | ⟨-, e⟩
      · rw [e]
        have hj := join_asc ha.1 hb.1
        refine ⟨below_fs.2 (.inr ⟨_, rfl, (belR_iff ha.1 hj).2 ⟨fun s m k hf => ?_, fun s k hf => ?_⟩⟩), below_fs.2 (.inr ⟨_, rfl, (belR_iff hb.1 hj).2 ⟨fun s m k hg => ?_, fun s k hf => ?_⟩⟩)⟩
        · rw [join_find ha.1, hf]
          rcases hg : g.find s with _ | ⟨m', k'⟩
          · exact ⟨false, k, rfl, fun e => (nomatch e), below_refl _ k (Nat.le_refl _) (find_ok ha.2 hf)⟩
          · exact ⟨_, _, rfl, fun e => by simp at e; exact e.1, (join_up n k k' (by have := find_sz hf; omega) (find_ok ha.2 hf) (find_ok hb.2 hg)).1⟩
        · rw [join_find ha.1] at hf
          rcases hq : f.find s with _ | ⟨m0, k0⟩
          · rw [hq] at hf
            rcases hg : g.find s with _ | ⟨m', k'⟩ <;> rw [hg] at hf <;> simp [jn] at hf
          · rfl
        · rw [join_find ha.1, hg]
          rcases hf : f.find s with _ | ⟨m', k'⟩
          · exact ⟨false, k, rfl, fun e => (nomatch e), below_refl _ k (Nat.le_refl _) (find_ok hb.2 hg)⟩
          · exact ⟨_, _, rfl, fun e => by simp at e; exact e.2, (join_up n k' k (by have := find_sz hf; omega) (find_ok ha.2 hf) (find_ok hb.2 hg)).2⟩
        · rw [join_find ha.1] at hf
          rcases hg : g.find s with _ | ⟨m0, k0⟩
          · rw [hg] at hf
            rcases hq : f.find s with _ | ⟨m', k'⟩ <;> rw [hq] at hf <;> simp [jn] at hf
          · rfl
      · rw [e]; exact ⟨to_any _, to_any _⟩
theorem join_least : ∀ (n : Nat) (a b c : Kd), a.sz ≤ n → a.ok → b.ok → c.ok → belowK a c = true → belowK b c = true → belowK (joinK a b) c = true
  | 0, a, _, _, h, _, _, _, _, _ => by cases a <;> simp [Kd.sz] at h
  | n + 1, a, b, c, h, ha, hb, hc, k1, k2 => by
    by_cases h1 : b = .base 48
    · rw [join_any h1]; rw [h1] at k2; exact k2
    by_cases h2 : b = .base 49
    · rw [join_none h2]; exact k1
    by_cases h3 : c = .base 48
    · rw [h3]; exact to_any _
    cases a with
    | base x =>
      rw [join_base h1 h2]
      split
      · exact k2
      · rename_i hx
        rcases below_base.1 k1 with e | e | e
        · exact absurd e hx
        · exact absurd e h3
        · subst e
          cases b with
          | base y =>
            rcases below_base.1 k2 with e | e | e
            · subst e; exact absurd rfl h2
            · exact absurd e h3
            · injection e with e; subst e; rw [if_pos rfl]; exact k1
          | ent t => rcases below_ent.1 k2 with e | e <;> first | exact absurd e h3 | cases e
          | set t => rcases below_set.1 k2 with e | ⟨_, e, _⟩ <;> first | exact absurd e h3 | cases e
          | fs t => rcases below_fs.1 k2 with e | ⟨_, e, _⟩ <;> first | exact absurd e h3 | cases e
    | ent s =>
      rw [join_ent h1 h2]
      rcases below_ent.1 k1 with e | e
      · exact absurd e h3
      · subst e
        cases b with
        | base y =>
          rcases below_base.1 k2 with e | e | e
          · subst e; exact absurd rfl h2
          · exact absurd e h3
          · cases e
        | ent t =>
          rcases below_ent.1 k2 with e | e
          · exact absurd e h3
          · injection e with e; subst e; rw [if_pos rfl]; exact k1
        | set t => rcases below_set.1 k2 with e | ⟨_, e, _⟩ <;> first | exact absurd e h3 | cases e
        | fs t => rcases below_fs.1 k2 with e | ⟨_, e, _⟩ <;> first | exact absurd e h3 | cases e
    | set p =>
      simp only [Kd.sz] at h
      rcases below_set.1 k1 with e | ⟨r, rfl, k3⟩
      · exact absurd e h3
      · rcases join_set (p := p) h1 h2 with ⟨q, rfl, e⟩ | ⟨hno, e⟩
        · rw [e]
          rcases below_set.1 k2 with e | ⟨r', e', k4⟩
          · exact absurd e h3
          · injection e' with e'
            subst e'
            exact below_set.2 (.inr ⟨r, rfl, join_least n p q r (by omega) ha hb hc k3 k4⟩)
        · exfalso
          cases b with
          | base y =>
            rcases below_base.1 k2 with e | e | e
            · subst e; exact h2 rfl
            · cases e
            · cases e
          | ent t => rcases below_ent.1 k2 with e | e <;> cases e
          | set t => exact hno t rfl
          | fs t => rcases below_fs.1 k2 with e | ⟨_, e, _⟩ <;> cases e
    | fs f =>
      simp only [Kd.sz] at h
      rcases below_fs.1 k1 with e | ⟨r, rfl, k3⟩
      · exact absurd e h3
      · rcases join_fs (f := f) h1 h2 with ⟨g, rfl, e⟩ | ⟨hno, e⟩
        · rw [e]
          rcases below_fs.1 k2 with e | ⟨r', e', k4⟩
          · exact absurd e h3
          · injection e' with e'
            subst e'
            obtain ⟨p1, p2⟩ := (belR_iff ha.1 hc.1).1 k3
            obtain ⟨q1, q2⟩ := (belR_iff hb.1 hc.1).1 k4
            refine below_fs.2 (.inr ⟨r, rfl, (belR_iff (join_asc ha.1 hb.1) hc.1).2 ⟨fun s m k hj => ?_, fun s k hr => ?_⟩⟩)
            · rw [join_find ha.1] at hj
              rcases hf : f.find s with _ | ⟨m1, k1'⟩
              · rcases hg : g.find s with _ | ⟨m2, k2'⟩
                · rw [hf, hg] at hj; simp [jn] at hj
                · rw [hf, hg] at hj
                  simp only [jn, Option.some.injEq, Prod.mk.injEq] at hj
                  obtain ⟨rfl, rfl⟩ := hj
                  obtain ⟨m', k', hr, e1, e2⟩ := q1 s m2 k2' hg
                  refine ⟨m', k', hr, fun e => ?_, e2⟩
                  subst e
                  have := p2 s k' hr
                  rw [hf] at this; cases this
              · obtain ⟨m', k', hr, e1, e2⟩ := p1 s m1 k1' hf
                rcases hg : g.find s with _ | ⟨m2, k2'⟩
                · rw [hf, hg] at hj
                  simp only [jn, Option.some.injEq, Prod.mk.injEq] at hj
                  obtain ⟨rfl, rfl⟩ := hj
                  refine ⟨m', k', hr, fun e => ?_, e2⟩
                  subst e
                  have := q2 s k' hr
                  rw [hg] at this; cases this
                · rw [hf, hg] at hj
                  simp only [jn, Option.some.injEq, Prod.mk.injEq] at hj
                  obtain ⟨rfl, rfl⟩ := hj
                  obtain ⟨m'', k'', hr', e3, e4⟩ := q1 s m2 k2' hg
                  rw [hr] at hr'
                  simp only [Option.some.injEq, Prod.mk.injEq] at hr'
                  obtain ⟨rfl, rfl⟩ := hr'
                  exact ⟨m', k', hr, fun e => by rw [e1 e, e3 e]; rfl, join_least n k1' k2' k' (by have := find_sz hf; omega) (find_ok ha.2 hf) (find_ok hb.2 hg) (find_ok hc.2 hr) e2 e4⟩
            · have h5 := p2 s k hr
              rw [join_find ha.1]
              rcases hf : f.find s with _ | ⟨m1, k1'⟩
              · rw [hf] at h5; cases h5
              · rcases hg : g.find s with _ | ⟨m2, k2'⟩ <;> rfl
        · exfalso
          cases b with
          | base y =>
            rcases below_base.1 k2 with e | e | e
            · subst e; exact h2 rfl
            · cases e
            · cases e
          | ent t => rcases below_ent.1 k2 with e | e <;> cases e
          | set t => rcases below_set.1 k2 with e | ⟨_, e, _⟩ <;> cases e
          | fs t => exact hno t rfl
/-- Either way round. -/
theorem join_comm {a b : Kd} (ha : a.ok) (hb : b.ok) : joinK a b = joinK b a := by
  obtain ⟨u1, u2⟩ := join_up _ a b (Nat.le_refl _) ha hb
  obtain ⟨v1, v2⟩ := join_up _ b a (Nat.le_refl _) hb ha
  have o1 := join_ok _ a b (Nat.le_refl _) ha hb
  have o2 := join_ok _ b a (Nat.le_refl _) hb ha
  exact below_anti _ _ _ (Nat.le_refl _) o1 o2 (join_least _ a b _ (Nat.le_refl _) ha hb o2 v2 v1) (join_least _ b a _ (Nat.le_refl _) hb ha o1 u2 u1)
theorem join_assoc {a b c : Kd} (ha : a.ok) (hb : b.ok) (hc : c.ok) : joinK (joinK a b) c = joinK a (joinK b c) := by
  have oab := join_ok _ a b (Nat.le_refl _) ha hb
  have obc := join_ok _ b c (Nat.le_refl _) hb hc
  obtain ⟨u1, u2⟩ := join_up _ a b (Nat.le_refl _) ha hb
  obtain ⟨v1, v2⟩ := join_up _ b c (Nat.le_refl _) hb hc
  obtain ⟨p1, p2⟩ := join_up _ (joinK a b) c (Nat.le_refl _) oab hc
  obtain ⟨q1, q2⟩ := join_up _ a (joinK b c) (Nat.le_refl _) ha obc
  have o1 := join_ok _ (joinK a b) c (Nat.le_refl _) oab hc
  have o2 := join_ok _ a (joinK b c) (Nat.le_refl _) ha obc
  have tr := fun x y z hx hy hz h1 h2 => below_trans _ x y z (Nat.le_refl _) hx hy hz h1 h2
  refine below_anti _ _ _ (Nat.le_refl _) o1 o2 ?_ ?_
  · exact join_least _ _ c _ (Nat.le_refl _) oab hc o2 (join_least _ a b _ (Nat.le_refl _) ha hb o2 q1 (tr b _ _ hb obc o2 v1 q2)) (tr c _ _ hc obc o2 v2 q2)
  · exact join_least _ a _ _ (Nat.le_refl _) ha obc o1 (tr a _ _ ha oab o1 u1 p1) (join_least _ b c _ (Nat.le_refl _) hb hc o1 (tr b _ _ hb oab o1 u2 p1) p2)
theorem join_iff {a b : Kd} (ha : a.ok) (hb : b.ok) : joinK a b = a ↔ belowK b a = true := by
  obtain ⟨u1, u2⟩ := join_up _ a b (Nat.le_refl _) ha hb
  constructor
  · intro e; rw [e] at u2; exact u2
  · intro h
    exact below_anti _ _ _ (Nat.le_refl _) (join_ok _ a b (Nat.le_refl _) ha hb) ha (join_least _ a b a (Nat.le_refl _) ha hb ha (below_refl _ a (Nat.le_refl _) ha) h) u1
end Go.Wk
namespace Go.Wk

/-- All names and types are as they may be. -/
def Fl.av : Fl → Prop
  | .nil => True
  | .cons s _ k r => nameFault s = 0 ∧ k.valid ∧ r.av
theorem emp_lt {s : ByteArray} (h : nameFault s = 0) : cmpB emp s < 0 := by
  have hne : s ≠ emp := fun e => by subst e; exact absurd h (by decide)
  rcases cmpB_cmp.rng emp s with e | e | e
  · omega
  · exact absurd ((cmpB_cmp.zero _ _).1 e).symm hne
  · exfalso
    unfold cmpB at e
    have : emp.data.toList = [] := rfl
    rw [this] at e
    cases hs : s.data.toList with
    | nil => exact hne (bytes_ext (by rw [hs]; rfl))
    | cons a l => rw [hs] at e; simp [Lib.compareBytes] at e
theorem validFrom_iff : ∀ (f : Fl) (x : ByteArray), f.validFrom x ↔ f.ascFrom x ∧ f.av
  | .nil, _ => by simp [Fl.validFrom, Fl.ascFrom, Fl.av]
  | .cons s m k r, x => by
    simp only [Fl.validFrom, Fl.ascFrom, Fl.av, validFrom_iff r s]
    constructor
    · rintro ⟨a, b, c, d, e⟩; exact ⟨⟨a, d⟩, b, c, e⟩
    · rintro ⟨⟨a, d⟩, b, c, e⟩; exact ⟨a, b, c, d, e⟩
theorem asc_emp : ∀ f : Fl, f.asc → f.av → f.ascFrom emp
  | .nil, _, _ => trivial
  | .cons _ _ _ _, h, hv => ⟨emp_lt hv.1, h⟩
theorem valid_fs {f : Fl} : (Kd.fs f).valid ↔ f.asc ∧ f.av := by
  simp only [Kd.valid, validFrom_iff]
  exact ⟨fun ⟨a, b⟩ => ⟨asc_tail a, b⟩, fun ⟨a, b⟩ => ⟨asc_emp f a b, b⟩⟩
theorem valid_ok : ∀ (n : Nat) (a : Kd), a.sz ≤ n → a.valid → a.ok
  | 0, a, h, _ => by cases a <;> simp [Kd.sz] at h
  | n + 1, a, h, hv => by
    cases a with
    | base x => trivial
    | ent s => trivial
    | set p => simp only [Kd.sz] at h; exact valid_ok n p (by omega) hv
    | fs f =>
      simp only [Kd.sz] at h
      obtain ⟨h1, h2⟩ := valid_fs.1 hv
      refine ⟨h1, ?_⟩
      have key : ∀ g : Fl, g.sz ≤ n → g.av → g.ok := by
        intro g hs hg
        induction g using Fl.rec (motive_1 := fun _ => True) with
        | nil => trivial
        | cons s m k r _ ih =>
          simp only [Fl.sz] at hs
          exact ⟨valid_ok n k (by omega) hg.2.1, ih (by omega) hg.2.2⟩
        | _ => trivial
      exact key f (by omega) h2
theorem Kd.valid.ok {a : Kd} (h : a.valid) : a.ok := valid_ok _ a (Nat.le_refl _) h
theorem insF_av (s : ByteArray) (m : Bool) (k : Kd) (hs : nameFault s = 0) (hk : k.valid) : ∀ f : Fl, f.av → (insF s m k f).av
  | .nil, _ => ⟨hs, hk, trivial⟩
  | .cons t m' k' r, h => by
    simp only [insF]
    split
    · exact ⟨hs, hk, h⟩
    · exact ⟨h.1, h.2.1, insF_av s m k hs hk r h.2.2⟩
theorem restF_av (f : Fl) : ∀ g : Fl, g.av → (restF g f).av
  | .nil, _ => trivial
  | .cons t m k r, h => by
    simp only [restF]
    split
    · exact restF_av f r h.2.2
    · exact ⟨h.1, h.2.1, restF_av f r h.2.2⟩
theorem find_valid {f : Fl} (h : f.av) {s : ByteArray} {m : Bool} {k : Kd} (hf : f.find s = some (m, k)) : k.valid := by
  induction f using Fl.rec (motive_1 := fun _ => True) with
  | nil => cases hf
  | cons t m' k' r _ ih =>
    simp only [Fl.find] at hf
    split at hf
    · injection hf with hf; injection hf with h1 h2; subst h2; exact h.2.1
    · exact ih h.2.2 hf
  | _ => trivial
theorem join_valid : ∀ (n : Nat) (a b : Kd), a.sz ≤ n → a.valid → b.valid → (joinK a b).valid
  | 0, a, _, h, _, _ => by cases a <;> simp [Kd.sz] at h
  | n + 1, a, b, h, ha, hb => by
    have h48 : (Kd.base 48).valid := by show baseOp 48; decide
    by_cases h1 : b = .base 48
    · rw [join_any h1]; exact h48
    by_cases h2 : b = .base 49
    · rw [join_none h2]; exact ha
    cases a with
    | base x =>
      rw [join_base h1 h2]
      split
      · exact hb
      · split
        · exact ha
        · exact h48
    | ent s =>
      rw [join_ent h1 h2]
      split
      · exact ha
      · exact h48
    | set p =>
      simp only [Kd.sz] at h
      rcases join_set (p := p) h1 h2 with ⟨q, rfl, e⟩ | ⟨-, e⟩
      · rw [e]; exact join_valid n p q (by omega) ha hb
      · rw [e]; exact h48
    | fs f =>
      simp only [Kd.sz] at h
      rcases join_fs (f := f) h1 h2 with ⟨g, rfl, e⟩ | ⟨-, e⟩
      · rw [e]
        obtain ⟨fa, fv⟩ := valid_fs.1 ha
        obtain ⟨ga, gv⟩ := valid_fs.1 hb
        refine valid_fs.2 ⟨join_asc fa ga, ?_⟩
        have key : ∀ (f' acc : Fl), f'.sz ≤ n → f'.av → acc.av → (joinF f' g acc).av := by
          intro f' acc hs ho hacc
          induction f' using Fl.rec (motive_1 := fun _ => True) with
          | nil => simpa [joinF] using hacc
          | cons s m k r _ ih =>
            simp only [Fl.sz] at hs
            have ih := ih (by omega) ho.2.2
            simp only [joinF]
            rcases hg : g.find s with _ | ⟨m', k'⟩
            · exact insF_av _ _ _ ho.1 ho.2.1 _ ih
            · exact insF_av _ _ _ ho.1 (join_valid n k k' (by omega) ho.2.1 (find_valid gv hg)) _ ih
          | _ => trivial
        exact key f _ (by omega) fv (restF_av f g gv)
      · rw [e]; exact h48
end Go.Wk
namespace Go.Wk
theorem below_join_iff {a b c : Kd} (ha : a.ok) (hb : b.ok) (hc : c.ok) : belowK (joinK a b) c = true ↔ belowK a c = true ∧ belowK b c = true := by
  obtain ⟨u1, u2⟩ := join_up _ a b (Nat.le_refl _) ha hb
  have o := join_ok _ a b (Nat.le_refl _) ha hb
  constructor
  · intro h
    exact ⟨below_trans _ a _ c (Nat.le_refl _) ha o hc u1 h, below_trans _ b _ c (Nat.le_refl _) hb o hc u2 h⟩
  · rintro ⟨h1, h2⟩
    exact join_least _ a b c (Nat.le_refl _) ha hb hc h1 h2
theorem join_self {a : Kd} (ha : a.ok) : joinK a a = a := (join_iff ha ha).2 (below_refl _ a (Nat.le_refl _) ha)
theorem below_both {a b : Kd} (ha : a.ok) (hb : b.ok) : (belowK a b = true ∧ belowK b a = true) ↔ a = b := by
  constructor
  · rintro ⟨h1, h2⟩; exact below_anti _ a b (Nat.le_refl _) ha hb h1 h2
  · rintro rfl; exact ⟨below_refl _ a (Nat.le_refl _) ha, below_refl _ a (Nat.le_refl _) ha⟩
end Go.Wk
namespace Go.Wk

abbrev Kfd := ByteArray × Bool × Kd
def Fl.list : Fl → List Kfd
  | .nil => []
  | .cons s m k r => (s, m, k) :: r.list
def Fl.lenL : Fl → Nat
  | .nil => 0
  | .cons _ _ _ r => r.lenL + 1
theorem list_names {f : Fl} : ∀ x : ByteArray, f.ascFrom x → (∀ y ∈ f.list, cmpB x y.1 < 0) ∧ f.list.Pairwise fun a b => cmpB a.1 b.1 < 0 := by
  induction f using Fl.rec (motive_1 := fun _ => True) with
  | nil => intro x _; exact ⟨(fun _ hy => nomatch hy), List.Pairwise.nil⟩
  | cons s m k r _ ih =>
    intro x h
    obtain ⟨h1, h2⟩ := ih s h.2
    refine ⟨fun y hy => ?_, List.Pairwise.cons h1 h2⟩
    rcases List.mem_cons.1 hy with rfl | hy
    · exact h.1
    · exact cmpB_cmp.lt_le h.1 (by have := h1 y hy; omega)
  | _ => trivial
theorem list_asc {f : Fl} (h : f.asc) : f.list.Pairwise fun a b => cmpB a.1 b.1 < 0 := by
  cases f with
  | nil => exact List.Pairwise.nil
  | cons s m k r =>
    obtain ⟨h1, h2⟩ := list_names s h
    exact List.Pairwise.cons h1 h2
theorem find_list {f : Fl} (h : f.asc) {s : ByteArray} {m : Bool} {k : Kd} : f.find s = some (m, k) ↔ (s, m, k) ∈ f.list := by
  induction f using Fl.rec (motive_1 := fun _ => True) with
  | nil => simp [Fl.find, Fl.list]
  | cons t m' k' r _ ih =>
    have ih := ih (asc_tail h)
    simp only [Fl.find, Fl.list, List.mem_cons, Prod.mk.injEq]
    by_cases e : t = s
    · subst e
      rw [if_pos rfl]
      simp only [Option.some.injEq, Prod.mk.injEq, true_and]
      constructor
      · rintro ⟨rfl, rfl⟩; exact .inl ⟨rfl, rfl⟩
      · rintro (⟨rfl, rfl⟩ | hm)
        · exact ⟨rfl, rfl⟩
        · have := (list_names t h).1 _ hm; rw [cmpB_cmp.self] at this; omega
    · rw [if_neg e, ih]
      exact ⟨.inr, fun h => h.resolve_left (fun q => e q.1.symm)⟩
  | _ => trivial
theorem find_none {f : Fl} {s : ByteArray} : f.find s = none ↔ ∀ y ∈ f.list, y.1 ≠ s := by
  induction f using Fl.rec (motive_1 := fun _ => True) with
  | nil => simp [Fl.find, Fl.list]
  | cons t m' k' r _ ih =>
    simp only [Fl.find, Fl.list, List.mem_cons]
    by_cases e : t = s
    · subst e
      rw [if_pos rfl]
      exact ⟨fun h => (nomatch h), fun h => absurd rfl (h (t, m', k') (.inl rfl))⟩
    · rw [if_neg e, ih]
      constructor
      · rintro h y (rfl | hy)
        · exact e
        · exact h y hy
      · exact fun h y hy => h y (.inr hy)
  | _ => trivial
/-- Half-way: the names ahead of lo are below s, those from hi on are not. -/
structure Half (L : List Kfd) (s : ByteArray) (lo hi : Nat) : Prop where
  le : lo ≤ hi
  hi_ : hi ≤ L.length
  low : ∀ i (h : i < L.length), i < lo → cmpB L[i].1 s < 0
  high : ∀ i (h : i < L.length), hi ≤ i → ¬ cmpB L[i].1 s < 0
theorem Half.start (L : List Kfd) (s : ByteArray) : Half L s 0 L.length := ⟨Nat.zero_le _, Nat.le_refl _, fun i _ h => by omega, fun i h h2 => by omega⟩
theorem Half.up {L : List Kfd} {s : ByteArray} {lo hi m : Nat} (h : Half L s lo hi) (hp : L.Pairwise fun a b => cmpB a.1 b.1 < 0) (h1 : lo ≤ m) (h2 : m < hi) (hm : m < L.length) (hl : cmpB L[m].1 s < 0) : Half L s (m + 1) hi :=
  ⟨by omega, h.hi_, fun i hi' hlt => by
    rcases Nat.lt_or_ge i m with q | q
    · have := List.pairwise_iff_getElem.1 hp i m hi' hm q
      exact cmpB_cmp.lt_le this (by omega)
    · have : i = m := by omega
      subst this; exact hl, h.high⟩
theorem Half.down {L : List Kfd} {s : ByteArray} {lo hi m : Nat} (h : Half L s lo hi) (hp : L.Pairwise fun a b => cmpB a.1 b.1 < 0) (h1 : lo ≤ m) (h2 : m < hi) (hm : m < L.length) (hl : ¬ cmpB L[m].1 s < 0) : Half L s lo m :=
  ⟨h1, by omega, h.low, fun i hi' hge => by
    rcases Nat.lt_or_ge m i with q | q
    · have := List.pairwise_iff_getElem.1 hp m i hm hi' q
      intro hc
      exact hl (cmpB_cmp.lt_le this (by omega))
    · have : i = m := by omega
      subst this; exact hl⟩
theorem Half.found {L : List Kfd} {s : ByteArray} {lo : Nat} (h : Half L s lo lo) (hp : L.Pairwise fun a b => cmpB a.1 b.1 < 0) : (∀ (hl : lo < L.length), L[lo].1 = s → L[lo] ∈ L) ∧ ((∀ (hl : lo < L.length), L[lo].1 ≠ s) → ∀ y ∈ L, y.1 ≠ s) := by
  refine ⟨fun hl _ => List.getElem_mem hl, fun hno y hy e => ?_⟩
  obtain ⟨i, hi, rfl⟩ := List.getElem_of_mem hy
  rcases Nat.lt_trichotomy i lo with q | q | q
  · have := h.low i hi q; rw [e, cmpB_cmp.self] at this; omega
  · subst q; exact hno hi e
  · have h1 := List.pairwise_iff_getElem.1 hp lo i (by omega) hi q
    have h2 := h.high lo (by omega) (Nat.le_refl _)
    rw [e] at h1
    exact h2 h1
end Go.Wk
namespace Go.Wk

/-- What f's names have in g. -/
def overF : Fl → Fl → Nat
  | .nil, _ => 0
  | .cons s _ _ r, g => (match g.find s with | none => 0 | some (_, k) => k.sz) + overF r g
theorem insF_sz (s : ByteArray) (m : Bool) (k : Kd) : ∀ f : Fl, (insF s m k f).sz = f.sz + k.sz + 1
  | .nil => by simp [insF, Fl.sz]
  | .cons t m' k' r => by
    simp only [insF]
    split
    · simp only [Fl.sz]; omega
    · simp only [Fl.sz, insF_sz s m k r]; omega
theorem over_nil : ∀ f : Fl, overF f .nil = 0
  | .nil => rfl
  | .cons s m k r => by simp [overF, Fl.find, over_nil r]
theorem over_cons (t : ByteArray) (m : Bool) (k : Kd) (r : Fl) : ∀ f : Fl, f.asc → overF f (.cons t m k r) ≤ overF f r + (if (f.find t).isSome then k.sz else 0)
  | .nil, _ => by simp [overF]
  | .cons s m' k' f, h => by
    have ih := over_cons t m k r f (asc_tail h)
    by_cases e : s = t
    · subst e
      have hn : f.find s = none := tail_none h
      rw [hn] at ih
      simp only [overF, Fl.find, if_true, Option.isSome_some]
      simp only [Option.isSome_none, Bool.false_eq_true, if_false] at ih
      omega
    · have e2 : ¬ t = s := fun q => e q.symm
      simp only [overF, Fl.find, if_neg e, if_neg e2]
      omega
theorem rest_over (f : Fl) (hf : f.asc) : ∀ g : Fl, (restF g f).sz + overF f g ≤ g.sz
  | .nil => by simp [restF, Fl.sz, over_nil]
  | .cons t m k r => by
    have ih := rest_over f hf r
    have h := over_cons t m k r f hf
    simp only [restF, Fl.sz]
    split
    · rename_i hs
      rw [if_pos hs] at h
      omega
    · rename_i hs
      rw [if_neg hs] at h
      simp only [Fl.sz]
      omega
theorem sz_pos (k : Kd) : 1 ≤ k.sz := by cases k <;> simp [Kd.sz]
theorem find_sz_le {f : Fl} {s : ByteArray} {m : Bool} {k : Kd} (hf : f.find s = some (m, k)) : k.sz ≤ f.sz := Nat.le_of_lt (find_sz hf)
theorem join_sz : ∀ n : Nat, (∀ a b : Kd, a.sz ≤ n → a.ok → b.ok → (joinK a b).sz ≤ a.sz + b.sz) ∧ (∀ f g acc : Fl, f.sz ≤ n → f.asc → f.ok → g.ok → (joinF f g acc).sz ≤ f.sz + acc.sz + overF f g)
  | 0 => by
    refine ⟨fun a b h => by cases a <;> simp [Kd.sz] at h, fun f g acc h _ _ _ => ?_⟩
    cases f with
    | nil => simp [joinF, Fl.sz, overF]
    | cons s m k r => simp [Fl.sz] at h
  | n + 1 => by
    obtain ⟨ihK, ihF⟩ := join_sz n
    refine ⟨fun a b h ha hb => ?_, fun f g acc h hf hok hg => ?_⟩
    · have hpa := sz_pos a
      by_cases h1 : b = .base 48
      · rw [join_any h1]; simp only [Kd.sz]; omega
      by_cases h2 : b = .base 49
      · rw [join_none h2]; omega
      have hp := sz_pos b
      cases a with
      | base x =>
        rw [join_base h1 h2]
        split
        · omega
        · split <;> simp only [Kd.sz] <;> omega
      | ent s =>
        rw [join_ent h1 h2]
        split <;> simp only [Kd.sz] <;> omega
      | set p =>
        simp only [Kd.sz] at h
        rcases join_set (p := p) h1 h2 with ⟨q, rfl, e⟩ | ⟨-, e⟩
        · rw [e]
          have := ihK p q (by omega) ha hb
          simp only [Kd.sz]; omega
        · rw [e]; simp only [Kd.sz]; omega
      | fs f =>
        simp only [Kd.sz] at h
        rcases join_fs (f := f) h1 h2 with ⟨g, rfl, e⟩ | ⟨-, e⟩
        · rw [e]
          have := ihF f g (restF g f) (by omega) ha.1 ha.2 hb.2
          have := rest_over f ha.1 g
          simp only [Kd.sz]; omega
        · rw [e]; simp only [Kd.sz]; omega
    · cases f with
      | nil => simp only [joinF, Fl.sz, overF]; omega
      | cons s m k r =>
        simp only [Fl.sz] at h
        have ih := ihF r g acc (by omega) (asc_tail hf) hok.2 hg
        rcases hs : g.find s with _ | ⟨m', k'⟩
        · simp only [joinF, hs, overF, insF_sz, Fl.sz]; omega
        · have := ihK k k' (by omega) hok.1 (find_ok hg hs)
          simp only [joinF, hs, overF, insF_sz, Fl.sz]; omega
theorem joinK_sz {a b : Kd} (ha : a.ok) (hb : b.ok) : (joinK a b).sz ≤ a.sz + b.sz := (join_sz _).1 a b (Nat.le_refl _) ha hb

/-- Fields of a list. -/
def ofL : List Kfd → Fl
  | [] => .nil
  | y :: r => .cons y.1 y.2.1 y.2.2 (ofL r)
theorem ofL_list : ∀ L : List Kfd, (ofL L).list = L
  | [] => rfl
  | y :: r => by simp [ofL, Fl.list, ofL_list r]
theorem list_ofL : ∀ f : Fl, ofL f.list = f
  | .nil => rfl
  | .cons s m k r => by simp [Fl.list, ofL, list_ofL r]
theorem ofL_asc : ∀ L : List Kfd, (L.Pairwise fun a b => cmpB a.1 b.1 < 0) → (ofL L).asc ∧ ∀ x, (∀ y ∈ L, cmpB x y.1 < 0) → (ofL L).ascFrom x
  | [], _ => ⟨trivial, fun _ _ => trivial⟩
  | y :: r, h => by
    rw [List.pairwise_cons] at h
    obtain ⟨h1, h2⟩ := h
    obtain ⟨-, ih⟩ := ofL_asc r h2
    exact ⟨ih y.1 h1, fun x hx => ⟨hx y (by simp), ih y.1 h1⟩⟩
/-- Fields ahead of fields. -/
def catF (L : List Kfd) (f : Fl) : Fl := ofL (L ++ f.list)
theorem catF_nil (f : Fl) : catF [] f = f := by unfold catF; rw [List.nil_append, list_ofL]
theorem catF_snoc (L : List Kfd) (s : ByteArray) (b : Bool) (k : Kd) (f : Fl) : catF (L ++ [(s, b, k)]) f = catF L (.cons s b k f) := by
  unfold catF
  rw [List.append_assoc]
  rfl
theorem catF_end (L : List Kfd) : catF L .nil = ofL L := by unfold catF; rw [Fl.list, List.append_nil]
/-- What becomes of a field of the first one. -/
def mixO (g : Fl) (y : Kfd) : Kfd := match g.find y.1 with
  | none => (y.1, false, y.2.2)
  | some (m', k') => (y.1, y.2.1 && m', joinK y.2.2 k')
/-- The fields as join's loops lay them: the first one's, then those that the second one alone has. -/
def mixL (f g : Fl) : List Kfd := f.list.map (mixO g) ++ (g.list.filter fun y => (f.find y.1).isNone).map fun y => (y.1, false, y.2.2)
theorem mixO_name (g : Fl) (y : Kfd) : (mixO g y).1 = y.1 := by unfold mixO; split <;> rfl
theorem mixL_mem {f g : Fl} (hf : f.asc) (hg : g.asc) (s : ByteArray) (m : Bool) (k : Kd) : (s, m, k) ∈ mixL f g ↔ (joinF f g (restF g f)).find s = some (m, k) := by
  rw [join_find hf]
  unfold mixL
  rw [List.mem_append, List.mem_map, List.mem_map]
  constructor
  · rintro (⟨⟨s', m', k'⟩, h1, h2⟩ | ⟨⟨s', m', k'⟩, h1, h2⟩)
    · have h3 := (find_list hf).2 h1
      have hs : s' = s := by have := mixO_name g (s', m', k'); rw [h2] at this; exact this.symm
      subst hs
      rw [h3]
      unfold mixO at h2
      simp only at h2
      rcases hg2 : g.find s' with _ | ⟨m2, k2⟩
      · rw [hg2] at h2; simp only [Prod.mk.injEq, true_and] at h2; simp [jn, h2]
      · rw [hg2] at h2; simp only [Prod.mk.injEq, true_and] at h2; simp [jn, h2]
    · rw [List.mem_filter] at h1
      obtain ⟨h1, h4⟩ := h1
      have h3 := (find_list hg).2 h1
      simp only [Prod.mk.injEq] at h2
      obtain ⟨rfl, rfl, rfl⟩ := h2
      simp only [Option.isNone_iff_eq_none] at h4
      rw [h3, h4]
      rfl
  · intro h
    rcases hf2 : f.find s with _ | ⟨m1, k1⟩
    · rcases hg2 : g.find s with _ | ⟨m2, k2⟩
      · rw [hf2, hg2] at h; cases h
      · rw [hf2, hg2] at h
        simp only [jn, Option.some.injEq, Prod.mk.injEq] at h
        refine .inr ⟨(s, m2, k2), List.mem_filter.2 ⟨(find_list hg).1 hg2, by simp [hf2]⟩, by simp [h]⟩
    · refine .inl ⟨(s, m1, k1), (find_list hf).1 hf2, ?_⟩
      unfold mixO
      simp only
      rcases hg2 : g.find s with _ | ⟨m2, k2⟩
      · rw [hf2, hg2] at h
        simp only [jn, Option.some.injEq, Prod.mk.injEq] at h
        simp [h]
      · rw [hf2, hg2] at h
        simp only [jn, Option.some.injEq, Prod.mk.injEq] at h
        simp [h]
theorem mixL_sz {f g : Fl} : (mixL f g).length ≤ f.len + g.len := by
  unfold mixL
  rw [List.length_append, List.length_map, List.length_map]
  have h := List.length_filter_le (fun y : Kfd => (f.find y.1).isNone) g.list
  have h1 : ∀ x : Fl, x.list.length = x.len := fun x => by
    induction x using Fl.rec (motive_1 := fun _ => True) with
    | nil => rfl
    | cons s m k r _ ih => simp [Fl.len, Fl.list, ih]
    | _ => trivial
  have e1 := h1 f
  have e2 := h1 g
  omega
/-- Sorted by their names, they are the fields of the least above both. -/
theorem mixL_sorted {f g : Fl} (hf : f.asc) (hg : g.asc) {L : List Kfd} (hp : L.Perm (mixL f g)) (hs : L.Pairwise fun a b => cmpB a.1 b.1 ≤ 0) : ofL L = joinF f g (restF g f) := by
  have hnd : L.Pairwise fun a b => cmpB a.1 b.1 < 0 := by
    have hn : (mixL f g).Pairwise fun a b => a.1 ≠ b.1 := by
      unfold mixL
      rw [List.pairwise_append]
      refine ⟨?_, ?_, ?_⟩
      · rw [List.pairwise_map]
        refine (list_asc hf).imp fun {a b} h e => ?_
        rw [mixO_name, mixO_name] at e
        rw [e, cmpB_cmp.self] at h
        omega
      · rw [List.pairwise_map]
        refine ((list_asc hg).filter _).imp fun {a b} h e => ?_
        simp only at e
        rw [e, cmpB_cmp.self] at h
        omega
      · intro a ha b hb e
        rw [List.mem_map] at ha hb
        obtain ⟨x, hx, rfl⟩ := ha
        obtain ⟨y, hy, rfl⟩ := hb
        rw [mixO_name] at e
        simp only at e
        rw [List.mem_filter] at hy
        have h1 : f.find y.1 = none := by simpa using hy.2
        have h2 := (find_list hf (s := x.1) (m := x.2.1) (k := x.2.2)).2 hx
        rw [e, h1] at h2
        cases h2
    have hnL : L.Pairwise fun a b => a.1 ≠ b.1 := hp.symm.pairwise hn (fun {a b} h => fun e => h e.symm)
    refine (List.Pairwise.and hs hnL).imp fun {a b} ⟨h1, h2⟩ => ?_
    have : cmpB a.1 b.1 ≠ 0 := fun e => h2 ((cmpB_cmp.zero _ _).1 e)
    omega
  have ho := (ofL_asc L hnd).1
  refine fl_ext _ _ ho (join_asc hf hg) fun s => ?_
  rcases h : (joinF f g (restF g f)).find s with _ | ⟨m, k⟩
  · rw [find_none, ofL_list]
    intro y hy e
    have h2 := (mixL_mem hf hg y.1 y.2.1 y.2.2).1 (hp.mem_iff.1 hy)
    rw [e, h] at h2
    cases h2
  · rw [find_list ho, ofL_list]
    exact hp.mem_iff.2 ((mixL_mem hf hg s m k).2 h)
end Go.Wk
namespace Go.Wk

/-- It ends behind where it begins. -/
def Goes (f : Nat → Option Nat) : Prop := ∀ p e, f p = some e → p < e
theorem goes_part (v : List Nd) (m : Nat) : Goes (partEnd v m) := fun p e h => (partEnd_le m p e h).1
theorem setLoop_ge {v : List Nd} {f : Nat → Option Nat} (hf : Goes f) : ∀ k last p e, setLoop v f k last p = some e → p ≤ e := by
  intro k
  induction k with
  | zero => intro last p e h; simp only [setLoop, Option.some.injEq] at h; omega
  | succ k ih =>
    intro last p e h
    simp only [setLoop] at h
    split at h
    · cases h
    · rename_i q hq
      have := hf p q hq
      split at h
      · have := ih _ _ _ h; omega
      · cases h
theorem recLoop_ge {v : List Nd} {f : Nat → Option Nat} (hf : Goes f) : ∀ k last p e, recLoop v f k last p = some e → p ≤ e := by
  intro k
  induction k with
  | zero => intro last p e h; simp only [recLoop, Option.some.injEq] at h; omega
  | succ k ih =>
    intro last p e h
    simp only [recLoop] at h
    split at h
    · cases h
    · split at h
      · cases h
      · rename_i q hq
        have := hf _ q hq
        have := ih _ _ _ h; omega

/-- Two lists that are alike over a stretch. -/
def Alike (u v : List Nd) (a b L : Nat) : Prop := ∀ k, k < L → u[a + k]? = v[b + k]?
theorem Alike.symm {u v : List Nd} {a b L : Nat} (h : Alike u v a b L) : Alike v u b a L := fun k hk => (h k hk).symm
theorem Alike.seg {u v : List Nd} {a b L : Nat} (h : Alike u v a b L) {i j : Nat} (hj : j ≤ L) : seg u (a + i) (a + j) = seg v (b + i) (b + j) := by
  unfold Wk.seg
  apply List.ext_getElem?
  intro k
  rw [List.getElem?_take, List.getElem?_take, show a + j - (a + i) = j - i by omega, show b + j - (b + i) = j - i by omega]
  by_cases hk : k < j - i
  · rw [if_pos hk, if_pos hk, List.getElem?_drop, List.getElem?_drop, Nat.add_assoc, Nat.add_assoc]
    exact h (i + k) (by omega)
  · rw [if_neg hk, if_neg hk]

section
variable {u v : List Nd} {a b L : Nat}
theorem setLoop_move (h : Alike u v a b L) {f g : Nat → Option Nat} (hf : Goes f) (hg : ∀ p e, f (a + p) = some (a + e) → e ≤ L → g (b + p) = some (b + e)) :
    ∀ k (lo : Option Nat) p e, (∀ l, lo = some l → l ≤ p) → setLoop u f k (lo.map (a + ·)) (a + p) = some (a + e) → e ≤ L → setLoop v g k (lo.map (b + ·)) (b + p) = some (b + e) := by
  intro k
  induction k with
  | zero => intro lo p e _ h1 h2; simp only [setLoop, Option.some.injEq] at h1 ⊢; omega
  | succ k ih =>
    intro lo p e hlo h1 h2
    simp only [setLoop] at h1 ⊢
    split at h1
    · cases h1
    · rename_i q hq
      have hlt := hf _ _ hq
      obtain ⟨s, rfl⟩ : ∃ s, q = a + s := ⟨q - a, by omega⟩
      split at h1
      · rename_i hr
        have hge := setLoop_ge hf _ _ _ _ h1
        have hs : s ≤ L := by omega
        rw [hg p s hq hs]
        simp only
        have hr' : rises v (lo.map (b + ·)) (b + p) (b + s) = true := by
          rw [← hr]
          rcases lo with _ | l
          · rfl
          · have := hlo l rfl
            simp only [Option.map_some, rises]
            rw [h.seg (i := l) (j := p) (by omega), h.seg (i := p) (j := s) hs]
        rw [if_pos hr']
        exact ih (some p) s e (fun l hl => by cases hl; omega) h1 h2
      · cases h1
theorem fieldOk_move (h : Alike u v a b L) {last : ByteArray} {p : Nat} (hp : p < L) : fieldOk u last (a + p) = fieldOk v last (b + p) := by
  unfold fieldOk; rw [h p hp]
theorem recLoop_move (h : Alike u v a b L) {f g : Nat → Option Nat} (hf : Goes f) (hg : ∀ p e, f (a + p) = some (a + e) → e ≤ L → g (b + p) = some (b + e)) :
    ∀ k (last : ByteArray) p e, recLoop u f k last (a + p) = some (a + e) → e ≤ L → recLoop v g k last (b + p) = some (b + e) := by
  intro k
  induction k with
  | zero => intro last p e h1 h2; simp only [recLoop, Option.some.injEq] at h1 ⊢; omega
  | succ k ih =>
    intro last p e h1 h2
    simp only [recLoop] at h1 ⊢
    split at h1
    · cases h1
    · rename_i s hs
      split at h1
      · cases h1
      · rename_i q hq
        have hlt := hf _ _ hq
        obtain ⟨r, rfl⟩ : ∃ r, q = a + r := ⟨q - a, by omega⟩
        have hge := recLoop_ge hf _ _ _ _ h1
        rw [← fieldOk_move h (by omega : p < L), hs]
        have := hg (p + 1) r (by rw [← Nat.add_assoc]; exact hq) (by omega)
        rw [← Nat.add_assoc] at this
        simp only [this]
        exact ih s r e h1 h2
theorem partEnd_move (h : Alike u v a b L) : ∀ m p e, partEnd u m (a + p) = some (a + e) → e ≤ L → partEnd v m (b + p) = some (b + e) := by
  intro m
  induction m with
  | zero => intro p e h1 _; cases h1
  | succ m ih =>
    intro p e h1 h2
    have hlt := (partEnd_le _ _ _ h1).1
    have hp := h p (by omega)
    simp only [partEnd] at h1 ⊢
    rw [← hp]
    split at h1
    · cases h1
    · rename_i x hx
      split at h1
      · rename_i hs
        simp only [hs, if_true]
        split at h1
        · rename_i h5
          rw [if_pos h5]
          have := setLoop_move h (goes_part u m) ih x.n.toNat none (p + 1) e (fun l hl => by cases hl) (by rw [← Nat.add_assoc]; exact h1) h2
          rw [← Nat.add_assoc] at this; exact this
        · rename_i h5
          rw [if_neg h5]
          split at h1
          · rename_i h6
            rw [if_pos h6]
            have := recLoop_move h (goes_part u m) ih x.n.toNat .empty (p + 1) e (by rw [← Nat.add_assoc]; exact h1) h2
            rw [← Nat.add_assoc] at this; exact this
          · rename_i h6
            rw [if_neg h6]
            split at h1
            · cases h1
            · rename_i h7
              rw [if_neg h7]
              simp only [Option.some.injEq] at h1 ⊢
              omega
      · cases h1
end

theorem setLoop_same {v : List Nd} {f g : Nat → Option Nat} (hf : Goes f) {q0 : Nat} (h : ∀ r, q0 ≤ r → f r = g r) : ∀ k lo q, q0 ≤ q → setLoop v f k lo q = setLoop v g k lo q := by
  intro k
  induction k with
  | zero => intro lo q _; rfl
  | succ k ih =>
    intro lo q hq
    simp only [setLoop]
    rw [← h q hq]
    split
    · rfl
    · rename_i e he
      have := hf _ _ he
      rw [ih _ e (by omega)]
theorem recLoop_same {v : List Nd} {f g : Nat → Option Nat} (hf : Goes f) {q0 : Nat} (h : ∀ r, q0 ≤ r → f r = g r) : ∀ k lo q, q0 ≤ q → recLoop v f k lo q = recLoop v g k lo q := by
  intro k
  induction k with
  | zero => intro lo q _; rfl
  | succ k ih =>
    intro lo q hq
    simp only [recLoop]
    split
    · rfl
    · rw [← h (q + 1) (by omega)]
      split
      · rfl
      · rename_i e he
        have := hf _ _ he
        rw [ih _ e (by omega)]
theorem partEnd_fuel {v : List Nd} : ∀ m m' p, v.length - p < m → v.length - p < m' → partEnd v m p = partEnd v m' p := by
  intro m
  induction m with
  | zero => intro m' p h; omega
  | succ m ih =>
    intro m' p h1 h2
    obtain ⟨k, rfl⟩ : ∃ k, m' = k + 1 := ⟨m' - 1, by omega⟩
    simp only [partEnd]
    by_cases hp : p < v.length
    · rw [List.getElem?_eq_getElem hp]
      simp only
      have hs := setLoop_same (v := v) (goes_part v m) (q0 := p + 1) (fun r hr => ih k r (by omega) (by omega))
      have hr := recLoop_same (v := v) (goes_part v m) (q0 := p + 1) (fun r hr => ih k r (by omega) (by omega))
      rw [hs _ _ _ (Nat.le_refl _), hr _ _ _ (Nat.le_refl _)]
    · rw [List.getElem?_eq_none (by omega)]

/-- These nodes are one value, of whatever size. -/
def IsV (P : List Nd) : Prop := partEnd P (P.length + 1) 0 = some P.length
theorem isV_zero {P : List Nd} : valFault P = 0 ↔ P.length ≤ 200 ∧ IsV P := by
  unfold valFault IsV
  by_cases h : 200 < P.length
  · rw [if_pos h]; omega
  · rw [if_neg h]
    by_cases hv : partEnd P (P.length + 1) 0 = some P.length
    · rw [if_pos hv]; exact ⟨fun _ => ⟨by omega, hv⟩, fun _ => rfl⟩
    · rw [if_neg hv]; exact ⟨fun q => by omega, fun q => absurd q.2 hv⟩
theorem IsV.pos {P : List Nd} (h : IsV P) : 0 < P.length := (partEnd_le _ _ _ h).1
theorem seg_at {v : List Nd} {p e k : Nat} (hk : k < e - p) : (seg v p e)[k]? = v[p + k]? := by
  unfold seg; rw [List.getElem?_take, if_pos hk, List.getElem?_drop]
theorem alike_refl (v : List Nd) : Alike v v 0 0 v.length := fun _ _ => rfl
theorem partEnd_more {v : List Nd} : ∀ m m' p e, m ≤ m' → partEnd v m p = some e → partEnd v m' p = some e := by
  intro m
  induction m with
  | zero => intro m' p e _ h; cases h
  | succ m ih =>
    intro m' p e hm h
    have hle := (partEnd_le _ _ _ h).2
    obtain ⟨k, rfl⟩ : ∃ k, m' = k + 1 := ⟨m' - 1, by omega⟩
    have ihk : ∀ p e, partEnd v m (0 + p) = some (0 + e) → e ≤ v.length → partEnd v k (0 + p) = some (0 + e) := fun p e h _ => by
      simp only [Nat.zero_add] at h ⊢; exact ih k p e (by omega) h
    have hS := setLoop_move (alike_refl v) (goes_part v m) ihk
    have hR := recLoop_move (alike_refl v) (goes_part v m) ihk
    simp only [Nat.zero_add] at hS hR
    rcases hx : v[p]? with _ | x
    · simp only [partEnd, hx] at h; cases h
    · simp only [partEnd, hx] at h ⊢
      by_cases hs : shapedN x = true
      · rw [if_pos hs] at h ⊢
        by_cases h5 : x.op = 5
        · rw [if_pos h5] at h ⊢
          have := hS x.n.toNat none (p + 1) e (fun l hl => by cases hl) h hle
          exact this
        · rw [if_neg h5] at h ⊢
          by_cases h6 : x.op = 6
          · rw [if_pos h6] at h ⊢; exact hR _ _ _ _ h hle
          · rw [if_neg h6] at h ⊢; exact h
      · rw [if_neg hs] at h; cases h
theorem isV_seg {v : List Nd} {m p e : Nat} (h : partEnd v m p = some e) : IsV (seg v p e) := by
  have hle := partEnd_le _ _ _ h
  have hl : (seg v p e).length = e - p := seg_length hle.2
  have hA : Alike v (seg v p e) p 0 (e - p) := fun k hk => by rw [Nat.zero_add, seg_at hk]
  have := partEnd_move hA m 0 (e - p) (by rw [Nat.add_zero, h]; congr 1; omega) (Nat.le_refl _)
  unfold IsV
  rw [hl]
  have h2 : partEnd (seg v p e) m 0 = some (e - p) := by simpa using this
  have h3 := partEnd_more m (m + (e - p) + 1) 0 (e - p) (by omega) h2
  rw [← h3]
  exact partEnd_fuel _ _ _ (by omega) (by omega)
/-- A value within other nodes ends where it ends. -/
theorem isV_in {v Q : List Nd} {p m : Nat} (hQ : IsV Q) (_hp : p + Q.length ≤ v.length) (hs : seg v p (p + Q.length) = Q) (hm : v.length - p < m) : partEnd v m p = some (p + Q.length) := by
  have hA : Alike Q v 0 p Q.length := fun k hk => by
    rw [Nat.zero_add, ← seg_at (e := p + Q.length) (by omega), hs]
  have h1 := partEnd_more _ (m + Q.length + 1) _ _ (by omega) hQ
  have := partEnd_move hA _ 0 Q.length (by simpa using h1) (Nat.le_refl _)
  rw [Nat.add_zero] at this
  rw [← this]
  exact partEnd_fuel _ _ _ (by omega) (by omega)

theorem noB_eq {s : ByteArray} (h : noB s = true) : s = ⟨#[]⟩ := by
  unfold noB at h
  exact bytes_ext (List.eq_nil_of_length_eq_zero (by rw [Array.length_toList]; exact of_decide_eq_true h))
/-! ### The parts -/
def splitS (v : List Nd) (f : Nat → Option Nat) : Nat → Nat → List (List Nd)
  | 0, _ => []
  | k + 1, p =>
    match f p with
    | none => []
    | some e => seg v p e :: splitS v f k e
def nmAt (v : List Nd) (p : Nat) : ByteArray :=
  match v[p]? with
  | none => .empty
  | some x => x.s
def splitR (v : List Nd) (f : Nat → Option Nat) : Nat → Nat → List (ByteArray × List Nd)
  | 0, _ => []
  | k + 1, p =>
    match f (p + 1) with
    | none => []
    | some e => (nmAt v p, seg v (p + 1) e) :: splitR v f k e
def headN : List Nd → Nat
  | [] => 0
  | x :: _ => x.n.toNat
def headOp : List Nd → Int
  | [] => 0
  | x :: _ => x.op
/-- The parts of a set. -/
def setParts (P : List Nd) : List (List Nd) := splitS P (partEnd P (P.length + 1)) (headN P) 1
/-- The fields of a record. -/
def recParts (P : List Nd) : List (ByteArray × List Nd) := splitR P (partEnd P (P.length + 1)) (headN P) 1
/-- Each one is ahead of the next one. -/
def Up : List (List Nd) → Prop
  | [] => True
  | [_] => True
  | a :: b :: r => cmpNds a b < 0 ∧ Up (b :: r)
def UpFrom (o : Option (List Nd)) (l : List (List Nd)) : Prop := match o with | none => Up l | some a => Up (a :: l)
def fieldN (s : ByteArray) : Nd := ⟨7, 0, s, ⟨#[]⟩⟩
def flatR : List (ByteArray × List Nd) → List Nd
  | [] => []
  | x :: r => fieldN x.1 :: (x.2 ++ flatR r)
def UpB (last : ByteArray) : List (ByteArray × List Nd) → Prop
  | [] => True
  | x :: r => cmpB last x.1 < 0 ∧ UpB x.1 r

theorem seg_join {v : List Nd} {p q e : Nat} (h1 : p ≤ q) (h2 : q ≤ e) : seg v p q ++ seg v q e = seg v p e := by
  unfold seg
  rw [show e - p = (q - p) + (e - q) by omega, List.take_add, List.drop_drop, show p + (q - p) = q by omega]
theorem seg_self (v : List Nd) (p : Nat) : seg v p p = [] := by unfold seg; simp
theorem seg_step {v : List Nd} {p e : Nat} (h : p < v.length) (h2 : p < e) : seg v p e = v[p] :: seg v (p + 1) e := by
  unfold seg
  rw [List.drop_eq_getElem_cons h, show e - p = (e - (p + 1)) + 1 by omega, List.take_succ_cons]
theorem seg_all (v : List Nd) (p : Nat) : seg v p v.length = v.drop p := by
  unfold seg; rw [List.take_of_length_le (by simp)]

/-- What a set's loop has met. -/
theorem setLoop_parts {v : List Nd} {m : Nat} : ∀ k lo p e, (∀ l, lo = some l → l ≤ p) → p ≤ v.length → setLoop v (partEnd v m) k lo p = some e →
    (splitS v (partEnd v m) k p).length = k ∧ (splitS v (partEnd v m) k p).flatten = seg v p e ∧ (∀ Q ∈ splitS v (partEnd v m) k p, IsV Q) ∧ UpFrom (lo.map fun l => seg v l p) (splitS v (partEnd v m) k p) := by
  intro k
  induction k with
  | zero =>
    intro lo p e _ _ h
    simp only [setLoop, Option.some.injEq] at h
    subst h
    refine ⟨rfl, by rw [seg_self]; rfl, (fun Q h => by cases h), ?_⟩
    rcases lo with _ | l <;> trivial
  | succ k ih =>
    intro lo p e hlo hp h
    simp only [setLoop] at h
    simp only [splitS]
    split at h
    · cases h
    · rename_i q hq
      have hle := partEnd_le _ _ _ hq
      split at h
      · rename_i hr
        obtain ⟨h1, h2, h3, h4⟩ := ih (some p) q e (fun l hl => by cases hl; omega) hle.2 h
        have hge := setLoop_ge (goes_part v m) _ _ _ _ h
        rw [hq]
        refine ⟨by simp [h1], ?_, ?_, ?_⟩
        · rw [List.flatten_cons, h2, seg_join (by omega) hge]
        · intro Q hQ
          rcases List.mem_cons.1 hQ with rfl | hQ
          · exact isV_seg hq
          · exact h3 Q hQ
        · simp only [Option.map_some, UpFrom] at h4
          rcases lo with _ | l
          · exact h4
          · simp only [rises, decide_eq_true_eq] at hr
            exact ⟨hr, h4⟩
      · cases h
/-- Nodes of which a set's loop makes parts. -/
theorem setLoop_of {v : List Nd} {m : Nat} : ∀ (L : List (List Nd)) lo p e, (∀ l, lo = some l → l ≤ p) → e ≤ v.length → p ≤ e → seg v p e = L.flatten → (∀ Q ∈ L, IsV Q) → UpFrom (lo.map fun l => seg v l p) L → v.length - p < m →
    setLoop v (partEnd v m) L.length lo p = some e ∧ splitS v (partEnd v m) L.length p = L := by
  intro L
  induction L with
  | nil =>
    intro lo p e _ h1 h2 h3 _ _ _
    have hl := congrArg List.length h3
    rw [seg_length h1] at hl
    simp at hl
    simp only [List.length_nil, setLoop, splitS, and_true]
    congr 1; omega
  | cons Q L ih =>
    intro lo p e hlo h1 h2 h3 h4 h5 h6
    have hQ := h4 Q (by simp)
    rw [List.flatten_cons] at h3
    have hl := congrArg List.length h3
    rw [seg_length h1, List.length_append] at hl
    have hq : seg v p (p + Q.length) = Q := by
      have := seg_join (v := v) (p := p) (q := p + Q.length) (e := e) (by omega) (by omega)
      rw [h3] at this
      exact (List.append_inj this (by rw [seg_length (by omega)]; omega)).1
    have hq2 : seg v (p + Q.length) e = L.flatten := by
      have := seg_join (v := v) (p := p) (q := p + Q.length) (e := e) (by omega) (by omega)
      rw [h3] at this
      exact (List.append_inj this (by rw [seg_length (by omega)]; omega)).2
    have hpos := hQ.pos
    have hend := isV_in hQ (by omega) hq h6
    have hup : UpFrom ((some p).map fun l => seg v l (p + Q.length)) L := by
      simp only [Option.map_some, UpFrom, hq]
      rcases lo with _ | l
      · simp only [Option.map_none, UpFrom] at h5
        exact h5
      · simp only [Option.map_some, UpFrom] at h5
        exact h5.2
    have hr : rises v lo p (p + Q.length) = true := by
      rcases lo with _ | l
      · rfl
      · simp only [Option.map_some, UpFrom] at h5
        simp only [rises, hq, decide_eq_true_eq]
        exact h5.1
    obtain ⟨g1, g2⟩ := ih (some p) (p + Q.length) e (fun l hl => by cases hl; omega) h1 (by omega) hq2 (fun Q' h => h4 Q' (by simp [h])) hup (by omega)
    simp only [List.length_cons, setLoop, splitS, hend, hr, if_true]
    exact ⟨g1, by rw [g2, hq]⟩
theorem recLoop_parts {v : List Nd} {m : Nat} : ∀ k last p e, p ≤ v.length → recLoop v (partEnd v m) k last p = some e →
    (splitR v (partEnd v m) k p).length = k ∧ flatR (splitR v (partEnd v m) k p) = seg v p e ∧ (∀ x ∈ splitR v (partEnd v m) k p, IsV x.2 ∧ nameFault x.1 = 0) ∧ UpB last (splitR v (partEnd v m) k p) := by
  intro k
  induction k with
  | zero =>
    intro last p e _ h
    simp only [recLoop, Option.some.injEq] at h
    subst h
    exact ⟨rfl, by rw [seg_self]; rfl, (fun Q h => by cases h), trivial⟩
  | succ k ih =>
    intro last p e hp h
    simp only [recLoop] at h
    simp only [splitR]
    split at h
    · cases h
    · rename_i s hs
      split at h
      · cases h
      · rename_i q hq
        have hle := partEnd_le _ _ _ hq
        obtain ⟨h1, h2, h3, h4⟩ := ih s q e hle.2 h
        have hge := recLoop_ge (goes_part v m) _ _ _ _ h
        unfold fieldOk at hs
        split at hs
        · cases hs
        · rename_i x hx
          split at hs
          · rename_i hc
            simp only [Option.some.injEq] at hs
            subst hs
            simp only [Bool.and_eq_true, decide_eq_true_eq] at hc
            obtain ⟨⟨c1, c2⟩, c3⟩ := hc
            have hsh := c2
            unfold shapedN at hsh
            rw [c1] at hsh
            simp at hsh
            obtain ⟨⟨n1, n2⟩, n3⟩ := hsh
            have hnm : nmAt v p = x.s := by unfold nmAt; rw [hx]
            have hp' : p < v.length := (List.getElem?_eq_some_iff.1 hx).1
            have hxe : v[p] = x := by rw [List.getElem?_eq_getElem hp'] at hx; injection hx
            have hxf : x = fieldN x.s := Nd.ext4 c1 n1 rfl (noB_eq n2)
            rw [hq]
            simp only
            refine ⟨by simp [h1], ?_, ?_, ?_⟩
            · rw [flatR, h2, hnm, seg_join (by omega) hge, seg_step hp' (by omega), hxe, ← hxf]
            · intro y hy
              rcases List.mem_cons.1 hy with rfl | hy
              · exact ⟨isV_seg hq, by rw [hnm]; exact n3⟩
              · exact h3 y hy
            · simp only [UpB, hnm]
              exact ⟨c3, h4⟩
          · cases hs
theorem fieldN_shaped {s : ByteArray} (h : nameFault s = 0) : shapedN (fieldN s) = true := by
  unfold shapedN fieldN
  simp [h, noB]
  rfl
theorem recLoop_of {v : List Nd} {m : Nat} : ∀ (L : List (ByteArray × List Nd)) last p e, e ≤ v.length → p ≤ e → seg v p e = flatR L → (∀ x ∈ L, IsV x.2 ∧ nameFault x.1 = 0) → UpB last L → v.length - p < m →
    recLoop v (partEnd v m) L.length last p = some e ∧ splitR v (partEnd v m) L.length p = L := by
  intro L
  induction L with
  | nil =>
    intro last p e h1 h2 h3 _ _ _
    have hl := congrArg List.length h3
    rw [seg_length h1] at hl
    simp [flatR] at hl
    simp only [List.length_nil, recLoop, splitR, and_true]
    congr 1; omega
  | cons x L ih =>
    intro last p e h1 h2 h3 h4 h5 h6
    obtain ⟨hQ, hN⟩ := h4 x (by simp)
    rw [flatR] at h3
    have hl := congrArg List.length h3
    rw [seg_length h1, List.length_cons, List.length_append] at hl
    have hp' : p < v.length := by omega
    rw [seg_step hp' (by omega)] at h3
    injection h3 with e1 e2
    have hq : seg v (p + 1) (p + 1 + x.2.length) = x.2 := by
      have := seg_join (v := v) (p := p + 1) (q := p + 1 + x.2.length) (e := e) (by omega) (by omega)
      rw [e2] at this
      exact (List.append_inj this (by rw [seg_length (by omega)]; omega)).1
    have hq2 : seg v (p + 1 + x.2.length) e = flatR L := by
      have := seg_join (v := v) (p := p + 1) (q := p + 1 + x.2.length) (e := e) (by omega) (by omega)
      rw [e2] at this
      exact (List.append_inj this (by rw [seg_length (by omega)]; omega)).2
    have hend := isV_in hQ (by omega) hq (m := m) (by omega)
    have hnm : nmAt v p = x.1 := by unfold nmAt; rw [List.getElem?_eq_getElem hp', e1]; rfl
    have hf : fieldOk v last p = some x.1 := by
      unfold fieldOk
      rw [List.getElem?_eq_getElem hp', e1]
      simp only [fieldN_shaped hN]
      have : decide (cmpB last (fieldN x.1).s < 0) = true := decide_eq_true h5.1
      rw [this]
      rfl
    obtain ⟨g1, g2⟩ := ih x.1 (p + 1 + x.2.length) e h1 (by omega) hq2 (fun y h => h4 y (by simp [h])) h5.2 (by omega)
    simp only [List.length_cons, recLoop, splitR, hend, hf]
    exact ⟨g1, by rw [g2, hq, hnm]⟩

def setHead (n : Int) : Nd := ⟨5, n, ⟨#[]⟩, ⟨#[]⟩⟩
def recHead (n : Int) : Nd := ⟨6, n, ⟨#[]⟩, ⟨#[]⟩⟩
theorem headOp_cons (x : Nd) (r : List Nd) : headOp (x :: r) = x.op := rfl
theorem headN_cons (x : Nd) (r : List Nd) : headN (x :: r) = x.n.toNat := rfl
/-- A set: its head, and its parts in order. -/
theorem isV_set {P : List Nd} (h : IsV P) (h5 : headOp P = 5) :
    P = setHead (setParts P).length :: (setParts P).flatten ∧ (setParts P).length = headN P ∧ (∀ Q ∈ setParts P, IsV Q) ∧ Up (setParts P) := by
  have hpos := h.pos
  unfold IsV at h
  rcases P with _ | ⟨x, r⟩
  · simp at hpos
  have h5' : x.op = 5 := h5
  simp only [partEnd, List.getElem?_cons_zero] at h
  by_cases hs : shapedN x = true
  · rw [if_pos hs, if_pos h5'] at h
    unfold shapedN at hs
    rw [h5'] at hs
    simp at hs
    have hx : x = setHead x.n := Nd.ext4 h5' rfl (noB_eq hs.1.2) (noB_eq hs.2)
    have h' : setLoop (x :: r) (partEnd (x :: r) ((x :: r).length + 1)) x.n.toNat none 1 = some (x :: r).length := by
      rw [← h]
      exact (setLoop_same (goes_part _ _) (q0 := 1) (fun q hq => partEnd_fuel _ _ _ (by simp only [List.length_cons]; omega) (by simp only [List.length_cons]; omega)) _ _ _ (Nat.le_refl _))
    obtain ⟨g1, g2, g3, g4⟩ := setLoop_parts _ none 1 _ (fun l hl => by cases hl) (by simp) h'
    have e : setParts (x :: r) = splitS (x :: r) (partEnd (x :: r) ((x :: r).length + 1)) x.n.toNat 1 := rfl
    rw [← e] at g1 g2 g3 g4
    refine ⟨?_, g1, g3, g4⟩
    rw [g2, seg_all, g1, Int.toNat_of_nonneg hs.1.1, ← hx]
    rfl
  · rw [if_neg hs] at h; cases h
theorem set_isV {L : List (List Nd)} (h : ∀ Q ∈ L, IsV Q) (hu : Up L) : IsV (setHead L.length :: L.flatten) ∧ setParts (setHead L.length :: L.flatten) = L := by
  have hs : shapedN (setHead L.length) = true := by unfold shapedN setHead; simp [noB]; rfl
  have key := fun m hm => setLoop_of (v := setHead L.length :: L.flatten) (m := m) L none 1 (L.flatten.length + 1) (fun l hl => by cases hl) (by simp) (by omega) (by
    have := seg_all (setHead L.length :: L.flatten) 1
    simpa using this) h hu hm
  refine ⟨?_, ?_⟩
  · unfold IsV
    simp only [partEnd, List.getElem?_cons_zero, hs, if_true]
    have h5 : (setHead L.length).op = 5 := rfl
    rw [if_pos h5]
    exact (key _ (by simp only [List.length_cons]; omega)).1
  · unfold setParts
    rw [headN_cons]
    exact (key _ (by simp only [List.length_cons]; omega)).2
theorem isV_rec {P : List Nd} (h : IsV P) (h6 : headOp P = 6) :
    P = recHead (recParts P).length :: flatR (recParts P) ∧ (recParts P).length = headN P ∧ (∀ x ∈ recParts P, IsV x.2 ∧ nameFault x.1 = 0) ∧ UpB .empty (recParts P) := by
  have hpos := h.pos
  unfold IsV at h
  rcases P with _ | ⟨x, r⟩
  · simp at hpos
  have h6' : x.op = 6 := h6
  simp only [partEnd, List.getElem?_cons_zero] at h
  by_cases hs : shapedN x = true
  · rw [if_pos hs, if_neg (by omega), if_pos h6'] at h
    unfold shapedN at hs
    rw [h6'] at hs
    simp at hs
    have hx : x = recHead x.n := Nd.ext4 h6' rfl (noB_eq hs.1.2) (noB_eq hs.2)
    have h' : recLoop (x :: r) (partEnd (x :: r) ((x :: r).length + 1)) x.n.toNat .empty 1 = some (x :: r).length := by
      rw [← h]
      exact (recLoop_same (goes_part _ _) (q0 := 1) (fun q hq => partEnd_fuel _ _ _ (by simp only [List.length_cons]; omega) (by simp only [List.length_cons]; omega)) _ _ _ (Nat.le_refl _))
    obtain ⟨g1, g2, g3, g4⟩ := recLoop_parts _ .empty 1 _ (by simp) h'
    have e : recParts (x :: r) = splitR (x :: r) (partEnd (x :: r) ((x :: r).length + 1)) x.n.toNat 1 := rfl
    rw [← e] at g1 g2 g3 g4
    refine ⟨?_, g1, g3, g4⟩
    rw [g2, seg_all, g1, Int.toNat_of_nonneg hs.1.1, ← hx]
    rfl
  · rw [if_neg hs] at h; cases h
theorem rec_isV {L : List (ByteArray × List Nd)} (h : ∀ x ∈ L, IsV x.2 ∧ nameFault x.1 = 0) (hu : UpB .empty L) : IsV (recHead L.length :: flatR L) ∧ recParts (recHead L.length :: flatR L) = L := by
  have hs : shapedN (recHead L.length) = true := by unfold shapedN recHead; simp [noB]; rfl
  have key := fun m hm => recLoop_of (v := recHead L.length :: flatR L) (m := m) L .empty 1 ((flatR L).length + 1) (by simp) (by omega) (by
    have := seg_all (recHead L.length :: flatR L) 1
    simpa using this) h hu hm
  refine ⟨?_, ?_⟩
  · unfold IsV
    simp only [partEnd, List.getElem?_cons_zero, hs, if_true]
    have h6 : (recHead L.length).op = 6 := rfl
    rw [if_neg (by rw [h6]; omega), if_pos h6]
    exact (key _ (by simp only [List.length_cons]; omega)).1
  · unfold recParts
    rw [headN_cons]
    exact (key _ (by simp only [List.length_cons]; omega)).2

/-- The loops over the parts of what is a value come to its end. -/
theorem set_loop {P : List Nd} (h : IsV P) (h5 : headOp P = 5) : setLoop P (partEnd P (P.length + 1)) (headN P) none 1 = some P.length ∧ ∃ hp : 0 < P.length, P[0].op = 5 ∧ 0 ≤ P[0].n ∧ headN P = P[0].n.toNat := by
  have hpos := h.pos
  unfold IsV at h
  rcases P with _ | ⟨x, r⟩
  · simp at hpos
  have h5' : x.op = 5 := h5
  simp only [partEnd, List.getElem?_cons_zero] at h
  by_cases hs : shapedN x = true
  · rw [if_pos hs, if_pos h5'] at h
    unfold shapedN at hs
    rw [h5'] at hs
    simp at hs
    refine ⟨?_, hpos, h5', hs.1.1, rfl⟩
    rw [← h]
    exact (setLoop_same (goes_part _ _) (q0 := 1) (fun q hq => partEnd_fuel _ _ _ (by simp only [List.length_cons]; omega) (by simp only [List.length_cons]; omega)) _ _ _ (Nat.le_refl _))
  · rw [if_neg hs] at h; cases h
theorem rec_loop {P : List Nd} (h : IsV P) (h6 : headOp P = 6) : recLoop P (partEnd P (P.length + 1)) (headN P) .empty 1 = some P.length ∧ ∃ hp : 0 < P.length, P[0].op = 6 ∧ 0 ≤ P[0].n ∧ headN P = P[0].n.toNat := by
  have hpos := h.pos
  unfold IsV at h
  rcases P with _ | ⟨x, r⟩
  · simp at hpos
  have h6' : x.op = 6 := h6
  simp only [partEnd, List.getElem?_cons_zero] at h
  by_cases hs : shapedN x = true
  · rw [if_pos hs, if_neg (by omega), if_pos h6'] at h
    unfold shapedN at hs
    rw [h6'] at hs
    simp at hs
    refine ⟨?_, hpos, h6', hs.1.1, rfl⟩
    rw [← h]
    exact (recLoop_same (goes_part _ _) (q0 := 1) (fun q hq => partEnd_fuel _ _ _ (by simp only [List.length_cons]; omega) (by simp only [List.length_cons]; omega)) _ _ _ (Nat.le_refl _))
  · rw [if_neg hs] at h; cases h
/-- The error of the first one that is no value. -/
def faults : List (List Nd) → Int
  | [] => 0
  | P :: r => or2 (valFault P) (faults r)
end Go.Wk
