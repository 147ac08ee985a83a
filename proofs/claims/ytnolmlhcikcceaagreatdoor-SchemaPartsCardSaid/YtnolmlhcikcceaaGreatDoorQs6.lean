/-
  Plain: the least type above two. No program in sight.
  Plain: the least type above two is above both, and below whatever is. No program in sight.
  Plain: what two types that may be handed in join to may be, but for its length. No program in sight.
  Plain: the least of several types. No program in sight.
  Plain: the fields of a record's type as a list. No program in sight.
  Plain: how great the least above two is; the fields as they come out of join's loops, and sorted. No program in sight.
  Plain: the type that a value has of its own. No program in sight.
  Plain: below, field by field; which types a value has. No program in sight.
-/
import Derived.Test.YtnolmlhcikcceaaGreatDoorQs5
namespace Go.Wk

/-- Fields, and one more in its place. -/
def insF (s : ByteArray) (m : Bool) (k : Kd) : Fl → Fl
  | .nil => .cons s m k .nil
  | .cons t m' k' r => if cmpB s t < 0 then .cons s m k (.cons t m' k' r) else .cons t m' k' (insF s m k r)
/-- Those of g that f has not. -/
def restF : Fl → Fl → Fl
  | .nil, _ => .nil
  | .cons s _ k r, f => if (f.find s).isSome then restF r f else .cons s false k (restF r f)
mutual
/-- The least above two. -/
def joinK : Kd → Kd → Kd
  | .base x, b => if x = 49 then b else if isAny b then b else if isNone b then .base x else if x = 48 then .base 48 else (match b with | .base y => if x = y then .base x else .base 48 | _ => .base 48)
  | .ent s, b => if isAny b then b else if isNone b then .ent s else (match b with | .ent t => if s = t then .ent s else .base 48 | _ => .base 48)
  | .set p, b => if isAny b then b else if isNone b then .set p else (match b with | .set q => .set (joinK p q) | _ => .base 48)
  | .fs f, b => if isAny b then b else if isNone b then .fs f else (match b with | .fs g => .fs (joinF f g (restF g f)) | _ => .base 48)
def joinF : Fl → Fl → Fl → Fl
  | .nil, _, acc => acc
  | .cons s m k r, g, acc => match g.find s with
    | none => insF s false k (joinF r g acc)
    | some (m', k') => insF s (m && m') (joinK k k') (joinF r g acc)
end
theorem insF_other (s : ByteArray) (m : Bool) (k : Kd) {t : ByteArray} (h : s ≠ t) : ∀ f : Fl, (insF s m k f).find t = f.find t
  | .nil => by simp [insF, Fl.find, h]
  | .cons u m' k' r => by
    simp only [insF]
    split
    · simp [Fl.find, h]
    · simp only [Fl.find, insF_other s m k h r]
theorem insF_same (s : ByteArray) (m : Bool) (k : Kd) : ∀ f : Fl, f.find s = none → (insF s m k f).find s = some (m, k)
  | .nil, _ => by simp [insF, Fl.find]
  | .cons u m' k' r, h => by
    simp only [Fl.find] at h
    simp only [insF]
    split
    · simp [Fl.find]
    · by_cases e : u = s
      · rw [if_pos e] at h; cases h
      · rw [if_neg e] at h
        simp only [Fl.find, if_neg e]
        exact insF_same s m k r h
theorem insF_asc (s : ByteArray) (m : Bool) (k : Kd) : ∀ (f : Fl) (x : ByteArray), f.ascFrom x → cmpB x s < 0 → f.find s = none → (insF s m k f).ascFrom x
  | .nil, _, _, h, _ => ⟨h, trivial⟩
  | .cons u m' k' r, x, h1, h2, h3 => by
    simp only [Fl.find] at h3
    simp only [insF]
    split
    · rename_i hlt; exact ⟨h2, hlt, h1.2⟩
    · rename_i hlt
      by_cases e : u = s
      · rw [if_pos e] at h3; cases h3
      · rw [if_neg e] at h3
        refine ⟨h1.1, insF_asc s m k r u h1.2 ?_ h3⟩
        have a := cmpB_cmp.anti s u
        have z : cmpB s u ≠ 0 := fun q => e ((cmpB_cmp.zero _ _).1 q).symm
        omega
theorem insF_asc0 (s : ByteArray) (m : Bool) (k : Kd) (f : Fl) (h : f.asc) (hn : f.find s = none) : (insF s m k f).asc := by
  cases f with
  | nil => exact trivial
  | cons u m' k' r =>
    simp only [Fl.find] at hn
    simp only [insF]
    split
    · rename_i hlt; exact ⟨hlt, h⟩
    · rename_i hlt
      by_cases e : u = s
      · rw [if_pos e] at hn; cases hn
      · rw [if_neg e] at hn
        refine insF_asc s m k r u h ?_ hn
        have a := cmpB_cmp.anti s u
        have z : cmpB s u ≠ 0 := fun q => e ((cmpB_cmp.zero _ _).1 q).symm
        omega
theorem insF_ok (s : ByteArray) (m : Bool) (k : Kd) (hk : k.ok) : ∀ f : Fl, f.ok → (insF s m k f).ok
  | .nil, _ => ⟨hk, trivial⟩
  | .cons u m' k' r, h => by
    simp only [insF]
    split
    · exact ⟨hk, h⟩
    · exact ⟨h.1, insF_ok s m k hk r h.2⟩
theorem asc_weak {x y : ByteArray} {f : Fl} (h : f.ascFrom y) (hl : cmpB x y < 0) : f.ascFrom x := by
  cases f with
  | nil => trivial
  | cons s m k r => exact ⟨cmpB_cmp.lt_le hl (by have := h.1; omega), h.2⟩
theorem restF_find (f : Fl) (s : ByteArray) : ∀ g : Fl, (restF g f).find s = if (f.find s).isSome = true then none else (g.find s).map fun v => (false, v.2)
  | .nil => by simp [restF, Fl.find]
  | .cons t m k r => by
    simp only [restF]
    split
    · rename_i ht
      rw [restF_find f s r]
      simp only [Fl.find]
      by_cases e : t = s
      · subst e; rw [if_pos ht, if_pos ht]
      · rw [if_neg e]
    · rename_i ht
      simp only [Fl.find]
      by_cases e : t = s
      · subst e; rw [if_pos rfl, if_neg ht, if_pos rfl]; rfl
      · rw [if_neg e, if_neg e, restF_find f s r]
theorem restF_asc (f : Fl) : ∀ (g : Fl) (x : ByteArray), g.ascFrom x → (restF g f).ascFrom x
  | .nil, _, _ => trivial
  | .cons t m k r, x, h => by
    simp only [restF]
    split
    · exact restF_asc f r x (asc_weak h.2 h.1)
    · exact ⟨h.1, restF_asc f r t h.2⟩
theorem restF_asc0 (f g : Fl) (h : g.asc) : (restF g f).asc := by
  cases g with
  | nil => trivial
  | cons t m k r =>
    simp only [restF]
    split
    · exact asc_tail (restF_asc f r t h)
    · exact restF_asc f r t h
theorem restF_ok (f : Fl) : ∀ g : Fl, g.ok → (restF g f).ok
  | .nil, _ => trivial
  | .cons t m k r, h => by
    simp only [restF]
    split
    · exact restF_ok f r h.2
    · exact ⟨h.1, restF_ok f r h.2⟩
theorem tail_none {s : ByteArray} {r : Fl} (h : r.ascFrom s) : r.find s = none := by
  rcases hf : r.find s with _ | v
  · rfl
  · have := find_lt h hf; rw [cmpB_cmp.self] at this; omega
theorem joinF_find (g : Fl) (s : ByteArray) : ∀ (f acc : Fl), f.asc → (∀ t, (f.find t).isSome = true → acc.find t = none) →
    (joinF f g acc).find s = match f.find s with | none => acc.find s | some (m, k) => (match g.find s with | none => some (false, k) | some (m', k') => some (m && m', joinK k k'))
  | .nil, acc, _, _ => by simp [joinF, Fl.find]
  | .cons t m k r, acc, h1, h2 => by
    have ih := joinF_find g s r acc (asc_tail h1) (fun u hu => h2 u (by simp only [Fl.find]; split <;> simp_all))
    have ht : r.find t = none := tail_none h1
    have hat : acc.find t = none := h2 t (by simp [Fl.find])
    by_cases e : t = s
    · subst e
      rw [ht] at ih
      have ih' : (joinF r g acc).find t = none := ih.trans hat
      simp only [joinF, Fl.find, if_pos]
      rcases hg : g.find t with _ | ⟨m', k'⟩
      · exact insF_same t false k _ ih'
      · exact insF_same t (m && m') (joinK k k') _ ih'
    · simp only [joinF, Fl.find, if_neg e]
      rw [← ih]
      rcases hg : g.find t with _ | ⟨m', k'⟩
      · exact insF_other t false k e _
      · exact insF_other t _ _ e _
theorem joinF_asc (g : Fl) : ∀ (f acc : Fl), f.asc → acc.asc → (∀ t, (f.find t).isSome = true → acc.find t = none) → (joinF f g acc).asc
  | .nil, _, _, h, _ => by simpa [joinF] using h
  | .cons t m k r, acc, h1, h0, h2 => by
    have hsub : ∀ u, (r.find u).isSome = true → acc.find u = none := fun u hu => h2 u (by simp only [Fl.find]; split <;> simp_all)
    have ih := joinF_asc g r acc (asc_tail h1) h0 hsub
    have hf := joinF_find g t r acc (asc_tail h1) hsub
    rw [tail_none h1] at hf
    have hn : (joinF r g acc).find t = none := hf.trans (h2 t (by simp [Fl.find]))
    simp only [joinF]
    rcases hg : g.find t with _ | ⟨m', k'⟩
    · exact insF_asc0 t false k _ ih hn
    · exact insF_asc0 t _ _ _ ih hn
/-- What the least above two records' types has. -/
def jn (a b : Option (Bool × Kd)) : Option (Bool × Kd) := match a, b with
  | some (m, k), some (m', k') => some (m && m', joinK k k')
  | some (_, k), none => some (false, k)
  | none, some (_, k') => some (false, k')
  | none, none => none
theorem join_find {f g : Fl} (hf : f.asc) (s : ByteArray) : (joinF f g (restF g f)).find s = jn (f.find s) (g.find s) := by
  have h2 : ∀ t, (f.find t).isSome = true → (restF g f).find t = none := fun t ht => by rw [restF_find, if_pos ht]
  rw [joinF_find g s f _ hf h2]
  rcases h : f.find s with _ | ⟨m, k⟩
  · rw [restF_find, h]
    rcases hg : g.find s with _ | ⟨m', k'⟩ <;> simp [jn]
  · rcases hg : g.find s with _ | ⟨m', k'⟩ <;> simp [jn]
theorem join_asc {f g : Fl} (hf : f.asc) (hg : g.asc) : (joinF f g (restF g f)).asc :=
  joinF_asc g f _ hf (restF_asc0 f g hg) fun t ht => by rw [restF_find, if_pos ht]
end Go.Wk
namespace Go.Wk

theorem join_any {a b : Kd} (h : b = .base 48) : joinK a b = .base 48 := by
  subst h
  cases a with
  | base x => simp only [joinK]; split <;> simp [isAny]
  | _ => simp [joinK, isAny]
theorem join_none {a b : Kd} (h : b = .base 49) : joinK a b = a := by
  subst h
  cases a with
  | base x =>
    simp only [joinK]
    split
    · rename_i e; rw [e]
    · simp [isAny, isNone]
  | _ => simp [joinK, isAny, isNone]
theorem not_any {b : Kd} (h : b ≠ .base 48) : isAny b = false := by
  rcases e : isAny b with _ | _
  · rfl
  · exact absurd (isAny_iff.1 e) h
theorem not_none {b : Kd} (h : b ≠ .base 49) : isNone b = false := by
  rcases e : isNone b with _ | _
  · rfl
  · exact absurd (isNone_iff.1 e) h
open Classical in
theorem join_base {x : Int} {b : Kd} (h1 : b ≠ .base 48) (h2 : b ≠ .base 49) : joinK (.base x) b = if x = 49 then b else if b = .base x then .base x else .base 48 := by
  simp only [joinK, not_any h1, not_none h2]
  by_cases e9 : x = 49
  · rw [if_pos e9, if_pos e9]
  · rw [if_neg e9, if_neg e9]
    simp only [Bool.false_eq_true, if_false]
    cases b with
    | base y =>
      by_cases e : x = y
      · subst e; rw [if_neg (fun e => h1 (by rw [e])), if_pos rfl]; simp
      · rw [if_neg (show ¬ Kd.base y = Kd.base x from fun q => e (by injection q with q; exact q.symm))]
        simp [e]
    | _ => simp
open Classical in
theorem join_ent {s : ByteArray} {b : Kd} (h1 : b ≠ .base 48) (h2 : b ≠ .base 49) : joinK (.ent s) b = if b = .ent s then .ent s else .base 48 := by
  simp only [joinK, not_any h1, not_none h2]
  simp only [Bool.false_eq_true, if_false]
  cases b with
  | ent t =>
    by_cases e : s = t
    · subst e; simp
    · have e' : ¬ t = s := fun q => e q.symm
      simp [e, e']
  | _ => simp
theorem join_set {p : Kd} {b : Kd} (h1 : b ≠ .base 48) (h2 : b ≠ .base 49) : (∃ q, b = .set q ∧ joinK (.set p) b = .set (joinK p q)) ∨ ((∀ q, b ≠ .set q) ∧ joinK (.set p) b = .base 48) := by
  simp only [joinK, not_any h1, not_none h2]
  cases b with
  | set q => exact .inl ⟨q, rfl, by simp⟩
  | _ => exact .inr ⟨(fun q e => by cases e), by simp⟩
theorem join_fs {f : Fl} {b : Kd} (h1 : b ≠ .base 48) (h2 : b ≠ .base 49) : (∃ g, b = .fs g ∧ joinK (.fs f) b = .fs (joinF f g (restF g f))) ∨ ((∀ g, b ≠ .fs g) ∧ joinK (.fs f) b = .base 48) := by
  simp only [joinK, not_any h1, not_none h2]
  cases b with
  | fs g => exact .inl ⟨g, rfl, by simp⟩
  | _ => exact .inr ⟨(fun q e => by cases e), by simp⟩
theorem to_any (a : Kd) : belowK a (.base 48) = true := below_any a _ rfl
/-- Well formed is what two well formed ones join to. -/
theorem join_ok : ∀ (n : Nat) (a b : Kd), a.sz ≤ n → a.ok → b.ok → (joinK a b).ok
  | 0, a, _, h, _, _ => by cases a <;> simp [Kd.sz] at h
  | n + 1, a, b, h, ha, hb => by
    by_cases h1 : b = .base 48
    · rw [join_any h1]; trivial
    by_cases h2 : b = .base 49
    · rw [join_none h2]; exact ha
    cases a with
    | base x =>
      rw [join_base h1 h2]
      split
      · exact hb
      · split <;> trivial
    | ent s => rw [join_ent h1 h2]; split <;> trivial
    | set p =>
      simp only [Kd.sz] at h
      rcases join_set (p := p) h1 h2 with ⟨q, rfl, e⟩ | ⟨-, e⟩
      · rw [e]; exact join_ok n p q (by omega) ha hb
      · rw [e]; trivial
    | fs f =>
      simp only [Kd.sz] at h
      rcases join_fs (f := f) h1 h2 with ⟨g, rfl, e⟩ | ⟨-, e⟩
      · rw [e]
        refine ⟨join_asc ha.1 hb.1, ?_⟩
        have key : ∀ (f' acc : Fl), f'.sz ≤ n → f'.ok → acc.ok → (joinF f' g acc).ok := by
          intro f' acc hs ho hacc
          induction f' using Fl.rec (motive_1 := fun _ => True) with
          | nil => simpa [joinF] using hacc
          | cons s m k r _ ih =>
            simp only [Fl.sz] at hs
            have ih := ih (by omega) ho.2
            simp only [joinF]
            rcases hg : g.find s with _ | ⟨m', k'⟩
            · exact insF_ok _ _ _ ho.1 _ ih
            · exact insF_ok _ _ _ (join_ok n k k' (by omega) ho.1 (find_ok hb.2 hg)) _ ih
          | _ => trivial
        exact key f _ (by omega) ha.2 (restF_ok f g hb.2)
      · rw [e]; trivial
theorem join_up : ∀ (n : Nat) (a b : Kd), a.sz ≤ n → a.ok → b.ok → belowK a (joinK a b) = true ∧ belowK b (joinK a b) = true
  | 0, a, _, h, _, _ => by cases a <;> simp [Kd.sz] at h
  | n + 1, a, b, h, ha, hb => by
    by_cases h1 : b = .base 48
    · rw [join_any h1, h1]; exact ⟨to_any _, to_any _⟩
    by_cases h2 : b = .base 49
    · rw [join_none h2, h2]; exact ⟨below_refl _ a (Nat.le_refl _) ha, none_below _ _ rfl⟩
    have rb := below_refl _ b (Nat.le_refl _) hb
    cases a with
    | base x =>
      rw [join_base h1 h2]
      split
      · rename_i e; subst e; exact ⟨none_below _ _ rfl, rb⟩
      · split
        · rename_i e; rw [e]; exact ⟨below_base.2 (.inr (.inr rfl)), below_base.2 (.inr (.inr rfl))⟩
        · exact ⟨to_any _, to_any _⟩
    | ent s =>
      rw [join_ent h1 h2]
      split
      · rename_i e; rw [e]; exact ⟨below_ent.2 (.inr rfl), below_ent.2 (.inr rfl)⟩
      · exact ⟨to_any _, to_any _⟩
    | set p =>
      simp only [Kd.sz] at h
      rcases join_set (p := p) h1 h2 with ⟨q, rfl, e⟩ | ⟨-, e⟩
      · rw [e]
        obtain ⟨u1, u2⟩ := join_up n p q (by omega) ha hb
        exact ⟨below_set.2 (.inr ⟨_, rfl, u1⟩), below_set.2 (.inr ⟨_, rfl, u2⟩)⟩
      · rw [e]; exact ⟨to_any _, to_any _⟩
    | fs f =>
      simp only [Kd.sz] at h
      rcases join_fs (f := f) h1 h2 with ⟨g, rfl, e⟩ | ⟨-, e⟩
      · rw [e]
        have hj := join_asc ha.1 hb.1
        refine ⟨below_fs.2 (.inr ⟨_, rfl, (belR_iff ha.1 hj).2 ⟨fun s m k hf => ?_, fun s k hf => ?_⟩⟩), below_fs.2 (.inr ⟨_, rfl, (belR_iff hb.1 hj).2 ⟨fun s m k hg => ?_, fun s k hf => ?_⟩⟩)⟩
        · rw [join_find ha.1, hf]
          rcases hg : g.find s with _ | ⟨m', k'⟩
          · exact ⟨false, k, rfl, fun e => (nomatch e), below_refl _ k (Nat.le_refl _) (find_ok ha.2 hf)⟩
          · exact ⟨_, _, rfl, fun e => by simp at e; exact e.1, (join_up n k k' (by have := find_sz hf; omega) (find_ok ha.2 hf) (find_ok hb.2 hg)).1⟩
        · rw [join_find ha.1] at hf
          rcases hq : f.find s with _ | ⟨m0, k0⟩
          · rw [hq] at hf
            rcases hg : g.find s with _ | ⟨m', k'⟩ <;> rw [hg] at hf <;> simp [jn] at hf
          · rfl
        · rw [join_find ha.1, hg]
          rcases hf : f.find s with _ | ⟨m', k'⟩
          · exact ⟨false, k, rfl, fun e => (nomatch e), below_refl _ k (Nat.le_refl _) (find_ok hb.2 hg)⟩
          · exact ⟨_, _, rfl, fun e => by simp at e; exact e.2, (join_up n k' k (by have := find_sz hf; omega) (find_ok ha.2 hf) (find_ok hb.2 hg)).2⟩
        · rw [join_find ha.1] at hf
          rcases hg : g.find s with _ | ⟨m0, k0⟩
          · rw [hg] at hf
            rcases hq : f.find s with _ | ⟨m', k'⟩ <;> rw [hq] at hf <;> simp [jn] at hf
          · rfl
      · rw [e]; exact ⟨to_any _, to_any _⟩
theorem join_least : ∀ (n : Nat) (a b c : Kd), a.sz ≤ n → a.ok → b.ok → c.ok → belowK a c = true → belowK b c = true → belowK (joinK a b) c = true
  | 0, a, _, _, h, _, _, _, _, _ => by cases a <;> simp [Kd.sz] at h
  | n + 1, a, b, c, h, ha, hb, hc, k1, k2 => by
    by_cases h1 : b = .base 48
    · rw [join_any h1]; rw [h1] at k2; exact k2
    by_cases h2 : b = .base 49
    · rw [join_none h2]; exact k1
    by_cases h3 : c = .base 48
    · rw [h3]; exact to_any _
    cases a with
    | base x =>
      rw [join_base h1 h2]
      split
      · exact k2
      · rename_i hx
        rcases below_base.1 k1 with e | e | e
        · exact absurd e hx
        · exact absurd e h3
        · subst e
          cases b with
          | base y =>
            rcases below_base.1 k2 with e | e | e
            · subst e; exact absurd rfl h2
            · exact absurd e h3
            · injection e with e; subst e; rw [if_pos rfl]; exact k1
          | ent t => rcases below_ent.1 k2 with e | e <;> first | exact absurd e h3 | cases e
          | set t => rcases below_set.1 k2 with e | ⟨_, e, _⟩ <;> first | exact absurd e h3 | cases e
          | fs t => rcases below_fs.1 k2 with e | ⟨_, e, _⟩ <;> first | exact absurd e h3 | cases e
    | ent s =>
      rw [join_ent h1 h2]
      rcases below_ent.1 k1 with e | e
      · exact absurd e h3
      · subst e
        cases b with
        | base y =>
          rcases below_base.1 k2 with e | e | e
          · subst e; exact absurd rfl h2
          · exact absurd e h3
          · cases e
        | ent t =>
          rcases below_ent.1 k2 with e | e
          · exact absurd e h3
          · injection e with e; subst e; rw [if_pos rfl]; exact k1
        | set t => rcases below_set.1 k2 with e | ⟨_, e, _⟩ <;> first | exact absurd e h3 | cases e
        | fs t => rcases below_fs.1 k2 with e | ⟨_, e, _⟩ <;> first | exact absurd e h3 | cases e
    | set p =>
      simp only [Kd.sz] at h
      rcases below_set.1 k1 with e | ⟨r, rfl, k3⟩
      · exact absurd e h3
      · rcases join_set (p := p) h1 h2 with ⟨q, rfl, e⟩ | ⟨hno, e⟩
        · rw [e]
          rcases below_set.1 k2 with e | ⟨r', e', k4⟩
          · exact absurd e h3
          · injection e' with e'
            subst e'
            exact below_set.2 (.inr ⟨r, rfl, join_least n p q r (by omega) ha hb hc k3 k4⟩)
        · exfalso
          cases b with
          | base y =>
            rcases below_base.1 k2 with e | e | e
            · subst e; exact h2 rfl
            · cases e
            · cases e
          | ent t => rcases below_ent.1 k2 with e | e <;> cases e
          | set t => exact hno t rfl
          | fs t => rcases below_fs.1 k2 with e | ⟨_, e, _⟩ <;> cases e
    | fs f =>
      simp only [Kd.sz] at h
      rcases below_fs.1 k1 with e | ⟨r, rfl, k3⟩
      · exact absurd e h3
      · rcases join_fs (f := f) h1 h2 with ⟨g, rfl, e⟩ | ⟨hno, e⟩
        · rw [e]
          rcases below_fs.1 k2 with e | ⟨r', e', k4⟩
          · exact absurd e h3
          · injection e' with e'
            subst e'
            obtain ⟨p1, p2⟩ := (belR_iff ha.1 hc.1).1 k3
            obtain ⟨q1, q2⟩ := (belR_iff hb.1 hc.1).1 k4
            refine below_fs.2 (.inr ⟨r, rfl, (belR_iff (join_asc ha.1 hb.1) hc.1).2 ⟨fun s m k hj => ?_, fun s k hr => ?_⟩⟩)
            · rw [join_find ha.1] at hj
              rcases hf : f.find s with _ | ⟨m1, k1'⟩
              · rcases hg : g.find s with _ | ⟨m2, k2'⟩
                · rw [hf, hg] at hj; simp [jn] at hj
                · rw [hf, hg] at hj
                  simp only [jn, Option.some.injEq, Prod.mk.injEq] at hj
                  obtain ⟨rfl, rfl⟩ := hj
                  obtain ⟨m', k', hr, e1, e2⟩ := q1 s m2 k2' hg
                  refine ⟨m', k', hr, fun e => ?_, e2⟩
                  subst e
                  have := p2 s k' hr
                  rw [hf] at this; cases this
              · obtain ⟨m', k', hr, e1, e2⟩ := p1 s m1 k1' hf
                rcases hg : g.find s with _ | ⟨m2, k2'⟩
                · rw [hf, hg] at hj
                  simp only [jn, Option.some.injEq, Prod.mk.injEq] at hj
                  obtain ⟨rfl, rfl⟩ := hj
                  refine ⟨m', k', hr, fun e => ?_, e2⟩
                  subst e
                  have := q2 s k' hr
                  rw [hg] at this; cases this
                · rw [hf, hg] at hj
                  simp only [jn, Option.some.injEq, Prod.mk.injEq] at hj
                  obtain ⟨rfl, rfl⟩ := hj
                  obtain ⟨m'', k'', hr', e3, e4⟩ := q1 s m2 k2' hg
                  rw [hr] at hr'
                  simp only [Option.some.injEq, Prod.mk.injEq] at hr'
                  obtain ⟨rfl, rfl⟩ := hr'
                  exact ⟨m', k', hr, fun e => by rw [e1 e, e3 e]; rfl, join_least n k1' k2' k' (by have := find_sz hf; omega) (find_ok ha.2 hf) (find_ok hb.2 hg) (find_ok hc.2 hr) e2 e4⟩
            · have h5 := p2 s k hr
              rw [join_find ha.1]
              rcases hf : f.find s with _ | ⟨m1, k1'⟩
              · rw [hf] at h5; cases h5
              · rcases hg : g.find s with _ | ⟨m2, k2'⟩ <;> rfl
        · exfalso
          cases b with
          | base y =>
            rcases below_base.1 k2 with e | e | e
            · subst e; exact h2 rfl
            · cases e
            · cases e
          | ent t => rcases below_ent.1 k2 with e | e <;> cases e
          | set t => rcases below_set.1 k2 with e | ⟨_, e, _⟩ <;> cases e
          | fs t => exact hno t rfl
/-- Either way round. -/
theorem join_comm {a b : Kd} (ha : a.ok) (hb : b.ok) : joinK a b = joinK b a := by
  obtain ⟨u1, u2⟩ := join_up _ a b (Nat.le_refl _) ha hb
  obtain ⟨v1, v2⟩ := join_up _ b a (Nat.le_refl _) hb ha
  have o1 := join_ok _ a b (Nat.le_refl _) ha hb
  have o2 := join_ok _ b a (Nat.le_refl _) hb ha
  exact below_anti _ _ _ (Nat.le_refl _) o1 o2 (join_least _ a b _ (Nat.le_refl _) ha hb o2 v2 v1) (join_least _ b a _ (Nat.le_refl _) hb ha o1 u2 u1)
theorem join_assoc {a b c : Kd} (ha : a.ok) (hb : b.ok) (hc : c.ok) : joinK (joinK a b) c = joinK a (joinK b c) := by
  have oab := join_ok _ a b (Nat.le_refl _) ha hb
  have obc := join_ok _ b c (Nat.le_refl _) hb hc
  obtain ⟨u1, u2⟩ := join_up _ a b (Nat.le_refl _) ha hb
  obtain ⟨v1, v2⟩ := join_up _ b c (Nat.le_refl _) hb hc
  obtain ⟨p1, p2⟩ := join_up _ (joinK a b) c (Nat.le_refl _) oab hc
  obtain ⟨q1, q2⟩ := join_up _ a (joinK b c) (Nat.le_refl _) ha obc
  have o1 := join_ok _ (joinK a b) c (Nat.le_refl _) oab hc
  have o2 := join_ok _ a (joinK b c) (Nat.le_refl _) ha obc
  have tr := fun x y z hx hy hz h1 h2 => below_trans _ x y z (Nat.le_refl _) hx hy hz h1 h2
  refine below_anti _ _ _ (Nat.le_refl _) o1 o2 ?_ ?_
  · exact join_least _ _ c _ (Nat.le_refl _) oab hc o2 (join_least _ a b _ (Nat.le_refl _) ha hb o2 q1 (tr b _ _ hb obc o2 v1 q2)) (tr c _ _ hc obc o2 v2 q2)
  · exact join_least _ a _ _ (Nat.le_refl _) ha obc o1 (tr a _ _ ha oab o1 u1 p1) (join_least _ b c _ (Nat.le_refl _) hb hc o1 (tr b _ _ hb oab o1 u2 p1) p2)
theorem join_iff {a b : Kd} (ha : a.ok) (hb : b.ok) : joinK a b = a ↔ belowK b a = true := by
  obtain ⟨u1, u2⟩ := join_up _ a b (Nat.le_refl _) ha hb
  constructor
  · intro e; rw [e] at u2; exact u2
  · intro h
    exact below_anti _ _ _ (Nat.le_refl _) (join_ok _ a b (Nat.le_refl _) ha hb) ha (join_least _ a b a (Nat.le_refl _) ha hb ha (below_refl _ a (Nat.le_refl _) ha) h) u1
end Go.Wk
namespace Go.Wk

/-- All names and types are as they may be. -/
def Fl.av : Fl → Prop
  | .nil => True
  | .cons s _ k r => nameFault s = 0 ∧ k.valid ∧ r.av
theorem emp_lt {s : ByteArray} (h : nameFault s = 0) : cmpB emp s < 0 := by
  have hne : s ≠ emp := fun e => by subst e; exact absurd h (by decide)
  rcases cmpB_cmp.rng emp s with e | e | e
  · omega
  · exact absurd ((cmpB_cmp.zero _ _).1 e).symm hne
  · exfalso
    unfold cmpB at e
    have : emp.data.toList = [] := rfl
    rw [this] at e
    cases hs : s.data.toList with
    | nil => exact hne (bytes_ext (by rw [hs]; rfl))
    | cons a l => rw [hs] at e; simp [Lib.compareBytes] at e
theorem validFrom_iff : ∀ (f : Fl) (x : ByteArray), f.validFrom x ↔ f.ascFrom x ∧ f.av
  | .nil, _ => by simp [Fl.validFrom, Fl.ascFrom, Fl.av]
  | .cons s m k r, x => by
    simp only [Fl.validFrom, Fl.ascFrom, Fl.av, validFrom_iff r s]
    constructor
    · rintro ⟨a, b, c, d, e⟩; exact ⟨⟨a, d⟩, b, c, e⟩
    · rintro ⟨⟨a, d⟩, b, c, e⟩; exact ⟨a, b, c, d, e⟩
theorem asc_emp : ∀ f : Fl, f.asc → f.av → f.ascFrom emp
  | .nil, _, _ => trivial
  | .cons _ _ _ _, h, hv => ⟨emp_lt hv.1, h⟩
theorem valid_fs {f : Fl} : (Kd.fs f).valid ↔ f.asc ∧ f.av := by
  simp only [Kd.valid, validFrom_iff]
  exact ⟨fun ⟨a, b⟩ => ⟨asc_tail a, b⟩, fun ⟨a, b⟩ => ⟨asc_emp f a b, b⟩⟩
theorem valid_ok : ∀ (n : Nat) (a : Kd), a.sz ≤ n → a.valid → a.ok
  | 0, a, h, _ => by cases a <;> simp [Kd.sz] at h
  | n + 1, a, h, hv => by
    cases a with
    | base x => trivial
    | ent s => trivial
    | set p => simp only [Kd.sz] at h; exact valid_ok n p (by omega) hv
    | fs f =>
      simp only [Kd.sz] at h
      obtain ⟨h1, h2⟩ := valid_fs.1 hv
      refine ⟨h1, ?_⟩
      have key : ∀ g : Fl, g.sz ≤ n → g.av → g.ok := by
        intro g hs hg
        induction g using Fl.rec (motive_1 := fun _ => True) with
        | nil => trivial
        | cons s m k r _ ih =>
          simp only [Fl.sz] at hs
          exact ⟨valid_ok n k (by omega) hg.2.1, ih (by omega) hg.2.2⟩
        | _ => trivial
      exact key f (by omega) h2
theorem Kd.valid.ok {a : Kd} (h : a.valid) : a.ok := valid_ok _ a (Nat.le_refl _) h
theorem insF_av (s : ByteArray) (m : Bool) (k : Kd) (hs : nameFault s = 0) (hk : k.valid) : ∀ f : Fl, f.av → (insF s m k f).av
  | .nil, _ => ⟨hs, hk, trivial⟩
  | .cons t m' k' r, h => by
    simp only [insF]
    split
    · exact ⟨hs, hk, h⟩
    · exact ⟨h.1, h.2.1, insF_av s m k hs hk r h.2.2⟩
theorem restF_av (f : Fl) : ∀ g : Fl, g.av → (restF g f).av
  | .nil, _ => trivial
  | .cons t m k r, h => by
    simp only [restF]
    split
    · exact restF_av f r h.2.2
    · exact ⟨h.1, h.2.1, restF_av f r h.2.2⟩
theorem find_valid {f : Fl} (h : f.av) {s : ByteArray} {m : Bool} {k : Kd} (hf : f.find s = some (m, k)) : k.valid := by
  induction f using Fl.rec (motive_1 := fun _ => True) with
  | nil => cases hf
  | cons t m' k' r _ ih =>
    simp only [Fl.find] at hf
    split at hf
    · injection hf with hf; injection hf with h1 h2; subst h2; exact h.2.1
    · exact ih h.2.2 hf
  | _ => trivial
theorem join_valid : ∀ (n : Nat) (a b : Kd), a.sz ≤ n → a.valid → b.valid → (joinK a b).valid
  | 0, a, _, h, _, _ => by cases a <;> simp [Kd.sz] at h
  | n + 1, a, b, h, ha, hb => by
    have h48 : (Kd.base 48).valid := by show baseOp 48; decide
    by_cases h1 : b = .base 48
    · rw [join_any h1]; exact h48
    by_cases h2 : b = .base 49
    · rw [join_none h2]; exact ha
    cases a with
    | base x =>
      rw [join_base h1 h2]
      split
      · exact hb
      · split
        · exact ha
        · exact h48
    | ent s =>
      rw [join_ent h1 h2]
      split
      · exact ha
      · exact h48
    | set p =>
      simp only [Kd.sz] at h
      rcases join_set (p := p) h1 h2 with ⟨q, rfl, e⟩ | ⟨-, e⟩
      · rw [e]; exact join_valid n p q (by omega) ha hb
      · rw [e]; exact h48
    | fs f =>
      simp only [Kd.sz] at h
      rcases join_fs (f := f) h1 h2 with ⟨g, rfl, e⟩ | ⟨-, e⟩
      · rw [e]
        obtain ⟨fa, fv⟩ := valid_fs.1 ha
        obtain ⟨ga, gv⟩ := valid_fs.1 hb
        refine valid_fs.2 ⟨join_asc fa ga, ?_⟩
        have key : ∀ (f' acc : Fl), f'.sz ≤ n → f'.av → acc.av → (joinF f' g acc).av := by
          intro f' acc hs ho hacc
          induction f' using Fl.rec (motive_1 := fun _ => True) with
          | nil => simpa [joinF] using hacc
          | cons s m k r _ ih =>
            simp only [Fl.sz] at hs
            have ih := ih (by omega) ho.2.2
            simp only [joinF]
            rcases hg : g.find s with _ | ⟨m', k'⟩
            · exact insF_av _ _ _ ho.1 ho.2.1 _ ih
            · exact insF_av _ _ _ ho.1 (join_valid n k k' (by omega) ho.2.1 (find_valid gv hg)) _ ih
          | _ => trivial
        exact key f _ (by omega) fv (restF_av f g gv)
      · rw [e]; exact h48
end Go.Wk
namespace Go.Wk
theorem below_join_iff {a b c : Kd} (ha : a.ok) (hb : b.ok) (hc : c.ok) : belowK (joinK a b) c = true ↔ belowK a c = true ∧ belowK b c = true := by
  obtain ⟨u1, u2⟩ := join_up _ a b (Nat.le_refl _) ha hb
  have o := join_ok _ a b (Nat.le_refl _) ha hb
  constructor
  · intro h
    exact ⟨below_trans _ a _ c (Nat.le_refl _) ha o hc u1 h, below_trans _ b _ c (Nat.le_refl _) hb o hc u2 h⟩
  · rintro ⟨h1, h2⟩
    exact join_least _ a b c (Nat.le_refl _) ha hb hc h1 h2
theorem join_self {a : Kd} (ha : a.ok) : joinK a a = a := (join_iff ha ha).2 (below_refl _ a (Nat.le_refl _) ha)
theorem below_both {a b : Kd} (ha : a.ok) (hb : b.ok) : (belowK a b = true ∧ belowK b a = true) ↔ a = b := by
  constructor
  · rintro ⟨h1, h2⟩; exact below_anti _ a b (Nat.le_refl _) ha hb h1 h2
  · rintro rfl; exact ⟨below_refl _ a (Nat.le_refl _) ha, below_refl _ a (Nat.le_refl _) ha⟩
end Go.Wk
namespace Go.Wk

abbrev Kfd := ByteArray × Bool × Kd
def Fl.list : Fl → List Kfd
  | .nil => []
  | .cons s m k r => (s, m, k) :: r.list
def Fl.lenL : Fl → Nat
  | .nil => 0
  | .cons _ _ _ r => r.lenL + 1
theorem list_names {f : Fl} : ∀ x : ByteArray, f.ascFrom x → (∀ y ∈ f.list, cmpB x y.1 < 0) ∧ f.list.Pairwise fun a b => cmpB a.1 b.1 < 0 := by
  induction f using Fl.rec (motive_1 := fun _ => True) with
  | nil => intro x _; exact ⟨(fun _ hy => nomatch hy), List.Pairwise.nil⟩
  | cons s m k r _ ih =>
    intro x h
    obtain ⟨h1, h2⟩ := ih s h.2
    refine ⟨fun y hy => ?_, List.Pairwise.cons h1 h2⟩
    rcases List.mem_cons.1 hy with rfl | hy
    · exact h.1
    · exact cmpB_cmp.lt_le h.1 (by have := h1 y hy; omega)
  | _ => trivial
theorem list_asc {f : Fl} (h : f.asc) : f.list.Pairwise fun a b => cmpB a.1 b.1 < 0 := by
  cases f with
  | nil => exact List.Pairwise.nil
  | cons s m k r =>
    obtain ⟨h1, h2⟩ := list_names s h
    exact List.Pairwise.cons h1 h2
theorem find_list {f : Fl} (h : f.asc) {s : ByteArray} {m : Bool} {k : Kd} : f.find s = some (m, k) ↔ (s, m, k) ∈ f.list := by
  induction f using Fl.rec (motive_1 := fun _ => True) with
  | nil => simp [Fl.find, Fl.list]
  | cons t m' k' r _ ih =>
    have ih := ih (asc_tail h)
    simp only [Fl.find, Fl.list, List.mem_cons, Prod.mk.injEq]
    by_cases e : t = s
    · subst e
      rw [if_pos rfl]
      simp only [Option.some.injEq, Prod.mk.injEq, true_and]
      constructor
      · rintro ⟨rfl, rfl⟩; exact .inl ⟨rfl, rfl⟩
      · rintro (⟨rfl, rfl⟩ | hm)
        · exact ⟨rfl, rfl⟩
        · have := (list_names t h).1 _ hm; rw [cmpB_cmp.self] at this; omega
    · rw [if_neg e, ih]
      exact ⟨.inr, fun h => h.resolve_left (fun q => e q.1.symm)⟩
  | _ => trivial
theorem find_none {f : Fl} {s : ByteArray} : f.find s = none ↔ ∀ y ∈ f.list, y.1 ≠ s := by
  induction f using Fl.rec (motive_1 := fun _ => True) with
  | nil => simp [Fl.find, Fl.list]
  | cons t m' k' r _ ih =>
    simp only [Fl.find, Fl.list, List.mem_cons]
    by_cases e : t = s
    · subst e
      rw [if_pos rfl]
      exact ⟨fun h => (nomatch h), fun h => absurd rfl (h (t, m', k') (.inl rfl))⟩
    · rw [if_neg e, ih]
      constructor
      · rintro h y (rfl | hy)
        · exact e
        · exact h y hy
      · exact fun h y hy => h y (.inr hy)
  | _ => trivial
/-- Half-way: the names ahead of lo are below s, those from hi on are not. -/
structure Half (L : List Kfd) (s : ByteArray) (lo hi : Nat) : Prop where
  le : lo ≤ hi
  hi_ : hi ≤ L.length
  low : ∀ i (h : i < L.length), i < lo → cmpB L[i].1 s < 0
  high : ∀ i (h : i < L.length), hi ≤ i → ¬ cmpB L[i].1 s < 0
theorem Half.start (L : List Kfd) (s : ByteArray) : Half L s 0 L.length := ⟨Nat.zero_le _, Nat.le_refl _, fun i _ h => by omega, fun i h h2 => by omega⟩
theorem Half.up {L : List Kfd} {s : ByteArray} {lo hi m : Nat} (h : Half L s lo hi) (hp : L.Pairwise fun a b => cmpB a.1 b.1 < 0) (h1 : lo ≤ m) (h2 : m < hi) (hm : m < L.length) (hl : cmpB L[m].1 s < 0) : Half L s (m + 1) hi :=
  ⟨by omega, h.hi_, fun i hi' hlt => by
    rcases Nat.lt_or_ge i m with q | q
    · have := List.pairwise_iff_getElem.1 hp i m hi' hm q
      exact cmpB_cmp.lt_le this (by omega)
    · have : i = m := by omega
      subst this; exact hl, h.high⟩
theorem Half.down {L : List Kfd} {s : ByteArray} {lo hi m : Nat} (h : Half L s lo hi) (hp : L.Pairwise fun a b => cmpB a.1 b.1 < 0) (h1 : lo ≤ m) (h2 : m < hi) (hm : m < L.length) (hl : ¬ cmpB L[m].1 s < 0) : Half L s lo m :=
  ⟨h1, by omega, h.low, fun i hi' hge => by
    rcases Nat.lt_or_ge m i with q | q
    · have := List.pairwise_iff_getElem.1 hp m i hm hi' q
      intro hc
      exact hl (cmpB_cmp.lt_le this (by omega))
    · have : i = m := by omega
      subst this; exact hl⟩
theorem Half.found {L : List Kfd} {s : ByteArray} {lo : Nat} (h : Half L s lo lo) (hp : L.Pairwise fun a b => cmpB a.1 b.1 < 0) : (∀ (hl : lo < L.length), L[lo].1 = s → L[lo] ∈ L) ∧ ((∀ (hl : lo < L.length), L[lo].1 ≠ s) → ∀ y ∈ L, y.1 ≠ s) := by
  refine ⟨fun hl _ => List.getElem_mem hl, fun hno y hy e => ?_⟩
  obtain ⟨i, hi, rfl⟩ := List.getElem_of_mem hy
  rcases Nat.lt_trichotomy i lo with q | q | q
  · have := h.low i hi q; rw [e, cmpB_cmp.self] at this; omega
  · subst q; exact hno hi e
  · have h1 := List.pairwise_iff_getElem.1 hp lo i (by omega) hi q
    have h2 := h.high lo (by omega) (Nat.le_refl _)
    rw [e] at h1
    exact h2 h1
end Go.Wk
namespace Go.Wk

/-- What f's names have in g. -/
def overF : Fl → Fl → Nat
  | .nil, _ => 0
  | .cons s _ _ r, g => (match g.find s with | none => 0 | some (_, k) => k.sz) + overF r g
theorem insF_sz (s : ByteArray) (m : Bool) (k : Kd) : ∀ f : Fl, (insF s m k f).sz = f.sz + k.sz + 1
  | .nil => by simp [insF, Fl.sz]
  | .cons t m' k' r => by
    simp only [insF]
    split
    · simp only [Fl.sz]; omega
    · simp only [Fl.sz, insF_sz s m k r]; omega
theorem over_nil : ∀ f : Fl, overF f .nil = 0
  | .nil => rfl
  | .cons s m k r => by simp [overF, Fl.find, over_nil r]
theorem over_cons (t : ByteArray) (m : Bool) (k : Kd) (r : Fl) : ∀ f : Fl, f.asc → overF f (.cons t m k r) ≤ overF f r + (if (f.find t).isSome then k.sz else 0)
  | .nil, _ => by simp [overF]
  | .cons s m' k' f, h => by
    have ih := over_cons t m k r f (asc_tail h)
    by_cases e : s = t
    · subst e
      have hn : f.find s = none := tail_none h
      rw [hn] at ih
      simp only [overF, Fl.find, if_true, Option.isSome_some]
      simp only [Option.isSome_none, Bool.false_eq_true, if_false] at ih
      omega
    · have e2 : ¬ t = s := fun q => e q.symm
      simp only [overF, Fl.find, if_neg e, if_neg e2]
      omega
theorem rest_over (f : Fl) (hf : f.asc) : ∀ g : Fl, (restF g f).sz + overF f g ≤ g.sz
  | .nil => by simp [restF, Fl.sz, over_nil]
  | .cons t m k r => by
    have ih := rest_over f hf r
    have h := over_cons t m k r f hf
    simp only [restF, Fl.sz]
    split
    · rename_i hs
      rw [if_pos hs] at h
      omega
    · rename_i hs
      rw [if_neg hs] at h
      simp only [Fl.sz]
      omega
theorem sz_pos (k : Kd) : 1 ≤ k.sz := by cases k <;> simp [Kd.sz]
theorem find_sz_le {f : Fl} {s : ByteArray} {m : Bool} {k : Kd} (hf : f.find s = some (m, k)) : k.sz ≤ f.sz := Nat.le_of_lt (find_sz hf)
theorem join_sz : ∀ n : Nat, (∀ a b : Kd, a.sz ≤ n → a.ok → b.ok → (joinK a b).sz ≤ a.sz + b.sz) ∧ (∀ f g acc : Fl, f.sz ≤ n → f.asc → f.ok → g.ok → (joinF f g acc).sz ≤ f.sz + acc.sz + overF f g)
  | 0 => by
    refine ⟨fun a b h => by cases a <;> simp [Kd.sz] at h, fun f g acc h _ _ _ => ?_⟩
    cases f with
    | nil => simp [joinF, Fl.sz, overF]
    | cons s m k r => simp [Fl.sz] at h
  | n + 1 => by
    obtain ⟨ihK, ihF⟩ := join_sz n
    refine ⟨fun a b h ha hb => ?_, fun f g acc h hf hok hg => ?_⟩
    · have hpa := sz_pos a
      by_cases h1 : b = .base 48
      · rw [join_any h1]; simp only [Kd.sz]; omega
      by_cases h2 : b = .base 49
      · rw [join_none h2]; omega
      have hp := sz_pos b
      cases a with
      | base x =>
        rw [join_base h1 h2]
        split
        · omega
        · split <;> simp only [Kd.sz] <;> omega
      | ent s =>
        rw [join_ent h1 h2]
        split <;> simp only [Kd.sz] <;> omega
      | set p =>
        simp only [Kd.sz] at h
        rcases join_set (p := p) h1 h2 with ⟨q, rfl, e⟩ | ⟨-, e⟩
        · rw [e]
          have := ihK p q (by omega) ha hb
          simp only [Kd.sz]; omega
        · rw [e]; simp only [Kd.sz]; omega
      | fs f =>
        simp only [Kd.sz] at h
        rcases join_fs (f := f) h1 h2 with ⟨g, rfl, e⟩ | ⟨-, e⟩
        · rw [e]
          have := ihF f g (restF g f) (by omega) ha.1 ha.2 hb.2
          have := rest_over f ha.1 g
          simp only [Kd.sz]; omega
        · rw [e]; simp only [Kd.sz]; omega
    · cases f with
      | nil => simp only [joinF, Fl.sz, overF]; omega
      | cons s m k r =>
        simp only [Fl.sz] at h
        have ih := ihF r g acc (by omega) (asc_tail hf) hok.2 hg
        rcases hs : g.find s with _ | ⟨m', k'⟩
        · simp only [joinF, hs, overF, insF_sz, Fl.sz]; omega
        · have := ihK k k' (by omega) hok.1 (find_ok hg hs)
          simp only [joinF, hs, overF, insF_sz, Fl.sz]; omega
theorem joinK_sz {a b : Kd} (ha : a.ok) (hb : b.ok) : (joinK a b).sz ≤ a.sz + b.sz := (join_sz _).1 a b (Nat.le_refl _) ha hb

/-- Fields of a list. -/
def ofL : List Kfd → Fl
  | [] => .nil
  | y :: r => .cons y.1 y.2.1 y.2.2 (ofL r)
theorem ofL_list : ∀ L : List Kfd, (ofL L).list = L
  | [] => rfl
  | y :: r => by simp [ofL, Fl.list, ofL_list r]
theorem list_ofL : ∀ f : Fl, ofL f.list = f
  | .nil => rfl
  | .cons s m k r => by simp [Fl.list, ofL, list_ofL r]
theorem ofL_asc : ∀ L : List Kfd, (L.Pairwise fun a b => cmpB a.1 b.1 < 0) → (ofL L).asc ∧ ∀ x, (∀ y ∈ L, cmpB x y.1 < 0) → (ofL L).ascFrom x
  | [], _ => ⟨trivial, fun _ _ => trivial⟩
  | y :: r, h => by
    rw [List.pairwise_cons] at h
    obtain ⟨h1, h2⟩ := h
    obtain ⟨-, ih⟩ := ofL_asc r h2
    exact ⟨ih y.1 h1, fun x hx => ⟨hx y (by simp), ih y.1 h1⟩⟩
/-- Fields ahead of fields. -/
def catF (L : List Kfd) (f : Fl) : Fl := ofL (L ++ f.list)
theorem catF_nil (f : Fl) : catF [] f = f := by unfold catF; rw [List.nil_append, list_ofL]
theorem catF_snoc (L : List Kfd) (s : ByteArray) (b : Bool) (k : Kd) (f : Fl) : catF (L ++ [(s, b, k)]) f = catF L (.cons s b k f) := by
  unfold catF
  rw [List.append_assoc]
  rfl
theorem catF_end (L : List Kfd) : catF L .nil = ofL L := by unfold catF; rw [Fl.list, List.append_nil]
/-- What becomes of a field of the first one. -/
def mixO (g : Fl) (y : Kfd) : Kfd := match g.find y.1 with
  | none => (y.1, false, y.2.2)
  | some (m', k') => (y.1, y.2.1 && m', joinK y.2.2 k')
/-- The fields as join's loops lay them: the first one's, then those that the second one alone has. -/
def mixL (f g : Fl) : List Kfd := f.list.map (mixO g) ++ (g.list.filter fun y => (f.find y.1).isNone).map fun y => (y.1, false, y.2.2)
theorem mixO_name (g : Fl) (y : Kfd) : (mixO g y).1 = y.1 := by unfold mixO; split <;> rfl
theorem mixL_mem {f g : Fl} (hf : f.asc) (hg : g.asc) (s : ByteArray) (m : Bool) (k : Kd) : (s, m, k) ∈ mixL f g ↔ (joinF f g (restF g f)).find s = some (m, k) := by
  rw [join_find hf]
  unfold mixL
  rw [List.mem_append, List.mem_map, List.mem_map]
  constructor
  · rintro (⟨⟨s', m', k'⟩, h1, h2⟩ | ⟨⟨s', m', k'⟩, h1, h2⟩)
    · have h3 := (find_list hf).2 h1
      have hs : s' = s := by have := mixO_name g (s', m', k'); rw [h2] at this; exact this.symm
      subst hs
      rw [h3]
      unfold mixO at h2
      simp only at h2
      rcases hg2 : g.find s' with _ | ⟨m2, k2⟩
      · rw [hg2] at h2; simp only [Prod.mk.injEq, true_and] at h2; simp [jn, h2]
      · rw [hg2] at h2; simp only [Prod.mk.injEq, true_and] at h2; simp [jn, h2]
    · rw [List.mem_filter] at h1
      obtain ⟨h1, h4⟩ := h1
      have h3 := (find_list hg).2 h1
      simp only [Prod.mk.injEq] at h2
      obtain ⟨rfl, rfl, rfl⟩ := h2
      simp only [Option.isNone_iff_eq_none] at h4
      rw [h3, h4]
      rfl
  · intro h
    rcases hf2 : f.find s with _ | ⟨m1, k1⟩
    · rcases hg2 : g.find s with _ | ⟨m2, k2⟩
      · rw [hf2, hg2] at h; cases h
      · rw [hf2, hg2] at h
        simp only [jn, Option.some.injEq, Prod.mk.injEq] at h
        refine .inr ⟨(s, m2, k2), List.mem_filter.2 ⟨(find_list hg).1 hg2, by simp [hf2]⟩, by simp [h]⟩
    · refine .inl ⟨(s, m1, k1), (find_list hf).1 hf2, ?_⟩
      unfold mixO
      simp only
      rcases hg2 : g.find s with _ | ⟨m2, k2⟩
      · rw [hf2, hg2] at h
        simp only [jn, Option.some.injEq, Prod.mk.injEq] at h
        simp [h]
      · rw [hf2, hg2] at h
        simp only [jn, Option.some.injEq, Prod.mk.injEq] at h
        simp [h]
theorem mixL_sz {f g : Fl} : (mixL f g).length ≤ f.len + g.len := by
  unfold mixL
  rw [List.length_append, List.length_map, List.length_map]
  have h := List.length_filter_le (fun y : Kfd => (f.find y.1).isNone) g.list
  have h1 : ∀ x : Fl, x.list.length = x.len := fun x => by
    induction x using Fl.rec (motive_1 := fun _ => True) with
    | nil => rfl
    | cons s m k r _ ih => simp [Fl.len, Fl.list, ih]
    | _ => trivial
  have e1 := h1 f
  have e2 := h1 g
  omega
/-- Sorted by their names, they are the fields of the least above both. -/
theorem mixL_sorted {f g : Fl} (hf : f.asc) (hg : g.asc) {L : List Kfd} (hp : L.Perm (mixL f g)) (hs : L.Pairwise fun a b => cmpB a.1 b.1 ≤ 0) : ofL L = joinF f g (restF g f) := by
  have hnd : L.Pairwise fun a b => cmpB a.1 b.1 < 0 := by
    have hn : (mixL f g).Pairwise fun a b => a.1 ≠ b.1 := by
      unfold mixL
      rw [List.pairwise_append]
      refine ⟨?_, ?_, ?_⟩
      · rw [List.pairwise_map]
        refine (list_asc hf).imp fun {a b} h e => ?_
        rw [mixO_name, mixO_name] at e
        rw [e, cmpB_cmp.self] at h
        omega
      · rw [List.pairwise_map]
        refine ((list_asc hg).filter _).imp fun {a b} h e => ?_
        simp only at e
        rw [e, cmpB_cmp.self] at h
        omega
      · intro a ha b hb e
        rw [List.mem_map] at ha hb
        obtain ⟨x, hx, rfl⟩ := ha
        obtain ⟨y, hy, rfl⟩ := hb
        rw [mixO_name] at e
        simp only at e
        rw [List.mem_filter] at hy
        have h1 : f.find y.1 = none := by simpa using hy.2
        have h2 := (find_list hf (s := x.1) (m := x.2.1) (k := x.2.2)).2 hx
        rw [e, h1] at h2
        cases h2
    have hnL : L.Pairwise fun a b => a.1 ≠ b.1 := hp.symm.pairwise hn (fun {a b} h => fun e => h e.symm)
    refine (List.Pairwise.and hs hnL).imp fun {a b} ⟨h1, h2⟩ => ?_
    have : cmpB a.1 b.1 ≠ 0 := fun e => h2 ((cmpB_cmp.zero _ _).1 e)
    omega
  have ho := (ofL_asc L hnd).1
  refine fl_ext _ _ ho (join_asc hf hg) fun s => ?_
  rcases h : (joinF f g (restF g f)).find s with _ | ⟨m, k⟩
  · rw [find_none, ofL_list]
    intro y hy e
    have h2 := (mixL_mem hf hg y.1 y.2.1 y.2.2).1 (hp.mem_iff.1 hy)
    rw [e, h] at h2
    cases h2
  · rw [find_list ho, ofL_list]
    exact hp.mem_iff.2 ((mixL_mem hf hg s m k).2 h)
end Go.Wk
namespace Go.Wk

def headS : List Nd → ByteArray
  | [] => emp
  | x :: _ => x.s
/-- The least above these. -/
def joinAll (L : List Kd) : Kd := L.foldl joinK (.base 49)
/-- The type of a value's own (m: more than its nodes). -/
def ownK : Nat → List Nd → Kd
  | 0, _ => .base 49
  | m + 1, P =>
    if headOp P = 1 then .base 41 else if headOp P = 2 then .base 42 else if headOp P = 3 then .base 43 else if headOp P = 4 then .ent (headS P)
    else if headOp P = 5 then .set (joinAll ((setParts P).map (ownK m)))
    else .fs (ofL ((recParts P).map fun x => (x.1, true, ownK m x.2)))
def ownV (P : List Nd) : Kd := ownK (P.length + 1) P

theorem mem_flat {L : List (List Nd)} {Q : List Nd} (h : Q ∈ L) : Q.length ≤ L.flatten.length := by
  induction L with
  | nil => cases h
  | cons a r ih =>
    rw [List.flatten_cons, List.length_append]
    rcases List.mem_cons.1 h with rfl | h
    · omega
    · have := ih h; omega
theorem flat_sum (L : List (List Nd)) : L.flatten.length = (L.map List.length).sum := by rw [List.length_flatten]
theorem mem_flatR {L : List (ByteArray × List Nd)} {x : ByteArray × List Nd} (h : x ∈ L) : x.2.length < (flatR L).length := by
  induction L with
  | nil => cases h
  | cons a r ih =>
    simp only [flatR, List.length_cons, List.length_append]
    rcases List.mem_cons.1 h with rfl | h
    · omega
    · have := ih h; omega
theorem set_smaller {P : List Nd} (h : IsV P) (h5 : headOp P = 5) {Q : List Nd} (hQ : Q ∈ setParts P) : Q.length < P.length := by
  obtain ⟨e, -, -, -⟩ := isV_set h h5
  have := mem_flat hQ
  rw [e, List.length_cons]
  omega
theorem rec_smaller {P : List Nd} (h : IsV P) (h6 : headOp P = 6) {x : ByteArray × List Nd} (hx : x ∈ recParts P) : x.2.length < P.length := by
  obtain ⟨e, -, -, -⟩ := isV_rec h h6
  have := mem_flatR hx
  rw [e, List.length_cons]
  omega
/-- A value begins with a node that is shaped, and is no field. -/
theorem isV_head {P : List Nd} (h : IsV P) : ∃ x r, P = x :: r ∧ shapedN x = true ∧ x.op ≠ 7 := by
  have hp := h.pos
  unfold IsV at h
  rcases P with _ | ⟨x, r⟩
  · simp at hp
  refine ⟨x, r, rfl, ?_⟩
  simp only [partEnd, List.getElem?_cons_zero] at h
  by_cases hs : shapedN x = true
  · refine ⟨hs, fun h7 => ?_⟩
    rw [if_pos hs, h7, if_neg (by decide), if_neg (by decide), if_pos rfl] at h
    cases h
  · rw [if_neg hs] at h; cases h
theorem isV_op {P : List Nd} (h : IsV P) : headOp P = 1 ∨ headOp P = 2 ∨ headOp P = 3 ∨ headOp P = 4 ∨ headOp P = 5 ∨ headOp P = 6 := by
  obtain ⟨x, r, rfl, hs, h7⟩ := isV_head h
  rw [headOp_cons]
  unfold shapedN at hs
  by_cases h1 : x.op = 1
  · omega
  by_cases h2 : x.op = 2
  · omega
  by_cases h3 : x.op = 3
  · omega
  by_cases h4 : x.op = 4
  · omega
  by_cases h56 : x.op = 5 ∨ x.op = 6
  · omega
  simp [h1, h2, h3, h4, h56, h7] at hs
theorem isV_ent {P : List Nd} (h : IsV P) (h4 : headOp P = 4) : nameFault (headS P) = 0 := by
  obtain ⟨x, r, rfl, hs, h7⟩ := isV_head h
  rw [headOp_cons] at h4
  unfold shapedN at hs
  rw [if_neg (by omega), if_neg (by omega), if_neg (by omega), if_pos h4] at hs
  simp only [Bool.and_eq_true, decide_eq_true_eq] at hs
  exact hs.1.2
/-- A leaf is one node. -/
theorem isV_leaf {P : List Nd} (h : IsV P) (h5 : headOp P ≠ 5) (h6 : headOp P ≠ 6) : P.length = 1 := by
  obtain ⟨x, r, rfl, hs, h7⟩ := isV_head h
  rw [headOp_cons] at h5 h6
  unfold IsV at h
  simp only [partEnd, List.getElem?_cons_zero] at h
  rw [if_pos hs, if_neg h5, if_neg h6, if_neg h7] at h
  simpa using h.symm
theorem foldl_same {α β : Type} {f g : α → β → α} : ∀ (L : List β) (a : α), (∀ x ∈ L, ∀ a, f a x = g a x) → L.foldl f a = L.foldl g a
  | [], _, _ => rfl
  | x :: r, a, h => by
    rw [List.foldl_cons, List.foldl_cons, h x (by simp) a]
    exact foldl_same r _ fun y hy => h y (by simp [hy])
/-- The fuel is of no account. -/
theorem ownK_fuel : ∀ (m m' : Nat) (P : List Nd), IsV P → P.length < m → P.length < m' → ownK m P = ownK m' P
  | 0, _, _, _, h, _ => by omega
  | _ + 1, 0, _, _, _, h => by omega
  | m + 1, m' + 1, P, hP, h, h' => by
    have h6 := isV_op hP
    unfold ownK
    by_cases h5 : headOp P = 5
    · have : (setParts P).map (ownK m) = (setParts P).map (ownK m') := List.map_congr_left fun Q hQ => by
        have := set_smaller hP h5 hQ
        exact ownK_fuel m m' Q ((isV_set hP h5).2.2.1 Q hQ) (by omega) (by omega)
      simp [h5, this]
    · by_cases h66 : headOp P = 6
      · have : ((recParts P).map fun x => (x.1, true, ownK m x.2)) = ((recParts P).map fun x => (x.1, true, ownK m' x.2)) := List.map_congr_left fun x hx => by
          have := rec_smaller hP h66 hx
          rw [ownK_fuel m m' x.2 ((isV_rec hP h66).2.2.1 x hx).1 (by omega) (by omega)]
        simp [h66, this]
      · split
        · rfl
        · split
          · rfl
          · split
            · rfl
            · split
              · rfl
              · omega
theorem ownV_1 {P : List Nd} (h : headOp P = 1) : ownV P = .base 41 := by unfold ownV ownK; simp [h]
theorem ownV_2 {P : List Nd} (h : headOp P = 2) : ownV P = .base 42 := by unfold ownV ownK; simp [h]
theorem ownV_3 {P : List Nd} (h : headOp P = 3) : ownV P = .base 43 := by unfold ownV ownK; simp [h]
theorem ownV_4 {P : List Nd} (h : headOp P = 4) : ownV P = .ent (headS P) := by unfold ownV ownK; simp [h]
theorem ownV_5 {P : List Nd} (hP : IsV P) (h : headOp P = 5) : ownV P = .set (joinAll ((setParts P).map ownV)) := by
  have : (setParts P).map (ownK P.length) = (setParts P).map ownV := List.map_congr_left fun Q hQ => by
    have := set_smaller hP h hQ
    exact ownK_fuel _ _ Q ((isV_set hP h).2.2.1 Q hQ) this (by omega)
  unfold ownV
  rw [ownK]
  simp [h, this]; rfl
theorem ownV_6 {P : List Nd} (hP : IsV P) (h : headOp P = 6) : ownV P = .fs (ofL ((recParts P).map fun x => (x.1, true, ownV x.2))) := by
  have : ((recParts P).map fun x => (x.1, true, ownK P.length x.2)) = ((recParts P).map fun x => (x.1, true, ownV x.2)) := List.map_congr_left fun x hx => by
    have := rec_smaller hP h hx
    rw [ownK_fuel P.length (x.2.length + 1) x.2 ((isV_rec hP h).2.2.1 x hx).1 this (by omega)]
    rfl
  unfold ownV
  rw [ownK]
  simp [h, this]; rfl
/-- A proof over all values. -/
theorem val_ind (M : List Nd → Prop) (h1 : ∀ P, IsV P → headOp P ≠ 5 → headOp P ≠ 6 → M P) (h5 : ∀ P, IsV P → headOp P = 5 → (∀ Q ∈ setParts P, M Q) → M P) (h6 : ∀ P, IsV P → headOp P = 6 → (∀ x ∈ recParts P, M x.2) → M P) :
    ∀ (n : Nat) (P : List Nd), P.length ≤ n → IsV P → M P
  | 0, P, h, hP => by have := hP.pos; omega
  | n + 1, P, h, hP => by
    by_cases e5 : headOp P = 5
    · exact h5 P hP e5 fun Q hQ => val_ind M h1 h5 h6 n Q (by have := set_smaller hP e5 hQ; omega) ((isV_set hP e5).2.2.1 Q hQ)
    · by_cases e6 : headOp P = 6
      · exact h6 P hP e6 fun x hx => val_ind M h1 h5 h6 n x.2 (by have := rec_smaller hP e6 hx; omega) ((isV_rec hP e6).2.2.1 x hx).1
      · exact h1 P hP e5 e6
theorem valInd {M : List Nd → Prop} {P : List Nd} (hP : IsV P) (h1 : ∀ P, IsV P → headOp P ≠ 5 → headOp P ≠ 6 → M P) (h5 : ∀ P, IsV P → headOp P = 5 → (∀ Q ∈ setParts P, M Q) → M P) (h6 : ∀ P, IsV P → headOp P = 6 → (∀ x ∈ recParts P, M x.2) → M P) : M P :=
  val_ind M h1 h5 h6 _ P (Nat.le_refl _) hP
theorem join_all_valid : ∀ (L : List Kd) (a : Kd), a.valid → (∀ k ∈ L, k.valid) → (L.foldl joinK a).valid
  | [], _, h, _ => h
  | k :: r, a, h, h2 => join_all_valid r _ (join_valid _ a k (Nat.le_refl _) h (h2 k (by simp))) fun x hx => h2 x (by simp [hx])
theorem join_all_sz : ∀ (L : List Kd) (a : Kd), a.ok → (∀ k ∈ L, k.ok) → (L.foldl joinK a).sz ≤ a.sz + (L.map Kd.sz).sum
  | [], a, _, _ => by simp
  | k :: r, a, h, h2 => by
    have h3 := joinK_sz h (h2 k (by simp))
    have := join_all_sz r _ (join_ok _ a k (Nat.le_refl _) h (h2 k (by simp))) fun x hx => h2 x (by simp [hx])
    simp only [List.foldl_cons, List.map_cons, List.sum_cons]
    omega
theorem ofL_av : ∀ L : List Kfd, (∀ y ∈ L, nameFault y.1 = 0 ∧ y.2.2.valid) → (ofL L).av
  | [], _ => trivial
  | y :: r, h => ⟨(h y (by simp)).1, (h y (by simp)).2, ofL_av r fun x hx => h x (by simp [hx])⟩
theorem upB_pair : ∀ (L : List (ByteArray × List Nd)) (x : ByteArray), UpB x L → (∀ y ∈ L, cmpB x y.1 < 0) ∧ L.Pairwise fun a b => cmpB a.1 b.1 < 0
  | [], _, _ => ⟨fun _ h => (nomatch h), List.Pairwise.nil⟩
  | y :: r, x, h => by
    obtain ⟨h1, h2⟩ := h
    obtain ⟨h3, h4⟩ := upB_pair r y.1 h2
    refine ⟨fun z hz => ?_, List.pairwise_cons.2 ⟨h3, h4⟩⟩
    rcases List.mem_cons.1 hz with rfl | hz
    · exact h1
    · exact cmpB_cmp.lt_le h1 (by have := h3 z hz; omega)
theorem own_asc {P : List Nd} (hP : IsV P) (h : headOp P = 6) : (ofL ((recParts P).map fun x => (x.1, true, ownV x.2))).asc := by
  refine (ofL_asc _ ?_).1
  rw [List.pairwise_map]
  exact (upB_pair _ _ (isV_rec hP h).2.2.2).2
/-- It is a type. -/
theorem own_valid {P : List Nd} (hP : IsV P) : (ownV P).valid := by
  refine valInd (M := fun P => (ownV P).valid) hP ?_ ?_ ?_
  · intro P hP h5 h6
    rcases isV_op hP with h | h | h | h | h | h
    · rw [ownV_1 h]; simp [Kd.valid, baseOp]
    · rw [ownV_2 h]; simp [Kd.valid, baseOp]
    · rw [ownV_3 h]; simp [Kd.valid, baseOp]
    · rw [ownV_4 h]; exact isV_ent hP h
    · exact absurd h h5
    · exact absurd h h6
  · intro P hP h5 ih
    rw [ownV_5 hP h5]
    exact join_all_valid _ _ (by simp [Kd.valid, baseOp]) fun k hk => by
      obtain ⟨Q, hQ, rfl⟩ := List.mem_map.1 hk
      exact ih Q hQ
  · intro P hP h6 ih
    rw [ownV_6 hP h6]
    refine valid_fs.2 ⟨own_asc hP h6, ofL_av _ fun y hy => ?_⟩
    obtain ⟨x, hx, rfl⟩ := List.mem_map.1 hy
    exact ⟨((isV_rec hP h6).2.2.1 x hx).2, ih x hx⟩
theorem own_ok {P : List Nd} (hP : IsV P) : (ownV P).ok := (own_valid hP).ok
theorem sum_le {α : Type} (f g : α → Nat) : ∀ L : List α, (∀ x ∈ L, f x ≤ g x) → (L.map f).sum ≤ (L.map g).sum
  | [], _ => Nat.le_refl _
  | x :: r, h => by
    have h1 := h x (by simp)
    have h2 := sum_le f g r fun y hy => h y (by simp [hy])
    simp only [List.map_cons, List.sum_cons]
    omega
theorem sum_two {α : Type} (f : α → Nat) : ∀ L : List α, (L.map fun x => 2 * f x).sum = 2 * (L.map f).sum
  | [] => rfl
  | x :: r => by simp only [List.map_cons, List.sum_cons, sum_two f r]; omega
theorem ofL_sz : ∀ L : List Kfd, (ofL L).sz = (L.map fun y => y.2.2.sz + 1).sum
  | [] => rfl
  | y :: r => by simp only [ofL, Fl.sz, List.map_cons, List.sum_cons, ofL_sz r]; omega
theorem flatR_lenK : ∀ L : List (ByteArray × List Nd), (flatR L).length = (L.map fun x => x.2.length + 1).sum
  | [] => rfl
  | x :: r => by simp only [flatR, List.length_cons, List.length_append, List.map_cons, List.sum_cons, flatR_lenK r]; omega
/-- It is no greater than twice the value. -/
theorem own_sz {P : List Nd} (hP : IsV P) : (ownV P).sz ≤ 2 * P.length := by
  refine valInd (M := fun P => (ownV P).sz ≤ 2 * P.length) hP ?_ ?_ ?_
  · intro P hP h5 h6
    have hp := hP.pos
    rcases isV_op hP with h | h | h | h | h | h
    · rw [ownV_1 h]; simp only [Kd.sz]; omega
    · rw [ownV_2 h]; simp only [Kd.sz]; omega
    · rw [ownV_3 h]; simp only [Kd.sz]; omega
    · rw [ownV_4 h]; simp only [Kd.sz]; omega
    · exact absurd h h5
    · exact absurd h h6
  · intro P hP h5 ih
    rw [ownV_5 hP h5]
    obtain ⟨e, -, hv, -⟩ := isV_set hP h5
    have h1 := join_all_sz ((setParts P).map ownV) (.base 49) trivial fun k hk => by
      obtain ⟨Q, hQ, rfl⟩ := List.mem_map.1 hk
      exact own_ok (hv Q hQ)
    rw [List.map_map] at h1
    have h2 := sum_le (Kd.sz ∘ ownV) (fun Q => 2 * Q.length) (setParts P) fun Q hQ => ih Q hQ
    rw [sum_two] at h2
    rw [e, List.length_cons, flat_sum]
    simp only [Kd.sz, joinAll] at h1 ⊢
    rw [← e]
    omega
  · intro P hP h6 ih
    rw [ownV_6 hP h6]
    obtain ⟨e, -, hv, -⟩ := isV_rec hP h6
    have h2 := sum_le (fun x : ByteArray × List Nd => (ownV x.2).sz + 1) (fun x => 2 * (x.2.length + 1)) (recParts P) fun x hx => by have := ih x hx; omega
    rw [sum_two] at h2
    rw [e, List.length_cons, flatR_lenK]
    simp only [Kd.sz, ofL_sz, List.map_map, Function.comp_def]
    rw [← e]
    omega
end Go.Wk
namespace Go.Wk

/-- A field of the one is in the other as it must be. -/
def oneIn (g : Fl) (y : Kfd) : Bool := match g.find y.1 with | none => false | some (m', k') => (!m' || y.2.1) && belowK y.2.2 k'
theorem belowF_all (g : Fl) : ∀ f : Fl, belowF f g = f.list.all (oneIn g)
  | .nil => rfl
  | .cons s m k r => by
    rw [belowF, belowF_all g r, Fl.list, List.all_cons]
    rfl
theorem mustF_all (f : Fl) : ∀ g : Fl, mustF g f = g.list.all fun y => !y.2.1 || (f.find y.1).isSome
  | .nil => rfl
  | .cons s m k r => by
    rw [mustF, mustF_all f r, Fl.list, List.all_cons]
theorem all_take_succ {α : Type} {p : α → Bool} {L : List α} {i : Nat} (hi : i < L.length) (h : (L.take i).all p = true) (hx : p L[i] = true) : (L.take (i + 1)).all p = true := by
  rw [List.take_succ_eq_append_getElem hi, List.all_append, h, Bool.true_and, List.all_cons, hx]
  rfl
theorem all_bad {α : Type} {p : α → Bool} {L : List α} {i : Nat} (hi : i < L.length) (hx : p L[i] = false) : L.all p = false := by
  rw [List.all_eq_false]
  exact ⟨L[i], List.getElem_mem hi, by rw [hx]; simp⟩

theorem below_joinAll {c : Kd} (hc : c.ok) : ∀ (L : List Kd) (a : Kd), a.ok → (∀ k ∈ L, k.ok) → (belowK (L.foldl joinK a) c = true ↔ belowK a c = true ∧ ∀ k ∈ L, belowK k c = true)
  | [], a, _, _ => by simp
  | k :: r, a, ha, h => by
    rw [List.foldl_cons, below_joinAll hc r _ (join_ok _ a k (Nat.le_refl _) ha (h k (by simp))) (fun x hx => h x (by simp [hx])), below_join_iff ha (h k (by simp)) hc]
    constructor
    · rintro ⟨⟨h1, h2⟩, h3⟩
      refine ⟨h1, fun x hx => ?_⟩
      rcases List.mem_cons.1 hx with rfl | hx
      · exact h2
      · exact h3 x hx
    · rintro ⟨h1, h2⟩
      exact ⟨⟨h1, h2 k (by simp)⟩, fun x hx => h2 x (by simp [hx])⟩
/-- A set has a type of sets, if each part has that type. -/
theorem own_set {P : List Nd} (hP : IsV P) (h : headOp P = 5) {q : Kd} (hq : q.ok) : belowK (ownV P) (.set q) = true ↔ ∀ Q ∈ setParts P, belowK (ownV Q) q = true := by
  have hv := (isV_set hP h).2.2.1
  rw [ownV_5 hP h, below_set]
  unfold joinAll
  constructor
  · rintro (h1 | ⟨q', h1, h2⟩)
    · cases h1
    · injection h1 with h1
      subst h1
      rw [below_joinAll hq _ (.base 49) trivial (fun k hk => by obtain ⟨Q, hQ, rfl⟩ := List.mem_map.1 hk; exact own_ok (hv Q hQ))] at h2
      exact fun Q hQ => h2.2 _ (List.mem_map.2 ⟨Q, hQ, rfl⟩)
  · intro h1
    refine .inr ⟨q, rfl, ?_⟩
    rw [below_joinAll hq _ (.base 49) trivial (fun k hk => by obtain ⟨Q, hQ, rfl⟩ := List.mem_map.1 hk; exact own_ok (hv Q hQ))]
    exact ⟨none_below _ _ rfl, fun k hk => by obtain ⟨Q, hQ, rfl⟩ := List.mem_map.1 hk; exact h1 Q hQ⟩
/-- A record has a type of records, if each field is in it with its type, and what must be there is. -/
theorem own_rec {P : List Nd} (hP : IsV P) (h : headOp P = 6) {f : Fl} (hf : f.asc) : belowK (ownV P) (.fs f) = true ↔
    (∀ x ∈ recParts P, ∃ m k, f.find x.1 = some (m, k) ∧ belowK (ownV x.2) k = true) ∧ (∀ s k, f.find s = some (true, k) → ∃ x ∈ recParts P, x.1 = s) := by
  have ha := own_asc hP h
  have hm : ∀ s m k, (ofL ((recParts P).map fun x => (x.1, true, ownV x.2))).find s = some (m, k) ↔ ∃ x ∈ recParts P, x.1 = s ∧ m = true ∧ k = ownV x.2 := fun s m k => by
    rw [find_list ha, ofL_list, List.mem_map]
    constructor
    · rintro ⟨x, hx, e⟩
      simp only [Prod.mk.injEq] at e
      exact ⟨x, hx, e.1, e.2.1.symm, e.2.2.symm⟩
    · rintro ⟨x, hx, rfl, rfl, rfl⟩
      exact ⟨x, hx, rfl⟩
  rw [ownV_6 hP h, below_fs]
  constructor
  · rintro (h1 | ⟨g, h1, h2, h3⟩)
    · cases h1
    · injection h1 with h1
      subst h1
      rw [belowF_iff ha] at h2
      rw [mustF_iff hf] at h3
      refine ⟨fun x hx => ?_, fun s k hs => ?_⟩
      · obtain ⟨m', k', e1, -, e2⟩ := h2 x.1 true (ownV x.2) ((hm _ _ _).2 ⟨x, hx, rfl, rfl, rfl⟩)
        exact ⟨m', k', e1, e2⟩
      · have := h3 s k hs
        rw [Option.isSome_iff_exists] at this
        obtain ⟨⟨m, k'⟩, e⟩ := this
        obtain ⟨x, hx, e1, -, -⟩ := (hm _ _ _).1 e
        exact ⟨x, hx, e1⟩
  · rintro ⟨h1, h2⟩
    refine .inr ⟨f, rfl, (belowF_iff ha).2 fun s m k hs => ?_, (mustF_iff hf).2 fun s k hs => ?_⟩
    · obtain ⟨x, hx, rfl, rfl, rfl⟩ := (hm _ _ _).1 hs
      obtain ⟨m', k', e1, e2⟩ := h1 x hx
      exact ⟨m', k', e1, fun _ => rfl, e2⟩
    · obtain ⟨x, hx, rfl⟩ := h2 s k hs
      rw [(hm _ _ _).2 ⟨x, hx, rfl, rfl, rfl⟩]
      rfl
end Go.Wk
