/-
  Plain: the least type above two. No program in sight.
-/
import Derived.Test.YtocchkmhnneiiaaKindOrd
namespace Go.Wk

/-- Fields, and one more in its place. -/
def insF (s : ByteArray) (m : Bool) (k : Kd) : Fl → Fl
  | .nil => .cons s m k .nil
  | .cons t m' k' r => if cmpB s t < 0 then .cons s m k (.cons t m' k' r) else .cons t m' k' (insF s m k r)
/-- Those of g that f has not. -/
def restF : Fl → Fl → Fl
  | .nil, _ => .nil
  | .cons s _ k r, f => if (f.find s).isSome then restF r f else .cons s false k (restF r f)
mutual
/-- The least above two. -/
def joinK : Kd → Kd → Kd
  | .base x, b => if x = 49 then b else if isAny b then b else if isNone b then .base x else if x = 48 then .base 48 else (match b with | .base y => if x = y then .base x else .base 48 | _ => .base 48)
  | .ent s, b => if isAny b then b else if isNone b then .ent s else (match b with | .ent t => if s = t then .ent s else .base 48 | _ => .base 48)
  | .set p, b => if isAny b then b else if isNone b then .set p else (match b with | .set q => .set (joinK p q) | _ => .base 48)
  | .fs f, b => if isAny b then b else if isNone b then .fs f else (match b with | .fs g => .fs (joinF f g (restF g f)) | _ => .base 48)
def joinF : Fl → Fl → Fl → Fl
  | .nil, _, acc => acc
  | .cons s m k r, g, acc => match g.find s with
    | none => insF s false k (joinF r g acc)
    | some (m', k') => insF s (m && m') (joinK k k') (joinF r g acc)
end
theorem insF_other (s : ByteArray) (m : Bool) (k : Kd) {t : ByteArray} (h : s ≠ t) : ∀ f : Fl, (insF s m k f).find t = f.find t
  | .nil => by simp [insF, Fl.find, h]
  | .cons u m' k' r => by
    simp only [insF]
    split
    · simp [Fl.find, h]
    · simp only [Fl.find, insF_other s m k h r]
theorem insF_same (s : ByteArray) (m : Bool) (k : Kd) : ∀ f : Fl, f.find s = none → (insF s m k f).find s = some (m, k)
  | .nil, _ => by simp [insF, Fl.find]
  | .cons u m' k' r, h => by
    simp only [Fl.find] at h
    simp only [insF]
    split
    · simp [Fl.find]
    · by_cases e : u = s
      · rw [if_pos e] at h; cases h
      · rw [if_neg e] at h
        simp only [Fl.find, if_neg e]
        exact insF_same s m k r h
theorem insF_asc (s : ByteArray) (m : Bool) (k : Kd) : ∀ (f : Fl) (x : ByteArray), f.ascFrom x → cmpB x s < 0 → f.find s = none → (insF s m k f).ascFrom x
  | .nil, _, _, h, _ => ⟨h, trivial⟩
  | .cons u m' k' r, x, h1, h2, h3 => by
    simp only [Fl.find] at h3
    simp only [insF]
    split
    · rename_i hlt; exact ⟨h2, hlt, h1.2⟩
    · rename_i hlt
      by_cases e : u = s
      · rw [if_pos e] at h3; cases h3
      · rw [if_neg e] at h3
        refine ⟨h1.1, insF_asc s m k r u h1.2 ?_ h3⟩
        have a := cmpB_cmp.anti s u
        have z : cmpB s u ≠ 0 := fun q => e ((cmpB_cmp.zero _ _).1 q).symm
        omega
theorem insF_asc0 (s : ByteArray) (m : Bool) (k : Kd) (f : Fl) (h : f.asc) (hn : f.find s = none) : (insF s m k f).asc := by
  cases f with
  | nil => exact trivial
  | cons u m' k' r =>
    simp only [Fl.find] at hn
    simp only [insF]
    split
    · rename_i hlt; exact ⟨hlt, h⟩
    · rename_i hlt
      by_cases e : u = s
      · rw [if_pos e] at hn; cases hn
      · rw [if_neg e] at hn
        refine insF_asc s m k r u h ?_ hn
        have a := cmpB_cmp.anti s u
        have z : cmpB s u ≠ 0 := fun q => e ((cmpB_cmp.zero _ _).1 q).symm
        omega
theorem insF_ok (s : ByteArray) (m : Bool) (k : Kd) (hk : k.ok) : ∀ f : Fl, f.ok → (insF s m k f).ok
  | .nil, _ => ⟨hk, trivial⟩
  | .cons u m' k' r, h => by
    simp only [insF]
    split
    · exact ⟨hk, h⟩
    · exact ⟨h.1, insF_ok s m k hk r h.2⟩
theorem asc_weak {x y : ByteArray} {f : Fl} (h : f.ascFrom y) (hl : cmpB x y < 0) : f.ascFrom x := by
  cases f with
  | nil => trivial
  | cons s m k r => exact ⟨cmpB_cmp.lt_le hl (by have := h.1; omega), h.2⟩
theorem restF_find (f : Fl) (s : ByteArray) : ∀ g : Fl, (restF g f).find s = if (f.find s).isSome = true then none else (g.find s).map fun v => (false, v.2)
  | .nil => by simp [restF, Fl.find]
  | .cons t m k r => by
    simp only [restF]
    split
    · rename_i ht
      rw [restF_find f s r]
      simp only [Fl.find]
      by_cases e : t = s
      · subst e; rw [if_pos ht, if_pos ht]
      · rw [if_neg e]
    · rename_i ht
      simp only [Fl.find]
      by_cases e : t = s
      · subst e; rw [if_pos rfl, if_neg ht, if_pos rfl]; rfl
      · rw [if_neg e, if_neg e, restF_find f s r]
theorem restF_asc (f : Fl) : ∀ (g : Fl) (x : ByteArray), g.ascFrom x → (restF g f).ascFrom x
  | .nil, _, _ => trivial
  | .cons t m k r, x, h => by
    simp only [restF]
    split
    · exact restF_asc f r x (asc_weak h.2 h.1)
    · exact ⟨h.1, restF_asc f r t h.2⟩
theorem restF_asc0 (f g : Fl) (h : g.asc) : (restF g f).asc := by
  cases g with
  | nil => trivial
  | cons t m k r =>
    simp only [restF]
    split
    · exact asc_tail (restF_asc f r t h)
    · exact restF_asc f r t h
theorem restF_ok (f : Fl) : ∀ g : Fl, g.ok → (restF g f).ok
  | .nil, _ => trivial
  | .cons t m k r, h => by
    simp only [restF]
    split
    · exact restF_ok f r h.2
    · exact ⟨h.1, restF_ok f r h.2⟩
theorem tail_none {s : ByteArray} {r : Fl} (h : r.ascFrom s) : r.find s = none := by
  rcases hf : r.find s with _ | v
  · rfl
  · have := find_lt h hf; rw [cmpB_cmp.self] at this; omega
theorem joinF_find (g : Fl) (s : ByteArray) : ∀ (f acc : Fl), f.asc → (∀ t, (f.find t).isSome = true → acc.find t = none) →
    (joinF f g acc).find s = match f.find s with | none => acc.find s | some (m, k) => (match g.find s with | none => some (false, k) | some (m', k') => some (m && m', joinK k k'))
  | .nil, acc, _, _ => by simp [joinF, Fl.find]
  | .cons t m k r, acc, h1, h2 => by
    have ih := joinF_find g s r acc (asc_tail h1) (fun u hu => h2 u (by simp only [Fl.find]; split <;> simp_all))
    have ht : r.find t = none := tail_none h1
    have hat : acc.find t = none := h2 t (by simp [Fl.find])
    by_cases e : t = s
    · subst e
      rw [ht] at ih
      have ih' : (joinF r g acc).find t = none := ih.trans hat
      simp only [joinF, Fl.find, if_pos]
      rcases hg : g.find t with _ | ⟨m', k'⟩
      · exact insF_same t false k _ ih'
      · exact insF_same t (m && m') (joinK k k') _ ih'
    · simp only [joinF, Fl.find, if_neg e]
      rw [← ih]
      rcases hg : g.find t with _ | ⟨m', k'⟩
      · exact insF_other t false k e _
      · exact insF_other t _ _ e _
theorem joinF_asc (g : Fl) : ∀ (f acc : Fl), f.asc → acc.asc → (∀ t, (f.find t).isSome = true → acc.find t = none) → (joinF f g acc).asc
  | .nil, _, _, h, _ => by simpa [joinF] using h
  | .cons t m k r, acc, h1, h0, h2 => by
    have hsub : ∀ u, (r.find u).isSome = true → acc.find u = none := fun u hu => h2 u (by simp only [Fl.find]; split <;> simp_all)
    have ih := joinF_asc g r acc (asc_tail h1) h0 hsub
    have hf := joinF_find g t r acc (asc_tail h1) hsub
    rw [tail_none h1] at hf
    have hn : (joinF r g acc).find t = none := hf.trans (h2 t (by simp [Fl.find]))
    simp only [joinF]
    rcases hg : g.find t with _ | ⟨m', k'⟩
    · exact insF_asc0 t false k _ ih hn
    · exact insF_asc0 t _ _ _ ih hn
/-- What the least above two records' types has. -/
def jn (a b : Option (Bool × Kd)) : Option (Bool × Kd) := match a, b with
  | some (m, k), some (m', k') => some (m && m', joinK k k')
  | some (_, k), none => some (false, k)
  | none, some (_, k') => some (false, k')
  | none, none => none
theorem join_find {f g : Fl} (hf : f.asc) (s : ByteArray) : (joinF f g (restF g f)).find s = jn (f.find s) (g.find s) := by
  have h2 : ∀ t, (f.find t).isSome = true → (restF g f).find t = none := fun t ht => by rw [restF_find, if_pos ht]
  rw [joinF_find g s f _ hf h2]
  rcases h : f.find s with _ | ⟨m, k⟩
  · rw [restF_find, h]
    rcases hg : g.find s with _ | ⟨m', k'⟩ <;> simp [jn]
  · rcases hg : g.find s with _ | ⟨m', k'⟩ <;> simp [jn]
theorem join_asc {f g : Fl} (hf : f.asc) (hg : g.asc) : (joinF f g (restF g f)).asc :=
  joinF_asc g f _ hf (restF_asc0 f g hg) fun t ht => by rw [restF_find, if_pos ht]
end Go.Wk
