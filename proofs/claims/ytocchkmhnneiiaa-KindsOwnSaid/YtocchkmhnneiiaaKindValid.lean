/-
  Plain: what two types that may be handed in join to may be, but for its length. No program in sight.
-/
import Derived.Test.YtocchkmhnneiiaaKindLub
import Derived.Test.YtocchkmhnneiiaaKindFlat
namespace Go.Wk

/-- All names and types are as they may be. -/
def Fl.av : Fl → Prop
  | .nil => True
  | .cons s _ k r => nameFault s = 0 ∧ k.valid ∧ r.av
theorem emp_lt {s : ByteArray} (h : nameFault s = 0) : cmpB emp s < 0 := by
  have hne : s ≠ emp := fun e => by subst e; exact absurd h (by decide)
  rcases cmpB_cmp.rng emp s with e | e | e
  · omega
  · exact absurd ((cmpB_cmp.zero _ _).1 e).symm hne
  · exfalso
    unfold cmpB at e
    have : emp.data.toList = [] := rfl
    rw [this] at e
    cases hs : s.data.toList with
    | nil => exact hne (bytes_ext (by rw [hs]; rfl))
    | cons a l => rw [hs] at e; simp [Lib.compareBytes] at e
theorem validFrom_iff : ∀ (f : Fl) (x : ByteArray), f.validFrom x ↔ f.ascFrom x ∧ f.av
  | .nil, _ => by simp [Fl.validFrom, Fl.ascFrom, Fl.av]
  | .cons s m k r, x => by
    simp only [Fl.validFrom, Fl.ascFrom, Fl.av, validFrom_iff r s]
    constructor
    · rintro ⟨a, b, c, d, e⟩; exact ⟨⟨a, d⟩, b, c, e⟩
    · rintro ⟨⟨a, d⟩, b, c, e⟩; exact ⟨a, b, c, d, e⟩
theorem asc_emp : ∀ f : Fl, f.asc → f.av → f.ascFrom emp
  | .nil, _, _ => trivial
  | .cons _ _ _ _, h, hv => ⟨emp_lt hv.1, h⟩
theorem valid_fs {f : Fl} : (Kd.fs f).valid ↔ f.asc ∧ f.av := by
  simp only [Kd.valid, validFrom_iff]
  exact ⟨fun ⟨a, b⟩ => ⟨asc_tail a, b⟩, fun ⟨a, b⟩ => ⟨asc_emp f a b, b⟩⟩
theorem valid_ok : ∀ (n : Nat) (a : Kd), a.sz ≤ n → a.valid → a.ok
  | 0, a, h, _ => by cases a <;> simp [Kd.sz] at h
  | n + 1, a, h, hv => by
    cases a with
    | base x => trivial
    | ent s => trivial
    | set p => simp only [Kd.sz] at h; exact valid_ok n p (by omega) hv
    | fs f =>
      simp only [Kd.sz] at h
      obtain ⟨h1, h2⟩ := valid_fs.1 hv
      refine ⟨h1, ?_⟩
      have key : ∀ g : Fl, g.sz ≤ n → g.av → g.ok := by
        intro g hs hg
        induction g using Fl.rec (motive_1 := fun _ => True) with
        | nil => trivial
        | cons s m k r _ ih =>
          simp only [Fl.sz] at hs
          exact ⟨valid_ok n k (by omega) hg.2.1, ih (by omega) hg.2.2⟩
        | _ => trivial
      exact key f (by omega) h2
theorem Kd.valid.ok {a : Kd} (h : a.valid) : a.ok := valid_ok _ a (Nat.le_refl _) h
theorem insF_av (s : ByteArray) (m : Bool) (k : Kd) (hs : nameFault s = 0) (hk : k.valid) : ∀ f : Fl, f.av → (insF s m k f).av
  | .nil, _ => ⟨hs, hk, trivial⟩
  | .cons t m' k' r, h => by
    simp only [insF]
    split
    · exact ⟨hs, hk, h⟩
    · exact ⟨h.1, h.2.1, insF_av s m k hs hk r h.2.2⟩
theorem restF_av (f : Fl) : ∀ g : Fl, g.av → (restF g f).av
  | .nil, _ => trivial
  | .cons t m k r, h => by
    simp only [restF]
    split
    · exact restF_av f r h.2.2
    · exact ⟨h.1, h.2.1, restF_av f r h.2.2⟩
theorem find_valid {f : Fl} (h : f.av) {s : ByteArray} {m : Bool} {k : Kd} (hf : f.find s = some (m, k)) : k.valid := by
  induction f using Fl.rec (motive_1 := fun _ => True) with
  | nil => cases hf
  | cons t m' k' r _ ih =>
    simp only [Fl.find] at hf
    split at hf
    · injection hf with hf; injection hf with h1 h2; subst h2; exact h.2.1
    · exact ih h.2.2 hf
  | _ => trivial
theorem join_valid : ∀ (n : Nat) (a b : Kd), a.sz ≤ n → a.valid → b.valid → (joinK a b).valid
  | 0, a, _, h, _, _ => by cases a <;> simp [Kd.sz] at h
  | n + 1, a, b, h, ha, hb => by
    have h48 : (Kd.base 48).valid := by show baseOp 48; decide
    by_cases h1 : b = .base 48
    · rw [join_any h1]; exact h48
    by_cases h2 : b = .base 49
    · rw [join_none h2]; exact ha
    cases a with
    | base x =>
      rw [join_base h1 h2]
      split
      · exact hb
      · split
        · exact ha
        · exact h48
    | ent s =>
      rw [join_ent h1 h2]
      split
      · exact ha
      · exact h48
    | set p =>
      simp only [Kd.sz] at h
      rcases join_set (p := p) h1 h2 with ⟨q, rfl, e⟩ | ⟨-, e⟩
      · rw [e]; exact join_valid n p q (by omega) ha hb
      · rw [e]; exact h48
    | fs f =>
      simp only [Kd.sz] at h
      rcases join_fs (f := f) h1 h2 with ⟨g, rfl, e⟩ | ⟨-, e⟩
      · rw [e]
        obtain ⟨fa, fv⟩ := valid_fs.1 ha
        obtain ⟨ga, gv⟩ := valid_fs.1 hb
        refine valid_fs.2 ⟨join_asc fa ga, ?_⟩
        have key : ∀ (f' acc : Fl), f'.sz ≤ n → f'.av → acc.av → (joinF f' g acc).av := by
          intro f' acc hs ho hacc
          induction f' using Fl.rec (motive_1 := fun _ => True) with
          | nil => simpa [joinF] using hacc
          | cons s m k r _ ih =>
            simp only [Fl.sz] at hs
            have ih := ih (by omega) ho.2.2
            simp only [joinF]
            rcases hg : g.find s with _ | ⟨m', k'⟩
            · exact insF_av _ _ _ ho.1 ho.2.1 _ ih
            · exact insF_av _ _ _ ho.1 (join_valid n k k' (by omega) ho.2.1 (find_valid gv hg)) _ ih
          | _ => trivial
        exact key f _ (by omega) fv (restF_av f g gv)
      · rw [e]; exact h48
end Go.Wk
