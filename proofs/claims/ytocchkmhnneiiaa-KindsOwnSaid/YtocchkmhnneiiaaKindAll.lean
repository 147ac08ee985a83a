/-
  Plain: below, field by field; which types a value has. No program in sight.
-/
import Derived.Test.YtocchkmhnneiiaaKindOwnL
namespace Go.Wk

/-- A field of the one is in the other as it must be. -/
def oneIn (g : Fl) (y : Kfd) : Bool := match g.find y.1 with | none => false | some (m', k') => (!m' || y.2.1) && belowK y.2.2 k'
theorem belowF_all (g : Fl) : ∀ f : Fl, belowF f g = f.list.all (oneIn g)
  | .nil => rfl
  | .cons s m k r => by
    rw [belowF, belowF_all g r, Fl.list, List.all_cons]
    rfl
theorem mustF_all (f : Fl) : ∀ g : Fl, mustF g f = g.list.all fun y => !y.2.1 || (f.find y.1).isSome
  | .nil => rfl
  | .cons s m k r => by
    rw [mustF, mustF_all f r, Fl.list, List.all_cons]
theorem all_take_succ {α : Type} {p : α → Bool} {L : List α} {i : Nat} (hi : i < L.length) (h : (L.take i).all p = true) (hx : p L[i] = true) : (L.take (i + 1)).all p = true := by
  rw [List.take_succ_eq_append_getElem hi, List.all_append, h, Bool.true_and, List.all_cons, hx]
  rfl
theorem all_bad {α : Type} {p : α → Bool} {L : List α} {i : Nat} (hi : i < L.length) (hx : p L[i] = false) : L.all p = false := by
  rw [List.all_eq_false]
  exact ⟨L[i], List.getElem_mem hi, by rw [hx]; simp⟩

theorem below_joinAll {c : Kd} (hc : c.ok) : ∀ (L : List Kd) (a : Kd), a.ok → (∀ k ∈ L, k.ok) → (belowK (L.foldl joinK a) c = true ↔ belowK a c = true ∧ ∀ k ∈ L, belowK k c = true)
  | [], a, _, _ => by simp
  | k :: r, a, ha, h => by
    rw [List.foldl_cons, below_joinAll hc r _ (join_ok _ a k (Nat.le_refl _) ha (h k (by simp))) (fun x hx => h x (by simp [hx])), below_join_iff ha (h k (by simp)) hc]
    constructor
    · rintro ⟨⟨h1, h2⟩, h3⟩
      refine ⟨h1, fun x hx => ?_⟩
      rcases List.mem_cons.1 hx with rfl | hx
      · exact h2
      · exact h3 x hx
    · rintro ⟨h1, h2⟩
      exact ⟨⟨h1, h2 k (by simp)⟩, fun x hx => h2 x (by simp [hx])⟩
/-- A set has a type of sets, if each part has that type. -/
theorem own_set {P : List Nd} (hP : IsV P) (h : headOp P = 5) {q : Kd} (hq : q.ok) : belowK (ownV P) (.set q) = true ↔ ∀ Q ∈ setParts P, belowK (ownV Q) q = true := by
  have hv := (isV_set hP h).2.2.1
  rw [ownV_5 hP h, below_set]
  unfold joinAll
  constructor
  · rintro (h1 | ⟨q', h1, h2⟩)
    · cases h1
    · injection h1 with h1
      subst h1
      rw [below_joinAll hq _ (.base 49) trivial (fun k hk => by obtain ⟨Q, hQ, rfl⟩ := List.mem_map.1 hk; exact own_ok (hv Q hQ))] at h2
      exact fun Q hQ => h2.2 _ (List.mem_map.2 ⟨Q, hQ, rfl⟩)
  · intro h1
    refine .inr ⟨q, rfl, ?_⟩
    rw [below_joinAll hq _ (.base 49) trivial (fun k hk => by obtain ⟨Q, hQ, rfl⟩ := List.mem_map.1 hk; exact own_ok (hv Q hQ))]
    exact ⟨none_below _ _ rfl, fun k hk => by obtain ⟨Q, hQ, rfl⟩ := List.mem_map.1 hk; exact h1 Q hQ⟩
/-- A record has a type of records, if each field is in it with its type, and what must be there is. -/
theorem own_rec {P : List Nd} (hP : IsV P) (h : headOp P = 6) {f : Fl} (hf : f.asc) : belowK (ownV P) (.fs f) = true ↔
    (∀ x ∈ recParts P, ∃ m k, f.find x.1 = some (m, k) ∧ belowK (ownV x.2) k = true) ∧ (∀ s k, f.find s = some (true, k) → ∃ x ∈ recParts P, x.1 = s) := by
  have ha := own_asc hP h
  have hm : ∀ s m k, (ofL ((recParts P).map fun x => (x.1, true, ownV x.2))).find s = some (m, k) ↔ ∃ x ∈ recParts P, x.1 = s ∧ m = true ∧ k = ownV x.2 := fun s m k => by
    rw [find_list ha, ofL_list, List.mem_map]
    constructor
    · rintro ⟨x, hx, e⟩
      simp only [Prod.mk.injEq] at e
      exact ⟨x, hx, e.1, e.2.1.symm, e.2.2.symm⟩
    · rintro ⟨x, hx, rfl, rfl, rfl⟩
      exact ⟨x, hx, rfl⟩
  rw [ownV_6 hP h, below_fs]
  constructor
  · rintro (h1 | ⟨g, h1, h2, h3⟩)
    · cases h1
    · injection h1 with h1
      subst h1
      rw [belowF_iff ha] at h2
      rw [mustF_iff hf] at h3
      refine ⟨fun x hx => ?_, fun s k hs => ?_⟩
      · obtain ⟨m', k', e1, -, e2⟩ := h2 x.1 true (ownV x.2) ((hm _ _ _).2 ⟨x, hx, rfl, rfl, rfl⟩)
        exact ⟨m', k', e1, e2⟩
      · have := h3 s k hs
        rw [Option.isSome_iff_exists] at this
        obtain ⟨⟨m, k'⟩, e⟩ := this
        obtain ⟨x, hx, e1, -, -⟩ := (hm _ _ _).1 e
        exact ⟨x, hx, e1⟩
  · rintro ⟨h1, h2⟩
    refine .inr ⟨f, rfl, (belowF_iff ha).2 fun s m k hs => ?_, (mustF_iff hf).2 fun s k hs => ?_⟩
    · obtain ⟨x, hx, rfl, rfl, rfl⟩ := (hm _ _ _).1 hs
      obtain ⟨m', k', e1, e2⟩ := h1 x hx
      exact ⟨m', k', e1, fun _ => rfl, e2⟩
    · obtain ⟨x, hx, rfl⟩ := h2 s k hs
      rw [(hm _ _ _).2 ⟨x, hx, rfl, rfl, rfl⟩]
      rfl
end Go.Wk
