/-
  Plain: the fields of a record's type as a list. No program in sight.
-/
import Derived.Test.YtocchkmhnneiiaaKindOrd
namespace Go.Wk

abbrev Kfd := ByteArray × Bool × Kd
def Fl.list : Fl → List Kfd
  | .nil => []
  | .cons s m k r => (s, m, k) :: r.list
def Fl.lenL : Fl → Nat
  | .nil => 0
  | .cons _ _ _ r => r.lenL + 1
theorem list_names {f : Fl} : ∀ x : ByteArray, f.ascFrom x → (∀ y ∈ f.list, cmpB x y.1 < 0) ∧ f.list.Pairwise fun a b => cmpB a.1 b.1 < 0 := by
  induction f using Fl.rec (motive_1 := fun _ => True) with
  | nil => intro x _; exact ⟨(fun _ hy => nomatch hy), List.Pairwise.nil⟩
  | cons s m k r _ ih =>
    intro x h
    obtain ⟨h1, h2⟩ := ih s h.2
    refine ⟨fun y hy => ?_, List.Pairwise.cons h1 h2⟩
    rcases List.mem_cons.1 hy with rfl | hy
    · exact h.1
    · exact cmpB_cmp.lt_le h.1 (by have := h1 y hy; omega)
  | _ => trivial
theorem list_asc {f : Fl} (h : f.asc) : f.list.Pairwise fun a b => cmpB a.1 b.1 < 0 := by
  cases f with
  | nil => exact List.Pairwise.nil
  | cons s m k r =>
    obtain ⟨h1, h2⟩ := list_names s h
    exact List.Pairwise.cons h1 h2
theorem find_list {f : Fl} (h : f.asc) {s : ByteArray} {m : Bool} {k : Kd} : f.find s = some (m, k) ↔ (s, m, k) ∈ f.list := by
  induction f using Fl.rec (motive_1 := fun _ => True) with
  | nil => simp [Fl.find, Fl.list]
  | cons t m' k' r _ ih =>
    have ih := ih (asc_tail h)
    simp only [Fl.find, Fl.list, List.mem_cons, Prod.mk.injEq]
    by_cases e : t = s
    · subst e
      rw [if_pos rfl]
      simp only [Option.some.injEq, Prod.mk.injEq, true_and]
      constructor
      · rintro ⟨rfl, rfl⟩; exact .inl ⟨rfl, rfl⟩
      · rintro (⟨rfl, rfl⟩ | hm)
        · exact ⟨rfl, rfl⟩
        · have := (list_names t h).1 _ hm; rw [cmpB_cmp.self] at this; omega
    · rw [if_neg e, ih]
      exact ⟨.inr, fun h => h.resolve_left (fun q => e q.1.symm)⟩
  | _ => trivial
theorem find_none {f : Fl} {s : ByteArray} : f.find s = none ↔ ∀ y ∈ f.list, y.1 ≠ s := by
  induction f using Fl.rec (motive_1 := fun _ => True) with
  | nil => simp [Fl.find, Fl.list]
  | cons t m' k' r _ ih =>
    simp only [Fl.find, Fl.list, List.mem_cons]
    by_cases e : t = s
    · subst e
      rw [if_pos rfl]
      exact ⟨fun h => (nomatch h), fun h => absurd rfl (h (t, m', k') (.inl rfl))⟩
    · rw [if_neg e, ih]
      constructor
      · rintro h y (rfl | hy)
        · exact e
        · exact h y hy
      · exact fun h y hy => h y (.inr hy)
  | _ => trivial
/-- Half-way: the names ahead of lo are below s, those from hi on are not. -/
structure Half (L : List Kfd) (s : ByteArray) (lo hi : Nat) : Prop where
  le : lo ≤ hi
  hi_ : hi ≤ L.length
  low : ∀ i (h : i < L.length), i < lo → cmpB L[i].1 s < 0
  high : ∀ i (h : i < L.length), hi ≤ i → ¬ cmpB L[i].1 s < 0
theorem Half.start (L : List Kfd) (s : ByteArray) : Half L s 0 L.length := ⟨Nat.zero_le _, Nat.le_refl _, fun i _ h => by omega, fun i h h2 => by omega⟩
theorem Half.up {L : List Kfd} {s : ByteArray} {lo hi m : Nat} (h : Half L s lo hi) (hp : L.Pairwise fun a b => cmpB a.1 b.1 < 0) (h1 : lo ≤ m) (h2 : m < hi) (hm : m < L.length) (hl : cmpB L[m].1 s < 0) : Half L s (m + 1) hi :=
  ⟨by omega, h.hi_, fun i hi' hlt => by
    rcases Nat.lt_or_ge i m with q | q
    · have := List.pairwise_iff_getElem.1 hp i m hi' hm q
      exact cmpB_cmp.lt_le this (by omega)
    · have : i = m := by omega
      subst this; exact hl, h.high⟩
theorem Half.down {L : List Kfd} {s : ByteArray} {lo hi m : Nat} (h : Half L s lo hi) (hp : L.Pairwise fun a b => cmpB a.1 b.1 < 0) (h1 : lo ≤ m) (h2 : m < hi) (hm : m < L.length) (hl : ¬ cmpB L[m].1 s < 0) : Half L s lo m :=
  ⟨h1, by omega, h.low, fun i hi' hge => by
    rcases Nat.lt_or_ge m i with q | q
    · have := List.pairwise_iff_getElem.1 hp m i hm hi' q
      intro hc
      exact hl (cmpB_cmp.lt_le this (by omega))
    · have : i = m := by omega
      subst this; exact hl⟩
theorem Half.found {L : List Kfd} {s : ByteArray} {lo : Nat} (h : Half L s lo lo) (hp : L.Pairwise fun a b => cmpB a.1 b.1 < 0) : (∀ (hl : lo < L.length), L[lo].1 = s → L[lo] ∈ L) ∧ ((∀ (hl : lo < L.length), L[lo].1 ≠ s) → ∀ y ∈ L, y.1 ≠ s) := by
  refine ⟨fun hl _ => List.getElem_mem hl, fun hno y hy e => ?_⟩
  obtain ⟨i, hi, rfl⟩ := List.getElem_of_mem hy
  rcases Nat.lt_trichotomy i lo with q | q | q
  · have := h.low i hi q; rw [e, cmpB_cmp.self] at this; omega
  · subst q; exact hno hi e
  · have h1 := List.pairwise_iff_getElem.1 hp lo i (by omega) hi q
    have h2 := h.high lo (by omega) (Nat.le_refl _)
    rw [e] at h1
    exact h2 h1
end Go.Wk
