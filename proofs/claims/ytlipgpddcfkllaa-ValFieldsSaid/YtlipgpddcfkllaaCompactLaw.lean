/-
  Plain: a list of values without what is as the one before it.
-/
import Derived.Test.YtlipgpddcfkllaaSls
import Derived.Test.YtlipgpddcfkllaaSetLaw
namespace Go.Proofs.Ytlipgpddcfkllaa
open Go.RowKit Go.Wk Go.Sort

def goL (p : Sl) : List Sl → List Sl
  | [] => []
  | b :: r => if cmpNds b.P p.P = 0 then goL b r else b :: goL b r
/-- Without what is as the one before it. -/
def compactL : List Sl → List Sl
  | [] => []
  | a :: r => a :: goL a r
theorem goL_eq {V : List Sl} {p : Sl} {k : Nat} (h : k < V.length) (he : cmpNds V[k].P p.P = 0) : goL p (V.drop k) = goL V[k] (V.drop (k + 1)) := by
  rw [List.drop_eq_getElem_cons h]; simp only [goL, he, if_true]
theorem goL_ne {V : List Sl} {p : Sl} {k : Nat} (h : k < V.length) (he : cmpNds V[k].P p.P ≠ 0) : goL p (V.drop k) = V[k] :: goL V[k] (V.drop (k + 1)) := by
  rw [List.drop_eq_getElem_cons h]; simp only [goL, he, if_false]
theorem goL_end {V : List Sl} {p : Sl} {k : Nat} (h : V.length ≤ k) : goL p (V.drop k) = [] := by
  rw [List.drop_of_length_le h]; rfl
theorem compact_start {V : List Sl} (h : 0 < V.length) : compactL V = V.take 1 ++ goL V[0] (V.drop 1) := by
  rcases V with _ | ⟨a, r⟩
  · simp at h
  · rfl
theorem compact_short {V : List Sl} (h : V.length < 2) : compactL V = V := by
  rcases V with _ | ⟨a, _ | ⟨b, r⟩⟩
  · rfl
  · rfl
  · simp at h; omega
theorem goL_sub (r : List Sl) : ∀ p x, x ∈ goL p r → x ∈ r := by
  induction r with
  | nil => intro p x h; cases h
  | cons b r ih =>
    intro p x h
    simp only [goL] at h
    split at h
    · exact List.mem_cons_of_mem _ (ih _ _ h)
    · rcases List.mem_cons.1 h with rfl | h
      · simp
      · exact List.mem_cons_of_mem _ (ih _ _ h)
theorem compact_sub {V : List Sl} {x : Sl} (h : x ∈ compactL V) : x ∈ V := by
  rcases V with _ | ⟨a, r⟩
  · cases h
  · rcases List.mem_cons.1 h with rfl | h
    · simp
    · exact List.mem_cons_of_mem _ (goL_sub _ _ _ h)
theorem goL_len (r : List Sl) : ∀ p, (goL p r).length ≤ r.length := by
  induction r with
  | nil => intro p; simp [goL]
  | cons b r ih =>
    intro p
    simp only [goL]
    split
    · have := ih b; simp; omega
    · have := ih b; simp; omega
theorem compact_len (V : List Sl) : (compactL V).length ≤ V.length := by
  rcases V with _ | ⟨a, r⟩
  · simp [compactL]
  · have := goL_len r a; simp [compactL]; omega
/-- What is in order, without what is as the one before it, is the set. -/
theorem goL_up (r : List Sl) : ∀ p : Sl, (p :: r).Pairwise (fun a b => cmpNds a.P b.P ≤ 0) → Up (p.P :: (goL p r).map Sl.P) ∧ ∀ x ∈ r, x.P ∈ p.P :: (goL p r).map Sl.P := by
  induction r with
  | nil => intro p _; exact ⟨trivial, fun x hx => by cases hx⟩
  | cons b r ih =>
    intro p h
    obtain ⟨h1, h2⟩ := List.pairwise_cons.1 h
    obtain ⟨i1, i2⟩ := ih b h2
    have hle := h1 b (by simp)
    have ha := cmpNds_cmp.anti p.P b.P
    simp only [goL]
    split
    · rename_i h0
      have e := (cmpNds_cmp.zero b.P p.P).1 h0
      rw [e] at i1 i2
      refine ⟨i1, fun x hx => ?_⟩
      rcases List.mem_cons.1 hx with rfl | hx
      · rw [e]; simp
      · exact i2 x hx
    · rename_i h0
      refine ⟨⟨by omega, i1⟩, fun x hx => ?_⟩
      rcases List.mem_cons.1 hx with rfl | hx
      · simp
      · exact List.mem_cons_of_mem _ (i2 x hx)
theorem compact_set {V : List Sl} (h : V.Pairwise (fun a b => cmpNds a.P b.P ≤ 0)) : (compactL V).map Sl.P = setL (V.map Sl.P) := by
  rcases V with _ | ⟨a, r⟩
  · rfl
  obtain ⟨h1, h2⟩ := goL_up r a h
  refine (setL_of h1 fun x => ⟨fun hx => ?_, fun hx => ?_⟩).symm
  · obtain ⟨y, hy, rfl⟩ : ∃ y ∈ compactL (a :: r), y.P = x := List.mem_map.1 hx
    exact List.mem_map_of_mem (compact_sub hy)
  · obtain ⟨y, hy, rfl⟩ := List.mem_map.1 hx
    rcases List.mem_cons.1 hy with rfl | hy
    · simp
    · exact h2 y hy
end Go.Proofs.Ytlipgpddcfkllaa
